/- Part 17 of the proof: general lemmas, contracts of functions, walks. No condition of its own. -/
import Derived.Test.YtcbaokflimdjnaaProg
import Derived.Deep.AppendSrc
import Derived.Deep.Upon
import Derived.Laws.IdiomStrings
import Derived.Lib.SlBytesConst
import Derived.Below
import Derived.Deep.Draws
import Derived.Deep.AppendLies
import Derived.Maps.AppendAt
import Derived.OwnWalk
import Derived.Laws.BytesArg
import Derived.Laws.MakeOwn
import Derived.Laws.OwnMore
import Derived.Deep.OwnRows
import Derived.Tactics
import Derived.Lib.ConvBytes
import Derived.Laws.Slices
import Derived.WalkKit
import Derived.KernelRfl
import Derived.RowKit3
import Derived.Deep.LoopGhost
import Derived.Deep.QuietTactic
import Derived.BigQuiet
import Derived.WideLaws
import Derived.Deep.DeepCutAuto
import Derived.Deep.CutBlock
import Derived.Deep.RegionHeld3
import Derived.Laws.Rows
import Derived.Lib.AppendStr
import Derived.ArgAppend
import Derived.Laws.IdiomCopy
import Derived.OrdersHeld
import Derived.Laws.BitsLemmas
import Derived.RowKit
import Derived.Test.YtcbaokflimdjnaaBi16
import Derived.Test.YtcbaokflimdjnaaBi1
import Derived.Test.YtcbaokflimdjnaaBi13
import Derived.Test.YtcbaokflimdjnaaBi7
import Derived.Test.YtcbaokflimdjnaaBi3
import Derived.Test.YtcbaokflimdjnaaBi4
import Derived.Test.YtcbaokflimdjnaaBi5
import Derived.Test.YtcbaokflimdjnaaBi6
import Derived.Test.YtcbaokflimdjnaaBi8
import Derived.Test.YtcbaokflimdjnaaBi9
import Derived.Test.YtcbaokflimdjnaaBi10
import Derived.Test.YtcbaokflimdjnaaBi11
import Derived.Test.YtcbaokflimdjnaaBi12
import Derived.Test.YtcbaokflimdjnaaBi2
section
namespace Go.Proofs.Ytcbaokflimdjnaa
open Go.RowKit Go.Proofs.YtcbaokflimdjnaaW.PrintWords Go.Proofs.YtcbaokflimdjnaaW.PrintMore
set_option linter.unusedVariables false
structure Ins where
  op : Int
  a : Int
  b : Int
  deriving DecidableEq
def zIns : Ins := ⟨0, 0, 0⟩
def kIns : Kd Ins := Kd.iso (Kd.pair (Kd.int .i64) (Kd.pair (Kd.int .i64) (Kd.int .i64))) (fun x : Ins => (x.op, x.a, x.b))
theorem kIns_open {w : World} {x : Ins} {cs : List Value} (h : kIns.K w x cs) : cs = [.int .i64 x.op, .int .i64 x.a, .int .i64 x.b] := by
  obtain ⟨_, _, rfl, rfl, ⟨_, _, rfl, rfl, rfl⟩⟩ := h
  exact rfl
theorem kIns_openM {w : World} {base : Nat} {ok : Nat → Prop} {x : Ins} {cs : List Value} (h : kIns.M w base ok x cs) : cs = [.int .i64 x.op, .int .i64 x.a, .int .i64 x.b] := by
  obtain ⟨_, _, rfl, rfl, ⟨_, _, rfl, rfl, rfl⟩⟩ := h
  exact rfl
theorem kIns_mkM (w : World) (base : Nat) (ok : Nat → Prop) (x : Ins) : kIns.M w base ok x [.int .i64 x.op, .int .i64 x.a, .int .i64 x.b] := ⟨_, _, rfl, rfl, ⟨_, _, rfl, rfl, rfl⟩⟩
theorem Ins_at {w : World} {A : Option Addr} {l : List Ins} (h : kIns.C w A l.length l) (j : Nat) (hj : j < l.length) : ∃ a, A = some a ∧ kIns.K w (el zIns l j) [.int .i64 (el zIns l j).op, .int .i64 (el zIns l j).a, .int .i64 (el zIns l j).b] ∧ w.cell? (a.add (j * 3)) = some (.int .i64 (el zIns l j).op) ∧ w.cell? ⟨(a.add (j * 3)).block, (a.add (j * 3)).off + 1, none⟩ = some (.int .i64 (el zIns l j).a) ∧ w.cell? ⟨(a.add (j * 3)).block, (a.add (j * 3)).off + 2, none⟩ = some (.int .i64 (el zIns l j).b) := by
  obtain ⟨a, c, e, hK, hc0⟩ := kd_at zIns h j hj
  have hc : ∀ i u, c[i]? = some u → w.cell? (a.add (j * 3 + i)) = some u := hc0
  have e2 := kIns_open hK
  subst e2
  exact ⟨a, e, hK, hc 0 _ rfl, by rw [← add_field _ _ 1 (by omega)]; exact hc 1 _ rfl, by rw [← add_field _ _ 2 (by omega)]; exact hc 2 _ rfl⟩
structure Cap where
  reg : Bool
  index : Int
  deriving DecidableEq
def zCap : Cap := ⟨false, 0⟩
def kCap : Kd Cap := Kd.iso (Kd.pair Kd.bool (Kd.int .i64)) (fun x : Cap => (x.reg, x.index))
theorem kCap_open {w : World} {x : Cap} {cs : List Value} (h : kCap.K w x cs) : cs = [.bool x.reg, .int .i64 x.index] := by
  obtain ⟨_, _, rfl, rfl, rfl⟩ := h
  exact rfl
theorem kCap_openM {w : World} {base : Nat} {ok : Nat → Prop} {x : Cap} {cs : List Value} (h : kCap.M w base ok x cs) : cs = [.bool x.reg, .int .i64 x.index] := by
  obtain ⟨_, _, rfl, rfl, rfl⟩ := h
  exact rfl
theorem kCap_mkM (w : World) (base : Nat) (ok : Nat → Prop) (x : Cap) : kCap.M w base ok x [.bool x.reg, .int .i64 x.index] := ⟨_, _, rfl, rfl, rfl⟩
theorem Cap_at {w : World} {A : Option Addr} {l : List Cap} (h : kCap.C w A l.length l) (j : Nat) (hj : j < l.length) : ∃ a, A = some a ∧ kCap.K w (el zCap l j) [.bool (el zCap l j).reg, .int .i64 (el zCap l j).index] ∧ w.cell? (a.add (j * 2)) = some (.bool (el zCap l j).reg) ∧ w.cell? ⟨(a.add (j * 2)).block, (a.add (j * 2)).off + 1, none⟩ = some (.int .i64 (el zCap l j).index) := by
  obtain ⟨a, c, e, hK, hc0⟩ := kd_at zCap h j hj
  have hc : ∀ i u, c[i]? = some u → w.cell? (a.add (j * 2 + i)) = some u := hc0
  have e2 := kCap_open hK
  subst e2
  exact ⟨a, e, hK, hc 0 _ rfl, by rw [← add_field _ _ 1 (by omega)]; exact hc 1 _ rfl⟩
structure Handler where
  from_ : Int
  to_ : Int
  target : Int
  deriving DecidableEq
def zHandler : Handler := ⟨0, 0, 0⟩
def kHandler : Kd Handler := Kd.iso (Kd.pair (Kd.int .i64) (Kd.pair (Kd.int .i64) (Kd.int .i64))) (fun x : Handler => (x.from_, x.to_, x.target))
theorem kHandler_open {w : World} {x : Handler} {cs : List Value} (h : kHandler.K w x cs) : cs = [.int .i64 x.from_, .int .i64 x.to_, .int .i64 x.target] := by
  obtain ⟨_, _, rfl, rfl, ⟨_, _, rfl, rfl, rfl⟩⟩ := h
  exact rfl
theorem kHandler_openM {w : World} {base : Nat} {ok : Nat → Prop} {x : Handler} {cs : List Value} (h : kHandler.M w base ok x cs) : cs = [.int .i64 x.from_, .int .i64 x.to_, .int .i64 x.target] := by
  obtain ⟨_, _, rfl, rfl, ⟨_, _, rfl, rfl, rfl⟩⟩ := h
  exact rfl
theorem kHandler_mkM (w : World) (base : Nat) (ok : Nat → Prop) (x : Handler) : kHandler.M w base ok x [.int .i64 x.from_, .int .i64 x.to_, .int .i64 x.target] := ⟨_, _, rfl, rfl, ⟨_, _, rfl, rfl, rfl⟩⟩
theorem Handler_at {w : World} {A : Option Addr} {l : List Handler} (h : kHandler.C w A l.length l) (j : Nat) (hj : j < l.length) : ∃ a, A = some a ∧ kHandler.K w (el zHandler l j) [.int .i64 (el zHandler l j).from_, .int .i64 (el zHandler l j).to_, .int .i64 (el zHandler l j).target] ∧ w.cell? (a.add (j * 3)) = some (.int .i64 (el zHandler l j).from_) ∧ w.cell? ⟨(a.add (j * 3)).block, (a.add (j * 3)).off + 1, none⟩ = some (.int .i64 (el zHandler l j).to_) ∧ w.cell? ⟨(a.add (j * 3)).block, (a.add (j * 3)).off + 2, none⟩ = some (.int .i64 (el zHandler l j).target) := by
  obtain ⟨a, c, e, hK, hc0⟩ := kd_at zHandler h j hj
  have hc : ∀ i u, c[i]? = some u → w.cell? (a.add (j * 3 + i)) = some u := hc0
  have e2 := kHandler_open hK
  subst e2
  exact ⟨a, e, hK, hc 0 _ rfl, by rw [← add_field _ _ 1 (by omega)]; exact hc 1 _ rfl, by rw [← add_field _ _ 2 (by omega)]; exact hc 2 _ rfl⟩
structure Const where
  kind : Int
  num : Int
  text : ByteArray
  deriving DecidableEq
def zConst : Const := ⟨0, 0, (⟨#[]⟩ : ByteArray)⟩
def kConst : Kd Const := Kd.iso (Kd.pair (Kd.int .i64) (Kd.pair (Kd.int .u64) Kd.string)) (fun x : Const => (x.kind, x.num, x.text))
theorem kConst_open {w : World} {x : Const} {cs : List Value} (h : kConst.K w x cs) : cs = [.int .i64 x.kind, .int .u64 x.num, .string x.text] := by
  obtain ⟨_, _, rfl, rfl, ⟨_, _, rfl, rfl, rfl⟩⟩ := h
  exact rfl
theorem kConst_openM {w : World} {base : Nat} {ok : Nat → Prop} {x : Const} {cs : List Value} (h : kConst.M w base ok x cs) : cs = [.int .i64 x.kind, .int .u64 x.num, .string x.text] := by
  obtain ⟨_, _, rfl, rfl, ⟨_, _, rfl, rfl, rfl⟩⟩ := h
  exact rfl
theorem kConst_mkM (w : World) (base : Nat) (ok : Nat → Prop) (x : Const) : kConst.M w base ok x [.int .i64 x.kind, .int .u64 x.num, .string x.text] := ⟨_, _, rfl, rfl, ⟨_, _, rfl, rfl, rfl⟩⟩
theorem Const_at {w : World} {A : Option Addr} {l : List Const} (h : kConst.C w A l.length l) (j : Nat) (hj : j < l.length) : ∃ a, A = some a ∧ kConst.K w (el zConst l j) [.int .i64 (el zConst l j).kind, .int .u64 (el zConst l j).num, .string (el zConst l j).text] ∧ w.cell? (a.add (j * 3)) = some (.int .i64 (el zConst l j).kind) ∧ w.cell? ⟨(a.add (j * 3)).block, (a.add (j * 3)).off + 1, none⟩ = some (.int .u64 (el zConst l j).num) ∧ w.cell? ⟨(a.add (j * 3)).block, (a.add (j * 3)).off + 2, none⟩ = some (.string (el zConst l j).text) := by
  obtain ⟨a, c, e, hK, hc0⟩ := kd_at zConst h j hj
  have hc : ∀ i u, c[i]? = some u → w.cell? (a.add (j * 3 + i)) = some u := hc0
  have e2 := kConst_open hK
  subst e2
  exact ⟨a, e, hK, hc 0 _ rfl, by rw [← add_field _ _ 1 (by omega)]; exact hc 1 _ rfl, by rw [← add_field _ _ 2 (by omega)]; exact hc 2 _ rfl⟩
structure Func where
  params : Int
  regs : Int
  caps : List Cap
  code : List Ins
  handlers : List Handler
  deriving DecidableEq
def zFunc : Func := ⟨0, 0, [], [], []⟩
def kFuncL : Kd Func := Kd.iso (Kd.pair (Kd.int .i64) (Kd.pair (Kd.int .i64) (Kd.pair (Kd.slice 197 kCap) (Kd.pair (Kd.slice 199 kIns) (Kd.slice 201 kHandler))))) (fun x : Func => (x.params, x.regs, x.caps, x.code, x.handlers))
theorem kFuncL_open {w : World} {x : Func} {cs : List Value} (h : kFuncL.K w x cs) : ∃ A2 c2 A3 c3 A4 c4, cs = [.int .i64 x.params, .int .i64 x.regs, .slice A2 x.caps.length c2, .slice A3 x.code.length c3, .slice A4 x.handlers.length c4] ∧ x.caps.length ≤ c2 ∧ kCap.C w A2 x.caps.length x.caps ∧ x.code.length ≤ c3 ∧ kIns.C w A3 x.code.length x.code ∧ x.handlers.length ≤ c4 ∧ kHandler.C w A4 x.handlers.length x.handlers := by
  obtain ⟨_, _, rfl, rfl, ⟨_, _, rfl, rfl, ⟨_, _, rfl, ⟨A2, c2, rfl, l2, g2⟩, ⟨_, _, rfl, ⟨A3, c3, rfl, l3, g3⟩, ⟨A4, c4, rfl, l4, g4⟩⟩⟩⟩⟩ := h
  exact ⟨A2, c2, A3, c3, A4, c4, rfl, l2, g2, l3, g3, l4, g4⟩
theorem FuncL_at {w : World} {A : Option Addr} {l : List Func} (h : kFuncL.C w A l.length l) (j : Nat) (hj : j < l.length) : ∃ a A2 c2 A3 c3 A4 c4, A = some a ∧ kFuncL.K w (el zFunc l j) [.int .i64 (el zFunc l j).params, .int .i64 (el zFunc l j).regs, .slice A2 (el zFunc l j).caps.length c2, .slice A3 (el zFunc l j).code.length c3, .slice A4 (el zFunc l j).handlers.length c4] ∧ w.cell? (a.add (j * 5)) = some (.int .i64 (el zFunc l j).params) ∧ w.cell? ⟨(a.add (j * 5)).block, (a.add (j * 5)).off + 1, none⟩ = some (.int .i64 (el zFunc l j).regs) ∧ w.cell? ⟨(a.add (j * 5)).block, (a.add (j * 5)).off + 2, none⟩ = some (.slice A2 (el zFunc l j).caps.length c2) ∧ w.cell? ⟨(a.add (j * 5)).block, (a.add (j * 5)).off + 3, none⟩ = some (.slice A3 (el zFunc l j).code.length c3) ∧ w.cell? ⟨(a.add (j * 5)).block, (a.add (j * 5)).off + 4, none⟩ = some (.slice A4 (el zFunc l j).handlers.length c4) := by
  obtain ⟨a, c, e, hK, hc0⟩ := kd_at zFunc h j hj
  have hc : ∀ i u, c[i]? = some u → w.cell? (a.add (j * 5 + i)) = some u := hc0
  obtain ⟨A2, c2, A3, c3, A4, c4, rfl, l2, g2, l3, g3, l4, g4⟩ := kFuncL_open hK
  exact ⟨a, A2, c2, A3, c3, A4, c4, e, hK, hc 0 _ rfl, by rw [← add_field _ _ 1 (by omega)]; exact hc 1 _ rfl, by rw [← add_field _ _ 2 (by omega)]; exact hc 2 _ rfl, by rw [← add_field _ _ 3 (by omega)]; exact hc 3 _ rfl, by rw [← add_field _ _ 4 (by omega)]; exact hc 4 _ rfl⟩
def kFuncI : Kd Func := Kd.iso (Kd.pair (Kd.int .i64) (Kd.pair (Kd.int .i64) (Kd.pair (Kd.slice 105 kCap) (Kd.pair (Kd.slice 76 kIns) (Kd.slice 107 kHandler))))) (fun x : Func => (x.params, x.regs, x.caps, x.code, x.handlers))
theorem kFuncI_open {w : World} {x : Func} {cs : List Value} (h : kFuncI.K w x cs) : ∃ A2 c2 A3 c3 A4 c4, cs = [.int .i64 x.params, .int .i64 x.regs, .slice A2 x.caps.length c2, .slice A3 x.code.length c3, .slice A4 x.handlers.length c4] ∧ x.caps.length ≤ c2 ∧ kCap.C w A2 x.caps.length x.caps ∧ x.code.length ≤ c3 ∧ kIns.C w A3 x.code.length x.code ∧ x.handlers.length ≤ c4 ∧ kHandler.C w A4 x.handlers.length x.handlers := by
  obtain ⟨_, _, rfl, rfl, ⟨_, _, rfl, rfl, ⟨_, _, rfl, ⟨A2, c2, rfl, l2, g2⟩, ⟨_, _, rfl, ⟨A3, c3, rfl, l3, g3⟩, ⟨A4, c4, rfl, l4, g4⟩⟩⟩⟩⟩ := h
  exact ⟨A2, c2, A3, c3, A4, c4, rfl, l2, g2, l3, g3, l4, g4⟩
theorem kFuncI_openM {w : World} {base : Nat} {ok : Nat → Prop} {x : Func} {cs : List Value} (h : kFuncI.M w base ok x cs) : ∃ v2 v3 v4, cs = [.int .i64 x.params, .int .i64 x.regs, v2, v3, v4] ∧ kCap.R 105 w base ok v2 x.caps ∧ kIns.R 76 w base ok v3 x.code ∧ kHandler.R 107 w base ok v4 x.handlers := by
  obtain ⟨_, _, rfl, rfl, ⟨_, _, rfl, rfl, ⟨_, _, rfl, ⟨v2, rfl, g2⟩, ⟨_, _, rfl, ⟨v3, rfl, g3⟩, ⟨v4, rfl, g4⟩⟩⟩⟩⟩ := h
  exact ⟨v2, v3, v4, rfl, g2, g3, g4⟩
theorem kFuncI_mkM (w : World) (base : Nat) (ok : Nat → Prop) (x : Func) {v2 : Value} (g2 : kCap.R 105 w base ok v2 x.caps) {v3 : Value} (g3 : kIns.R 76 w base ok v3 x.code) {v4 : Value} (g4 : kHandler.R 107 w base ok v4 x.handlers) : kFuncI.M w base ok x [.int .i64 x.params, .int .i64 x.regs, v2, v3, v4] := ⟨_, _, rfl, rfl, ⟨_, _, rfl, rfl, ⟨_, _, rfl, ⟨_, rfl, g2⟩, ⟨_, _, rfl, ⟨_, rfl, g3⟩, ⟨_, rfl, g4⟩⟩⟩⟩⟩
theorem FuncI_at {w : World} {A : Option Addr} {l : List Func} (h : kFuncI.C w A l.length l) (j : Nat) (hj : j < l.length) : ∃ a A2 c2 A3 c3 A4 c4, A = some a ∧ kFuncI.K w (el zFunc l j) [.int .i64 (el zFunc l j).params, .int .i64 (el zFunc l j).regs, .slice A2 (el zFunc l j).caps.length c2, .slice A3 (el zFunc l j).code.length c3, .slice A4 (el zFunc l j).handlers.length c4] ∧ w.cell? (a.add (j * 5)) = some (.int .i64 (el zFunc l j).params) ∧ w.cell? ⟨(a.add (j * 5)).block, (a.add (j * 5)).off + 1, none⟩ = some (.int .i64 (el zFunc l j).regs) ∧ w.cell? ⟨(a.add (j * 5)).block, (a.add (j * 5)).off + 2, none⟩ = some (.slice A2 (el zFunc l j).caps.length c2) ∧ w.cell? ⟨(a.add (j * 5)).block, (a.add (j * 5)).off + 3, none⟩ = some (.slice A3 (el zFunc l j).code.length c3) ∧ w.cell? ⟨(a.add (j * 5)).block, (a.add (j * 5)).off + 4, none⟩ = some (.slice A4 (el zFunc l j).handlers.length c4) := by
  obtain ⟨a, c, e, hK, hc0⟩ := kd_at zFunc h j hj
  have hc : ∀ i u, c[i]? = some u → w.cell? (a.add (j * 5 + i)) = some u := hc0
  obtain ⟨A2, c2, A3, c3, A4, c4, rfl, l2, g2, l3, g3, l4, g4⟩ := kFuncI_open hK
  exact ⟨a, A2, c2, A3, c3, A4, c4, e, hK, hc 0 _ rfl, by rw [← add_field _ _ 1 (by omega)]; exact hc 1 _ rfl, by rw [← add_field _ _ 2 (by omega)]; exact hc 2 _ rfl, by rw [← add_field _ _ 3 (by omega)]; exact hc 3 _ rfl, by rw [← add_field _ _ 4 (by omega)]; exact hc 4 _ rfl⟩
structure Image where
  funcs : List Func
  consts : List Const
  deriving DecidableEq
def kImageL : Kd Image := Kd.iso (Kd.pair (Kd.slice 129 kFuncL) (Kd.slice 131 kConst)) (fun x : Image => (x.funcs, x.consts))
theorem kImageL_open {w : World} {x : Image} {cs : List Value} (h : kImageL.K w x cs) : ∃ A0 c0 A1 c1, cs = [.slice A0 x.funcs.length c0, .slice A1 x.consts.length c1] ∧ x.funcs.length ≤ c0 ∧ kFuncL.C w A0 x.funcs.length x.funcs ∧ x.consts.length ≤ c1 ∧ kConst.C w A1 x.consts.length x.consts := by
  obtain ⟨_, _, rfl, ⟨A0, c0, rfl, l0, g0⟩, ⟨A1, c1, rfl, l1, g1⟩⟩ := h
  exact ⟨A0, c0, A1, c1, rfl, l0, g0, l1, g1⟩
theorem kImageL_mk (w : World) (x : Image) {A0 : Option Addr} {c0 : Nat} (l0 : x.funcs.length ≤ c0) (g0 : kFuncL.C w A0 x.funcs.length x.funcs) {A1 : Option Addr} {c1 : Nat} (l1 : x.consts.length ≤ c1) (g1 : kConst.C w A1 x.consts.length x.consts) : kImageL.K w x [.slice A0 x.funcs.length c0, .slice A1 x.consts.length c1] := ⟨_, _, rfl, ⟨_, _, rfl, l0, g0⟩, ⟨_, _, rfl, l1, g1⟩⟩
def kImageI : Kd Image := Kd.iso (Kd.pair (Kd.slice 73 kFuncI) (Kd.slice 100 kConst)) (fun x : Image => (x.funcs, x.consts))
theorem kImageI_open {w : World} {x : Image} {cs : List Value} (h : kImageI.K w x cs) : ∃ A0 c0 A1 c1, cs = [.slice A0 x.funcs.length c0, .slice A1 x.consts.length c1] ∧ x.funcs.length ≤ c0 ∧ kFuncI.C w A0 x.funcs.length x.funcs ∧ x.consts.length ≤ c1 ∧ kConst.C w A1 x.consts.length x.consts := by
  obtain ⟨_, _, rfl, ⟨A0, c0, rfl, l0, g0⟩, ⟨A1, c1, rfl, l1, g1⟩⟩ := h
  exact ⟨A0, c0, A1, c1, rfl, l0, g0, l1, g1⟩
theorem kImageI_openM {w : World} {base : Nat} {ok : Nat → Prop} {x : Image} {cs : List Value} (h : kImageI.M w base ok x cs) : ∃ v0 v1, cs = [v0, v1] ∧ kFuncI.R 73 w base ok v0 x.funcs ∧ kConst.R 100 w base ok v1 x.consts := by
  obtain ⟨_, _, rfl, ⟨v0, rfl, g0⟩, ⟨v1, rfl, g1⟩⟩ := h
  exact ⟨v0, v1, rfl, g0, g1⟩
theorem kImageI_mkM (w : World) (base : Nat) (ok : Nat → Prop) (x : Image) {v0 : Value} (g0 : kFuncI.R 73 w base ok v0 x.funcs) {v1 : Value} (g1 : kConst.R 100 w base ok v1 x.consts) : kImageI.M w base ok x [v0, v1] := ⟨_, _, rfl, ⟨_, rfl, g0⟩, ⟨_, rfl, g1⟩⟩
end Go.Proofs.Ytcbaokflimdjnaa
end
section
namespace Go.Proofs.Ytcbaokflimdjnaa.Law
open Go.RowKit Go.Proofs.YtcbaokflimdjnaaW.PrintWords Go.Proofs.YtcbaokflimdjnaaW.PrintMore
set_option linter.unusedVariables false
theorem bytes_ext {a b : ByteArray} (h : a.toList = b.toList) : a = b := by
  have e : ∀ x : ByteArray, x.toList = x.data.toList := fun x => ByteArray.toList_eq x
  rw [e, e] at h
  cases a
  cases b
  congr
  exact Array.ext' h
/-- A kind's reading, behind a draw. -/
theorem Kd.K_drew0 {α : Type} {d : Kd α} {w : World} {x : α} {cs : List Value} (h : d.K w x cs) : d.K w.drew x cs := d.K_below (below_drew1 (Below.refl _ _)) h
/-- From w on only new memory was written; the boxes of the list hold what it says. -/
structure At (w W : World) (L : List (Nat × Array Value × TypeId)) : Prop where
  below : Below w.heap.size w W
  box : ∀ b ∈ L, W.heap[b.1]? = some (.cells b.2.1 b.2.2 (0, 0))
theorem At.step {w W W2 : World} {L : List (Nat × Array Value × TypeId)} (h : At w W L) (hb : Below W.heap.size W W2) : At w W2 L := ⟨below_step h.below hb, fun b hm => blk_below (h.box b hm) hb⟩
theorem At.drew {w W : World} {L : List (Nat × Array Value × TypeId)} (h : At w W L) : At w W.drew L := ⟨below_drew1 h.below, fun b hm => h.box b hm⟩
theorem At.start (w : World) : At w w [] := ⟨Below.refl _ _, fun b hm => by cases hm⟩
theorem At.alloc {w W : World} {L : List (Nat × Array Value × TypeId)} (h : At w W L) (cs : Array Value) (t : TypeId) : At w (W.alloc (.cells cs t)) ((W.heap.size, cs, t) :: L) := by
  refine ⟨below_alloc h.below _, fun b hm => ?_⟩
  rcases List.mem_cons.1 hm with rfl | hm
  · exact blk_new W _
  · exact blk_alloc (h.box b hm) _
theorem At.cell {w W : World} {L : List (Nat × Array Value × TypeId)} (h : At w W L) {g : Nat} {cs : Array Value} {t : TypeId} (hm : (g, cs, t) ∈ L) : ∀ o, W.cell? ⟨g, o, none⟩ = cs[o]? := fun o => blk_cell (h.box _ hm) o
theorem At.cell0 {w W : World} {L : List (Nat × Array Value × TypeId)} {g : Nat} {cs : Array Value} {t : TypeId} (h : At w W ((g, cs, t) :: L)) : ∀ o, W.cell? ⟨g, o, none⟩ = cs[o]? := h.cell (t := t) (by simp)
theorem At.cell1 {w W : World} {L : List (Nat × Array Value × TypeId)} {b0 : Nat × Array Value × TypeId} {g : Nat} {cs : Array Value} {t : TypeId} (h : At w W (b0 :: (g, cs, t) :: L)) : ∀ o, W.cell? ⟨g, o, none⟩ = cs[o]? := h.cell (t := t) (by simp)
theorem At.free {w W : World} {L : List (Nat × Array Value × TypeId)} (h : At w W L) {g : Nat} {cs : Array Value} {t : TypeId} (hm : (g, cs, t) ∈ L) : ∀ o, W.frozen? ⟨g, o, none⟩ = false := fun o => blk_frozen (h.box _ hm) o
theorem At.reads {α : Type} {d : Kd α} {w W : World} {L : List (Nat × Array Value × TypeId)} {A : Option Addr} {n : Nat} {xs : List α} (h : At w W L) (hr : d.C w A n xs) : d.C W A n xs := Kd.C_below hr h.below
theorem At.mono {w W : World} {L L' : List (Nat × Array Value × TypeId)} (h : At w W L) (hs : ∀ b ∈ L', b ∈ L) : At w W L' := ⟨h.below, fun b hm => h.box b (hs b hm)⟩
end Go.Proofs.Ytcbaokflimdjnaa.Law
end
section
namespace Go.Proofs.Ytcbaokflimdjnaa
open Go.RowKit Go.Proofs.YtcbaokflimdjnaaW.PrintWords Go.Proofs.YtcbaokflimdjnaaW.PrintMore Go.Proofs.Ytcbaokflimdjnaa.QFnExactVerify
set_option linter.unusedVariables false
set_option linter.unusedSimpArgs false
set_option autoImplicit false
theorem C_map {α β : Type} {d : Kd α} {e : Kd β} (f : α → β) (hsz : d.sz = e.sz) (h : ∀ w x cs, d.K w x cs → e.K w (f x) cs) {w : World} {A : Option Addr} {l : List α} (hc : d.C w A l.length l) : e.C w A (l.map f).length (l.map f) := by
  refine ⟨rfl, by rw [List.length_map]; exact hc.2.1, fun hn => ?_⟩
  obtain ⟨ad, e1, hh⟩ := hc.2.2 (by rw [List.length_map] at hn; exact hn)
  refine ⟨ad, e1, fun j p hp => ?_⟩
  rw [List.getElem?_map] at hp
  cases hq : l[j]? with
  | none => rw [hq] at hp; cases hp
  | some q =>
    rw [hq] at hp
    obtain rfl : f q = p := by simpa using hp
    obtain ⟨c, h1, h2, h3⟩ := hh j q hq
    exact ⟨c, by rw [h1, hsz], h _ _ _ h2, by rw [← hsz]; exact h3⟩
def sCap (x : Cap) : S105 := ⟨x.reg, x.index⟩
def sIns (x : Ins) : S76 := ⟨x.op, x.a, x.b⟩
def sHandler (x : Handler) : S107 := ⟨x.from_, x.to_, x.target⟩
def sConst (x : Const) : S100 := ⟨x.kind, x.num, x.text⟩
def sFunc (x : Func) : S73 := ⟨x.params, x.regs, x.caps.map sCap, x.code.map sIns, x.handlers.map sHandler⟩
theorem sCap_K (w : World) (x : Cap) (cs : List Value) (h : kCap.K w x cs) : k105.K w (sCap x) cs := by
  have e := kCap_open h
  subst e
  exact k105_mk w (sCap x)
theorem sIns_K (w : World) (x : Ins) (cs : List Value) (h : kIns.K w x cs) : k76.K w (sIns x) cs := by
  have e := kIns_open h
  subst e
  exact k76_mk w (sIns x)
theorem sHandler_K (w : World) (x : Handler) (cs : List Value) (h : kHandler.K w x cs) : k107.K w (sHandler x) cs := by
  have e := kHandler_open h
  subst e
  exact k107_mk w (sHandler x)
theorem sConst_K (w : World) (x : Const) (cs : List Value) (h : kConst.K w x cs) : k100.K w (sConst x) cs := by
  have e := kConst_open h
  subst e
  exact k100_mk w (sConst x)
theorem sFunc_K (w : World) (x : Func) (cs : List Value) (h : kFuncI.K w x cs) : k73.K w (sFunc x) cs := by
  obtain ⟨A2, c2, A3, c3, A4, c4, rfl, l2, g2, l3, g3, l4, g4⟩ := kFuncI_open h
  have e2 : (sFunc x).f2.length = x.caps.length := List.length_map _
  have e3 : (sFunc x).f3.length = x.code.length := List.length_map _
  have e4 : (sFunc x).f4.length = x.handlers.length := List.length_map _
  have k := k73_mk w (sFunc x) (A2 := A2) (c2 := c2) (by rw [e2]; exact l2) (C_map sCap rfl sCap_K g2) (A3 := A3) (c3 := c3) (by rw [e3]; exact l3) (C_map sIns rfl sIns_K g3) (A4 := A4) (c4 := c4) (by rw [e4]; exact l4) (C_map sHandler rfl sHandler_K g4)
  rw [e2, e3, e4] at k
  exact k
/-- Of an image as read. -/
def imgB (x : Image) : Bool := Img.imageB (x.funcs.map sFunc) (x.consts.map sConst)
theorem num_map {x : Image} (hn : ∀ y ∈ x.consts, 0 ≤ y.num ∧ y.num < 18446744073709551616) : ∀ y ∈ x.consts.map sConst, 0 ≤ y.f1 ∧ y.f1 < 18446744073709551616 := by
  intro y hy
  obtain ⟨z, hz, rfl⟩ := List.mem_map.1 hy
  exact hn z hz
theorem cImageOkS (x : Image) (A0 : Option Addr) (c0 : Nat) (A1 : Option Addr) (c1 : Nat) (w : World) (l0 : x.funcs.length ≤ c0) (g0 : kFuncI.C w A0 x.funcs.length x.funcs) (l1 : x.consts.length ≤ c1) (g1 : kConst.C w A1 x.consts.length x.consts) (hn : ∀ y ∈ x.consts, 0 ≤ y.num ∧ y.num < 18446744073709551616) :
    Calls Try.prog 52 #[.agg #[.slice A0 x.funcs.length c0, .slice A1 x.consts.length c1]] w fun e w' => e = .returned (.bool (imgB x)) ∧ Below w.heap.size w w' := by
  have C := spec_ImageOk.calls 700 A0 c0 (x.funcs.map sFunc) A1 c1 (x.consts.map sConst) (imgB x) w (C_map sFunc rfl sFunc_K g0) (by rw [List.length_map]; exact l0) (C_map sConst rfl sConst_K g1) (by rw [List.length_map]; exact l1) (Img.spec_image _ _ (num_map hn) (Nat.le_refl _))
  rw [List.length_map, List.length_map] at C
  exact C
theorem cImageOkI (x : Image) (A0 : Option Addr) (c0 : Nat) (A1 : Option Addr) (c1 : Nat) (w : World) (l0 : x.funcs.length ≤ c0) (g0 : kFuncI.C w A0 x.funcs.length x.funcs) (l1 : x.consts.length ≤ c1) (g1 : kConst.C w A1 x.consts.length x.consts) (hn : ∀ y ∈ x.consts, 0 ≤ y.num ∧ y.num < 18446744073709551616) :
    Calls Try.prog 59 #[.agg #[.slice A0 x.funcs.length c0, .slice A1 x.consts.length c1]] w fun e w' => e = .returned (.bool (imgB x)) ∧ Below w.heap.size w w' := by
  have C := impl_ImageOk.calls 700 A0 c0 (x.funcs.map sFunc) A1 c1 (x.consts.map sConst) (imgB x) w (C_map sFunc rfl sFunc_K g0) (by rw [List.length_map]; exact l0) (C_map sConst rfl sConst_K g1) (by rw [List.length_map]; exact l1) (Img.impl_image _ _ (num_map hn) (Nat.le_refl _))
  rw [List.length_map, List.length_map] at C
  exact C
/-- What a right image's functions are. -/
theorem img_len {x : Image} (h : imgB x = true) : 1 ≤ x.funcs.length ∧ x.funcs.length ≤ 16 ∧ x.consts.length ≤ 40 := by
  unfold imgB Img.imageB Img.inB at h
  simp only [List.length_map, Bool.and_eq_true, decide_eq_true_eq] at h
  omega
theorem img_func {x : Image} (h : imgB x = true) {f : Func} (hf : f ∈ x.funcs) : Img.fB (sFunc f) = true := by
  unfold imgB Img.imageB at h
  simp only [Bool.and_eq_true, List.all_eq_true] at h
  exact h.2.2.2.1 _ (List.mem_map_of_mem hf)
end Go.Proofs.Ytcbaokflimdjnaa
end
section
namespace Go.Proofs.Ytcbaokflimdjnaa.Law
open Go.RowKit Go.Proofs.YtcbaokflimdjnaaW.PrintWords Go.Proofs.YtcbaokflimdjnaaW.PrintMore
set_option linter.unusedVariables false
/-- A holding: the blocks lo .. hi, and what the world says of them. -/
structure Hold where
  lo : Nat
  hi : Nat
  P : World → Prop
  mv : ∀ {W W2 : World}, (∀ k, lo ≤ k → k < hi → k < W.heap.size → W2.heap[k]? = W.heap[k]?) → P W → P W2
def Hold.box (g : Nat) (cs : Array Value) (t : TypeId) : Hold := ⟨g, g + 1, fun W => W.heap[g]? = some (.cells cs t (0, 0)), fun hm h => (hm g (Nat.le_refl _) (Nat.lt_succ_self _) (blk_lt h)).trans h⟩
def Hold.val {α : Type} (d : Kd α) (lo hi : Nat) (x : α) (cs : List Value) : Hold := ⟨lo, hi, fun W => d.M W lo (fun k => lo ≤ k ∧ k < hi) x cs, fun hm h => Kd.M_step h (fun k hk hlt => hm k hk.1 hk.2 hlt)⟩
structure Mem (w W : World) (H : List Hold) : Prop where
  below : Below w.heap.size w W
  says : ∀ h ∈ H, h.P W
  fits : ∀ h ∈ H, w.heap.size ≤ h.lo ∧ h.hi ≤ W.heap.size
  apart : H.Pairwise (fun a b => b.hi ≤ a.lo ∨ a.hi ≤ b.lo)
theorem Mem.hide {w W : World} {H : List Hold} (h : Aside0 (Mem w W H)) : ∃ L, Aside0 (L = H) ∧ Aside0 (Mem w W L) := ⟨H, ⟨rfl⟩, h⟩
theorem Mem.start (w : World) : Mem w w [] := ⟨Below.refl _ _, fun _ h => absurd h List.not_mem_nil, fun _ h => absurd h List.not_mem_nil, List.Pairwise.nil⟩
theorem Mem.step {w W W2 : World} {H : List Hold} (h : Mem w W H) (hb : Below W.heap.size W W2) : Mem w W2 H :=
  ⟨below_step h.below hb, fun x hx => x.mv (fun k _ _ hlt => hb.block k hlt) (h.says x hx), fun x hx => ⟨(h.fits x hx).1, Nat.le_trans (h.fits x hx).2 hb.size⟩, h.apart⟩
theorem Mem.drew {w W : World} {H : List Hold} (h : Mem w W H) : Mem w W.drew H := h.step (below_drew1 (Below.refl _ _))
theorem Mem.alloc {w W : World} {H : List Hold} (h : Mem w W H) (cs : Array Value) (t : TypeId) : Mem w (W.alloc (.cells cs t)) (Hold.box W.heap.size cs t :: H) := by
  have h2 := h.step (below_alloc (Below.refl W.heap.size W) (.cells cs t))
  refine ⟨h2.below, fun x hx => ?_, fun x hx => ?_, List.Pairwise.cons (fun b hb => .inl (h.fits b hb).2) h.apart⟩
  · rcases List.mem_cons.1 hx with rfl | hx
    · exact blk_new W _
    · exact h2.says x hx
  · rcases List.mem_cons.1 hx with rfl | hx
    · exact ⟨h.below.size, by simp [Hold.box]⟩
    · exact h2.fits x hx
theorem Mem.push {α : Type} {d : Kd α} {w W W2 : World} {H : List Hold} {x : α} {cs : List Value} (h : Mem w W H) (hb : Below W.heap.size W W2) (hm : d.M W2 W.heap.size (fun _ => True) x cs) : Mem w W2 (Hold.val d W.heap.size W2.heap.size x cs :: H) := by
  have h2 := h.step hb
  refine ⟨h2.below, fun y hy => ?_, fun y hy => ?_, List.Pairwise.cons (fun b hb => .inl (h.fits b hb).2) h.apart⟩
  · rcases List.mem_cons.1 hy with rfl | hy
    · exact d.M_mono (fun k hk => ⟨hk.2.1, hk.2.2.1⟩) (d.M_bound hm)
    · exact h2.says y hy
  · rcases List.mem_cons.1 hy with rfl | hy
    · exact ⟨h.below.size, Nat.le_refl _⟩
    · exact h2.fits y hy
theorem Mem.box {w W : World} {H : List Hold} {g : Nat} {cs : Array Value} {t : TypeId} (h : Mem w W H) (hm : Hold.box g cs t ∈ H) : ∀ o, W.cell? ⟨g, o, none⟩ = cs[o]? := fun o => blk_cell (h.says _ hm) o
theorem Mem.val {α : Type} {d : Kd α} {w W : World} {H : List Hold} {lo hi : Nat} {x : α} {cs : List Value} (h : Mem w W H) (hm : Hold.val d lo hi x cs ∈ H) : d.M W lo (fun k => lo ≤ k ∧ k < hi) x cs := h.says _ hm
theorem Mem.read {α : Type} {d : Kd α} {w W : World} {H : List Hold} {lo hi : Nat} {x : α} {cs : List Value} (h : Mem w W H) (hm : Hold.val d lo hi x cs ∈ H) : d.K W x cs := d.K_of_M (h.val hm)
theorem Mem.old {α : Type} {d : Kd α} {w W : World} {H : List Hold} {x : α} {cs : List Value} (h : Mem w W H) (hk : d.K w x cs) : d.K W x cs := d.K_below h.below hk
theorem Mem.drop {w W : World} {h0 : Hold} {H : List Hold} (h : Mem w W (h0 :: H)) : Mem w W H := ⟨h.below, fun x hx => h.says x (.tail _ hx), fun x hx => h.fits x (.tail _ hx), (List.pairwise_cons.1 h.apart).2⟩
theorem Mem.allocAt {w W : World} {H : List Hold} (h : Mem w W H) {g : Nat} (hg : g = W.heap.size) (cs : Array Value) (t : TypeId) : Mem w (W.alloc (.cells cs t)) (Hold.box g cs t :: H) := hg ▸ h.alloc cs t
theorem Mem.pushR {α : Type} {d : Kd α} {e : Nat} {w W W2 : World} {H : List Hold} {l : List α} {v : Value} (h : Mem w W H) (hb : Below W.heap.size W W2) (hr : d.R e W2 W.heap.size (fun _ => True) v l) : Mem w W2 (Hold.val (Kd.slice e d) W.heap.size W2.heap.size l [v] :: H) := h.push hb ⟨v, rfl, hr⟩
theorem Mem.row {α : Type} {d : Kd α} {e : Nat} {w W : World} {H : List Hold} {lo hi : Nat} {l : List α} {v : Value} (h : Mem w W H) (hm : Hold.val (Kd.slice e d) lo hi l [v] ∈ H) : d.R e W lo (fun k => lo ≤ k ∧ k < hi) v l := by
  obtain ⟨v2, he, hr⟩ := h.val hm
  cases he
  exact hr
theorem Mem.rowT {α : Type} {d : Kd α} {e : Nat} {w W : World} {H : List Hold} {lo hi : Nat} {l : List α} {v : Value} (h : Mem w W H) (hm : Hold.val (Kd.slice e d) lo hi l [v] ∈ H) : d.R e W w.heap.size (fun _ => True) v l := Kd.R_mono (Kd.R_lower (h.row hm) (h.fits _ hm).1) (fun _ _ => trivial)
theorem Mem.free {w W : World} {H : List Hold} {g : Nat} {cs : Array Value} {t : TypeId} (h : Mem w W H) (hm : Hold.box g cs t ∈ H) : ∀ o, W.frozen? ⟨g, o, none⟩ = false := fun o => blk_frozen (h.says _ hm) o
theorem Mem.blk {w W : World} {H : List Hold} {g : Nat} {cs : Array Value} {t : TypeId} (h : Mem w W H) (hm : Hold.box g cs t ∈ H) : W.heap[g]? = some (.cells cs t (0, 0)) := h.says _ hm
theorem Mem.mid {w W : World} {A B : List Hold} {b : Hold} (h : Mem w W (A ++ b :: B)) : Mem w W (A ++ B) := by
  have hs : (A ++ B).Sublist (A ++ b :: B) := (List.Sublist.refl A).append (List.sublist_cons_self b B)
  exact ⟨h.below, fun x hx => h.says x (hs.mem hx), fun x hx => h.fits x (hs.mem hx), h.apart.sublist hs⟩
theorem Mem.swap2 {w W : World} {a b : Hold} {H : List Hold} (h : Mem w W (a :: b :: H)) : Mem w W (b :: a :: H) := by
  have hp := h.apart
  rw [List.pairwise_cons, List.pairwise_cons] at hp
  refine ⟨h.below, fun x hx => h.says x ((List.Perm.swap a b H).mem_iff.1 hx), fun x hx => h.fits x ((List.Perm.swap a b H).mem_iff.1 hx), ?_⟩
  rw [List.pairwise_cons, List.pairwise_cons]
  refine ⟨fun z hz => ?_, fun z hz => hp.1 z (.tail _ hz), hp.2.2⟩
  rcases List.mem_cons.1 hz with rfl | hz
  · exact (hp.1 b (.head _)).symm
  · exact hp.2.1 z hz
/-- One holding's blocks alone are written. -/
theorem Mem.swap {w W W2 : World} {A B : List Hold} {a b : Hold} (h : Mem w W (A ++ a :: B)) (hl : b.lo = a.lo) (hh : b.hi = a.hi) (hb : Below w.heap.size w W2) (hk : Kept W W2 (fun k => a.lo ≤ k ∧ k < a.hi)) (hv : b.P W2) : Mem w W2 (A ++ b :: B) := by
  have ha := h.apart
  rw [List.pairwise_append] at ha
  obtain ⟨hA, hB, hAB⟩ := ha
  rw [List.pairwise_cons] at hB
  have key : ∀ z : Hold, (z ∈ A ∨ z ∈ B) → z.P W → z.P W2 := by
    intro z hz hp
    refine z.mv (fun k h1 h2 h3 => hk.2 k h3 ?_) hp
    rintro ⟨h4, h5⟩
    rcases hz with hz | hz
    · have := hAB z hz a List.mem_cons_self
      omega
    · have := hB.1 z hz
      omega
  refine ⟨hb, fun z hz => ?_, fun z hz => ?_, ?_⟩
  · rcases List.mem_append.1 hz with hz | hz
    · exact key z (.inl hz) (h.says z (List.mem_append_left _ hz))
    · rcases List.mem_cons.1 hz with rfl | hz
      · exact hv
      · exact key z (.inr hz) (h.says z (List.mem_append_right _ (List.mem_cons_of_mem _ hz)))
  · have hs := hk.1
    rcases List.mem_append.1 hz with hz | hz
    · have := h.fits z (List.mem_append_left _ hz)
      exact ⟨this.1, Nat.le_trans this.2 hs⟩
    · rcases List.mem_cons.1 hz with rfl | hz
      · have := h.fits a (List.mem_append_right _ List.mem_cons_self)
        rw [hl, hh]
        exact ⟨this.1, Nat.le_trans this.2 hs⟩
      · have := h.fits z (List.mem_append_right _ (List.mem_cons_of_mem _ hz))
        exact ⟨this.1, Nat.le_trans this.2 hs⟩
  · rw [List.pairwise_append]
    refine ⟨hA, List.pairwise_cons.2 ⟨fun z hz => by rw [hl, hh]; exact hB.1 z hz, hB.2⟩, fun c hc b' hb' => ?_⟩
    rcases List.mem_cons.1 hb' with rfl | hb'
    · rw [hh, hl]
      exact hAB c hc a List.mem_cons_self
    · exact hAB c hc b' (List.mem_cons_of_mem _ hb')
/-- A box's cell is written. -/
theorem Mem.set {w W : World} {A B : List Hold} {g : Nat} {cs : Array Value} {t : TypeId} (h : Mem w W (A ++ Hold.box g cs t :: B)) (j : Nat) (u : Value) {cs' : Array Value} (e : cs.setIfInBounds j u = cs') : Mem w (W.setCell ⟨g, j, none⟩ u) (A ++ Hold.box g cs' t :: B) := by
  have hm : Hold.box g cs t ∈ A ++ Hold.box g cs t :: B := List.mem_append_right _ List.mem_cons_self
  refine Mem.swap (a := Hold.box g cs t) (b := Hold.box g cs' t) h rfl rfl (below_set h.below (h.fits _ hm).1) ?_ (blk_put (h.says _ hm) j u e)
  exact Kept.setCell (Kept.refl _ _) (.inl ⟨Nat.le_refl _, Nat.lt_succ_self _⟩) u
end Go.Proofs.Ytcbaokflimdjnaa.Law
end
section
namespace Go.Proofs.Ytcbaokflimdjnaa.Law
open Go.RowKit Go.Proofs.YtcbaokflimdjnaaW.PrintWords Go.Proofs.YtcbaokflimdjnaaW.PrintMore
set_option linter.unusedVariables false
set_option linter.unusedSimpArgs false
def Bts (W : World) (g c : Nat) (l : List Int) : Prop :=
  l.length ≤ c ∧ (∀ j, j < c → (W.cell? ⟨g, j, none⟩).isSome = true ∧ W.frozen? ⟨g, j, none⟩ = false) ∧ ∀ j u, (nums .u8 l)[j]? = some u → W.cell? ⟨g, j, none⟩ = some u
theorem Bts.move {W W2 : World} {g c : Nat} {l : List Int} (h : Bts W g c l) (hm : g < W.heap.size → W2.heap[g]? = W.heap[g]?) : Bts W2 g c l := by
  obtain ⟨h1, h2, h3⟩ := h
  refine ⟨h1, fun j hj => ?_, fun j u hu => ?_⟩
  · obtain ⟨h4, h5⟩ := h2 j hj
    obtain ⟨v, hv⟩ := Option.isSome_iff_exists.1 h4
    have hb := hm (World.block_lt_of_cell? W _ hv)
    exact ⟨(World.cell?_of_block (a := ⟨g, j, none⟩) hb).symm ▸ h4, (World.frozen?_of_block (a := ⟨g, j, none⟩) hb).trans h5⟩
  · have hv := h3 j u hu
    exact (World.cell?_of_block (a := ⟨g, j, none⟩) (hm (World.block_lt_of_cell? W _ hv))).trans hv
def Hold.bts (g c : Nat) (l : List Int) : Hold := ⟨g, g + 1, fun W => Bts W g c l, fun hm h => h.move (fun hlt => hm g (Nat.le_refl _) (Nat.lt_succ_self _) hlt)⟩
theorem Mem.bts {w W : World} {H : List Hold} {g c : Nat} {l : List Int} (h : Mem w W H) (hm : Hold.bts g c l ∈ H) : Bts W g c l := h.says _ hm
theorem size_cells (g : Nat) : ∀ (vs : List Value) (o : Nat) (W : World), (W.setCells g o vs).heap.size = W.heap.size
  | [], _, _ => rfl
  | v :: vs, o, W => (size_cells g vs (o + 1) _).trans (by simp)
theorem below_cells {w0 : World} {g : Nat} (hg : w0.heap.size ≤ g) : ∀ (vs : List Value) (o : Nat) (W : World), Below w0.heap.size w0 W → Below w0.heap.size w0 (W.setCells g o vs)
  | [], _, _, h => h
  | v :: vs, o, W, h => below_cells hg vs (o + 1) _ (below_set h hg)
theorem addr_at (g j : Nat) : (⟨g, 0, none⟩ : Addr).add j = ⟨g, j, none⟩ := by rw [Addr.add_lit, Nat.zero_add]
theorem Bts.reads {W : World} {g c : Nat} {l : List Int} (h : Bts W g c l) (hl : l.length ≤ 9223372036854775807) : (Kd.int .u8).C W (some ⟨g, 0, none⟩) l.length l := by
  refine Kd.C_of_reads (enc := Value.int .u8) (d := (0 : Int)) ⟨rfl, hl, fun _ => ⟨_, rfl, fun j hj => ?_⟩⟩
  rw [addr_at]
  refine h.2.2 j _ ?_
  rw [nums, List.getElem?_map, List.getElem?_eq_getElem hj, List.getD_eq_getElem?_getD, List.getElem?_eq_getElem hj]
  rfl
theorem nums_bytes (s : ByteArray) : nums .u8 (bytesOf s) = byteCells s := by
  unfold nums bytesOf byteCells
  rw [List.map_map]
  rfl
theorem Src.text {P : Program} {W : World} {tx : TypeId} (hk : P.underlying tx = some .string) (s : ByteArray) : Src P 1 tx (.string s) s.size (nums .u8 (bytesOf s)) W := by
  rw [nums_bytes]
  exact Src.ofString W hk s
theorem one_nums (l : List Int) : ∀ u ∈ nums .u8 l, u.oneCell' = true := fun u hu => by
  obtain ⟨x, _, rfl⟩ := List.mem_map.1 hu
  rfl
theorem Src.bts {P : Program} {W : World} {tx e : TypeId} (hk : P.underlying tx = some (.slice e)) {g c c2 : Nat} {l : List Int} (h : Bts W g c l) : Src P 1 tx (.slice (some ⟨g, 0, none⟩) l.length c2) l.length (nums .u8 l) W :=
  Src.ofSlice W hk ⟨g, 0, none⟩ l.length c2 _ (by rw [nums_length, Nat.mul_one]) (fun j u hu => by rw [addr_at]; exact h.2.2 j u hu) (one_nums l)
theorem Src.byte {P : Program} {W : World} {tx e t : TypeId} (hk : P.underlying tx = some (.slice e)) {g : Nat} {x : Int} (h : W.heap[g]? = some (.cells #[.int .u8 x] t (0, 0))) : Src P 1 tx (.slice (some ⟨g, 0, none⟩) 1 1) 1 (nums .u8 [x]) W :=
  Src.ofSlice W hk ⟨g, 0, none⟩ 1 1 _ (by rw [nums_length, Nat.mul_one]; rfl) (fun j u hu => by
    rw [addr_at, blk_cell h]
    cases j with
    | zero => exact hu
    | succ j => cases hu) (one_nums _)
theorem run_bts {P : Program} (W : World) (t tx ty e : TypeId) (ht : P.underlying t = some (.slice e)) (hinfo : (P.info? e).map (fun i => (i.zero, i.size, i.bytes)) = some (some (.int .u8 0), 1, 1))
    {g c : Nat} {l : List Int} (hB : Bts W g c l) (x : Value) (n : Nat) (news : List Int) (hs : Src P 1 tx x n (nums .u8 news) W) (hl : l.length + news.length ≤ 140737488355328) :
    ∃ g2 c2 W2, (Builtin.append_ #[t, tx] ty #[.slice (some ⟨g, 0, none⟩) l.length c, x]).run P W = .ok (.slice (some ⟨g2, 0, none⟩) (l ++ news).length c2) W2 ∧ Bts W2 g2 c2 (l ++ news) ∧
      (g2 = g ∨ (W.heap.size ≤ g2 ∧ g2 < W2.heap.size)) ∧ W.heap.size ≤ W2.heap.size ∧ (∀ k, k < W.heap.size → k ≠ g → W2.heap[k]? = W.heap[k]?) ∧ (∀ w0 : World, w0.heap.size ≤ g → Below w0.heap.size w0 W → Below w0.heap.size w0 W2) := by
  obtain ⟨i, hi, hzz⟩ := Option.map_eq_some_iff.1 hinfo
  simp only [Prod.mk.injEq] at hzz
  obtain ⟨hz0, hz1, hz2⟩ := hzz
  have hn : news.length = n := by have := hs.newsLen; rw [nums_length, Nat.mul_one] at this; exact this
  have hs' : Src P i.size tx x n (nums .u8 news) W := by rw [hz1]; exact hs
  obtain ⟨h1, h2, h3⟩ := hB
  have hlen : (l ++ news).length = l.length + n := by rw [List.length_append, hn]
  by_cases hroom : l.length + n ≤ c
  · have hr := run_append_room_src W t tx ty e i ht hi g 0 l.length c x n (nums .u8 news) hs' hroom
      (fun j hj => by
        rw [nums_length] at hj
        rw [hz1, Nat.zero_add, Nat.mul_one]
        exact (h2 _ (by omega)).1) (fun j hj => by
        rw [nums_length] at hj
        rw [hz1, Nat.zero_add, Nat.mul_one]
        exact (h2 _ (by omega)).2)
    rw [hz1, Nat.zero_add, Nat.mul_one, ← hlen] at hr
    refine ⟨g, c, _, hr, ⟨by omega, fun j hj => ?_, fun j u hu => ?_⟩, .inl rfl, ?_, fun k hk hne => ?_, fun w0 hg hb => below_cells hg _ _ _ hb⟩
    · exact ⟨World.isSome_setCells g _ _ _ _ (h2 j hj).1, (World.frozen?_setCells g _ _ _ _).trans (h2 j hj).2⟩
    · rw [nums, List.map_append] at hu
      by_cases hj : j < l.length
      · rw [World.cell?_setCells_out g _ _ _ _ (fun _ _ => .inl hj)]
        refine h3 j u ?_
        rwa [List.getElem?_append_left (by rw [List.length_map]; exact hj)] at hu
      · rw [List.getElem?_append_right (by rw [List.length_map]; omega), List.length_map] at hu
        obtain ⟨hlt, hv⟩ := List.getElem?_eq_some_iff.1 hu
        have hlt2 : j - l.length < (nums .u8 news).length := hlt
        have hc := World.cell?_setCells_in g (nums .u8 news) l.length W (fun q hq => by
          rw [nums_length] at hq
          exact (h2 _ (by omega)).1) (j - l.length) hlt2
        rw [show l.length + (j - l.length) = j by omega] at hc
        rw [hc]
        exact congrArg some hv
    · rw [size_cells]
      exact Nat.le_refl _
    · exact World.heap_setCells_other W g _ _ hk hne
  · have hold : (Builtin.firstCells i.size l.length (.slice (some ⟨g, 0, none⟩) l.length c)).run P W.drew = .ok (nums .u8 l).toArray W.drew := by
      rw [hz1]
      exact run_firstCells_some W.drew 1 l.length ⟨g, 0, none⟩ l.length c (nums .u8 l) (by rw [nums_length, Nat.mul_one]) (fun j u hu => by rw [addr_at]; exact h3 j u hu)
    have hr := run_append_grow_src W t tx ty e i (.int .u8 0) ht hi hz0 (some ⟨g, 0, none⟩) l.length c (nums .u8 l) hold x n (nums .u8 news) hs' (by omega) (by omega) (by
      rw [hz2, Nat.mul_one]
      exact Nat.le_trans (nextslicecap_le (by omega)) (by omega))
    have hge := grownCap_ge W (l.length + n) c e
    rw [← hlen] at hr hge
    generalize grownCap W (l ++ news).length c e = c2 at hr hge
    have hb := heap_alloc_new W.drew (.cells ((nums .u8 l ++ nums .u8 news).toArray ++ Builtin.zeroCells (Value.int .u8 0).cells (c2 - (l ++ news).length)) e)
    have hsz : ((nums .u8 l ++ nums .u8 news).toArray ++ Builtin.zeroCells (Value.int .u8 0).cells (c2 - (l ++ news).length)).size = c2 := by
      rw [Array.size_append, size_zeroCells, List.size_toArray, List.length_append, nums_length, nums_length]
      have h1 : (Value.int .u8 0).cells.size = 1 := rfl
      rw [h1]
      rw [hlen] at hge ⊢
      omega
    refine ⟨W.heap.size, c2, _, hr, ⟨hge, fun j hj => ⟨?_, blk_frozen hb j⟩, fun j u hu => ?_⟩, .inr ⟨Nat.le_refl _, by simp⟩, by simp, fun k hk hne => heap_alloc_old W.drew _ hk, fun w0 hg hb => below_alloc (below_drew1 hb) _⟩
    · show (World.cell? _ ⟨W.drew.heap.size, j, none⟩).isSome = true
      rw [blk_cell hb j]
      rw [Array.getElem?_eq_getElem (by rw [hsz]; exact hj)]
      rfl
    · show World.cell? _ ⟨W.drew.heap.size, j, none⟩ = _
      rw [blk_cell hb j, Array.getElem?_append_left (by
        have := (List.getElem?_eq_some_iff.1 hu).1
        rw [nums_length, List.length_append] at this
        rw [List.size_toArray, List.length_append, nums_length, nums_length]
        exact this), List.getElem?_toArray]
      rwa [nums, List.map_append] at hu
/-- The row has been appended to. -/
theorem Mem.bapp {w W W2 : World} {A B : List Hold} {g c g2 c2 : Nat} {l l2 : List Int} (h : Mem w W (A ++ Hold.bts g c l :: B)) (hv : Bts W2 g2 c2 l2) (hg : g2 = g ∨ (W.heap.size ≤ g2 ∧ g2 < W2.heap.size)) (hs : W.heap.size ≤ W2.heap.size)
    (hk : ∀ k, k < W.heap.size → k ≠ g → W2.heap[k]? = W.heap[k]?) (hb : ∀ w0 : World, w0.heap.size ≤ g → Below w0.heap.size w0 W → Below w0.heap.size w0 W2) : Mem w W2 (A ++ Hold.bts g2 c2 l2 :: B) := by
  have ha := h.apart
  rw [List.pairwise_append] at ha
  obtain ⟨hA, hB, hAB⟩ := ha
  rw [List.pairwise_cons] at hB
  have hf := h.fits (Hold.bts g c l) (List.mem_append_right _ List.mem_cons_self)
  have hf1 : w.heap.size ≤ g := hf.1
  have hf2 : g + 1 ≤ W.heap.size := hf.2
  have far : ∀ z : Hold, (z ∈ A ∨ z ∈ B) → z.hi ≤ g ∨ g + 1 ≤ z.lo := by
    intro z hz
    rcases hz with hz | hz
    · exact (hAB z hz _ List.mem_cons_self).symm
    · exact hB.1 z hz
  have key : ∀ z : Hold, (z ∈ A ∨ z ∈ B) → z.P W → z.P W2 := by
    intro z hz hp
    refine z.mv (fun k h1 h2 h3 => hk k h3 ?_) hp
    rintro rfl
    have := far z hz
    omega
  have far2 : ∀ z : Hold, (z ∈ A ∨ z ∈ B) → z.hi ≤ g2 ∨ g2 + 1 ≤ z.lo := by
    intro z hz
    rcases hg with rfl | ⟨hg, _⟩
    · exact far z hz
    · have hz' : z.hi ≤ W.heap.size := by
        rcases hz with hz | hz
        · exact (h.fits z (List.mem_append_left _ hz)).2
        · exact (h.fits z (List.mem_append_right _ (List.mem_cons_of_mem _ hz))).2
      exact .inl (by omega)
  refine ⟨hb w hf1 h.below, fun z hz => ?_, fun z hz => ?_, ?_⟩
  · rcases List.mem_append.1 hz with hz | hz
    · exact key z (.inl hz) (h.says z (List.mem_append_left _ hz))
    · rcases List.mem_cons.1 hz with rfl | hz
      · exact hv
      · exact key z (.inr hz) (h.says z (List.mem_append_right _ (List.mem_cons_of_mem _ hz)))
  · rcases List.mem_append.1 hz with hz | hz
    · have := h.fits z (List.mem_append_left _ hz)
      exact ⟨this.1, Nat.le_trans this.2 hs⟩
    · rcases List.mem_cons.1 hz with rfl | hz
      · show w.heap.size ≤ g2 ∧ g2 + 1 ≤ W2.heap.size
        rcases hg with rfl | hg <;> omega
      · have := h.fits z (List.mem_append_right _ (List.mem_cons_of_mem _ hz))
        exact ⟨this.1, Nat.le_trans this.2 hs⟩
  · rw [List.pairwise_append]
    refine ⟨hA, List.pairwise_cons.2 ⟨fun z hz => far2 z (.inr hz), hB.2⟩, fun c' hc b' hb' => ?_⟩
    rcases List.mem_cons.1 hb' with rfl | hb'
    · exact (far2 c' (.inl hc)).symm
    · exact hAB c' hc b' (List.mem_cons_of_mem _ hb')
section
variable {P : Program} {ops : Array Oper} {rest : List Oper} {o : Oper} {a : Act} {Q : Exit → Act → World → Prop} {Kc : Act → World → Prop}
theorem wp_bts {w W : World} {A B : List Hold} {g c : Nat} {l : List Int} (M : Mem w W (A ++ Hold.bts g c l :: B)) (s x : Operand) (t tx e : TypeId)
    (ho : o.op = .call { callee := .builtin .append, args := #[s, x], argTypes := #[t, tx] })
    (ht : P.underlying t = some (.slice e)) (hinfo : (P.info? e).map (fun i => (i.zero, i.size, i.bytes)) = some (some (.int .u8 0), 1, 1))
    (v : Value) (hs : a.eval s = .slice (some ⟨g, 0, none⟩) l.length c) (hx : a.eval x = v) (n : Nat) (news : List Int) (hsrc : Src P 1 tx v n (nums .u8 news) W) (hl : l.length + news.length ≤ 140737488355328)
    (h : ∀ g2 c2 W2, Mem w W2 (A ++ Hold.bts g2 c2 (l ++ news) :: B) → Kc (a.put o.dst (.slice (some ⟨g2, 0, none⟩) (l ++ news).length c2)) W2) : Oper.wp P o a W Kc Q := by
  obtain ⟨g2, c2, W2, hr, hB, hg, hsz, hk, hb⟩ := run_bts W t tx o.type e ht hinfo (M.bts (List.mem_append_right _ List.mem_cons_self)) v n news hsrc hl
  unfold Oper.wp execOp
  simp only [ho, resolve, invoke, builtin, Sem.run_bind, Sem.run_pure, Result.andThen_ok, List.map_toArray, List.map_cons, List.map_nil, hs, hx, hr]
  exact h g2 c2 W2 (M.bapp hB hg hsz hk hb)
/-- append(row, x): behind 'at_builtin'. -/
theorem bts_append {w W : World} {A B : List Hold} {g c : Nat} {l : List Int} (M : Mem w W (A ++ Hold.bts g c l :: B)) (hgd : o.guard = none) (s x : Operand) (t tx e : TypeId)
    (ho : o.op = .call { callee := .builtin .append, args := #[s, x], argTypes := #[t, tx] })
    (ht : P.underlying t = some (.slice e)) (hinfo : (P.info? e).map (fun i => (i.zero, i.size, i.bytes)) = some (some (.int .u8 0), 1, 1))
    (v : Value) (hs : a.eval s = .slice (some ⟨g, 0, none⟩) l.length c) (hx : a.eval x = v) (n : Nat) (news : List Int) (hsrc : Src P 1 tx v n (nums .u8 news) W) (hl : l.length + news.length ≤ 140737488355328)
    (h : ∀ g2 c2 W2, Mem w W2 (A ++ Hold.bts g2 c2 (l ++ news) :: B) → wpList P ops Q rest (a.put o.dst (.slice (some ⟨g2, 0, none⟩) (l ++ news).length c2)) W2) : wpList P ops Q (o :: rest) a W :=
  wpList_plain hgd fun _ hK => wp_bts M s x t tx e ho ht hinfo v hs hx n news hsrc hl fun g2 c2 W2 M2 => hK _ _ (h g2 c2 W2 M2)
/-- The same in a region whose order is drawn. -/
theorem bts_append_step {w W : World} {A B : List Hold} {g c : Nat} {l : List Int} (M : Mem w W (A ++ Hold.bts g c l :: B)) (hw : Region.wanted o (yielded ops a.tmps) = true) (s x : Operand) (t tx e : TypeId)
    (ho : o.op = .call { callee := .builtin .append, args := #[s, x], argTypes := #[t, tx] })
    (ht : P.underlying t = some (.slice e)) (hinfo : (P.info? e).map (fun i => (i.zero, i.size, i.bytes)) = some (some (.int .u8 0), 1, 1))
    (v : Value) (hs : a.eval s = .slice (some ⟨g, 0, none⟩) l.length c) (hx : a.eval x = v) (n : Nat) (news : List Int) (hsrc : Src P 1 tx v n (nums .u8 news) W) (hl : l.length + news.length ≤ 140737488355328)
    (h : ∀ g2 c2 W2, Mem w W2 (A ++ Hold.bts g2 c2 (l ++ news) :: B) → Kc (a.put o.dst (.slice (some ⟨g2, 0, none⟩) (l ++ news).length c2)) W2) :
    if Region.wanted o (yielded ops a.tmps) = true then Oper.wp P o a W Kc Q else Kc (a.put o.dst undef) W := by
  rw [if_pos hw]
  exact wp_bts M s x t tx e ho ht hinfo v hs hx n news hsrc hl h
end
/-- '[]byte(s)'. -/
theorem Mem.conv {w W : World} {H : List Hold} (M : Mem w W H) (s : ByteArray) (C : Nat) (e : TypeId) (hC : s.size ≤ C) : Mem w (W.drew.alloc (.cells (bytesRow s C) e ((bytesRow s C).size, (bytesRow s C).size + 1))) (Hold.bts W.heap.size C (bytesOf s) :: H) := by
  have hb := heap_alloc_new W.drew (.cells (bytesRow s C) e ((bytesRow s C).size, (bytesRow s C).size + 1))
  have hsz : (bytesRow s C).size = C := by
    unfold bytesRow
    rw [Array.size_append, Array.size_map, Array.size_replicate]
    show s.size + (C - s.size) = C
    omega
  have h2 := M.step (below_alloc (below_drew1 (Below.refl W.heap.size W)) (.cells (bytesRow s C) e ((bytesRow s C).size, (bytesRow s C).size + 1)))
  have hcell : ∀ j, (W.drew.alloc (.cells (bytesRow s C) e ((bytesRow s C).size, (bytesRow s C).size + 1))).cell? ⟨W.drew.heap.size, j, none⟩ = (bytesRow s C)[j]? := fun j => cell_of_row _ _ j _ _ _ hb
  refine ⟨h2.below, fun x hx => ?_, fun x hx => ?_, List.Pairwise.cons (fun b hb => .inl (M.fits b hb).2) M.apart⟩
  · rcases List.mem_cons.1 hx with rfl | hx
    · refine ⟨by rw [bytesOf_length]; exact hC, fun j hj => ⟨?_, ?_⟩, fun j u hu => ?_⟩
      · show (World.cell? _ ⟨W.drew.heap.size, j, none⟩).isSome = true
        rw [hcell, Array.getElem?_eq_getElem (by rw [hsz]; exact hj)]
        rfl
      · show World.frozen? _ ⟨W.drew.heap.size, j, none⟩ = false
        have : ¬ (bytesRow s C).size ≤ j := by omega
        unfold World.frozen?
        rw [show (⟨W.drew.heap.size, j, none⟩ : Addr).block = W.drew.heap.size from rfl, hb]
        simp [this]
      · show World.cell? _ ⟨W.drew.heap.size, j, none⟩ = _
        have hlt := (List.getElem?_eq_some_iff.1 hu).1
        rw [nums_length, bytesOf_length] at hlt
        rw [hcell]
        unfold bytesRow
        rw [Array.getElem?_append_left (by rw [Array.size_map]; exact hlt)]
        rw [nums_bytes] at hu
        rw [← hu]
        unfold byteCells
        simp
    · exact h2.says x hx
  · rcases List.mem_cons.1 hx with rfl | hx
    · exact ⟨M.below.size, by simp [Hold.bts]⟩
    · exact h2.fits x hx
/-- A constant's bytes. -/
theorem Mem.convC {w W : World} {H : List Hold} (M : Mem w W H) (l : List Int) (e : TypeId) : Mem w (W.alloc (.cells (nums .u8 l).toArray e ((nums .u8 l).toArray.size, (nums .u8 l).toArray.size + 1))) (Hold.bts W.heap.size l.length l :: H) := by
  have hb := heap_alloc_new W (.cells (nums .u8 l).toArray e ((nums .u8 l).toArray.size, (nums .u8 l).toArray.size + 1))
  have h2 := M.step (below_alloc (Below.refl W.heap.size W) (.cells (nums .u8 l).toArray e ((nums .u8 l).toArray.size, (nums .u8 l).toArray.size + 1)))
  have hcell : ∀ j, (W.alloc (.cells (nums .u8 l).toArray e ((nums .u8 l).toArray.size, (nums .u8 l).toArray.size + 1))).cell? ⟨W.heap.size, j, none⟩ = (nums .u8 l).toArray[j]? := fun j => cell_of_row _ _ j _ _ _ hb
  have hsz : (nums .u8 l).toArray.size = l.length := by rw [List.size_toArray, nums_length]
  refine ⟨h2.below, fun x hx => ?_, fun x hx => ?_, List.Pairwise.cons (fun b hb => .inl (M.fits b hb).2) M.apart⟩
  · rcases List.mem_cons.1 hx with rfl | hx
    · refine ⟨Nat.le_refl _, fun j hj => ⟨?_, ?_⟩, fun j u hu => ?_⟩
      · rw [hcell, Array.getElem?_eq_getElem (by rw [hsz]; exact hj)]
        rfl
      · have : ¬ (nums .u8 l).toArray.size ≤ j := by omega
        simp only [World.frozen?, hb]
        simp
        intro h
        rw [nums_length] at h
        omega
      · rw [hcell, List.getElem?_toArray]
        exact hu
    · exact h2.says x hx
  · rcases List.mem_cons.1 hx with rfl | hx
    · exact ⟨M.below.size, by simp [Hold.bts]⟩
    · exact h2.fits x hx
end Go.Proofs.Ytcbaokflimdjnaa.Law
end
section
namespace Go.Proofs.Ytcbaokflimdjnaa.QFnExactReadImage
open Go.RowKit Go.Proofs.YtcbaokflimdjnaaW.PrintWords Go.Proofs.YtcbaokflimdjnaaW.PrintLast Go.Proofs.YtcbaokflimdjnaaW.PrintMore
theorem run_field194_0 (a0 a1 a2 a3 : Value) (w : World) : (Instr.field 194 (.agg #[a0, a1, a2, a3]) 0).run Try.prog w = .ok a0 w := by kernel_rfl
theorem max2_mx (k k' : IntKind) (x y : Int) : Builtin.max2 (.int k x) (.int k' y) = pure (.int k (mx x y)) := by rw [max2_int]; rfl
theorem min2_mn (k k' : IntKind) (x y : Int) : Builtin.min2 (.int k x) (.int k' y) = pure (.int k (mn x y)) := by rw [min2_int]; rfl
attribute [local go_sem] max_two min_two max_three min_three max_four min_four run_field194_0 max2_mx min2_mn   -- for this text's walks alone
set_option linter.unusedVariables false
set_option linter.unusedSimpArgs false
def errW : Option Int → Value
  | none => .nilIface
  | some c => .iface 0 (.int .i64 c)
theorem errW_none : errW none = .nilIface := rfl
theorem errW_some (c : Int) : errW (some c) = .iface 0 (.int .i64 c) := rfl
theorem info5 : (Try.prog.info? 5).map (fun i => (i.zero, i.size, i.bytes)) = some (some (.int .u8 0), 1, 1) := by kernel_rfl
-- the values' own types
structure S105 where
  f0 : Bool
  f1 : Int
def z105 : S105 := ⟨false, (0 : Int)⟩
def k105 : Kd S105 := Kd.iso (Kd.pair Kd.bool (Kd.int .i64)) (fun x : S105 => (x.f0, x.f1))
theorem k105_open {w : World} {x : S105} {cs : List Value} (h : k105.K w x cs) : cs = [.bool x.f0, .int .i64 x.f1] := by
  obtain ⟨_, _, rfl, rfl, rfl⟩ := h
  exact rfl
theorem k105_mk (w : World) (x : S105)  : k105.K w x [.bool x.f0, .int .i64 x.f1] := ⟨[.bool x.f0], [.int .i64 x.f1], rfl, rfl, rfl⟩
def rd_T105 (xs : List S105) (i : Int) : S105 := xs.getD i.toNat z105
theorem at_T105 {w : World} {A : Option Addr} {n : Nat} {xs : List S105} (h : Kd.C k105 w A n xs) (i : Int) (h0 : 0 ≤ i) (h1 : i < n) : ∃ ad , A = some ad ∧ w.cell? (ad.add (i.toNat * 2)) = some (.bool (rd_T105 xs i).f0) ∧ w.cell? ⟨(ad.add (i.toNat * 2)).block, (ad.add (i.toNat * 2)).off + 1, none⟩ = some (.int .i64 (rd_T105 xs i).f1) := by
  obtain ⟨ad, c, e, _, hK, hc0⟩ := Kd.C_get h z105 i h0 h1
  have hc : ∀ j u, c[j]? = some u → w.cell? (ad.add (i.toNat * 2 + j)) = some u := hc0
  obtain rfl := k105_open hK
  exact ⟨ad, e, hc 0 _ rfl, by rw [← add_field _ _ 1 (by omega)]; exact hc 1 _ rfl⟩
structure S76 where
  f0 : Int
  f1 : Int
  f2 : Int
def z76 : S76 := ⟨(0 : Int), (0 : Int), (0 : Int)⟩
def k76 : Kd S76 := Kd.iso (Kd.pair (Kd.int .i64) (Kd.pair (Kd.int .i64) (Kd.int .i64))) (fun x : S76 => (x.f0, x.f1, x.f2))
theorem k76_open {w : World} {x : S76} {cs : List Value} (h : k76.K w x cs) : cs = [.int .i64 x.f0, .int .i64 x.f1, .int .i64 x.f2] := by
  obtain ⟨_, _, rfl, rfl, ⟨_, _, rfl, rfl, rfl⟩⟩ := h
  exact rfl
theorem k76_mk (w : World) (x : S76)  : k76.K w x [.int .i64 x.f0, .int .i64 x.f1, .int .i64 x.f2] := ⟨[.int .i64 x.f0], [.int .i64 x.f1, .int .i64 x.f2], rfl, rfl, ⟨[.int .i64 x.f1], [.int .i64 x.f2], rfl, rfl, rfl⟩⟩
def rd_T76 (xs : List S76) (i : Int) : S76 := xs.getD i.toNat z76
theorem at_T76 {w : World} {A : Option Addr} {n : Nat} {xs : List S76} (h : Kd.C k76 w A n xs) (i : Int) (h0 : 0 ≤ i) (h1 : i < n) : ∃ ad , A = some ad ∧ w.cell? (ad.add (i.toNat * 3)) = some (.int .i64 (rd_T76 xs i).f0) ∧ w.cell? ⟨(ad.add (i.toNat * 3)).block, (ad.add (i.toNat * 3)).off + 1, none⟩ = some (.int .i64 (rd_T76 xs i).f1) ∧ w.cell? ⟨(ad.add (i.toNat * 3)).block, (ad.add (i.toNat * 3)).off + 2, none⟩ = some (.int .i64 (rd_T76 xs i).f2) := by
  obtain ⟨ad, c, e, _, hK, hc0⟩ := Kd.C_get h z76 i h0 h1
  have hc : ∀ j u, c[j]? = some u → w.cell? (ad.add (i.toNat * 3 + j)) = some u := hc0
  obtain rfl := k76_open hK
  exact ⟨ad, e, hc 0 _ rfl, by rw [← add_field _ _ 1 (by omega)]; exact hc 1 _ rfl, by rw [← add_field _ _ 2 (by omega)]; exact hc 2 _ rfl⟩
structure S107 where
  f0 : Int
  f1 : Int
  f2 : Int
def z107 : S107 := ⟨(0 : Int), (0 : Int), (0 : Int)⟩
def k107 : Kd S107 := Kd.iso (Kd.pair (Kd.int .i64) (Kd.pair (Kd.int .i64) (Kd.int .i64))) (fun x : S107 => (x.f0, x.f1, x.f2))
theorem k107_open {w : World} {x : S107} {cs : List Value} (h : k107.K w x cs) : cs = [.int .i64 x.f0, .int .i64 x.f1, .int .i64 x.f2] := by
  obtain ⟨_, _, rfl, rfl, ⟨_, _, rfl, rfl, rfl⟩⟩ := h
  exact rfl
theorem k107_mk (w : World) (x : S107)  : k107.K w x [.int .i64 x.f0, .int .i64 x.f1, .int .i64 x.f2] := ⟨[.int .i64 x.f0], [.int .i64 x.f1, .int .i64 x.f2], rfl, rfl, ⟨[.int .i64 x.f1], [.int .i64 x.f2], rfl, rfl, rfl⟩⟩
def rd_T107 (xs : List S107) (i : Int) : S107 := xs.getD i.toNat z107
theorem at_T107 {w : World} {A : Option Addr} {n : Nat} {xs : List S107} (h : Kd.C k107 w A n xs) (i : Int) (h0 : 0 ≤ i) (h1 : i < n) : ∃ ad , A = some ad ∧ w.cell? (ad.add (i.toNat * 3)) = some (.int .i64 (rd_T107 xs i).f0) ∧ w.cell? ⟨(ad.add (i.toNat * 3)).block, (ad.add (i.toNat * 3)).off + 1, none⟩ = some (.int .i64 (rd_T107 xs i).f1) ∧ w.cell? ⟨(ad.add (i.toNat * 3)).block, (ad.add (i.toNat * 3)).off + 2, none⟩ = some (.int .i64 (rd_T107 xs i).f2) := by
  obtain ⟨ad, c, e, _, hK, hc0⟩ := Kd.C_get h z107 i h0 h1
  have hc : ∀ j u, c[j]? = some u → w.cell? (ad.add (i.toNat * 3 + j)) = some u := hc0
  obtain rfl := k107_open hK
  exact ⟨ad, e, hc 0 _ rfl, by rw [← add_field _ _ 1 (by omega)]; exact hc 1 _ rfl, by rw [← add_field _ _ 2 (by omega)]; exact hc 2 _ rfl⟩
structure S73 where
  f0 : Int
  f1 : Int
  f2 : (List S105)
  f3 : (List S76)
  f4 : (List S107)
def z73 : S73 := ⟨(0 : Int), (0 : Int), ([] : List S105), ([] : List S76), ([] : List S107)⟩
def k73 : Kd S73 := Kd.iso (Kd.pair (Kd.int .i64) (Kd.pair (Kd.int .i64) (Kd.pair (Kd.slice 105 k105) (Kd.pair (Kd.slice 76 k76) (Kd.slice 107 k107))))) (fun x : S73 => (x.f0, x.f1, x.f2, x.f3, x.f4))
theorem k73_open {w : World} {x : S73} {cs : List Value} (h : k73.K w x cs) : ∃ A2 c2 A3 c3 A4 c4, cs = [.int .i64 x.f0, .int .i64 x.f1, .slice A2 x.f2.length c2, .slice A3 x.f3.length c3, .slice A4 x.f4.length c4] ∧ x.f2.length ≤ c2 ∧ k105.C w A2 x.f2.length x.f2 ∧ x.f3.length ≤ c3 ∧ k76.C w A3 x.f3.length x.f3 ∧ x.f4.length ≤ c4 ∧ k107.C w A4 x.f4.length x.f4 := by
  obtain ⟨_, _, rfl, rfl, ⟨_, _, rfl, rfl, ⟨_, _, rfl, ⟨A2, c2, rfl, l2, g2⟩, ⟨_, _, rfl, ⟨A3, c3, rfl, l3, g3⟩, ⟨A4, c4, rfl, l4, g4⟩⟩⟩⟩⟩ := h
  exact ⟨A2, c2, A3, c3, A4, c4, rfl, l2, g2, l3, g3, l4, g4⟩
theorem k73_mk (w : World) (x : S73) {A2 : Option Addr} {c2 : Nat} (l2 : x.f2.length ≤ c2) (g2 : k105.C w A2 x.f2.length x.f2) {A3 : Option Addr} {c3 : Nat} (l3 : x.f3.length ≤ c3) (g3 : k76.C w A3 x.f3.length x.f3) {A4 : Option Addr} {c4 : Nat} (l4 : x.f4.length ≤ c4) (g4 : k107.C w A4 x.f4.length x.f4) : k73.K w x [.int .i64 x.f0, .int .i64 x.f1, .slice A2 x.f2.length c2, .slice A3 x.f3.length c3, .slice A4 x.f4.length c4] := ⟨[.int .i64 x.f0], [.int .i64 x.f1, .slice A2 x.f2.length c2, .slice A3 x.f3.length c3, .slice A4 x.f4.length c4], rfl, rfl, ⟨[.int .i64 x.f1], [.slice A2 x.f2.length c2, .slice A3 x.f3.length c3, .slice A4 x.f4.length c4], rfl, rfl, ⟨[.slice A2 x.f2.length c2], [.slice A3 x.f3.length c3, .slice A4 x.f4.length c4], rfl, ⟨A2, c2, rfl, l2, g2⟩, ⟨[.slice A3 x.f3.length c3], [.slice A4 x.f4.length c4], rfl, ⟨A3, c3, rfl, l3, g3⟩, ⟨A4, c4, rfl, l4, g4⟩⟩⟩⟩⟩
def rd_T73 (xs : List S73) (i : Int) : S73 := xs.getD i.toNat z73
theorem at_T73 {w : World} {A : Option Addr} {n : Nat} {xs : List S73} (h : Kd.C k73 w A n xs) (i : Int) (h0 : 0 ≤ i) (h1 : i < n) : ∃ ad A2 c2 A3 c3 A4 c4, A = some ad ∧ w.cell? (ad.add (i.toNat * 5)) = some (.int .i64 (rd_T73 xs i).f0) ∧ w.cell? ⟨(ad.add (i.toNat * 5)).block, (ad.add (i.toNat * 5)).off + 1, none⟩ = some (.int .i64 (rd_T73 xs i).f1) ∧ w.cell? ⟨(ad.add (i.toNat * 5)).block, (ad.add (i.toNat * 5)).off + 2, none⟩ = some (.slice A2 (rd_T73 xs i).f2.length c2) ∧ w.cell? ⟨(ad.add (i.toNat * 5)).block, (ad.add (i.toNat * 5)).off + 3, none⟩ = some (.slice A3 (rd_T73 xs i).f3.length c3) ∧ w.cell? ⟨(ad.add (i.toNat * 5)).block, (ad.add (i.toNat * 5)).off + 4, none⟩ = some (.slice A4 (rd_T73 xs i).f4.length c4) ∧ (rd_T73 xs i).f2.length ≤ c2 ∧ k105.C w A2 (rd_T73 xs i).f2.length (rd_T73 xs i).f2 ∧ (rd_T73 xs i).f3.length ≤ c3 ∧ k76.C w A3 (rd_T73 xs i).f3.length (rd_T73 xs i).f3 ∧ (rd_T73 xs i).f4.length ≤ c4 ∧ k107.C w A4 (rd_T73 xs i).f4.length (rd_T73 xs i).f4 := by
  obtain ⟨ad, c, e, _, hK, hc0⟩ := Kd.C_get h z73 i h0 h1
  have hc : ∀ j u, c[j]? = some u → w.cell? (ad.add (i.toNat * 5 + j)) = some u := hc0
  obtain ⟨A2, c2, A3, c3, A4, c4, rfl, l2, g2, l3, g3, l4, g4⟩ := k73_open hK
  exact ⟨ad, A2, c2, A3, c3, A4, c4, e, hc 0 _ rfl, by rw [← add_field _ _ 1 (by omega)]; exact hc 1 _ rfl, by rw [← add_field _ _ 2 (by omega)]; exact hc 2 _ rfl, by rw [← add_field _ _ 3 (by omega)]; exact hc 3 _ rfl, by rw [← add_field _ _ 4 (by omega)]; exact hc 4 _ rfl, l2, g2, l3, g3, l4, g4⟩
structure S100 where
  f0 : Int
  f1 : Int
  f2 : ByteArray
def z100 : S100 := ⟨(0 : Int), (0 : Int), (⟨#[]⟩ : ByteArray)⟩
def k100 : Kd S100 := Kd.iso (Kd.pair (Kd.int .i64) (Kd.pair (Kd.int .u64) Kd.string)) (fun x : S100 => (x.f0, x.f1, x.f2))
theorem k100_open {w : World} {x : S100} {cs : List Value} (h : k100.K w x cs) : cs = [.int .i64 x.f0, .int .u64 x.f1, .string x.f2] := by
  obtain ⟨_, _, rfl, rfl, ⟨_, _, rfl, rfl, rfl⟩⟩ := h
  exact rfl
theorem k100_mk (w : World) (x : S100)  : k100.K w x [.int .i64 x.f0, .int .u64 x.f1, .string x.f2] := ⟨[.int .i64 x.f0], [.int .u64 x.f1, .string x.f2], rfl, rfl, ⟨[.int .u64 x.f1], [.string x.f2], rfl, rfl, rfl⟩⟩
def rd_T100 (xs : List S100) (i : Int) : S100 := xs.getD i.toNat z100
theorem at_T100 {w : World} {A : Option Addr} {n : Nat} {xs : List S100} (h : Kd.C k100 w A n xs) (i : Int) (h0 : 0 ≤ i) (h1 : i < n) : ∃ ad , A = some ad ∧ w.cell? (ad.add (i.toNat * 3)) = some (.int .i64 (rd_T100 xs i).f0) ∧ w.cell? ⟨(ad.add (i.toNat * 3)).block, (ad.add (i.toNat * 3)).off + 1, none⟩ = some (.int .u64 (rd_T100 xs i).f1) ∧ w.cell? ⟨(ad.add (i.toNat * 3)).block, (ad.add (i.toNat * 3)).off + 2, none⟩ = some (.string (rd_T100 xs i).f2) := by
  obtain ⟨ad, c, e, _, hK, hc0⟩ := Kd.C_get h z100 i h0 h1
  have hc : ∀ j u, c[j]? = some u → w.cell? (ad.add (i.toNat * 3 + j)) = some u := hc0
  obtain rfl := k100_open hK
  exact ⟨ad, e, hc 0 _ rfl, by rw [← add_field _ _ 1 (by omega)]; exact hc 1 _ rfl, by rw [← add_field _ _ 2 (by omega)]; exact hc 2 _ rfl⟩
end Go.Proofs.Ytcbaokflimdjnaa.QFnExactReadImage
end
section
namespace Go.Proofs.Ytcbaokflimdjnaa.QFnExactReadImage
open Go.RowKit Go.Proofs.YtcbaokflimdjnaaW.PrintWords Go.Proofs.YtcbaokflimdjnaaW.PrintLast Go.Proofs.YtcbaokflimdjnaaW.PrintMore
attribute [local go_sem] max_two min_two max_three min_three max_four min_four run_field194_0 max2_mx min2_mn   -- for this text's walks alone
set_option linter.unusedVariables false
set_option linter.unusedSimpArgs false
def spec_l01In.f (a0 : Int) (a1 : Int) (a2 : Int) : Option (Bool) := if a0 ≥ a1 then (some (decide (a0 ≤ a2))) else (some false)
set_option maxHeartbeats 8000000 in
set_option maxRecDepth 100000 in
theorem spec_l01In.calls (a0 : Int) (a1 : Int) (a2 : Int) (r : Bool) (w : World) (h : spec_l01In.f a0 a1 a2 = some r) :
    Calls Try.prog 53 #[.int .i64 a0, .int .i64 a1, .int .i64 a2] w fun e w' => e = .returned (.bool r) ∧ Drawn0 w w' := by
  have H : (if a0 ≥ a1 then (some (decide (a0 ≤ a2))) else (some false)) = some r := h
  clear h
  by_cases c4 : a0 ≥ a1
  · rw [if_pos c4] at H
    have c4b0 : decide (a1 ≤ a0) = true := decide_eq_true c4
    clear c4
    obtain rfl := Option.some.inj H
    go_enter Try.func53, Try.ntmps53
    go_wp2
    go_ret
    exact ⟨by first | rfl | (simp; done) | (simp [*]; done), by repeat (first | exact Drawn0.refl _ | apply Drawn0.step)⟩
  · rw [if_neg c4] at H
    have c4b0 : decide (a1 ≤ a0) = false := decide_eq_false c4
    clear c4
    obtain rfl := Option.some.inj H
    go_enter Try.func53, Try.ntmps53
    go_wp2
    go_ret
    exact ⟨by first | rfl | (simp; done) | (simp [*]; done), by repeat (first | exact Drawn0.refl _ | apply Drawn0.step)⟩
end Go.Proofs.Ytcbaokflimdjnaa.QFnExactReadImage
end
section
namespace Go.Proofs.Ytcbaokflimdjnaa.QFnExactReadImage
open Go.RowKit Go.Proofs.YtcbaokflimdjnaaW.PrintWords Go.Proofs.YtcbaokflimdjnaaW.PrintLast Go.Proofs.YtcbaokflimdjnaaW.PrintMore
attribute [local go_sem] max_two min_two max_three min_three max_four min_four run_field194_0 max2_mx min2_mn   -- for this text's walks alone
set_option linter.unusedVariables false
set_option linter.unusedSimpArgs false
def spec_l01Var.l0 : Nat → Int → List Int → Option (ByteArray)
  | 0, _, _ => none
  | k + 1, x0, x3 => if x0 > 127 then (if x3.length < 140737488355328 then (spec_l01Var.l0 k (wrap64 (Int.tdiv x0 128)) (x3 ++ [(wrap64 ((Int.tmod x0 128) + 128)) % 256])) else (none)) else (if x3.length < 140737488355328 then (some (strOfNums (x3 ++ [(x0) % 256]))) else (none))
def spec_l01Var.f (k : Nat) (a0 : Int) : Option (ByteArray) := spec_l01Var.l0 k a0 (([] : List Int))
theorem spec_l01Var.mono_l : ∀ k, (∀ y0 y1, LeO (spec_l01Var.l0 k y0 y1) (spec_l01Var.l0 (k + 1) y0 y1))
  | 0 => fun _ _ r h => by simp [spec_l01Var.l0] at h
  | k + 1 => by
    have ih0 := spec_l01Var.mono_l k
    · intro y0 y1
      unfold spec_l01Var.l0
      repeat' first
      | (with_reducible exact ih0 _ _)
      | (with_reducible exact LeO.refl _)
      | (with_reducible exact LeO.none _)
      | (with_reducible refine LeO.ite ?_ ?_)
      | (with_reducible refine LeO.bind ?_ (fun _ => ?_))
      | exact ih0 _ _
      | exact LeO.none _
      | refine LeO.ite ?_ ?_
      | refine LeO.bind ?_ (fun _ => ?_)
theorem spec_l01Var.mono : ∀ a0 k, LeO (spec_l01Var.f k a0) (spec_l01Var.f (k + 1) a0) := by
  intro a0 k
  have ih0 := spec_l01Var.mono_l k
  unfold spec_l01Var.f
  repeat' first
      | (with_reducible exact ih0 _ _)
      | (with_reducible exact LeO.refl _)
      | (with_reducible exact LeO.none _)
      | (with_reducible refine LeO.ite ?_ ?_)
      | (with_reducible refine LeO.bind ?_ (fun _ => ?_))
      | exact ih0 _ _
      | exact LeO.none _
      | refine LeO.ite ?_ ?_
      | refine LeO.bind ?_ (fun _ => ?_)
set_option maxHeartbeats 8000000 in
set_option maxRecDepth 100000 in
theorem spec_l01Var.calls (k : Nat) (a0 : Int) (r : ByteArray) (w : World) (h : spec_l01Var.f k a0 = some r) :
    Calls Try.prog 74 #[.int .i64 a0] w fun e w' => e = .returned (.string r) ∧ Below w.heap.size w w' := by
  have HB := Aside0.mk (Below.refl w.heap.size w)
  have H : (spec_l01Var.l0 k a0 (([] : List Int))) = some r := h
  clear h
  obtain ⟨y205, hy205⟩ : ∃ y_ : List Int, y_ = (([] : List Int)) := ⟨_, rfl⟩
  replace H : (spec_l01Var.l0 k a0 y205) = some r := by first | (rw [hy205]; with_reducible exact H) | (have H2_ := (Option.bind_some _ _).symm.trans H; rw [hy205]; with_reducible exact H2_) | (have H2_ := (Option.bind_some _ _).symm.trans H; with_reducible exact H2_) | with_reducible exact H | (rw [hy205]; exact H) | exact H
  have Ny205 := Aside0.mk hy205
  clear hy205
  have H' := Aside0.mk H
  clear H
  go_enter Try.func74, Try.ntmps74
  go_wp2_with (first | ((with_reducible refine gate_dst (N := 4) rfl ?_); refine Kd.R_lit (Kd.int .u8) _ 5 ?hg (N := 4) ?hd (xs := ([] : List Int)) (inner := []) (ok := fun _ => True) (okp := fun _ => True) ?hr ?hp (fun _ hk => hk) trivial (Below.refl _ _) (Nat.le_refl _) (by simp) ?_; (case hd => rfl); (case hg => rfl); (case hr => first | (go_simp; done) | (go_simp; rfl)); (case hp => exact (Reps.none _ _)); intro v206 w2 ho3 hb hg_ hnew_; clear hg_ hnew_; (first | rw [← Ny205.out] at ho3 | (simp only [Int.reduceToNat] at ho3; rw [← Ny205.out] at ho3)); have n0_ := Aside0.mk (Kd.R_lower ho3 (below_size (by repeat (first | (with_reducible first | exact HB.out | apply below_alloc | apply pw_below_drewN | apply below_drew1) | exact HB.out)))); have n1_ := Aside0.mk (below_step (by repeat (first | (with_reducible first | exact HB.out | apply below_alloc | apply pw_below_drewN | apply below_drew1) | exact HB.out)) hb); clear HB; have HO207 := n0_; have HB := n1_; clear n0_ n1_; clear hb ho3))
  go_loopg [0, 3] k (fun kq v0 v3 w' => ∃ (x0_1 : Int) (x3_1 : List Int), v0 = .int .i64 x0_1 ∧ Aside0 (spec_l01Var.l0 kq x0_1 x3_1 = some r) ∧ Aside0 (kq ≤ k) ∧ Aside0 (Kd.R (Kd.int .u8) 5 w' w.heap.size (fun _ => True) v3 x3_1) ∧ Aside0 (Below w.heap.size w w'))
  case atStart => exact ⟨(a0), (y205), (by first | rfl | (simp; done) | (simp [*]; done)), H', ⟨Nat.le_refl _⟩, ⟨by (with_reducible repeat (first | apply Kd.R_alloc | apply Kd.R_drewN | apply Kd.R_drew)); exact HO207.out⟩, ⟨by repeat (first | (with_reducible first | exact HB.out | apply below_alloc | apply pw_below_drewN | apply below_drew1) | exact HB.out)⟩⟩
  case round =>
    clear H'
    try clear p2
    obtain ⟨x0_1, x3_1, rfl, HA, HK1, HO_3, HB⟩ := hrel
    cases gk with
    | zero => exact absurd HA.out (by simp [spec_l01Var.l0])
    | succ k1 =>
      have H := HA.out
      clear HA
      simp only [spec_l01Var.l0] at H
      by_cases c4 : x0_1 > 127
      · rw [if_pos c4] at H
        have c4b0 : decide (127 < x0_1) = true := decide_eq_true c4
        clear c4
        by_cases c5 : x3_1.length < 140737488355328
        · rw [if_pos c5] at H
          have LMc5 := Aside0.mk c5
          clear c5
          obtain ⟨y208, hy208⟩ : ∃ y_ : List Int, y_ = (x3_1 ++ [(wrap64 ((Int.tmod x0_1 128) + 128)) % 256]) := ⟨_, rfl⟩
          replace H : (spec_l01Var.l0 k1 (wrap64 (Int.tdiv x0_1 128)) y208) = some r := by first | (rw [hy208]; with_reducible exact H) | (have H2_ := (Option.bind_some _ _).symm.trans H; rw [hy208]; with_reducible exact H2_) | (have H2_ := (Option.bind_some _ _).symm.trans H; with_reducible exact H2_) | with_reducible exact H | (rw [hy208]; exact H) | exact H
          have Ny208 := Aside0.mk hy208
          clear hy208
          have H' := Aside0.mk H
          clear H
          go_wp2_with (first | ((with_reducible refine gate_builtin (b := .append) (xs := #[.tmp 7, .tmp 12]) rfl ?_); at_builtin; refine Kd.R_append (Kd.int .u8) (w0 := w) w.heap.size rfl (.tmp 7) (.tmp 12) 96 5 (.int .u8 0) 1 rfl Try.underlying96 info5 rfl (by decide) (by omega) u3 x3_1 ((wrap64 ((Int.tmod x0_1 128) + 128)) % 256) [.int .u8 ((wrap64 ((Int.tmod x0_1 128) + 128)) % 256)] (fun _ => True) (fun _ => False) rfl rfl ?aP (fun _ hk => hk.elim) ?aF ?aO ?aB ?aS ?aL ?_; (case aP => exact rfl); (case aB => exact (by repeat (first | (with_reducible first | exact HB.out | apply below_alloc | apply pw_below_drewN | apply below_drew1) | exact HB.out))); (case aF => exact (fun _ _ => trivial)); (case aO => exact (by (with_reducible repeat (first | apply Kd.R_alloc | apply Kd.R_drewN | apply Kd.R_drew)); exact HO_3.out)); (case aS => exact (below_size (by repeat (first | (with_reducible first | exact HB.out | apply below_alloc | apply pw_below_drewN | apply below_drew1) | exact HB.out)))); (case aL => have := LMc5.out; omega); intro v209 w6 ho hb hg hat; rw [← Ny208.out] at ho; have n0_ := Aside0.mk (hb); have n1_ := Aside0.mk (ho); clear HB; clear HO_3; have HB := n0_; have HO210 := n1_; clear n0_ n1_; clear ho hb hg hat))
          go_roundg k1
          case measure => have := HK1.out; omega
          case rel => exact ⟨(wrap64 (Int.tdiv x0_1 128)), (y208), (by first | rfl | (simp; done) | (simp [*]; done)), H', ⟨by have := HK1.out; omega⟩, ⟨by (with_reducible repeat (first | apply Kd.R_alloc | apply Kd.R_drewN | apply Kd.R_drew)); exact HO210.out⟩, ⟨by repeat (first | (with_reducible first | exact HB.out | apply below_alloc | apply pw_below_drewN | apply below_drew1) | exact HB.out)⟩⟩
        · rw [if_neg c5] at H
          exact absurd H (by simp)
      · rw [if_neg c4] at H
        have c4b0 : decide (127 < x0_1) = false := decide_eq_false c4
        clear c4
        by_cases c7 : x3_1.length < 140737488355328
        · rw [if_pos c7] at H
          have LMc7 := Aside0.mk c7
          clear c7
          obtain ⟨y211, hy211⟩ : ∃ y_ : List Int, y_ = (x3_1 ++ [(x0_1) % 256]) := ⟨_, rfl⟩
          replace H : (some (strOfNums y211)) = some r := by first | (rw [hy211]; with_reducible exact H) | (have H2_ := (Option.bind_some _ _).symm.trans H; rw [hy211]; with_reducible exact H2_) | (have H2_ := (Option.bind_some _ _).symm.trans H; with_reducible exact H2_) | with_reducible exact H | (rw [hy211]; exact H) | exact H
          have Ny211 := Aside0.mk hy211
          clear hy211
          obtain rfl := Option.some.inj H
          go_wp2_with (first | ((with_reducible refine gate_builtin (b := .append) (xs := #[.tmp 16, .tmp 19]) rfl ?_); at_builtin; refine Kd.R_append (Kd.int .u8) (w0 := w) w.heap.size rfl (.tmp 16) (.tmp 19) 96 5 (.int .u8 0) 1 rfl Try.underlying96 info5 rfl (by decide) (by omega) u3 x3_1 ((x0_1) % 256) [.int .u8 ((x0_1) % 256)] (fun _ => True) (fun _ => False) rfl rfl ?aP (fun _ hk => hk.elim) ?aF ?aO ?aB ?aS ?aL ?_; (case aP => exact rfl); (case aB => exact (by repeat (first | (with_reducible first | exact HB.out | apply below_alloc | apply pw_below_drewN | apply below_drew1) | exact HB.out))); (case aF => exact (fun _ _ => trivial)); (case aO => exact (by (with_reducible repeat (first | apply Kd.R_alloc | apply Kd.R_drewN | apply Kd.R_drew)); exact HO_3.out)); (case aS => exact (below_size (by repeat (first | (with_reducible first | exact HB.out | apply below_alloc | apply pw_below_drewN | apply below_drew1) | exact HB.out)))); (case aL => have := LMc7.out; omega); intro v212 w8 ho hb hg hat; rw [← Ny211.out] at ho; have n0_ := Aside0.mk (hb); have n1_ := Aside0.mk (ho); clear HB; clear HO_3; have HB := n0_; have HO213 := n1_; clear n0_ n1_; clear ho hb hg hat; have hcv9 := own_string (P := Try.prog) Try.underlying96 Try.underlying5 Try.underlying9 (Kd.own_of_R HO213.out)))
          go_ret
          exact ⟨by first | rfl | (simp; done) | (simp [errW_none, errW_some] <;> rfl) | (simp [*, errW_none, errW_some] <;> rfl) | (simp [bne, List.isEmpty_iff]; done) | (rw [Bool.eq_iff_iff]; simp), by repeat (first | (with_reducible first | exact HB.out | apply below_alloc | apply pw_below_drewN | apply below_drew1) | exact HB.out)⟩
        · rw [if_neg c7] at H
          exact absurd H (by simp)
def spec_l15Eight.l0 : Nat → Int → List Int → Int → Option (ByteArray)
  | 0, _, _, _ => none
  | k + 1, x0, x3, x4 => if x4 ≥ 0 then (if 0 ≤ x4 then (if x4 < (x3.length : Int) then (spec_l15Eight.l0 k (IntKind.u64.wrap (Int.tdiv x0 256)) (x3.set (x4 : Int).toNat ((Int.tmod x0 256) % 256)) (wrap64 (x4 - 1))) else (none)) else (none)) else (some (strOfNums x3))
def spec_l15Eight.f (k : Nat) (a0 : Int) : Option (ByteArray) := if 8 ≤ 281474976710656 then (spec_l15Eight.l0 k a0 (List.replicate 8 0) 7) else (none)
set_option maxHeartbeats 8000000 in
set_option maxRecDepth 100000 in
theorem spec_l15Eight.calls (k : Nat) (a0 : Int) (r : ByteArray) (w : World) (h : spec_l15Eight.f k a0 = some r) :
    Calls Try.prog 75 #[.int .u64 a0] w fun e w' => e = .returned (.string r) ∧ Below w.heap.size w w' := by
  have HB := Aside0.mk (Below.refl w.heap.size w)
  have H : (if 8 ≤ 281474976710656 then (spec_l15Eight.l0 k a0 (List.replicate 8 0) 7) else (none)) = some r := h
  clear h
  by_cases c2 : 8 ≤ 281474976710656
  · rw [if_pos c2] at H
    have c2b0 := eq_true c2
    have c2b1 : decide (8 ≤ 281474976710656) = true := decide_eq_true c2
    clear c2
    obtain ⟨y214, hy214⟩ : ∃ y_ : List Int, y_ = (List.replicate 8 0) := ⟨_, rfl⟩
    replace H : (spec_l15Eight.l0 k a0 y214 7) = some r := by first | (rw [hy214]; with_reducible exact H) | (have H2_ := (Option.bind_some _ _).symm.trans H; rw [hy214]; with_reducible exact H2_) | (have H2_ := (Option.bind_some _ _).symm.trans H; with_reducible exact H2_) | with_reducible exact H | (rw [hy214]; exact H) | exact H
    have Ny214 := Aside0.mk hy214
    clear hy214
    have H' := Aside0.mk H
    clear H
    go_enter Try.func75, Try.ntmps75
    go_wp2_with (first | ((with_reducible refine gate_dst (N := 5) rfl ?_); refine Kd.R_make (Kd.int .u8) _ 5 rfl (N := 5) rfl 96 _ _ rfl 8 rfl rfl Try.underlying96 (.int .u8 0) 1 info5 rfl (by decide) (by omega) 0 (ok := fun _ => True) (okp := fun _ => True) rfl (fun _ hk => hk) trivial (by omega) (by omega) (Below.refl _ _) (Nat.le_refl _) ?_; intro v215 w3 ho4 hb hg_ hnew_; clear hg_ hnew_; (first | rw [← Ny214.out] at ho4 | (simp only [Int.reduceToNat] at ho4; rw [← Ny214.out] at ho4)); have n0_ := Aside0.mk (Kd.R_lower ho4 (below_size (by repeat (first | (with_reducible first | exact HB.out | apply below_alloc | apply pw_below_drewN | apply below_drew1) | exact HB.out)))); have n1_ := Aside0.mk (below_step (by repeat (first | (with_reducible first | exact HB.out | apply below_alloc | apply pw_below_drewN | apply below_drew1) | exact HB.out)) hb); clear HB; have HO216 := n0_; have HB := n1_; clear n0_ n1_; clear hb ho4))
    go_loopg [0, 4] k (fun kq v0 v4 w' => ∃ (x0_1 : Int) (x3_1 : List Int) (x4_1 : Int), v0 = .int .u64 x0_1 ∧ v4 = .int .i64 x4_1 ∧ Aside0 (spec_l15Eight.l0 kq x0_1 x3_1 x4_1 = some r) ∧ Aside0 (kq ≤ k) ∧ Aside0 (Kd.R (Kd.int .u8) 5 w' w.heap.size (fun _ => True) v215 x3_1) ∧ Aside0 (Below w.heap.size w w'))
    case atStart => exact ⟨(a0), (y214), (7), (by first | rfl | (simp; done) | (simp [*]; done)), (by first | rfl | (simp; done) | (simp [*]; done)), H', ⟨Nat.le_refl _⟩, ⟨by (with_reducible repeat (first | apply Kd.R_alloc | apply Kd.R_drewN | apply Kd.R_drew)); exact HO216.out⟩, ⟨by repeat (first | (with_reducible first | exact HB.out | apply below_alloc | apply pw_below_drewN | apply below_drew1) | exact HB.out)⟩⟩
    case round =>
      clear H'
      try clear c2
      try clear c2b0
      try clear c2b1
      try clear p2
      obtain ⟨x0_1, x3_1, x4_1, rfl, rfl, HA, HK1, HO_3, HB⟩ := hrel
      cases gk with
      | zero => exact absurd HA.out (by simp [spec_l15Eight.l0])
      | succ k1 =>
        have H := HA.out
        clear HA
        simp only [spec_l15Eight.l0] at H
        by_cases c5 : x4_1 ≥ 0
        · rw [if_pos c5] at H
          have c5b0 : decide (0 ≤ x4_1) = true := decide_eq_true c5
          clear c5
          by_cases c6 : 0 ≤ x4_1
          · rw [if_pos c6] at H
            have c6b0 : decide (0 ≤ x4_1) = true := decide_eq_true c6
            clear c6
            by_cases c7 : x4_1 < (x3_1.length : Int)
            · rw [if_pos c7] at H
              have c7b0 : decide (x4_1 < (x3_1.length : Int)) = true := decide_eq_true c7
              clear c7
              obtain ⟨y217, hy217⟩ : ∃ y_ : List Int, y_ = (x3_1.set (x4_1 : Int).toNat ((Int.tmod x0_1 256) % 256)) := ⟨_, rfl⟩
              replace H : (spec_l15Eight.l0 k1 (IntKind.u64.wrap (Int.tdiv x0_1 256)) y217 (wrap64 (x4_1 - 1))) = some r := by first | (rw [hy217]; with_reducible exact H) | (have H2_ := (Option.bind_some _ _).symm.trans H; rw [hy217]; with_reducible exact H2_) | (have H2_ := (Option.bind_some _ _).symm.trans H; with_reducible exact H2_) | with_reducible exact H | (rw [hy217]; exact H) | exact H
              have Ny217 := Aside0.mk hy217
              clear hy217
              have H' := Aside0.mk H
              clear H
              have p8 : 0 ≤ (x4_1 : Int) := of_decide_eq_true (by first | (with_reducible assumption) | assumption)
              have q8 : (x4_1 : Int) < ((x3_1.length : Int) : Int) := of_decide_eq_true (by first | (with_reducible assumption) | assumption)
              obtain ⟨go8, co8, eo8, gb8, gl8, cl8, HG8⟩ := Kd.R_form HO_3.out (by omega)
              (first | cases eo8 | (injection eo8 with ea_ en_ ec_; (first | subst ea_ | (injection ea_ with ea_; subst ea_)); subst ec_; clear en_))
              have GB8 := Aside0.mk gb8
              have GG8 := Aside0.mk HG8
              clear gb8 gl8 HG8
              obtain ⟨hx8_0, hf8_0⟩ := Kd.R_celln 0 HO_3.out (x4_1 : Int) p8 q8
              replace p8 := eq_true p8
              replace q8 := eq_true q8
              have HP9 := Kd.R_putg HO_3.out (x4_1 : Int) ((Int.tmod x0_1 256) % 256)
              go_wp2_with (first | ((with_reducible refine gate_store (t := 5) (p := 15) rfl ?_); refine store_event (t := 5) (p := 15) (v := ?vo_w10) (w1 := (wr.setCell ⟨go8, (x4_1 : Int).toNat, none⟩ (.int .u8 ((Int.tmod x0_1 256) % 256)))) ?hg ?ho ?hn ?hr ?_; (case ho => rfl); (case hg => rfl); (case hn => rfl); (case hr => first | (go_simp; done) | (go_simp; rfl)); intro w10 hw; have hg : wr.grownBy w10 (some go8) := (by rw [hw]; exact HP9.2); have hp_ : Kd.R (Kd.int .u8) 5 w10 w.heap.size (fun _ => True) (.slice (some ⟨go8, 0, none⟩) x3_1.length co8) y217 := (by rw [hw, Ny217.out]; exact HP9.1); clear HP9; have n0_ := Aside0.mk (hp_); have n1_ := Aside0.mk ((by rw [hw]; exact below_set (HB.out) GB8.out : Below w.heap.size w w10)); clear HO_3; clear HB; have HO_3 := n0_; have HB := n1_; clear n0_ n1_; clear hg hw hp_))
              go_roundg k1
              case measure => have := HK1.out; omega
              case rel => exact ⟨(IntKind.u64.wrap (Int.tdiv x0_1 256)), (y217), (wrap64 (x4_1 - 1)), (by first | rfl | (simp; done) | (simp [*]; done)), (by first | rfl | (simp; done) | (simp [*]; done)), H', ⟨by have := HK1.out; omega⟩, ⟨by (with_reducible repeat (first | apply Kd.R_alloc | apply Kd.R_drewN | apply Kd.R_drew)); exact HO_3.out⟩, ⟨by repeat (first | (with_reducible first | exact HB.out | apply below_alloc | apply pw_below_drewN | apply below_drew1) | exact HB.out)⟩⟩
            · rw [if_neg c7] at H
              exact absurd H (by simp)
          · rw [if_neg c6] at H
            exact absurd H (by simp)
        · rw [if_neg c5] at H
          have c5b0 : decide (0 ≤ x4_1) = false := decide_eq_false c5
          clear c5
          obtain rfl := Option.some.inj H
          have hcv11 := own_string (P := Try.prog) Try.underlying96 Try.underlying5 Try.underlying9 (Kd.own_of_R HO_3.out)
          go_wp2
          go_ret
          exact ⟨by first | rfl | (simp; done) | (simp [errW_none, errW_some] <;> rfl) | (simp [*, errW_none, errW_some] <;> rfl) | (simp [bne, List.isEmpty_iff]; done) | (rw [Bool.eq_iff_iff]; simp), by repeat (first | (with_reducible first | exact HB.out | apply below_alloc | apply pw_below_drewN | apply below_drew1) | exact HB.out)⟩
  · rw [if_neg c2] at H
    exact absurd H (by simp)
def spec_l15Short.f (k : Nat) (a0 : ByteArray) : Option (ByteArray) := (spec_l01Var.f k (a0.size : Int)).bind fun t218 => (if t218.size + a0.size ≤ 9223372036854775807 then (some (t218 ++ a0)) else (none))
theorem spec_l15Short.mono : ∀ a0 k, LeO (spec_l15Short.f k a0) (spec_l15Short.f (k + 1) a0) := by
  intro a0 k
  unfold spec_l15Short.f
  repeat' first
      | (with_reducible exact spec_l01Var.mono _ _)
      | (with_reducible exact LeO.refl _)
      | (with_reducible exact LeO.none _)
      | (with_reducible refine LeO.ite ?_ ?_)
      | (with_reducible refine LeO.bind ?_ (fun _ => ?_))
      | exact spec_l01Var.mono _ _
      | exact LeO.none _
      | refine LeO.ite ?_ ?_
      | refine LeO.bind ?_ (fun _ => ?_)
set_option maxHeartbeats 8000000 in
set_option maxRecDepth 100000 in
theorem spec_l15Short.calls (k : Nat) (a0 : ByteArray) (r : ByteArray) (w : World) (h : spec_l15Short.f k a0 = some r) :
    Calls Try.prog 76 #[.string a0] w fun e w' => e = .returned (.string r) ∧ Below w.heap.size w w' := by
  have HB := Aside0.mk (Below.refl w.heap.size w)
  have H : ((spec_l01Var.f k (a0.size : Int)).bind fun t218 => (if t218.size + a0.size ≤ 9223372036854775807 then (some (t218 ++ a0)) else (none))) = some r := h
  clear h
  replace H := Option.bind_eq_some_iff.mp H
  obtain ⟨t218, A20, H⟩ := H
  replace H : (if t218.size + a0.size ≤ 9223372036854775807 then (some (t218 ++ a0)) else (none)) = some r := H
  have A2 := Aside0.mk A20
  clear A20
  by_cases c3 : t218.size + a0.size ≤ 9223372036854775807
  · rw [if_pos c3] at H
    have c3b0 := eq_true c3
    have c3b1 : decide (t218.size + a0.size ≤ 9223372036854775807) = true := decide_eq_true c3
    try have c3b2 : (9223372036854775807 < t218.size + a0.size) = False := eq_false (Nat.not_lt.2 c3)
    obtain rfl := Option.some.inj H
    go_enter Try.func76, Try.ntmps76
    go_wp2_with (first | ((with_reducible refine gate_callee (f := 74) rfl ?_); refine goesL_ (some 5) rfl rfl Try.func74 (by kernel_rfl) rfl #[.int .i64 (a0.size : Int)] rfl (by (try simp only [List.map_toArray, List.map_cons, List.map_nil]); first | done | rfl | (simp only [List.length_drop, List.length_take]; rfl)) ?_; (with_reducible refine (spec_l01Var.calls k (a0.size : Int) t218 _ A2.out).mono ?_); rintro e w4 ⟨rfl, hb⟩; refine ⟨_, rfl, ?_⟩; have n0_ := Aside0.mk (below_step (by repeat (first | (with_reducible first | exact HB.out | apply below_alloc | apply pw_below_drewN | apply below_drew1) | exact HB.out)) hb); clear HB; have HB := n0_; clear n0_; (try clear hb); (try clear hb2); (try clear hk); (try clear hi)))
    go_ret
    exact ⟨by first | rfl | (simp; done) | (simp [errW_none, errW_some] <;> rfl) | (simp [*, errW_none, errW_some] <;> rfl) | (simp [bne, List.isEmpty_iff]; done) | (rw [Bool.eq_iff_iff]; simp), by repeat (first | (with_reducible first | exact HB.out | apply below_alloc | apply pw_below_drewN | apply below_drew1) | exact HB.out)⟩
  · rw [if_neg c3] at H
    exact absurd H (by simp)
def spec_l15Flag.f (a0 : Bool) : Option (ByteArray) := if a0 = true then (some (⟨#[1]⟩ : ByteArray)) else (some (⟨#[0]⟩ : ByteArray))
set_option maxHeartbeats 8000000 in
set_option maxRecDepth 100000 in
theorem spec_l15Flag.calls (a0 : Bool) (r : ByteArray) (w : World) (h : spec_l15Flag.f a0 = some r) :
    Calls Try.prog 77 #[.bool a0] w fun e w' => e = .returned (.string r) ∧ Drawn0 w w' := by
  have H : (if a0 = true then (some (⟨#[1]⟩ : ByteArray)) else (some (⟨#[0]⟩ : ByteArray))) = some r := h
  clear h
  by_cases c2 : a0 = true
  · subst c2
    have H1 : (some (⟨#[1]⟩ : ByteArray)) = some r := by rw [if_pos rfl] at H; exact H
    clear H
    have H := H1
    clear H1
    obtain rfl := Option.some.inj H
    go_enter Try.func77, Try.ntmps77
    go_wp2
    go_ret
    exact ⟨by first | rfl | (simp; done) | (simp [*]; done), by repeat (first | exact Drawn0.refl _ | apply Drawn0.step)⟩
  · replace c2 := Bool.eq_false_iff.mpr c2
    subst c2
    have H1 : (some (⟨#[0]⟩ : ByteArray)) = some r := by rw [if_neg (show ¬ (false = true) by decide)] at H; exact H
    clear H
    have H := H1
    clear H1
    obtain rfl := Option.some.inj H
    go_enter Try.func77, Try.ntmps77
    go_wp2
    go_ret
    exact ⟨by first | rfl | (simp; done) | (simp [*]; done), by repeat (first | exact Drawn0.refl _ | apply Drawn0.step)⟩
def spec_l02Four.f (a0 : Int) : Option (ByteArray) := some (strOfNums (([(a0 / 16777216) % 256, (a0 / 65536) % 256, (a0 / 256) % 256, (a0) % 256] : List Int)))
set_option maxHeartbeats 8000000 in
set_option maxRecDepth 100000 in
theorem spec_l02Four.calls (a0 : Int) (r : ByteArray) (w : World) (h : spec_l02Four.f a0 = some r) :
    Calls Try.prog 118 #[.int .u32 a0] w fun e w' => e = .returned (.string r) ∧ Below w.heap.size w w' := by
  have HB := Aside0.mk (Below.refl w.heap.size w)
  have H : (some (strOfNums (([(a0 / 16777216) % 256, (a0 / 65536) % 256, (a0 / 256) % 256, (a0) % 256] : List Int)))) = some r := h
  clear h
  obtain ⟨y219, hy219⟩ : ∃ y_ : List Int, y_ = (([(a0 / 16777216) % 256, (a0 / 65536) % 256, (a0 / 256) % 256, (a0) % 256] : List Int)) := ⟨_, rfl⟩
  replace H : (some (strOfNums y219)) = some r := by first | (rw [hy219]; with_reducible exact H) | (have H2_ := (Option.bind_some _ _).symm.trans H; rw [hy219]; with_reducible exact H2_) | (have H2_ := (Option.bind_some _ _).symm.trans H; with_reducible exact H2_) | with_reducible exact H | (rw [hy219]; exact H) | exact H
  have Ny219 := Aside0.mk hy219
  clear hy219
  obtain rfl := Option.some.inj H
  go_enter Try.func118, Try.ntmps118
  go_wp2_with (first | ((with_reducible refine gate_dst (N := 14) rfl ?_); refine Kd.R_lit (Kd.int .u8) _ 5 ?hg (N := 14) ?hd (xs := ([(a0 / 16777216) % 256, (a0 / 65536) % 256, (a0 / 256) % 256, (a0) % 256] : List Int)) (inner := [.int .u8 ((a0 / 16777216) % 256), .int .u8 ((a0 / 65536) % 256), .int .u8 ((a0 / 256) % 256), .int .u8 ((a0) % 256)]) (ok := fun _ => True) (okp := fun _ => True) ?hr ?hp (fun _ hk => hk) trivial (Below.refl _ _) (Nat.le_refl _) (by simp) ?_; (case hd => rfl); (case hg => rfl); (case hr => first | (go_simp; done) | (go_simp; rfl)); (case hp => exact (Reps.one (show Kd.M (Kd.int .u8) _ _ _ ((a0 / 16777216) % 256) [.int .u8 ((a0 / 16777216) % 256)] from rfl) (Reps.one (show Kd.M (Kd.int .u8) _ _ _ ((a0 / 65536) % 256) [.int .u8 ((a0 / 65536) % 256)] from rfl) (Reps.one (show Kd.M (Kd.int .u8) _ _ _ ((a0 / 256) % 256) [.int .u8 ((a0 / 256) % 256)] from rfl) (Reps.one (show Kd.M (Kd.int .u8) _ _ _ ((a0) % 256) [.int .u8 ((a0) % 256)] from rfl) (Reps.none _ _)))))); intro v220 w2 ho3 hb hg_ hnew_; clear hg_ hnew_; (first | rw [← Ny219.out] at ho3 | (simp only [Int.reduceToNat] at ho3; rw [← Ny219.out] at ho3)); have n0_ := Aside0.mk (Kd.R_lower ho3 (below_size (by repeat (first | (with_reducible first | exact HB.out | apply below_alloc | apply pw_below_drewN | apply below_drew1) | exact HB.out)))); have n1_ := Aside0.mk (below_step (by repeat (first | (with_reducible first | exact HB.out | apply below_alloc | apply pw_below_drewN | apply below_drew1) | exact HB.out)) hb); clear HB; have HO221 := n0_; have HB := n1_; clear n0_ n1_; clear hb ho3; have hcv4 := own_string (P := Try.prog) Try.underlying96 Try.underlying5 Try.underlying9 (Kd.own_of_R HO221.out)))
  go_ret
  exact ⟨by first | rfl | (simp; done) | (simp [errW_none, errW_some] <;> rfl) | (simp [*, errW_none, errW_some] <;> rfl) | (simp [bne, List.isEmpty_iff]; done) | (rw [Bool.eq_iff_iff]; simp), by repeat (first | (with_reducible first | exact HB.out | apply below_alloc | apply pw_below_drewN | apply below_drew1) | exact HB.out)⟩
end Go.Proofs.Ytcbaokflimdjnaa.QFnExactReadImage
end
section
namespace Go.Proofs.Ytcbaokflimdjnaa.QFnExactReadImage
open Go.RowKit Go.Proofs.YtcbaokflimdjnaaW.PrintWords Go.Proofs.YtcbaokflimdjnaaW.PrintLast Go.Proofs.YtcbaokflimdjnaaW.PrintMore
attribute [local go_sem] max_two min_two max_three min_three max_four min_four run_field194_0 max2_mx min2_mn   -- for this text's walks alone
set_option linter.unusedVariables false
set_option linter.unusedSimpArgs false
mutual
def spec_SumMore.l0 : Nat → Int → ByteArray → Int → Option (Int)
  | 0, _, _, _ => none
  | k + 1, x0, x1, x5 => if x5 < (x1.size : Int) then (if 0 ≤ x5 then (spec_SumMore.l1 k (Go.bits .xor .u32 x0 ((bt x1 x5) % 4294967296)) x1 x5 0) else (none)) else (some x0)
def spec_SumMore.l1 : Nat → Int → ByteArray → Int → Int → Option (Int)
  | 0, _, _, _, _ => none
  | k + 1, x0, x1, x5, x6 => if x6 < 8 then (if (Int.tmod x0 2) = 1 then (spec_SumMore.l1 k (Go.bits .xor .u32 ((Int.tdiv x0 2) % 4294967296) 3558460437) x1 x5 (wrap64 (x6 + 1))) else (spec_SumMore.l1 k ((Int.tdiv x0 2) % 4294967296) x1 x5 (wrap64 (x6 + 1)))) else (spec_SumMore.l0 k x0 x1 (wrap64 (x5 + 1)))
end
def spec_SumMore.f (k : Nat) (a0 : Int) (a1 : ByteArray) : Option (Int) := spec_SumMore.l0 k a0 a1 0
theorem spec_SumMore.mono_l : ∀ k, (∀ y0 y1 y2, LeO (spec_SumMore.l0 k y0 y1 y2) (spec_SumMore.l0 (k + 1) y0 y1 y2)) ∧ (∀ y0 y1 y2 y3, LeO (spec_SumMore.l1 k y0 y1 y2 y3) (spec_SumMore.l1 (k + 1) y0 y1 y2 y3))
  | 0 => ⟨fun _ _ _ r h => by simp [spec_SumMore.l0] at h, fun _ _ _ _ r h => by simp [spec_SumMore.l1] at h⟩
  | k + 1 => by
    obtain ⟨ih0, ih1⟩ := spec_SumMore.mono_l k
    refine ⟨?_, ?_⟩
    · intro y0 y1 y2
      unfold spec_SumMore.l0
      repeat' first
      | (with_reducible exact ih0 _ _ _)
      | (with_reducible exact ih1 _ _ _ _)
      | (with_reducible exact LeO.refl _)
      | (with_reducible exact LeO.none _)
      | (with_reducible refine LeO.ite ?_ ?_)
      | (with_reducible refine LeO.bind ?_ (fun _ => ?_))
      | exact ih0 _ _ _
      | exact ih1 _ _ _ _
      | exact LeO.none _
      | refine LeO.ite ?_ ?_
      | refine LeO.bind ?_ (fun _ => ?_)
    · intro y0 y1 y2 y3
      unfold spec_SumMore.l1
      repeat' first
      | (with_reducible exact ih0 _ _ _)
      | (with_reducible exact ih1 _ _ _ _)
      | (with_reducible exact LeO.refl _)
      | (with_reducible exact LeO.none _)
      | (with_reducible refine LeO.ite ?_ ?_)
      | (with_reducible refine LeO.bind ?_ (fun _ => ?_))
      | exact ih0 _ _ _
      | exact ih1 _ _ _ _
      | exact LeO.none _
      | refine LeO.ite ?_ ?_
      | refine LeO.bind ?_ (fun _ => ?_)
theorem spec_SumMore.mono : ∀ a0 a1 k, LeO (spec_SumMore.f k a0 a1) (spec_SumMore.f (k + 1) a0 a1) := by
  intro a0 a1 k
  obtain ⟨ih0, ih1⟩ := spec_SumMore.mono_l k
  unfold spec_SumMore.f
  repeat' first
      | (with_reducible exact ih0 _ _ _)
      | (with_reducible exact ih1 _ _ _ _)
      | (with_reducible exact LeO.refl _)
      | (with_reducible exact LeO.none _)
      | (with_reducible refine LeO.ite ?_ ?_)
      | (with_reducible refine LeO.bind ?_ (fun _ => ?_))
      | exact ih0 _ _ _
      | exact ih1 _ _ _ _
      | exact LeO.none _
      | refine LeO.ite ?_ ?_
      | refine LeO.bind ?_ (fun _ => ?_)
set_option maxHeartbeats 8000000 in
set_option maxRecDepth 100000 in
theorem spec_SumMore.calls (k : Nat) (a0 : Int) (a1 : ByteArray) (r : Int) (w : World) (h : spec_SumMore.f k a0 a1 = some r) :
    Calls Try.prog 157 #[.int .u32 a0, .string a1] w fun e w' => e = .returned (.int .u32 r) ∧ Drawn0 w w' := by
  have H : (spec_SumMore.l0 k a0 a1 0) = some r := h
  clear h
  have H' := Aside0.mk H
  clear H
  go_enter Try.func157, Try.ntmps157
  go_wp2
  go_loopg [0, 5] k (fun kq v0 v5 w' => ∃ (x0_1 : Int) (x5_1 : Int), v0 = .int .u32 x0_1 ∧ v5 = .int .i64 x5_1 ∧ Aside0 (spec_SumMore.l0 kq x0_1 a1 x5_1 = some r) ∧ Aside0 (kq ≤ k) ∧ Drawn0 w w')
  case atStart => exact ⟨(a0), (0), (by first | rfl | (simp; done) | (simp [*]; done)), (by first | rfl | (simp; done) | (simp [*]; done)), H', ⟨Nat.le_refl _⟩, by repeat (first | exact Drawn0.refl _ | apply Drawn0.step)⟩
  case round =>
    clear H'
    try clear c1
    try clear p2
    obtain ⟨x0_1, x5_1, rfl, rfl, HA, HK1, ⟨m1, rfl⟩⟩ := hrel
    cases gk with
    | zero => exact absurd HA.out (by simp [spec_SumMore.l0])
    | succ k1 =>
      have H := HA.out
      clear HA
      simp only [spec_SumMore.l0] at H
      by_cases c3 : x5_1 < (a1.size : Int)
      · rw [if_pos c3] at H
        have c3b0 : decide (x5_1 < (a1.size : Int)) = true := decide_eq_true c3
        clear c3
        by_cases c4 : 0 ≤ x5_1
        · rw [if_pos c4] at H
          have c4b0 : decide (0 ≤ x5_1) = true := decide_eq_true c4
          clear c4
          have H' := Aside0.mk H
          clear H
          have p5 : 0 ≤ (x5_1 : Int) := of_decide_eq_true (by first | (with_reducible assumption) | assumption)
          have q5 : x5_1 < (a1.size : Int) := of_decide_eq_true (by first | (with_reducible assumption) | assumption)
          have hx5 := bt_at a1 x5_1
          replace p5 := eq_true p5
          replace q5 := eq_true q5
          go_wp2
          go_loopg [0, 6] k1 (fun kq v0 v6 w' => ∃ (x0_2 : Int) (x6_2 : Int), v0 = .int .u32 x0_2 ∧ v6 = .int .i64 x6_2 ∧ Aside0 (spec_SumMore.l1 kq x0_2 a1 x5_1 x6_2 = some r) ∧ Aside0 (kq ≤ k1) ∧ Drawn0 w w')
          case atStart => exact ⟨(Go.bits .xor .u32 x0_1 ((bt a1 x5_1) % 4294967296)), (0), (by first | rfl | (simp; done) | (simp [*]; done)), (by first | rfl | (simp; done) | (simp [*]; done)), H', ⟨Nat.le_refl _⟩, by repeat (first | exact Drawn0.refl _ | apply Drawn0.step)⟩
          case round =>
            clear H'
            try clear c1
            try clear p2
            try clear c3
            try clear c3b0
            try clear c4
            try clear c4b0
            try clear p5
            try clear q5
            try clear hx5
            try clear p2
            try clear p5
            try clear q5
            obtain ⟨x0_2, x6_2, rfl, rfl, HA, HK2, ⟨m2, rfl⟩⟩ := hrel
            cases gk with
            | zero => exact absurd HA.out (by simp [spec_SumMore.l1])
            | succ k2 =>
              have H := HA.out
              clear HA
              simp only [spec_SumMore.l1] at H
              by_cases c6 : x6_2 < 8
              · rw [if_pos c6] at H
                have c6b0 : decide (x6_2 < 8) = true := decide_eq_true c6
                clear c6
                by_cases c7 : (Int.tmod x0_2 2) = 1
                · rw [if_pos c7] at H
                  have c7b0 : ((Int.tmod x0_2 2) == 1) = true := beq_iff_eq.mpr c7
                  have c7b1 : ((Int.tmod x0_2 2) != 1) = false := bne_eq_false_iff_eq.mpr c7
                  clear c7
                  have H' := Aside0.mk H
                  clear H
                  go_wp2
                  go_roundg k2
                  case measure => have := HK1.out; have := HK2.out; omega
                  case rel => exact ⟨(Go.bits .xor .u32 ((Int.tdiv x0_2 2) % 4294967296) 3558460437), (wrap64 (x6_2 + 1)), (by first | rfl | (simp; done) | (simp [*]; done)), (by first | rfl | (simp; done) | (simp [*]; done)), H', ⟨by have := HK1.out; have := HK2.out; omega⟩, by repeat (first | exact Drawn0.refl _ | apply Drawn0.step)⟩
                · rw [if_neg c7] at H
                  have c7b0 : ((Int.tmod x0_2 2) == 1) = false := beq_eq_false_iff_ne.mpr c7
                  have c7b1 : ((Int.tmod x0_2 2) != 1) = true := bne_iff_ne.mpr c7
                  have H' := Aside0.mk H
                  clear H
                  go_wp2
                  go_roundg k2
                  case measure => have := HK1.out; have := HK2.out; omega
                  case rel => exact ⟨((Int.tdiv x0_2 2) % 4294967296), (wrap64 (x6_2 + 1)), (by first | rfl | (simp; done) | (simp [*]; done)), (by first | rfl | (simp; done) | (simp [*]; done)), H', ⟨by have := HK1.out; have := HK2.out; omega⟩, by repeat (first | exact Drawn0.refl _ | apply Drawn0.step)⟩
              · rw [if_neg c6] at H
                have c6b0 : decide (x6_2 < 8) = false := decide_eq_false c6
                clear c6
                have H' := Aside0.mk H
                clear H
                go_wp2
                go_roundg k2
                case measure => have := HK1.out; have := HK2.out; omega
                case rel => exact ⟨(x0_2), (wrap64 (x5_1 + 1)), (by first | rfl | (simp; done) | (simp [*]; done)), (by first | rfl | (simp; done) | (simp [*]; done)), H', ⟨by have := HK1.out; have := HK2.out; omega⟩, by repeat (first | exact Drawn0.refl _ | apply Drawn0.step)⟩
        · rw [if_neg c4] at H
          exact absurd H (by simp)
      · rw [if_neg c3] at H
        have c3b0 : decide (x5_1 < (a1.size : Int)) = false := decide_eq_false c3
        clear c3
        obtain rfl := Option.some.inj H
        go_wp2
        go_ret
        exact ⟨by first | rfl | (simp; done) | (simp [*]; done), by repeat (first | exact Drawn0.refl _ | apply Drawn0.step)⟩
def spec_SumOf.f (k : Nat) (a0 : ByteArray) : Option (Int) := (spec_SumMore.f k 4294967295 a0).bind fun t222 => (some t222)
theorem spec_SumOf.mono : ∀ a0 k, LeO (spec_SumOf.f k a0) (spec_SumOf.f (k + 1) a0) := by
  intro a0 k
  unfold spec_SumOf.f
  repeat' first
      | (with_reducible exact spec_SumMore.mono _ _ _)
      | (with_reducible exact LeO.refl _)
      | (with_reducible exact LeO.none _)
      | (with_reducible refine LeO.ite ?_ ?_)
      | (with_reducible refine LeO.bind ?_ (fun _ => ?_))
      | exact spec_SumMore.mono _ _ _
      | exact LeO.none _
      | refine LeO.ite ?_ ?_
      | refine LeO.bind ?_ (fun _ => ?_)
set_option maxHeartbeats 8000000 in
set_option maxRecDepth 100000 in
theorem spec_SumOf.calls (k : Nat) (a0 : ByteArray) (r : Int) (w : World) (h : spec_SumOf.f k a0 = some r) :
    Calls Try.prog 119 #[.string a0] w fun e w' => e = .returned (.int .u32 r) ∧ Drawn0 w w' := by
  have H : ((spec_SumMore.f k 4294967295 a0).bind fun t222 => (some t222)) = some r := h
  clear h
  replace H := Option.bind_eq_some_iff.mp H
  obtain ⟨t222, A20, H⟩ := H
  replace H : (some t222) = some r := H
  have A2 := Aside0.mk A20
  clear A20
  obtain rfl := Option.some.inj H
  go_enter Try.func119, Try.ntmps119
  go_wp2_with (first | ((with_reducible refine gate_callee (f := 157) rfl ?_); refine goesL_ (some 4) rfl rfl Try.func157 (by kernel_rfl) rfl #[.int .u32 4294967295, .string a0] rfl (by (try simp only [List.map_toArray, List.map_cons, List.map_nil]); first | done | rfl | (simp only [List.length_drop, List.length_take]; rfl)) ?_; (with_reducible refine (spec_SumMore.calls k 4294967295 a0 t222 _ A2.out).mono ?_); rintro e w' ⟨rfl, ⟨nd, rfl⟩⟩; refine ⟨_, rfl, ?_⟩))
  go_ret
  exact ⟨by first | rfl | (simp; done) | (simp [*]; done), by repeat (first | exact Drawn0.refl _ | apply Drawn0.step)⟩
def spec_Sealed.f (k : Nat) (a0 : ByteArray) : Option (ByteArray × Bool) := if (a0.size : Int) > 12000 then (some ((⟨#[]⟩ : ByteArray), false)) else ((spec_SumOf.f k a0).bind fun t223 => ((spec_l02Four.f t223).bind fun t224 => (if a0.size + t224.size ≤ 9223372036854775807 then (some (a0 ++ t224, true)) else (none))))
theorem spec_Sealed.mono : ∀ a0 k, LeO (spec_Sealed.f k a0) (spec_Sealed.f (k + 1) a0) := by
  intro a0 k
  unfold spec_Sealed.f
  repeat' first
      | (with_reducible exact spec_SumOf.mono _ _)
      | (with_reducible exact LeO.refl _)
      | (with_reducible exact LeO.none _)
      | (with_reducible refine LeO.ite ?_ ?_)
      | (with_reducible refine LeO.bind ?_ (fun _ => ?_))
      | exact spec_SumOf.mono _ _
      | exact LeO.none _
      | refine LeO.ite ?_ ?_
      | refine LeO.bind ?_ (fun _ => ?_)
set_option maxHeartbeats 8000000 in
set_option maxRecDepth 100000 in
theorem spec_Sealed.calls (k : Nat) (a0 : ByteArray) (r1 : ByteArray) (r2 : Bool) (w : World) (h : spec_Sealed.f k a0 = some (r1, r2)) :
    Calls Try.prog 78 #[.string a0] w fun e w' => e = .returned (.tuple #[.string r1, .bool r2]) ∧ Below w.heap.size w w' := by
  have HB := Aside0.mk (Below.refl w.heap.size w)
  have H : (if (a0.size : Int) > 12000 then (some ((⟨#[]⟩ : ByteArray), false)) else ((spec_SumOf.f k a0).bind fun t223 => ((spec_l02Four.f t223).bind fun t224 => (if a0.size + t224.size ≤ 9223372036854775807 then (some (a0 ++ t224, true)) else (none))))) = some (r1, r2) := h
  clear h
  by_cases c2 : (a0.size : Int) > 12000
  · rw [if_pos c2] at H
    have c2b0 : decide (12000 < (a0.size : Int)) = true := decide_eq_true c2
    have c2b1 : decide (12000 < a0.size) = true := decide_eq_true (by omega)
    clear c2
    simp only [Option.some.injEq, Prod.mk.injEq] at H
    obtain ⟨rfl, rfl⟩ := H
    go_enter Try.func78, Try.ntmps78
    go_wp2
    go_ret2
    exact ⟨by first | rfl | (simp; done) | (simp [errW_none, errW_some] <;> rfl) | (simp [*, errW_none, errW_some] <;> rfl) | (simp [bne, List.isEmpty_iff]; done) | (rw [Bool.eq_iff_iff]; simp), by repeat (first | (with_reducible first | exact HB.out | apply below_alloc | apply pw_below_drewN | apply below_drew1) | exact HB.out)⟩
  · rw [if_neg c2] at H
    have c2b0 : decide (12000 < (a0.size : Int)) = false := decide_eq_false c2
    have c2b1 : decide (12000 < a0.size) = false := decide_eq_false (by omega)
    clear c2
    replace H := Option.bind_eq_some_iff.mp H
    obtain ⟨t223, A30, H⟩ := H
    replace H : ((spec_l02Four.f t223).bind fun t224 => (if a0.size + t224.size ≤ 9223372036854775807 then (some (a0 ++ t224, true)) else (none))) = some (r1, r2) := H
    have A3 := Aside0.mk A30
    clear A30
    replace H := Option.bind_eq_some_iff.mp H
    obtain ⟨t224, A40, H⟩ := H
    replace H : (if a0.size + t224.size ≤ 9223372036854775807 then (some (a0 ++ t224, true)) else (none)) = some (r1, r2) := H
    have A4 := Aside0.mk A40
    clear A40
    by_cases c5 : a0.size + t224.size ≤ 9223372036854775807
    · rw [if_pos c5] at H
      have c5b0 := eq_true c5
      have c5b1 : decide (a0.size + t224.size ≤ 9223372036854775807) = true := decide_eq_true c5
      try have c5b2 : (9223372036854775807 < a0.size + t224.size) = False := eq_false (Nat.not_lt.2 c5)
      simp only [Option.some.injEq, Prod.mk.injEq] at H
      obtain ⟨rfl, rfl⟩ := H
      go_enter Try.func78, Try.ntmps78
      go_wp2_with (first | ((with_reducible refine gate_callee (f := 119) rfl ?_); refine goesL_ (some 9) rfl rfl Try.func119 (by kernel_rfl) rfl #[.string a0] rfl (by (try simp only [List.map_toArray, List.map_cons, List.map_nil]); first | done | rfl | (simp only [List.length_drop, List.length_take]; rfl)) ?_; (with_reducible refine (spec_SumOf.calls k a0 t223 _ A3.out).mono ?_); rintro e w' ⟨rfl, ⟨nd, rfl⟩⟩; refine ⟨_, rfl, ?_⟩) | ((with_reducible refine gate_callee (f := 118) rfl ?_); refine goesL_ (some 10) rfl rfl Try.func118 (by kernel_rfl) rfl #[.int .u32 t223] rfl (by (try simp only [List.map_toArray, List.map_cons, List.map_nil]); first | done | rfl | (simp only [List.length_drop, List.length_take]; rfl)) ?_; (with_reducible refine (spec_l02Four.calls t223 t224 _ A4.out).mono ?_); rintro e w6 ⟨rfl, hb⟩; refine ⟨_, rfl, ?_⟩; have n0_ := Aside0.mk (below_step (by repeat (first | (with_reducible first | exact HB.out | apply below_alloc | apply pw_below_drewN | apply below_drew1) | exact HB.out)) hb); clear HB; have HB := n0_; clear n0_; (try clear hb); (try clear hb2); (try clear hk); (try clear hi)))
      go_ret2
      exact ⟨by first | rfl | (simp; done) | (simp [errW_none, errW_some] <;> rfl) | (simp [*, errW_none, errW_some] <;> rfl) | (simp [bne, List.isEmpty_iff]; done) | (rw [Bool.eq_iff_iff]; simp), by repeat (first | (with_reducible first | exact HB.out | apply below_alloc | apply pw_below_drewN | apply below_drew1) | exact HB.out)⟩
    · rw [if_neg c5] at H
      exact absurd H (by simp)
-- NOT PRINTED: function 45 (spec_ImageText)
end Go.Proofs.Ytcbaokflimdjnaa.QFnExactReadImage
end
section
namespace Go.Proofs.Ytcbaokflimdjnaa.QFnExactReadImage
open Go.RowKit Go.Proofs.YtcbaokflimdjnaaW.PrintWords Go.Proofs.YtcbaokflimdjnaaW.PrintLast Go.Proofs.YtcbaokflimdjnaaW.PrintMore
attribute [local go_sem] max_two min_two max_three min_three max_four min_four run_field194_0 max2_mx min2_mn   -- for this text's walks alone
set_option linter.unusedVariables false
set_option linter.unusedSimpArgs false
def impl_within.f (a0 : Int) (a1 : Int) (a2 : Int) : Option (Bool) := if a0 ≥ a1 then (some (decide (a0 ≤ a2))) else (some false)
set_option maxHeartbeats 8000000 in
set_option maxRecDepth 100000 in
theorem impl_within.calls (a0 : Int) (a1 : Int) (a2 : Int) (r : Bool) (w : World) (h : impl_within.f a0 a1 a2 = some r) :
    Calls Try.prog 60 #[.int .i64 a0, .int .i64 a1, .int .i64 a2] w fun e w' => e = .returned (.bool r) ∧ Drawn0 w w' := by
  have H : (if a0 ≥ a1 then (some (decide (a0 ≤ a2))) else (some false)) = some r := h
  clear h
  by_cases c4 : a0 ≥ a1
  · rw [if_pos c4] at H
    have c4b0 : decide (a1 ≤ a0) = true := decide_eq_true c4
    clear c4
    obtain rfl := Option.some.inj H
    go_enter Try.func60, Try.ntmps60
    go_wp2
    go_ret
    exact ⟨by first | rfl | (simp; done) | (simp [*]; done), by repeat (first | exact Drawn0.refl _ | apply Drawn0.step)⟩
  · rw [if_neg c4] at H
    have c4b0 : decide (a1 ≤ a0) = false := decide_eq_false c4
    clear c4
    obtain rfl := Option.some.inj H
    go_enter Try.func60, Try.ntmps60
    go_wp2
    go_ret
    exact ⟨by first | rfl | (simp; done) | (simp [*]; done), by repeat (first | exact Drawn0.refl _ | apply Drawn0.step)⟩
end Go.Proofs.Ytcbaokflimdjnaa.QFnExactReadImage
end
section
namespace Go.Proofs.Ytcbaokflimdjnaa.QFnExactReadImage
open Go.RowKit Go.Proofs.YtcbaokflimdjnaaW.PrintWords Go.Proofs.YtcbaokflimdjnaaW.PrintLast Go.Proofs.YtcbaokflimdjnaaW.PrintMore
attribute [local go_sem] max_two min_two max_three min_three max_four min_four run_field194_0 max2_mx min2_mn   -- for this text's walks alone
set_option linter.unusedVariables false
set_option linter.unusedSimpArgs false
def impl_VarText.l0 : Nat → Int → List Int → Option (ByteArray × Bool)
  | 0, _, _ => none
  | k + 1, x0, x4 => if x0 > 127 then (if x4.length < 140737488355328 then (impl_VarText.l0 k (x0 / 128) (x4 ++ [(Go.bits .or .i64 (Go.bits .and .i64 x0 127) 128) % 256])) else (none)) else (if x4.length < 140737488355328 then (some (strOfNums (x4 ++ [(x0) % 256]), true)) else (none))
def impl_VarText.f (k : Nat) (a0 : Int) : Option (ByteArray × Bool) := (impl_within.f a0 0 1000000000).bind fun t321 => (if t321 = true then (impl_VarText.l0 k a0 (([] : List Int))) else (some ((⟨#[]⟩ : ByteArray), false)))
theorem impl_VarText.mono_l : ∀ k, (∀ y0 y1, LeO (impl_VarText.l0 k y0 y1) (impl_VarText.l0 (k + 1) y0 y1))
  | 0 => fun _ _ r h => by simp [impl_VarText.l0] at h
  | k + 1 => by
    have ih0 := impl_VarText.mono_l k
    · intro y0 y1
      unfold impl_VarText.l0
      repeat' first
      | (with_reducible exact ih0 _ _)
      | (with_reducible exact LeO.refl _)
      | (with_reducible exact LeO.none _)
      | (with_reducible refine LeO.ite ?_ ?_)
      | (with_reducible refine LeO.bind ?_ (fun _ => ?_))
      | exact ih0 _ _
      | exact LeO.none _
      | refine LeO.ite ?_ ?_
      | refine LeO.bind ?_ (fun _ => ?_)
theorem impl_VarText.mono : ∀ a0 k, LeO (impl_VarText.f k a0) (impl_VarText.f (k + 1) a0) := by
  intro a0 k
  have ih0 := impl_VarText.mono_l k
  unfold impl_VarText.f
  repeat' first
      | (with_reducible exact ih0 _ _)
      | (with_reducible exact LeO.refl _)
      | (with_reducible exact LeO.none _)
      | (with_reducible refine LeO.ite ?_ ?_)
      | (with_reducible refine LeO.bind ?_ (fun _ => ?_))
      | exact ih0 _ _
      | exact LeO.none _
      | refine LeO.ite ?_ ?_
      | refine LeO.bind ?_ (fun _ => ?_)
set_option maxHeartbeats 8000000 in
set_option maxRecDepth 100000 in
theorem impl_VarText.calls (k : Nat) (a0 : Int) (r1 : ByteArray) (r2 : Bool) (w : World) (h : impl_VarText.f k a0 = some (r1, r2)) :
    Calls Try.prog 158 #[.int .i64 a0] w fun e w' => e = .returned (.tuple #[.string r1, .bool r2]) ∧ Below w.heap.size w w' := by
  have HB := Aside0.mk (Below.refl w.heap.size w)
  have H : ((impl_within.f a0 0 1000000000).bind fun t321 => (if t321 = true then (impl_VarText.l0 k a0 (([] : List Int))) else (some ((⟨#[]⟩ : ByteArray), false)))) = some (r1, r2) := h
  clear h
  replace H := Option.bind_eq_some_iff.mp H
  obtain ⟨t321, A20, H⟩ := H
  replace H : (if t321 = true then (impl_VarText.l0 k a0 (([] : List Int))) else (some ((⟨#[]⟩ : ByteArray), false))) = some (r1, r2) := H
  have A2 := Aside0.mk A20
  clear A20
  by_cases c3 : t321 = true
  · subst c3
    have H1 : (impl_VarText.l0 k a0 (([] : List Int))) = some (r1, r2) := by rw [if_pos rfl] at H; exact H
    clear H
    have H := H1
    clear H1
    obtain ⟨y322, hy322⟩ : ∃ y_ : List Int, y_ = (([] : List Int)) := ⟨_, rfl⟩
    replace H : (impl_VarText.l0 k a0 y322) = some (r1, r2) := by first | (rw [hy322]; with_reducible exact H) | (have H2_ := (Option.bind_some _ _).symm.trans H; rw [hy322]; with_reducible exact H2_) | (have H2_ := (Option.bind_some _ _).symm.trans H; with_reducible exact H2_) | with_reducible exact H | (rw [hy322]; exact H) | exact H
    have Ny322 := Aside0.mk hy322
    clear hy322
    have H' := Aside0.mk H
    clear H
    go_enter Try.func158, Try.ntmps158
    go_wp2_with (first | ((with_reducible refine gate_callee (f := 60) rfl ?_); refine goesL_ (some 6) rfl rfl Try.func60 (by kernel_rfl) rfl #[.int .i64 a0, .int .i64 0, .int .i64 1000000000] rfl (by (try simp only [List.map_toArray, List.map_cons, List.map_nil]); first | done | rfl | (simp only [List.length_drop, List.length_take]; rfl)) ?_; (with_reducible refine (impl_within.calls a0 0 1000000000 true _ A2.out).mono ?_); rintro e w' ⟨rfl, ⟨nd, rfl⟩⟩; refine ⟨_, rfl, ?_⟩) | ((with_reducible refine gate_dst (N := 8) rfl ?_); refine Kd.R_lit (Kd.int .u8) _ 5 ?hg (N := 8) ?hd (xs := ([] : List Int)) (inner := []) (ok := fun _ => True) (okp := fun _ => True) ?hr ?hp (fun _ hk => hk) trivial (Below.refl _ _) (Nat.le_refl _) (by simp) ?_; (case hd => rfl); (case hg => rfl); (case hr => first | (go_simp; done) | (go_simp; rfl)); (case hp => exact (Reps.none _ _)); intro v323 w4 ho5 hb hg_ hnew_; clear hg_ hnew_; (first | rw [← Ny322.out] at ho5 | (simp only [Int.reduceToNat] at ho5; rw [← Ny322.out] at ho5)); have n0_ := Aside0.mk (Kd.R_lower ho5 (below_size (by repeat (first | (with_reducible first | exact HB.out | apply below_alloc | apply pw_below_drewN | apply below_drew1) | exact HB.out)))); have n1_ := Aside0.mk (below_step (by repeat (first | (with_reducible first | exact HB.out | apply below_alloc | apply pw_below_drewN | apply below_drew1) | exact HB.out)) hb); clear HB; have HO324 := n0_; have HB := n1_; clear n0_ n1_; clear hb ho5))
    go_loopg [0, 4] k (fun kq v0 v4 w' => ∃ (x0_1 : Int) (x4_1 : List Int), v0 = .int .i64 x0_1 ∧ Aside0 (impl_VarText.l0 kq x0_1 x4_1 = some (r1, r2)) ∧ Aside0 (kq ≤ k) ∧ Aside0 (Kd.R (Kd.int .u8) 5 w' w.heap.size (fun _ => True) v4 x4_1) ∧ Aside0 (Below w.heap.size w w'))
    case atStart => exact ⟨(a0), (y322), (by first | rfl | (simp; done) | (simp [*]; done)), H', ⟨Nat.le_refl _⟩, ⟨by (with_reducible repeat (first | apply Kd.R_alloc | apply Kd.R_drewN | apply Kd.R_drew)); exact HO324.out⟩, ⟨by repeat (first | (with_reducible first | exact HB.out | apply below_alloc | apply pw_below_drewN | apply below_drew1) | exact HB.out)⟩⟩
    case round =>
      clear H'
      try clear c1
      try clear p2
      try clear c3
      obtain ⟨x0_1, x4_1, rfl, HA, HK1, HO_4, HB⟩ := hrel
      cases gk with
      | zero => exact absurd HA.out (by simp [impl_VarText.l0])
      | succ k1 =>
        have H := HA.out
        clear HA
        simp only [impl_VarText.l0] at H
        by_cases c6 : x0_1 > 127
        · rw [if_pos c6] at H
          have c6b0 : decide (127 < x0_1) = true := decide_eq_true c6
          clear c6
          by_cases c7 : x4_1.length < 140737488355328
          · rw [if_pos c7] at H
            have LMc7 := Aside0.mk c7
            clear c7
            obtain ⟨y325, hy325⟩ : ∃ y_ : List Int, y_ = (x4_1 ++ [(Go.bits .or .i64 (Go.bits .and .i64 x0_1 127) 128) % 256]) := ⟨_, rfl⟩
            replace H : (impl_VarText.l0 k1 (x0_1 / 128) y325) = some (r1, r2) := by first | (rw [hy325]; with_reducible exact H) | (have H2_ := (Option.bind_some _ _).symm.trans H; rw [hy325]; with_reducible exact H2_) | (have H2_ := (Option.bind_some _ _).symm.trans H; with_reducible exact H2_) | with_reducible exact H | (rw [hy325]; exact H) | exact H
            have Ny325 := Aside0.mk hy325
            clear hy325
            have H' := Aside0.mk H
            clear H
            go_wp2_with (first | ((with_reducible refine gate_builtin (b := .append) (xs := #[.tmp 11, .tmp 16]) rfl ?_); at_builtin; refine Kd.R_append (Kd.int .u8) (w0 := w) w.heap.size rfl (.tmp 11) (.tmp 16) 96 5 (.int .u8 0) 1 rfl Try.underlying96 info5 rfl (by decide) (by omega) u4 x4_1 ((Go.bits .or .i64 (Go.bits .and .i64 x0_1 127) 128) % 256) [.int .u8 ((Go.bits .or .i64 (Go.bits .and .i64 x0_1 127) 128) % 256)] (fun _ => True) (fun _ => False) rfl rfl ?aP (fun _ hk => hk.elim) ?aF ?aO ?aB ?aS ?aL ?_; (case aP => exact rfl); (case aB => exact (by repeat (first | (with_reducible first | exact HB.out | apply below_alloc | apply pw_below_drewN | apply below_drew1) | exact HB.out))); (case aF => exact (fun _ _ => trivial)); (case aO => exact (by (with_reducible repeat (first | apply Kd.R_alloc | apply Kd.R_drewN | apply Kd.R_drew)); exact HO_4.out)); (case aS => exact (below_size (by repeat (first | (with_reducible first | exact HB.out | apply below_alloc | apply pw_below_drewN | apply below_drew1) | exact HB.out)))); (case aL => have := LMc7.out; omega); intro v326 w8 ho hb hg hat; rw [← Ny325.out] at ho; have n0_ := Aside0.mk (hb); have n1_ := Aside0.mk (ho); clear HB; clear HO_4; have HB := n0_; have HO327 := n1_; clear n0_ n1_; clear ho hb hg hat))
            go_roundg k1
            case measure => have := HK1.out; omega
            case rel => exact ⟨(x0_1 / 128), (y325), (by first | rfl | (simp; done) | (simp [*]; done)), H', ⟨by have := HK1.out; omega⟩, ⟨by (with_reducible repeat (first | apply Kd.R_alloc | apply Kd.R_drewN | apply Kd.R_drew)); exact HO327.out⟩, ⟨by repeat (first | (with_reducible first | exact HB.out | apply below_alloc | apply pw_below_drewN | apply below_drew1) | exact HB.out)⟩⟩
          · rw [if_neg c7] at H
            exact absurd H (by simp)
        · rw [if_neg c6] at H
          have c6b0 : decide (127 < x0_1) = false := decide_eq_false c6
          clear c6
          by_cases c9 : x4_1.length < 140737488355328
          · rw [if_pos c9] at H
            have LMc9 := Aside0.mk c9
            clear c9
            obtain ⟨y328, hy328⟩ : ∃ y_ : List Int, y_ = (x4_1 ++ [(x0_1) % 256]) := ⟨_, rfl⟩
            replace H : (some (strOfNums y328, true)) = some (r1, r2) := by first | (rw [hy328]; with_reducible exact H) | (have H2_ := (Option.bind_some _ _).symm.trans H; rw [hy328]; with_reducible exact H2_) | (have H2_ := (Option.bind_some _ _).symm.trans H; with_reducible exact H2_) | with_reducible exact H | (rw [hy328]; exact H) | exact H
            have Ny328 := Aside0.mk hy328
            clear hy328
            simp only [Option.some.injEq, Prod.mk.injEq] at H
            obtain ⟨rfl, rfl⟩ := H
            go_wp2_with (first | ((with_reducible refine gate_builtin (b := .append) (xs := #[.tmp 20, .tmp 23]) rfl ?_); at_builtin; refine Kd.R_append (Kd.int .u8) (w0 := w) w.heap.size rfl (.tmp 20) (.tmp 23) 96 5 (.int .u8 0) 1 rfl Try.underlying96 info5 rfl (by decide) (by omega) u4 x4_1 ((x0_1) % 256) [.int .u8 ((x0_1) % 256)] (fun _ => True) (fun _ => False) rfl rfl ?aP (fun _ hk => hk.elim) ?aF ?aO ?aB ?aS ?aL ?_; (case aP => exact rfl); (case aB => exact (by repeat (first | (with_reducible first | exact HB.out | apply below_alloc | apply pw_below_drewN | apply below_drew1) | exact HB.out))); (case aF => exact (fun _ _ => trivial)); (case aO => exact (by (with_reducible repeat (first | apply Kd.R_alloc | apply Kd.R_drewN | apply Kd.R_drew)); exact HO_4.out)); (case aS => exact (below_size (by repeat (first | (with_reducible first | exact HB.out | apply below_alloc | apply pw_below_drewN | apply below_drew1) | exact HB.out)))); (case aL => have := LMc9.out; omega); intro v329 w10 ho hb hg hat; rw [← Ny328.out] at ho; have n0_ := Aside0.mk (hb); have n1_ := Aside0.mk (ho); clear HB; clear HO_4; have HB := n0_; have HO330 := n1_; clear n0_ n1_; clear ho hb hg hat; have hcv11 := own_string (P := Try.prog) Try.underlying96 Try.underlying5 Try.underlying9 (Kd.own_of_R HO330.out)))
            go_ret2
            exact ⟨by first | rfl | (simp; done) | (simp [errW_none, errW_some] <;> rfl) | (simp [*, errW_none, errW_some] <;> rfl) | (simp [bne, List.isEmpty_iff]; done) | (rw [Bool.eq_iff_iff]; simp), by repeat (first | (with_reducible first | exact HB.out | apply below_alloc | apply pw_below_drewN | apply below_drew1) | exact HB.out)⟩
          · rw [if_neg c9] at H
            exact absurd H (by simp)
  · replace c3 := Bool.eq_false_iff.mpr c3
    subst c3
    have H1 : (some ((⟨#[]⟩ : ByteArray), false)) = some (r1, r2) := by rw [if_neg (show ¬ (false = true) by decide)] at H; exact H
    clear H
    have H := H1
    clear H1
    simp only [Option.some.injEq, Prod.mk.injEq] at H
    obtain ⟨rfl, rfl⟩ := H
    go_enter Try.func158, Try.ntmps158
    go_wp2_with (first | ((with_reducible refine gate_callee (f := 60) rfl ?_); refine goesL_ (some 6) rfl rfl Try.func60 (by kernel_rfl) rfl #[.int .i64 a0, .int .i64 0, .int .i64 1000000000] rfl (by (try simp only [List.map_toArray, List.map_cons, List.map_nil]); first | done | rfl | (simp only [List.length_drop, List.length_take]; rfl)) ?_; (with_reducible refine (impl_within.calls a0 0 1000000000 false _ A2.out).mono ?_); rintro e w' ⟨rfl, ⟨nd, rfl⟩⟩; refine ⟨_, rfl, ?_⟩))
    go_ret2
    exact ⟨by first | rfl | (simp; done) | (simp [errW_none, errW_some] <;> rfl) | (simp [*, errW_none, errW_some] <;> rfl) | (simp [bne, List.isEmpty_iff]; done) | (rw [Bool.eq_iff_iff]; simp), by repeat (first | (with_reducible first | exact HB.out | apply below_alloc | apply pw_below_drewN | apply below_drew1) | exact HB.out)⟩
-- NOT PRINTED: function 120 (impl_writer_num)
-- NOT PRINTED: function 79 (impl_imageBytes)
def impl_four.f (a0 : Int) : Option (ByteArray) := some (strOfNums (([(a0 / 16777216) % 256, (a0 / 65536) % 256, (a0 / 256) % 256, (a0) % 256] : List Int)))
set_option maxHeartbeats 8000000 in
set_option maxRecDepth 100000 in
theorem impl_four.calls (a0 : Int) (r : ByteArray) (w : World) (h : impl_four.f a0 = some r) :
    Calls Try.prog 121 #[.int .u32 a0] w fun e w' => e = .returned (.string r) ∧ Below w.heap.size w w' := by
  have HB := Aside0.mk (Below.refl w.heap.size w)
  have H : (some (strOfNums (([(a0 / 16777216) % 256, (a0 / 65536) % 256, (a0 / 256) % 256, (a0) % 256] : List Int)))) = some r := h
  clear h
  obtain ⟨y342, hy342⟩ : ∃ y_ : List Int, y_ = (([(a0 / 16777216) % 256, (a0 / 65536) % 256, (a0 / 256) % 256, (a0) % 256] : List Int)) := ⟨_, rfl⟩
  replace H : (some (strOfNums y342)) = some r := by first | (rw [hy342]; with_reducible exact H) | (have H2_ := (Option.bind_some _ _).symm.trans H; rw [hy342]; with_reducible exact H2_) | (have H2_ := (Option.bind_some _ _).symm.trans H; with_reducible exact H2_) | with_reducible exact H | (rw [hy342]; exact H) | exact H
  have Ny342 := Aside0.mk hy342
  clear hy342
  obtain rfl := Option.some.inj H
  go_enter Try.func121, Try.ntmps121
  go_wp2_with (first | ((with_reducible refine gate_dst (N := 14) rfl ?_); refine Kd.R_lit (Kd.int .u8) _ 5 ?hg (N := 14) ?hd (xs := ([(a0 / 16777216) % 256, (a0 / 65536) % 256, (a0 / 256) % 256, (a0) % 256] : List Int)) (inner := [.int .u8 ((a0 / 16777216) % 256), .int .u8 ((a0 / 65536) % 256), .int .u8 ((a0 / 256) % 256), .int .u8 ((a0) % 256)]) (ok := fun _ => True) (okp := fun _ => True) ?hr ?hp (fun _ hk => hk) trivial (Below.refl _ _) (Nat.le_refl _) (by simp) ?_; (case hd => rfl); (case hg => rfl); (case hr => first | (go_simp; done) | (go_simp; rfl)); (case hp => exact (Reps.one (show Kd.M (Kd.int .u8) _ _ _ ((a0 / 16777216) % 256) [.int .u8 ((a0 / 16777216) % 256)] from rfl) (Reps.one (show Kd.M (Kd.int .u8) _ _ _ ((a0 / 65536) % 256) [.int .u8 ((a0 / 65536) % 256)] from rfl) (Reps.one (show Kd.M (Kd.int .u8) _ _ _ ((a0 / 256) % 256) [.int .u8 ((a0 / 256) % 256)] from rfl) (Reps.one (show Kd.M (Kd.int .u8) _ _ _ ((a0) % 256) [.int .u8 ((a0) % 256)] from rfl) (Reps.none _ _)))))); intro v343 w2 ho3 hb hg_ hnew_; clear hg_ hnew_; (first | rw [← Ny342.out] at ho3 | (simp only [Int.reduceToNat] at ho3; rw [← Ny342.out] at ho3)); have n0_ := Aside0.mk (Kd.R_lower ho3 (below_size (by repeat (first | (with_reducible first | exact HB.out | apply below_alloc | apply pw_below_drewN | apply below_drew1) | exact HB.out)))); have n1_ := Aside0.mk (below_step (by repeat (first | (with_reducible first | exact HB.out | apply below_alloc | apply pw_below_drewN | apply below_drew1) | exact HB.out)) hb); clear HB; have HO344 := n0_; have HB := n1_; clear n0_ n1_; clear hb ho3; have hcv4 := own_string (P := Try.prog) Try.underlying96 Try.underlying5 Try.underlying9 (Kd.own_of_R HO344.out)))
  go_ret
  exact ⟨by first | rfl | (simp; done) | (simp [errW_none, errW_some] <;> rfl) | (simp [*, errW_none, errW_some] <;> rfl) | (simp [bne, List.isEmpty_iff]; done) | (rw [Bool.eq_iff_iff]; simp), by repeat (first | (with_reducible first | exact HB.out | apply below_alloc | apply pw_below_drewN | apply below_drew1) | exact HB.out)⟩
end Go.Proofs.Ytcbaokflimdjnaa.QFnExactReadImage
end
section
namespace Go.Proofs.Ytcbaokflimdjnaa.QFnExactReadImage
open Go.RowKit Go.Proofs.YtcbaokflimdjnaaW.PrintWords Go.Proofs.YtcbaokflimdjnaaW.PrintLast Go.Proofs.YtcbaokflimdjnaaW.PrintMore
attribute [local go_sem] max_two min_two max_three min_three max_four min_four run_field194_0 max2_mx min2_mn   -- for this text's walks alone
set_option linter.unusedVariables false
set_option linter.unusedSimpArgs false
mutual
def impl_SumMore.l0 : Nat → Int → ByteArray → Int → Int → Option (Int)
  | 0, _, _, _, _ => none
  | k + 1, x0, x1, x8, x9 => if x9 < x8 then (if 0 ≤ x9 then (if x9 < (x1.size : Int) then (impl_SumMore.l1 k (Go.bits .xor .u32 x0 ((bt x1 x9) % 4294967296)) x1 x8 x9 0) else (none)) else (none)) else (some x0)
def impl_SumMore.l1 : Nat → Int → ByteArray → Int → Int → Int → Option (Int)
  | 0, _, _, _, _, _ => none
  | k + 1, x0, x1, x8, x9, x18 => if x18 < 8 then (if (Go.bits .and .u32 x0 1) = 1 then (impl_SumMore.l1 k (Go.bits .xor .u32 (x0 / 2) 3558460437) x1 x8 x9 (wrap64 (x18 + 1))) else (impl_SumMore.l1 k (x0 / 2) x1 x8 x9 (wrap64 (x18 + 1)))) else (impl_SumMore.l0 k x0 x1 x8 (wrap64 (x9 + 1)))
end
def impl_SumMore.f (k : Nat) (a0 : Int) (a1 : ByteArray) : Option (Int) := impl_SumMore.l0 k a0 a1 (a1.size : Int) 0
theorem impl_SumMore.mono_l : ∀ k, (∀ y0 y1 y2 y3, LeO (impl_SumMore.l0 k y0 y1 y2 y3) (impl_SumMore.l0 (k + 1) y0 y1 y2 y3)) ∧ (∀ y0 y1 y2 y3 y4, LeO (impl_SumMore.l1 k y0 y1 y2 y3 y4) (impl_SumMore.l1 (k + 1) y0 y1 y2 y3 y4))
  | 0 => ⟨fun _ _ _ _ r h => by simp [impl_SumMore.l0] at h, fun _ _ _ _ _ r h => by simp [impl_SumMore.l1] at h⟩
  | k + 1 => by
    obtain ⟨ih0, ih1⟩ := impl_SumMore.mono_l k
    refine ⟨?_, ?_⟩
    · intro y0 y1 y2 y3
      unfold impl_SumMore.l0
      repeat' first
      | (with_reducible exact ih0 _ _ _ _)
      | (with_reducible exact ih1 _ _ _ _ _)
      | (with_reducible exact LeO.refl _)
      | (with_reducible exact LeO.none _)
      | (with_reducible refine LeO.ite ?_ ?_)
      | (with_reducible refine LeO.bind ?_ (fun _ => ?_))
      | exact ih0 _ _ _ _
      | exact ih1 _ _ _ _ _
      | exact LeO.none _
      | refine LeO.ite ?_ ?_
      | refine LeO.bind ?_ (fun _ => ?_)
    · intro y0 y1 y2 y3 y4
      unfold impl_SumMore.l1
      repeat' first
      | (with_reducible exact ih0 _ _ _ _)
      | (with_reducible exact ih1 _ _ _ _ _)
      | (with_reducible exact LeO.refl _)
      | (with_reducible exact LeO.none _)
      | (with_reducible refine LeO.ite ?_ ?_)
      | (with_reducible refine LeO.bind ?_ (fun _ => ?_))
      | exact ih0 _ _ _ _
      | exact ih1 _ _ _ _ _
      | exact LeO.none _
      | refine LeO.ite ?_ ?_
      | refine LeO.bind ?_ (fun _ => ?_)
theorem impl_SumMore.mono : ∀ a0 a1 k, LeO (impl_SumMore.f k a0 a1) (impl_SumMore.f (k + 1) a0 a1) := by
  intro a0 a1 k
  obtain ⟨ih0, ih1⟩ := impl_SumMore.mono_l k
  unfold impl_SumMore.f
  repeat' first
      | (with_reducible exact ih0 _ _ _ _)
      | (with_reducible exact ih1 _ _ _ _ _)
      | (with_reducible exact LeO.refl _)
      | (with_reducible exact LeO.none _)
      | (with_reducible refine LeO.ite ?_ ?_)
      | (with_reducible refine LeO.bind ?_ (fun _ => ?_))
      | exact ih0 _ _ _ _
      | exact ih1 _ _ _ _ _
      | exact LeO.none _
      | refine LeO.ite ?_ ?_
      | refine LeO.bind ?_ (fun _ => ?_)
set_option maxHeartbeats 8000000 in
set_option maxRecDepth 100000 in
theorem impl_SumMore.calls (k : Nat) (a0 : Int) (a1 : ByteArray) (r : Int) (w : World) (h : impl_SumMore.f k a0 a1 = some r) :
    Calls Try.prog 159 #[.int .u32 a0, .string a1] w fun e w' => e = .returned (.int .u32 r) ∧ Drawn0 w w' := by
  have H : (impl_SumMore.l0 k a0 a1 (a1.size : Int) 0) = some r := h
  clear h
  have H' := Aside0.mk H
  clear H
  go_enter Try.func159, Try.ntmps159
  go_wp2
  go_loopg [0, 9] k (fun kq v0 v9 w' => ∃ (x0_1 : Int) (x9_1 : Int), v0 = .int .u32 x0_1 ∧ v9 = .int .i64 x9_1 ∧ Aside0 (impl_SumMore.l0 kq x0_1 a1 (a1.size : Int) x9_1 = some r) ∧ Aside0 (kq ≤ k) ∧ Drawn0 w w')
  case atStart => exact ⟨(a0), (0), (by first | rfl | (simp; done) | (simp [*]; done)), (by first | rfl | (simp; done) | (simp [*]; done)), H', ⟨Nat.le_refl _⟩, by repeat (first | exact Drawn0.refl _ | apply Drawn0.step)⟩
  case round =>
    clear H'
    try clear c1
    try clear p2
    obtain ⟨x0_1, x9_1, rfl, rfl, HA, HK1, ⟨m1, rfl⟩⟩ := hrel
    cases gk with
    | zero => exact absurd HA.out (by simp [impl_SumMore.l0])
    | succ k1 =>
      have H := HA.out
      clear HA
      simp only [impl_SumMore.l0] at H
      by_cases c3 : x9_1 < (a1.size : Int)
      · rw [if_pos c3] at H
        have c3b0 : decide (x9_1 < (a1.size : Int)) = true := decide_eq_true c3
        clear c3
        by_cases c4 : 0 ≤ x9_1
        · rw [if_pos c4] at H
          have c4b0 : decide (0 ≤ x9_1) = true := decide_eq_true c4
          clear c4
          by_cases c5 : x9_1 < (a1.size : Int)
          · rw [if_pos c5] at H
            have c5b0 : decide (x9_1 < (a1.size : Int)) = true := decide_eq_true c5
            clear c5
            have H' := Aside0.mk H
            clear H
            have p6 : 0 ≤ (x9_1 : Int) := of_decide_eq_true (by first | (with_reducible assumption) | assumption)
            have q6 : x9_1 < (a1.size : Int) := of_decide_eq_true (by first | (with_reducible assumption) | assumption)
            have hx6 := bt_at a1 x9_1
            replace p6 := eq_true p6
            replace q6 := eq_true q6
            go_wp2
            go_loopg [0, 18] k1 (fun kq v0 v18 w' => ∃ (x0_2 : Int) (x18_2 : Int), v0 = .int .u32 x0_2 ∧ v18 = .int .i64 x18_2 ∧ Aside0 (impl_SumMore.l1 kq x0_2 a1 (a1.size : Int) x9_1 x18_2 = some r) ∧ Aside0 (kq ≤ k1) ∧ Drawn0 w w')
            case atStart => exact ⟨(Go.bits .xor .u32 x0_1 ((bt a1 x9_1) % 4294967296)), (0), (by first | rfl | (simp; done) | (simp [*]; done)), (by first | rfl | (simp; done) | (simp [*]; done)), H', ⟨Nat.le_refl _⟩, by repeat (first | exact Drawn0.refl _ | apply Drawn0.step)⟩
            case round =>
              clear H'
              try clear c1
              try clear p2
              try clear c3
              try clear c3b0
              try clear c4
              try clear c4b0
              try clear c5
              try clear c5b0
              try clear p6
              try clear q6
              try clear hx6
              try clear p2
              try clear p6
              try clear q6
              obtain ⟨x0_2, x18_2, rfl, rfl, HA, HK2, ⟨m2, rfl⟩⟩ := hrel
              cases gk with
              | zero => exact absurd HA.out (by simp [impl_SumMore.l1])
              | succ k2 =>
                have H := HA.out
                clear HA
                simp only [impl_SumMore.l1] at H
                by_cases c7 : x18_2 < 8
                · rw [if_pos c7] at H
                  have c7b0 : decide (x18_2 < 8) = true := decide_eq_true c7
                  clear c7
                  by_cases c8 : (Go.bits .and .u32 x0_2 1) = 1
                  · rw [if_pos c8] at H
                    have c8b0 : ((Go.bits .and .u32 x0_2 1) == 1) = true := beq_iff_eq.mpr c8
                    have c8b1 : ((Go.bits .and .u32 x0_2 1) != 1) = false := bne_eq_false_iff_eq.mpr c8
                    clear c8
                    have H' := Aside0.mk H
                    clear H
                    go_wp2
                    go_roundg k2
                    case measure => have := HK1.out; have := HK2.out; omega
                    case rel => exact ⟨(Go.bits .xor .u32 (x0_2 / 2) 3558460437), (wrap64 (x18_2 + 1)), (by first | rfl | (simp; done) | (simp [*]; done)), (by first | rfl | (simp; done) | (simp [*]; done)), H', ⟨by have := HK1.out; have := HK2.out; omega⟩, by repeat (first | exact Drawn0.refl _ | apply Drawn0.step)⟩
                  · rw [if_neg c8] at H
                    have c8b0 : ((Go.bits .and .u32 x0_2 1) == 1) = false := beq_eq_false_iff_ne.mpr c8
                    have c8b1 : ((Go.bits .and .u32 x0_2 1) != 1) = true := bne_iff_ne.mpr c8
                    have H' := Aside0.mk H
                    clear H
                    go_wp2
                    go_roundg k2
                    case measure => have := HK1.out; have := HK2.out; omega
                    case rel => exact ⟨(x0_2 / 2), (wrap64 (x18_2 + 1)), (by first | rfl | (simp; done) | (simp [*]; done)), (by first | rfl | (simp; done) | (simp [*]; done)), H', ⟨by have := HK1.out; have := HK2.out; omega⟩, by repeat (first | exact Drawn0.refl _ | apply Drawn0.step)⟩
                · rw [if_neg c7] at H
                  have c7b0 : decide (x18_2 < 8) = false := decide_eq_false c7
                  clear c7
                  have H' := Aside0.mk H
                  clear H
                  go_wp2
                  go_roundg k2
                  case measure => have := HK1.out; have := HK2.out; omega
                  case rel => exact ⟨(x0_2), (wrap64 (x9_1 + 1)), (by first | rfl | (simp; done) | (simp [*]; done)), (by first | rfl | (simp; done) | (simp [*]; done)), H', ⟨by have := HK1.out; have := HK2.out; omega⟩, by repeat (first | exact Drawn0.refl _ | apply Drawn0.step)⟩
          · rw [if_neg c5] at H
            exact absurd H (by simp)
        · rw [if_neg c4] at H
          exact absurd H (by simp)
      · rw [if_neg c3] at H
        have c3b0 : decide (x9_1 < (a1.size : Int)) = false := decide_eq_false c3
        clear c3
        obtain rfl := Option.some.inj H
        go_wp2
        go_ret
        exact ⟨by first | rfl | (simp; done) | (simp [*]; done), by repeat (first | exact Drawn0.refl _ | apply Drawn0.step)⟩
def impl_SumOf.f (k : Nat) (a0 : ByteArray) : Option (Int) := (impl_SumMore.f k 4294967295 a0).bind fun t345 => (some t345)
theorem impl_SumOf.mono : ∀ a0 k, LeO (impl_SumOf.f k a0) (impl_SumOf.f (k + 1) a0) := by
  intro a0 k
  unfold impl_SumOf.f
  repeat' first
      | (with_reducible exact impl_SumMore.mono _ _ _)
      | (with_reducible exact LeO.refl _)
      | (with_reducible exact LeO.none _)
      | (with_reducible refine LeO.ite ?_ ?_)
      | (with_reducible refine LeO.bind ?_ (fun _ => ?_))
      | exact impl_SumMore.mono _ _ _
      | exact LeO.none _
      | refine LeO.ite ?_ ?_
      | refine LeO.bind ?_ (fun _ => ?_)
set_option maxHeartbeats 8000000 in
set_option maxRecDepth 100000 in
theorem impl_SumOf.calls (k : Nat) (a0 : ByteArray) (r : Int) (w : World) (h : impl_SumOf.f k a0 = some r) :
    Calls Try.prog 122 #[.string a0] w fun e w' => e = .returned (.int .u32 r) ∧ Drawn0 w w' := by
  have H : ((impl_SumMore.f k 4294967295 a0).bind fun t345 => (some t345)) = some r := h
  clear h
  replace H := Option.bind_eq_some_iff.mp H
  obtain ⟨t345, A20, H⟩ := H
  replace H : (some t345) = some r := H
  have A2 := Aside0.mk A20
  clear A20
  obtain rfl := Option.some.inj H
  go_enter Try.func122, Try.ntmps122
  go_wp2_with (first | ((with_reducible refine gate_callee (f := 159) rfl ?_); refine goesL_ (some 4) rfl rfl Try.func159 (by kernel_rfl) rfl #[.int .u32 4294967295, .string a0] rfl (by (try simp only [List.map_toArray, List.map_cons, List.map_nil]); first | done | rfl | (simp only [List.length_drop, List.length_take]; rfl)) ?_; (with_reducible refine (impl_SumMore.calls k 4294967295 a0 t345 _ A2.out).mono ?_); rintro e w' ⟨rfl, ⟨nd, rfl⟩⟩; refine ⟨_, rfl, ?_⟩))
  go_ret
  exact ⟨by first | rfl | (simp; done) | (simp [*]; done), by repeat (first | exact Drawn0.refl _ | apply Drawn0.step)⟩
def impl_Sealed.f (k : Nat) (a0 : ByteArray) : Option (ByteArray × Bool) := if (a0.size : Int) > 12000 then (some ((⟨#[]⟩ : ByteArray), false)) else ((impl_SumOf.f k a0).bind fun t346 => ((impl_four.f t346).bind fun t347 => (if a0.size + t347.size ≤ 9223372036854775807 then (some (a0 ++ t347, true)) else (none))))
theorem impl_Sealed.mono : ∀ a0 k, LeO (impl_Sealed.f k a0) (impl_Sealed.f (k + 1) a0) := by
  intro a0 k
  unfold impl_Sealed.f
  repeat' first
      | (with_reducible exact impl_SumOf.mono _ _)
      | (with_reducible exact LeO.refl _)
      | (with_reducible exact LeO.none _)
      | (with_reducible refine LeO.ite ?_ ?_)
      | (with_reducible refine LeO.bind ?_ (fun _ => ?_))
      | exact impl_SumOf.mono _ _
      | exact LeO.none _
      | refine LeO.ite ?_ ?_
      | refine LeO.bind ?_ (fun _ => ?_)
set_option maxHeartbeats 8000000 in
set_option maxRecDepth 100000 in
theorem impl_Sealed.calls (k : Nat) (a0 : ByteArray) (r1 : ByteArray) (r2 : Bool) (w : World) (h : impl_Sealed.f k a0 = some (r1, r2)) :
    Calls Try.prog 80 #[.string a0] w fun e w' => e = .returned (.tuple #[.string r1, .bool r2]) ∧ Below w.heap.size w w' := by
  have HB := Aside0.mk (Below.refl w.heap.size w)
  have H : (if (a0.size : Int) > 12000 then (some ((⟨#[]⟩ : ByteArray), false)) else ((impl_SumOf.f k a0).bind fun t346 => ((impl_four.f t346).bind fun t347 => (if a0.size + t347.size ≤ 9223372036854775807 then (some (a0 ++ t347, true)) else (none))))) = some (r1, r2) := h
  clear h
  by_cases c2 : (a0.size : Int) > 12000
  · rw [if_pos c2] at H
    have c2b0 : decide (12000 < (a0.size : Int)) = true := decide_eq_true c2
    have c2b1 : decide (12000 < a0.size) = true := decide_eq_true (by omega)
    clear c2
    simp only [Option.some.injEq, Prod.mk.injEq] at H
    obtain ⟨rfl, rfl⟩ := H
    go_enter Try.func80, Try.ntmps80
    go_wp2
    go_ret2
    exact ⟨by first | rfl | (simp; done) | (simp [errW_none, errW_some] <;> rfl) | (simp [*, errW_none, errW_some] <;> rfl) | (simp [bne, List.isEmpty_iff]; done) | (rw [Bool.eq_iff_iff]; simp), by repeat (first | (with_reducible first | exact HB.out | apply below_alloc | apply pw_below_drewN | apply below_drew1) | exact HB.out)⟩
  · rw [if_neg c2] at H
    have c2b0 : decide (12000 < (a0.size : Int)) = false := decide_eq_false c2
    have c2b1 : decide (12000 < a0.size) = false := decide_eq_false (by omega)
    clear c2
    replace H := Option.bind_eq_some_iff.mp H
    obtain ⟨t346, A30, H⟩ := H
    replace H : ((impl_four.f t346).bind fun t347 => (if a0.size + t347.size ≤ 9223372036854775807 then (some (a0 ++ t347, true)) else (none))) = some (r1, r2) := H
    have A3 := Aside0.mk A30
    clear A30
    replace H := Option.bind_eq_some_iff.mp H
    obtain ⟨t347, A40, H⟩ := H
    replace H : (if a0.size + t347.size ≤ 9223372036854775807 then (some (a0 ++ t347, true)) else (none)) = some (r1, r2) := H
    have A4 := Aside0.mk A40
    clear A40
    by_cases c5 : a0.size + t347.size ≤ 9223372036854775807
    · rw [if_pos c5] at H
      have c5b0 := eq_true c5
      have c5b1 : decide (a0.size + t347.size ≤ 9223372036854775807) = true := decide_eq_true c5
      try have c5b2 : (9223372036854775807 < a0.size + t347.size) = False := eq_false (Nat.not_lt.2 c5)
      simp only [Option.some.injEq, Prod.mk.injEq] at H
      obtain ⟨rfl, rfl⟩ := H
      go_enter Try.func80, Try.ntmps80
      go_wp2_with (first | ((with_reducible refine gate_callee (f := 122) rfl ?_); refine goesL_ (some 9) rfl rfl Try.func122 (by kernel_rfl) rfl #[.string a0] rfl (by (try simp only [List.map_toArray, List.map_cons, List.map_nil]); first | done | rfl | (simp only [List.length_drop, List.length_take]; rfl)) ?_; (with_reducible refine (impl_SumOf.calls k a0 t346 _ A3.out).mono ?_); rintro e w' ⟨rfl, ⟨nd, rfl⟩⟩; refine ⟨_, rfl, ?_⟩) | ((with_reducible refine gate_callee (f := 121) rfl ?_); refine goesL_ (some 10) rfl rfl Try.func121 (by kernel_rfl) rfl #[.int .u32 t346] rfl (by (try simp only [List.map_toArray, List.map_cons, List.map_nil]); first | done | rfl | (simp only [List.length_drop, List.length_take]; rfl)) ?_; (with_reducible refine (impl_four.calls t346 t347 _ A4.out).mono ?_); rintro e w6 ⟨rfl, hb⟩; refine ⟨_, rfl, ?_⟩; have n0_ := Aside0.mk (below_step (by repeat (first | (with_reducible first | exact HB.out | apply below_alloc | apply pw_below_drewN | apply below_drew1) | exact HB.out)) hb); clear HB; have HB := n0_; clear n0_; (try clear hb); (try clear hb2); (try clear hk); (try clear hi)))
      go_ret2
      exact ⟨by first | rfl | (simp; done) | (simp [errW_none, errW_some] <;> rfl) | (simp [*, errW_none, errW_some] <;> rfl) | (simp [bne, List.isEmpty_iff]; done) | (rw [Bool.eq_iff_iff]; simp), by repeat (first | (with_reducible first | exact HB.out | apply below_alloc | apply pw_below_drewN | apply below_drew1) | exact HB.out)⟩
    · rw [if_neg c5] at H
      exact absurd H (by simp)
-- NOT PRINTED: function 46 (impl_ImageText)
end Go.Proofs.Ytcbaokflimdjnaa.QFnExactReadImage
end
section
namespace Go.Proofs.Ytcbaokflimdjnaa.Law
open Go.RowKit Go.Proofs.YtcbaokflimdjnaaW.PrintWords Go.Proofs.YtcbaokflimdjnaaW.PrintMore Go.Proofs.Ytcbaokflimdjnaa.QFnExactReadImage Go.Proofs.Ytcbaokflimdjnaa.Num
set_option linter.unusedVariables false
set_option linter.unusedSimpArgs false
set_option autoImplicit false
def varL : Nat → Int → List Int
  | 0, n => [n]
  | k + 1, n => if n < 128 then [n] else (n % 128 + 128) :: varL k (n / 128)
def varB (n : Int) : ByteArray := strOfNums (varL 4 n)
theorem or128 : ∀ n : Fin 128, Go.bits .or .i64 ((n.val : Nat) : Int) 128 = ((n.val : Nat) : Int) + 128 := by decide +kernel
theorem wraps_i64 (n : Int) (h₀ : 0 ≤ n) (h₁ : n < 2 ^ 63) : IntKind.i64.wrap n = n := by rw [IntKind.wrap_i64]; omega
theorem wraps_u32 (n : Int) (h₀ : 0 ≤ n) (h₁ : n < 2 ^ 32) : IntKind.u32.wrap n = n := by rw [IntKind.wrap_u32]; omega
theorem and127 {n : Int} (h0 : 0 ≤ n) (h1 : n < 9223372036854775808) : Go.bits .and .i64 n 127 = n % 128 := bits_mask .i64 63 (by decide) wraps_i64 7 (by decide) n h0 h1
theorem and1 {n : Int} (h0 : 0 ≤ n) (h1 : n < 4294967296) : Go.bits .and .u32 n 1 = n % 2 := bits_mask .u32 32 (by decide) wraps_u32 1 (by decide) n h0 h1
theorem or_and {n : Int} (h0 : 0 ≤ n) (h1 : n < 9223372036854775808) : Go.bits .or .i64 (Go.bits .and .i64 n 127) 128 % 256 = n % 128 + 128 := by
  rw [and127 h0 h1]
  obtain ⟨m, hm⟩ : ∃ m : Nat, n % 128 = (m : Int) := Int.eq_ofNat_of_zero_le (by omega)
  have h := or128 ⟨m, by omega⟩
  simp only at h
  rw [hm, h]
  omega
theorem var_spec (d : Nat) : ∀ (k : Nat) (n : Int) (acc : List Int), 0 ≤ n → n < 128 ^ (d + 1) → n ≤ 1000000000 → d < k → acc.length + d < 1000 → spec_l01Var.l0 k n acc = some (strOfNums (acc ++ varL d n)) := by
  induction d with
  | zero =>
    intro k n acc h0 h1 hm hk hl
    obtain ⟨k, rfl⟩ : ∃ j, k = j + 1 := ⟨k - 1, by omega⟩
    simp only [spec_l01Var.l0, varL]
    rw [if_neg (by omega), if_pos (by omega), show n % 256 = n by omega]
  | succ d ih =>
    intro k n acc h0 h1 hm hk hl
    obtain ⟨k, rfl⟩ : ∃ j, k = j + 1 := ⟨k - 1, by omega⟩
    simp only [spec_l01Var.l0, varL]
    by_cases h : n < 128
    · rw [if_neg (by omega), if_pos (by omega), if_pos h, show n % 256 = n by omega]
    · have e1 : wrap64 (Int.tdiv n 128) = n / 128 := by rw [tdiv_pos h0, wrap64_id (by omega) (by omega)]
      have e2 : wrap64 (Int.tmod n 128 + 128) % 256 = n % 128 + 128 := by rw [tmod_pos h0, wrap64_id (by omega) (by omega)]; omega
      rw [if_pos (by omega), if_pos (by omega), if_neg h, e1, e2, ih k (n / 128) _ (by omega) (by rw [Int.pow_succ] at h1; omega) (by omega) (by omega) (by rw [List.length_append]; simp; omega), List.append_assoc]
      rfl
theorem var_impl (d : Nat) : ∀ (k : Nat) (n : Int) (acc : List Int), 0 ≤ n → n < 128 ^ (d + 1) → n ≤ 1000000000 → d < k → acc.length + d < 1000 → impl_VarText.l0 k n acc = some (strOfNums (acc ++ varL d n), true) := by
  induction d with
  | zero =>
    intro k n acc h0 h1 hm hk hl
    obtain ⟨k, rfl⟩ : ∃ j, k = j + 1 := ⟨k - 1, by omega⟩
    simp only [impl_VarText.l0, varL]
    rw [if_neg (by omega), if_pos (by omega), show n % 256 = n by omega]
  | succ d ih =>
    intro k n acc h0 h1 hm hk hl
    obtain ⟨k, rfl⟩ : ∃ j, k = j + 1 := ⟨k - 1, by omega⟩
    simp only [impl_VarText.l0, varL]
    by_cases h : n < 128
    · rw [if_neg (by omega), if_pos (by omega), if_pos h, show n % 256 = n by omega]
    · rw [if_pos (by omega), if_pos (by omega), if_neg h, or_and h0 (by omega), ih k (n / 128) _ (by omega) (by rw [Int.pow_succ] at h1; omega) (by omega) (by omega) (by rw [List.length_append]; simp; omega), List.append_assoc]
      rfl
theorem varL_len (d : Nat) : ∀ n : Int, (varL d n).length ≤ d + 1 := by
  induction d with
  | zero => intro n; simp [varL]
  | succ d ih =>
    intro n
    simp only [varL]
    split
    · simp
    · have := ih (n / 128)
      simp only [List.length_cons]
      omega
theorem varB_size (n : Int) : (varB n).size ≤ 5 := by
  unfold varB
  rw [strOfNums_size]
  exact varL_len 4 n
theorem var_f (n : Int) (h0 : 0 ≤ n) (h1 : n ≤ 1000000000) : spec_l01Var.f 6 n = some (varB n) := by
  unfold spec_l01Var.f
  exact var_spec 4 6 n [] h0 (by omega) h1 (by omega) (by simp)
theorem cVarS (n : Int) (w : World) (h0 : 0 ≤ n) (h1 : n ≤ 1000000000) : Calls Try.prog 74 #[.int .i64 n] w fun e w' => e = .returned (.string (varB n)) ∧ Below w.heap.size w w' :=
  spec_l01Var.calls 6 n _ w (var_f n h0 h1)
theorem cVarI (n : Int) (w : World) (h0 : 0 ≤ n) (h1 : n ≤ 1000000000) : Calls Try.prog 158 #[.int .i64 n] w fun e w' => e = .returned (.tuple #[.string (varB n), .bool true]) ∧ Below w.heap.size w w' :=
  impl_VarText.calls 6 n _ _ w (by
    unfold impl_VarText.f impl_within.f
    rw [if_pos (by omega)]
    show (if decide (n ≤ 1000000000) = true then _ else _) = _
    rw [if_pos (by simpa using h1)]
    exact var_impl 4 6 n [] h0 (by omega) h1 (by omega) (by simp))
theorem xor_in (a b : Int) : 0 ≤ Go.bits .xor .u32 a b ∧ Go.bits .xor .u32 a b < 4294967296 := by
  have h := wrap_within .u32 ((BitVec.ofInt IntKind.u32.bits a ^^^ BitVec.ofInt IntKind.u32.bits b).toNat : Int)
  have h1 : IntKind.u32.min = 0 := rfl
  have h2 : IntKind.u32.max = 4294967295 := rfl
  have h3 : Go.bits .xor .u32 a b = IntKind.u32.wrap ((BitVec.ofInt IntKind.u32.bits a ^^^ BitVec.ofInt IntKind.u32.bits b).toNat : Int) := rfl
  omega
theorem sum_same (s : ByteArray) (hs : s.size ≤ 1048576) (d : Nat) : ∀ (i : Nat) (x : Int), i + d = s.size → 0 ≤ x → x < 4294967296 →
    ∃ r, 0 ≤ r ∧ r < 4294967296 ∧ ∀ k, 10 * d + 1 ≤ k → spec_SumMore.l0 k x s (i : Int) = some r ∧ impl_SumMore.l0 k x s (s.size : Int) (i : Int) = some r := by
  induction d with
  | zero =>
    intro i x hi h0 h1
    refine ⟨x, h0, h1, fun k hk => ?_⟩
    obtain ⟨k, rfl⟩ : ∃ j, k = j + 1 := ⟨k - 1, by omega⟩
    simp only [spec_SumMore.l0, impl_SumMore.l0]
    rw [if_neg (by omega), if_neg (by omega)]
    exact ⟨rfl, rfl⟩
  | succ d ih =>
    intro i x hi h0 h1
    have step : ∀ (e j : Nat), j + e = 8 → ∀ y : Int, 0 ≤ y → y < 4294967296 → ∃ r, 0 ≤ r ∧ r < 4294967296 ∧ ∀ k, 10 * d + 2 + e ≤ k → spec_SumMore.l1 k y s (i : Int) (j : Int) = some r ∧ impl_SumMore.l1 k y s (s.size : Int) (i : Int) (j : Int) = some r := by
      intro e
      induction e with
      | zero =>
        intro j hj y hy0 hy1
        obtain ⟨r, hr0, hr1, hr⟩ := ih (i + 1) y (by omega) hy0 hy1
        refine ⟨r, hr0, hr1, fun k hk => ?_⟩
        obtain ⟨k, rfl⟩ : ∃ j, k = j + 1 := ⟨k - 1, by omega⟩
        simp only [spec_SumMore.l1, impl_SumMore.l1]
        rw [if_neg (by omega), if_neg (by omega), wrap64_id (n := (i : Int) + 1) (by omega) (by omega)]
        have := hr k (by omega)
        rwa [Int.natCast_add] at this
      | succ e ihe =>
        intro j hj y hy0 hy1
        have e1 : Int.tmod y 2 = y % 2 := tmod_pos hy0
        have e2 : Int.tdiv y 2 % 4294967296 = y / 2 := by rw [tdiv_pos hy0]; omega
        obtain ⟨r, hr0, hr1, hr⟩ := ihe (j + 1) (by omega) (if y % 2 = 1 then Go.bits .xor .u32 (y / 2) 3558460437 else y / 2) (by split; exact (xor_in _ _).1; omega) (by split; exact (xor_in _ _).2; omega)
        refine ⟨r, hr0, hr1, fun k hk => ?_⟩
        obtain ⟨k, rfl⟩ : ∃ j, k = j + 1 := ⟨k - 1, by omega⟩
        simp only [spec_SumMore.l1, impl_SumMore.l1]
        have h := hr k (by omega)
        rw [Int.natCast_add] at h
        rw [if_pos (show (j : Int) < 8 by omega), if_pos (show (j : Int) < 8 by omega), e1, e2, and1 hy0 hy1, wrap64_id (n := (j : Int) + 1) (by omega) (by omega)]
        split
        · rename_i hh
          rw [if_pos hh] at h
          exact h
        · rename_i hh
          rw [if_neg hh] at h
          exact h
    obtain ⟨r, hr0, hr1, hr⟩ := step 8 0 (by omega) (Go.bits .xor .u32 x ((bt s (i : Int)) % 4294967296)) (xor_in _ _).1 (xor_in _ _).2
    refine ⟨r, hr0, hr1, fun k hk => ?_⟩
    obtain ⟨k, rfl⟩ : ∃ j, k = j + 1 := ⟨k - 1, by omega⟩
    simp only [spec_SumMore.l0, impl_SumMore.l0]
    rw [if_pos (by omega), if_pos (by omega), if_pos (by omega), if_pos (by omega), if_pos (by omega)]
    exact hr k (by omega)
theorem sum_of (s : ByteArray) (hs : s.size ≤ 1048576) : ∃ r, ∀ k, 10 * s.size + 1 ≤ k → spec_SumOf.f k s = some r ∧ impl_SumOf.f k s = some r := by
  obtain ⟨r, _, _, hr⟩ := sum_same s hs s.size 0 4294967295 (by omega) (by omega) (by omega)
  refine ⟨r, fun k hk => ?_⟩
  have h := hr k hk
  unfold spec_SumOf.f impl_SumOf.f spec_SumMore.f impl_SumMore.f
  rw [show ((0 : Nat) : Int) = 0 from rfl] at h
  rw [h.1, h.2]
  exact ⟨rfl, rfl⟩
theorem seal_of (s : ByteArray) : ∃ r : ByteArray × Bool, ∃ k, spec_Sealed.f k s = some r ∧ impl_Sealed.f k s = some r := by
  unfold spec_Sealed.f impl_Sealed.f
  by_cases h : (s.size : Int) > 12000
  · exact ⟨_, 0, by rw [if_pos h], by rw [if_pos h]⟩
  · obtain ⟨r, hr⟩ := sum_of s (by omega)
    have hk := hr _ (Nat.le_refl _)
    refine ⟨(s ++ strOfNums [(r / 16777216) % 256, (r / 65536) % 256, (r / 256) % 256, r % 256], true), 10 * s.size + 1, ?_, ?_⟩
    · rw [if_neg h, hk.1]
      show (if s.size + (strOfNums _).size ≤ 9223372036854775807 then _ else _) = _
      rw [strOfNums_size, if_pos (by simp; omega)]
    · rw [if_neg h, hk.2]
      show (if s.size + (strOfNums _).size ≤ 9223372036854775807 then _ else _) = _
      rw [strOfNums_size, if_pos (by simp; omega)]
theorem cSeal (s : ByteArray) : ∃ (t : ByteArray) (b : Bool), (∀ w : World, Calls Try.prog 78 #[.string s] w fun e w' => e = .returned (.tuple #[.string t, .bool b]) ∧ Below w.heap.size w w') ∧
    ∀ w : World, Calls Try.prog 80 #[.string s] w fun e w' => e = .returned (.tuple #[.string t, .bool b]) ∧ Below w.heap.size w w' := by
  obtain ⟨⟨t, b⟩, k, h1, h2⟩ := seal_of s
  exact ⟨t, b, fun w => spec_Sealed.calls k s t b w h1, fun w => impl_Sealed.calls k s t b w h2⟩
def eightTo (x : Int) (k : Nat) : List Int := (List.range k).map fun j => x / 2 ^ (8 * (7 - j)) % 256
theorem eight_step (k : Nat) (y : Int) (l : List Int) (j : Nat) (hl : l.length = 8) (hj : j < 8) (h0 : 0 ≤ y) (h1 : y < 18446744073709551616) :
    spec_l15Eight.l0 (k + 1) y l (j : Int) = spec_l15Eight.l0 k (y / 256) (l.set j (y % 256)) ((j : Int) - 1) := by
  simp only [spec_l15Eight.l0]
  have e1 : IntKind.u64.wrap (Int.tdiv y 256) = y / 256 := by rw [tdiv_pos h0, IntKind.wrap_u64]; omega
  have e2 : Int.tmod y 256 % 256 = y % 256 := by rw [tmod_pos h0]; omega
  rw [if_pos (show (j : Int) ≥ 0 by omega), if_pos (show (0 : Int) ≤ (j : Int) by omega), if_pos (show (j : Int) < (l.length : Int) by omega), e1, e2, wrap64_id (by omega) (by omega), Int.toNat_natCast]
theorem eight_spec (x : Int) (h0 : 0 ≤ x) (h1 : x < 18446744073709551616) : spec_l15Eight.f 9 x = some (strOfNums (eightTo x 8)) := by
  unfold spec_l15Eight.f
  rw [if_pos (by decide)]
  have d : ∀ (y : Int), 0 ≤ y → y < 18446744073709551616 → 0 ≤ y / 256 ∧ y / 256 < 18446744073709551616 := fun y hy0 hy1 => by omega
  have a1 := d x h0 h1
  have a2 := d _ a1.1 a1.2
  have a3 := d _ a2.1 a2.2
  have a4 := d _ a3.1 a3.2
  have a5 := d _ a4.1 a4.2
  have a6 := d _ a5.1 a5.2
  have a7 := d _ a6.1 a6.2
  have s7 := eight_step 8 x (List.replicate 8 0) 7 (by simp) (by omega) h0 h1
  have s6 := eight_step 7 _ ((List.replicate 8 0).set 7 (x % 256)) 6 (by simp) (by omega) a1.1 a1.2
  have s5 := eight_step 6 _ (((List.replicate 8 0).set 7 (x % 256)).set 6 (x / 256 % 256)) 5 (by simp) (by omega) a2.1 a2.2
  have s4 := eight_step 5 _ ((((List.replicate 8 0).set 7 (x % 256)).set 6 (x / 256 % 256)).set 5 (x / 256 / 256 % 256)) 4 (by simp) (by omega) a3.1 a3.2
  have s3 := eight_step 4 _ (((((List.replicate 8 0).set 7 (x % 256)).set 6 (x / 256 % 256)).set 5 (x / 256 / 256 % 256)).set 4 (x / 256 / 256 / 256 % 256)) 3 (by simp) (by omega) a4.1 a4.2
  have s2 := eight_step 3 _ ((((((List.replicate 8 0).set 7 (x % 256)).set 6 (x / 256 % 256)).set 5 (x / 256 / 256 % 256)).set 4 (x / 256 / 256 / 256 % 256)).set 3 (x / 256 / 256 / 256 / 256 % 256)) 2 (by simp) (by omega) a5.1 a5.2
  have s1 := eight_step 2 _ (((((((List.replicate 8 0).set 7 (x % 256)).set 6 (x / 256 % 256)).set 5 (x / 256 / 256 % 256)).set 4 (x / 256 / 256 / 256 % 256)).set 3 (x / 256 / 256 / 256 / 256 % 256)).set 2 (x / 256 / 256 / 256 / 256 / 256 % 256)) 1 (by simp) (by omega) a6.1 a6.2
  have s0 := eight_step 1 _ ((((((((List.replicate 8 0).set 7 (x % 256)).set 6 (x / 256 % 256)).set 5 (x / 256 / 256 % 256)).set 4 (x / 256 / 256 / 256 % 256)).set 3 (x / 256 / 256 / 256 / 256 % 256)).set 2 (x / 256 / 256 / 256 / 256 / 256 % 256)).set 1 (x / 256 / 256 / 256 / 256 / 256 / 256 % 256)) 0 (by simp) (by omega) a7.1 a7.2
  refine s7.trans (s6.trans (s5.trans (s4.trans (s3.trans (s2.trans (s1.trans (s0.trans ?_)))))))
  simp only [spec_l15Eight.l0]
  rw [if_neg (by simp)]
  congr 2
  simp only [Int.ediv_ediv_of_nonneg, show (0 : Int) ≤ 256 from by decide]
  simp [eightTo, List.replicate, List.set, List.range, List.range.loop, Int.ediv_ediv_of_nonneg]
theorem cEight (x : Int) (h0 : 0 ≤ x) (h1 : x < 18446744073709551616) (w : World) : Calls Try.prog 75 #[.int .u64 x] w fun e w' => e = .returned (.string (strOfNums (eightTo x 8))) ∧ Below w.heap.size w w' :=
  spec_l15Eight.calls 9 x _ w (eight_spec x h0 h1)
theorem cShort (s : ByteArray) (hs : s.size ≤ 1000000) (w : World) : Calls Try.prog 76 #[.string s] w fun e w' => e = .returned (.string (varB s.size ++ s)) ∧ Below w.heap.size w w' :=
  spec_l15Short.calls 6 s _ w (by
    have h := var_f (s.size : Int) (by omega) (by omega)
    unfold spec_l15Short.f
    rw [h]
    have hv := varB_size s.size
    generalize varB s.size = v at hv
    show (if v.size + s.size ≤ 9223372036854775807 then some (v ++ s) else none) = some (v ++ s)
    exact if_pos (by omega))
def flagB (b : Bool) : ByteArray := if b = true then ⟨#[1]⟩ else ⟨#[0]⟩
theorem cFlag (b : Bool) (w : World) : Calls Try.prog 77 #[.bool b] w fun e w' => e = .returned (.string (flagB b)) ∧ Below w.heap.size w w' :=
  (spec_l15Flag.calls b (flagB b) w (by cases b <;> rfl)).mono fun _ _ h => ⟨h.1, h.2.below⟩
theorem bytes_app (a b : ByteArray) : bytesOf (a ++ b) = bytesOf a ++ bytesOf b := by
  unfold bytesOf
  rw [ByteArray.data_append, Array.toList_append, List.map_append]
theorem bytes_nums : ∀ (l : List Int), (∀ x ∈ l, 0 ≤ x ∧ x < 256) → bytesOf (strOfNums l) = l := by
  intro l h
  unfold bytesOf
  rw [strOfNums_data, List.map_map]
  refine (List.map_congr_left (fun x hx => ?_)).trans (List.map_id l)
  have hh := h x hx
  show ((UInt8.ofNat x.toNat).toNat : Int) = x
  rw [UInt8.toNat_ofNat']
  omega
theorem eight_in (x : Int) (k : Nat) : ∀ y ∈ eightTo x k, 0 ≤ y ∧ y < 256 := fun y hy => by
  obtain ⟨j, _, rfl⟩ := List.mem_map.1 hy
  omega
theorem eight_succ (x : Int) (k : Nat) : eightTo x (k + 1) = eightTo x k ++ [x / 2 ^ (8 * (7 - k)) % 256] := by
  unfold eightTo
  rw [List.range_succ, List.map_append]
  rfl
theorem eight_len (x : Int) (k : Nat) : (eightTo x k).length = k := by simp [eightTo]
theorem bytes_flag (b : Bool) : bytesOf (flagB b) = [if b = true then 1 else 0] := by cases b <;> rfl
end Go.Proofs.Ytcbaokflimdjnaa.Law
end
section
namespace Go.Proofs.Ytcbaokflimdjnaa.Law
open Go.RowKit Go.Proofs.YtcbaokflimdjnaaW.PrintWords Go.Proofs.YtcbaokflimdjnaaW.PrintMore Go.Proofs.Ytcbaokflimdjnaa.Num Go.Proofs.Ytcbaokflimdjnaa
set_option linter.unusedVariables false
set_option linter.unusedSimpArgs false
set_option autoImplicit false
def numsL (ns : List Int) : List Int := ns.flatMap fun n => bytesOf (varB n)
theorem numsL_len : ∀ ns : List Int, (numsL ns).length ≤ 5 * ns.length
  | [] => Nat.le_refl _
  | n :: ns => by
    have h1 := numsL_len ns
    have h2 := varB_size n
    rw [show numsL (n :: ns) = bytesOf (varB n) ++ numsL ns from rfl, List.length_append, bytesOf_length, List.length_cons]
    omega
theorem numsL_snoc (ns : List Int) (n : Int) : numsL (ns ++ [n]) = numsL ns ++ bytesOf (varB n) := by
  unfold numsL
  rw [List.flatMap_append, List.flatMap_cons, List.flatMap_nil, List.append_nil]
theorem numsL_take (ns : List Int) {k : Nat} (h : k < ns.length) : numsL (ns.take (k + 1)) = numsL (ns.take k) ++ bytesOf (varB ns[k]) := by
  rw [List.take_add_one, List.getElem?_eq_getElem h, ← numsL_snoc]
  rfl
def NumAt (w0 w : World) (H : List Hold) (gw ga : Nat) (ns l2 : List Int) : Prop := ∃ (g c : Nat), Mem w0 w (Hold.box gw #[.slice (some ⟨g, 0, none⟩) (l2).length c] 160 :: Hold.bts g c (l2) :: Hold.box ga (nums .i64 ns).toArray 3 :: H)
set_option maxHeartbeats 8000000 in
set_option maxRecDepth 100000 in
theorem cNum (ns : List Int) (hns : ∀ n ∈ ns, 0 ≤ n ∧ n ≤ 1000000000) (hln : ns.length ≤ 8) (w0 W : World) (H : List Hold) (gw g c ga : Nat) (l : List Int) (hl : l.length ≤ 1000000) (M : Mem w0 W (Hold.box gw #[.slice (some ⟨g, 0, none⟩) (l).length c] 160 :: Hold.bts g c (l) :: Hold.box ga (nums .i64 ns).toArray 3 :: H)) (cA : Nat) :
    Calls Try.prog 120 #[.pointer (some ⟨gw, 0, none⟩), .slice (some ⟨ga, 0, none⟩) ns.length cA] W fun e w' => e = .returned (.tuple #[]) ∧ NumAt w0 w' H gw ga ns (l ++ numsL ns) := by
  have hu := Try.underlying160; have hu1 := Try.underlying26; have hu2 := Try.underlying3
  have M0 := Aside0.mk M; clear M
  have HNS := Aside0.mk hns; clear hns
  go_enter Try.func120, Try.ntmps120
  go_upto_region 1 with fail
  go_loopw [10] (fun v wx => ∃ (k g c : Nat) (lk : List Int), v = .int .i64 k ∧ k ≤ ns.length ∧ Aside0 (lk = l ++ numsL (ns.take k)) ∧ Aside0 (Mem w0 wx (Hold.box gw #[.slice (some ⟨g, 0, none⟩) (lk).length c] 160 :: Hold.bts g c (lk) :: Hold.box ga (nums .i64 ns).toArray 3 :: H))) (fun v _ => ns.length - (intOf v).toNat)
  case atStart =>
    exact ⟨0, g, c, l, rfl, by omega, ⟨by rw [List.take_zero, show numsL [] = [] from rfl, List.append_nil]⟩, M0⟩
  case round =>
  clear M0
  obtain ⟨k, g, c, lk, rfl, hk, HLK, M1⟩ := hrel
  have hb1 := numsL_len (ns.take k)
  have hb2 : lk.length ≤ 2000000 := by
    rw [HLK.out, List.length_append]
    have := List.length_take_le k ns
    omega
  clear hb1
  by_cases hlt : k < ns.length
  · have hle : (k : Int) < (ns.length : Int) := by omega
    have hk0 : (0 : Int) ≤ (k : Int) := by omega
    have zk : wr.cell? ⟨ga, k, none⟩ = some (.int .i64 ns[k]) := by
      rw [M1.out.box (.tail _ (.tail _ (.head _))) k, nums, List.getElem?_toArray, List.getElem?_map, List.getElem?_eq_getElem hlt]
      rfl
    have hT := Aside0.mk (numsL_take ns hlt)
    obtain ⟨n, hn⟩ : ∃ n, n = ns[k] := ⟨_, rfl⟩
    have hn1 := HNS.out ns[k] (List.getElem_mem hlt)
    rw [← hn] at zk hn1
    rw [← hn] at hT
    clear hn
    go_upto_region 3 with fail
    go_wp2_with fail
    refine (cVarI n _ hn1.1 hn1.2).mono ?_
    rintro e w2 ⟨rfl, hb⟩
    have M2 := Aside0.mk (M1.out.step hb); clear hb M1 zk
    obtain ⟨lk2, hlk2⟩ : ∃ lk2, lk2 = lk ++ bytesOf (varB n) := ⟨_, rfl⟩
    have HL2 := Aside0.mk hlk2; clear hlk2
    have hT2 := Aside0.mk (show lk2 = l ++ numsL (ns.take (k + 1)) by rw [hT.out, HL2.out, HLK.out, List.append_assoc])
    clear hT
    have z0 := M2.out.box (.head _); have f0 := M2.out.free (.head _)
    go_upto_region 4 with fail
    go_wp2_with (((with_reducible refine gate_builtin (b := .append) (xs := #[.tmp 23, .tmp 24]) rfl ?_); at_builtin; refine Aside0.out ?_))
    refine ⟨?_⟩
    have hvs := varB_size n
    refine bts_append (A := [_]) M2.out rfl (.tmp 23) (.tmp 24) 96 9 5 rfl Try.underlying96 (by kernel_rfl) (.string (varB n)) ?aV ?aX (varB n).size _ (Src.text Try.underlying9 _) (by rw [bytesOf_length]; omega) ?_
    (case aV => first | rfl | (go_simp; done) | (go_simp; rfl))
    (case aX => first | rfl | (go_simp; done) | (go_simp; rfl))
    intro g2 c2 W2 M3
    rw [← HL2.out] at M3 ⊢
    have M3 := Aside0.mk M3
    clear z0 f0 M2
    have z0 := M3.out.box (.head _); have f0 := M3.out.free (.head _)
    have M4 := Aside0.mk (Mem.set (A := []) M3.out 0 (.slice (some ⟨g2, 0, none⟩) lk2.length c2) rfl)
    clear M3 hvs
    go_wp2
    go_roundw
    case measure => simp [intOf]; omega
    case rel => exact ⟨k + 1, g2, c2, lk2, by go_num, by omega, hT2, M4⟩
  · have hle : ¬ (k : Int) < (ns.length : Int) := by omega
    obtain rfl : k = ns.length := by omega
    go_wp2
    first | go_end0 | ((try simp only [Exit.inBlock, Exit.then]); refine bodyPost_ret (results_none rfl _ _ _) rfl ?_)
    have h1 := HLK.out
    rw [List.take_length] at h1
    subst h1
    exact ⟨rfl, g, c, M1.out⟩
end Go.Proofs.Ytcbaokflimdjnaa.Law
end
section
namespace Go.Proofs.Ytcbaokflimdjnaa.Law
open Go.RowKit Go.Proofs.YtcbaokflimdjnaaW.PrintWords Go.Proofs.YtcbaokflimdjnaaW.PrintMore Go.Proofs.Ytcbaokflimdjnaa.Num Go.Proofs.Ytcbaokflimdjnaa
set_option linter.unusedVariables false
set_option linter.unusedSimpArgs false
set_option autoImplicit false
def flatTo {α : Type} (h : α → List Int) (l : List α) (k : Nat) : List Int := (l.take k).flatMap h
theorem flatTo_zero {α : Type} (h : α → List Int) (l : List α) : flatTo h l 0 = [] := rfl
theorem flatTo_succ {α : Type} (z : α) (h : α → List Int) (l : List α) {k : Nat} (hk : k < l.length) : flatTo h l (k + 1) = flatTo h l k ++ h (el z l k) := by
  unfold flatTo
  rw [List.take_add_one, List.getElem?_eq_getElem hk, List.flatMap_append, el_lt z hk]
  simp
theorem flatTo_len {α : Type} (h : α → List Int) (l : List α) (b : Nat) (hb : ∀ y ∈ l, (h y).length ≤ b) (k : Nat) : (flatTo h l k).length ≤ b * k := by
  induction k with
  | zero => simp [flatTo]
  | succ k ih =>
    by_cases hk : k < l.length
    · unfold flatTo at ih ⊢
      rw [List.take_add_one, List.getElem?_eq_getElem hk, List.flatMap_append, List.length_append]
      have := hb l[k] (List.getElem_mem hk)
      simp only [Option.toList_some, List.flatMap_cons, List.flatMap_nil, List.append_nil]
      rw [Nat.mul_succ]
      omega
    · unfold flatTo at ih ⊢
      rw [List.take_of_length_le (by omega)]
      rw [List.take_of_length_le (by omega)] at ih
      rw [Nat.mul_succ]
      omega
def constL (c : Const) : List Int := (c.kind % 256) :: (if c.kind = 1 then eightTo c.num 8 else if c.kind = 2 then bytesOf (varB c.text.size) ++ bytesOf c.text else [])
def capL (c : Cap) : List Int := (if c.reg = true then 1 else 0) :: numsL [c.index]
def insL (i : Ins) : List Int := (i.op % 256) :: numsL [i.a, i.b]
def handL (h : Handler) : List Int := numsL [h.from_, h.to_, h.target]
def funcL1 (f : Func) : List Int := numsL [f.params, f.regs, (f.caps.length : Int)]
def funcL2 (f : Func) : List Int := funcL1 f ++ flatTo capL f.caps f.caps.length ++ numsL [(f.code.length : Int)]
def funcL3 (f : Func) : List Int := funcL2 f ++ flatTo insL f.code f.code.length ++ numsL [(f.handlers.length : Int)]
def funcL (f : Func) : List Int := funcL3 f ++ flatTo handL f.handlers f.handlers.length
def imgL1 (x : Image) : List Int := [83, 67, 49] ++ numsL [(x.consts.length : Int)]
def imgL2 (x : Image) : List Int := imgL1 x ++ flatTo constL x.consts x.consts.length ++ numsL [(x.funcs.length : Int)]
def imgL (x : Image) : List Int := imgL2 x ++ flatTo funcL x.funcs x.funcs.length
structure FOk (f : Func) : Prop where
  params : 0 ≤ f.params ∧ f.params ≤ 4
  regs : 0 ≤ f.regs ∧ f.regs ≤ 40
  caps : f.caps.length ≤ 20
  code : f.code.length ≤ 300
  hands : f.handlers.length ≤ 40
  cap : ∀ y ∈ f.caps, 0 ≤ y.index ∧ y.index ≤ 40
  ins : ∀ y ∈ f.code, (0 ≤ y.a ∧ y.a ≤ 300) ∧ (0 ≤ y.b ∧ y.b ≤ 300)
  hand : ∀ y ∈ f.handlers, (0 ≤ y.from_ ∧ y.from_ ≤ 300) ∧ (0 ≤ y.to_ ∧ y.to_ ≤ 300) ∧ (0 ≤ y.target ∧ y.target ≤ 300)
theorem FOk.of {f : Func} (h : Img.fB (sFunc f) = true) : FOk f := by
  unfold Img.fB Img.funcB Img.inB at h
  simp only [Bool.and_eq_true, decide_eq_true_eq, List.all_eq_true] at h
  have h2 : (sFunc f).f2.length = f.caps.length := List.length_map _
  have h3 : (sFunc f).f3.length = f.code.length := List.length_map _
  have h4 : (sFunc f).f4.length = f.handlers.length := List.length_map _
  have h0 : (sFunc f).f0 = f.params := rfl
  have h1 : (sFunc f).f1 = f.regs := rfl
  rw [h2, h3, h4, h0, h1] at h
  refine ⟨by omega, by omega, by omega, by omega, by omega, fun y hy => ?_, fun y hy => ?_, fun y hy => ?_⟩
  · have q := h.2.2.2.2.2.1 (sCap y) (List.mem_map_of_mem hy)
    unfold Img.capB Img.inB at q
    simp only [Bool.and_eq_true, decide_eq_true_eq] at q
    exact q
  · have q := h.2.2.2.2.2.2.1 (sIns y) (List.mem_map_of_mem hy)
    unfold Img.insB Img.inB at q
    simp only [Bool.and_eq_true, decide_eq_true_eq] at q
    exact ⟨q.2.1, q.2.2⟩
  · have q := h.2.2.2.2.2.2.2 (sHandler y) (List.mem_map_of_mem hy)
    unfold Img.hdB Img.inB at q
    simp only [Bool.and_eq_true, decide_eq_true_eq] at q
    exact ⟨q.1, q.2.1, q.2.2⟩
theorem img_const {x : Image} (h : imgB x = true) {c : Const} (hc : c ∈ x.consts) : c.text.size ≤ 40 := by
  unfold imgB Img.imageB at h
  simp only [Bool.and_eq_true, List.all_eq_true] at h
  have q := h.2.2.1 (sConst c) (List.mem_map_of_mem hc)
  have h2 : (sConst c).f2 = c.text := rfl
  have nil : ∀ t : ByteArray, (t.toList == ([] : List UInt8)) = true → t.size ≤ 40 := by
    intro t ht
    have h1 : t.toList = [] := by rw [Img.beq_nil] at ht; exact of_decide_eq_true ht
    have h3 : t.data.toList = [] := by rw [← ByteArray.toList_eq]; exact h1
    have h4 : t.size = t.data.toList.length := by rw [Array.length_toList]; rfl
    rw [h4, h3]
    simp
  unfold Img.constB at q
  rw [h2] at q
  split at q
  · simp only [Bool.and_eq_true] at q
    exact nil _ q.1
  · split at q
    · simp only [Bool.and_eq_true, decide_eq_true_eq] at q
      omega
    · split at q
      · simp only [Bool.and_eq_true] at q
        exact nil _ q.2
      · cases q
theorem constL_len {c : Const} (h : c.text.size ≤ 40) : (constL c).length ≤ 46 := by
  unfold constL
  have := varB_size c.text.size
  split
  · rw [List.length_cons, eight_len]; omega
  · split
    · rw [List.length_cons, List.length_append, bytesOf_length, bytesOf_length]; omega
    · simp
theorem capL_len (c : Cap) : (capL c).length ≤ 6 := by
  unfold capL
  have := numsL_len [c.index]
  rw [List.length_cons]
  simp at this
  omega
theorem insL_len (c : Ins) : (insL c).length ≤ 11 := by
  unfold insL
  have := numsL_len [c.a, c.b]
  rw [List.length_cons]
  simp at this
  omega
theorem handL_len (c : Handler) : (handL c).length ≤ 15 := by
  unfold handL
  have := numsL_len [c.from_, c.to_, c.target]
  simp at this
  omega
theorem funcL1_len (f : Func) : (funcL1 f).length ≤ 15 := by
  unfold funcL1
  have := numsL_len [f.params, f.regs, (f.caps.length : Int)]
  simp at this
  omega
theorem funcL2_len {f : Func} (h : FOk f) : (funcL2 f).length ≤ 140 := by
  unfold funcL2
  have h1 := funcL1_len f
  have h2 := flatTo_len capL f.caps 6 (fun y _ => capL_len y) f.caps.length
  have h3 := numsL_len [(f.code.length : Int)]
  have h4 := h.caps
  rw [List.length_append, List.length_append]
  simp at h3
  omega
theorem funcL3_len {f : Func} (h : FOk f) : (funcL3 f).length ≤ 3445 := by
  unfold funcL3
  have h1 := funcL2_len h
  have h2 := flatTo_len insL f.code 11 (fun y _ => insL_len y) f.code.length
  have h3 := numsL_len [(f.handlers.length : Int)]
  have h4 := h.code
  rw [List.length_append, List.length_append]
  simp at h3
  omega
theorem funcL_len {f : Func} (h : FOk f) : (funcL f).length ≤ 4045 := by
  unfold funcL
  have h1 := funcL3_len h
  have h2 := flatTo_len handL f.handlers 15 (fun y _ => handL_len y) f.handlers.length
  have h4 := h.hands
  rw [List.length_append]
  omega
theorem imgL1_len (x : Image) : (imgL1 x).length ≤ 8 := by
  unfold imgL1
  have := numsL_len [(x.consts.length : Int)]
  rw [List.length_append]
  simp at this ⊢
  omega
theorem constTo_len {x : Image} (h : imgB x = true) (k : Nat) : (flatTo constL x.consts k).length ≤ 46 * k := flatTo_len constL x.consts 46 (fun y hy => constL_len (img_const h hy)) k
theorem imgL2_len {x : Image} (h : imgB x = true) : (imgL2 x).length ≤ 1853 := by
  unfold imgL2
  have h1 := imgL1_len x
  have h2 := constTo_len h x.consts.length
  have h3 := numsL_len [(x.funcs.length : Int)]
  have h4 := (img_len h).2.2
  rw [List.length_append, List.length_append]
  simp at h3
  omega
theorem funcTo_len {x : Image} (h : imgB x = true) (k : Nat) : (flatTo funcL x.funcs k).length ≤ 4045 * k := flatTo_len funcL x.funcs 4045 (fun y hy => funcL_len (FOk.of (img_func h hy))) k
theorem func_at6 {w : World} {A : Option Addr} {l : List Func} (h : kFuncI.C w A l.length l) (j : Nat) (hj : j < l.length) : ∃ a A2 c2 A3 c3 A4 c4, A = some a ∧
    w.cell? (a.add (j * 5)) = some (.int .i64 (el zFunc l j).params) ∧ w.cell? ⟨(a.add (j * 5)).block, (a.add (j * 5)).off + 1, none⟩ = some (.int .i64 (el zFunc l j).regs) ∧ w.cell? ⟨(a.add (j * 5)).block, (a.add (j * 5)).off + 2, none⟩ = some (.slice A2 (el zFunc l j).caps.length c2) ∧ w.cell? ⟨(a.add (j * 5)).block, (a.add (j * 5)).off + 3, none⟩ = some (.slice A3 (el zFunc l j).code.length c3) ∧ w.cell? ⟨(a.add (j * 5)).block, (a.add (j * 5)).off + 4, none⟩ = some (.slice A4 (el zFunc l j).handlers.length c4) ∧
    ((el zFunc l j).caps.length ≤ c2 ∧ kCap.C w A2 (el zFunc l j).caps.length (el zFunc l j).caps) ∧ ((el zFunc l j).code.length ≤ c3 ∧ kIns.C w A3 (el zFunc l j).code.length (el zFunc l j).code) ∧ ((el zFunc l j).handlers.length ≤ c4 ∧ kHandler.C w A4 (el zFunc l j).handlers.length (el zFunc l j).handlers) := by
  obtain ⟨a, A2, c2, A3, c3, A4, c4, e, hK, x0, x1, x2, x3, x4⟩ := FuncI_at h j hj
  obtain ⟨B2, d2, B3, d3, B4, d4, he, l2, g2, l3, g3, l4, g4⟩ := kFuncI_open hK
  cases he
  exact ⟨a, A2, c2, A3, c3, A4, c4, e, x0, x1, x2, x3, x4, ⟨l2, g2⟩, ⟨l3, g3⟩, ⟨l4, g4⟩⟩
theorem Mem.rot {w W : World} {a b c : Hold} {H : List Hold} (h : Mem w W (a :: b :: c :: H)) : Mem w W (b :: c :: a :: H) := by
  have p : (b :: c :: a :: H).Perm (a :: b :: c :: H) := by
    refine List.Perm.symm ?_
    exact (List.Perm.swap b a (c :: H)).trans ((List.Perm.swap c a H).cons b)
  refine ⟨h.below, fun x hx => h.says x (p.mem_iff.1 hx), fun x hx => h.fits x (p.mem_iff.1 hx), ?_⟩
  refine (p.symm.pairwise_iff (fun {x y} hxy => ?_)).1 h.apart
  exact hxy.symm
def NumC (w0 w : World) (H : List Hold) (gw : Nat) (l2 : List Int) : Prop := ∃ (g c : Nat), Mem w0 w (Hold.box gw #[.slice (some ⟨g, 0, none⟩) (l2).length c] 160 :: Hold.bts g c (l2) :: H)
/-- (*impl.writer).num, its numbers in the newest box. -/
theorem cNumC (ns : List Int) (hns : ∀ n ∈ ns, 0 ≤ n ∧ n ≤ 1000000000) (hln : ns.length ≤ 8) (w0 W : World) (H : List Hold) (gw g c ga : Nat) (l l2 : List Int) (hl : l.length ≤ 1000000) (h2 : l2 = l ++ numsL ns)
    (M : Mem w0 W (Hold.box ga (nums .i64 ns).toArray 3 :: Hold.box gw #[.slice (some ⟨g, 0, none⟩) l.length c] 160 :: Hold.bts g c l :: H)) (n cA : Nat) (hn : n = ns.length) :
    Calls Try.prog 120 #[.pointer (some ⟨gw, 0, none⟩), .slice (some ⟨ga, 0, none⟩) n cA] W fun e w' => e = .returned (.tuple #[]) ∧ NumC w0 w' H gw l2 := by
  subst hn
  subst h2
  refine (cNum ns hns hln w0 W H gw g c ga l hl M.rot cA).mono ?_
  rintro e w' ⟨he, g2, c2, h⟩
  exact ⟨he, g2, c2, Mem.mid (A := [_, _]) h⟩
end Go.Proofs.Ytcbaokflimdjnaa.Law
end
section
namespace Go.Proofs.Ytcbaokflimdjnaa.Steps
open Go.RowKit Go.Proofs.Ytcbaokflimdjnaa Go.Proofs.YtcbaokflimdjnaaW.PrintWords Go.Proofs.YtcbaokflimdjnaaW.PrintLast
set_option linter.unusedVariables false
set_option autoImplicit false
variable {P : Program} {ops : Array Oper} {Q : Exit → Act → World → Prop} {md : Region.Mode} {S : World → Prop} {ds : List Nat} {T : Bool × List (List Nat × List Nat)} {B : List Nat} {oi oj : Oper} {v : Value} {fuel : Nat} {l : Array Bool} {a a' : Act} {w : World} {N M : Option Tmp}
/-- An operation that yields whatever the world is. -/
theorem pz (i k : Nat) (h : wpAnyLast P md ops Q S ds fuel (l.setIfInBounds i true) a' w) (hi : ops[i]? = some oi := by rfl) (hN : oi.dst = some k := by rfl) (hT : Aside0 (rtab md ops = T) := by assumption)
    (hc : anyT T l.toList (l.setIfInBounds i true).toList i = true := by kernel_rfl) (hQ : ∀ c a w, Q (.panic c) (a.put oi.dst v) w → Q (.panic c) a w := by exact fun _ _ _ h => h)
    (hw : Region.wanted oi (yielded ops a.tmps) = true := by rfl) (hy : ∀ w, (execOp a.eval oi).run P w = .ok (.value v) w := by intro w'; go_simp; with_reducible rfl)
    (ha : a.put (some k) v = a' := by simp only [Act.put, List.setIfInBounds_toArray, List.set_cons_zero, List.set_cons_succ, i64_w, i32_w]; rfl) : wpAnyLast P md ops Q S ds (fuel + 1) l a w :=
  pure_ (i := i) _ hi hN (any_of hT.out hc) hQ (Or.inl ⟨hw, hy⟩) ha h
/-- One that reads: by what is held. -/
theorem tz (i k : Nat) (h : wpAnyLast P md ops Q S ds fuel (l.setIfInBounds i true) a' w) (hi : ops[i]? = some oi := by rfl) (hN : oi.dst = some k := by rfl) (hT : Aside0 (rtab md ops = T) := by assumption)
    (hB : Aside0 (waitsOk T.2 B = true) := by assumption) (hc : takeW T B ds l.toList (l.setIfInBounds i true).toList i = true := by kernel_rfl) (hS : S w := by assumption) (hQ : ∀ c a w, Q (.panic c) (a.put oi.dst v) w → Q (.panic c) a w := by exact fun _ _ _ h => h)
    (hw : Region.wanted oi (yielded ops a.tmps) = true := by rfl) (hy : ∀ w, S w → (execOp a.eval oi).run P w = .ok (.value v) w := by intro w' h'; (try simp only at h'); repeat (cases h' with | intro _ h' => ?_); go_simp; with_reducible rfl)
    (ha : a.put (some k) v = a' := by simp only [Act.put, List.setIfInBounds_toArray, List.set_cons_zero, List.set_cons_succ, i64_w, i32_w]; rfl) : wpAnyLast P md ops Q S ds (fuel + 1) l a w :=
  take_ (i := i) _ hi hN (take_ofW hT.out hB.out hc) hQ (Or.inl ⟨hw, hy⟩) hS ha h
/-- The one that may come up alone: it is run. -/
theorem ez (i : Nat) (N : Option Tmp) (h : ∀ K : Act → World → Prop, Shut (∀ a' w', S w' → (S w' → wpAnyLast P md ops Q S ds fuel (l.setIfInBounds i true) a' w') → K a' w') → if Region.wanted oi (yielded ops a.tmps) = true then Oper.wp P oi a w K Q else K (a.put N undef) w)
    (hi : ops[i]? = some oi := by rfl) (hN : oi.dst = N := by rfl) (hT : Aside0 (rtab md ops = T) := by assumption) (hc : (readyT T.2 l.toList == [i] && l.toList.set i true == (l.setIfInBounds i true).toList) = true := by kernel_rfl) (hd : i ∉ ds := by decide) : wpAnyLast P md ops Q S ds (fuel + 1) l a w :=
  one_ (i := i) _ hi hN (one_of hT.out hc) hd h
theorem lz (i : Nat) (N : Option Tmp) (h : ∀ K : Act → World → Prop, Shut (∀ a' w', wpAnyLast P md ops Q S ds fuel (l.setIfInBounds i true) a' w' → K a' w') → if Region.wanted oi (yielded ops a.tmps) = true then Oper.wp P oi a w K Q else K (a.put N undef) w)
    (hi : ops[i]? = some oi := by rfl) (hN : oi.dst = N := by rfl) (hT : Aside0 (rtab md ops = T) := by assumption) (hc : (readyT T.2 l.toList == [i] && l.toList.set i true == (l.setIfInBounds i true).toList) = true := by kernel_rfl) (hd : i ∈ ds := by decide) : wpAnyLast P md ops Q S ds (fuel + 1) l a w :=
  last_ (i := i) _ hi hN (one_of hT.out hc) hd h
theorem dz (h : Q .normal a w) (hT : Aside0 (rtab md ops = T) := by assumption) (hc : (readyT T.2 l.toList == []) = true := by kernel_rfl) : wpAnyLast P md ops Q S ds fuel l a w := done_ (done_of hT.out hc) h
theorem kz (N : Option Tmp) (h : wpAnyLast P md ops Q S ds fuel l a' w) (ha : a.put N v = a' := by simp only [Act.put, List.setIfInBounds_toArray, List.set_cons_zero, List.set_cons_succ, i64_w, i32_w]; rfl) : wpAnyLast P md ops Q S ds fuel l (a.put N v) w := by
  rw [ha]; exact h
/-- A call of a Go function, by its contract. -/
theorem gz {K : Act → World → Prop} {f : FuncId} {fn : Go.Func} {ars : Array Operand} {ts : Array TypeId} (hf : P.funcs[f]? = some fn) (args : Array Value)
    (h : Calls P f args w fun e w' => ∃ v, e = .returned v ∧ K (a.put N v) w') (hname : (fn.name == "runtime.NumGoroutine") = false := by kernel_rfl) (hb : fn.body.isSome = true := by rfl)
    (hw : Region.wanted oi (yielded ops a.tmps) = true := by rfl) (hN : oi.dst = N := by rfl) (hop : oi.op = .call { callee := .value (.func f), args := ars, argTypes := ts } := by rfl)
    (hargs : ars.map a.eval = args := by (try simp only [List.map_toArray, List.map_cons, List.map_nil]); first | done | rfl | (simp only [List.length_drop, List.length_take]; rfl)) :
    if Region.wanted oi (yielded ops a.tmps) = true then Oper.wp P oi a w K Q else K (a.put N undef) w := goes_ hf hname hb args hw hN hop hargs h
theorem sz {id : Nat} (n : Nat) (S : World → Prop) (ds : List Nat) (hT : rtab .any ops = T) (hB : waitsOk T.2 B = true) (hS : S w.drew)
    (h : Aside0 (rtab .any ops = T) → Aside0 (waitsOk T.2 B = true) → S w.drew → wpAnyLast P .any ops Q S ds n (Array.replicate n false) a w.drew)
    (hm : P.follows .mixedOrders = true := by kernel_rfl) (hn : ops.size = n := by rfl) : (Code.region id ops true).wp P Q a w := start_ _ hm hn rfl hS (h ⟨hT⟩ ⟨hB⟩)
end Go.Proofs.Ytcbaokflimdjnaa.Steps
end
