/- Part 11 of the proof: general lemmas, contracts of functions, walks. No condition of its own. -/
import Derived.Test.YtcbaokflimdjnaaProg
import Derived.Test.YtcbaokflimdjnaaSts1
import Derived.Test.YtcbaokflimdjnaaSts10
import Derived.Test.YtcbaokflimdjnaaSts7
section
namespace Go.Proofs.Ytcbaokflimdjnaa
open Go.RowKit Go.Proofs.YtcbaokflimdjnaaW.PrintWords Go.Proofs.YtcbaokflimdjnaaW.PrintMore
set_option linter.unusedVariables false
theorem kd_at {α : Type} {d : Kd α} {w : World} {A : Option Addr} {l : List α} (z : α) (h : d.C w A l.length l) (j : Nat) (hj : j < l.length) : ∃ a c, A = some a ∧ d.K w (l.getD j z) c ∧ ∀ i u, c[i]? = some u → w.cell? (a.add (j * d.sz + i)) = some u := by
  obtain ⟨a, c, e, _, hK, hc⟩ := Kd.C_get h z (j : Int) (by omega) (by omega)
  exact ⟨a, c, e, by simpa using hK, by simpa using hc⟩
/-- The element at a place, a given one beyond. -/
def el {α : Type} (z : α) (l : List α) (j : Nat) : α := l.getD j z
theorem el_lt {α : Type} (z : α) {l : List α} {j : Nat} (h : j < l.length) : el z l j = l[j] := by simp [el, h]
theorem el_mem {α : Type} (z : α) {l : List α} {j : Nat} (h : j < l.length) : el z l j ∈ l := by rw [el_lt z h]; exact List.getElem_mem h
theorem el_ext {α : Type} (z : α) {l m : List α} (hl : l.length = m.length) (h : ∀ i : Nat, i < l.length → el z l i = el z m i) : l = m := by
  apply List.ext_getElem hl
  intro i h1 h2
  have := h i h1
  rwa [el_lt z h1, el_lt z h2] at this
theorem rd_el (l : List Int) (j : Nat) : rd l (j : Int) = el 0 l j := by simp [rd, el]
theorem int_at {w : World} {k : IntKind} {A : Option Addr} {l : List Int} (h : (Kd.int k).C w A l.length l) (j : Nat) (hj : j < l.length) : ∃ a, A = some a ∧ w.cell? (a.add j) = some (.int k (el 0 l j)) := by
  obtain ⟨a, e, hc⟩ := Kd.at_int h (j : Int) (by omega) (by omega)
  exact ⟨a, e, by rw [← rd_el]; simpa using hc⟩
end Go.Proofs.Ytcbaokflimdjnaa
end
section
namespace Go.Proofs.Ytcbaokflimdjnaa
open Go.RowKit Go.Proofs.YtcbaokflimdjnaaW.PrintWords Go.Proofs.YtcbaokflimdjnaaW.PrintMore
set_option linter.unusedVariables false
structure Ins where
  op : Int
  a : Int
  b : Int
  deriving DecidableEq
def zIns : Ins := ⟨0, 0, 0⟩
def kIns : Kd Ins := Kd.iso (Kd.pair (Kd.int .i64) (Kd.pair (Kd.int .i64) (Kd.int .i64))) (fun x : Ins => (x.op, x.a, x.b))
theorem kIns_open {w : World} {x : Ins} {cs : List Value} (h : kIns.K w x cs) : cs = [.int .i64 x.op, .int .i64 x.a, .int .i64 x.b] := by
  obtain ⟨_, _, rfl, rfl, ⟨_, _, rfl, rfl, rfl⟩⟩ := h
  exact rfl
theorem kIns_openM {w : World} {base : Nat} {ok : Nat → Prop} {x : Ins} {cs : List Value} (h : kIns.M w base ok x cs) : cs = [.int .i64 x.op, .int .i64 x.a, .int .i64 x.b] := by
  obtain ⟨_, _, rfl, rfl, ⟨_, _, rfl, rfl, rfl⟩⟩ := h
  exact rfl
theorem kIns_mkM (w : World) (base : Nat) (ok : Nat → Prop) (x : Ins) : kIns.M w base ok x [.int .i64 x.op, .int .i64 x.a, .int .i64 x.b] := ⟨_, _, rfl, rfl, ⟨_, _, rfl, rfl, rfl⟩⟩
theorem Ins_at {w : World} {A : Option Addr} {l : List Ins} (h : kIns.C w A l.length l) (j : Nat) (hj : j < l.length) : ∃ a, A = some a ∧ kIns.K w (el zIns l j) [.int .i64 (el zIns l j).op, .int .i64 (el zIns l j).a, .int .i64 (el zIns l j).b] ∧ w.cell? (a.add (j * 3)) = some (.int .i64 (el zIns l j).op) ∧ w.cell? ⟨(a.add (j * 3)).block, (a.add (j * 3)).off + 1, none⟩ = some (.int .i64 (el zIns l j).a) ∧ w.cell? ⟨(a.add (j * 3)).block, (a.add (j * 3)).off + 2, none⟩ = some (.int .i64 (el zIns l j).b) := by
  obtain ⟨a, c, e, hK, hc0⟩ := kd_at zIns h j hj
  have hc : ∀ i u, c[i]? = some u → w.cell? (a.add (j * 3 + i)) = some u := hc0
  have e2 := kIns_open hK
  subst e2
  exact ⟨a, e, hK, hc 0 _ rfl, by rw [← add_field _ _ 1 (by omega)]; exact hc 1 _ rfl, by rw [← add_field _ _ 2 (by omega)]; exact hc 2 _ rfl⟩
structure Cap where
  reg : Bool
  index : Int
  deriving DecidableEq
def zCap : Cap := ⟨false, 0⟩
def kCap : Kd Cap := Kd.iso (Kd.pair Kd.bool (Kd.int .i64)) (fun x : Cap => (x.reg, x.index))
theorem kCap_open {w : World} {x : Cap} {cs : List Value} (h : kCap.K w x cs) : cs = [.bool x.reg, .int .i64 x.index] := by
  obtain ⟨_, _, rfl, rfl, rfl⟩ := h
  exact rfl
theorem kCap_openM {w : World} {base : Nat} {ok : Nat → Prop} {x : Cap} {cs : List Value} (h : kCap.M w base ok x cs) : cs = [.bool x.reg, .int .i64 x.index] := by
  obtain ⟨_, _, rfl, rfl, rfl⟩ := h
  exact rfl
theorem kCap_mkM (w : World) (base : Nat) (ok : Nat → Prop) (x : Cap) : kCap.M w base ok x [.bool x.reg, .int .i64 x.index] := ⟨_, _, rfl, rfl, rfl⟩
theorem Cap_at {w : World} {A : Option Addr} {l : List Cap} (h : kCap.C w A l.length l) (j : Nat) (hj : j < l.length) : ∃ a, A = some a ∧ kCap.K w (el zCap l j) [.bool (el zCap l j).reg, .int .i64 (el zCap l j).index] ∧ w.cell? (a.add (j * 2)) = some (.bool (el zCap l j).reg) ∧ w.cell? ⟨(a.add (j * 2)).block, (a.add (j * 2)).off + 1, none⟩ = some (.int .i64 (el zCap l j).index) := by
  obtain ⟨a, c, e, hK, hc0⟩ := kd_at zCap h j hj
  have hc : ∀ i u, c[i]? = some u → w.cell? (a.add (j * 2 + i)) = some u := hc0
  have e2 := kCap_open hK
  subst e2
  exact ⟨a, e, hK, hc 0 _ rfl, by rw [← add_field _ _ 1 (by omega)]; exact hc 1 _ rfl⟩
structure Handler where
  from_ : Int
  to_ : Int
  target : Int
  deriving DecidableEq
def zHandler : Handler := ⟨0, 0, 0⟩
def kHandler : Kd Handler := Kd.iso (Kd.pair (Kd.int .i64) (Kd.pair (Kd.int .i64) (Kd.int .i64))) (fun x : Handler => (x.from_, x.to_, x.target))
theorem kHandler_open {w : World} {x : Handler} {cs : List Value} (h : kHandler.K w x cs) : cs = [.int .i64 x.from_, .int .i64 x.to_, .int .i64 x.target] := by
  obtain ⟨_, _, rfl, rfl, ⟨_, _, rfl, rfl, rfl⟩⟩ := h
  exact rfl
theorem kHandler_openM {w : World} {base : Nat} {ok : Nat → Prop} {x : Handler} {cs : List Value} (h : kHandler.M w base ok x cs) : cs = [.int .i64 x.from_, .int .i64 x.to_, .int .i64 x.target] := by
  obtain ⟨_, _, rfl, rfl, ⟨_, _, rfl, rfl, rfl⟩⟩ := h
  exact rfl
theorem kHandler_mkM (w : World) (base : Nat) (ok : Nat → Prop) (x : Handler) : kHandler.M w base ok x [.int .i64 x.from_, .int .i64 x.to_, .int .i64 x.target] := ⟨_, _, rfl, rfl, ⟨_, _, rfl, rfl, rfl⟩⟩
theorem Handler_at {w : World} {A : Option Addr} {l : List Handler} (h : kHandler.C w A l.length l) (j : Nat) (hj : j < l.length) : ∃ a, A = some a ∧ kHandler.K w (el zHandler l j) [.int .i64 (el zHandler l j).from_, .int .i64 (el zHandler l j).to_, .int .i64 (el zHandler l j).target] ∧ w.cell? (a.add (j * 3)) = some (.int .i64 (el zHandler l j).from_) ∧ w.cell? ⟨(a.add (j * 3)).block, (a.add (j * 3)).off + 1, none⟩ = some (.int .i64 (el zHandler l j).to_) ∧ w.cell? ⟨(a.add (j * 3)).block, (a.add (j * 3)).off + 2, none⟩ = some (.int .i64 (el zHandler l j).target) := by
  obtain ⟨a, c, e, hK, hc0⟩ := kd_at zHandler h j hj
  have hc : ∀ i u, c[i]? = some u → w.cell? (a.add (j * 3 + i)) = some u := hc0
  have e2 := kHandler_open hK
  subst e2
  exact ⟨a, e, hK, hc 0 _ rfl, by rw [← add_field _ _ 1 (by omega)]; exact hc 1 _ rfl, by rw [← add_field _ _ 2 (by omega)]; exact hc 2 _ rfl⟩
structure Const where
  kind : Int
  num : Int
  text : ByteArray
  deriving DecidableEq
def zConst : Const := ⟨0, 0, (⟨#[]⟩ : ByteArray)⟩
def kConst : Kd Const := Kd.iso (Kd.pair (Kd.int .i64) (Kd.pair (Kd.int .u64) Kd.string)) (fun x : Const => (x.kind, x.num, x.text))
theorem kConst_open {w : World} {x : Const} {cs : List Value} (h : kConst.K w x cs) : cs = [.int .i64 x.kind, .int .u64 x.num, .string x.text] := by
  obtain ⟨_, _, rfl, rfl, ⟨_, _, rfl, rfl, rfl⟩⟩ := h
  exact rfl
theorem kConst_openM {w : World} {base : Nat} {ok : Nat → Prop} {x : Const} {cs : List Value} (h : kConst.M w base ok x cs) : cs = [.int .i64 x.kind, .int .u64 x.num, .string x.text] := by
  obtain ⟨_, _, rfl, rfl, ⟨_, _, rfl, rfl, rfl⟩⟩ := h
  exact rfl
theorem kConst_mkM (w : World) (base : Nat) (ok : Nat → Prop) (x : Const) : kConst.M w base ok x [.int .i64 x.kind, .int .u64 x.num, .string x.text] := ⟨_, _, rfl, rfl, ⟨_, _, rfl, rfl, rfl⟩⟩
theorem Const_at {w : World} {A : Option Addr} {l : List Const} (h : kConst.C w A l.length l) (j : Nat) (hj : j < l.length) : ∃ a, A = some a ∧ kConst.K w (el zConst l j) [.int .i64 (el zConst l j).kind, .int .u64 (el zConst l j).num, .string (el zConst l j).text] ∧ w.cell? (a.add (j * 3)) = some (.int .i64 (el zConst l j).kind) ∧ w.cell? ⟨(a.add (j * 3)).block, (a.add (j * 3)).off + 1, none⟩ = some (.int .u64 (el zConst l j).num) ∧ w.cell? ⟨(a.add (j * 3)).block, (a.add (j * 3)).off + 2, none⟩ = some (.string (el zConst l j).text) := by
  obtain ⟨a, c, e, hK, hc0⟩ := kd_at zConst h j hj
  have hc : ∀ i u, c[i]? = some u → w.cell? (a.add (j * 3 + i)) = some u := hc0
  have e2 := kConst_open hK
  subst e2
  exact ⟨a, e, hK, hc 0 _ rfl, by rw [← add_field _ _ 1 (by omega)]; exact hc 1 _ rfl, by rw [← add_field _ _ 2 (by omega)]; exact hc 2 _ rfl⟩
structure Func where
  params : Int
  regs : Int
  caps : List Cap
  code : List Ins
  handlers : List Handler
  deriving DecidableEq
def zFunc : Func := ⟨0, 0, [], [], []⟩
def kFuncL : Kd Func := Kd.iso (Kd.pair (Kd.int .i64) (Kd.pair (Kd.int .i64) (Kd.pair (Kd.slice 197 kCap) (Kd.pair (Kd.slice 199 kIns) (Kd.slice 201 kHandler))))) (fun x : Func => (x.params, x.regs, x.caps, x.code, x.handlers))
theorem kFuncL_open {w : World} {x : Func} {cs : List Value} (h : kFuncL.K w x cs) : ∃ A2 c2 A3 c3 A4 c4, cs = [.int .i64 x.params, .int .i64 x.regs, .slice A2 x.caps.length c2, .slice A3 x.code.length c3, .slice A4 x.handlers.length c4] ∧ x.caps.length ≤ c2 ∧ kCap.C w A2 x.caps.length x.caps ∧ x.code.length ≤ c3 ∧ kIns.C w A3 x.code.length x.code ∧ x.handlers.length ≤ c4 ∧ kHandler.C w A4 x.handlers.length x.handlers := by
  obtain ⟨_, _, rfl, rfl, ⟨_, _, rfl, rfl, ⟨_, _, rfl, ⟨A2, c2, rfl, l2, g2⟩, ⟨_, _, rfl, ⟨A3, c3, rfl, l3, g3⟩, ⟨A4, c4, rfl, l4, g4⟩⟩⟩⟩⟩ := h
  exact ⟨A2, c2, A3, c3, A4, c4, rfl, l2, g2, l3, g3, l4, g4⟩
theorem FuncL_at {w : World} {A : Option Addr} {l : List Func} (h : kFuncL.C w A l.length l) (j : Nat) (hj : j < l.length) : ∃ a A2 c2 A3 c3 A4 c4, A = some a ∧ kFuncL.K w (el zFunc l j) [.int .i64 (el zFunc l j).params, .int .i64 (el zFunc l j).regs, .slice A2 (el zFunc l j).caps.length c2, .slice A3 (el zFunc l j).code.length c3, .slice A4 (el zFunc l j).handlers.length c4] ∧ w.cell? (a.add (j * 5)) = some (.int .i64 (el zFunc l j).params) ∧ w.cell? ⟨(a.add (j * 5)).block, (a.add (j * 5)).off + 1, none⟩ = some (.int .i64 (el zFunc l j).regs) ∧ w.cell? ⟨(a.add (j * 5)).block, (a.add (j * 5)).off + 2, none⟩ = some (.slice A2 (el zFunc l j).caps.length c2) ∧ w.cell? ⟨(a.add (j * 5)).block, (a.add (j * 5)).off + 3, none⟩ = some (.slice A3 (el zFunc l j).code.length c3) ∧ w.cell? ⟨(a.add (j * 5)).block, (a.add (j * 5)).off + 4, none⟩ = some (.slice A4 (el zFunc l j).handlers.length c4) := by
  obtain ⟨a, c, e, hK, hc0⟩ := kd_at zFunc h j hj
  have hc : ∀ i u, c[i]? = some u → w.cell? (a.add (j * 5 + i)) = some u := hc0
  obtain ⟨A2, c2, A3, c3, A4, c4, rfl, l2, g2, l3, g3, l4, g4⟩ := kFuncL_open hK
  exact ⟨a, A2, c2, A3, c3, A4, c4, e, hK, hc 0 _ rfl, by rw [← add_field _ _ 1 (by omega)]; exact hc 1 _ rfl, by rw [← add_field _ _ 2 (by omega)]; exact hc 2 _ rfl, by rw [← add_field _ _ 3 (by omega)]; exact hc 3 _ rfl, by rw [← add_field _ _ 4 (by omega)]; exact hc 4 _ rfl⟩
def kFuncI : Kd Func := Kd.iso (Kd.pair (Kd.int .i64) (Kd.pair (Kd.int .i64) (Kd.pair (Kd.slice 105 kCap) (Kd.pair (Kd.slice 76 kIns) (Kd.slice 107 kHandler))))) (fun x : Func => (x.params, x.regs, x.caps, x.code, x.handlers))
theorem kFuncI_open {w : World} {x : Func} {cs : List Value} (h : kFuncI.K w x cs) : ∃ A2 c2 A3 c3 A4 c4, cs = [.int .i64 x.params, .int .i64 x.regs, .slice A2 x.caps.length c2, .slice A3 x.code.length c3, .slice A4 x.handlers.length c4] ∧ x.caps.length ≤ c2 ∧ kCap.C w A2 x.caps.length x.caps ∧ x.code.length ≤ c3 ∧ kIns.C w A3 x.code.length x.code ∧ x.handlers.length ≤ c4 ∧ kHandler.C w A4 x.handlers.length x.handlers := by
  obtain ⟨_, _, rfl, rfl, ⟨_, _, rfl, rfl, ⟨_, _, rfl, ⟨A2, c2, rfl, l2, g2⟩, ⟨_, _, rfl, ⟨A3, c3, rfl, l3, g3⟩, ⟨A4, c4, rfl, l4, g4⟩⟩⟩⟩⟩ := h
  exact ⟨A2, c2, A3, c3, A4, c4, rfl, l2, g2, l3, g3, l4, g4⟩
theorem kFuncI_openM {w : World} {base : Nat} {ok : Nat → Prop} {x : Func} {cs : List Value} (h : kFuncI.M w base ok x cs) : ∃ v2 v3 v4, cs = [.int .i64 x.params, .int .i64 x.regs, v2, v3, v4] ∧ kCap.R 105 w base ok v2 x.caps ∧ kIns.R 76 w base ok v3 x.code ∧ kHandler.R 107 w base ok v4 x.handlers := by
  obtain ⟨_, _, rfl, rfl, ⟨_, _, rfl, rfl, ⟨_, _, rfl, ⟨v2, rfl, g2⟩, ⟨_, _, rfl, ⟨v3, rfl, g3⟩, ⟨v4, rfl, g4⟩⟩⟩⟩⟩ := h
  exact ⟨v2, v3, v4, rfl, g2, g3, g4⟩
theorem kFuncI_mkM (w : World) (base : Nat) (ok : Nat → Prop) (x : Func) {v2 : Value} (g2 : kCap.R 105 w base ok v2 x.caps) {v3 : Value} (g3 : kIns.R 76 w base ok v3 x.code) {v4 : Value} (g4 : kHandler.R 107 w base ok v4 x.handlers) : kFuncI.M w base ok x [.int .i64 x.params, .int .i64 x.regs, v2, v3, v4] := ⟨_, _, rfl, rfl, ⟨_, _, rfl, rfl, ⟨_, _, rfl, ⟨_, rfl, g2⟩, ⟨_, _, rfl, ⟨_, rfl, g3⟩, ⟨_, rfl, g4⟩⟩⟩⟩⟩
theorem FuncI_at {w : World} {A : Option Addr} {l : List Func} (h : kFuncI.C w A l.length l) (j : Nat) (hj : j < l.length) : ∃ a A2 c2 A3 c3 A4 c4, A = some a ∧ kFuncI.K w (el zFunc l j) [.int .i64 (el zFunc l j).params, .int .i64 (el zFunc l j).regs, .slice A2 (el zFunc l j).caps.length c2, .slice A3 (el zFunc l j).code.length c3, .slice A4 (el zFunc l j).handlers.length c4] ∧ w.cell? (a.add (j * 5)) = some (.int .i64 (el zFunc l j).params) ∧ w.cell? ⟨(a.add (j * 5)).block, (a.add (j * 5)).off + 1, none⟩ = some (.int .i64 (el zFunc l j).regs) ∧ w.cell? ⟨(a.add (j * 5)).block, (a.add (j * 5)).off + 2, none⟩ = some (.slice A2 (el zFunc l j).caps.length c2) ∧ w.cell? ⟨(a.add (j * 5)).block, (a.add (j * 5)).off + 3, none⟩ = some (.slice A3 (el zFunc l j).code.length c3) ∧ w.cell? ⟨(a.add (j * 5)).block, (a.add (j * 5)).off + 4, none⟩ = some (.slice A4 (el zFunc l j).handlers.length c4) := by
  obtain ⟨a, c, e, hK, hc0⟩ := kd_at zFunc h j hj
  have hc : ∀ i u, c[i]? = some u → w.cell? (a.add (j * 5 + i)) = some u := hc0
  obtain ⟨A2, c2, A3, c3, A4, c4, rfl, l2, g2, l3, g3, l4, g4⟩ := kFuncI_open hK
  exact ⟨a, A2, c2, A3, c3, A4, c4, e, hK, hc 0 _ rfl, by rw [← add_field _ _ 1 (by omega)]; exact hc 1 _ rfl, by rw [← add_field _ _ 2 (by omega)]; exact hc 2 _ rfl, by rw [← add_field _ _ 3 (by omega)]; exact hc 3 _ rfl, by rw [← add_field _ _ 4 (by omega)]; exact hc 4 _ rfl⟩
structure Image where
  funcs : List Func
  consts : List Const
  deriving DecidableEq
def kImageL : Kd Image := Kd.iso (Kd.pair (Kd.slice 129 kFuncL) (Kd.slice 131 kConst)) (fun x : Image => (x.funcs, x.consts))
theorem kImageL_open {w : World} {x : Image} {cs : List Value} (h : kImageL.K w x cs) : ∃ A0 c0 A1 c1, cs = [.slice A0 x.funcs.length c0, .slice A1 x.consts.length c1] ∧ x.funcs.length ≤ c0 ∧ kFuncL.C w A0 x.funcs.length x.funcs ∧ x.consts.length ≤ c1 ∧ kConst.C w A1 x.consts.length x.consts := by
  obtain ⟨_, _, rfl, ⟨A0, c0, rfl, l0, g0⟩, ⟨A1, c1, rfl, l1, g1⟩⟩ := h
  exact ⟨A0, c0, A1, c1, rfl, l0, g0, l1, g1⟩
theorem kImageL_mk (w : World) (x : Image) {A0 : Option Addr} {c0 : Nat} (l0 : x.funcs.length ≤ c0) (g0 : kFuncL.C w A0 x.funcs.length x.funcs) {A1 : Option Addr} {c1 : Nat} (l1 : x.consts.length ≤ c1) (g1 : kConst.C w A1 x.consts.length x.consts) : kImageL.K w x [.slice A0 x.funcs.length c0, .slice A1 x.consts.length c1] := ⟨_, _, rfl, ⟨_, _, rfl, l0, g0⟩, ⟨_, _, rfl, l1, g1⟩⟩
def kImageI : Kd Image := Kd.iso (Kd.pair (Kd.slice 73 kFuncI) (Kd.slice 100 kConst)) (fun x : Image => (x.funcs, x.consts))
theorem kImageI_open {w : World} {x : Image} {cs : List Value} (h : kImageI.K w x cs) : ∃ A0 c0 A1 c1, cs = [.slice A0 x.funcs.length c0, .slice A1 x.consts.length c1] ∧ x.funcs.length ≤ c0 ∧ kFuncI.C w A0 x.funcs.length x.funcs ∧ x.consts.length ≤ c1 ∧ kConst.C w A1 x.consts.length x.consts := by
  obtain ⟨_, _, rfl, ⟨A0, c0, rfl, l0, g0⟩, ⟨A1, c1, rfl, l1, g1⟩⟩ := h
  exact ⟨A0, c0, A1, c1, rfl, l0, g0, l1, g1⟩
structure State where
  acc : Int
  regs : List Int
  deriving DecidableEq
def zState : State := ⟨0, []⟩
def kStateI : Kd State := Kd.iso (Kd.pair (Kd.int .i64) (Kd.slice 3 (Kd.int .i64))) (fun x : State => (x.acc, x.regs))
theorem kStateI_open {w : World} {x : State} {cs : List Value} (h : kStateI.K w x cs) : ∃ A1 c1, cs = [.int .i64 x.acc, .slice A1 x.regs.length c1] ∧ x.regs.length ≤ c1 ∧ (Kd.int .i64).C w A1 x.regs.length x.regs := by
  obtain ⟨_, _, rfl, rfl, ⟨A1, c1, rfl, l1, g1⟩⟩ := h
  exact ⟨A1, c1, rfl, l1, g1⟩
theorem kStateI_openM {w : World} {base : Nat} {ok : Nat → Prop} {x : State} {cs : List Value} (h : kStateI.M w base ok x cs) : ∃ v1, cs = [.int .i64 x.acc, v1] ∧ (Kd.int .i64).R 3 w base ok v1 x.regs := by
  obtain ⟨_, _, rfl, rfl, ⟨v1, rfl, g1⟩⟩ := h
  exact ⟨v1, rfl, g1⟩
theorem kStateI_mkM (w : World) (base : Nat) (ok : Nat → Prop) (x : State) {v1 : Value} (g1 : (Kd.int .i64).R 3 w base ok v1 x.regs) : kStateI.M w base ok x [.int .i64 x.acc, v1] := ⟨_, _, rfl, rfl, ⟨_, rfl, g1⟩⟩
theorem StateI_at {w : World} {A : Option Addr} {l : List State} (h : kStateI.C w A l.length l) (j : Nat) (hj : j < l.length) : ∃ a A1 c1, A = some a ∧ kStateI.K w (el zState l j) [.int .i64 (el zState l j).acc, .slice A1 (el zState l j).regs.length c1] ∧ w.cell? (a.add (j * 2)) = some (.int .i64 (el zState l j).acc) ∧ w.cell? ⟨(a.add (j * 2)).block, (a.add (j * 2)).off + 1, none⟩ = some (.slice A1 (el zState l j).regs.length c1) := by
  obtain ⟨a, c, e, hK, hc0⟩ := kd_at zState h j hj
  have hc : ∀ i u, c[i]? = some u → w.cell? (a.add (j * 2 + i)) = some u := hc0
  obtain ⟨A1, c1, rfl, l1, g1⟩ := kStateI_open hK
  exact ⟨a, A1, c1, e, hK, hc 0 _ rfl, by rw [← add_field _ _ 1 (by omega)]; exact hc 1 _ rfl⟩
end Go.Proofs.Ytcbaokflimdjnaa
end
section
namespace Go.Proofs.Ytcbaokflimdjnaa.Law
open Go.RowKit Go.Proofs.YtcbaokflimdjnaaW.PrintWords Go.Proofs.YtcbaokflimdjnaaW.PrintMore
set_option linter.unusedVariables false
theorem bytes_ext {a b : ByteArray} (h : a.toList = b.toList) : a = b := by
  have e : ∀ x : ByteArray, x.toList = x.data.toList := fun x => ByteArray.toList_eq x
  rw [e, e] at h
  cases a
  cases b
  congr
  exact Array.ext' h
/-- A kind's reading, behind a draw. -/
theorem Kd.K_drew0 {α : Type} {d : Kd α} {w : World} {x : α} {cs : List Value} (h : d.K w x cs) : d.K w.drew x cs := d.K_below (below_drew1 (Below.refl _ _)) h
/-- From w on only new memory was written; the boxes of the list hold what it says. -/
structure At (w W : World) (L : List (Nat × Array Value × TypeId)) : Prop where
  below : Below w.heap.size w W
  box : ∀ b ∈ L, W.heap[b.1]? = some (.cells b.2.1 b.2.2 (0, 0))
theorem At.step {w W W2 : World} {L : List (Nat × Array Value × TypeId)} (h : At w W L) (hb : Below W.heap.size W W2) : At w W2 L := ⟨below_step h.below hb, fun b hm => blk_below (h.box b hm) hb⟩
theorem At.draw {w W : World} {L : List (Nat × Array Value × TypeId)} (h : At w W L) (n : Nat) : At w (W.drewN n) L := ⟨pw_below_drewN h.below n, fun b hm => h.box b hm⟩
theorem At.drew {w W : World} {L : List (Nat × Array Value × TypeId)} (h : At w W L) : At w W.drew L := ⟨below_drew1 h.below, fun b hm => h.box b hm⟩
theorem At.start (w : World) : At w w [] := ⟨Below.refl _ _, fun b hm => by cases hm⟩
theorem At.alloc {w W : World} {L : List (Nat × Array Value × TypeId)} (h : At w W L) (cs : Array Value) (t : TypeId) : At w (W.alloc (.cells cs t)) ((W.heap.size, cs, t) :: L) := by
  refine ⟨below_alloc h.below _, fun b hm => ?_⟩
  rcases List.mem_cons.1 hm with rfl | hm
  · exact blk_new W _
  · exact blk_alloc (h.box b hm) _
theorem At.cell {w W : World} {L : List (Nat × Array Value × TypeId)} (h : At w W L) {g : Nat} {cs : Array Value} {t : TypeId} (hm : (g, cs, t) ∈ L) : ∀ o, W.cell? ⟨g, o, none⟩ = cs[o]? := fun o => blk_cell (h.box _ hm) o
theorem At.cell0 {w W : World} {L : List (Nat × Array Value × TypeId)} {g : Nat} {cs : Array Value} {t : TypeId} (h : At w W ((g, cs, t) :: L)) : ∀ o, W.cell? ⟨g, o, none⟩ = cs[o]? := h.cell (t := t) (by simp)
theorem At.cell1 {w W : World} {L : List (Nat × Array Value × TypeId)} {b0 : Nat × Array Value × TypeId} {g : Nat} {cs : Array Value} {t : TypeId} (h : At w W (b0 :: (g, cs, t) :: L)) : ∀ o, W.cell? ⟨g, o, none⟩ = cs[o]? := h.cell (t := t) (by simp)
theorem At.free {w W : World} {L : List (Nat × Array Value × TypeId)} (h : At w W L) {g : Nat} {cs : Array Value} {t : TypeId} (hm : (g, cs, t) ∈ L) : ∀ o, W.frozen? ⟨g, o, none⟩ = false := fun o => blk_frozen (h.box _ hm) o
theorem At.reads {α : Type} {d : Kd α} {w W : World} {L : List (Nat × Array Value × TypeId)} {A : Option Addr} {n : Nat} {xs : List α} (h : At w W L) (hr : d.C w A n xs) : d.C W A n xs := Kd.C_below hr h.below
theorem At.mono {w W : World} {L L' : List (Nat × Array Value × TypeId)} (h : At w W L) (hs : ∀ b ∈ L', b ∈ L) : At w W L' := ⟨h.below, fun b hm => h.box b (hs b hm)⟩
end Go.Proofs.Ytcbaokflimdjnaa.Law
end
section
namespace Go.Proofs.Ytcbaokflimdjnaa.Law
open Go.RowKit Go.Proofs.YtcbaokflimdjnaaW.PrintWords Go.Proofs.YtcbaokflimdjnaaW.PrintMore
set_option linter.unusedVariables false
/-- A holding: the blocks lo .. hi, and what the world says of them. -/
structure Hold where
  lo : Nat
  hi : Nat
  P : World → Prop
  mv : ∀ {W W2 : World}, (∀ k, lo ≤ k → k < hi → k < W.heap.size → W2.heap[k]? = W.heap[k]?) → P W → P W2
def Hold.box (g : Nat) (cs : Array Value) (t : TypeId) : Hold := ⟨g, g + 1, fun W => W.heap[g]? = some (.cells cs t (0, 0)), fun hm h => (hm g (Nat.le_refl _) (Nat.lt_succ_self _) (blk_lt h)).trans h⟩
def Hold.val {α : Type} (d : Kd α) (lo hi : Nat) (x : α) (cs : List Value) : Hold := ⟨lo, hi, fun W => d.M W lo (fun k => lo ≤ k ∧ k < hi) x cs, fun hm h => Kd.M_step h (fun k hk hlt => hm k hk.1 hk.2 hlt)⟩
structure Mem (w W : World) (H : List Hold) : Prop where
  below : Below w.heap.size w W
  says : ∀ h ∈ H, h.P W
  fits : ∀ h ∈ H, w.heap.size ≤ h.lo ∧ h.hi ≤ W.heap.size
  apart : H.Pairwise (fun a b => b.hi ≤ a.lo ∨ a.hi ≤ b.lo)
theorem Mem.hide {w W : World} {H : List Hold} (h : Aside0 (Mem w W H)) : ∃ L, Aside0 (L = H) ∧ Aside0 (Mem w W L) := ⟨H, ⟨rfl⟩, h⟩
theorem Mem.start (w : World) : Mem w w [] := ⟨Below.refl _ _, fun _ h => absurd h List.not_mem_nil, fun _ h => absurd h List.not_mem_nil, List.Pairwise.nil⟩
theorem Mem.step {w W W2 : World} {H : List Hold} (h : Mem w W H) (hb : Below W.heap.size W W2) : Mem w W2 H :=
  ⟨below_step h.below hb, fun x hx => x.mv (fun k _ _ hlt => hb.block k hlt) (h.says x hx), fun x hx => ⟨(h.fits x hx).1, Nat.le_trans (h.fits x hx).2 hb.size⟩, h.apart⟩
theorem Mem.drew {w W : World} {H : List Hold} (h : Mem w W H) : Mem w W.drew H := h.step (below_drew1 (Below.refl _ _))
theorem Mem.draw {w W : World} {H : List Hold} (h : Mem w W H) (n : Nat) : Mem w (W.drewN n) H := h.step (pw_below_drewN (Below.refl _ _) n)
theorem Mem.alloc {w W : World} {H : List Hold} (h : Mem w W H) (cs : Array Value) (t : TypeId) : Mem w (W.alloc (.cells cs t)) (Hold.box W.heap.size cs t :: H) := by
  have h2 := h.step (below_alloc (Below.refl W.heap.size W) (.cells cs t))
  refine ⟨h2.below, fun x hx => ?_, fun x hx => ?_, List.Pairwise.cons (fun b hb => .inl (h.fits b hb).2) h.apart⟩
  · rcases List.mem_cons.1 hx with rfl | hx
    · exact blk_new W _
    · exact h2.says x hx
  · rcases List.mem_cons.1 hx with rfl | hx
    · exact ⟨h.below.size, by simp [Hold.box]⟩
    · exact h2.fits x hx
theorem Mem.push {α : Type} {d : Kd α} {w W W2 : World} {H : List Hold} {x : α} {cs : List Value} (h : Mem w W H) (hb : Below W.heap.size W W2) (hm : d.M W2 W.heap.size (fun _ => True) x cs) : Mem w W2 (Hold.val d W.heap.size W2.heap.size x cs :: H) := by
  have h2 := h.step hb
  refine ⟨h2.below, fun y hy => ?_, fun y hy => ?_, List.Pairwise.cons (fun b hb => .inl (h.fits b hb).2) h.apart⟩
  · rcases List.mem_cons.1 hy with rfl | hy
    · exact d.M_mono (fun k hk => ⟨hk.2.1, hk.2.2.1⟩) (d.M_bound hm)
    · exact h2.says y hy
  · rcases List.mem_cons.1 hy with rfl | hy
    · exact ⟨h.below.size, Nat.le_refl _⟩
    · exact h2.fits y hy
theorem Mem.box {w W : World} {H : List Hold} {g : Nat} {cs : Array Value} {t : TypeId} (h : Mem w W H) (hm : Hold.box g cs t ∈ H) : ∀ o, W.cell? ⟨g, o, none⟩ = cs[o]? := fun o => blk_cell (h.says _ hm) o
theorem Mem.val {α : Type} {d : Kd α} {w W : World} {H : List Hold} {lo hi : Nat} {x : α} {cs : List Value} (h : Mem w W H) (hm : Hold.val d lo hi x cs ∈ H) : d.M W lo (fun k => lo ≤ k ∧ k < hi) x cs := h.says _ hm
theorem Mem.read {α : Type} {d : Kd α} {w W : World} {H : List Hold} {lo hi : Nat} {x : α} {cs : List Value} (h : Mem w W H) (hm : Hold.val d lo hi x cs ∈ H) : d.K W x cs := d.K_of_M (h.val hm)
theorem Mem.old {α : Type} {d : Kd α} {w W : World} {H : List Hold} {x : α} {cs : List Value} (h : Mem w W H) (hk : d.K w x cs) : d.K W x cs := d.K_below h.below hk
theorem Mem.drop {w W : World} {h0 : Hold} {H : List Hold} (h : Mem w W (h0 :: H)) : Mem w W H := ⟨h.below, fun x hx => h.says x (.tail _ hx), fun x hx => h.fits x (.tail _ hx), (List.pairwise_cons.1 h.apart).2⟩
theorem Mem.allocAt {w W : World} {H : List Hold} (h : Mem w W H) {g : Nat} (hg : g = W.heap.size) (cs : Array Value) (t : TypeId) : Mem w (W.alloc (.cells cs t)) (Hold.box g cs t :: H) := hg ▸ h.alloc cs t
theorem Mem.pushR {α : Type} {d : Kd α} {e : Nat} {w W W2 : World} {H : List Hold} {l : List α} {v : Value} (h : Mem w W H) (hb : Below W.heap.size W W2) (hr : d.R e W2 W.heap.size (fun _ => True) v l) : Mem w W2 (Hold.val (Kd.slice e d) W.heap.size W2.heap.size l [v] :: H) := h.push hb ⟨v, rfl, hr⟩
theorem Mem.row {α : Type} {d : Kd α} {e : Nat} {w W : World} {H : List Hold} {lo hi : Nat} {l : List α} {v : Value} (h : Mem w W H) (hm : Hold.val (Kd.slice e d) lo hi l [v] ∈ H) : d.R e W lo (fun k => lo ≤ k ∧ k < hi) v l := by
  obtain ⟨v2, he, hr⟩ := h.val hm
  cases he
  exact hr
theorem Mem.rowT {α : Type} {d : Kd α} {e : Nat} {w W : World} {H : List Hold} {lo hi : Nat} {l : List α} {v : Value} (h : Mem w W H) (hm : Hold.val (Kd.slice e d) lo hi l [v] ∈ H) : d.R e W w.heap.size (fun _ => True) v l := Kd.R_mono (Kd.R_lower (h.row hm) (h.fits _ hm).1) (fun _ _ => trivial)
theorem Mem.free {w W : World} {H : List Hold} {g : Nat} {cs : Array Value} {t : TypeId} (h : Mem w W H) (hm : Hold.box g cs t ∈ H) : ∀ o, W.frozen? ⟨g, o, none⟩ = false := fun o => blk_frozen (h.says _ hm) o
theorem Mem.blk {w W : World} {H : List Hold} {g : Nat} {cs : Array Value} {t : TypeId} (h : Mem w W H) (hm : Hold.box g cs t ∈ H) : W.heap[g]? = some (.cells cs t (0, 0)) := h.says _ hm
theorem Mem.swap2 {w W : World} {a b : Hold} {H : List Hold} (h : Mem w W (a :: b :: H)) : Mem w W (b :: a :: H) := by
  have hp := h.apart
  rw [List.pairwise_cons, List.pairwise_cons] at hp
  refine ⟨h.below, fun x hx => h.says x ((List.Perm.swap a b H).mem_iff.1 hx), fun x hx => h.fits x ((List.Perm.swap a b H).mem_iff.1 hx), ?_⟩
  rw [List.pairwise_cons, List.pairwise_cons]
  refine ⟨fun z hz => ?_, fun z hz => hp.1 z (.tail _ hz), hp.2.2⟩
  rcases List.mem_cons.1 hz with rfl | hz
  · exact (hp.1 b (.head _)).symm
  · exact hp.2.1 z hz
/-- One holding's blocks alone are written. -/
theorem Mem.swap {w W W2 : World} {A B : List Hold} {a b : Hold} (h : Mem w W (A ++ a :: B)) (hl : b.lo = a.lo) (hh : b.hi = a.hi) (hb : Below w.heap.size w W2) (hk : Kept W W2 (fun k => a.lo ≤ k ∧ k < a.hi)) (hv : b.P W2) : Mem w W2 (A ++ b :: B) := by
  have ha := h.apart
  rw [List.pairwise_append] at ha
  obtain ⟨hA, hB, hAB⟩ := ha
  rw [List.pairwise_cons] at hB
  have key : ∀ z : Hold, (z ∈ A ∨ z ∈ B) → z.P W → z.P W2 := by
    intro z hz hp
    refine z.mv (fun k h1 h2 h3 => hk.2 k h3 ?_) hp
    rintro ⟨h4, h5⟩
    rcases hz with hz | hz
    · have := hAB z hz a List.mem_cons_self
      omega
    · have := hB.1 z hz
      omega
  refine ⟨hb, fun z hz => ?_, fun z hz => ?_, ?_⟩
  · rcases List.mem_append.1 hz with hz | hz
    · exact key z (.inl hz) (h.says z (List.mem_append_left _ hz))
    · rcases List.mem_cons.1 hz with rfl | hz
      · exact hv
      · exact key z (.inr hz) (h.says z (List.mem_append_right _ (List.mem_cons_of_mem _ hz)))
  · have hs := hk.1
    rcases List.mem_append.1 hz with hz | hz
    · have := h.fits z (List.mem_append_left _ hz)
      exact ⟨this.1, Nat.le_trans this.2 hs⟩
    · rcases List.mem_cons.1 hz with rfl | hz
      · have := h.fits a (List.mem_append_right _ List.mem_cons_self)
        rw [hl, hh]
        exact ⟨this.1, Nat.le_trans this.2 hs⟩
      · have := h.fits z (List.mem_append_right _ (List.mem_cons_of_mem _ hz))
        exact ⟨this.1, Nat.le_trans this.2 hs⟩
  · rw [List.pairwise_append]
    refine ⟨hA, List.pairwise_cons.2 ⟨fun z hz => by rw [hl, hh]; exact hB.1 z hz, hB.2⟩, fun c hc b' hb' => ?_⟩
    rcases List.mem_cons.1 hb' with rfl | hb'
    · rw [hh, hl]
      exact hAB c hc a List.mem_cons_self
    · exact hAB c hc b' (List.mem_cons_of_mem _ hb')
/-- A box's cell is written. -/
theorem Mem.set {w W : World} {A B : List Hold} {g : Nat} {cs : Array Value} {t : TypeId} (h : Mem w W (A ++ Hold.box g cs t :: B)) (j : Nat) (u : Value) {cs' : Array Value} (e : cs.setIfInBounds j u = cs') : Mem w (W.setCell ⟨g, j, none⟩ u) (A ++ Hold.box g cs' t :: B) := by
  have hm : Hold.box g cs t ∈ A ++ Hold.box g cs t :: B := List.mem_append_right _ List.mem_cons_self
  refine Mem.swap (a := Hold.box g cs t) (b := Hold.box g cs' t) h rfl rfl (below_set h.below (h.fits _ hm).1) ?_ (blk_put (h.says _ hm) j u e)
  exact Kept.setCell (Kept.refl _ _) (.inl ⟨Nat.le_refl _, Nat.lt_succ_self _⟩) u
/-- The i-th holding, a value, is written over; all else stays. -/
theorem Mem.mark {α : Type} {d : Kd α} {w W W2 : World} {A B : List Hold} {lo hi : Nat} {x y : α} {cs : List Value} (h : Mem w W (A ++ Hold.val d lo hi x cs :: B)) (hb : Below w.heap.size w W2) (hk : Kept W W2 (fun k => lo ≤ k ∧ k < hi)) (hv : d.M W2 lo (fun k => lo ≤ k ∧ k < hi) y cs) : Mem w W2 (A ++ Hold.val d lo hi y cs :: B) :=
  Mem.swap (a := Hold.val d lo hi x cs) (b := Hold.val d lo hi y cs) h rfl rfl hb hk hv
end Go.Proofs.Ytcbaokflimdjnaa.Law
end
section
namespace Go.Proofs.Ytcbaokflimdjnaa.Law
open Go.RowKit Go.Proofs.YtcbaokflimdjnaaW.PrintWords Go.Proofs.YtcbaokflimdjnaaW.PrintMore
set_option linter.unusedVariables false
theorem Mem.grow {α : Type} {d : Kd α} {e : Nat} {w W w1 : World} {H : List Hold} {lo hi : Nat} {l l1 : List α} {v v1 : Value} (h : Mem w W (Hold.val (Kd.slice e d) lo hi l [v] :: H)) (hH : ∀ x ∈ H, x.hi ≤ lo) (hb : Below lo W w1) (hr : d.R e w1 lo (fun k => lo ≤ k) v1 l1) : Mem w w1 (Hold.val (Kd.slice e d) lo w1.heap.size l1 [v1] :: H) := by
  have hf := (h.fits _ (.head _))
  have hlo : w.heap.size ≤ lo := hf.1
  refine ⟨h.below.trans ⟨hb.os, hb.tape, hb.output, hb.size, fun i hi => hb.block i (Nat.lt_of_lt_of_le hi hlo)⟩, fun x hx => ?_, fun x hx => ?_, ?_⟩
  · rcases List.mem_cons.1 hx with rfl | hx
    · exact ⟨v1, rfl, Kd.R_mono (Kd.R_bound hr) (fun k hk => ⟨hk.1, hk.2.2.1⟩)⟩
    · exact x.mv (fun k _ h2 _ => hb.block k (Nat.lt_of_lt_of_le h2 (hH x hx))) (h.says x (.tail _ hx))
  · rcases List.mem_cons.1 hx with rfl | hx
    · exact ⟨hlo, Nat.le_refl _⟩
    · have := h.fits x (.tail _ hx)
      exact ⟨this.1, Nat.le_trans this.2 hb.size⟩
  · exact List.pairwise_cons.2 ⟨fun x hx => .inl (hH x hx), (List.pairwise_cons.1 h.apart).2⟩
end Go.Proofs.Ytcbaokflimdjnaa.Law
end
