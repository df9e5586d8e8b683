/- The structs of the program as Lean structures, their kinds, and what their cells say. No condition of its own. -/
import Derived.Test.YtdgjbpefbkgnpaaWWords
import Derived.Test.YtdgjbpefbkgnpaaWMore
import Derived.Test.YtdgjbpefbkgnpaaProg
namespace Go.Proofs.Ytdgjbpefbkgnpaa
open Go.RowKit Go.Proofs.YtdgjbpefbkgnpaaW.PrintWords Go.Proofs.YtdgjbpefbkgnpaaW.PrintMore
set_option linter.unusedVariables false
theorem kd_at {α : Type} {d : Kd α} {w : World} {A : Option Addr} {l : List α} (z : α) (h : d.C w A l.length l) (j : Nat) (hj : j < l.length) : ∃ a c, A = some a ∧ d.K w (l.getD j z) c ∧ ∀ i u, c[i]? = some u → w.cell? (a.add (j * d.sz + i)) = some u := by
  obtain ⟨a, c, e, _, hK, hc⟩ := Kd.C_get h z (j : Int) (by omega) (by omega)
  exact ⟨a, c, e, by simpa using hK, by simpa using hc⟩
theorem rd_ext {l m : List Int} (hl : l.length = m.length) (h : ∀ i : Nat, i < l.length → rd l i = rd m i) : l = m := by
  apply List.ext_getElem hl
  intro i h1 h2
  have := h i h1
  simpa [rd, List.getD_eq_getElem?_getD, List.getElem?_eq_getElem h1, List.getElem?_eq_getElem h2] using this
/-- The element at a place, a given one beyond. -/
def el {α : Type} (z : α) (l : List α) (j : Nat) : α := l.getD j z
theorem el_lt {α : Type} (z : α) {l : List α} {j : Nat} (h : j < l.length) : el z l j = l[j] := by simp [el, h]
theorem el_mem {α : Type} (z : α) {l : List α} {j : Nat} (h : j < l.length) : el z l j ∈ l := by rw [el_lt z h]; exact List.getElem_mem h
theorem el_ext {α : Type} (z : α) {l m : List α} (hl : l.length = m.length) (h : ∀ i : Nat, i < l.length → el z l i = el z m i) : l = m := by
  apply List.ext_getElem hl
  intro i h1 h2
  have := h i h1
  rwa [el_lt z h1, el_lt z h2] at this
theorem rd_el (l : List Int) (j : Nat) : rd l (j : Int) = el 0 l j := by simp [rd, el]
theorem int_at {w : World} {k : IntKind} {A : Option Addr} {l : List Int} (h : (Kd.int k).C w A l.length l) (j : Nat) (hj : j < l.length) : ∃ a, A = some a ∧ w.cell? (a.add j) = some (.int k (el 0 l j)) := by
  obtain ⟨a, e, hc⟩ := Kd.at_int h (j : Int) (by omega) (by omega)
  exact ⟨a, e, by rw [← rd_el]; simpa using hc⟩
theorem string_at {w : World} {A : Option Addr} {l : List ByteArray} (h : Kd.string.C w A l.length l) (j : Nat) (hj : j < l.length) : ∃ a, A = some a ∧ w.cell? (a.add j) = some (.string (el ByteArray.empty l j)) := by
  obtain ⟨a, c, e, hK, hc⟩ := kd_at ByteArray.empty h j hj
  have hc' : c = [.string (el ByteArray.empty l j)] := hK
  subst hc'
  exact ⟨a, e, by simpa [Kd.string, Kd.scalar] using hc 0 _ rfl⟩
structure Ins where
  op : Int
  a : Int
  b : Int
  deriving DecidableEq
def zIns : Ins := ⟨0, 0, 0⟩
def kIns : Kd Ins := Kd.iso (Kd.pair (Kd.int .i64) (Kd.pair (Kd.int .i64) (Kd.int .i64))) (fun x : Ins => (x.op, x.a, x.b))
theorem kIns_open {w : World} {x : Ins} {cs : List Value} (h : kIns.K w x cs) : cs = [.int .i64 x.op, .int .i64 x.a, .int .i64 x.b] := by
  obtain ⟨_, _, rfl, rfl, ⟨_, _, rfl, rfl, rfl⟩⟩ := h
  exact rfl
theorem kIns_mk (w : World) (x : Ins) : kIns.K w x [.int .i64 x.op, .int .i64 x.a, .int .i64 x.b] := ⟨_, _, rfl, rfl, ⟨_, _, rfl, rfl, rfl⟩⟩
theorem kIns_openM {w : World} {base : Nat} {ok : Nat → Prop} {x : Ins} {cs : List Value} (h : kIns.M w base ok x cs) : cs = [.int .i64 x.op, .int .i64 x.a, .int .i64 x.b] := by
  obtain ⟨_, _, rfl, rfl, ⟨_, _, rfl, rfl, rfl⟩⟩ := h
  exact rfl
theorem kIns_mkM (w : World) (base : Nat) (ok : Nat → Prop) (x : Ins) : kIns.M w base ok x [.int .i64 x.op, .int .i64 x.a, .int .i64 x.b] := ⟨_, _, rfl, rfl, ⟨_, _, rfl, rfl, rfl⟩⟩
theorem Ins_at {w : World} {A : Option Addr} {l : List Ins} (h : kIns.C w A l.length l) (j : Nat) (hj : j < l.length) : ∃ a, A = some a ∧ kIns.K w (el zIns l j) [.int .i64 (el zIns l j).op, .int .i64 (el zIns l j).a, .int .i64 (el zIns l j).b] ∧ w.cell? (a.add (j * 3)) = some (.int .i64 (el zIns l j).op) ∧ w.cell? ⟨(a.add (j * 3)).block, (a.add (j * 3)).off + 1, none⟩ = some (.int .i64 (el zIns l j).a) ∧ w.cell? ⟨(a.add (j * 3)).block, (a.add (j * 3)).off + 2, none⟩ = some (.int .i64 (el zIns l j).b) := by
  obtain ⟨a, c, e, hK, hc0⟩ := kd_at zIns h j hj
  have hc : ∀ i u, c[i]? = some u → w.cell? (a.add (j * 3 + i)) = some u := hc0
  have e2 := kIns_open hK
  subst e2
  exact ⟨a, e, hK, hc 0 _ rfl, by rw [← add_field _ _ 1 (by omega)]; exact hc 1 _ rfl, by rw [← add_field _ _ 2 (by omega)]; exact hc 2 _ rfl⟩
structure Cap where
  reg : Bool
  index : Int
  deriving DecidableEq
def zCap : Cap := ⟨false, 0⟩
def kCap : Kd Cap := Kd.iso (Kd.pair Kd.bool (Kd.int .i64)) (fun x : Cap => (x.reg, x.index))
theorem kCap_open {w : World} {x : Cap} {cs : List Value} (h : kCap.K w x cs) : cs = [.bool x.reg, .int .i64 x.index] := by
  obtain ⟨_, _, rfl, rfl, rfl⟩ := h
  exact rfl
theorem kCap_mk (w : World) (x : Cap) : kCap.K w x [.bool x.reg, .int .i64 x.index] := ⟨_, _, rfl, rfl, rfl⟩
theorem kCap_openM {w : World} {base : Nat} {ok : Nat → Prop} {x : Cap} {cs : List Value} (h : kCap.M w base ok x cs) : cs = [.bool x.reg, .int .i64 x.index] := by
  obtain ⟨_, _, rfl, rfl, rfl⟩ := h
  exact rfl
theorem kCap_mkM (w : World) (base : Nat) (ok : Nat → Prop) (x : Cap) : kCap.M w base ok x [.bool x.reg, .int .i64 x.index] := ⟨_, _, rfl, rfl, rfl⟩
theorem Cap_at {w : World} {A : Option Addr} {l : List Cap} (h : kCap.C w A l.length l) (j : Nat) (hj : j < l.length) : ∃ a, A = some a ∧ kCap.K w (el zCap l j) [.bool (el zCap l j).reg, .int .i64 (el zCap l j).index] ∧ w.cell? (a.add (j * 2)) = some (.bool (el zCap l j).reg) ∧ w.cell? ⟨(a.add (j * 2)).block, (a.add (j * 2)).off + 1, none⟩ = some (.int .i64 (el zCap l j).index) := by
  obtain ⟨a, c, e, hK, hc0⟩ := kd_at zCap h j hj
  have hc : ∀ i u, c[i]? = some u → w.cell? (a.add (j * 2 + i)) = some u := hc0
  have e2 := kCap_open hK
  subst e2
  exact ⟨a, e, hK, hc 0 _ rfl, by rw [← add_field _ _ 1 (by omega)]; exact hc 1 _ rfl⟩
structure Handler where
  from_ : Int
  to_ : Int
  target : Int
  deriving DecidableEq
def zHandler : Handler := ⟨0, 0, 0⟩
def kHandler : Kd Handler := Kd.iso (Kd.pair (Kd.int .i64) (Kd.pair (Kd.int .i64) (Kd.int .i64))) (fun x : Handler => (x.from_, x.to_, x.target))
theorem kHandler_open {w : World} {x : Handler} {cs : List Value} (h : kHandler.K w x cs) : cs = [.int .i64 x.from_, .int .i64 x.to_, .int .i64 x.target] := by
  obtain ⟨_, _, rfl, rfl, ⟨_, _, rfl, rfl, rfl⟩⟩ := h
  exact rfl
theorem kHandler_mk (w : World) (x : Handler) : kHandler.K w x [.int .i64 x.from_, .int .i64 x.to_, .int .i64 x.target] := ⟨_, _, rfl, rfl, ⟨_, _, rfl, rfl, rfl⟩⟩
theorem kHandler_openM {w : World} {base : Nat} {ok : Nat → Prop} {x : Handler} {cs : List Value} (h : kHandler.M w base ok x cs) : cs = [.int .i64 x.from_, .int .i64 x.to_, .int .i64 x.target] := by
  obtain ⟨_, _, rfl, rfl, ⟨_, _, rfl, rfl, rfl⟩⟩ := h
  exact rfl
theorem kHandler_mkM (w : World) (base : Nat) (ok : Nat → Prop) (x : Handler) : kHandler.M w base ok x [.int .i64 x.from_, .int .i64 x.to_, .int .i64 x.target] := ⟨_, _, rfl, rfl, ⟨_, _, rfl, rfl, rfl⟩⟩
theorem Handler_at {w : World} {A : Option Addr} {l : List Handler} (h : kHandler.C w A l.length l) (j : Nat) (hj : j < l.length) : ∃ a, A = some a ∧ kHandler.K w (el zHandler l j) [.int .i64 (el zHandler l j).from_, .int .i64 (el zHandler l j).to_, .int .i64 (el zHandler l j).target] ∧ w.cell? (a.add (j * 3)) = some (.int .i64 (el zHandler l j).from_) ∧ w.cell? ⟨(a.add (j * 3)).block, (a.add (j * 3)).off + 1, none⟩ = some (.int .i64 (el zHandler l j).to_) ∧ w.cell? ⟨(a.add (j * 3)).block, (a.add (j * 3)).off + 2, none⟩ = some (.int .i64 (el zHandler l j).target) := by
  obtain ⟨a, c, e, hK, hc0⟩ := kd_at zHandler h j hj
  have hc : ∀ i u, c[i]? = some u → w.cell? (a.add (j * 3 + i)) = some u := hc0
  have e2 := kHandler_open hK
  subst e2
  exact ⟨a, e, hK, hc 0 _ rfl, by rw [← add_field _ _ 1 (by omega)]; exact hc 1 _ rfl, by rw [← add_field _ _ 2 (by omega)]; exact hc 2 _ rfl⟩
structure Const where
  kind : Int
  num : Int
  text : ByteArray
  deriving DecidableEq
def zConst : Const := ⟨0, 0, (⟨#[]⟩ : ByteArray)⟩
def kConst : Kd Const := Kd.iso (Kd.pair (Kd.int .i64) (Kd.pair (Kd.int .u64) Kd.string)) (fun x : Const => (x.kind, x.num, x.text))
theorem kConst_open {w : World} {x : Const} {cs : List Value} (h : kConst.K w x cs) : cs = [.int .i64 x.kind, .int .u64 x.num, .string x.text] := by
  obtain ⟨_, _, rfl, rfl, ⟨_, _, rfl, rfl, rfl⟩⟩ := h
  exact rfl
theorem kConst_mk (w : World) (x : Const) : kConst.K w x [.int .i64 x.kind, .int .u64 x.num, .string x.text] := ⟨_, _, rfl, rfl, ⟨_, _, rfl, rfl, rfl⟩⟩
theorem kConst_openM {w : World} {base : Nat} {ok : Nat → Prop} {x : Const} {cs : List Value} (h : kConst.M w base ok x cs) : cs = [.int .i64 x.kind, .int .u64 x.num, .string x.text] := by
  obtain ⟨_, _, rfl, rfl, ⟨_, _, rfl, rfl, rfl⟩⟩ := h
  exact rfl
theorem kConst_mkM (w : World) (base : Nat) (ok : Nat → Prop) (x : Const) : kConst.M w base ok x [.int .i64 x.kind, .int .u64 x.num, .string x.text] := ⟨_, _, rfl, rfl, ⟨_, _, rfl, rfl, rfl⟩⟩
theorem Const_at {w : World} {A : Option Addr} {l : List Const} (h : kConst.C w A l.length l) (j : Nat) (hj : j < l.length) : ∃ a, A = some a ∧ kConst.K w (el zConst l j) [.int .i64 (el zConst l j).kind, .int .u64 (el zConst l j).num, .string (el zConst l j).text] ∧ w.cell? (a.add (j * 3)) = some (.int .i64 (el zConst l j).kind) ∧ w.cell? ⟨(a.add (j * 3)).block, (a.add (j * 3)).off + 1, none⟩ = some (.int .u64 (el zConst l j).num) ∧ w.cell? ⟨(a.add (j * 3)).block, (a.add (j * 3)).off + 2, none⟩ = some (.string (el zConst l j).text) := by
  obtain ⟨a, c, e, hK, hc0⟩ := kd_at zConst h j hj
  have hc : ∀ i u, c[i]? = some u → w.cell? (a.add (j * 3 + i)) = some u := hc0
  have e2 := kConst_open hK
  subst e2
  exact ⟨a, e, hK, hc 0 _ rfl, by rw [← add_field _ _ 1 (by omega)]; exact hc 1 _ rfl, by rw [← add_field _ _ 2 (by omega)]; exact hc 2 _ rfl⟩
structure State where
  acc : Int
  regs : List Int
  deriving DecidableEq
def zState : State := ⟨0, []⟩
def kStateL : Kd State := Kd.iso (Kd.pair (Kd.int .i64) (Kd.slice 3 (Kd.int .i64))) (fun x : State => (x.acc, x.regs))
theorem kStateL_open {w : World} {x : State} {cs : List Value} (h : kStateL.K w x cs) : ∃ A1 c1, cs = [.int .i64 x.acc, .slice A1 x.regs.length c1] ∧ x.regs.length ≤ c1 ∧ (Kd.int .i64).C w A1 x.regs.length x.regs := by
  obtain ⟨_, _, rfl, rfl, ⟨A1, c1, rfl, l1, g1⟩⟩ := h
  exact ⟨A1, c1, rfl, l1, g1⟩
theorem kStateL_mk (w : World) (x : State) {A1 : Option Addr} {c1 : Nat} (l1 : x.regs.length ≤ c1) (g1 : (Kd.int .i64).C w A1 x.regs.length x.regs) : kStateL.K w x [.int .i64 x.acc, .slice A1 x.regs.length c1] := ⟨_, _, rfl, rfl, ⟨_, _, rfl, l1, g1⟩⟩
theorem kStateL_openM {w : World} {base : Nat} {ok : Nat → Prop} {x : State} {cs : List Value} (h : kStateL.M w base ok x cs) : ∃ v1, cs = [.int .i64 x.acc, v1] ∧ (Kd.int .i64).R 3 w base ok v1 x.regs := by
  obtain ⟨_, _, rfl, rfl, ⟨v1, rfl, g1⟩⟩ := h
  exact ⟨v1, rfl, g1⟩
theorem kStateL_mkM (w : World) (base : Nat) (ok : Nat → Prop) (x : State) {v1 : Value} (g1 : (Kd.int .i64).R 3 w base ok v1 x.regs) : kStateL.M w base ok x [.int .i64 x.acc, v1] := ⟨_, _, rfl, rfl, ⟨_, rfl, g1⟩⟩
theorem StateL_at {w : World} {A : Option Addr} {l : List State} (h : kStateL.C w A l.length l) (j : Nat) (hj : j < l.length) : ∃ a A1 c1, A = some a ∧ kStateL.K w (el zState l j) [.int .i64 (el zState l j).acc, .slice A1 (el zState l j).regs.length c1] ∧ w.cell? (a.add (j * 2)) = some (.int .i64 (el zState l j).acc) ∧ w.cell? ⟨(a.add (j * 2)).block, (a.add (j * 2)).off + 1, none⟩ = some (.slice A1 (el zState l j).regs.length c1) := by
  obtain ⟨a, c, e, hK, hc0⟩ := kd_at zState h j hj
  have hc : ∀ i u, c[i]? = some u → w.cell? (a.add (j * 2 + i)) = some u := hc0
  obtain ⟨A1, c1, rfl, l1, g1⟩ := kStateL_open hK
  exact ⟨a, A1, c1, e, hK, hc 0 _ rfl, by rw [← add_field _ _ 1 (by omega)]; exact hc 1 _ rfl⟩
def kStateI : Kd State := Kd.iso (Kd.pair (Kd.int .i64) (Kd.slice 3 (Kd.int .i64))) (fun x : State => (x.acc, x.regs))
theorem kStateI_open {w : World} {x : State} {cs : List Value} (h : kStateI.K w x cs) : ∃ A1 c1, cs = [.int .i64 x.acc, .slice A1 x.regs.length c1] ∧ x.regs.length ≤ c1 ∧ (Kd.int .i64).C w A1 x.regs.length x.regs := by
  obtain ⟨_, _, rfl, rfl, ⟨A1, c1, rfl, l1, g1⟩⟩ := h
  exact ⟨A1, c1, rfl, l1, g1⟩
theorem kStateI_mk (w : World) (x : State) {A1 : Option Addr} {c1 : Nat} (l1 : x.regs.length ≤ c1) (g1 : (Kd.int .i64).C w A1 x.regs.length x.regs) : kStateI.K w x [.int .i64 x.acc, .slice A1 x.regs.length c1] := ⟨_, _, rfl, rfl, ⟨_, _, rfl, l1, g1⟩⟩
theorem kStateI_openM {w : World} {base : Nat} {ok : Nat → Prop} {x : State} {cs : List Value} (h : kStateI.M w base ok x cs) : ∃ v1, cs = [.int .i64 x.acc, v1] ∧ (Kd.int .i64).R 3 w base ok v1 x.regs := by
  obtain ⟨_, _, rfl, rfl, ⟨v1, rfl, g1⟩⟩ := h
  exact ⟨v1, rfl, g1⟩
theorem kStateI_mkM (w : World) (base : Nat) (ok : Nat → Prop) (x : State) {v1 : Value} (g1 : (Kd.int .i64).R 3 w base ok v1 x.regs) : kStateI.M w base ok x [.int .i64 x.acc, v1] := ⟨_, _, rfl, rfl, ⟨_, rfl, g1⟩⟩
theorem StateI_at {w : World} {A : Option Addr} {l : List State} (h : kStateI.C w A l.length l) (j : Nat) (hj : j < l.length) : ∃ a A1 c1, A = some a ∧ kStateI.K w (el zState l j) [.int .i64 (el zState l j).acc, .slice A1 (el zState l j).regs.length c1] ∧ w.cell? (a.add (j * 2)) = some (.int .i64 (el zState l j).acc) ∧ w.cell? ⟨(a.add (j * 2)).block, (a.add (j * 2)).off + 1, none⟩ = some (.slice A1 (el zState l j).regs.length c1) := by
  obtain ⟨a, c, e, hK, hc0⟩ := kd_at zState h j hj
  have hc : ∀ i u, c[i]? = some u → w.cell? (a.add (j * 2 + i)) = some u := hc0
  obtain ⟨A1, c1, rfl, l1, g1⟩ := kStateI_open hK
  exact ⟨a, A1, c1, e, hK, hc 0 _ rfl, by rw [← add_field _ _ 1 (by omega)]; exact hc 1 _ rfl⟩
structure Func where
  params : Int
  regs : Int
  caps : List Cap
  code : List Ins
  handlers : List Handler
  deriving DecidableEq
def zFunc : Func := ⟨0, 0, [], [], []⟩
def kFuncL : Kd Func := Kd.iso (Kd.pair (Kd.int .i64) (Kd.pair (Kd.int .i64) (Kd.pair (Kd.slice 179 kCap) (Kd.pair (Kd.slice 181 kIns) (Kd.slice 183 kHandler))))) (fun x : Func => (x.params, x.regs, x.caps, x.code, x.handlers))
theorem kFuncL_open {w : World} {x : Func} {cs : List Value} (h : kFuncL.K w x cs) : ∃ A2 c2 A3 c3 A4 c4, cs = [.int .i64 x.params, .int .i64 x.regs, .slice A2 x.caps.length c2, .slice A3 x.code.length c3, .slice A4 x.handlers.length c4] ∧ x.caps.length ≤ c2 ∧ kCap.C w A2 x.caps.length x.caps ∧ x.code.length ≤ c3 ∧ kIns.C w A3 x.code.length x.code ∧ x.handlers.length ≤ c4 ∧ kHandler.C w A4 x.handlers.length x.handlers := by
  obtain ⟨_, _, rfl, rfl, ⟨_, _, rfl, rfl, ⟨_, _, rfl, ⟨A2, c2, rfl, l2, g2⟩, ⟨_, _, rfl, ⟨A3, c3, rfl, l3, g3⟩, ⟨A4, c4, rfl, l4, g4⟩⟩⟩⟩⟩ := h
  exact ⟨A2, c2, A3, c3, A4, c4, rfl, l2, g2, l3, g3, l4, g4⟩
theorem kFuncL_mk (w : World) (x : Func) {A2 : Option Addr} {c2 : Nat} (l2 : x.caps.length ≤ c2) (g2 : kCap.C w A2 x.caps.length x.caps) {A3 : Option Addr} {c3 : Nat} (l3 : x.code.length ≤ c3) (g3 : kIns.C w A3 x.code.length x.code) {A4 : Option Addr} {c4 : Nat} (l4 : x.handlers.length ≤ c4) (g4 : kHandler.C w A4 x.handlers.length x.handlers) : kFuncL.K w x [.int .i64 x.params, .int .i64 x.regs, .slice A2 x.caps.length c2, .slice A3 x.code.length c3, .slice A4 x.handlers.length c4] := ⟨_, _, rfl, rfl, ⟨_, _, rfl, rfl, ⟨_, _, rfl, ⟨_, _, rfl, l2, g2⟩, ⟨_, _, rfl, ⟨_, _, rfl, l3, g3⟩, ⟨_, _, rfl, l4, g4⟩⟩⟩⟩⟩
theorem kFuncL_openM {w : World} {base : Nat} {ok : Nat → Prop} {x : Func} {cs : List Value} (h : kFuncL.M w base ok x cs) : ∃ v2 v3 v4, cs = [.int .i64 x.params, .int .i64 x.regs, v2, v3, v4] ∧ kCap.R 179 w base ok v2 x.caps ∧ kIns.R 181 w base ok v3 x.code ∧ kHandler.R 183 w base ok v4 x.handlers := by
  obtain ⟨_, _, rfl, rfl, ⟨_, _, rfl, rfl, ⟨_, _, rfl, ⟨v2, rfl, g2⟩, ⟨_, _, rfl, ⟨v3, rfl, g3⟩, ⟨v4, rfl, g4⟩⟩⟩⟩⟩ := h
  exact ⟨v2, v3, v4, rfl, g2, g3, g4⟩
theorem kFuncL_mkM (w : World) (base : Nat) (ok : Nat → Prop) (x : Func) {v2 : Value} (g2 : kCap.R 179 w base ok v2 x.caps) {v3 : Value} (g3 : kIns.R 181 w base ok v3 x.code) {v4 : Value} (g4 : kHandler.R 183 w base ok v4 x.handlers) : kFuncL.M w base ok x [.int .i64 x.params, .int .i64 x.regs, v2, v3, v4] := ⟨_, _, rfl, rfl, ⟨_, _, rfl, rfl, ⟨_, _, rfl, ⟨_, rfl, g2⟩, ⟨_, _, rfl, ⟨_, rfl, g3⟩, ⟨_, rfl, g4⟩⟩⟩⟩⟩
theorem FuncL_at {w : World} {A : Option Addr} {l : List Func} (h : kFuncL.C w A l.length l) (j : Nat) (hj : j < l.length) : ∃ a A2 c2 A3 c3 A4 c4, A = some a ∧ kFuncL.K w (el zFunc l j) [.int .i64 (el zFunc l j).params, .int .i64 (el zFunc l j).regs, .slice A2 (el zFunc l j).caps.length c2, .slice A3 (el zFunc l j).code.length c3, .slice A4 (el zFunc l j).handlers.length c4] ∧ w.cell? (a.add (j * 5)) = some (.int .i64 (el zFunc l j).params) ∧ w.cell? ⟨(a.add (j * 5)).block, (a.add (j * 5)).off + 1, none⟩ = some (.int .i64 (el zFunc l j).regs) ∧ w.cell? ⟨(a.add (j * 5)).block, (a.add (j * 5)).off + 2, none⟩ = some (.slice A2 (el zFunc l j).caps.length c2) ∧ w.cell? ⟨(a.add (j * 5)).block, (a.add (j * 5)).off + 3, none⟩ = some (.slice A3 (el zFunc l j).code.length c3) ∧ w.cell? ⟨(a.add (j * 5)).block, (a.add (j * 5)).off + 4, none⟩ = some (.slice A4 (el zFunc l j).handlers.length c4) := by
  obtain ⟨a, c, e, hK, hc0⟩ := kd_at zFunc h j hj
  have hc : ∀ i u, c[i]? = some u → w.cell? (a.add (j * 5 + i)) = some u := hc0
  obtain ⟨A2, c2, A3, c3, A4, c4, rfl, l2, g2, l3, g3, l4, g4⟩ := kFuncL_open hK
  exact ⟨a, A2, c2, A3, c3, A4, c4, e, hK, hc 0 _ rfl, by rw [← add_field _ _ 1 (by omega)]; exact hc 1 _ rfl, by rw [← add_field _ _ 2 (by omega)]; exact hc 2 _ rfl, by rw [← add_field _ _ 3 (by omega)]; exact hc 3 _ rfl, by rw [← add_field _ _ 4 (by omega)]; exact hc 4 _ rfl⟩
def kFuncI : Kd Func := Kd.iso (Kd.pair (Kd.int .i64) (Kd.pair (Kd.int .i64) (Kd.pair (Kd.slice 118 kCap) (Kd.pair (Kd.slice 121 kIns) (Kd.slice 124 kHandler))))) (fun x : Func => (x.params, x.regs, x.caps, x.code, x.handlers))
theorem kFuncI_open {w : World} {x : Func} {cs : List Value} (h : kFuncI.K w x cs) : ∃ A2 c2 A3 c3 A4 c4, cs = [.int .i64 x.params, .int .i64 x.regs, .slice A2 x.caps.length c2, .slice A3 x.code.length c3, .slice A4 x.handlers.length c4] ∧ x.caps.length ≤ c2 ∧ kCap.C w A2 x.caps.length x.caps ∧ x.code.length ≤ c3 ∧ kIns.C w A3 x.code.length x.code ∧ x.handlers.length ≤ c4 ∧ kHandler.C w A4 x.handlers.length x.handlers := by
  obtain ⟨_, _, rfl, rfl, ⟨_, _, rfl, rfl, ⟨_, _, rfl, ⟨A2, c2, rfl, l2, g2⟩, ⟨_, _, rfl, ⟨A3, c3, rfl, l3, g3⟩, ⟨A4, c4, rfl, l4, g4⟩⟩⟩⟩⟩ := h
  exact ⟨A2, c2, A3, c3, A4, c4, rfl, l2, g2, l3, g3, l4, g4⟩
theorem kFuncI_mk (w : World) (x : Func) {A2 : Option Addr} {c2 : Nat} (l2 : x.caps.length ≤ c2) (g2 : kCap.C w A2 x.caps.length x.caps) {A3 : Option Addr} {c3 : Nat} (l3 : x.code.length ≤ c3) (g3 : kIns.C w A3 x.code.length x.code) {A4 : Option Addr} {c4 : Nat} (l4 : x.handlers.length ≤ c4) (g4 : kHandler.C w A4 x.handlers.length x.handlers) : kFuncI.K w x [.int .i64 x.params, .int .i64 x.regs, .slice A2 x.caps.length c2, .slice A3 x.code.length c3, .slice A4 x.handlers.length c4] := ⟨_, _, rfl, rfl, ⟨_, _, rfl, rfl, ⟨_, _, rfl, ⟨_, _, rfl, l2, g2⟩, ⟨_, _, rfl, ⟨_, _, rfl, l3, g3⟩, ⟨_, _, rfl, l4, g4⟩⟩⟩⟩⟩
theorem kFuncI_openM {w : World} {base : Nat} {ok : Nat → Prop} {x : Func} {cs : List Value} (h : kFuncI.M w base ok x cs) : ∃ v2 v3 v4, cs = [.int .i64 x.params, .int .i64 x.regs, v2, v3, v4] ∧ kCap.R 118 w base ok v2 x.caps ∧ kIns.R 121 w base ok v3 x.code ∧ kHandler.R 124 w base ok v4 x.handlers := by
  obtain ⟨_, _, rfl, rfl, ⟨_, _, rfl, rfl, ⟨_, _, rfl, ⟨v2, rfl, g2⟩, ⟨_, _, rfl, ⟨v3, rfl, g3⟩, ⟨v4, rfl, g4⟩⟩⟩⟩⟩ := h
  exact ⟨v2, v3, v4, rfl, g2, g3, g4⟩
theorem kFuncI_mkM (w : World) (base : Nat) (ok : Nat → Prop) (x : Func) {v2 : Value} (g2 : kCap.R 118 w base ok v2 x.caps) {v3 : Value} (g3 : kIns.R 121 w base ok v3 x.code) {v4 : Value} (g4 : kHandler.R 124 w base ok v4 x.handlers) : kFuncI.M w base ok x [.int .i64 x.params, .int .i64 x.regs, v2, v3, v4] := ⟨_, _, rfl, rfl, ⟨_, _, rfl, rfl, ⟨_, _, rfl, ⟨_, rfl, g2⟩, ⟨_, _, rfl, ⟨_, rfl, g3⟩, ⟨_, rfl, g4⟩⟩⟩⟩⟩
theorem FuncI_at {w : World} {A : Option Addr} {l : List Func} (h : kFuncI.C w A l.length l) (j : Nat) (hj : j < l.length) : ∃ a A2 c2 A3 c3 A4 c4, A = some a ∧ kFuncI.K w (el zFunc l j) [.int .i64 (el zFunc l j).params, .int .i64 (el zFunc l j).regs, .slice A2 (el zFunc l j).caps.length c2, .slice A3 (el zFunc l j).code.length c3, .slice A4 (el zFunc l j).handlers.length c4] ∧ w.cell? (a.add (j * 5)) = some (.int .i64 (el zFunc l j).params) ∧ w.cell? ⟨(a.add (j * 5)).block, (a.add (j * 5)).off + 1, none⟩ = some (.int .i64 (el zFunc l j).regs) ∧ w.cell? ⟨(a.add (j * 5)).block, (a.add (j * 5)).off + 2, none⟩ = some (.slice A2 (el zFunc l j).caps.length c2) ∧ w.cell? ⟨(a.add (j * 5)).block, (a.add (j * 5)).off + 3, none⟩ = some (.slice A3 (el zFunc l j).code.length c3) ∧ w.cell? ⟨(a.add (j * 5)).block, (a.add (j * 5)).off + 4, none⟩ = some (.slice A4 (el zFunc l j).handlers.length c4) := by
  obtain ⟨a, c, e, hK, hc0⟩ := kd_at zFunc h j hj
  have hc : ∀ i u, c[i]? = some u → w.cell? (a.add (j * 5 + i)) = some u := hc0
  obtain ⟨A2, c2, A3, c3, A4, c4, rfl, l2, g2, l3, g3, l4, g4⟩ := kFuncI_open hK
  exact ⟨a, A2, c2, A3, c3, A4, c4, e, hK, hc 0 _ rfl, by rw [← add_field _ _ 1 (by omega)]; exact hc 1 _ rfl, by rw [← add_field _ _ 2 (by omega)]; exact hc 2 _ rfl, by rw [← add_field _ _ 3 (by omega)]; exact hc 3 _ rfl, by rw [← add_field _ _ 4 (by omega)]; exact hc 4 _ rfl⟩
structure Image where
  funcs : List Func
  consts : List Const
  deriving DecidableEq
def zImage : Image := ⟨[], []⟩
def kImageL : Kd Image := Kd.iso (Kd.pair (Kd.slice 154 kFuncL) (Kd.slice 156 kConst)) (fun x : Image => (x.funcs, x.consts))
theorem kImageL_open {w : World} {x : Image} {cs : List Value} (h : kImageL.K w x cs) : ∃ A0 c0 A1 c1, cs = [.slice A0 x.funcs.length c0, .slice A1 x.consts.length c1] ∧ x.funcs.length ≤ c0 ∧ kFuncL.C w A0 x.funcs.length x.funcs ∧ x.consts.length ≤ c1 ∧ kConst.C w A1 x.consts.length x.consts := by
  obtain ⟨_, _, rfl, ⟨A0, c0, rfl, l0, g0⟩, ⟨A1, c1, rfl, l1, g1⟩⟩ := h
  exact ⟨A0, c0, A1, c1, rfl, l0, g0, l1, g1⟩
theorem kImageL_mk (w : World) (x : Image) {A0 : Option Addr} {c0 : Nat} (l0 : x.funcs.length ≤ c0) (g0 : kFuncL.C w A0 x.funcs.length x.funcs) {A1 : Option Addr} {c1 : Nat} (l1 : x.consts.length ≤ c1) (g1 : kConst.C w A1 x.consts.length x.consts) : kImageL.K w x [.slice A0 x.funcs.length c0, .slice A1 x.consts.length c1] := ⟨_, _, rfl, ⟨_, _, rfl, l0, g0⟩, ⟨_, _, rfl, l1, g1⟩⟩
theorem kImageL_openM {w : World} {base : Nat} {ok : Nat → Prop} {x : Image} {cs : List Value} (h : kImageL.M w base ok x cs) : ∃ v0 v1, cs = [v0, v1] ∧ kFuncL.R 154 w base ok v0 x.funcs ∧ kConst.R 156 w base ok v1 x.consts := by
  obtain ⟨_, _, rfl, ⟨v0, rfl, g0⟩, ⟨v1, rfl, g1⟩⟩ := h
  exact ⟨v0, v1, rfl, g0, g1⟩
theorem kImageL_mkM (w : World) (base : Nat) (ok : Nat → Prop) (x : Image) {v0 : Value} (g0 : kFuncL.R 154 w base ok v0 x.funcs) {v1 : Value} (g1 : kConst.R 156 w base ok v1 x.consts) : kImageL.M w base ok x [v0, v1] := ⟨_, _, rfl, ⟨_, rfl, g0⟩, ⟨_, rfl, g1⟩⟩
theorem ImageL_at {w : World} {A : Option Addr} {l : List Image} (h : kImageL.C w A l.length l) (j : Nat) (hj : j < l.length) : ∃ a A0 c0 A1 c1, A = some a ∧ kImageL.K w (el zImage l j) [.slice A0 (el zImage l j).funcs.length c0, .slice A1 (el zImage l j).consts.length c1] ∧ w.cell? (a.add (j * 2)) = some (.slice A0 (el zImage l j).funcs.length c0) ∧ w.cell? ⟨(a.add (j * 2)).block, (a.add (j * 2)).off + 1, none⟩ = some (.slice A1 (el zImage l j).consts.length c1) := by
  obtain ⟨a, c, e, hK, hc0⟩ := kd_at zImage h j hj
  have hc : ∀ i u, c[i]? = some u → w.cell? (a.add (j * 2 + i)) = some u := hc0
  obtain ⟨A0, c0, A1, c1, rfl, l0, g0, l1, g1⟩ := kImageL_open hK
  exact ⟨a, A0, c0, A1, c1, e, hK, hc 0 _ rfl, by rw [← add_field _ _ 1 (by omega)]; exact hc 1 _ rfl⟩
def kImageI : Kd Image := Kd.iso (Kd.pair (Kd.slice 111 kFuncI) (Kd.slice 105 kConst)) (fun x : Image => (x.funcs, x.consts))
theorem kImageI_open {w : World} {x : Image} {cs : List Value} (h : kImageI.K w x cs) : ∃ A0 c0 A1 c1, cs = [.slice A0 x.funcs.length c0, .slice A1 x.consts.length c1] ∧ x.funcs.length ≤ c0 ∧ kFuncI.C w A0 x.funcs.length x.funcs ∧ x.consts.length ≤ c1 ∧ kConst.C w A1 x.consts.length x.consts := by
  obtain ⟨_, _, rfl, ⟨A0, c0, rfl, l0, g0⟩, ⟨A1, c1, rfl, l1, g1⟩⟩ := h
  exact ⟨A0, c0, A1, c1, rfl, l0, g0, l1, g1⟩
theorem kImageI_mk (w : World) (x : Image) {A0 : Option Addr} {c0 : Nat} (l0 : x.funcs.length ≤ c0) (g0 : kFuncI.C w A0 x.funcs.length x.funcs) {A1 : Option Addr} {c1 : Nat} (l1 : x.consts.length ≤ c1) (g1 : kConst.C w A1 x.consts.length x.consts) : kImageI.K w x [.slice A0 x.funcs.length c0, .slice A1 x.consts.length c1] := ⟨_, _, rfl, ⟨_, _, rfl, l0, g0⟩, ⟨_, _, rfl, l1, g1⟩⟩
theorem kImageI_openM {w : World} {base : Nat} {ok : Nat → Prop} {x : Image} {cs : List Value} (h : kImageI.M w base ok x cs) : ∃ v0 v1, cs = [v0, v1] ∧ kFuncI.R 111 w base ok v0 x.funcs ∧ kConst.R 105 w base ok v1 x.consts := by
  obtain ⟨_, _, rfl, ⟨v0, rfl, g0⟩, ⟨v1, rfl, g1⟩⟩ := h
  exact ⟨v0, v1, rfl, g0, g1⟩
theorem kImageI_mkM (w : World) (base : Nat) (ok : Nat → Prop) (x : Image) {v0 : Value} (g0 : kFuncI.R 111 w base ok v0 x.funcs) {v1 : Value} (g1 : kConst.R 105 w base ok v1 x.consts) : kImageI.M w base ok x [v0, v1] := ⟨_, _, rfl, ⟨_, rfl, g0⟩, ⟨_, rfl, g1⟩⟩
theorem ImageI_at {w : World} {A : Option Addr} {l : List Image} (h : kImageI.C w A l.length l) (j : Nat) (hj : j < l.length) : ∃ a A0 c0 A1 c1, A = some a ∧ kImageI.K w (el zImage l j) [.slice A0 (el zImage l j).funcs.length c0, .slice A1 (el zImage l j).consts.length c1] ∧ w.cell? (a.add (j * 2)) = some (.slice A0 (el zImage l j).funcs.length c0) ∧ w.cell? ⟨(a.add (j * 2)).block, (a.add (j * 2)).off + 1, none⟩ = some (.slice A1 (el zImage l j).consts.length c1) := by
  obtain ⟨a, c, e, hK, hc0⟩ := kd_at zImage h j hj
  have hc : ∀ i u, c[i]? = some u → w.cell? (a.add (j * 2 + i)) = some u := hc0
  obtain ⟨A0, c0, A1, c1, rfl, l0, g0, l1, g1⟩ := kImageI_open hK
  exact ⟨a, A0, c0, A1, c1, e, hK, hc 0 _ rfl, by rw [← add_field _ _ 1 (by omega)]; exact hc 1 _ rfl⟩
end Go.Proofs.Ytdgjbpefbkgnpaa
