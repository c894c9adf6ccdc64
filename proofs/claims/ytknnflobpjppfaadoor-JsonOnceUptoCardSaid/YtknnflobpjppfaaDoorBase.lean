/- Small laws on worlds that all walks of this seat share: 'Ext w w'': everything that was there is as it was. -/
import Derived.Test.YtknnflobpjppfaaDoorRows
import Derived.WalkKit
import Derived.ProofKit
import Derived.OpenShut
import Derived.Below
import Derived.Lib.Hide
import Derived.Deep.QuietTactic
import Derived.BigQuiet
import Derived.Deep.LoopGhost
import Derived.Deep.Cut
import Derived.Deep.CutRange
import Derived.Deep.RegionWith
import Derived.Outline
import Derived.OneCell
import Derived.Deep.Light
import Derived.WalkSpells
import Derived.WalkLawsBesides
set_option linter.all false
namespace Go.Proofs.YtknnflobpjppfaaDoor
open Go.RowKit

theorem Tryd.own : ownKnob Tryd.prog.godebug = none := by kernel_rfl
theorem Tryd.laidOut : laidOutB Tryd.prog = true := by kernel_rfl

/-- Everything that was there when the call began is as it was. -/
def Ext (w w' : World) : Prop := Below w.heap.size w w'

theorem Ext.refl (w : World) : Ext w w := Below.refl _ _
theorem Ext.size {a b : World} (h : Ext a b) : a.heap.size ≤ b.heap.size := Below.size h
theorem Ext.trans {a b c : World} (h : Ext a b) (k : Ext b c) : Ext a c := Below.trans h (Below.mono k h.size)
theorem Ext.drew {a b : World} (h : Ext a b) : Ext a b.drew := Below.drew h
theorem Ext.drewN {a b : World} (h : Ext a b) (n : Nat) : Ext a (b.drewN n) := below_drewN h n
theorem Ext.alloc {a b : World} (h : Ext a b) (o : Obj) : Ext a (b.alloc o) := Below.alloc h h.size o
theorem Ext.setCell {a b : World} (h : Ext a b) {p : Addr} (hp : a.heap.size ≤ p.block) (u : Value) : Ext a (b.setCell p u) := Below.setCell h hp u
theorem Ext.below {a b : World} (h : Ext a b) : Below a.heap.size a b := h

theorem cell_lt {w : World} {p : Addr} {v : Value} (h : w.cell? p = some v) : p.block < w.heap.size := by
  unfold World.cell? at h
  split at h
  · rename_i hb
    exact (Array.getElem?_eq_some_iff.1 hb).1
  · cases h

theorem Ext.cell {a b : World} (h : Ext a b) {p : Addr} {v : Value} (hv : a.cell? p = some v) : b.cell? p = some v := by
  rw [Below.cell h (cell_lt hv)]; exact hv
theorem Ext.cells {a b : World} (h : Ext a b) : ∀ p : Addr, p.block < a.heap.size → b.cell? p = a.cell? p := fun p hp => Below.cell h hp
theorem Ext.frozen {a b : World} (h : Ext a b) : ∀ p : Addr, p.block < a.heap.size → b.frozen? p = a.frozen? p := fun p hp => Below.frozen h hp

/-- The world under a new name, of which these facts alone are kept. -/
theorem gen_world {P : Program} {c : Code} {Q : Exit → Act → World → Prop} {a : Act} {W : World} (R : World → Prop) (h : R W) (k : ∀ wx, R wx → Code.wp P c Q a wx) : Code.wp P c Q a W := k W h
theorem bp_ret {P : Program} {fn : Func} {R : Ending → World → Prop} {v : Value} {tmps : Array Value} {w : World} (hr : (results fn tmps).run P w = .ok v w) (hR : R (.returned v) w) :
    bodyPost P fn R .ret { tmps := tmps, defers := [] } w := ⟨rfl, v, hr, hR⟩
theorem ret_bool {a b : Bool} (h : a = b) : Ending.returned (.bool a) = Ending.returned (.bool b) := by rw [h]
theorem vb {a b : Bool} (h : a = b) : Value.bool a = Value.bool b := by rw [h]
theorem ret_int {k : IntKind} {a b : Int} (h : a = b) : Ending.returned (.int k a) = Ending.returned (.int k b) := by rw [h]

theorem ext_facts {a b : World} (h : Ext a b) : (∀ k o, k < a.heap.size → b.cell? ⟨k, o, none⟩ = a.cell? ⟨k, o, none⟩) ∧ (∀ k o, k < a.heap.size → b.frozen? ⟨k, o, none⟩ = a.frozen? ⟨k, o, none⟩) ∧ a.heap.size ≤ b.heap.size :=
  ⟨fun _ _ hk => Below.cell (p := ⟨_, _, none⟩) h hk, fun _ _ hk => Below.frozen (p := ⟨_, _, none⟩) h hk, h.size⟩

/-- A block of the call's own, whole: its cells, none of them frozen. -/
def Box (w : World) (n : Nat) (vs : Array Value) (T : TypeId) : Prop := w.heap[n]? = some (.cells vs T (0, 0))
theorem Box.cells {w : World} {n : Nat} {vs : Array Value} {T : TypeId} (h : Box w n vs T) : ∀ i, w.cell? ⟨n, i, none⟩ = vs[i]? := by
  intro i; unfold Box at h; simp [World.cell?, h]
theorem Box.free {w : World} {n : Nat} {vs : Array Value} {T : TypeId} (h : Box w n vs T) : ∀ i, w.frozen? ⟨n, i, none⟩ = false := by
  intro i; unfold Box at h; simp [World.frozen?, h]
theorem Box.lt {w : World} {n : Nat} {vs : Array Value} {T : TypeId} (h : Box w n vs T) : n < w.heap.size := lt_of_block h
theorem Box.new (w : World) (vs : Array Value) (T : TypeId) {n : Nat} (e : n = w.heap.size) : Box (w.alloc (.cells vs T)) n vs T := by
  subst e
  show (w.heap.push _)[w.heap.size]? = _; simp
theorem Box.alloc {w : World} {n : Nat} {vs : Array Value} {T : TypeId} (h : Box w n vs T) (o : Obj) : Box (w.alloc o) n vs T := by
  have := h.lt; unfold Box at *; rw [Below.heap_alloc _ _ _ this]; exact h
theorem Box.drew {w : World} {n : Nat} {vs : Array Value} {T : TypeId} (h : Box w n vs T) : Box w.drew n vs T := h
theorem Box.ext {w w' : World} {n : Nat} {vs : Array Value} {T : TypeId} (e : Ext w w') (h : Box w n vs T) : Box w' n vs T := by
  have := h.lt; unfold Box at *; rw [Below.block e _ this]; exact h
theorem Box.other {w : World} {n : Nat} {vs : Array Value} {T : TypeId} (h : Box w n vs T) {p : Addr} (hp : n ≠ p.block) (u : Value) : Box (w.setCell p u) n vs T := by
  unfold Box at *; rw [Below.heap_setCell _ _ _ _ hp]; exact h
theorem Box.set {w : World} {n : Nat} {vs : Array Value} {T : TypeId} (h : Box w n vs T) (i : Nat) (u : Value) : Box (w.setCell ⟨n, i, none⟩ u) n (vs.setIfInBounds i u) T := by
  have hlt := h.lt
  unfold Box at *
  have h' : w.heap[n] = .cells vs T (0, 0) := by simpa [Array.getElem?_eq_getElem hlt] using h
  show (w.heap.modify n _)[n]? = _
  rw [Array.getElem?_eq_getElem (by simpa using hlt), Array.getElem_modify_self, h']
  rfl
theorem Box.to {w : World} {n : Nat} {vs vs' : Array Value} {T : TypeId} (h : Box w n vs T) (e : vs = vs') : Box w n vs' T := e ▸ h

end Go.Proofs.YtknnflobpjppfaaDoor
