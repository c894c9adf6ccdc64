/- Several texts in one. -/
import Derived.Test.YtjibdbnpkfghhaaGreatDoorRows
import Derived.WalkKit
import Derived.ProofKit
import Derived.OpenShut
import Derived.Below
import Derived.Lib.Hide
import Derived.Deep.QuietTactic
import Derived.BigQuiet
import Derived.Deep.LoopGhost
import Derived.Deep.Cut
import Derived.Deep.CutRange
import Derived.Deep.RegionWith
import Derived.Outline
import Derived.OneCell
import Derived.Deep.Light
import Derived.WalkSpells
import Derived.WalkLawsBesides
import Derived.Deep.RegionHeld3
import Derived.Lib.Replace
import Derived.Lib.AtoiAll
import Derived.Lib.ItoaNum
set_option linter.all false
/- Small laws on worlds that all walks of this seat share: 'Ext w w'': everything that was there is as it was. -/
namespace Go.Proofs.YtjibdbnpkfghhaaGreatDoor
open Go.RowKit
theorem Tryz.own : ownKnob Tryz.prog.godebug = none := by kernel_rfl
theorem Tryz.laidOut : laidOutB Tryz.prog = true := by kernel_rfl
def Ext (w w' : World) : Prop := Below w.heap.size w w'
theorem Ext.refl (w : World) : Ext w w := Below.refl _ _
theorem Ext.size {a b : World} (h : Ext a b) : a.heap.size ≤ b.heap.size := Below.size h
theorem Ext.trans {a b c : World} (h : Ext a b) (k : Ext b c) : Ext a c := Below.trans h (Below.mono k h.size)
theorem Ext.drew {a b : World} (h : Ext a b) : Ext a b.drew := Below.drew h
theorem Ext.drewN {a b : World} (h : Ext a b) (n : Nat) : Ext a (b.drewN n) := below_drewN h n
theorem Ext.alloc {a b : World} (h : Ext a b) (o : Obj) : Ext a (b.alloc o) := Below.alloc h h.size o
theorem Ext.setCell {a b : World} (h : Ext a b) {p : Addr} (hp : a.heap.size ≤ p.block) (u : Value) : Ext a (b.setCell p u) := Below.setCell h hp u
theorem Ext.below {a b : World} (h : Ext a b) : Below a.heap.size a b := h
theorem cell_lt {w : World} {p : Addr} {v : Value} (h : w.cell? p = some v) : p.block < w.heap.size := by
 unfold World.cell? at h
 split at h
 ·rename_i hb
  exact (Array.getElem?_eq_some_iff.1 hb).1
 ·cases h
theorem Ext.cell {a b : World} (h : Ext a b) {p : Addr} {v : Value} (hv : a.cell? p = some v) : b.cell? p = some v := by
 rw [Below.cell h (cell_lt hv)]; exact hv
theorem Ext.cells {a b : World} (h : Ext a b) : ∀ p : Addr, p.block < a.heap.size → b.cell? p = a.cell? p := fun p hp => Below.cell h hp
theorem Ext.frozen {a b : World} (h : Ext a b) : ∀ p : Addr, p.block < a.heap.size → b.frozen? p = a.frozen? p := fun p hp => Below.frozen h hp
theorem gen_world {P : Program} {c : Code} {Q : Exit → Act → World → Prop} {a : Act} {W : World} (R : World → Prop) (h : R W) (k : ∀ wx, R wx → Code.wp P c Q a wx) : Code.wp P c Q a W := k W h
theorem bp_ret {P : Program} {fn : Func} {R : Ending → World → Prop} {v : Value} {tmps : Array Value} {w : World} (hr : (results fn tmps).run P w = .ok v w) (hR : R (.returned v) w) :
  bodyPost P fn R .ret { tmps := tmps, defers := [] } w := ⟨rfl, v, hr, hR⟩
theorem ret_bool {a b : Bool} (h : a = b) : Ending.returned (.bool a) = Ending.returned (.bool b) := by rw [h]
theorem vb {a b : Bool} (h : a = b) : Value.bool a = Value.bool b := by rw [h]
theorem ret_int {k : IntKind} {a b : Int} (h : a = b) : Ending.returned (.int k a) = Ending.returned (.int k b) := by rw [h]
theorem ext_facts {a b : World} (h : Ext a b) : (∀ k o, k < a.heap.size → b.cell? ⟨k, o, none⟩ = a.cell? ⟨k, o, none⟩) ∧ (∀ k o, k < a.heap.size → b.frozen? ⟨k, o, none⟩ = a.frozen? ⟨k, o, none⟩) ∧ a.heap.size ≤ b.heap.size :=
 ⟨fun _ _ hk => Below.cell (p := ⟨_, _, none⟩) h hk, fun _ _ hk => Below.frozen (p := ⟨_, _, none⟩) h hk, h.size⟩
def Box (w : World) (n : Nat) (vs : Array Value) (T : TypeId) : Prop := w.heap[n]? = some (.cells vs T (0, 0))
theorem Box.cells {w : World} {n : Nat} {vs : Array Value} {T : TypeId} (h : Box w n vs T) : ∀ i, w.cell? ⟨n, i, none⟩ = vs[i]? := by
 intro i; unfold Box at h; simp [World.cell?, h]
theorem Box.free {w : World} {n : Nat} {vs : Array Value} {T : TypeId} (h : Box w n vs T) : ∀ i, w.frozen? ⟨n, i, none⟩ = false := by
 intro i; unfold Box at h; simp [World.frozen?, h]
theorem Box.lt {w : World} {n : Nat} {vs : Array Value} {T : TypeId} (h : Box w n vs T) : n < w.heap.size := lt_of_block h
theorem Box.new (w : World) (vs : Array Value) (T : TypeId) {n : Nat} (e : n = w.heap.size) : Box (w.alloc (.cells vs T)) n vs T := by
 subst e
 show (w.heap.push _)[w.heap.size]? = _; simp
theorem Box.alloc {w : World} {n : Nat} {vs : Array Value} {T : TypeId} (h : Box w n vs T) (o : Obj) : Box (w.alloc o) n vs T := by
 have := h.lt; unfold Box at *; rw [Below.heap_alloc _ _ _ this]; exact h
theorem Box.drew {w : World} {n : Nat} {vs : Array Value} {T : TypeId} (h : Box w n vs T) : Box w.drew n vs T := h
theorem Box.ext {w w' : World} {n : Nat} {vs : Array Value} {T : TypeId} (e : Ext w w') (h : Box w n vs T) : Box w' n vs T := by
 have := h.lt; unfold Box at *; rw [Below.block e _ this]; exact h
theorem Box.other {w : World} {n : Nat} {vs : Array Value} {T : TypeId} (h : Box w n vs T) {p : Addr} (hp : n ≠ p.block) (u : Value) : Box (w.setCell p u) n vs T := by
 unfold Box at *; rw [Below.heap_setCell _ _ _ _ hp]; exact h
theorem Box.set {w : World} {n : Nat} {vs : Array Value} {T : TypeId} (h : Box w n vs T) (i : Nat) (u : Value) : Box (w.setCell ⟨n, i, none⟩ u) n (vs.setIfInBounds i u) T := by
 have hlt := h.lt
 unfold Box at *
 have h' : w.heap[n] = .cells vs T (0, 0) := by simpa [Array.getElem?_eq_getElem hlt] using h
 show (w.heap.modify n _)[n]? = _
 rw [Array.getElem?_eq_getElem (by simpa using hlt), Array.getElem_modify_self, h']
 rfl
theorem Box.to {w : World} {n : Nat} {vs vs' : Array Value} {T : TypeId} (h : Box w n vs T) (e : vs = vs') : Box w n vs' T := e ▸ h
theorem Xt {a b : World} (h : Ext a b := by with_reducible repeat (first | exact Ext.refl _ | assumption | apply Ext.drew | apply Ext.drewN | apply Ext.alloc | (refine Ext.setCell ?_ ?_ _; rotate_left; (focus (first | (simp; done) | (simp; omega) | omega))) | refine Ext.trans ?_ (by assumption))) : Ext a b := h
theorem Bxt {w : World} {n : Nat} {vs : Array Value} {T : TypeId} (h : Box w n vs T := by (with_reducible apply Box.to); (focus (with_reducible repeat (first | assumption | (apply Box.new; (focus (first | rfl | (first | (simp; done) | (simp; omega) | omega)))) | apply Box.set | (apply Box.other; rotate_left; (focus (first | (simp; done) | (simp; omega) | omega))) | apply Box.alloc | apply Box.drew | (apply Box.ext; (focus assumption))))); (first | rfl | (simp; done) | (go_light; simp [*]; done))) : Box w n vs T := h
theorem rl : (∀ (a : Act) (d : Tmp) (v : Value), a.put (some d) v = { a with tmps := a.tmps.setIfInBounds d v }) ∧ (∀ (a : Act) (v : Value), a.put none v = a) ∧
  (∀ (α : Type) (xs : List α) (i : Nat) (v : α), xs.toArray.setIfInBounds i v = (xs.set i v).toArray) ∧ (∀ (α : Type) (a b : α) (r : List α), (a :: r).set 0 b = b :: r) ∧ (∀ (α : Type) (a b : α) (r : List α) (n : Nat), (a :: r).set (n + 1) b = a :: r.set n b) ∧
  (∀ (α : Type) (xs : List α) (i : Nat) (h : i < xs.toArray.size), xs.toArray[i]'h = xs[i]'(by simpa using h)) ∧ (∀ (α : Type) (a : α) (r : List α) (h : 0 < (a :: r).length), (a :: r)[0]'h = a) ∧ (∀ (α : Type) (a : α) (r : List α) (i : Nat) (h : i + 1 < (a :: r).length), (a :: r)[i + 1]'h = r[i]'(by simpa using h)) :=
 ⟨fun _ _ _ => rfl, fun _ _ => rfl, fun _ _ _ _ => by simp, fun _ _ _ _ => rfl, fun _ _ _ _ _ => rfl, fun _ _ _ _ => by simp, fun _ _ _ _ => rfl, fun _ _ _ _ _ => rfl⟩
end Go.Proofs.YtjibdbnpkfghhaaGreatDoor
/- Values: what a value of package json is, apart from memory; how it lies in memory. -/
namespace Go.Proofs.YtjibdbnpkfghhaaGreatDoor
open Go.RowKit
inductive V where
 | mk (k n : Int) (s : ByteArray) (keys : List ByteArray) (l : List V)
def V.k : V → Int | .mk k _ _ _ _ => k
def V.n : V → Int | .mk _ n _ _ _ => n
def V.s : V → ByteArray | .mk _ _ s _ _ => s
def V.keys : V → List ByteArray | .mk _ _ _ ks _ => ks
def V.l : V → List V | .mk _ _ _ _ l => l
theorem V.eta (x : V) : V.mk x.k x.n x.s x.keys x.l = x := by cases x; rfl
@[simp] theorem V.k_mk (k n : Int) (s : ByteArray) (ks : List ByteArray) (l : List V) : (V.mk k n s ks l).k = k := rfl
@[simp] theorem V.n_mk (k n : Int) (s : ByteArray) (ks : List ByteArray) (l : List V) : (V.mk k n s ks l).n = n := rfl
@[simp] theorem V.s_mk (k n : Int) (s : ByteArray) (ks : List ByteArray) (l : List V) : (V.mk k n s ks l).s = s := rfl
@[simp] theorem V.keys_mk (k n : Int) (s : ByteArray) (ks : List ByteArray) (l : List V) : (V.mk k n s ks l).keys = ks := rfl
@[simp] theorem V.l_mk (k n : Int) (s : ByteArray) (ks : List ByteArray) (l : List V) : (V.mk k n s ks l).l = l := rfl
theorem V.ind {P : V → Prop} (h : ∀ x : V, (∀ y ∈ x.l, P y) → P x) (x : V) : P x :=
 V.rec (motive_1 := P) (motive_2 := fun l => ∀ y ∈ l, P y) (fun k n s ks l ih => h (.mk k n s ks l) ih) (fun y hy => by cases hy)
  (fun a l ha hl y hy => by rcases List.mem_cons.1 hy with rfl | hy; exact ha; exact hl y hy) x
def V.count : V → Nat | .mk _ _ _ _ l => 1 + go l
where go : List V → Nat
 | [] => 0
 | x :: r => V.count x + go r
theorem V.count_eq (x : V) : x.count = 1 + (x.l.map V.count).sum := by
 have h : ∀ l, V.count.go l = (l.map V.count).sum := by
  intro l; induction l with
  | nil => simp [V.count.go]
  | cons x r ih => simp [V.count.go, ih]
 cases x with | mk k n s ks l => simp [V.count, h]
def strsSize (ks : List ByteArray) : Nat := (ks.map fun k => k.size + 1).sum
def V.size : V → Nat | .mk _ _ s ks l => 1 + s.size + strsSize ks + go l
where go : List V → Nat
 | [] => 0
 | x :: r => V.size x + go r
theorem V.size_eq (x : V) : x.size = 1 + x.s.size + strsSize x.keys + (x.l.map V.size).sum := by
 have h : ∀ l, V.size.go l = (l.map V.size).sum := by
  intro l; induction l with
  | nil => simp [V.size.go]
  | cons x r ih => simp [V.size.go, ih]
 cases x with | mk k n s ks l => simp [V.size, h]
theorem sum_ge {α : Type} (f : α → Nat) {x : α} {l : List α} (h : x ∈ l) : f x ≤ (l.map f).sum := by
 induction l with
 | nil => cases h
 | cons a r ih =>
  simp only [List.map_cons, List.sum_cons]
  rcases List.mem_cons.1 h with rfl | h
  ·omega
  ·have := ih h; omega
theorem sum_len {α : Type} (f : α → Nat) (hf : ∀ x, 1 ≤ f x) (l : List α) : l.length ≤ (l.map f).sum := by
 induction l with
 | nil => simp
 | cons a r ih => have := hf a; simp only [List.map_cons, List.sum_cons, List.length_cons]; omega
theorem V.size_pos (x : V) : 1 ≤ x.size := by rw [V.size_eq]; omega
theorem V.count_pos (x : V) : 1 ≤ x.count := by rw [V.count_eq]; omega
theorem V.size_mem {x y : V} (h : y ∈ x.l) : y.size < x.size := by rw [V.size_eq x]; have := sum_ge V.size h; omega
theorem V.size_item {x : V} {i : Nat} (h : i < x.l.length) : (x.l[i]).size < x.size := V.size_mem (List.getElem_mem h)
theorem V.len_l (x : V) : x.l.length < x.size := by rw [V.size_eq]; have := sum_len V.size V.size_pos x.l; omega
theorem V.len_keys (x : V) : x.keys.length < x.size := by
 rw [V.size_eq]; have := sum_len (fun k : ByteArray => k.size + 1) (fun _ => by omega) x.keys
 unfold strsSize; omega
theorem V.len_s (x : V) : x.s.size < x.size := by rw [V.size_eq]; omega
theorem V.len_key {x : V} {i : Nat} (h : i < x.keys.length) : (x.keys[i]).size < x.size := by
 rw [V.size_eq]; have := sum_ge (fun k : ByteArray => k.size + 1) (List.getElem_mem h)
 unfold strsSize; omega
def StrsIn (w : World) (S : Nat → Prop) (a : Option Addr) (ks : List ByteArray) : Prop :=
 ks = [] ∨ ∃ b o, a = some ⟨b, o, none⟩ ∧ S b ∧ ∀ i (h : i < ks.length), w.cell? ⟨b, o + i, none⟩ = some (.string ks[i])
def SlOk (a : Option Addr) (n c : Nat) : Prop := n ≤ c ∧ c ≤ maxLen ∧ (a = none → c = 0)
theorem SlOk.nil : SlOk none 0 0 := ⟨Nat.le_refl _, Nat.zero_le _, fun _ => rfl⟩
def V.In (w : World) (S : Nat → Prop) : V → Option Addr → Nat → Option Addr → Nat → Prop
 | .mk _ _ _ ks l, ka, kc, la, lc => SlOk ka ks.length kc ∧ SlOk la l.length lc ∧ StrsIn w S ka ks ∧ rows l la
where rows : List V → Option Addr → Prop
 | [], _ => True
 | x :: r, p => ∃ b o ka kc la lc, p = some ⟨b, o, none⟩ ∧ S b ∧ (w.cell? ⟨b, o, none⟩ = some (.int .i64 x.k) ∧ w.cell? ⟨b, o + 1, none⟩ = some (.int .i64 x.n) ∧ w.cell? ⟨b, o + 2, none⟩ = some (.string x.s) ∧
   w.cell? ⟨b, o + 3, none⟩ = some (.slice ka x.keys.length kc) ∧ w.cell? ⟨b, o + 4, none⟩ = some (.slice la x.l.length lc)) ∧ V.In w S x ka kc la lc ∧ rows r (some ⟨b, o + 5, none⟩)
def V.Item (w : World) (S : Nat → Prop) (b o : Nat) (x : V) : Prop :=
 ∃ ka kc la lc, (w.cell? ⟨b, o, none⟩ = some (.int .i64 x.k) ∧ w.cell? ⟨b, o + 1, none⟩ = some (.int .i64 x.n) ∧ w.cell? ⟨b, o + 2, none⟩ = some (.string x.s) ∧
   w.cell? ⟨b, o + 3, none⟩ = some (.slice ka x.keys.length kc) ∧ w.cell? ⟨b, o + 4, none⟩ = some (.slice la x.l.length lc)) ∧ x.In w S ka kc la lc
def Rows (w : World) (S : Nat → Prop) (l : List V) (p : Option Addr) : Prop :=
 l = [] ∨ ∃ b o, p = some ⟨b, o, none⟩ ∧ S b ∧ ∀ i (h : i < l.length), V.Item w S b (o + i * 5) l[i]
theorem V.rows_iff (w : World) (S : Nat → Prop) (l : List V) (p : Option Addr) : V.In.rows w S l p ↔ Rows w S l p := by
 induction l generalizing p with
 | nil => simp [V.In.rows, Rows]
 | cons x r ih =>
  simp only [V.In.rows, ih]
  constructor
  ·rintro ⟨b, o, ka, kc, la, lc, rfl, hS, hc, hin, hr⟩
   refine .inr ⟨b, o, rfl, hS, ?_⟩
   intro i hi
   match i with
   | 0 => simpa using ⟨ka, kc, la, lc, hc, hin⟩
   | i + 1 =>
    rcases hr with h | ⟨b', o', h, hS', hr⟩
    ·subst h; simp at hi
    ·simp only [Option.some.injEq, Addr.mk.injEq] at h
     obtain ⟨rfl, rfl, -⟩ := h
     have := hr i (by simpa using hi)
     rw [List.getElem_cons_succ, show o + (i + 1) * 5 = o + 5 + i * 5 from by omega]
     exact this
  ·rintro (h | ⟨b, o, rfl, hS, hr⟩)
   ·cases h
   ·obtain ⟨ka, kc, la, lc, hc, hin⟩ := hr 0 (by simp)
    refine ⟨b, o, ka, kc, la, lc, rfl, hS, by simpa using hc, by simpa using hin, ?_⟩
    by_cases hn : r = []
    ·exact .inl hn
    ·refine .inr ⟨b, o + 5, rfl, hS, ?_⟩
     intro i hi
     have := hr (i + 1) (by simpa using hi)
     rw [List.getElem_cons_succ, show o + (i + 1) * 5 = o + 5 + i * 5 from by omega] at this
     exact this
theorem V.in_iff (w : World) (S : Nat → Prop) (x : V) (ka : Option Addr) (kc : Nat) (la : Option Addr) (lc : Nat) :
  x.In w S ka kc la lc ↔ SlOk ka x.keys.length kc ∧ SlOk la x.l.length lc ∧ StrsIn w S ka x.keys ∧ Rows w S x.l la := by
 cases x with | mk k n s ks l => simp only [V.In, V.rows_iff, V.keys_mk, V.l_mk]
def Kept (S : Nat → Prop) (w w' : World) : Prop := ∀ b, S b → b < w.heap.size → w'.heap[b]? = w.heap[b]?
theorem Kept.cell {S : Nat → Prop} {w w' : World} (h : Kept S w w') {p : Addr} {v : Value} (hS : S p.block) (hv : w.cell? p = some v) : w'.cell? p = some v := by
 have hb := cell_lt hv
 rw [World.cell?_of_block (h _ hS hb)]; exact hv
theorem Ext.kept {w w' : World} (h : Ext w w') (S : Nat → Prop) : Kept S w w' := fun b _ hb => Below.block h b hb
theorem Kept.mono {S T : Nat → Prop} {w w' : World} (h : Kept S w w') (hT : ∀ b, T b → S b) : Kept T w w' := fun b hb => h b (hT b hb)
theorem StrsIn.keep {S T : Nat → Prop} {w w' : World} {a : Option Addr} {ks : List ByteArray} (h : StrsIn w S a ks) (hk : Kept S w w') (hT : ∀ b, S b → b < w.heap.size → T b) : StrsIn w' T a ks := by
 rcases h with h | ⟨b, o, rfl, hS, hc⟩
 ·exact .inl h
 ·by_cases h0 : ks = []
  ·exact .inl h0
  ·have hlt : b < w.heap.size := cell_lt (hc 0 (by have := List.length_pos_iff.2 h0; omega))
   exact .inr ⟨b, o, rfl, hT b hS hlt, fun i hi => hk.cell hS (hc i hi)⟩
theorem V.In.keep {S T : Nat → Prop} {w w' : World} {x : V} {ka : Option Addr} {kc : Nat} {la : Option Addr} {lc : Nat} (h : x.In w S ka kc la lc) (hk : Kept S w w') (hT : ∀ b, S b → b < w.heap.size → T b) : x.In w' T ka kc la lc := by
 induction x using V.ind generalizing ka kc la lc with
 | h x ih =>
  rw [V.in_iff] at h ⊢
  obtain ⟨h1, h2, h3, h4⟩ := h
  refine ⟨h1, h2, h3.keep hk hT, ?_⟩
  rcases h4 with h4 | ⟨b, o, rfl, hS, hr⟩
  ·exact .inl h4
  ·by_cases h0 : x.l = []
   ·exact .inl h0
   ·have hlt : b < w.heap.size := by
     obtain ⟨_, _, _, _, hc, -⟩ := hr 0 (by have := List.length_pos_iff.2 h0; omega)
     exact cell_lt hc.1
    refine .inr ⟨b, o, rfl, hT b hS hlt, fun i hi => ?_⟩
    obtain ⟨ka, kc, la, lc, ⟨c0, c1, c2, c3, c4⟩, hin⟩ := hr i hi
    exact ⟨ka, kc, la, lc, ⟨hk.cell hS c0, hk.cell hS c1, hk.cell hS c2, hk.cell hS c3, hk.cell hS c4⟩, ih _ (List.getElem_mem hi) hin⟩
theorem V.Item.keep {S T : Nat → Prop} {w w' : World} {b o : Nat} {x : V} (h : V.Item w S b o x) (hS : S b) (hk : Kept S w w') (hT : ∀ b, S b → b < w.heap.size → T b) : V.Item w' T b o x := by
 obtain ⟨ka, kc, la, lc, ⟨c0, c1, c2, c3, c4⟩, hin⟩ := h
 exact ⟨ka, kc, la, lc, ⟨hk.cell hS c0, hk.cell hS c1, hk.cell hS c2, hk.cell hS c3, hk.cell hS c4⟩, hin.keep hk hT⟩
theorem Rows.keep {S T : Nat → Prop} {w w' : World} {l : List V} {p : Option Addr} (h : Rows w S l p) (hk : Kept S w w') (hT : ∀ b, S b → b < w.heap.size → T b) : Rows w' T l p := by
 rcases h with h | ⟨b, o, rfl, hS, hr⟩
 ·exact .inl h
 ·by_cases h0 : l = []
  ·exact .inl h0
  ·have hlt : b < w.heap.size := by
    obtain ⟨_, _, _, _, hc, -⟩ := hr 0 (by have := List.length_pos_iff.2 h0; omega)
    exact cell_lt hc.1
   exact .inr ⟨b, o, rfl, hT b hS hlt, fun i hi => (hr i hi).keep hS hk hT⟩
theorem StrsIn.ext {S : Nat → Prop} {w w' : World} {a : Option Addr} {ks : List ByteArray} (h : StrsIn w S a ks) (e : Ext w w') : StrsIn w' S a ks := h.keep (e.kept S) (fun _ h _ => h)
theorem V.In.ext {S : Nat → Prop} {w w' : World} {x : V} {ka : Option Addr} {kc : Nat} {la : Option Addr} {lc : Nat} (h : x.In w S ka kc la lc) (e : Ext w w') : x.In w' S ka kc la lc := h.keep (e.kept S) (fun _ h _ => h)
theorem Rows.ext {S : Nat → Prop} {w w' : World} {l : List V} {p : Option Addr} (h : Rows w S l p) (e : Ext w w') : Rows w' S l p := h.keep (e.kept S) (fun _ h _ => h)
theorem V.Item.ext {S : Nat → Prop} {w w' : World} {b o : Nat} {x : V} (h : V.Item w S b o x) (e : Ext w w') : V.Item w' S b o x := by
 obtain ⟨ka, kc, la, lc, ⟨c0, c1, c2, c3, c4⟩, hin⟩ := h
 exact ⟨ka, kc, la, lc, ⟨e.cell c0, e.cell c1, e.cell c2, e.cell c3, e.cell c4⟩, hin.ext e⟩
theorem V.In.mono {S T : Nat → Prop} {w : World} {x : V} {ka : Option Addr} {kc : Nat} {la : Option Addr} {lc : Nat} (h : x.In w S ka kc la lc) (hT : ∀ b, S b → b < w.heap.size → T b) : x.In w T ka kc la lc := h.keep (fun _ _ _ => rfl) hT
theorem V.In.item {S : Nat → Prop} {w : World} {x : V} {ka : Option Addr} {kc : Nat} {la : Option Addr} {lc : Nat} (h : x.In w S ka kc la lc) {i : Nat} (hi : i < x.l.length) :
  ∃ b o, la = some ⟨b, o, none⟩ ∧ S b ∧ V.Item w S b (o + i * 5) x.l[i] := by
 rw [V.in_iff] at h
 rcases h.2.2.2 with h | ⟨b, o, rfl, hS, hr⟩
 ·rw [h] at hi; simp at hi
 ·exact ⟨b, o, rfl, hS, hr i hi⟩
theorem V.In.key {S : Nat → Prop} {w : World} {x : V} {ka : Option Addr} {kc : Nat} {la : Option Addr} {lc : Nat} (h : x.In w S ka kc la lc) {i : Nat} (hi : i < x.keys.length) :
  ∃ b o, ka = some ⟨b, o, none⟩ ∧ S b ∧ w.cell? ⟨b, o + i, none⟩ = some (.string x.keys[i]) := by
 rw [V.in_iff] at h
 rcases h.2.2.1 with h | ⟨b, o, rfl, hS, hr⟩
 ·rw [h] at hi; simp at hi
 ·exact ⟨b, o, rfl, hS, hr i hi⟩
abbrev V.val (x : V) (ka : Option Addr) (kc : Nat) (la : Option Addr) (lc : Nat) : Value := .agg #[.int .i64 x.k, .int .i64 x.n, .string x.s, .slice ka x.keys.length kc, .slice la x.l.length lc]
def Plus (S : Nat → Prop) (w : World) : Nat → Prop := fun b => S b ∨ w.heap.size ≤ b
def RetV (S : Nat → Prop) (r : V) (w : World) (e : Ending) (w' : World) : Prop :=
 ∃ ka kc la lc, e = .returned (r.val ka kc la lc) ∧ r.In w' (Plus S w) ka kc la lc ∧ Ext w w'
def RetV2 (S : Nat → Prop) (r : V) (u : Value) (w : World) (e : Ending) (w' : World) : Prop :=
 ∃ ka kc la lc, e = .returned (.tuple #[r.val ka kc la lc, u]) ∧ r.In w' (Plus S w) ka kc la lc ∧ Ext w w'
end Go.Proofs.YtjibdbnpkfghhaaGreatDoor
/- Plain functions of package json: what a good value is, likeness, members. No program in sight. -/
namespace Go.Proofs.YtjibdbnpkfghhaaGreatDoor
open Go.RowKit
def ltS (a b : ByteArray) : Bool := Op.bytesLess a.toList b.toList
def plainB (s : ByteArray) : Bool := (s.data.toList.all fun c => decide ((c.toNat : Int) < 128)) && decide (s.size ≤ 60)
def keysB (ks : List ByteArray) : Bool := decide (∀ i, (h : i < ks.length) → plainB ks[i] = true ∧ (0 < i → ltS (ks[i - 1]'(by omega)) ks[i] = true))
def g1 (d k : Int) : Bool := decide (12 < d ∨ k < 0 ∨ 5 < k)
def g2 (k n : Int) (s : ByteArray) (lk ll : Nat) : Bool := decide ((k ≠ 1 ∧ k ≠ 2 ∧ n ≠ 0) ∨ (k ≠ 3 ∧ s.toList ≠ []) ∨ (k ≠ 5 ∧ 0 < lk) ∨ (k < 4 ∧ 0 < ll))
def g3 (k n : Int) (s : ByteArray) : Bool := decide ((k = 1 ∧ n ≠ 0 ∧ n ≠ 1) ∨ n < -9007199254740992 ∨ 9007199254740992 < n) || !plainB s
def g4 (k : Int) (lk ll : Nat) : Bool := decide (k = 5 ∧ lk ≠ ll)
def V.flat (d : Int) (x : V) : Bool := !g1 d x.k && !g2 x.k x.n x.s x.keys.length x.l.length && !g3 x.k x.n x.s && !g4 x.k x.keys.length x.l.length && keysB x.keys
def V.good : V → Int → Bool
 | .mk k n s ks l, d => V.flat d (.mk k n s ks l) && go l (d + 1)
where go : List V → Int → Bool
 | [], _ => true
 | x :: r, d => V.good x d && go r d
theorem V.good_go (l : List V) (d : Int) : V.good.go l d = l.all fun x => x.good d := by
 induction l with
 | nil => simp [V.good.go]
 | cons x r ih => simp [V.good.go, ih]
theorem V.good_eq (x : V) (d : Int) : x.good d = (x.flat d && x.l.all fun y => y.good (d + 1)) := by
 cases x with | mk k n s ks l => rw [V.good, V.good_go]; rfl
def V.fine (x : V) : Bool := x.good 1 && decide (x.count ≤ 120)
theorem V.count_le (x : V) : x.count ≤ x.size := by
 induction x using V.ind with
 | h x ih =>
  rw [V.count_eq, V.size_eq]
  have : (x.l.map V.count).sum ≤ (x.l.map V.size).sum := by
   generalize x.l = l at *
   induction l with
   | nil => simp
   | cons a r ih2 =>
    simp only [List.map_cons, List.sum_cons]
    have h1 := ih a (by simp)
    have h2 := ih2 (fun y hy => ih y (by simp [hy]))
    omega
  omega
theorem V.count_item {x : V} {i : Nat} (h : i < x.l.length) : (x.l[i]).count < x.count := by
 rw [V.count_eq x]; have := sum_ge V.count (List.getElem_mem h); omega
theorem sum_take {α : Type} (f : α → Nat) (l : List α) {k : Nat} (h : k < l.length) : ((l.take (k + 1)).map f).sum = ((l.take k).map f).sum + f l[k] := by
 rw [List.take_succ_eq_append_getElem h]; simp only [List.map_append, List.map_cons, List.map_nil, List.sum_append, List.sum_cons, List.sum_nil, Nat.add_zero]
theorem sum_take_le {α : Type} (f : α → Nat) (l : List α) (k : Nat) : ((l.take k).map f).sum ≤ (l.map f).sum := by
 induction l generalizing k with
 | nil => simp
 | cons a r ih =>
  cases k with
  | zero => simp
  | succ k => simp only [List.take_succ_cons, List.map_cons, List.sum_cons]; have := ih k; omega
theorem all_take {α : Type} (f : α → Bool) (l : List α) {k : Nat} (h : k < l.length) (h0 : (l.take k).all f = true) (h1 : f l[k] = true) : (l.take (k + 1)).all f = true := by
 rw [List.take_succ_eq_append_getElem h]; simp only [List.all_append, List.all_cons, List.all_nil, Bool.and_true, Bool.and_eq_true]; exact ⟨h0, h1⟩
theorem all_bad {α : Type} (f : α → Bool) (l : List α) {k : Nat} (h : k < l.length) (h1 : f l[k] = false) : l.all f = false := by
 simp only [List.all_eq_false]; exact ⟨l[k], List.getElem_mem h, by simp [h1]⟩
def V.same : V → V → Bool
 | .mk k n s ks l, y => decide (k = y.k ∧ n = y.n ∧ s.toList = y.s.toList ∧ ks.map ByteArray.toList = y.keys.map ByteArray.toList ∧ l.length = y.l.length) && go l y.l
where go : List V → List V → Bool
 | [], _ => true
 | _, [] => true
 | x :: r, y :: t => V.same x y && go r t
def V.find (x : V) (key : ByteArray) : Option Nat := if x.k = 5 ∧ x.keys.length = x.l.length then x.keys.findIdx? fun k => decide (k.toList = key.toList) else none
def V.zero : V := .mk 0 0 ⟨#[]⟩ [] []
def V.member (x : V) (key : ByteArray) : Option V := (x.find key).bind fun i => x.l[i]?
end Go.Proofs.YtjibdbnpkfghhaaGreatDoor
/- The order of texts; keys that rise; where a key stands among them. No program in sight. -/
namespace Go.Proofs.YtjibdbnpkfghhaaGreatDoor
theorem bl_irrefl (a : List UInt8) : Op.bytesLess a a = false := by
 induction a with
 | nil => rfl
 | cons x a ih => simp [Op.bytesLess, ih]
theorem bl_trans (a : List UInt8) : ∀ b c, Op.bytesLess a b = true → Op.bytesLess b c = true → Op.bytesLess a c = true := by
 induction a with
 | nil =>
  intro b c h1 h2
  cases b with
  | nil => simp [Op.bytesLess] at h1
  | cons y b => cases c with
   | nil => simp [Op.bytesLess] at h2
   | cons z c => simp [Op.bytesLess]
 | cons x a ih =>
  intro b c h1 h2
  cases b with
  | nil => simp [Op.bytesLess] at h1
  | cons y b => cases c with
   | nil => simp [Op.bytesLess] at h2
   | cons z c =>
    simp only [Op.bytesLess, Bool.or_eq_true, decide_eq_true_eq, Bool.and_eq_true, beq_iff_eq] at h1 h2 ⊢
    rcases h1 with h1 | ⟨rfl, h1⟩
    ·rcases h2 with h2 | ⟨rfl, h2⟩
     ·exact .inl (UInt8.lt_trans h1 h2)
     ·exact .inl h1
    ·rcases h2 with h2 | ⟨rfl, h2⟩
     ·exact .inl h2
     ·exact .inr ⟨rfl, ih _ _ h1 h2⟩
theorem bl_tri (a : List UInt8) : ∀ b, Op.bytesLess a b = true ∨ a = b ∨ Op.bytesLess b a = true := by
 induction a with
 | nil =>
  intro b
  cases b with
  | nil => exact .inr (.inl rfl)
  | cons y b => exact .inl rfl
 | cons x a ih =>
  intro b
  cases b with
  | nil => exact .inr (.inr rfl)
  | cons y b =>
   simp only [Op.bytesLess, Bool.or_eq_true, decide_eq_true_eq, Bool.and_eq_true, beq_iff_eq, List.cons.injEq]
   rcases Nat.lt_trichotomy x.toNat y.toNat with h | h | h
   ·exact .inl (.inl (UInt8.lt_iff_toNat_lt.2 h))
   ·have e : x = y := UInt8.toNat_inj.1 h
    subst e
    rcases ih b with h | h | h
    ·exact .inl (.inr ⟨rfl, h⟩)
    ·exact .inr (.inl ⟨rfl, h⟩)
    ·exact .inr (.inr (.inr ⟨rfl, h⟩))
   ·exact .inr (.inr (.inl (UInt8.lt_iff_toNat_lt.2 h)))
theorem bytes_ext {a b : ByteArray} (h : a.toList = b.toList) : a = b := by
 rw [ByteArray.toList_eq, ByteArray.toList_eq] at h
 obtain ⟨⟨a⟩⟩ := a; obtain ⟨⟨b⟩⟩ := b
 simp only at h; subst h; rfl
theorem ltS_irrefl (a : ByteArray) : ltS a a = false := bl_irrefl _
theorem ltS_trans {a b c : ByteArray} (h1 : ltS a b = true) (h2 : ltS b c = true) : ltS a c = true := bl_trans _ _ _ h1 h2
theorem ltS_tri (a b : ByteArray) : ltS a b = true ∨ a = b ∨ ltS b a = true := by
 rcases bl_tri a.toList b.toList with h | h | h
 ·exact .inl h
 ·exact .inr (.inl (bytes_ext h))
 ·exact .inr (.inr h)
theorem ltS_ne {a b : ByteArray} (h : ltS a b = true) : a ≠ b := by rintro rfl; rw [ltS_irrefl] at h; cases h
theorem ltS_asymm {a b : ByteArray} (h : ltS a b = true) : ltS b a = false := by
 cases h2 : ltS b a with
 | false => rfl
 | true => have := ltS_trans h h2; rw [ltS_irrefl] at this; cases this
abbrev Rises (ks : List ByteArray) : Prop := ks.Pairwise fun a b => ltS a b = true
theorem keysB_iff (ks : List ByteArray) : keysB ks = true ↔ (∀ k ∈ ks, plainB k = true) ∧ Rises ks := by
 unfold keysB
 rw [decide_eq_true_eq]
 constructor
 ·intro h
  refine ⟨?_, ?_⟩
  ·intro k hk
   obtain ⟨i, hi, rfl⟩ := List.getElem_of_mem hk
   exact (h i hi).1
  ·rw [Rises, List.pairwise_iff_getElem]
   intro i j hi hj hij
   induction j with
   | zero => omega
   | succ j ih =>
    have h1 := (h (j + 1) hj).2 (by omega)
    simp only [Nat.add_sub_cancel] at h1
    by_cases e : i = j
    ·subst e; exact h1
    ·exact ltS_trans (ih (by omega) (by omega)) h1
 ·rintro ⟨h1, h2⟩ i hi
  refine ⟨h1 _ (List.getElem_mem hi), fun h0 => ?_⟩
  rw [Rises, List.pairwise_iff_getElem] at h2
  exact h2 (i - 1) i (by omega) hi (by omega)
def posOf (ks : List ByteArray) (key : ByteArray) : Nat := (ks.takeWhile fun k => ltS k key).length
theorem posOf_le (ks : List ByteArray) (key : ByteArray) : posOf ks key ≤ ks.length := by
 unfold posOf
 induction ks with
 | nil => simp
 | cons k r ih => simp only [List.takeWhile_cons]; split <;> simp <;> omega
theorem posOf_spec (ks : List ByteArray) (key : ByteArray) : (∀ i, (h : i < ks.length) → i < posOf ks key → ltS ks[i] key = true) ∧ (∀ h : posOf ks key < ks.length, ltS ks[posOf ks key] key = false) := by
 induction ks with
 | nil => exact ⟨fun i h => by simp at h, fun h => by simp at h⟩
 | cons k r ih =>
  by_cases hk : ltS k key = true
  ·have e : posOf (k :: r) key = posOf r key + 1 := by simp [posOf, hk]
   refine ⟨?_, ?_⟩
   ·intro i hi hp
    cases i with
    | zero => simpa using hk
    | succ i => simpa using ih.1 i (by simpa using hi) (by omega)
   ·intro h
    simp only [e] at h ⊢
    simpa using ih.2 (by simpa using h)
  ·have hk : ltS k key = false := by simpa using hk
   have e : posOf (k :: r) key = 0 := by simp [posOf, hk]
   refine ⟨?_, ?_⟩
   ·intro i hi hp; omega
   ·intro h
    simp only [e]
    simpa using hk
theorem posOf_below {ks : List ByteArray} {key : ByteArray} {i : Nat} (hl : i < ks.length) (h : i < posOf ks key) : ltS ks[i] key = true := (posOf_spec ks key).1 i hl h
theorem posOf_at {ks : List ByteArray} {key : ByteArray} (h : posOf ks key < ks.length) : ltS ks[posOf ks key] key = false := (posOf_spec ks key).2 h
theorem posOf_unique {ks : List ByteArray} {key : ByteArray} {p : Nat} (hp : p ≤ ks.length) (h1 : ∀ i, (h : i < p) → ltS (ks[i]'(by omega)) key = true) (h2 : (h : p < ks.length) → ltS ks[p] key = false) : p = posOf ks key := by
 induction ks generalizing p with
 | nil => simp at hp; simp [posOf, hp]
 | cons k r ih =>
  cases p with
  | zero =>
   have := h2 (by simp)
   simp only [List.getElem_cons_zero] at this
   simp [posOf, this]
  | succ p =>
   have h0 := h1 0 (by omega)
   simp only [List.getElem_cons_zero] at h0
   have := ih (p := p) (by simpa using hp) (fun i hi => by have := h1 (i + 1) (by omega); simpa using this) (fun h => by have := h2 (by simpa using h); simpa using this)
   simp only [posOf, List.takeWhile_cons, h0, if_true, List.length_cons]
   rw [← posOf]
   omega
end Go.Proofs.YtjibdbnpkfghhaaGreatDoor
/- Objects and lists, apart from memory: a member put, a member taken away; a value that is sound at some depth; how great it may be. No program in sight. -/
namespace Go.Proofs.YtjibdbnpkfghhaaGreatDoor
def hasB (ks : List ByteArray) (key : ByteArray) : Bool := match ks[posOf ks key]? with | some k => decide (k.toList = key.toList) | none => false
theorem hasB_iff (ks : List ByteArray) (key : ByteArray) : hasB ks key = true ↔ ks[posOf ks key]? = some key := by
 unfold hasB
 cases h : ks[posOf ks key]? with
 | none => simp
 | some k =>
  simp only [decide_eq_true_eq, Option.some.injEq]
  exact ⟨fun h => bytes_ext h, fun h => by rw [h]⟩
theorem hasB_lt {ks : List ByteArray} {key : ByteArray} (h : hasB ks key = true) : posOf ks key < ks.length := by
 have := (hasB_iff _ _).1 h
 exact (List.getElem?_eq_some_iff.1 this).1
theorem hasB_at {ks : List ByteArray} {key : ByteArray} (h : hasB ks key = true) : ks[posOf ks key]'(hasB_lt h) = key := by
 have := (hasB_iff _ _).1 h
 exact (List.getElem?_eq_some_iff.1 this).2
theorem rises_get {ks : List ByteArray} (h : Rises ks) {i j : Nat} (hi : i < ks.length) (hj : j < ks.length) (hij : i < j) : ltS ks[i] ks[j] = true := (List.pairwise_iff_getElem.1 h) i j hi hj hij
theorem pos_above {ks : List ByteArray} (h : Rises ks) {key : ByteArray} {i : Nat} (hi : i < ks.length) (hp : posOf ks key ≤ i) : ltS ks[i] key = false := by
 by_cases e : posOf ks key = i
 ·subst e; exact posOf_at hi
 ·have h1 := posOf_at (ks := ks) (key := key) (by omega)
  have h2 := rises_get h (show posOf ks key < ks.length by omega) hi (by omega)
  cases h3 : ltS ks[i] key with
  | false => rfl
  | true => rw [ltS_trans h2 h3] at h1; cases h1
theorem pos_of_at {ks : List ByteArray} (h : Rises ks) {key : ByteArray} {i : Nat} (hi : i < ks.length) (he : ks[i] = key) : posOf ks key = i := by
 symm
 refine posOf_unique (by omega) (fun j hj => ?_) (fun _ => ?_)
 ·rw [← he]; exact rises_get h (by omega) hi hj
 ·rw [he]; exact ltS_irrefl _
theorem has_of_mem {ks : List ByteArray} (h : Rises ks) {key : ByteArray} (hm : key ∈ ks) : hasB ks key = true := by
 obtain ⟨i, hi, he⟩ := List.getElem_of_mem hm
 rw [hasB_iff, pos_of_at h hi he, List.getElem?_eq_getElem hi, he]
theorem pos_gt {ks : List ByteArray} (h : Rises ks) {key : ByteArray} (hn : hasB ks key = false) {i : Nat} (hi : i < ks.length) (hp : posOf ks key ≤ i) : ltS key ks[i] = true := by
 rcases ltS_tri ks[i] key with h1 | h1 | h1
 ·rw [pos_above h hi hp] at h1; cases h1
 ·have := has_of_mem h (h1 ▸ List.getElem_mem hi)
  rw [hn] at this; cases this
 ·exact h1
def V.put (x : V) (key : ByteArray) (y : V) : V :=
 if x.k = 5 ∧ x.keys.length = x.l.length then
  if hasB x.keys key = true then .mk x.k x.n x.s x.keys (x.l.set (posOf x.keys key) y)
  else .mk x.k x.n x.s (x.keys.take (posOf x.keys key) ++ key :: x.keys.drop (posOf x.keys key)) (x.l.take (posOf x.keys key) ++ y :: x.l.drop (posOf x.keys key))
 else x
def V.del (x : V) (key : ByteArray) : V :=
 if x.k = 5 ∧ x.keys.length = x.l.length then
  if hasB x.keys key = true then .mk x.k x.n x.s (x.keys.take (posOf x.keys key) ++ x.keys.drop (posOf x.keys key + 1)) (x.l.take (posOf x.keys key) ++ x.l.drop (posOf x.keys key + 1))
  else x
 else x
theorem rises_insert {ks : List ByteArray} (h : Rises ks) {key : ByteArray} (hn : hasB ks key = false) : Rises (ks.take (posOf ks key) ++ key :: ks.drop (posOf ks key)) := by
 unfold Rises
 rw [List.pairwise_append]
 refine ⟨h.sublist (List.take_sublist _ _), ?_, ?_⟩
 ·rw [List.pairwise_cons]
  refine ⟨fun a ha => ?_, h.sublist (List.drop_sublist _ _)⟩
  obtain ⟨i, hi, rfl⟩ := List.getElem_of_mem ha
  rw [List.getElem_drop]
  exact pos_gt h hn (by simp at hi; omega) (by omega)
 ·intro a ha b hb
  obtain ⟨i, hi, rfl⟩ := List.getElem_of_mem ha
  have hi' : i < posOf ks key := by simp at hi; omega
  have hl := posOf_le ks key
  rw [List.getElem_take]
  have h1 := posOf_below (ks := ks) (key := key) (i := i) (by omega) hi'
  rcases List.mem_cons.1 hb with rfl | hb
  ·exact h1
  ·obtain ⟨j, hj, rfl⟩ := List.getElem_of_mem hb
   rw [List.getElem_drop]
   exact ltS_trans h1 (pos_gt h hn (by simp at hj; omega) (by omega))
theorem rises_erase {ks : List ByteArray} (h : Rises ks) (p : Nat) : Rises (ks.take p ++ ks.drop (p + 1)) := by
 refine List.Pairwise.sublist ?_ h
 have h1 : ks.take p ++ ks.drop p = ks := List.take_append_drop _ _
 have h2 : (ks.drop (p + 1)).Sublist (ks.drop p) := by
  rw [← List.drop_drop]; exact List.drop_sublist _ _
 have := (List.Sublist.refl (ks.take p)).append h2
 rw [h1] at this
 exact this
theorem put_yes {x : V} {key : ByteArray} {y : V} (h : x.k = 5 ∧ x.keys.length = x.l.length) (hb : hasB x.keys key = true) : x.put key y = .mk x.k x.n x.s x.keys (x.l.set (posOf x.keys key) y) := by
 unfold V.put; rw [if_pos h, if_pos hb]
theorem put_new {x : V} {key : ByteArray} {y : V} (h : x.k = 5 ∧ x.keys.length = x.l.length) (hb : hasB x.keys key = false) : x.put key y = .mk x.k x.n x.s (x.keys.take (posOf x.keys key) ++ key :: x.keys.drop (posOf x.keys key)) (x.l.take (posOf x.keys key) ++ y :: x.l.drop (posOf x.keys key)) := by
 unfold V.put; rw [if_pos h, if_neg (by rw [hb]; decide)]
theorem put_not {x : V} {key : ByteArray} {y : V} (h : ¬ (x.k = 5 ∧ x.keys.length = x.l.length)) : x.put key y = x := by
 unfold V.put; rw [if_neg h]
theorem del_yes {x : V} {key : ByteArray} (h : x.k = 5 ∧ x.keys.length = x.l.length) (hb : hasB x.keys key = true) : x.del key = .mk x.k x.n x.s (x.keys.take (posOf x.keys key) ++ x.keys.drop (posOf x.keys key + 1)) (x.l.take (posOf x.keys key) ++ x.l.drop (posOf x.keys key + 1)) := by
 unfold V.del; rw [if_pos h, if_pos hb]
theorem del_no {x : V} {key : ByteArray} (hb : hasB x.keys key = false) : x.del key = x := by
 unfold V.del; split
 ·rw [if_neg (by rw [hb]; decide)]
 ·rfl
theorem del_not {x : V} {key : ByteArray} (h : ¬ (x.k = 5 ∧ x.keys.length = x.l.length)) : x.del key = x := by
 unfold V.del; rw [if_neg h]
theorem sum_insert {α : Type} (f : α → Nat) (l : List α) (p : Nat) (a : α) : ((l.take p ++ a :: l.drop p).map f).sum = (l.map f).sum + f a := by
 have : (l.map f).sum = ((l.take p ++ l.drop p).map f).sum := by rw [List.take_append_drop]
 rw [this]
 simp only [List.map_append, List.map_cons, List.sum_append, List.sum_cons]
 omega
theorem sum_erase {α : Type} (f : α → Nat) (l : List α) (p : Nat) : ((l.take p ++ l.drop (p + 1)).map f).sum ≤ (l.map f).sum := by
 have : (l.map f).sum = ((l.take p ++ l.drop p).map f).sum := by rw [List.take_append_drop]
 rw [this]
 have h2 : ((l.drop (p + 1)).map f).sum ≤ ((l.drop p).map f).sum := by
  by_cases h : p < l.length
  ·rw [List.drop_eq_getElem_cons h]; simp only [List.map_cons, List.sum_cons]; omega
  ·rw [List.drop_of_length_le (by omega)]; simp
 simp only [List.map_append, List.sum_append]
 omega
theorem sum_set {α : Type} (f : α → Nat) (l : List α) (p : Nat) (a : α) : ((l.set p a).map f).sum ≤ (l.map f).sum + f a := by
 induction l generalizing p with
 | nil => simp
 | cons b r ih =>
  cases p with
  | zero => simp only [List.set_cons_zero, List.map_cons, List.sum_cons]; omega
  | succ p => have := ih p; simp only [List.set_cons_succ, List.map_cons, List.sum_cons]; omega
theorem put_size (x : V) (key : ByteArray) (y : V) : (x.put key y).size ≤ x.size + key.size + 1 + y.size := by
 by_cases h : x.k = 5 ∧ x.keys.length = x.l.length
 ·by_cases hb : hasB x.keys key = true
  ·rw [put_yes h hb, V.size_eq, V.size_eq x]
   have := sum_set V.size x.l (posOf x.keys key) y
   simp only [V.s_mk, V.keys_mk, V.l_mk]; omega
  ·rw [put_new h (by simpa using hb), V.size_eq, V.size_eq x]
   have h1 := sum_insert V.size x.l (posOf x.keys key) y
   have h2 := sum_insert (fun k : ByteArray => k.size + 1) x.keys (posOf x.keys key) key
   simp only [V.s_mk, V.keys_mk, V.l_mk, strsSize] at *; omega
 ·rw [put_not h]; omega
def V.sound (x : V) : Prop := ∃ d, x.good d = true
theorem good_mono {x : V} {d e : Int} (h : x.good d = true) (hde : e ≤ d) : x.good e = true := by
 induction x using V.ind generalizing d e with
 | h x ih =>
  rw [V.good_eq, Bool.and_eq_true, List.all_eq_true] at h ⊢
  refine ⟨?_, fun y hy => ih y hy (h.2 y hy) (by omega)⟩
  have h1 := h.1
  simp only [V.flat, Bool.and_eq_true, Bool.not_eq_true', g1, decide_eq_false_iff_not] at h1 ⊢
  obtain ⟨⟨⟨⟨h1, h2⟩, h3⟩, h4⟩, h5⟩ := h1
  exact ⟨⟨⟨⟨by omega, h2⟩, h3⟩, h4⟩, h5⟩
structure Flat (x : V) : Prop where
 k0 : 0 ≤ x.k
 k5 : x.k ≤ 5
 n0 : x.k ≠ 1 → x.k ≠ 2 → x.n = 0
 s0 : x.k ≠ 3 → x.s.toList = []
 ks0 : x.k ≠ 5 → x.keys = []
 l0 : x.k < 4 → x.l = []
 n1 : x.k = 1 → x.n = 0 ∨ x.n = 1
 nlo : -9007199254740992 ≤ x.n
 nhi : x.n ≤ 9007199254740992
 sp : plainB x.s = true
 len : x.k = 5 → x.keys.length = x.l.length
 kp : ∀ k ∈ x.keys, plainB k = true
 rise : Rises x.keys
theorem flat_of {x : V} {d : Int} (h : x.flat d = true) : Flat x ∧ d ≤ 12 := by
 simp only [V.flat, Bool.and_eq_true, Bool.not_eq_true', g1, g2, g3, g4, decide_eq_false_iff_not, Bool.or_eq_false_iff, Bool.not_eq_false'] at h
 obtain ⟨⟨⟨⟨h1, h2⟩, h3, hp⟩, h4⟩, h5⟩ := h
 obtain ⟨hk, hr⟩ := (keysB_iff _).1 h5
 refine ⟨⟨by omega, by omega, fun a b => ?_, fun a => ?_, fun a => ?_, fun a => ?_, fun a => ?_, by omega, by omega, hp, fun a => ?_, hk, hr⟩, by omega⟩
 ·by_cases e : x.n = 0
  ·exact e
  ·exact absurd (.inl ⟨a, b, e⟩) h2
 ·by_cases e : x.s.toList = []
  ·exact e
  ·exact absurd (.inr (.inl ⟨a, e⟩)) h2
 ·by_cases e : 0 < x.keys.length
  ·exact absurd (.inr (.inr (.inl ⟨a, e⟩))) h2
  ·exact List.eq_nil_of_length_eq_zero (by omega)
 ·by_cases e : 0 < x.l.length
  ·exact absurd (.inr (.inr (.inr ⟨a, e⟩))) h2
  ·exact List.eq_nil_of_length_eq_zero (by omega)
 ·omega
 ·omega
theorem of_flat {x : V} {d : Int} (h : Flat x) (hd : d ≤ 12) : x.flat d = true := by
 simp only [V.flat, Bool.and_eq_true, Bool.not_eq_true', g1, g2, g3, g4, decide_eq_false_iff_not, Bool.or_eq_false_iff, Bool.not_eq_false']
 refine ⟨⟨⟨⟨?_, ?_⟩, ?_, h.sp⟩, ?_⟩, (keysB_iff _).2 ⟨h.kp, h.rise⟩⟩
 ·have := h.k0; have := h.k5; omega
 ·rintro (⟨a, b, c⟩ | ⟨a, b⟩ | ⟨a, b⟩ | ⟨a, b⟩)
  ·exact c (h.n0 a b)
  ·exact b (h.s0 a)
  ·rw [h.ks0 a] at b; simp at b
  ·rw [h.l0 a] at b; simp at b
 ·rintro (⟨a, b, c⟩ | a | a)
  ·rcases h.n1 a with h | h
   ·exact b h
   ·exact c h
  ·have := h.nlo; omega
  ·have := h.nhi; omega
 ·rintro ⟨a, b⟩; exact b (h.len a)
theorem V.sound.flat {x : V} (h : x.sound) : Flat x := by
 obtain ⟨d, h⟩ := h
 rw [V.good_eq, Bool.and_eq_true] at h
 exact (flat_of h.1).1
theorem V.sound.item {x y : V} (h : x.sound) (hy : y ∈ x.l) : y.sound := by
 obtain ⟨d, h⟩ := h
 rw [V.good_eq, Bool.and_eq_true, List.all_eq_true] at h
 exact ⟨d + 1, h.2 y hy⟩
theorem all_depth {l : List V} (h : ∀ y ∈ l, y.sound) : ∃ d : Int, d ≤ 12 ∧ ∀ y ∈ l, y.good (d + 1) = true := by
 induction l with
 | nil => exact ⟨12, by omega, fun y hy => by cases hy⟩
 | cons a r ih =>
  obtain ⟨d, h1, h2⟩ := ih (fun y hy => h y (by simp [hy]))
  obtain ⟨e, he⟩ := h a (by simp)
  refine ⟨min d (e - 1), by omega, fun y hy => ?_⟩
  rcases List.mem_cons.1 hy with rfl | hy
  ·exact good_mono he (by omega)
  ·exact good_mono (h2 y hy) (by omega)
theorem sound_mk {x : V} (h : Flat x) (hl : ∀ y ∈ x.l, y.sound) : x.sound := by
 obtain ⟨d, h1, h2⟩ := all_depth hl
 exact ⟨d, by rw [V.good_eq, Bool.and_eq_true, List.all_eq_true]; exact ⟨of_flat h h1, h2⟩⟩
theorem fine_sound {x : V} (h : x.fine = true) : x.sound := by
 simp only [V.fine, Bool.and_eq_true] at h
 exact ⟨1, h.1⟩
theorem fine_count {x : V} (h : x.fine = true) : x.count ≤ 120 := by
 simp only [V.fine, Bool.and_eq_true, decide_eq_true_eq] at h
 exact h.2
theorem plain_size {s : ByteArray} (h : plainB s = true) : s.size ≤ 60 := by
 simp only [plainB, Bool.and_eq_true, decide_eq_true_eq] at h
 exact h.2
theorem sound_size {x : V} (h : x.sound) : x.size + 61 ≤ x.count * 122 := by
 induction x using V.ind with
 | h x ih =>
  have hf := h.flat
  have hs := plain_size hf.sp
  rw [V.size_eq, V.count_eq]
  have h1 : strsSize x.keys ≤ x.l.length * 61 := by
   by_cases hk : x.k = 5
   ·rw [← hf.len hk]
    have h2 : ∀ k ∈ x.keys, k.size ≤ 60 := fun k hk => plain_size (hf.kp k hk)
    generalize x.keys = ks at h2
    unfold strsSize
    induction ks with
    | nil => simp
    | cons a r ih =>
     have := ih (fun k hk => h2 k (by simp [hk]))
     have := h2 a (by simp)
     simp only [List.map_cons, List.sum_cons, List.length_cons]
     omega
   ·rw [hf.ks0 hk]; simp [strsSize]
  have h2 : (x.l.map V.size).sum + x.l.length * 61 ≤ (x.l.map V.count).sum * 122 := by
   have h3 : ∀ y ∈ x.l, y.size + 61 ≤ y.count * 122 := fun y hy => ih y hy (h.item hy)
   generalize x.l = l at h3
   induction l with
   | nil => simp
   | cons a r ih =>
    have := ih (fun y hy => h3 y (by simp [hy]))
    have := h3 a (by simp)
    simp only [List.map_cons, List.sum_cons, List.length_cons] at *
    omega
  omega
theorem fine_size {x : V} (h : x.fine = true) : x.size ≤ 14640 := by
 have h1 := sound_size (fine_sound h)
 have h2 := fine_count h
 omega
end Go.Proofs.YtjibdbnpkfghhaaGreatDoor
/- Objects as maps: plain laws, no program in sight. -/
namespace Go.Proofs.YtjibdbnpkfghhaaGreatDoor
def lk : List ByteArray → List V → ByteArray → Option V
 | k :: ks, x :: l, key => if k = key then some x else lk ks l key
 | _, _, _ => none
theorem lk_none : ∀ (ks : List ByteArray) (l : List V) {key : ByteArray}, key ∉ ks → lk ks l key = none
 | [], _, _, _ => rfl
 | _ :: _, [], _, _ => rfl
 | k :: ks, x :: l, key, h => by
  simp only [List.mem_cons, not_or] at h
  rw [lk, if_neg (fun e => h.1 e.symm), lk_none ks l h.2]
theorem lk_some : ∀ (ks : List ByteArray) (l : List V) {key : ByteArray}, ks.length = l.length → key ∈ ks → ∃ y, lk ks l key = some y
 | [], _, _, _, h => by cases h
 | _ :: _, [], _, hl, _ => by simp at hl
 | k :: ks, x :: l, key, hl, h => by
  rw [lk]
  by_cases e : k = key
  ·rw [if_pos e]; exact ⟨_, rfl⟩
  ·rw [if_neg e]
   rcases List.mem_cons.1 h with h | h
   ·exact absurd h.symm e
   ·exact lk_some ks l (by simpa using hl) h
theorem lk_at : ∀ (ks : List ByteArray) (l : List V) (hl : ks.length = l.length), ks.Nodup → ∀ i (h : i < ks.length), lk ks l ks[i] = some (l[i]'(by omega))
 | [], _, _, _, i, h => by simp at h
 | _ :: _, [], hl, _, _, _ => by simp at hl
 | k :: ks, x :: l, hl, hn, 0, h => by simp [lk]
 | k :: ks, x :: l, hl, hn, i + 1, h => by
  have hn' := List.nodup_cons.1 hn
  simp only [List.length_cons] at h
  simp only [List.getElem_cons_succ]
  rw [lk, if_neg (fun e => hn'.1 (by rw [e]; exact List.getElem_mem _)), lk_at ks l (by simpa using hl) hn'.2 i (by omega)]
theorem lk_ins (key : ByteArray) (y : V) (k' : ByteArray) : ∀ (p : Nat) (ks : List ByteArray) (l : List V), ks.length = l.length → p ≤ ks.length → key ∉ ks → lk (ks.take p ++ key :: ks.drop p) (l.take p ++ y :: l.drop p) k' = if key = k' then some y else lk ks l k'
 | 0, ks, l, _, _, _ => by simp only [List.take_zero, List.drop_zero, List.nil_append, lk]
 | p + 1, [], _, _, h, _ => by simp at h
 | p + 1, _ :: _, [], hl, _, _ => by simp at hl
 | p + 1, k :: ks, x :: l, hl, h, hn => by
  simp only [List.mem_cons, not_or] at hn
  simp only [List.take_succ_cons, List.drop_succ_cons, List.cons_append, lk]
  rw [lk_ins key y k' p ks l (by simpa using hl) (by simpa using h) hn.2]
  by_cases e : k = k'
  ·rw [if_pos e, if_neg (fun e' => hn.1 (e'.trans e.symm)), if_pos e]
  ·rw [if_neg e, if_neg e]
theorem lk_set (y : V) (k' : ByteArray) : ∀ (p : Nat) (ks : List ByteArray) (l : List V) (hl : ks.length = l.length) (h : p < ks.length), ks.Nodup → lk ks (l.set p y) k' = if ks[p] = k' then some y else lk ks l k'
 | _, [], _, _, h, _ => by simp at h
 | _, _ :: _, [], hl, _, _ => by simp at hl
 | 0, k :: ks, x :: l, hl, h, hn => by simp only [List.set_cons_zero, lk, List.getElem_cons_zero]; split <;> rfl
 | p + 1, k :: ks, x :: l, hl, h, hn => by
  have hn' := List.nodup_cons.1 hn
  simp only [List.length_cons] at h
  simp only [List.set_cons_succ, lk, List.getElem_cons_succ]
  rw [lk_set y k' p ks l (by simpa using hl) (by omega) hn'.2]
  by_cases e : k = k'
  ·rw [if_pos e, if_neg (fun e' => hn'.1 (by rw [e, ← e']; exact List.getElem_mem _)), if_pos e]
  ·rw [if_neg e, if_neg e]
theorem lk_del (k' : ByteArray) : ∀ (p : Nat) (ks : List ByteArray) (l : List V) (hl : ks.length = l.length) (h : p < ks.length), ks.Nodup → lk (ks.take p ++ ks.drop (p + 1)) (l.take p ++ l.drop (p + 1)) k' = if ks[p] = k' then none else lk ks l k'
 | _, [], _, _, h, _ => by simp at h
 | _, _ :: _, [], hl, _, _ => by simp at hl
 | 0, k :: ks, x :: l, hl, h, hn => by
  have hn' := List.nodup_cons.1 hn
  simp only [List.take_zero, List.nil_append, List.drop_succ_cons, List.drop_zero, lk, List.getElem_cons_zero]
  by_cases e : k = k'
  ·rw [if_pos e]; exact lk_none _ _ (e ▸ hn'.1)
  ·rw [if_neg e, if_neg e]
 | p + 1, k :: ks, x :: l, hl, h, hn => by
  have hn' := List.nodup_cons.1 hn
  simp only [List.length_cons] at h
  simp only [List.take_succ_cons, List.drop_succ_cons, List.cons_append, lk, List.getElem_cons_succ]
  rw [lk_del k' p ks l (by simpa using hl) (by omega) hn'.2]
  by_cases e : k = k'
  ·rw [if_pos e, if_neg (fun e' => hn'.1 (by rw [e, ← e']; exact List.getElem_mem _)), if_pos e]
  ·rw [if_neg e, if_neg e]
theorem find_lk (key : ByteArray) : ∀ (ks : List ByteArray) (l : List V), ks.length = l.length → ((ks.findIdx? fun k => decide (k.toList = key.toList)).bind fun i => l[i]?) = lk ks l key
 | [], _, _ => rfl
 | _ :: _, [], hl => by simp at hl
 | k :: ks, x :: l, hl => by
  rw [List.findIdx?_cons, lk]
  by_cases e : k = key
  ·rw [if_pos e, if_pos (by simp [e])]; rfl
  ·rw [if_neg e, if_neg (by simpa using fun h => e (bytes_ext h)), ← find_lk key ks l (by simpa using hl)]
   cases ks.findIdx? fun k => decide (k.toList = key.toList) <;> rfl
structure VObj (x : V) : Prop where
 k5 : x.k = 5
 n0 : x.n = 0
 s0 : x.s = ⟨#[]⟩
 len : x.keys.length = x.l.length
 rise : Rises x.keys
theorem rises_nodup {ks : List ByteArray} (h : Rises ks) : ks.Nodup := h.imp fun h => ltS_ne h
theorem VObj.nodup {x : V} (h : VObj x) : x.keys.Nodup := rises_nodup h.rise
theorem toList_none : (⟨#[]⟩ : ByteArray).toList = [] := by rw [ByteArray.toList_eq]
theorem bytes_nil {s : ByteArray} (h : s.toList = []) : s = ⟨#[]⟩ := bytes_ext (by rw [h, toList_none])
theorem sound_obj {x : V} (h : x.sound) (h5 : x.k = 5) : VObj x :=
 have f := h.flat
 ⟨h5, f.n0 (by omega) (by omega), bytes_nil (f.s0 (by omega)), f.len h5, f.rise⟩
def V.none5 : V := .mk 5 0 ⟨#[]⟩ [] []
theorem none5_obj : VObj V.none5 := ⟨rfl, rfl, rfl, rfl, List.Pairwise.nil⟩
theorem member_lk {x : V} (h5 : x.k = 5) (hl : x.keys.length = x.l.length) (key : ByteArray) : x.member key = lk x.keys x.l key := by
 unfold V.member V.find
 rw [if_pos ⟨h5, hl⟩]
 exact find_lk key _ _ hl
theorem VObj.member {x : V} (h : VObj x) (key : ByteArray) : x.member key = lk x.keys x.l key := member_lk h.k5 h.len key
theorem member_none5 (key : ByteArray) : V.none5.member key = none := by rw [none5_obj.member]; rfl
theorem VObj.put {x : V} (h : VObj x) (key : ByteArray) (y : V) : VObj (x.put key y) := by
 cases hb : hasB x.keys key with
 | true => rw [put_yes ⟨h.k5, h.len⟩ hb]; exact ⟨h.k5, h.n0, h.s0, by simpa using h.len, h.rise⟩
 | false => rw [put_new ⟨h.k5, h.len⟩ hb]; exact ⟨h.k5, h.n0, h.s0, by have := h.len; simp; omega, rises_insert h.rise hb⟩
theorem VObj.del {x : V} (h : VObj x) (key : ByteArray) : VObj (x.del key) := by
 cases hb : hasB x.keys key with
 | true => rw [del_yes ⟨h.k5, h.len⟩ hb]; exact ⟨h.k5, h.n0, h.s0, by have := h.len; simp; omega, rises_erase h.rise _⟩
 | false => rw [del_no hb]; exact h
theorem not_mem_of {ks : List ByteArray} (h : Rises ks) {key : ByteArray} (hn : hasB ks key = false) : key ∉ ks := fun hm => by rw [has_of_mem h hm] at hn; cases hn
theorem member_put {x : V} (h : VObj x) (key : ByteArray) (y : V) (k' : ByteArray) : (x.put key y).member k' = if key = k' then some y else x.member k' := by
 rw [(h.put key y).member, h.member]
 cases hb : hasB x.keys key with
 | true =>
  rw [put_yes ⟨h.k5, h.len⟩ hb]
  simp only [V.keys_mk, V.l_mk]
  rw [lk_set y k' _ _ _ h.len (hasB_lt hb) h.nodup, hasB_at hb]
 | false =>
  rw [put_new ⟨h.k5, h.len⟩ hb]
  simp only [V.keys_mk, V.l_mk]
  exact lk_ins key y k' _ _ _ h.len (posOf_le _ _) (not_mem_of h.rise hb)
theorem member_del {x : V} (h : VObj x) (key k' : ByteArray) : (x.del key).member k' = if key = k' then none else x.member k' := by
 cases hb : hasB x.keys key with
 | true =>
  rw [(h.del key).member, h.member, del_yes ⟨h.k5, h.len⟩ hb]
  simp only [V.keys_mk, V.l_mk]
  rw [lk_del k' _ _ _ h.len (hasB_lt hb) h.nodup, hasB_at hb]
 | false =>
  rw [del_no hb]
  by_cases e : key = k'
  ·rw [if_pos e, ← e, h.member]; exact lk_none _ _ (not_mem_of h.rise hb)
  ·rw [if_neg e]
theorem member_mem {x y : V} {key : ByteArray} (h : x.member key = some y) : y ∈ x.l := by
 unfold V.member at h
 obtain ⟨i, -, hi⟩ := Option.bind_eq_some_iff.1 h
 exact List.mem_of_getElem? hi
theorem member_not5 {x : V} (h : x.k ≠ 5) (key : ByteArray) : x.member key = none := by
 unfold V.member V.find
 rw [if_neg (fun e => h e.1)]; rfl
theorem VObj.keys_iff {x : V} (h : VObj x) (key : ByteArray) : key ∈ x.keys ↔ x.member key ≠ none := by
 rw [h.member]
 constructor
 ·intro hm
  obtain ⟨y, hy⟩ := lk_some _ _ h.len hm
  rw [hy]; simp
 ·intro hn
  by_cases hm : key ∈ x.keys
  ·exact hm
  ·exact absurd (lk_none _ _ hm) hn
theorem rises_ext : ∀ {a b : List ByteArray}, Rises a → Rises b → (∀ k, k ∈ a ↔ k ∈ b) → a = b
 | [], [], _, _, _ => rfl
 | [], y :: t, _, _, h => by have := (h y).2 (by simp); cases this
 | x :: r, [], _, _, h => by have := (h x).1 (by simp); cases this
 | x :: r, y :: t, ha, hb, h => by
  have ha' := List.pairwise_cons.1 ha
  have hb' := List.pairwise_cons.1 hb
  have e : x = y := by
   by_cases e : x = y
   ·exact e
   ·have h1 : x ∈ t := (List.mem_cons.1 ((h x).1 (by simp))).resolve_left e
    have h2 : y ∈ r := (List.mem_cons.1 ((h y).2 (by simp))).resolve_left (fun e' => e e'.symm)
    have := ltS_asymm (ha'.1 y h2)
    rw [hb'.1 x h1] at this; cases this
  subst e
  rw [rises_ext ha'.2 hb'.2 (fun k => ?_)]
  have hk := h k
  simp only [List.mem_cons] at hk
  constructor
  ·intro hm
   exact (hk.1 (.inr hm)).resolve_left (fun e => by subst e; exact ltS_ne (ha'.1 _ hm) rfl)
  ·intro hm
   exact (hk.2 (.inr hm)).resolve_left (fun e => by subst e; exact ltS_ne (hb'.1 _ hm) rfl)
theorem obj_ext {x y : V} (hx : VObj x) (hy : VObj y) (h : ∀ k, x.member k = y.member k) : x = y := by
 have hk : x.keys = y.keys := rises_ext hx.rise hy.rise fun k => by rw [hx.keys_iff, hy.keys_iff, h k]
 have hl : x.l = y.l := by
  have e1 := hx.len
  have e2 := hy.len
  have e3 := congrArg List.length hk
  apply List.ext_getElem (by omega)
  intro i h1 h2
  have a1 := lk_at _ _ hx.len hx.nodup i (by omega)
  have a2 := lk_at _ _ hy.len hy.nodup i (by omega)
  have a3 := h (x.keys[i]'(by omega))
  rw [hx.member, hy.member, a1] at a3
  have a4 : y.keys[i]'(by omega) = x.keys[i]'(by omega) := by simp only [hk]
  rw [← a4, a2] at a3
  exact Option.some.inj a3
 rw [← V.eta x, ← V.eta y, hx.k5, hy.k5, hx.n0, hy.n0, hx.s0, hy.s0, hk, hl]
theorem put_sound {x y : V} (hx : x.sound) (hy : y.sound) {key : ByteArray} (hk : plainB key = true) (h5 : x.k = 5) : (x.put key y).sound := by
 have f := hx.flat
 have o := sound_obj hx h5
 have o' := o.put key y
 have hmem : ∀ z ∈ (x.put key y).l, z.sound := by
  intro z hz
  cases hb : hasB x.keys key with
  | true =>
   rw [put_yes ⟨o.k5, o.len⟩ hb] at hz
   rcases List.mem_or_eq_of_mem_set hz with h | h
   ·exact hx.item h
   ·rw [h]; exact hy
  | false =>
   rw [put_new ⟨o.k5, o.len⟩ hb] at hz
   simp only [V.l_mk, List.mem_append, List.mem_cons] at hz
   rcases hz with h | h | h
   ·exact hx.item (List.mem_of_mem_take h)
   ·rw [h]; exact hy
   ·exact hx.item (List.mem_of_mem_drop h)
 refine sound_mk ⟨by rw [o'.k5]; decide, by rw [o'.k5]; decide, fun _ _ => o'.n0, fun _ => by rw [o'.s0, toList_none], fun h => absurd o'.k5 h, fun h => by rw [o'.k5] at h; omega, fun _ => .inl o'.n0, by rw [o'.n0]; decide, by rw [o'.n0]; decide, by rw [o'.s0]; decide, fun _ => o'.len, ?_, o'.rise⟩ hmem
 intro k hk'
 rw [o'.keys_iff, member_put o] at hk'
 by_cases e : key = k
 ·rw [← e]; exact hk
 ·rw [if_neg e] at hk'
  exact f.kp k ((o.keys_iff k).2 hk')
theorem del_sound {x : V} (hx : x.sound) (key : ByteArray) : (x.del key).sound := by
 by_cases h5 : x.k = 5
 ·have f := hx.flat
  have o := sound_obj hx h5
  have o' := o.del key
  have hmem : ∀ z ∈ (x.del key).l, z.sound := by
   intro z hz
   cases hb : hasB x.keys key with
   | true =>
    rw [del_yes ⟨o.k5, o.len⟩ hb] at hz
    simp only [V.l_mk, List.mem_append] at hz
    rcases hz with h | h
    ·exact hx.item (List.mem_of_mem_take h)
    ·exact hx.item (List.mem_of_mem_drop h)
   | false => rw [del_no hb] at hz; exact hx.item hz
  refine sound_mk ⟨by rw [o'.k5]; decide, by rw [o'.k5]; decide, fun _ _ => o'.n0, fun _ => by rw [o'.s0, toList_none], fun h => absurd o'.k5 h, fun h => by rw [o'.k5] at h; omega, fun _ => .inl o'.n0, by rw [o'.n0]; decide, by rw [o'.n0]; decide, by rw [o'.s0]; decide, fun _ => o'.len, ?_, o'.rise⟩ hmem
  intro k hk'
  rw [o'.keys_iff, member_del o] at hk'
  by_cases e : key = k
  ·rw [if_pos e] at hk'; exact absurd rfl hk'
  ·rw [if_neg e] at hk'
   exact f.kp k ((o.keys_iff k).2 hk')
 ·rw [del_not (fun e => h5 e.1)]; exact hx
theorem member_sound {x y : V} {key : ByteArray} (hx : x.sound) (h : x.member key = some y) : y.sound := hx.item (member_mem h)
theorem sum_set_eq {α : Type} (f : α → Nat) (a : α) : ∀ (l : List α) (p : Nat) (h : p < l.length), ((l.set p a).map f).sum + f l[p] = (l.map f).sum + f a
 | [], _, h => by simp at h
 | x :: l, 0, _ => by simp; omega
 | x :: l, p + 1, h => by
  have := sum_set_eq f a l p (by simpa using h)
  simp only [List.set_cons_succ, List.map_cons, List.sum_cons, List.getElem_cons_succ]; omega
theorem count_put {x : V} (h : VObj x) (key : ByteArray) (y : V) : (x.put key y).count + (match x.member key with | some o => o.count | none => 0) = x.count + y.count := by
 cases hb : hasB x.keys key with
 | true =>
  have hlt := hasB_lt hb
  have hlt' : posOf x.keys key < x.l.length := by rw [← h.len]; exact hlt
  have hm : x.member key = some (x.l[posOf x.keys key]'hlt') := by
   have := lk_at _ _ h.len h.nodup _ hlt
   rw [hasB_at hb] at this
   rw [h.member, this]
  rw [hm, put_yes ⟨h.k5, h.len⟩ hb, V.count_eq, V.count_eq x]
  simp only [V.l_mk]
  have := sum_set_eq V.count y x.l _ hlt'
  omega
 | false =>
  have hm : x.member key = none := by rw [h.member]; exact lk_none _ _ (not_mem_of h.rise hb)
  rw [hm, put_new ⟨h.k5, h.len⟩ hb, V.count_eq, V.count_eq x]
  simp only [V.l_mk]
  have := sum_insert V.count x.l (posOf x.keys key) y
  omega
theorem count_del_le {x : V} (h : VObj x) (key : ByteArray) : (x.del key).count ≤ x.count := by
 cases hb : hasB x.keys key with
 | true =>
  rw [del_yes ⟨h.k5, h.len⟩ hb, V.count_eq, V.count_eq x]
  have := sum_erase V.count x.l (posOf x.keys key)
  simp only [V.l_mk]; omega
 | false => rw [del_no hb]; exact Nat.le_refl _
end Go.Proofs.YtjibdbnpkfghhaaGreatDoor
/- What package merge reckons: plain functions and their laws, no program in sight. -/
namespace Go.Proofs.YtjibdbnpkfghhaaGreatDoor
theorem same_iff (x y : V) : x.same y = true ↔ x = y := by
 have hgo : ∀ (l : List V), (∀ a ∈ l, ∀ b : V, a.same b = true ↔ a = b) → ∀ m : List V, l.length = m.length → (V.same.go l m = true ↔ l = m) := by
  intro l
  induction l with
  | nil =>
   intro _ m hm
   obtain rfl : m = [] := List.eq_nil_of_length_eq_zero (by simpa using hm.symm)
   simp [V.same.go]
  | cons a r ih =>
   intro h m hm
   cases m with
   | nil => simp at hm
   | cons b t =>
    rw [V.same.go, Bool.and_eq_true, h a (by simp), ih (fun z hz => h z (by simp [hz])) t (by simpa using hm)]
    simp
 induction x using V.ind generalizing y with
 | h x ih =>
  obtain ⟨k, n, s, ks, l⟩ := x
  obtain ⟨k', n', s', ks', l'⟩ := y
  rw [V.same, Bool.and_eq_true, decide_eq_true_eq]
  simp only [V.k_mk, V.n_mk, V.s_mk, V.keys_mk, V.l_mk]
  constructor
  ·rintro ⟨⟨h1, h2, h3, h4, h5⟩, h6⟩
   have h7 := (hgo l (fun a ha b => ih a ha b) l' h5).1 h6
   have h8 : ks = ks' := by
    clear h6 hgo ih
    induction ks generalizing ks' with
    | nil => cases ks' with | nil => rfl | cons => simp at h4
    | cons a r ih =>
     cases ks' with
     | nil => simp at h4
     | cons b t =>
      simp only [List.map_cons, List.cons.injEq] at h4
      rw [bytes_ext h4.1, ih t h4.2]
   rw [h1, h2, bytes_ext h3, h7, h8]
  ·intro h
   cases h
   exact ⟨⟨rfl, rfl, rfl, rfl, rfl⟩, (hgo l (fun a ha b => ih a ha b) l rfl).2 rfl⟩
def V.base (v : V) : V := if v.k = 5 then v else V.none5
theorem base_obj {v : V} (h : v.sound) : VObj v.base := by
 unfold V.base; split
 ·rename_i h5; exact sound_obj h h5
 ·exact none5_obj
theorem base_of {v : V} (h : v.k = 5) : v.base = v := if_pos h
theorem base_not {v : V} (h : v.k ≠ 5) : v.base = V.none5 := if_neg h
theorem zero_sound : V.zero.sound := ⟨12, by decide +kernel⟩
theorem none5_sound : V.none5.sound := ⟨12, by decide +kernel⟩
theorem base_sound {v : V} (h : v.sound) : v.base.sound := by
 unfold V.base; split
 ·exact h
 ·exact none5_sound
theorem getD_sound {v : V} (h : v.sound) (k : ByteArray) : ((v.member k).getD V.zero).sound := by
 cases hm : v.member k with
 | none => exact zero_sound
 | some y => exact member_sound h hm
end Go.Proofs.YtjibdbnpkfghhaaGreatDoor
/- A region that draws its order: a condition on the world that need hold only until one of its operations (the first store) has come up: loads ahead of it may be taken first. -/
namespace Go.Proofs.YtjibdbnpkfghhaaGreatDoor
open Go
section
variable {P : Program} {ops : Array Oper} {Q : Exit → Act → World → Prop} {md : Region.Mode} {S : World → Prop} {c : Nat}
def wpAnyT (P : Program) (md : Region.Mode) (ops : Array Oper) (Q : Exit → Act → World → Prop) (S : World → Prop) (c : Nat) : Nat → Array Bool → Act → World → Prop
 | 0, listed, a, w => Region.ready md ops listed = [] ∧ Q .normal a w
 | fuel + 1, listed, a, w =>
  (Region.ready md ops listed = [] → Q .normal a w) ∧
  ∀ i ∈ Region.ready md ops listed, wpOp P ops Q i (fun a' w' => ((listed.setIfInBounds i true).getD c true = false → S w') ∧ wpAnyT P md ops Q S c fuel (listed.setIfInBounds i true) a' w') a w
theorem wpAny_of_till : ∀ (fuel : Nat) (listed : Array Bool) (a : Act) (w : World), wpAnyT P md ops Q S c fuel listed a w → wpAny P md ops Q fuel listed a w
 | 0, _, _, _, h => h
 | fuel + 1, _, _, _, h => ⟨h.1, fun i hi => wpOp_mono (fun a' w' h' => wpAny_of_till fuel _ a' w' h'.2) (h.2 i hi)⟩
def dependsB (md : Region.Mode) (ops : Array Oper) (i x : Nat) : Bool := match ops[x]? with
 | some o => o.after.any fun e => Region.binds md e && e.on == i
 | none => false
def chainB (md : Region.Mode) (ops : Array Oper) : Nat → List Nat → Bool
 | _, [] => true
 | i, x :: r => dependsB md ops i x && chainB md ops x r
theorem not_chain {listed : Array Bool} : ∀ (ch : List Nat) (i : Nat), chainB md ops i ch = true → listed.getD i true = false → (∀ x ∈ ch, listed.getD x true = false) → ∀ j ∈ Region.ready md ops listed, j ∉ ch
 | [], _, _, _, _, _, _ => by simp
 | x :: r, i, hc, hi, hx, j, hj => by
  simp only [chainB, Bool.and_eq_true] at hc
  have ih := not_chain r x hc.2 (hx x (by simp)) (fun y hy => hx y (by simp [hy])) j hj
  intro hm
  rcases List.mem_cons.1 hm with rfl | hm
  ·obtain ⟨-, oj, hoj, hall⟩ := mem_ready.1 hj
   have hd := hc.1
   unfold dependsB at hd
   rw [hoj] at hd
   simp only [Array.any_eq_true'] at hd
   obtain ⟨e, he, hb⟩ := hd
   simp only [Bool.and_eq_true, beq_iff_eq] at hb
   have h1 := hall e he hb.1
   rw [hb.2] at h1
   rcases Nat.lt_or_ge i listed.size with h' | h'
   ·simp [h'] at hi h1; rw [hi] at h1; cases h1
   ·simp [Array.getElem?_eq_none h'] at hi
  ·exact ih hm
theorem wpAnyT_first {i : Nat} {ch : List Nat} {oi : Oper} {v : Value} (hi : ops[i]? = some oi) (hsel : ∀ (j : Nat) (o : Oper) cs b, ops[j]? = some o → o.op ≠ .select cs b)
  (hQ : ∀ c a w, Q (.panic c) (a.put oi.dst v) w → Q (.panic c) a w) (hch : chainB md ops i ch = true) (hcc : c ∈ ch) (hich : i ∉ ch) :
  ∀ (fuel : Nat) (listed : Array Bool) (a : Act) (w : World),
   (∀ j oj, ops[j]? = some oj → j ≠ i → listed.getD j true = false → (∀ e ∈ oj.after, Region.binds md e = true → e.on ≠ i) → oi.apart ops oj = true) →
   i ∈ Region.ready md ops listed → (∀ x ∈ ch, listed.getD x true = false) → YieldsIf P ops S oi v a → S w →
   wpAnyT P md ops Q S c fuel (listed.setIfInBounds i true) (a.put oi.dst v) w → wpAnyT P md ops Q S c (fuel + 1) listed a w := by
 intro fuel
 induction fuel with
 | zero =>
  intro listed a w _ hr hcl hy hS H
  refine ⟨fun h => (by rw [h] at hr; cases hr), fun j hj => ?_⟩
  by_cases hji : j = i
  ·subst hji; exact hy.wpOp hi hS ⟨fun _ => hS, H⟩
  ·have := ready_mono hj hji
   rw [H.1] at this
   cases this
 | succ fuel ih =>
  intro listed a w hfree hr hcl hy hS H
  refine ⟨fun h => (by rw [h] at hr; cases hr), fun j hj => ?_⟩
  by_cases hji : j = i
  ·subst hji; exact hy.wpOp hi hS ⟨fun _ => hS, H⟩
  ·have h1 := H.2 j (ready_mono hj hji)
   obtain ⟨hjun, oj, hoj, hall⟩ := mem_ready.1 hj
   have hnot : ∀ e ∈ oj.after, Region.binds md e = true → e.on ≠ i := fun e he hb heq => by
    have h1 := hall e he hb
    have h0 := (mem_ready.1 hr).1
    rw [heq] at h1
    rcases Nat.lt_or_ge i listed.size with h' | h'
    ·simp [h'] at h0 h1; rw [h0] at h1; cases h1
    ·simp [Array.getElem?_eq_none h'] at h1
   have hi0 : listed.getD i true = false := (mem_ready.1 hr).1
   have hjch := not_chain ch i hch hi0 hcl j hj
   have hjc : j ≠ c := fun e => hjch (e ▸ hcc)
   have hci : i ≠ c := fun e => hich (e ▸ hcc)
   have h2 := wpOp_putIf hoj (hfree j oj hoj hji hjun hnot) (fun cs b => hsel i oi cs b hi) (fun cs b => hsel j oj cs b hoj) hQ hy h1
   have hfree' : ∀ k ok, ops[k]? = some ok → k ≠ i → (listed.setIfInBounds j true).getD k true = false →
     (∀ e ∈ ok.after, Region.binds md e = true → e.on ≠ i) → oi.apart ops ok = true := fun k ok hk hki hun hno => by
    refine hfree k ok hk hki ?_ hno
    by_cases hjk : j = k
    ·subst hjk; exact hjun
    ·rw [getD_set_ne true hjk] at hun; exact hun
   have hcj : ∀ x ∈ ch, (listed.setIfInBounds j true).getD x true = false := fun x hx => by rw [getD_set_ne true (fun e : j = x => hjch (e ▸ hx))]; exact hcl x hx
   have hcij : ((listed.setIfInBounds i true).setIfInBounds j true).getD c true = false := by rw [getD_set_ne true hjc, getD_set_ne true hci]; exact hcl c hcc
   refine wpOp_mono (fun a' w' h3 => ⟨fun _ => h3.2.1 hcij, ih (listed.setIfInBounds j true) a' w' hfree' (ready_mono hr (Ne.symm hji)) hcj h3.1 (h3.2.1 hcij) ?_⟩) h2
   rw [Array.setIfInBounds_comm _ _ hji]
   exact h3.2.2
theorem wpAnyT_take {i : Nat} {oi : Oper} {v : Value} {fuel : Nat} {listed : Array Bool} {a : Act} {w : World} (ch : List Nat) (hi : ops[i]? = some oi)
  (hs : Region.noSelect ops = true) (hf : Region.free md ops listed i = true) (hr : (Region.ready md ops listed).contains i = true) (hch : chainB md ops i ch = true)
  (hcc : ch.contains c = true) (hich : ch.contains i = false) (hcl : (ch.all fun x => !listed.getD x true) = true)
  (hQ : ∀ c a w, Q (.panic c) (a.put oi.dst v) w → Q (.panic c) a w) (hy : YieldsIf P ops S oi v a) (hS : S w)
  (h : wpAnyT P md ops Q S c fuel (listed.setIfInBounds i true) (a.put oi.dst v) w) : wpAnyT P md ops Q S c (fuel + 1) listed a w := by
 refine wpAnyT_first hi (Region.noSelect_spec hs) hQ hch (by simpa using hcc) (by simpa using hich) fuel listed a w (Region.free_spec hi hf) (by simpa using hr) ?_ hy hS h
 intro x hx
 have := List.all_eq_true.1 hcl x hx
 simpa using this
def AllReadyT (P : Program) (md : Region.Mode) (ops : Array Oper) (Q : Exit → Act → World → Prop) (S : World → Prop) (c : Nat) (fuel : Nat) (listed : Array Bool) (a : Act) (w : World) (rs : List Nat) : Prop :=
 ∀ i ∈ rs, wpOp P ops Q i (fun a' w' => ((listed.setIfInBounds i true).getD c true = false → S w') ∧ wpAnyT P md ops Q S c fuel (listed.setIfInBounds i true) a' w') a w
theorem AllReadyT.nil {fuel : Nat} {listed : Array Bool} {a : Act} {w : World} : AllReadyT P md ops Q S c fuel listed a w [] := fun _ h => by cases h
theorem AllReadyT.cons {fuel : Nat} {listed : Array Bool} {a : Act} {w : World} {i : Nat} {o : Oper} {rs : List Nat} (ho : ops[i]? = some o)
  (h : ∀ K' : Act → World → Prop, Shut (∀ a w, ((listed.setIfInBounds i true).getD c true = false → S w) → wpAnyT P md ops Q S c fuel (listed.setIfInBounds i true) a w → K' a w) → if Region.wanted o (yielded ops a.tmps) = true then Oper.wp P o a w K' Q else K' (a.put o.dst undef) w)
  (hs : AllReadyT P md ops Q S c fuel listed a w rs) : AllReadyT P md ops Q S c fuel listed a w (i :: rs) := fun j hj => by
 rcases List.mem_cons.1 hj with rfl | hj
 ·exact wpOp_step ho (fun K' hK => h K' (fun a w hS hW => hK a w ⟨hS, hW⟩))
 ·exact hs j hj
theorem wpAnyT_ready {rs : List Nat} {fuel : Nat} {listed : Array Bool} {a : Act} {w : World} (hr : Region.ready md ops listed = rs) (hne : rs ≠ [])
  (h : AllReadyT P md ops Q S c fuel listed a w rs) : wpAnyT P md ops Q S c (fuel + 1) listed a w := ⟨fun h0 => absurd (hr ▸ h0) hne, hr ▸ h⟩
theorem wpAnyT_one {fuel : Nat} {listed : Array Bool} {a : Act} {w : World} {i : Nat} {o : Oper} (hr : Region.ready md ops listed = [i]) (ho : ops[i]? = some o)
  (h : ∀ K' : Act → World → Prop, Shut (∀ a w, ((listed.setIfInBounds i true).getD c true = false → S w) → wpAnyT P md ops Q S c fuel (listed.setIfInBounds i true) a w → K' a w) → if Region.wanted o (yielded ops a.tmps) = true then Oper.wp P o a w K' Q else K' (a.put o.dst undef) w) :
  wpAnyT P md ops Q S c (fuel + 1) listed a w := wpAnyT_ready hr (by simp) (AllReadyT.cons ho h AllReadyT.nil)
theorem wpAnyT_done {listed : Array Bool} {a : Act} {w : World} (hr : Region.ready md ops listed = []) (h : Q .normal a w) :
  ∀ fuel, wpAnyT P md ops Q S c fuel listed a w
 | 0 => ⟨hr, h⟩
 | _ + 1 => ⟨fun _ => h, by rw [hr]; simp⟩
theorem wp_region_till {id : Nat} {a : Act} {w : World} (hm : P.follows .mixedOrders = true)
  (h : wpAnyT P .any ops Q S c ops.size (Array.replicate ops.size false) a w.drew) : (Code.region id ops true).wp P Q a w :=
 wp_region_any hm (wpAny_of_till _ _ _ _ h)
end
end Go.Proofs.YtjibdbnpkfghhaaGreatDoor
/- Paths, apart from memory: what the library's Split and ReplaceAll come to, letter by letter; a path's names, names' path, and that each leads back. -/
namespace Go.Proofs.YtjibdbnpkfghhaaGreatDoor
open Go
theorem index_cons_hit {b : UInt8} {l sub : List UInt8} (h : sub.isPrefixOf (b :: l) = true) : Lib.index (b :: l) sub = 0 := by rw [Lib.index, if_pos h]
theorem index_cons_miss {b : UInt8} {l sub : List UInt8} (h : sub.isPrefixOf (b :: l) = false) : Lib.index (b :: l) sub = if Lib.index l sub == -1 then -1 else Lib.index l sub + 1 := by rw [Lib.index, if_neg (by simp [h])]
theorem index_nil {sub : List UInt8} (h : sub ≠ []) : Lib.index [] sub = -1 := by
 cases sub with
 | nil => exact absurd rfl h
 | cons a r => rfl
theorem rep_nil {old new : List UInt8} (h : old ≠ []) : Lib.replaceAll [] old new = [] := by
 unfold Lib.replaceAll Lib.replace
 split
 ·rfl
 ·have : Lib.replaceNum [] old (-1) = 0 := by simp [Lib.replaceNum, Lib.count_miss (index_nil h)]
  rw [this, Lib.replaceK]
theorem rep_eq {s old new : List UInt8} (hne : (old == new) = false) : Lib.replaceAll s old new = Lib.replaceK old new (Lib.count s old) s := by
 unfold Lib.replaceAll Lib.replace
 rw [if_neg (by simp [hne])]
 simp [Lib.replaceNum]
theorem rep_hit {b : UInt8} {l old new : List UInt8} (ho : old ≠ []) (hne : (old == new) = false) (h : old.isPrefixOf (b :: l) = true) : Lib.replaceAll (b :: l) old new = new ++ Lib.replaceAll ((b :: l).drop old.length) old new := by
 have hi : Lib.index (b :: l) old = (0 : Nat) := index_cons_hit h
 rw [rep_eq hne, rep_eq hne, Lib.count_hit ho hi, Nat.add_comm 1, Lib.replaceK_hit _ _ _ _ 0 hi]
 simp
theorem rep_miss {b : UInt8} {l old new : List UInt8} (ho : old ≠ []) (hne : (old == new) = false) (h : old.isPrefixOf (b :: l) = false) : Lib.replaceAll (b :: l) old new = b :: Lib.replaceAll l old new := by
 rw [rep_eq hne, rep_eq hne]
 have hi := index_cons_miss h
 have hge := Lib.index_ge l old
 by_cases hm : Lib.index l old = -1
 ·rw [hm] at hi
  have hi : Lib.index (b :: l) old = -1 := by simpa using hi
  rw [Lib.count_miss hm, Lib.count_miss hi, Lib.replaceK, Lib.replaceK]
 ·obtain ⟨i, he⟩ : ∃ i : Nat, Lib.index l old = i := ⟨(Lib.index l old).toNat, by omega⟩
  have hi : Lib.index (b :: l) old = ((i + 1 : Nat) : Int) := by
   rw [hi, he, if_neg (by simp <;> omega)]; rfl
  rw [Lib.count_hit ho he, Lib.count_hit ho hi, Nat.add_comm 1, Nat.add_comm 1, Lib.replaceK_hit _ _ _ _ _ he, Lib.replaceK_hit _ _ _ _ _ hi]
  have e : i + 1 + old.length = (i + old.length) + 1 := by omega
  rw [e]
  simp
def ahead (b : UInt8) : List (List UInt8) → List (List UInt8)
 | [] => [[b]]
 | p :: ps => (b :: p) :: ps
theorem split_nil {c : UInt8} : Lib.split [] [c] = [[]] := by
 unfold Lib.split
 rw [Lib.count_miss (index_nil (by simp)), Lib.splitK]
theorem split_hit {c : UInt8} {l : List UInt8} : Lib.split (c :: l) [c] = [] :: Lib.split l [c] := by
 have hi : Lib.index (c :: l) [c] = (0 : Nat) := index_cons_hit (by simp [List.isPrefixOf])
 unfold Lib.split
 rw [Lib.count_hit (by simp) hi, Nat.add_comm 1, Lib.splitK, if_neg (by rw [hi]; decide), hi]
 simp
theorem split_miss {b c : UInt8} {l : List UInt8} (h : b ≠ c) : Lib.split (b :: l) [c] = ahead b (Lib.split l [c]) := by
 have hp : ([c] : List UInt8).isPrefixOf (b :: l) = false := by simp [List.isPrefixOf]; exact fun e => h e.symm
 have hi := index_cons_miss hp
 have hge := Lib.index_ge l [c]
 unfold Lib.split
 by_cases hm : Lib.index l [c] = -1
 ·rw [hm] at hi
  have hi : Lib.index (b :: l) [c] = -1 := by simpa using hi
  rw [Lib.count_miss hm, Lib.count_miss hi, Lib.splitK, Lib.splitK, ahead]
 ·obtain ⟨i, he⟩ : ∃ i : Nat, Lib.index l [c] = i := ⟨(Lib.index l [c]).toNat, by omega⟩
  have hi : Lib.index (b :: l) [c] = ((i + 1 : Nat) : Int) := by
   rw [hi, he, if_neg (by simp <;> omega)]; rfl
  rw [Lib.count_hit (by simp) he, Lib.count_hit (by simp) hi, Nat.add_comm 1, Nat.add_comm 1, Lib.splitK, Lib.splitK, if_neg (by rw [hi]; simp <;> omega), if_neg (by rw [he]; simp <;> omega), hi, he]
  simp [ahead]
def escB (x : UInt8) : List UInt8 := if x = 126 then [126, 48] else if x = 47 then [126, 49] else [x]
def escN (s : List UInt8) : List UInt8 := Lib.replaceAll (Lib.replaceAll s [126] [126, 48]) [47] [126, 49]
def unescN (s : List UInt8) : List UInt8 := Lib.replaceAll (Lib.replaceAll s [126, 49] [47]) [126, 48] [126]
theorem rep_one (a : UInt8) (new : List UInt8) (hne : ([a] == new) = false) (s : List UInt8) : Lib.replaceAll s [a] new = s.flatMap fun x => if x = a then new else [x] := by
 induction s with
 | nil => exact rep_nil (by simp)
 | cons x r ih =>
  by_cases h : x = a
  ·subst h
   rw [rep_hit (by simp) hne (by simp [List.isPrefixOf])]
   simp [ih]
  ·rw [rep_miss (by simp) hne (by simp [List.isPrefixOf]; exact fun e => h e.symm)]
   simp [ih, h]
theorem escN_eq (s : List UInt8) : escN s = s.flatMap escB := by
 unfold escN
 rw [rep_one _ _ (by decide), rep_one _ _ (by decide)]
 induction s with
 | nil => rfl
 | cons x r ih =>
  simp only [List.flatMap_cons, List.flatMap_append, ih]
  congr 1
  unfold escB
  by_cases h : x = 126
  ·subst h; decide
  ·by_cases h2 : x = 47
   ·subst h2; decide
   ·simp [h, h2]
theorem r1_cons {x : UInt8} {r : List UInt8} (h : x ≠ 126) (a b : UInt8) (hne : ([126, a] == [b]) = false) : Lib.replaceAll (x :: r) [126, a] [b] = x :: Lib.replaceAll r [126, a] [b] :=
 rep_miss (by simp) hne (by simp [List.isPrefixOf]; intro e; exact absurd e.symm h)
theorem r1_hit {a b : UInt8} {r : List UInt8} : Lib.replaceAll (126 :: a :: r) [126, a] [b] = b :: Lib.replaceAll r [126, a] [b] := by
 rw [rep_hit (by simp) (by simp) (by simp [List.isPrefixOf])]; simp
theorem r1_other {a b c : UInt8} {r : List UInt8} (h : c ≠ a) : Lib.replaceAll (126 :: c :: r) [126, a] [b] = 126 :: Lib.replaceAll (c :: r) [126, a] [b] :=
 rep_miss (by simp) (by simp) (by simp [List.isPrefixOf]; exact fun e => h e.symm)
theorem unesc_esc (s : List UInt8) : unescN (escN s) = s := by
 rw [escN_eq]
 unfold unescN
 have h1 : Lib.replaceAll (s.flatMap escB) [126, 49] [47] = s.flatMap fun x => if x = 126 then [126, 48] else [x] := by
  induction s with
  | nil => exact rep_nil (by simp)
  | cons x r ih =>
   simp only [List.flatMap_cons, escB]
   by_cases h : x = 126
   ·subst h
    simp only [if_true, List.cons_append, List.nil_append]
    rw [r1_other (by decide), r1_cons (by decide) _ _ (by decide), ih]
   ·by_cases h2 : x = 47
    ·subst h2
     simp (decide := true) only [if_true, if_false, List.cons_append, List.nil_append]
     rw [r1_hit, ih]
    ·simp only [h, h2, if_false, List.cons_append, List.nil_append]
     rw [r1_cons h _ _ (by decide), ih]
 rw [h1]
 clear h1
 induction s with
 | nil => exact rep_nil (by simp)
 | cons x r ih =>
  simp only [List.flatMap_cons]
  by_cases h : x = 126
  ·subst h
   simp only [if_true, List.cons_append, List.nil_append]
   rw [r1_hit, ih]
  ·simp only [h, if_false, List.cons_append, List.nil_append]
   rw [r1_cons h _ _ (by decide), ih]
def tildeL : List UInt8 → Bool
 | [] => true
 | x :: r => (x != 126 || (match r with | c :: _ => c == 48 || c == 49 | [] => false)) && tildeL r
theorem esc_unesc : ∀ (s : List UInt8), tildeL s = true → (∀ x ∈ s, x ≠ 47) → escN (unescN s) = s
 | [], _, _ => by simp [escN, unescN, rep_nil]
 | [x], h, h47 => by
  have hx : x ≠ 126 := by intro e; subst e; simp [tildeL] at h
  have h47 := h47 x (by simp)
  rw [escN_eq]; unfold unescN
  rw [r1_cons hx _ _ (by decide), rep_nil (by simp), r1_cons hx _ _ (by decide), rep_nil (by simp)]
  simp [escB, hx, h47]
 | x :: y :: r, h, h47 => by
  have h47x := h47 x (by simp)
  have h47y := h47 y (by simp)
  by_cases hx : x = 126
  ·subst hx
   simp only [tildeL, bne_self_eq_false, Bool.false_or, Bool.and_eq_true, Bool.or_eq_true, beq_iff_eq] at h
   obtain ⟨hy, -, hr⟩ := h
   have ih := esc_unesc r hr (fun z hz => h47 z (by simp [hz]))
   rw [escN_eq] at ih ⊢
   unfold unescN at ih ⊢
   rcases hy with rfl | rfl
   ·rw [r1_other (by decide), r1_cons (x := 48) (by decide) 49 47 (by decide), r1_hit]
    simp only [List.flatMap_cons, ih]
    rfl
   ·rw [r1_hit, r1_cons (x := 47) (by decide) 48 126 (by decide)]
    simp only [List.flatMap_cons, ih]
    rfl
  ·have hr : tildeL (y :: r) = true := by
    rw [tildeL] at h
    simp only [Bool.and_eq_true] at h
    exact h.2
   have ih := esc_unesc (y :: r) hr (fun z hz => h47 z (by simp [hz]))
   rw [escN_eq] at ih ⊢
   unfold unescN at ih ⊢
   rw [r1_cons hx _ _ (by decide), r1_cons hx _ _ (by decide)]
   simp only [List.flatMap_cons, ih]
   simp [escB, hx, h47x]
def namesL (p : List UInt8) : Option (List (List UInt8)) :=
 match p with
 | [] => some []
 | c :: r => if c = 47 ∧ p.length ≤ 2000 then (if (Lib.split r [47]).all tildeL = true then some ((Lib.split r [47]).map unescN) else none) else none
def joinL (l : List (List UInt8)) : List UInt8 := l.flatMap fun x => 47 :: escN x
theorem split_clean (s : List UInt8) : ∀ q ∈ Lib.split s [47], ∀ x ∈ q, x ≠ 47 := by
 induction s with
 | nil => rw [split_nil]; simp
 | cons b l ih =>
  by_cases h : b = 47
  ·subst h; rw [split_hit]
   intro q hq
   rcases List.mem_cons.1 hq with rfl | hq
   ·simp
   ·exact ih q hq
  ·rw [split_miss h]
   cases hs : Lib.split l [47] with
   | nil => simp [ahead, h]
   | cons p ps =>
    rw [hs] at ih
    intro q hq x hx
    simp only [ahead, List.mem_cons] at hq
    rcases hq with rfl | hq
    ·rcases List.mem_cons.1 hx with rfl | hx
     ·exact h
     ·exact ih p (by simp) x hx
    ·exact ih q (by simp [hq]) x hx
theorem split_join (s : List UInt8) : (Lib.split s [47]).flatMap (fun q => 47 :: q) = 47 :: s := by
 induction s with
 | nil => rw [split_nil]; rfl
 | cons b l ih =>
  by_cases h : b = 47
  ·subst h; rw [split_hit]; simp only [List.flatMap_cons, ih]; rfl
  ·rw [split_miss h]
   cases hs : Lib.split l [47] with
   | nil => rw [hs] at ih; simp at ih
   | cons p ps =>
    rw [hs] at ih
    simp only [List.flatMap_cons, List.cons_append, List.cons.injEq, true_and] at ih
    simp only [ahead, List.flatMap_cons, List.cons_append, ih]
theorem split_of (q : List UInt8) (h : ∀ x ∈ q, x ≠ 47) : Lib.split q [47] = [q] := by
 induction q with
 | nil => exact split_nil
 | cons b l ih => rw [split_miss (h b (by simp)), ih (fun x hx => h x (by simp [hx]))]; rfl
theorem split_app (q s : List UInt8) (h : ∀ x ∈ q, x ≠ 47) : Lib.split (q ++ 47 :: s) [47] = q :: Lib.split s [47] := by
 induction q with
 | nil => exact split_hit
 | cons b l ih => rw [List.cons_append, split_miss (h b (by simp)), ih (fun x hx => h x (by simp [hx]))]; rfl
theorem esc_clean (s : List UInt8) : ∀ x ∈ escN s, x ≠ 47 := by
 rw [escN_eq]
 intro x hx
 simp only [List.mem_flatMap] at hx
 obtain ⟨y, -, hy⟩ := hx
 unfold escB at hy
 split at hy
 ·simp at hy; rcases hy with rfl | rfl <;> decide
 ·split at hy
  ·simp at hy; rcases hy with rfl | rfl <;> decide
  ·simp at hy; subst hy; assumption
theorem esc_tilde (s : List UInt8) : tildeL (escN s) = true := by
 rw [escN_eq]
 induction s with
 | nil => rfl
 | cons x r ih =>
  simp only [List.flatMap_cons, escB]
  split
  ·simp [tildeL, ih]
  ·split
   ·simp [tildeL, ih]
   ·rename_i h1 h2
    simp only [List.cons_append, List.nil_append]
    rw [tildeL.eq_def]
    simp [h1, ih]
theorem split_joinL (x : List UInt8) (l : List (List UInt8)) : Lib.split (escN x ++ joinL l) [47] = escN x :: l.map escN := by
 induction l generalizing x with
 | nil => simp only [joinL, List.flatMap_nil, List.append_nil, List.map_nil]; exact split_of _ (esc_clean x)
 | cons y r ih =>
  simp only [joinL, List.flatMap_cons, List.cons_append, List.map_cons]
  rw [split_app _ _ (esc_clean x)]
  have := ih y
  simp only [joinL] at this
  rw [this]
theorem escN_len (s : List UInt8) : (escN s).length ≤ 2 * s.length := by
 rw [escN_eq]
 induction s with
 | nil => simp
 | cons x r ih =>
  simp only [List.flatMap_cons, List.length_append, List.length_cons]
  have : (escB x).length ≤ 2 := by
   unfold escB
   split
   ·simp
   ·split <;> simp
  omega
theorem names_join (l : List (List UInt8)) (h : (joinL l).length ≤ 2000) : namesL (joinL l) = some l := by
 cases l with
 | nil => rfl
 | cons x r =>
  have hs := split_joinL x r
  have e : joinL (x :: r) = 47 :: (escN x ++ joinL r) := by simp [joinL]
  rw [e] at h ⊢
  unfold namesL
  simp only
  rw [if_pos ⟨trivial, h⟩, hs, if_pos (by simp [esc_tilde]), ← List.map_cons, List.map_map, show unescN ∘ escN = id from funext unesc_esc, List.map_id]
theorem join_names {p : List UInt8} {l : List (List UInt8)} (h : namesL p = some l) : joinL l = p := by
 unfold namesL at h
 cases p with
 | nil => simp at h; subst h; rfl
 | cons c r =>
  simp only at h
  split at h
  ·rename_i hc
   split at h
   ·rename_i ht
    simp only [Option.some.injEq] at h
    subst h
    obtain ⟨rfl, -⟩ := hc
    unfold joinL
    rw [List.flatMap_map]
    have : ∀ q ∈ Lib.split r [47], escN (unescN q) = q := fun q hq => esc_unesc q (List.all_eq_true.1 ht q hq) (split_clean r q hq)
    rw [show (Lib.split r [47]).flatMap (fun a => 47 :: escN (unescN a)) = (Lib.split r [47]).flatMap (fun q => 47 :: q) from by
     rw [List.flatMap_def, List.flatMap_def]
     congr 1
     exact List.map_congr_left fun q hq => by rw [this q hq]]
    exact split_join r
   ·cases h
  ·cases h
end Go.Proofs.YtjibdbnpkfghhaaGreatDoor
/- Places in values, apart from memory: what stands at a path, what is done there, and that what is put or added is got, and taken away again leaves all as it was. No program in sight. -/
namespace Go.Proofs.YtjibdbnpkfghhaaGreatDoor
def idxV (name : ByteArray) (n : Nat) : Option Nat :=
 if name.data.toList = [45] then some n else
 match Lib.atoiAll name.data.toList with
 | .ok k => if name.size ≤ 4 ∧ 0 ≤ k ∧ Lib.itoa k = name.data.toList then some k.toNat else none
 | _ => none
def V.child (x : V) (name : ByteArray) : Option Nat :=
 if x.k = 5 then (if hasB x.keys name = true then some (posOf x.keys name) else none)
 else if x.k = 4 then (idxV name x.l.length).bind fun k => if k < x.l.length then some k else none
 else none
def V.setL (x : V) (i : Nat) (y : V) : V := .mk x.k x.n x.s x.keys (x.l.set i y)
def V.insL (x : V) (i : Nat) (y : V) : V := .mk x.k x.n x.s x.keys (x.l.take i ++ y :: x.l.drop i)
theorem child_lt {x : V} (h : x.sound) {name : ByteArray} {i : Nat} (hc : x.child name = some i) : i < x.l.length := by
 unfold V.child at hc
 split at hc
 ·rename_i h5
  split at hc
  ·rename_i hb
   have := hasB_lt hb
   rw [h.flat.len h5] at this
   cases hc; exact this
  ·cases hc
 ·split at hc
  ·cases hi : idxV name x.l.length with
   | none => rw [hi] at hc; cases hc
   | some k =>
    rw [hi] at hc
    simp only [Option.bind_some] at hc
    split at hc
    ·rename_i hlt; cases hc; exact hlt
    ·cases hc
  ·cases hc
def getV : List ByteArray → V → Option V
 | [], x => some x
 | a :: r, x => (x.child a).bind fun i => (x.l[i]?).bind (getV r)
abbrev Doer := V → ByteArray → V × Int
def atV (F : Doer) : List ByteArray → V → V × Int
 | [], x => (x, 3)
 | a :: r, x => if r = [] then F x a else
  match x.child a with
  | none => (x, 3)
  | some i =>
   match x.l[i]? with
   | none => (x, 3)
   | some y => if (atV F r y).2 = 0 then (x.setL i (atV F r y).1, 0) else (x, (atV F r y).2)
theorem atV_one (F : Doer) (a : ByteArray) (x : V) : atV F [a] x = F x a := by simp [atV]
theorem atV_none {F : Doer} {a b : ByteArray} {r : List ByteArray} {x : V} (h : x.child a = none) : atV F (a :: b :: r) x = (x, 3) := by
 rw [atV, if_neg (by simp), h]
theorem atV_some {F : Doer} {a b : ByteArray} {r : List ByteArray} {x : V} {i : Nat} (h : x.child a = some i) (hi : i < x.l.length) :
  atV F (a :: b :: r) x = if (atV F (b :: r) x.l[i]).2 = 0 then (x.setL i (atV F (b :: r) x.l[i]).1, 0) else (x, (atV F (b :: r) x.l[i]).2) := by
 rw [atV, if_neg (by simp), h]
 simp only [List.getElem?_eq_getElem hi]
def addF (y : V) : Doer := fun x name =>
 if x.k = 5 then (x.put name y, 0)
 else if x.k = 4 then
  match idxV name x.l.length with
  | some i => if i ≤ x.l.length then (x.insL i y, 0) else (x, 3)
  | none => (x, 3)
 else (x, 3)
def namesB (p : ByteArray) : Option (List ByteArray) := (namesL p.data.toList).map fun l => l.map fun s => ⟨s.toArray⟩
theorem namesB_of {p : ByteArray} {ks : List ByteArray} (h : namesL p.data.toList = some (ks.map (·.data.toList))) : namesB p = some ks := by
 unfold namesB
 rw [h]
 simp only [Option.map_some, List.map_map, Option.some.injEq]
 have : ((fun s : List UInt8 => (⟨s.toArray⟩ : ByteArray)) ∘ fun k : ByteArray => k.data.toList) = id := by
  funext k; rfl
 rw [this, List.map_id]
theorem namesB_none {p : ByteArray} (h : namesL p.data.toList = none) : namesB p = none := by
 unfold namesB; rw [h]; rfl
def changeV (x : V) (p : ByteArray) (F : Doer) : V × Int :=
 match namesB p with
 | none => (x, 1)
 | some l => if x.fine = false then (x, 1) else if l = [] then (x, 1) else
  if (atV F l x).2 = 0 then (if (atV F l x).1.fine = true then ((atV F l x).1, 0) else (x, 2)) else (x, (atV F l x).2)
def getP (x : V) (p : ByteArray) : V × Int :=
 match namesB p with
 | none => (V.zero, 1)
 | some l => if x.fine = false then (V.zero, 1) else match getV l x with | some y => (y, 0) | none => (V.zero, 3)
def addP (x : V) (p : ByteArray) (y : V) : V × Int := if y.fine = false then (x, 1) else if p.data.toList = [] ∧ x.fine = true then (y, 0) else changeV x p (addF y)
theorem names_empty {p : ByteArray} (h : p.data.toList = []) : namesB p = some [] := by unfold namesB; rw [h]; rfl
theorem good_sound {x : V} {d : Int} (h : x.good d = true) : x.sound := ⟨d, h⟩
theorem good_item {x : V} {d : Int} (h : x.good d = true) {i : Nat} (hi : i < x.l.length) : (x.l[i]).good (d + 1) = true := by
 rw [V.good_eq, Bool.and_eq_true, List.all_eq_true] at h
 exact h.2 _ (List.getElem_mem hi)
end Go.Proofs.YtjibdbnpkfghhaaGreatDoor
