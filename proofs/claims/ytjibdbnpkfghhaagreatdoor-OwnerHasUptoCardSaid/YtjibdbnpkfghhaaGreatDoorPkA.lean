/- Several texts in one. -/
import Derived.Test.YtjibdbnpkfghhaaGreatDoorRows
import Derived.WalkKit
import Derived.ProofKit
import Derived.OpenShut
import Derived.Below
import Derived.Lib.Hide
import Derived.Deep.QuietTactic
import Derived.BigQuiet
import Derived.Deep.LoopGhost
import Derived.Deep.Cut
import Derived.Deep.CutRange
import Derived.Deep.RegionWith
import Derived.Outline
import Derived.OneCell
import Derived.Deep.Light
import Derived.WalkSpells
import Derived.WalkLawsBesides
import Derived.Deep.RegionHeld3
import Derived.Lib.Replace
import Derived.Lib.AtoiAll
import Derived.Lib.ItoaNum
set_option linter.all false
/- Small laws on worlds that all walks of this seat share: 'Ext w w'': everything that was there is as it was. -/
namespace Go.Proofs.YtjibdbnpkfghhaaGreatDoor
open Go.RowKit

theorem Tryz.own : ownKnob Tryz.prog.godebug = none := by kernel_rfl
theorem Tryz.laidOut : laidOutB Tryz.prog = true := by kernel_rfl

/-- Everything that was there when the call began is as it was. -/
def Ext (w w' : World) : Prop := Below w.heap.size w w'

theorem Ext.refl (w : World) : Ext w w := Below.refl _ _
theorem Ext.size {a b : World} (h : Ext a b) : a.heap.size ≤ b.heap.size := Below.size h
theorem Ext.trans {a b c : World} (h : Ext a b) (k : Ext b c) : Ext a c := Below.trans h (Below.mono k h.size)
theorem Ext.drew {a b : World} (h : Ext a b) : Ext a b.drew := Below.drew h
theorem Ext.drewN {a b : World} (h : Ext a b) (n : Nat) : Ext a (b.drewN n) := below_drewN h n
theorem Ext.alloc {a b : World} (h : Ext a b) (o : Obj) : Ext a (b.alloc o) := Below.alloc h h.size o
theorem Ext.setCell {a b : World} (h : Ext a b) {p : Addr} (hp : a.heap.size ≤ p.block) (u : Value) : Ext a (b.setCell p u) := Below.setCell h hp u
theorem Ext.below {a b : World} (h : Ext a b) : Below a.heap.size a b := h

theorem cell_lt {w : World} {p : Addr} {v : Value} (h : w.cell? p = some v) : p.block < w.heap.size := by
  unfold World.cell? at h
  split at h
  · rename_i hb
    exact (Array.getElem?_eq_some_iff.1 hb).1
  · cases h

theorem Ext.cell {a b : World} (h : Ext a b) {p : Addr} {v : Value} (hv : a.cell? p = some v) : b.cell? p = some v := by
  rw [Below.cell h (cell_lt hv)]; exact hv
theorem Ext.cells {a b : World} (h : Ext a b) : ∀ p : Addr, p.block < a.heap.size → b.cell? p = a.cell? p := fun p hp => Below.cell h hp
theorem Ext.frozen {a b : World} (h : Ext a b) : ∀ p : Addr, p.block < a.heap.size → b.frozen? p = a.frozen? p := fun p hp => Below.frozen h hp

/-- The world under a new name, of which these facts alone are kept. -/
theorem gen_world {P : Program} {c : Code} {Q : Exit → Act → World → Prop} {a : Act} {W : World} (R : World → Prop) (h : R W) (k : ∀ wx, R wx → Code.wp P c Q a wx) : Code.wp P c Q a W := k W h
theorem bp_ret {P : Program} {fn : Func} {R : Ending → World → Prop} {v : Value} {tmps : Array Value} {w : World} (hr : (results fn tmps).run P w = .ok v w) (hR : R (.returned v) w) :
    bodyPost P fn R .ret { tmps := tmps, defers := [] } w := ⟨rfl, v, hr, hR⟩
theorem ret_bool {a b : Bool} (h : a = b) : Ending.returned (.bool a) = Ending.returned (.bool b) := by rw [h]
theorem vb {a b : Bool} (h : a = b) : Value.bool a = Value.bool b := by rw [h]
theorem ret_int {k : IntKind} {a b : Int} (h : a = b) : Ending.returned (.int k a) = Ending.returned (.int k b) := by rw [h]

theorem ext_facts {a b : World} (h : Ext a b) : (∀ k o, k < a.heap.size → b.cell? ⟨k, o, none⟩ = a.cell? ⟨k, o, none⟩) ∧ (∀ k o, k < a.heap.size → b.frozen? ⟨k, o, none⟩ = a.frozen? ⟨k, o, none⟩) ∧ a.heap.size ≤ b.heap.size :=
  ⟨fun _ _ hk => Below.cell (p := ⟨_, _, none⟩) h hk, fun _ _ hk => Below.frozen (p := ⟨_, _, none⟩) h hk, h.size⟩

/-- A block of the call's own, whole: its cells, none of them frozen. -/
def Box (w : World) (n : Nat) (vs : Array Value) (T : TypeId) : Prop := w.heap[n]? = some (.cells vs T (0, 0))
theorem Box.cells {w : World} {n : Nat} {vs : Array Value} {T : TypeId} (h : Box w n vs T) : ∀ i, w.cell? ⟨n, i, none⟩ = vs[i]? := by
  intro i; unfold Box at h; simp [World.cell?, h]
theorem Box.free {w : World} {n : Nat} {vs : Array Value} {T : TypeId} (h : Box w n vs T) : ∀ i, w.frozen? ⟨n, i, none⟩ = false := by
  intro i; unfold Box at h; simp [World.frozen?, h]
theorem Box.lt {w : World} {n : Nat} {vs : Array Value} {T : TypeId} (h : Box w n vs T) : n < w.heap.size := lt_of_block h
theorem Box.new (w : World) (vs : Array Value) (T : TypeId) {n : Nat} (e : n = w.heap.size) : Box (w.alloc (.cells vs T)) n vs T := by
  subst e
  show (w.heap.push _)[w.heap.size]? = _; simp
theorem Box.alloc {w : World} {n : Nat} {vs : Array Value} {T : TypeId} (h : Box w n vs T) (o : Obj) : Box (w.alloc o) n vs T := by
  have := h.lt; unfold Box at *; rw [Below.heap_alloc _ _ _ this]; exact h
theorem Box.drew {w : World} {n : Nat} {vs : Array Value} {T : TypeId} (h : Box w n vs T) : Box w.drew n vs T := h
theorem Box.ext {w w' : World} {n : Nat} {vs : Array Value} {T : TypeId} (e : Ext w w') (h : Box w n vs T) : Box w' n vs T := by
  have := h.lt; unfold Box at *; rw [Below.block e _ this]; exact h
theorem Box.other {w : World} {n : Nat} {vs : Array Value} {T : TypeId} (h : Box w n vs T) {p : Addr} (hp : n ≠ p.block) (u : Value) : Box (w.setCell p u) n vs T := by
  unfold Box at *; rw [Below.heap_setCell _ _ _ _ hp]; exact h
theorem Box.set {w : World} {n : Nat} {vs : Array Value} {T : TypeId} (h : Box w n vs T) (i : Nat) (u : Value) : Box (w.setCell ⟨n, i, none⟩ u) n (vs.setIfInBounds i u) T := by
  have hlt := h.lt
  unfold Box at *
  have h' : w.heap[n] = .cells vs T (0, 0) := by simpa [Array.getElem?_eq_getElem hlt] using h
  show (w.heap.modify n _)[n]? = _
  rw [Array.getElem?_eq_getElem (by simpa using hlt), Array.getElem_modify_self, h']
  rfl
theorem Box.to {w : World} {n : Nat} {vs vs' : Array Value} {T : TypeId} (h : Box w n vs T) (e : vs = vs') : Box w n vs' T := e ▸ h

/-- Shown by the one tactic. -/
theorem Xt {a b : World} (h : Ext a b := by with_reducible repeat (first | exact Ext.refl _ | assumption | apply Ext.drew | apply Ext.drewN | apply Ext.alloc | (refine Ext.setCell ?_ ?_ _; rotate_left; (focus (first | (simp; done) | (simp; omega) | omega))) | refine Ext.trans ?_ (by assumption))) : Ext a b := h
theorem Bxt {w : World} {n : Nat} {vs : Array Value} {T : TypeId} (h : Box w n vs T := by (with_reducible apply Box.to); (focus (with_reducible repeat (first | assumption | (apply Box.new; (focus (first | rfl | (first | (simp; done) | (simp; omega) | omega)))) | apply Box.set | (apply Box.other; rotate_left; (focus (first | (simp; done) | (simp; omega) | omega))) | apply Box.alloc | apply Box.drew | (apply Box.ext; (focus assumption))))); (first | rfl | (simp; done) | (go_light; simp [*]; done))) : Box w n vs T := h

/-- What lays a frame's slots out. -/
theorem rl : (∀ (a : Act) (d : Tmp) (v : Value), a.put (some d) v = { a with tmps := a.tmps.setIfInBounds d v }) ∧ (∀ (a : Act) (v : Value), a.put none v = a) ∧
    (∀ (α : Type) (xs : List α) (i : Nat) (v : α), xs.toArray.setIfInBounds i v = (xs.set i v).toArray) ∧ (∀ (α : Type) (a b : α) (r : List α), (a :: r).set 0 b = b :: r) ∧ (∀ (α : Type) (a b : α) (r : List α) (n : Nat), (a :: r).set (n + 1) b = a :: r.set n b) ∧
    (∀ (α : Type) (xs : List α) (i : Nat) (h : i < xs.toArray.size), xs.toArray[i]'h = xs[i]'(by simpa using h)) ∧ (∀ (α : Type) (a : α) (r : List α) (h : 0 < (a :: r).length), (a :: r)[0]'h = a) ∧ (∀ (α : Type) (a : α) (r : List α) (i : Nat) (h : i + 1 < (a :: r).length), (a :: r)[i + 1]'h = r[i]'(by simpa using h)) :=
  ⟨fun _ _ _ => rfl, fun _ _ => rfl, fun _ _ _ _ => by simp, fun _ _ _ _ => rfl, fun _ _ _ _ _ => rfl, fun _ _ _ _ => by simp, fun _ _ _ _ => rfl, fun _ _ _ _ _ => rfl⟩
end Go.Proofs.YtjibdbnpkfghhaaGreatDoor

/- Values: what a value of package json is, apart from memory; how it lies in memory. -/
namespace Go.Proofs.YtjibdbnpkfghhaaGreatDoor
open Go.RowKit

/-- A value, apart from memory. -/
inductive V where
  | mk (k n : Int) (s : ByteArray) (keys : List ByteArray) (l : List V)

def V.k : V → Int | .mk k _ _ _ _ => k
def V.n : V → Int | .mk _ n _ _ _ => n
def V.s : V → ByteArray | .mk _ _ s _ _ => s
def V.keys : V → List ByteArray | .mk _ _ _ ks _ => ks
def V.l : V → List V | .mk _ _ _ _ l => l
theorem V.eta (x : V) : V.mk x.k x.n x.s x.keys x.l = x := by cases x; rfl
@[simp] theorem V.k_mk (k n : Int) (s : ByteArray) (ks : List ByteArray) (l : List V) : (V.mk k n s ks l).k = k := rfl
@[simp] theorem V.n_mk (k n : Int) (s : ByteArray) (ks : List ByteArray) (l : List V) : (V.mk k n s ks l).n = n := rfl
@[simp] theorem V.s_mk (k n : Int) (s : ByteArray) (ks : List ByteArray) (l : List V) : (V.mk k n s ks l).s = s := rfl
@[simp] theorem V.keys_mk (k n : Int) (s : ByteArray) (ks : List ByteArray) (l : List V) : (V.mk k n s ks l).keys = ks := rfl
@[simp] theorem V.l_mk (k n : Int) (s : ByteArray) (ks : List ByteArray) (l : List V) : (V.mk k n s ks l).l = l := rfl

theorem V.ind {P : V → Prop} (h : ∀ x : V, (∀ y ∈ x.l, P y) → P x) (x : V) : P x :=
  V.rec (motive_1 := P) (motive_2 := fun l => ∀ y ∈ l, P y) (fun k n s ks l ih => h (.mk k n s ks l) ih) (fun y hy => by cases hy)
    (fun a l ha hl y hy => by rcases List.mem_cons.1 hy with rfl | hy; exact ha; exact hl y hy) x

/-- How many values there are in one, itself too. -/
def V.count : V → Nat | .mk _ _ _ _ l => 1 + go l
where go : List V → Nat
  | [] => 0
  | x :: r => V.count x + go r
theorem V.count_eq (x : V) : x.count = 1 + (x.l.map V.count).sum := by
  have h : ∀ l, V.count.go l = (l.map V.count).sum := by
    intro l; induction l with
    | nil => simp [V.count.go]
    | cons x r ih => simp [V.count.go, ih]
  cases x with | mk k n s ks l => simp [V.count, h]

def strsSize (ks : List ByteArray) : Nat := (ks.map fun k => k.size + 1).sum
/-- How much there is in one, letters too. -/
def V.size : V → Nat | .mk _ _ s ks l => 1 + s.size + strsSize ks + go l
where go : List V → Nat
  | [] => 0
  | x :: r => V.size x + go r
theorem V.size_eq (x : V) : x.size = 1 + x.s.size + strsSize x.keys + (x.l.map V.size).sum := by
  have h : ∀ l, V.size.go l = (l.map V.size).sum := by
    intro l; induction l with
    | nil => simp [V.size.go]
    | cons x r ih => simp [V.size.go, ih]
  cases x with | mk k n s ks l => simp [V.size, h]

theorem sum_ge {α : Type} (f : α → Nat) {x : α} {l : List α} (h : x ∈ l) : f x ≤ (l.map f).sum := by
  induction l with
  | nil => cases h
  | cons a r ih =>
    simp only [List.map_cons, List.sum_cons]
    rcases List.mem_cons.1 h with rfl | h
    · omega
    · have := ih h; omega
theorem sum_len {α : Type} (f : α → Nat) (hf : ∀ x, 1 ≤ f x) (l : List α) : l.length ≤ (l.map f).sum := by
  induction l with
  | nil => simp
  | cons a r ih => have := hf a; simp only [List.map_cons, List.sum_cons, List.length_cons]; omega
theorem V.size_pos (x : V) : 1 ≤ x.size := by rw [V.size_eq]; omega
theorem V.count_pos (x : V) : 1 ≤ x.count := by rw [V.count_eq]; omega
theorem V.size_mem {x y : V} (h : y ∈ x.l) : y.size < x.size := by rw [V.size_eq x]; have := sum_ge V.size h; omega
theorem V.size_item {x : V} {i : Nat} (h : i < x.l.length) : (x.l[i]).size < x.size := V.size_mem (List.getElem_mem h)
theorem V.len_l (x : V) : x.l.length < x.size := by rw [V.size_eq]; have := sum_len V.size V.size_pos x.l; omega
theorem V.len_keys (x : V) : x.keys.length < x.size := by
  rw [V.size_eq]; have := sum_len (fun k : ByteArray => k.size + 1) (fun _ => by omega) x.keys
  unfold strsSize; omega
theorem V.len_s (x : V) : x.s.size < x.size := by rw [V.size_eq]; omega
theorem V.len_key {x : V} {i : Nat} (h : i < x.keys.length) : (x.keys[i]).size < x.size := by
  rw [V.size_eq]; have := sum_ge (fun k : ByteArray => k.size + 1) (List.getElem_mem h)
  unfold strsSize; omega

/-- Texts lie behind a slice's address, in blocks of S. -/
def StrsIn (w : World) (S : Nat → Prop) (a : Option Addr) (ks : List ByteArray) : Prop :=
  ks = [] ∨ ∃ b o, a = some ⟨b, o, none⟩ ∧ S b ∧ ∀ i (h : i < ks.length), w.cell? ⟨b, o + i, none⟩ = some (.string ks[i])

/-- A slice's three words are a slice's. -/
def SlOk (a : Option Addr) (n c : Nat) : Prop := n ≤ c ∧ c ≤ maxLen ∧ (a = none → c = 0)
theorem SlOk.nil : SlOk none 0 0 := ⟨Nat.le_refl _, Nat.zero_le _, fun _ => rfl⟩
/-- A value lies in memory, in blocks of S: its keys and its items, where its two slices say. -/
def V.In (w : World) (S : Nat → Prop) : V → Option Addr → Nat → Option Addr → Nat → Prop
  | .mk _ _ _ ks l, ka, kc, la, lc => SlOk ka ks.length kc ∧ SlOk la l.length lc ∧ StrsIn w S ka ks ∧ rows l la
where rows : List V → Option Addr → Prop
  | [], _ => True
  | x :: r, p => ∃ b o ka kc la lc, p = some ⟨b, o, none⟩ ∧ S b ∧ (w.cell? ⟨b, o, none⟩ = some (.int .i64 x.k) ∧ w.cell? ⟨b, o + 1, none⟩ = some (.int .i64 x.n) ∧ w.cell? ⟨b, o + 2, none⟩ = some (.string x.s) ∧
      w.cell? ⟨b, o + 3, none⟩ = some (.slice ka x.keys.length kc) ∧ w.cell? ⟨b, o + 4, none⟩ = some (.slice la x.l.length lc)) ∧ V.In w S x ka kc la lc ∧ rows r (some ⟨b, o + 5, none⟩)

/-- A value's five cells, and what they lead to. -/
def V.Item (w : World) (S : Nat → Prop) (b o : Nat) (x : V) : Prop :=
  ∃ ka kc la lc, (w.cell? ⟨b, o, none⟩ = some (.int .i64 x.k) ∧ w.cell? ⟨b, o + 1, none⟩ = some (.int .i64 x.n) ∧ w.cell? ⟨b, o + 2, none⟩ = some (.string x.s) ∧
      w.cell? ⟨b, o + 3, none⟩ = some (.slice ka x.keys.length kc) ∧ w.cell? ⟨b, o + 4, none⟩ = some (.slice la x.l.length lc)) ∧ x.In w S ka kc la lc
/-- Values lie behind a slice's address. -/
def Rows (w : World) (S : Nat → Prop) (l : List V) (p : Option Addr) : Prop :=
  l = [] ∨ ∃ b o, p = some ⟨b, o, none⟩ ∧ S b ∧ ∀ i (h : i < l.length), V.Item w S b (o + i * 5) l[i]

theorem V.rows_iff (w : World) (S : Nat → Prop) (l : List V) (p : Option Addr) : V.In.rows w S l p ↔ Rows w S l p := by
  induction l generalizing p with
  | nil => simp [V.In.rows, Rows]
  | cons x r ih =>
    simp only [V.In.rows, ih]
    constructor
    · rintro ⟨b, o, ka, kc, la, lc, rfl, hS, hc, hin, hr⟩
      refine .inr ⟨b, o, rfl, hS, ?_⟩
      intro i hi
      match i with
      | 0 => simpa using ⟨ka, kc, la, lc, hc, hin⟩
      | i + 1 =>
        rcases hr with h | ⟨b', o', h, hS', hr⟩
        · subst h; simp at hi
        · simp only [Option.some.injEq, Addr.mk.injEq] at h
          obtain ⟨rfl, rfl, -⟩ := h
          have := hr i (by simpa using hi)
          rw [List.getElem_cons_succ, show o + (i + 1) * 5 = o + 5 + i * 5 from by omega]
          exact this
    · rintro (h | ⟨b, o, rfl, hS, hr⟩)
      · cases h
      · obtain ⟨ka, kc, la, lc, hc, hin⟩ := hr 0 (by simp)
        refine ⟨b, o, ka, kc, la, lc, rfl, hS, by simpa using hc, by simpa using hin, ?_⟩
        by_cases hn : r = []
        · exact .inl hn
        · refine .inr ⟨b, o + 5, rfl, hS, ?_⟩
          intro i hi
          have := hr (i + 1) (by simpa using hi)
          rw [List.getElem_cons_succ, show o + (i + 1) * 5 = o + 5 + i * 5 from by omega] at this
          exact this
theorem V.in_iff (w : World) (S : Nat → Prop) (x : V) (ka : Option Addr) (kc : Nat) (la : Option Addr) (lc : Nat) :
    x.In w S ka kc la lc ↔ SlOk ka x.keys.length kc ∧ SlOk la x.l.length lc ∧ StrsIn w S ka x.keys ∧ Rows w S x.l la := by
  cases x with | mk k n s ks l => simp only [V.In, V.rows_iff, V.keys_mk, V.l_mk]

/-- What S says of a block, that block is as it was. -/
def Kept (S : Nat → Prop) (w w' : World) : Prop := ∀ b, S b → b < w.heap.size → w'.heap[b]? = w.heap[b]?
theorem Kept.cell {S : Nat → Prop} {w w' : World} (h : Kept S w w') {p : Addr} {v : Value} (hS : S p.block) (hv : w.cell? p = some v) : w'.cell? p = some v := by
  have hb := cell_lt hv
  rw [World.cell?_of_block (h _ hS hb)]; exact hv
theorem Ext.kept {w w' : World} (h : Ext w w') (S : Nat → Prop) : Kept S w w' := fun b _ hb => Below.block h b hb
theorem Kept.mono {S T : Nat → Prop} {w w' : World} (h : Kept S w w') (hT : ∀ b, T b → S b) : Kept T w w' := fun b hb => h b (hT b hb)

theorem StrsIn.keep {S T : Nat → Prop} {w w' : World} {a : Option Addr} {ks : List ByteArray} (h : StrsIn w S a ks) (hk : Kept S w w') (hT : ∀ b, S b → b < w.heap.size → T b) : StrsIn w' T a ks := by
  rcases h with h | ⟨b, o, rfl, hS, hc⟩
  · exact .inl h
  · by_cases h0 : ks = []
    · exact .inl h0
    · have hlt : b < w.heap.size := cell_lt (hc 0 (by have := List.length_pos_iff.2 h0; omega))
      exact .inr ⟨b, o, rfl, hT b hS hlt, fun i hi => hk.cell hS (hc i hi)⟩
theorem V.In.keep {S T : Nat → Prop} {w w' : World} {x : V} {ka : Option Addr} {kc : Nat} {la : Option Addr} {lc : Nat} (h : x.In w S ka kc la lc) (hk : Kept S w w') (hT : ∀ b, S b → b < w.heap.size → T b) : x.In w' T ka kc la lc := by
  induction x using V.ind generalizing ka kc la lc with
  | h x ih =>
    rw [V.in_iff] at h ⊢
    obtain ⟨h1, h2, h3, h4⟩ := h
    refine ⟨h1, h2, h3.keep hk hT, ?_⟩
    rcases h4 with h4 | ⟨b, o, rfl, hS, hr⟩
    · exact .inl h4
    · by_cases h0 : x.l = []
      · exact .inl h0
      · have hlt : b < w.heap.size := by
          obtain ⟨_, _, _, _, hc, -⟩ := hr 0 (by have := List.length_pos_iff.2 h0; omega)
          exact cell_lt hc.1
        refine .inr ⟨b, o, rfl, hT b hS hlt, fun i hi => ?_⟩
        obtain ⟨ka, kc, la, lc, ⟨c0, c1, c2, c3, c4⟩, hin⟩ := hr i hi
        exact ⟨ka, kc, la, lc, ⟨hk.cell hS c0, hk.cell hS c1, hk.cell hS c2, hk.cell hS c3, hk.cell hS c4⟩, ih _ (List.getElem_mem hi) hin⟩
theorem V.Item.keep {S T : Nat → Prop} {w w' : World} {b o : Nat} {x : V} (h : V.Item w S b o x) (hS : S b) (hk : Kept S w w') (hT : ∀ b, S b → b < w.heap.size → T b) : V.Item w' T b o x := by
  obtain ⟨ka, kc, la, lc, ⟨c0, c1, c2, c3, c4⟩, hin⟩ := h
  exact ⟨ka, kc, la, lc, ⟨hk.cell hS c0, hk.cell hS c1, hk.cell hS c2, hk.cell hS c3, hk.cell hS c4⟩, hin.keep hk hT⟩
theorem Rows.keep {S T : Nat → Prop} {w w' : World} {l : List V} {p : Option Addr} (h : Rows w S l p) (hk : Kept S w w') (hT : ∀ b, S b → b < w.heap.size → T b) : Rows w' T l p := by
  rcases h with h | ⟨b, o, rfl, hS, hr⟩
  · exact .inl h
  · by_cases h0 : l = []
    · exact .inl h0
    · have hlt : b < w.heap.size := by
        obtain ⟨_, _, _, _, hc, -⟩ := hr 0 (by have := List.length_pos_iff.2 h0; omega)
        exact cell_lt hc.1
      exact .inr ⟨b, o, rfl, hT b hS hlt, fun i hi => (hr i hi).keep hS hk hT⟩

theorem StrsIn.ext {S : Nat → Prop} {w w' : World} {a : Option Addr} {ks : List ByteArray} (h : StrsIn w S a ks) (e : Ext w w') : StrsIn w' S a ks := h.keep (e.kept S) (fun _ h _ => h)
theorem V.In.ext {S : Nat → Prop} {w w' : World} {x : V} {ka : Option Addr} {kc : Nat} {la : Option Addr} {lc : Nat} (h : x.In w S ka kc la lc) (e : Ext w w') : x.In w' S ka kc la lc := h.keep (e.kept S) (fun _ h _ => h)
theorem Rows.ext {S : Nat → Prop} {w w' : World} {l : List V} {p : Option Addr} (h : Rows w S l p) (e : Ext w w') : Rows w' S l p := h.keep (e.kept S) (fun _ h _ => h)
theorem V.Item.ext {S : Nat → Prop} {w w' : World} {b o : Nat} {x : V} (h : V.Item w S b o x) (e : Ext w w') : V.Item w' S b o x := by
  obtain ⟨ka, kc, la, lc, ⟨c0, c1, c2, c3, c4⟩, hin⟩ := h
  exact ⟨ka, kc, la, lc, ⟨e.cell c0, e.cell c1, e.cell c2, e.cell c3, e.cell c4⟩, hin.ext e⟩
theorem V.In.mono {S T : Nat → Prop} {w : World} {x : V} {ka : Option Addr} {kc : Nat} {la : Option Addr} {lc : Nat} (h : x.In w S ka kc la lc) (hT : ∀ b, S b → b < w.heap.size → T b) : x.In w T ka kc la lc := h.keep (fun _ _ _ => rfl) hT

/-- An item of a value that lies in memory. -/
theorem V.In.item {S : Nat → Prop} {w : World} {x : V} {ka : Option Addr} {kc : Nat} {la : Option Addr} {lc : Nat} (h : x.In w S ka kc la lc) {i : Nat} (hi : i < x.l.length) :
    ∃ b o, la = some ⟨b, o, none⟩ ∧ S b ∧ V.Item w S b (o + i * 5) x.l[i] := by
  rw [V.in_iff] at h
  rcases h.2.2.2 with h | ⟨b, o, rfl, hS, hr⟩
  · rw [h] at hi; simp at hi
  · exact ⟨b, o, rfl, hS, hr i hi⟩
theorem V.In.key {S : Nat → Prop} {w : World} {x : V} {ka : Option Addr} {kc : Nat} {la : Option Addr} {lc : Nat} (h : x.In w S ka kc la lc) {i : Nat} (hi : i < x.keys.length) :
    ∃ b o, ka = some ⟨b, o, none⟩ ∧ S b ∧ w.cell? ⟨b, o + i, none⟩ = some (.string x.keys[i]) := by
  rw [V.in_iff] at h
  rcases h.2.2.1 with h | ⟨b, o, rfl, hS, hr⟩
  · rw [h] at hi; simp at hi
  · exact ⟨b, o, rfl, hS, hr i hi⟩

/-- A value's five cells, as one. -/
abbrev V.val (x : V) (ka : Option Addr) (kc : Nat) (la : Option Addr) (lc : Nat) : Value := .agg #[.int .i64 x.k, .int .i64 x.n, .string x.s, .slice ka x.keys.length kc, .slice la x.l.length lc]

/-- S, and what is new. -/
def Plus (S : Nat → Prop) (w : World) : Nat → Prop := fun b => S b ∨ w.heap.size ≤ b
/-- The call gives a value, in memory of S or its own. -/
def RetV (S : Nat → Prop) (r : V) (w : World) (e : Ending) (w' : World) : Prop :=
  ∃ ka kc la lc, e = .returned (r.val ka kc la lc) ∧ r.In w' (Plus S w) ka kc la lc ∧ Ext w w'
/-- The call gives a value and one thing more. -/
def RetV2 (S : Nat → Prop) (r : V) (u : Value) (w : World) (e : Ending) (w' : World) : Prop :=
  ∃ ka kc la lc, e = .returned (.tuple #[r.val ka kc la lc, u]) ∧ r.In w' (Plus S w) ka kc la lc ∧ Ext w w'

end Go.Proofs.YtjibdbnpkfghhaaGreatDoor

/- Plain functions of package json: what a good value is, likeness, members. No program in sight. -/
namespace Go.Proofs.YtjibdbnpkfghhaaGreatDoor
open Go.RowKit

def ltS (a b : ByteArray) : Bool := Op.bytesLess a.toList b.toList
def plainB (s : ByteArray) : Bool := (s.data.toList.all fun c => decide ((c.toNat : Int) < 128)) && decide (s.size ≤ 60)
/-- Keys: each plain, each above the one ahead of it. -/
def keysB (ks : List ByteArray) : Bool := decide (∀ i, (h : i < ks.length) → plainB ks[i] = true ∧ (0 < i → ltS (ks[i - 1]'(by omega)) ks[i] = true))
def g1 (d k : Int) : Bool := decide (12 < d ∨ k < 0 ∨ 5 < k)
def g2 (k n : Int) (s : ByteArray) (lk ll : Nat) : Bool := decide ((k ≠ 1 ∧ k ≠ 2 ∧ n ≠ 0) ∨ (k ≠ 3 ∧ s.toList ≠ []) ∨ (k ≠ 5 ∧ 0 < lk) ∨ (k < 4 ∧ 0 < ll))
def g3 (k n : Int) (s : ByteArray) : Bool := decide ((k = 1 ∧ n ≠ 0 ∧ n ≠ 1) ∨ n < -9007199254740992 ∨ 9007199254740992 < n) || !plainB s
def g4 (k : Int) (lk ll : Nat) : Bool := decide (k = 5 ∧ lk ≠ ll)
def V.flat (d : Int) (x : V) : Bool := !g1 d x.k && !g2 x.k x.n x.s x.keys.length x.l.length && !g3 x.k x.n x.s && !g4 x.k x.keys.length x.l.length && keysB x.keys

/-- Is a value one, at that depth? -/
def V.good : V → Int → Bool
  | .mk k n s ks l, d => V.flat d (.mk k n s ks l) && go l (d + 1)
where go : List V → Int → Bool
  | [], _ => true
  | x :: r, d => V.good x d && go r d
theorem V.good_go (l : List V) (d : Int) : V.good.go l d = l.all fun x => x.good d := by
  induction l with
  | nil => simp [V.good.go]
  | cons x r ih => simp [V.good.go, ih]
theorem V.good_eq (x : V) (d : Int) : x.good d = (x.flat d && x.l.all fun y => y.good (d + 1)) := by
  cases x with | mk k n s ks l => rw [V.good, V.good_go]; rfl
/-- Is a value one? -/
def V.fine (x : V) : Bool := x.good 1 && decide (x.count ≤ 120)

theorem V.count_le (x : V) : x.count ≤ x.size := by
  induction x using V.ind with
  | h x ih =>
    rw [V.count_eq, V.size_eq]
    have : (x.l.map V.count).sum ≤ (x.l.map V.size).sum := by
      generalize x.l = l at *
      induction l with
      | nil => simp
      | cons a r ih2 =>
        simp only [List.map_cons, List.sum_cons]
        have h1 := ih a (by simp)
        have h2 := ih2 (fun y hy => ih y (by simp [hy]))
        omega
    omega
theorem V.count_item {x : V} {i : Nat} (h : i < x.l.length) : (x.l[i]).count < x.count := by
  rw [V.count_eq x]; have := sum_ge V.count (List.getElem_mem h); omega

theorem sum_take {α : Type} (f : α → Nat) (l : List α) {k : Nat} (h : k < l.length) : ((l.take (k + 1)).map f).sum = ((l.take k).map f).sum + f l[k] := by
  rw [List.take_succ_eq_append_getElem h]; simp only [List.map_append, List.map_cons, List.map_nil, List.sum_append, List.sum_cons, List.sum_nil, Nat.add_zero]
theorem sum_take_le {α : Type} (f : α → Nat) (l : List α) (k : Nat) : ((l.take k).map f).sum ≤ (l.map f).sum := by
  induction l generalizing k with
  | nil => simp
  | cons a r ih =>
    cases k with
    | zero => simp
    | succ k => simp only [List.take_succ_cons, List.map_cons, List.sum_cons]; have := ih k; omega
theorem all_take {α : Type} (f : α → Bool) (l : List α) {k : Nat} (h : k < l.length) (h0 : (l.take k).all f = true) (h1 : f l[k] = true) : (l.take (k + 1)).all f = true := by
  rw [List.take_succ_eq_append_getElem h]; simp only [List.all_append, List.all_cons, List.all_nil, Bool.and_true, Bool.and_eq_true]; exact ⟨h0, h1⟩
theorem all_bad {α : Type} (f : α → Bool) (l : List α) {k : Nat} (h : k < l.length) (h1 : f l[k] = false) : l.all f = false := by
  simp only [List.all_eq_false]; exact ⟨l[k], List.getElem_mem h, by simp [h1]⟩

/-- Are two values alike? -/
def V.same : V → V → Bool
  | .mk k n s ks l, y => decide (k = y.k ∧ n = y.n ∧ s.toList = y.s.toList ∧ ks.map ByteArray.toList = y.keys.map ByteArray.toList ∧ l.length = y.l.length) && go l y.l
where go : List V → List V → Bool
  | [], _ => true
  | _, [] => true
  | x :: r, y :: t => V.same x y && go r t

/-- What a value has by a key: which, of its items. -/
def V.find (x : V) (key : ByteArray) : Option Nat := if x.k = 5 ∧ x.keys.length = x.l.length then x.keys.findIdx? fun k => decide (k.toList = key.toList) else none
def V.zero : V := .mk 0 0 ⟨#[]⟩ [] []
def V.member (x : V) (key : ByteArray) : Option V := (x.find key).bind fun i => x.l[i]?

end Go.Proofs.YtjibdbnpkfghhaaGreatDoor

/- The order of texts; keys that rise; where a key stands among them. No program in sight. -/
namespace Go.Proofs.YtjibdbnpkfghhaaGreatDoor

theorem bl_irrefl (a : List UInt8) : Op.bytesLess a a = false := by
  induction a with
  | nil => rfl
  | cons x a ih => simp [Op.bytesLess, ih]
theorem bl_trans (a : List UInt8) : ∀ b c, Op.bytesLess a b = true → Op.bytesLess b c = true → Op.bytesLess a c = true := by
  induction a with
  | nil =>
    intro b c h1 h2
    cases b with
    | nil => simp [Op.bytesLess] at h1
    | cons y b => cases c with
      | nil => simp [Op.bytesLess] at h2
      | cons z c => simp [Op.bytesLess]
  | cons x a ih =>
    intro b c h1 h2
    cases b with
    | nil => simp [Op.bytesLess] at h1
    | cons y b => cases c with
      | nil => simp [Op.bytesLess] at h2
      | cons z c =>
        simp only [Op.bytesLess, Bool.or_eq_true, decide_eq_true_eq, Bool.and_eq_true, beq_iff_eq] at h1 h2 ⊢
        rcases h1 with h1 | ⟨rfl, h1⟩
        · rcases h2 with h2 | ⟨rfl, h2⟩
          · exact .inl (UInt8.lt_trans h1 h2)
          · exact .inl h1
        · rcases h2 with h2 | ⟨rfl, h2⟩
          · exact .inl h2
          · exact .inr ⟨rfl, ih _ _ h1 h2⟩
theorem bl_tri (a : List UInt8) : ∀ b, Op.bytesLess a b = true ∨ a = b ∨ Op.bytesLess b a = true := by
  induction a with
  | nil =>
    intro b
    cases b with
    | nil => exact .inr (.inl rfl)
    | cons y b => exact .inl rfl
  | cons x a ih =>
    intro b
    cases b with
    | nil => exact .inr (.inr rfl)
    | cons y b =>
      simp only [Op.bytesLess, Bool.or_eq_true, decide_eq_true_eq, Bool.and_eq_true, beq_iff_eq, List.cons.injEq]
      rcases Nat.lt_trichotomy x.toNat y.toNat with h | h | h
      · exact .inl (.inl (UInt8.lt_iff_toNat_lt.2 h))
      · have e : x = y := UInt8.toNat_inj.1 h
        subst e
        rcases ih b with h | h | h
        · exact .inl (.inr ⟨rfl, h⟩)
        · exact .inr (.inl ⟨rfl, h⟩)
        · exact .inr (.inr (.inr ⟨rfl, h⟩))
      · exact .inr (.inr (.inl (UInt8.lt_iff_toNat_lt.2 h)))
theorem bytes_ext {a b : ByteArray} (h : a.toList = b.toList) : a = b := by
  rw [ByteArray.toList_eq, ByteArray.toList_eq] at h
  obtain ⟨⟨a⟩⟩ := a; obtain ⟨⟨b⟩⟩ := b
  simp only at h; subst h; rfl
theorem ltS_irrefl (a : ByteArray) : ltS a a = false := bl_irrefl _
theorem ltS_trans {a b c : ByteArray} (h1 : ltS a b = true) (h2 : ltS b c = true) : ltS a c = true := bl_trans _ _ _ h1 h2
theorem ltS_tri (a b : ByteArray) : ltS a b = true ∨ a = b ∨ ltS b a = true := by
  rcases bl_tri a.toList b.toList with h | h | h
  · exact .inl h
  · exact .inr (.inl (bytes_ext h))
  · exact .inr (.inr h)
theorem ltS_ne {a b : ByteArray} (h : ltS a b = true) : a ≠ b := by rintro rfl; rw [ltS_irrefl] at h; cases h
theorem ltS_asymm {a b : ByteArray} (h : ltS a b = true) : ltS b a = false := by
  cases h2 : ltS b a with
  | false => rfl
  | true => have := ltS_trans h h2; rw [ltS_irrefl] at this; cases this

/-- Keys that rise. -/
abbrev Rises (ks : List ByteArray) : Prop := ks.Pairwise fun a b => ltS a b = true
theorem keysB_iff (ks : List ByteArray) : keysB ks = true ↔ (∀ k ∈ ks, plainB k = true) ∧ Rises ks := by
  unfold keysB
  rw [decide_eq_true_eq]
  constructor
  · intro h
    refine ⟨?_, ?_⟩
    · intro k hk
      obtain ⟨i, hi, rfl⟩ := List.getElem_of_mem hk
      exact (h i hi).1
    · rw [Rises, List.pairwise_iff_getElem]
      intro i j hi hj hij
      induction j with
      | zero => omega
      | succ j ih =>
        have h1 := (h (j + 1) hj).2 (by omega)
        simp only [Nat.add_sub_cancel] at h1
        by_cases e : i = j
        · subst e; exact h1
        · exact ltS_trans (ih (by omega) (by omega)) h1
  · rintro ⟨h1, h2⟩ i hi
    refine ⟨h1 _ (List.getElem_mem hi), fun h0 => ?_⟩
    rw [Rises, List.pairwise_iff_getElem] at h2
    exact h2 (i - 1) i (by omega) hi (by omega)

/-- Where a key stands, or would. -/
def posOf (ks : List ByteArray) (key : ByteArray) : Nat := (ks.takeWhile fun k => ltS k key).length
theorem posOf_le (ks : List ByteArray) (key : ByteArray) : posOf ks key ≤ ks.length := by
  unfold posOf
  induction ks with
  | nil => simp
  | cons k r ih => simp only [List.takeWhile_cons]; split <;> simp <;> omega
theorem posOf_spec (ks : List ByteArray) (key : ByteArray) : (∀ i, (h : i < ks.length) → i < posOf ks key → ltS ks[i] key = true) ∧ (∀ h : posOf ks key < ks.length, ltS ks[posOf ks key] key = false) := by
  induction ks with
  | nil => exact ⟨fun i h => by simp at h, fun h => by simp at h⟩
  | cons k r ih =>
    by_cases hk : ltS k key = true
    · have e : posOf (k :: r) key = posOf r key + 1 := by simp [posOf, hk]
      refine ⟨?_, ?_⟩
      · intro i hi hp
        cases i with
        | zero => simpa using hk
        | succ i => simpa using ih.1 i (by simpa using hi) (by omega)
      · intro h
        simp only [e] at h ⊢
        simpa using ih.2 (by simpa using h)
    · have hk : ltS k key = false := by simpa using hk
      have e : posOf (k :: r) key = 0 := by simp [posOf, hk]
      refine ⟨?_, ?_⟩
      · intro i hi hp; omega
      · intro h
        simp only [e]
        simpa using hk
theorem posOf_below {ks : List ByteArray} {key : ByteArray} {i : Nat} (hl : i < ks.length) (h : i < posOf ks key) : ltS ks[i] key = true := (posOf_spec ks key).1 i hl h
theorem posOf_at {ks : List ByteArray} {key : ByteArray} (h : posOf ks key < ks.length) : ltS ks[posOf ks key] key = false := (posOf_spec ks key).2 h
theorem posOf_unique {ks : List ByteArray} {key : ByteArray} {p : Nat} (hp : p ≤ ks.length) (h1 : ∀ i, (h : i < p) → ltS (ks[i]'(by omega)) key = true) (h2 : (h : p < ks.length) → ltS ks[p] key = false) : p = posOf ks key := by
  induction ks generalizing p with
  | nil => simp at hp; simp [posOf, hp]
  | cons k r ih =>
    cases p with
    | zero =>
      have := h2 (by simp)
      simp only [List.getElem_cons_zero] at this
      simp [posOf, this]
    | succ p =>
      have h0 := h1 0 (by omega)
      simp only [List.getElem_cons_zero] at h0
      have := ih (p := p) (by simpa using hp) (fun i hi => by have := h1 (i + 1) (by omega); simpa using this) (fun h => by have := h2 (by simpa using h); simpa using this)
      simp only [posOf, List.takeWhile_cons, h0, if_true, List.length_cons]
      rw [← posOf]
      omega
end Go.Proofs.YtjibdbnpkfghhaaGreatDoor

/- Objects and lists, apart from memory: a member put, a member taken away; a value that is sound at some depth; how great it may be. No program in sight. -/
namespace Go.Proofs.YtjibdbnpkfghhaaGreatDoor

/-- Is a key there? Where it would stand, it stands. -/
def hasB (ks : List ByteArray) (key : ByteArray) : Bool := match ks[posOf ks key]? with | some k => decide (k.toList = key.toList) | none => false
theorem hasB_iff (ks : List ByteArray) (key : ByteArray) : hasB ks key = true ↔ ks[posOf ks key]? = some key := by
  unfold hasB
  cases h : ks[posOf ks key]? with
  | none => simp
  | some k =>
    simp only [decide_eq_true_eq, Option.some.injEq]
    exact ⟨fun h => bytes_ext h, fun h => by rw [h]⟩
theorem hasB_not {ks : List ByteArray} {key : ByteArray} (h : hasB ks key = false) : ks[posOf ks key]? ≠ some key := fun e => by rw [(hasB_iff _ _).2 e] at h; cases h
theorem hasB_lt {ks : List ByteArray} {key : ByteArray} (h : hasB ks key = true) : posOf ks key < ks.length := by
  have := (hasB_iff _ _).1 h
  exact (List.getElem?_eq_some_iff.1 this).1
theorem hasB_at {ks : List ByteArray} {key : ByteArray} (h : hasB ks key = true) : ks[posOf ks key]'(hasB_lt h) = key := by
  have := (hasB_iff _ _).1 h
  exact (List.getElem?_eq_some_iff.1 this).2

theorem rises_get {ks : List ByteArray} (h : Rises ks) {i j : Nat} (hi : i < ks.length) (hj : j < ks.length) (hij : i < j) : ltS ks[i] ks[j] = true := (List.pairwise_iff_getElem.1 h) i j hi hj hij
theorem rises_ne {ks : List ByteArray} (h : Rises ks) {i j : Nat} (hi : i < ks.length) (hj : j < ks.length) (hij : i ≠ j) : ks[i] ≠ ks[j] := by
  rcases Nat.lt_or_gt_of_ne hij with h1 | h1
  · exact ltS_ne (rises_get h hi hj h1)
  · exact fun e => ltS_ne (rises_get h hj hi h1) e.symm
/-- Of keys that rise, those behind the place of a key are not below it. -/
theorem pos_above {ks : List ByteArray} (h : Rises ks) {key : ByteArray} {i : Nat} (hi : i < ks.length) (hp : posOf ks key ≤ i) : ltS ks[i] key = false := by
  by_cases e : posOf ks key = i
  · subst e; exact posOf_at hi
  · have h1 := posOf_at (ks := ks) (key := key) (by omega)
    have h2 := rises_get h (show posOf ks key < ks.length by omega) hi (by omega)
    cases h3 : ltS ks[i] key with
    | false => rfl
    | true => rw [ltS_trans h2 h3] at h1; cases h1
theorem pos_of_at {ks : List ByteArray} (h : Rises ks) {key : ByteArray} {i : Nat} (hi : i < ks.length) (he : ks[i] = key) : posOf ks key = i := by
  symm
  refine posOf_unique (by omega) (fun j hj => ?_) (fun _ => ?_)
  · rw [← he]; exact rises_get h (by omega) hi hj
  · rw [he]; exact ltS_irrefl _
theorem has_of_mem {ks : List ByteArray} (h : Rises ks) {key : ByteArray} (hm : key ∈ ks) : hasB ks key = true := by
  obtain ⟨i, hi, he⟩ := List.getElem_of_mem hm
  rw [hasB_iff, pos_of_at h hi he, List.getElem?_eq_getElem hi, he]
theorem mem_of_has {ks : List ByteArray} {key : ByteArray} (h : hasB ks key = true) : key ∈ ks := by
  have := hasB_at h
  rw [← this]; exact List.getElem_mem _
/-- A key behind its place is above it, if it is not there. -/
theorem pos_gt {ks : List ByteArray} (h : Rises ks) {key : ByteArray} (hn : hasB ks key = false) {i : Nat} (hi : i < ks.length) (hp : posOf ks key ≤ i) : ltS key ks[i] = true := by
  rcases ltS_tri ks[i] key with h1 | h1 | h1
  · rw [pos_above h hi hp] at h1; cases h1
  · have := has_of_mem h (h1 ▸ List.getElem_mem hi)
    rw [hn] at this; cases this
  · exact h1

/-- An object with a member put. -/
def V.put (x : V) (key : ByteArray) (y : V) : V :=
  if x.k = 5 ∧ x.keys.length = x.l.length then
    if hasB x.keys key = true then .mk x.k x.n x.s x.keys (x.l.set (posOf x.keys key) y)
    else .mk x.k x.n x.s (x.keys.take (posOf x.keys key) ++ key :: x.keys.drop (posOf x.keys key)) (x.l.take (posOf x.keys key) ++ y :: x.l.drop (posOf x.keys key))
  else x
/-- An object without a member. -/
def V.del (x : V) (key : ByteArray) : V :=
  if x.k = 5 ∧ x.keys.length = x.l.length then
    if hasB x.keys key = true then .mk x.k x.n x.s (x.keys.take (posOf x.keys key) ++ x.keys.drop (posOf x.keys key + 1)) (x.l.take (posOf x.keys key) ++ x.l.drop (posOf x.keys key + 1))
    else x
  else x

theorem rises_insert {ks : List ByteArray} (h : Rises ks) {key : ByteArray} (hn : hasB ks key = false) : Rises (ks.take (posOf ks key) ++ key :: ks.drop (posOf ks key)) := by
  unfold Rises
  rw [List.pairwise_append]
  refine ⟨h.sublist (List.take_sublist _ _), ?_, ?_⟩
  · rw [List.pairwise_cons]
    refine ⟨fun a ha => ?_, h.sublist (List.drop_sublist _ _)⟩
    obtain ⟨i, hi, rfl⟩ := List.getElem_of_mem ha
    rw [List.getElem_drop]
    exact pos_gt h hn (by simp at hi; omega) (by omega)
  · intro a ha b hb
    obtain ⟨i, hi, rfl⟩ := List.getElem_of_mem ha
    have hi' : i < posOf ks key := by simp at hi; omega
    have hl := posOf_le ks key
    rw [List.getElem_take]
    have h1 := posOf_below (ks := ks) (key := key) (i := i) (by omega) hi'
    rcases List.mem_cons.1 hb with rfl | hb
    · exact h1
    · obtain ⟨j, hj, rfl⟩ := List.getElem_of_mem hb
      rw [List.getElem_drop]
      exact ltS_trans h1 (pos_gt h hn (by simp at hj; omega) (by omega))
theorem rises_erase {ks : List ByteArray} (h : Rises ks) (p : Nat) : Rises (ks.take p ++ ks.drop (p + 1)) := by
  refine List.Pairwise.sublist ?_ h
  have h1 : ks.take p ++ ks.drop p = ks := List.take_append_drop _ _
  have h2 : (ks.drop (p + 1)).Sublist (ks.drop p) := by
    rw [← List.drop_drop]; exact List.drop_sublist _ _
  have := (List.Sublist.refl (ks.take p)).append h2
  rw [h1] at this
  exact this

/-- The parts of what is put. -/
theorem put_yes {x : V} {key : ByteArray} {y : V} (h : x.k = 5 ∧ x.keys.length = x.l.length) (hb : hasB x.keys key = true) : x.put key y = .mk x.k x.n x.s x.keys (x.l.set (posOf x.keys key) y) := by
  unfold V.put; rw [if_pos h, if_pos hb]
theorem put_new {x : V} {key : ByteArray} {y : V} (h : x.k = 5 ∧ x.keys.length = x.l.length) (hb : hasB x.keys key = false) : x.put key y = .mk x.k x.n x.s (x.keys.take (posOf x.keys key) ++ key :: x.keys.drop (posOf x.keys key)) (x.l.take (posOf x.keys key) ++ y :: x.l.drop (posOf x.keys key)) := by
  unfold V.put; rw [if_pos h, if_neg (by rw [hb]; decide)]
theorem put_not {x : V} {key : ByteArray} {y : V} (h : ¬ (x.k = 5 ∧ x.keys.length = x.l.length)) : x.put key y = x := by
  unfold V.put; rw [if_neg h]
theorem del_yes {x : V} {key : ByteArray} (h : x.k = 5 ∧ x.keys.length = x.l.length) (hb : hasB x.keys key = true) : x.del key = .mk x.k x.n x.s (x.keys.take (posOf x.keys key) ++ x.keys.drop (posOf x.keys key + 1)) (x.l.take (posOf x.keys key) ++ x.l.drop (posOf x.keys key + 1)) := by
  unfold V.del; rw [if_pos h, if_pos hb]
theorem del_no {x : V} {key : ByteArray} (hb : hasB x.keys key = false) : x.del key = x := by
  unfold V.del; split
  · rw [if_neg (by rw [hb]; decide)]
  · rfl
theorem del_not {x : V} {key : ByteArray} (h : ¬ (x.k = 5 ∧ x.keys.length = x.l.length)) : x.del key = x := by
  unfold V.del; rw [if_neg h]

theorem sum_insert {α : Type} (f : α → Nat) (l : List α) (p : Nat) (a : α) : ((l.take p ++ a :: l.drop p).map f).sum = (l.map f).sum + f a := by
  have : (l.map f).sum = ((l.take p ++ l.drop p).map f).sum := by rw [List.take_append_drop]
  rw [this]
  simp only [List.map_append, List.map_cons, List.sum_append, List.sum_cons]
  omega
theorem sum_erase {α : Type} (f : α → Nat) (l : List α) (p : Nat) : ((l.take p ++ l.drop (p + 1)).map f).sum ≤ (l.map f).sum := by
  have : (l.map f).sum = ((l.take p ++ l.drop p).map f).sum := by rw [List.take_append_drop]
  rw [this]
  have h2 : ((l.drop (p + 1)).map f).sum ≤ ((l.drop p).map f).sum := by
    by_cases h : p < l.length
    · rw [List.drop_eq_getElem_cons h]; simp only [List.map_cons, List.sum_cons]; omega
    · rw [List.drop_of_length_le (by omega)]; simp
  simp only [List.map_append, List.sum_append]
  omega
theorem sum_set {α : Type} (f : α → Nat) (l : List α) (p : Nat) (a : α) : ((l.set p a).map f).sum ≤ (l.map f).sum + f a := by
  induction l generalizing p with
  | nil => simp
  | cons b r ih =>
    cases p with
    | zero => simp only [List.set_cons_zero, List.map_cons, List.sum_cons]; omega
    | succ p => have := ih p; simp only [List.set_cons_succ, List.map_cons, List.sum_cons]; omega
theorem put_size (x : V) (key : ByteArray) (y : V) : (x.put key y).size ≤ x.size + key.size + 1 + y.size := by
  by_cases h : x.k = 5 ∧ x.keys.length = x.l.length
  · by_cases hb : hasB x.keys key = true
    · rw [put_yes h hb, V.size_eq, V.size_eq x]
      have := sum_set V.size x.l (posOf x.keys key) y
      simp only [V.s_mk, V.keys_mk, V.l_mk]; omega
    · rw [put_new h (by simpa using hb), V.size_eq, V.size_eq x]
      have h1 := sum_insert V.size x.l (posOf x.keys key) y
      have h2 := sum_insert (fun k : ByteArray => k.size + 1) x.keys (posOf x.keys key) key
      simp only [V.s_mk, V.keys_mk, V.l_mk, strsSize] at *; omega
  · rw [put_not h]; omega
theorem del_size (x : V) (key : ByteArray) : (x.del key).size ≤ x.size := by
  by_cases h : x.k = 5 ∧ x.keys.length = x.l.length
  · by_cases hb : hasB x.keys key = true
    · rw [del_yes h hb, V.size_eq, V.size_eq x]
      have h1 := sum_erase V.size x.l (posOf x.keys key)
      have h2 := sum_erase (fun k : ByteArray => k.size + 1) x.keys (posOf x.keys key)
      simp only [V.s_mk, V.keys_mk, V.l_mk, strsSize] at *; omega
    · rw [del_no (by simpa using hb)]; omega
  · rw [del_not h]; omega

/-- A value that is good at some depth: its shape is right all the way down. -/
def V.sound (x : V) : Prop := ∃ d, x.good d = true
theorem good_mono {x : V} {d e : Int} (h : x.good d = true) (hde : e ≤ d) : x.good e = true := by
  induction x using V.ind generalizing d e with
  | h x ih =>
    rw [V.good_eq, Bool.and_eq_true, List.all_eq_true] at h ⊢
    refine ⟨?_, fun y hy => ih y hy (h.2 y hy) (by omega)⟩
    have h1 := h.1
    simp only [V.flat, Bool.and_eq_true, Bool.not_eq_true', g1, decide_eq_false_iff_not] at h1 ⊢
    obtain ⟨⟨⟨⟨h1, h2⟩, h3⟩, h4⟩, h5⟩ := h1
    exact ⟨⟨⟨⟨by omega, h2⟩, h3⟩, h4⟩, h5⟩
structure Flat (x : V) : Prop where
  k0 : 0 ≤ x.k
  k5 : x.k ≤ 5
  n0 : x.k ≠ 1 → x.k ≠ 2 → x.n = 0
  s0 : x.k ≠ 3 → x.s.toList = []
  ks0 : x.k ≠ 5 → x.keys = []
  l0 : x.k < 4 → x.l = []
  n1 : x.k = 1 → x.n = 0 ∨ x.n = 1
  nlo : -9007199254740992 ≤ x.n
  nhi : x.n ≤ 9007199254740992
  sp : plainB x.s = true
  len : x.k = 5 → x.keys.length = x.l.length
  kp : ∀ k ∈ x.keys, plainB k = true
  rise : Rises x.keys
theorem flat_of {x : V} {d : Int} (h : x.flat d = true) : Flat x ∧ d ≤ 12 := by
  simp only [V.flat, Bool.and_eq_true, Bool.not_eq_true', g1, g2, g3, g4, decide_eq_false_iff_not, Bool.or_eq_false_iff, Bool.not_eq_false'] at h
  obtain ⟨⟨⟨⟨h1, h2⟩, h3, hp⟩, h4⟩, h5⟩ := h
  obtain ⟨hk, hr⟩ := (keysB_iff _).1 h5
  refine ⟨⟨by omega, by omega, fun a b => ?_, fun a => ?_, fun a => ?_, fun a => ?_, fun a => ?_, by omega, by omega, hp, fun a => ?_, hk, hr⟩, by omega⟩
  · by_cases e : x.n = 0
    · exact e
    · exact absurd (.inl ⟨a, b, e⟩) h2
  · by_cases e : x.s.toList = []
    · exact e
    · exact absurd (.inr (.inl ⟨a, e⟩)) h2
  · by_cases e : 0 < x.keys.length
    · exact absurd (.inr (.inr (.inl ⟨a, e⟩))) h2
    · exact List.eq_nil_of_length_eq_zero (by omega)
  · by_cases e : 0 < x.l.length
    · exact absurd (.inr (.inr (.inr ⟨a, e⟩))) h2
    · exact List.eq_nil_of_length_eq_zero (by omega)
  · omega
  · omega
theorem of_flat {x : V} {d : Int} (h : Flat x) (hd : d ≤ 12) : x.flat d = true := by
  simp only [V.flat, Bool.and_eq_true, Bool.not_eq_true', g1, g2, g3, g4, decide_eq_false_iff_not, Bool.or_eq_false_iff, Bool.not_eq_false']
  refine ⟨⟨⟨⟨?_, ?_⟩, ?_, h.sp⟩, ?_⟩, (keysB_iff _).2 ⟨h.kp, h.rise⟩⟩
  · have := h.k0; have := h.k5; omega
  · rintro (⟨a, b, c⟩ | ⟨a, b⟩ | ⟨a, b⟩ | ⟨a, b⟩)
    · exact c (h.n0 a b)
    · exact b (h.s0 a)
    · rw [h.ks0 a] at b; simp at b
    · rw [h.l0 a] at b; simp at b
  · rintro (⟨a, b, c⟩ | a | a)
    · rcases h.n1 a with h | h
      · exact b h
      · exact c h
    · have := h.nlo; omega
    · have := h.nhi; omega
  · rintro ⟨a, b⟩; exact b (h.len a)
theorem V.sound.flat {x : V} (h : x.sound) : Flat x := by
  obtain ⟨d, h⟩ := h
  rw [V.good_eq, Bool.and_eq_true] at h
  exact (flat_of h.1).1
theorem V.sound.item {x y : V} (h : x.sound) (hy : y ∈ x.l) : y.sound := by
  obtain ⟨d, h⟩ := h
  rw [V.good_eq, Bool.and_eq_true, List.all_eq_true] at h
  exact ⟨d + 1, h.2 y hy⟩
theorem all_depth {l : List V} (h : ∀ y ∈ l, y.sound) : ∃ d : Int, d ≤ 12 ∧ ∀ y ∈ l, y.good (d + 1) = true := by
  induction l with
  | nil => exact ⟨12, by omega, fun y hy => by cases hy⟩
  | cons a r ih =>
    obtain ⟨d, h1, h2⟩ := ih (fun y hy => h y (by simp [hy]))
    obtain ⟨e, he⟩ := h a (by simp)
    refine ⟨min d (e - 1), by omega, fun y hy => ?_⟩
    rcases List.mem_cons.1 hy with rfl | hy
    · exact good_mono he (by omega)
    · exact good_mono (h2 y hy) (by omega)
theorem sound_mk {x : V} (h : Flat x) (hl : ∀ y ∈ x.l, y.sound) : x.sound := by
  obtain ⟨d, h1, h2⟩ := all_depth hl
  exact ⟨d, by rw [V.good_eq, Bool.and_eq_true, List.all_eq_true]; exact ⟨of_flat h h1, h2⟩⟩
theorem fine_sound {x : V} (h : x.fine = true) : x.sound := by
  simp only [V.fine, Bool.and_eq_true] at h
  exact ⟨1, h.1⟩
theorem fine_count {x : V} (h : x.fine = true) : x.count ≤ 120 := by
  simp only [V.fine, Bool.and_eq_true, decide_eq_true_eq] at h
  exact h.2
theorem plain_size {s : ByteArray} (h : plainB s = true) : s.size ≤ 60 := by
  simp only [plainB, Bool.and_eq_true, decide_eq_true_eq] at h
  exact h.2
/-- What is sound is not great. -/
theorem sound_size {x : V} (h : x.sound) : x.size + 61 ≤ x.count * 122 := by
  induction x using V.ind with
  | h x ih =>
    have hf := h.flat
    have hs := plain_size hf.sp
    rw [V.size_eq, V.count_eq]
    have h1 : strsSize x.keys ≤ x.l.length * 61 := by
      by_cases hk : x.k = 5
      · rw [← hf.len hk]
        have h2 : ∀ k ∈ x.keys, k.size ≤ 60 := fun k hk => plain_size (hf.kp k hk)
        generalize x.keys = ks at h2
        unfold strsSize
        induction ks with
        | nil => simp
        | cons a r ih =>
          have := ih (fun k hk => h2 k (by simp [hk]))
          have := h2 a (by simp)
          simp only [List.map_cons, List.sum_cons, List.length_cons]
          omega
      · rw [hf.ks0 hk]; simp [strsSize]
    have h2 : (x.l.map V.size).sum + x.l.length * 61 ≤ (x.l.map V.count).sum * 122 := by
      have h3 : ∀ y ∈ x.l, y.size + 61 ≤ y.count * 122 := fun y hy => ih y hy (h.item hy)
      generalize x.l = l at h3
      induction l with
      | nil => simp
      | cons a r ih =>
        have := ih (fun y hy => h3 y (by simp [hy]))
        have := h3 a (by simp)
        simp only [List.map_cons, List.sum_cons, List.length_cons] at *
        omega
    omega
theorem fine_size {x : V} (h : x.fine = true) : x.size ≤ 14640 := by
  have h1 := sound_size (fine_sound h)
  have h2 := fine_count h
  omega
end Go.Proofs.YtjibdbnpkfghhaaGreatDoor

/- Objects as maps: plain laws, no program in sight. -/
namespace Go.Proofs.YtjibdbnpkfghhaaGreatDoor

/-- What lies by a key, of keys and items one by one. -/
def lk : List ByteArray → List V → ByteArray → Option V
  | k :: ks, x :: l, key => if k = key then some x else lk ks l key
  | _, _, _ => none
theorem lk_none : ∀ (ks : List ByteArray) (l : List V) {key : ByteArray}, key ∉ ks → lk ks l key = none
  | [], _, _, _ => rfl
  | _ :: _, [], _, _ => rfl
  | k :: ks, x :: l, key, h => by
    simp only [List.mem_cons, not_or] at h
    rw [lk, if_neg (fun e => h.1 e.symm), lk_none ks l h.2]
theorem lk_mem : ∀ (ks : List ByteArray) (l : List V) {key : ByteArray} {y : V}, lk ks l key = some y → key ∈ ks ∧ y ∈ l
  | [], _, _, _, h => by cases h
  | _ :: _, [], _, _, h => by cases h
  | k :: ks, x :: l, key, y, h => by
    rw [lk] at h
    split at h
    · rename_i e; cases h; exact ⟨by simp [e], by simp⟩
    · have := lk_mem ks l h; exact ⟨by simp [this.1], by simp [this.2]⟩
theorem lk_some : ∀ (ks : List ByteArray) (l : List V) {key : ByteArray}, ks.length = l.length → key ∈ ks → ∃ y, lk ks l key = some y
  | [], _, _, _, h => by cases h
  | _ :: _, [], _, hl, _ => by simp at hl
  | k :: ks, x :: l, key, hl, h => by
    rw [lk]
    by_cases e : k = key
    · rw [if_pos e]; exact ⟨_, rfl⟩
    · rw [if_neg e]
      rcases List.mem_cons.1 h with h | h
      · exact absurd h.symm e
      · exact lk_some ks l (by simpa using hl) h
theorem lk_at : ∀ (ks : List ByteArray) (l : List V) (hl : ks.length = l.length), ks.Nodup → ∀ i (h : i < ks.length), lk ks l ks[i] = some (l[i]'(by omega))
  | [], _, _, _, i, h => by simp at h
  | _ :: _, [], hl, _, _, _ => by simp at hl
  | k :: ks, x :: l, hl, hn, 0, h => by simp [lk]
  | k :: ks, x :: l, hl, hn, i + 1, h => by
    have hn' := List.nodup_cons.1 hn
    simp only [List.length_cons] at h
    simp only [List.getElem_cons_succ]
    rw [lk, if_neg (fun e => hn'.1 (by rw [e]; exact List.getElem_mem _)), lk_at ks l (by simpa using hl) hn'.2 i (by omega)]
theorem lk_ins (key : ByteArray) (y : V) (k' : ByteArray) : ∀ (p : Nat) (ks : List ByteArray) (l : List V), ks.length = l.length → p ≤ ks.length → key ∉ ks → lk (ks.take p ++ key :: ks.drop p) (l.take p ++ y :: l.drop p) k' = if key = k' then some y else lk ks l k'
  | 0, ks, l, _, _, _ => by simp only [List.take_zero, List.drop_zero, List.nil_append, lk]
  | p + 1, [], _, _, h, _ => by simp at h
  | p + 1, _ :: _, [], hl, _, _ => by simp at hl
  | p + 1, k :: ks, x :: l, hl, h, hn => by
    simp only [List.mem_cons, not_or] at hn
    simp only [List.take_succ_cons, List.drop_succ_cons, List.cons_append, lk]
    rw [lk_ins key y k' p ks l (by simpa using hl) (by simpa using h) hn.2]
    by_cases e : k = k'
    · rw [if_pos e, if_neg (fun e' => hn.1 (e'.trans e.symm)), if_pos e]
    · rw [if_neg e, if_neg e]
theorem lk_set (y : V) (k' : ByteArray) : ∀ (p : Nat) (ks : List ByteArray) (l : List V) (hl : ks.length = l.length) (h : p < ks.length), ks.Nodup → lk ks (l.set p y) k' = if ks[p] = k' then some y else lk ks l k'
  | _, [], _, _, h, _ => by simp at h
  | _, _ :: _, [], hl, _, _ => by simp at hl
  | 0, k :: ks, x :: l, hl, h, hn => by simp only [List.set_cons_zero, lk, List.getElem_cons_zero]; split <;> rfl
  | p + 1, k :: ks, x :: l, hl, h, hn => by
    have hn' := List.nodup_cons.1 hn
    simp only [List.length_cons] at h
    simp only [List.set_cons_succ, lk, List.getElem_cons_succ]
    rw [lk_set y k' p ks l (by simpa using hl) (by omega) hn'.2]
    by_cases e : k = k'
    · rw [if_pos e, if_neg (fun e' => hn'.1 (by rw [e, ← e']; exact List.getElem_mem _)), if_pos e]
    · rw [if_neg e, if_neg e]
theorem lk_del (k' : ByteArray) : ∀ (p : Nat) (ks : List ByteArray) (l : List V) (hl : ks.length = l.length) (h : p < ks.length), ks.Nodup → lk (ks.take p ++ ks.drop (p + 1)) (l.take p ++ l.drop (p + 1)) k' = if ks[p] = k' then none else lk ks l k'
  | _, [], _, _, h, _ => by simp at h
  | _, _ :: _, [], hl, _, _ => by simp at hl
  | 0, k :: ks, x :: l, hl, h, hn => by
    have hn' := List.nodup_cons.1 hn
    simp only [List.take_zero, List.nil_append, List.drop_succ_cons, List.drop_zero, lk, List.getElem_cons_zero]
    by_cases e : k = k'
    · rw [if_pos e]; exact lk_none _ _ (e ▸ hn'.1)
    · rw [if_neg e, if_neg e]
  | p + 1, k :: ks, x :: l, hl, h, hn => by
    have hn' := List.nodup_cons.1 hn
    simp only [List.length_cons] at h
    simp only [List.take_succ_cons, List.drop_succ_cons, List.cons_append, lk, List.getElem_cons_succ]
    rw [lk_del k' p ks l (by simpa using hl) (by omega) hn'.2]
    by_cases e : k = k'
    · rw [if_pos e, if_neg (fun e' => hn'.1 (by rw [e, ← e']; exact List.getElem_mem _)), if_pos e]
    · rw [if_neg e, if_neg e]
theorem find_lk (key : ByteArray) : ∀ (ks : List ByteArray) (l : List V), ks.length = l.length → ((ks.findIdx? fun k => decide (k.toList = key.toList)).bind fun i => l[i]?) = lk ks l key
  | [], _, _ => rfl
  | _ :: _, [], hl => by simp at hl
  | k :: ks, x :: l, hl => by
    rw [List.findIdx?_cons, lk]
    by_cases e : k = key
    · rw [if_pos e, if_pos (by simp [e])]; rfl
    · rw [if_neg e, if_neg (by simpa using fun h => e (bytes_ext h)), ← find_lk key ks l (by simpa using hl)]
      cases ks.findIdx? fun k => decide (k.toList = key.toList) <;> rfl

/-- An object whose keys rise. -/
structure VObj (x : V) : Prop where
  k5 : x.k = 5
  n0 : x.n = 0
  s0 : x.s = ⟨#[]⟩
  len : x.keys.length = x.l.length
  rise : Rises x.keys
theorem rises_nodup {ks : List ByteArray} (h : Rises ks) : ks.Nodup := h.imp fun h => ltS_ne h
theorem VObj.nodup {x : V} (h : VObj x) : x.keys.Nodup := rises_nodup h.rise
theorem toList_none : (⟨#[]⟩ : ByteArray).toList = [] := by rw [ByteArray.toList_eq]
theorem bytes_nil {s : ByteArray} (h : s.toList = []) : s = ⟨#[]⟩ := bytes_ext (by rw [h, toList_none])
theorem sound_obj {x : V} (h : x.sound) (h5 : x.k = 5) : VObj x :=
  have f := h.flat
  ⟨h5, f.n0 (by omega) (by omega), bytes_nil (f.s0 (by omega)), f.len h5, f.rise⟩
/-- An object of no members. -/
def V.none5 : V := .mk 5 0 ⟨#[]⟩ [] []
theorem none5_obj : VObj V.none5 := ⟨rfl, rfl, rfl, rfl, List.Pairwise.nil⟩
theorem member_lk {x : V} (h5 : x.k = 5) (hl : x.keys.length = x.l.length) (key : ByteArray) : x.member key = lk x.keys x.l key := by
  unfold V.member V.find
  rw [if_pos ⟨h5, hl⟩]
  exact find_lk key _ _ hl
theorem VObj.member {x : V} (h : VObj x) (key : ByteArray) : x.member key = lk x.keys x.l key := member_lk h.k5 h.len key
theorem member_none5 (key : ByteArray) : V.none5.member key = none := by rw [none5_obj.member]; rfl
theorem VObj.put {x : V} (h : VObj x) (key : ByteArray) (y : V) : VObj (x.put key y) := by
  cases hb : hasB x.keys key with
  | true => rw [put_yes ⟨h.k5, h.len⟩ hb]; exact ⟨h.k5, h.n0, h.s0, by simpa using h.len, h.rise⟩
  | false => rw [put_new ⟨h.k5, h.len⟩ hb]; exact ⟨h.k5, h.n0, h.s0, by have := h.len; simp; omega, rises_insert h.rise hb⟩
theorem VObj.del {x : V} (h : VObj x) (key : ByteArray) : VObj (x.del key) := by
  cases hb : hasB x.keys key with
  | true => rw [del_yes ⟨h.k5, h.len⟩ hb]; exact ⟨h.k5, h.n0, h.s0, by have := h.len; simp; omega, rises_erase h.rise _⟩
  | false => rw [del_no hb]; exact h
theorem not_mem_of {ks : List ByteArray} (h : Rises ks) {key : ByteArray} (hn : hasB ks key = false) : key ∉ ks := fun hm => by rw [has_of_mem h hm] at hn; cases hn
theorem member_put {x : V} (h : VObj x) (key : ByteArray) (y : V) (k' : ByteArray) : (x.put key y).member k' = if key = k' then some y else x.member k' := by
  rw [(h.put key y).member, h.member]
  cases hb : hasB x.keys key with
  | true =>
    rw [put_yes ⟨h.k5, h.len⟩ hb]
    simp only [V.keys_mk, V.l_mk]
    rw [lk_set y k' _ _ _ h.len (hasB_lt hb) h.nodup, hasB_at hb]
  | false =>
    rw [put_new ⟨h.k5, h.len⟩ hb]
    simp only [V.keys_mk, V.l_mk]
    exact lk_ins key y k' _ _ _ h.len (posOf_le _ _) (not_mem_of h.rise hb)
theorem member_del {x : V} (h : VObj x) (key k' : ByteArray) : (x.del key).member k' = if key = k' then none else x.member k' := by
  cases hb : hasB x.keys key with
  | true =>
    rw [(h.del key).member, h.member, del_yes ⟨h.k5, h.len⟩ hb]
    simp only [V.keys_mk, V.l_mk]
    rw [lk_del k' _ _ _ h.len (hasB_lt hb) h.nodup, hasB_at hb]
  | false =>
    rw [del_no hb]
    by_cases e : key = k'
    · rw [if_pos e, ← e, h.member]; exact lk_none _ _ (not_mem_of h.rise hb)
    · rw [if_neg e]
theorem member_mem {x y : V} {key : ByteArray} (h : x.member key = some y) : y ∈ x.l := by
  unfold V.member at h
  obtain ⟨i, -, hi⟩ := Option.bind_eq_some_iff.1 h
  exact List.mem_of_getElem? hi
theorem member_not5 {x : V} (h : x.k ≠ 5) (key : ByteArray) : x.member key = none := by
  unfold V.member V.find
  rw [if_neg (fun e => h e.1)]; rfl
theorem VObj.keys_iff {x : V} (h : VObj x) (key : ByteArray) : key ∈ x.keys ↔ x.member key ≠ none := by
  rw [h.member]
  constructor
  · intro hm
    obtain ⟨y, hy⟩ := lk_some _ _ h.len hm
    rw [hy]; simp
  · intro hn
    by_cases hm : key ∈ x.keys
    · exact hm
    · exact absurd (lk_none _ _ hm) hn

theorem rises_ext : ∀ {a b : List ByteArray}, Rises a → Rises b → (∀ k, k ∈ a ↔ k ∈ b) → a = b
  | [], [], _, _, _ => rfl
  | [], y :: t, _, _, h => by have := (h y).2 (by simp); cases this
  | x :: r, [], _, _, h => by have := (h x).1 (by simp); cases this
  | x :: r, y :: t, ha, hb, h => by
    have ha' := List.pairwise_cons.1 ha
    have hb' := List.pairwise_cons.1 hb
    have e : x = y := by
      by_cases e : x = y
      · exact e
      · have h1 : x ∈ t := (List.mem_cons.1 ((h x).1 (by simp))).resolve_left e
        have h2 : y ∈ r := (List.mem_cons.1 ((h y).2 (by simp))).resolve_left (fun e' => e e'.symm)
        have := ltS_asymm (ha'.1 y h2)
        rw [hb'.1 x h1] at this; cases this
    subst e
    rw [rises_ext ha'.2 hb'.2 (fun k => ?_)]
    have hk := h k
    simp only [List.mem_cons] at hk
    constructor
    · intro hm
      exact (hk.1 (.inr hm)).resolve_left (fun e => by subst e; exact ltS_ne (ha'.1 _ hm) rfl)
    · intro hm
      exact (hk.2 (.inr hm)).resolve_left (fun e => by subst e; exact ltS_ne (hb'.1 _ hm) rfl)
/-- Two objects of the same members are one. -/
theorem obj_ext {x y : V} (hx : VObj x) (hy : VObj y) (h : ∀ k, x.member k = y.member k) : x = y := by
  have hk : x.keys = y.keys := rises_ext hx.rise hy.rise fun k => by rw [hx.keys_iff, hy.keys_iff, h k]
  have hl : x.l = y.l := by
    have e1 := hx.len
    have e2 := hy.len
    have e3 := congrArg List.length hk
    apply List.ext_getElem (by omega)
    intro i h1 h2
    have a1 := lk_at _ _ hx.len hx.nodup i (by omega)
    have a2 := lk_at _ _ hy.len hy.nodup i (by omega)
    have a3 := h (x.keys[i]'(by omega))
    rw [hx.member, hy.member, a1] at a3
    have a4 : y.keys[i]'(by omega) = x.keys[i]'(by omega) := by simp only [hk]
    rw [← a4, a2] at a3
    exact Option.some.inj a3
  rw [← V.eta x, ← V.eta y, hx.k5, hy.k5, hx.n0, hy.n0, hx.s0, hy.s0, hk, hl]

/-- What is put is there, all else as it was; taken away it is gone. -/
theorem put_sound {x y : V} (hx : x.sound) (hy : y.sound) {key : ByteArray} (hk : plainB key = true) (h5 : x.k = 5) : (x.put key y).sound := by
  have f := hx.flat
  have o := sound_obj hx h5
  have o' := o.put key y
  have hmem : ∀ z ∈ (x.put key y).l, z.sound := by
    intro z hz
    cases hb : hasB x.keys key with
    | true =>
      rw [put_yes ⟨o.k5, o.len⟩ hb] at hz
      rcases List.mem_or_eq_of_mem_set hz with h | h
      · exact hx.item h
      · rw [h]; exact hy
    | false =>
      rw [put_new ⟨o.k5, o.len⟩ hb] at hz
      simp only [V.l_mk, List.mem_append, List.mem_cons] at hz
      rcases hz with h | h | h
      · exact hx.item (List.mem_of_mem_take h)
      · rw [h]; exact hy
      · exact hx.item (List.mem_of_mem_drop h)
  refine sound_mk ⟨by rw [o'.k5]; decide, by rw [o'.k5]; decide, fun _ _ => o'.n0, fun _ => by rw [o'.s0, toList_none], fun h => absurd o'.k5 h, fun h => by rw [o'.k5] at h; omega, fun _ => .inl o'.n0, by rw [o'.n0]; decide, by rw [o'.n0]; decide, by rw [o'.s0]; decide, fun _ => o'.len, ?_, o'.rise⟩ hmem
  intro k hk'
  rw [o'.keys_iff, member_put o] at hk'
  by_cases e : key = k
  · rw [← e]; exact hk
  · rw [if_neg e] at hk'
    exact f.kp k ((o.keys_iff k).2 hk')
theorem del_sound {x : V} (hx : x.sound) (key : ByteArray) : (x.del key).sound := by
  by_cases h5 : x.k = 5
  · have f := hx.flat
    have o := sound_obj hx h5
    have o' := o.del key
    have hmem : ∀ z ∈ (x.del key).l, z.sound := by
      intro z hz
      cases hb : hasB x.keys key with
      | true =>
        rw [del_yes ⟨o.k5, o.len⟩ hb] at hz
        simp only [V.l_mk, List.mem_append] at hz
        rcases hz with h | h
        · exact hx.item (List.mem_of_mem_take h)
        · exact hx.item (List.mem_of_mem_drop h)
      | false => rw [del_no hb] at hz; exact hx.item hz
    refine sound_mk ⟨by rw [o'.k5]; decide, by rw [o'.k5]; decide, fun _ _ => o'.n0, fun _ => by rw [o'.s0, toList_none], fun h => absurd o'.k5 h, fun h => by rw [o'.k5] at h; omega, fun _ => .inl o'.n0, by rw [o'.n0]; decide, by rw [o'.n0]; decide, by rw [o'.s0]; decide, fun _ => o'.len, ?_, o'.rise⟩ hmem
    intro k hk'
    rw [o'.keys_iff, member_del o] at hk'
    by_cases e : key = k
    · rw [if_pos e] at hk'; exact absurd rfl hk'
    · rw [if_neg e] at hk'
      exact f.kp k ((o.keys_iff k).2 hk')
  · rw [del_not (fun e => h5 e.1)]; exact hx
theorem member_sound {x y : V} {key : ByteArray} (hx : x.sound) (h : x.member key = some y) : y.sound := hx.item (member_mem h)

/-! How many there are. -/
theorem VObj.count_old {x y : V} (h : VObj x) {key : ByteArray} (hm : x.member key = some y) : x.count + y.count ≤ x.count + x.count := by
  have := sum_ge V.count (member_mem hm)
  rw [V.count_eq x]; omega
theorem sum_set_eq {α : Type} (f : α → Nat) (a : α) : ∀ (l : List α) (p : Nat) (h : p < l.length), ((l.set p a).map f).sum + f l[p] = (l.map f).sum + f a
  | [], _, h => by simp at h
  | x :: l, 0, _ => by simp; omega
  | x :: l, p + 1, h => by
    have := sum_set_eq f a l p (by simpa using h)
    simp only [List.set_cons_succ, List.map_cons, List.sum_cons, List.getElem_cons_succ]; omega
/-- The count of what is put. -/
theorem count_put {x : V} (h : VObj x) (key : ByteArray) (y : V) : (x.put key y).count + (match x.member key with | some o => o.count | none => 0) = x.count + y.count := by
  cases hb : hasB x.keys key with
  | true =>
    have hlt := hasB_lt hb
    have hlt' : posOf x.keys key < x.l.length := by rw [← h.len]; exact hlt
    have hm : x.member key = some (x.l[posOf x.keys key]'hlt') := by
      have := lk_at _ _ h.len h.nodup _ hlt
      rw [hasB_at hb] at this
      rw [h.member, this]
    rw [hm, put_yes ⟨h.k5, h.len⟩ hb, V.count_eq, V.count_eq x]
    simp only [V.l_mk]
    have := sum_set_eq V.count y x.l _ hlt'
    omega
  | false =>
    have hm : x.member key = none := by rw [h.member]; exact lk_none _ _ (not_mem_of h.rise hb)
    rw [hm, put_new ⟨h.k5, h.len⟩ hb, V.count_eq, V.count_eq x]
    simp only [V.l_mk]
    have := sum_insert V.count x.l (posOf x.keys key) y
    omega
theorem count_del_le {x : V} (h : VObj x) (key : ByteArray) : (x.del key).count ≤ x.count := by
  cases hb : hasB x.keys key with
  | true =>
    rw [del_yes ⟨h.k5, h.len⟩ hb, V.count_eq, V.count_eq x]
    have := sum_erase V.count x.l (posOf x.keys key)
    simp only [V.l_mk]; omega
  | false => rw [del_no hb]; exact Nat.le_refl _
end Go.Proofs.YtjibdbnpkfghhaaGreatDoor

/- What package merge reckons: plain functions and their laws, no program in sight. -/
namespace Go.Proofs.YtjibdbnpkfghhaaGreatDoor

theorem same_iff (x y : V) : x.same y = true ↔ x = y := by
  have hgo : ∀ (l : List V), (∀ a ∈ l, ∀ b : V, a.same b = true ↔ a = b) → ∀ m : List V, l.length = m.length → (V.same.go l m = true ↔ l = m) := by
    intro l
    induction l with
    | nil =>
      intro _ m hm
      obtain rfl : m = [] := List.eq_nil_of_length_eq_zero (by simpa using hm.symm)
      simp [V.same.go]
    | cons a r ih =>
      intro h m hm
      cases m with
      | nil => simp at hm
      | cons b t =>
        rw [V.same.go, Bool.and_eq_true, h a (by simp), ih (fun z hz => h z (by simp [hz])) t (by simpa using hm)]
        simp
  induction x using V.ind generalizing y with
  | h x ih =>
    obtain ⟨k, n, s, ks, l⟩ := x
    obtain ⟨k', n', s', ks', l'⟩ := y
    rw [V.same, Bool.and_eq_true, decide_eq_true_eq]
    simp only [V.k_mk, V.n_mk, V.s_mk, V.keys_mk, V.l_mk]
    constructor
    · rintro ⟨⟨h1, h2, h3, h4, h5⟩, h6⟩
      have h7 := (hgo l (fun a ha b => ih a ha b) l' h5).1 h6
      have h8 : ks = ks' := by
        clear h6 hgo ih
        induction ks generalizing ks' with
        | nil => cases ks' with | nil => rfl | cons => simp at h4
        | cons a r ih =>
          cases ks' with
          | nil => simp at h4
          | cons b t =>
            simp only [List.map_cons, List.cons.injEq] at h4
            rw [bytes_ext h4.1, ih t h4.2]
      rw [h1, h2, bytes_ext h3, h7, h8]
    · intro h
      cases h
      exact ⟨⟨rfl, rfl, rfl, rfl, rfl⟩, (hgo l (fun a ha b => ih a ha b) l rfl).2 rfl⟩

/-- A value behind a patch; the patch stands first. -/
def V.mrg : V → V → V
  | .mk k n s ks l, v => if k = 5 then go l ks (if v.k = 5 then v else V.none5) else .mk k n s ks l
where go : List V → List ByteArray → V → V
  | [], _, v => v
  | q :: r, ks, v => go r ks.tail (if q.k = 0 then v.del (ks.headD ⟨#[]⟩) else v.put (ks.headD ⟨#[]⟩) (V.mrg q ((v.member (ks.headD ⟨#[]⟩)).getD V.zero)))
/-- What is merged into. -/
def V.base (v : V) : V := if v.k = 5 then v else V.none5
theorem mrg_eq (p v : V) : p.mrg v = if p.k = 5 then V.mrg.go p.l p.keys v.base else p := by
  cases p with | mk k n s ks l => rw [V.mrg]; rfl
theorem mgo_nil (ks : List ByteArray) (v : V) : V.mrg.go [] ks v = v := by rw [V.mrg.go]
/-- One member more. -/
def V.mstep (q : V) (k : ByteArray) (v : V) : V := if q.k = 0 then v.del k else v.put k (q.mrg ((v.member k).getD V.zero))
theorem mgo_cons (q : V) (r : List V) (k : ByteArray) (ks : List ByteArray) (v : V) : V.mrg.go (q :: r) (k :: ks) v = V.mrg.go r ks (q.mstep k v) := by rw [V.mrg.go]; rfl
theorem mgo_snoc : ∀ (l : List V) (ks : List ByteArray) (q : V) (k : ByteArray) (v : V), ks.length = l.length → V.mrg.go (l ++ [q]) (ks ++ [k]) v = q.mstep k (V.mrg.go l ks v)
  | [], ks, q, k, v, h => by
    obtain rfl := List.eq_nil_of_length_eq_zero (by simpa using h)
    rw [List.nil_append, List.nil_append, mgo_cons, mgo_nil, mgo_nil]
  | a :: l, [], _, _, _, h => by simp at h
  | a :: l, b :: ks, q, k, v, h => by
    rw [List.cons_append, List.cons_append, mgo_cons, mgo_cons, mgo_snoc l ks q k _ (by simpa using h)]
theorem mstep_obj {v : V} (h : VObj v) (q : V) (k : ByteArray) : VObj (q.mstep k v) := by
  unfold V.mstep; split
  · exact h.del k
  · exact h.put k _
theorem mstep_member {v : V} (h : VObj v) (q : V) (k k' : ByteArray) : (q.mstep k v).member k' = if k = k' then (if q.k = 0 then none else some (q.mrg ((v.member k).getD V.zero))) else v.member k' := by
  unfold V.mstep
  by_cases h0 : q.k = 0
  · rw [if_pos h0, if_pos h0, member_del h]
  · rw [if_neg h0, if_neg h0, member_put h]
theorem mgo_spec : ∀ (l : List V) (ks : List ByteArray) (v : V), VObj v → ks.length = l.length → ks.Nodup → VObj (V.mrg.go l ks v) ∧ ∀ k', (V.mrg.go l ks v).member k' = match lk ks l k' with | none => v.member k' | some q => if q.k = 0 then none else some (q.mrg ((v.member k').getD V.zero))
  | [], [], v, hv, _, _ => by rw [mgo_nil]; exact ⟨hv, fun k' => rfl⟩
  | [], _ :: _, _, _, h, _ => by simp at h
  | _ :: _, [], _, _, h, _ => by simp at h
  | q :: r, k :: ks, v, hv, hl, hn => by
    have hn' := List.nodup_cons.1 hn
    rw [mgo_cons]
    obtain ⟨h1, h2⟩ := mgo_spec r ks (q.mstep k v) (mstep_obj hv q k) (by simpa using hl) hn'.2
    refine ⟨h1, fun k' => ?_⟩
    rw [h2, lk, mstep_member hv]
    by_cases e : k = k'
    · subst e
      rw [lk_none ks r hn'.1]
      simp
    · simp only [if_neg e]
theorem base_obj {v : V} (h : v.sound) : VObj v.base := by
  unfold V.base; split
  · rename_i h5; exact sound_obj h h5
  · exact none5_obj
theorem mrg_obj {p v : V} (hp : p.sound) (hv : v.sound) (h5 : p.k = 5) : VObj (p.mrg v) ∧ ∀ k, (p.mrg v).member k = match p.member k with | none => v.base.member k | some q => if q.k = 0 then none else some (q.mrg ((v.base.member k).getD V.zero)) := by
  have o := sound_obj hp h5
  rw [mrg_eq, if_pos h5]
  have := mgo_spec p.l p.keys v.base (base_obj hv) o.len o.nodup
  refine ⟨this.1, fun k => ?_⟩
  rw [this.2, o.member]
theorem base_of {v : V} (h : v.k = 5) : v.base = v := if_pos h
theorem base_not {v : V} (h : v.k ≠ 5) : v.base = V.none5 := if_neg h
theorem zero_sound : V.zero.sound := ⟨12, by decide +kernel⟩
theorem none5_sound : V.none5.sound := ⟨12, by decide +kernel⟩
theorem base_sound {v : V} (h : v.sound) : v.base.sound := by
  unfold V.base; split
  · exact h
  · exact none5_sound
theorem getD_sound {v : V} (h : v.sound) (k : ByteArray) : ((v.member k).getD V.zero).sound := by
  cases hm : v.member k with
  | none => exact zero_sound
  | some y => exact member_sound h hm
/-- Merged twice it is as merged once. -/
theorem mrg_twice (p : V) : p.sound → ∀ v : V, v.sound → p.mrg (p.mrg v) = p.mrg v := by
  have key : ∀ p : V, p.sound → ∀ v : V, v.sound → ∀ m, m = p.mrg v → (m.k = 5 ∨ p.k ≠ 5) ∧ p.mrg m = m := by
    intro p
    induction p using V.ind with
    | h p ih =>
      intro hp v hv m hm
      by_cases h5 : p.k = 5
      · obtain ⟨o1, m1⟩ := mrg_obj hp hv h5
        rw [← hm] at o1 m1
        refine ⟨.inl o1.k5, ?_⟩
        have op := sound_obj hp h5
        rw [mrg_eq, if_pos h5, base_of o1.k5]
        obtain ⟨o2, m2⟩ := mgo_spec p.l p.keys m o1 op.len op.nodup
        refine obj_ext o2 o1 fun k => ?_
        rw [m2, ← op.member]
        cases hq : p.member k with
        | none => rfl
        | some q =>
          have hm1 := m1 k
          rw [hq] at hm1
          simp only at hm1 ⊢
          by_cases h0 : q.k = 0
          · rw [if_pos h0, hm1, if_pos h0]
          · rw [if_neg h0, hm1, if_neg h0]
            have := (ih q (member_mem hq) (member_sound hp hq) _ (getD_sound (base_sound hv) k) _ rfl).2
            simp only [Option.getD_some]
            rw [this]
      · refine ⟨.inr h5, ?_⟩
        rw [hm, mrg_eq, if_neg h5, mrg_eq, if_neg h5]
  intro hp v hv
  exact (key p hp v hv _ rfl).2
theorem mrg_k5 {p v : V} (hp : p.sound) (hv : v.sound) (h5 : p.k = 5) : (p.mrg v).k = 5 := (mrg_obj hp hv h5).1.k5

/-! It is sound, and not great. -/
theorem mstep_sound {q v : V} (ih : ∀ z : V, z.sound → (q.mrg z).sound) (hv : v.sound) (h5 : v.k = 5) {k : ByteArray} (hk : plainB k = true) : (q.mstep k v).sound := by
  unfold V.mstep; split
  · exact del_sound hv k
  · exact put_sound hv (ih _ (getD_sound hv k)) hk h5
theorem mgo_sound : ∀ (l : List V) (ks : List ByteArray) (v : V), (∀ q ∈ l, ∀ z : V, z.sound → (q.mrg z).sound) → (∀ k ∈ ks, plainB k = true) → v.sound → v.k = 5 → ks.length = l.length → (V.mrg.go l ks v).sound ∧ (V.mrg.go l ks v).k = 5
  | [], ks, v, _, _, hv, h5, _ => by rw [mgo_nil]; exact ⟨hv, h5⟩
  | _ :: _, [], _, _, _, _, _, h => by simp at h
  | q :: r, k :: ks, v, hq, hk, hv, h5, hl => by
    rw [mgo_cons]
    exact mgo_sound r ks _ (fun z hz => hq z (by simp [hz])) (fun z hz => hk z (by simp [hz])) (mstep_sound (hq q (by simp)) hv h5 (hk k (by simp))) (mstep_obj (sound_obj hv h5) q k).k5 (by simpa using hl)
theorem mrg_sound (p : V) : p.sound → ∀ v : V, v.sound → (p.mrg v).sound := by
  induction p using V.ind with
  | h p ih =>
    intro hp v hv
    rw [mrg_eq]
    by_cases h5 : p.k = 5
    · rw [if_pos h5]
      exact (mgo_sound p.l p.keys v.base (fun q hq z hz => ih q hq (hp.item hq) z hz) hp.flat.kp (base_sound hv) (base_obj hv).k5 (hp.flat.len h5)).1
    · rw [if_neg h5]; exact hp
theorem mstep_count {q v : V} (ih : ∀ z : V, z.sound → (q.mrg z).count ≤ q.count + (if z.k = 5 then z.count - 1 else 0)) (hv : v.sound) (h5 : v.k = 5) (k : ByteArray) : (q.mstep k v).count ≤ v.count + q.count := by
  unfold V.mstep; split
  · have := count_del_le (sound_obj hv h5) k; omega
  · obtain ⟨z, hz⟩ : ∃ z, (v.member k).getD V.zero = z := ⟨_, rfl⟩
    have hzs : z.sound := hz ▸ getD_sound hv k
    have h1 := count_put (sound_obj hv h5) k (q.mrg z)
    have h2 := ih z hzs
    rw [hz]
    cases hm : v.member k with
    | none =>
      rw [hm] at h1 hz
      simp only [Option.getD_none] at hz
      rw [← hz, if_neg (by decide)] at h2
      simp only [← hz] at h1 ⊢
      omega
    | some o =>
      rw [hm] at h1 hz
      simp only [Option.getD_some] at hz
      subst hz
      simp only at h1
      have := o.count_pos
      split at h2 <;> omega
theorem mgo_count : ∀ (l : List V) (ks : List ByteArray) (v : V), (∀ q ∈ l, q.sound ∧ ∀ z : V, z.sound → (q.mrg z).count ≤ q.count + (if z.k = 5 then z.count - 1 else 0)) → (∀ k ∈ ks, plainB k = true) → v.sound → v.k = 5 → ks.length = l.length → (V.mrg.go l ks v).count ≤ v.count + (l.map V.count).sum
  | [], ks, v, _, _, hv, h5, _ => by rw [mgo_nil]; simp
  | _ :: _, [], _, _, _, _, _, h => by simp at h
  | q :: r, k :: ks, v, hq, hk, hv, h5, hl => by
    rw [mgo_cons]
    have h1 := mstep_count (hq q (by simp)).2 hv h5 k
    have h2 := mgo_count r ks (q.mstep k v) (fun z hz => hq z (by simp [hz])) (fun z hz => hk z (by simp [hz])) (mstep_sound (mrg_sound q (hq q (by simp)).1) hv h5 (hk k (by simp))) (mstep_obj (sound_obj hv h5) q k).k5 (by simpa using hl)
    simp only [List.map_cons, List.sum_cons]; omega
theorem mrg_count (p : V) : p.sound → ∀ v : V, v.sound → (p.mrg v).count ≤ p.count + (if v.k = 5 then v.count - 1 else 0) := by
  induction p using V.ind with
  | h p ih =>
    intro hp v hv
    rw [mrg_eq]
    by_cases h5 : p.k = 5
    · rw [if_pos h5]
      have h1 := mgo_count p.l p.keys v.base (fun q hq => ⟨hp.item hq, fun z hz => ih q hq (hp.item hq) z hz⟩) hp.flat.kp (base_sound hv) (base_obj hv).k5 (hp.flat.len h5)
      have h2 := V.count_eq p
      by_cases hb : v.k = 5
      · rw [if_pos hb]; rw [base_of hb] at h1 ⊢; have := v.count_pos; omega
      · rw [if_neg hb]; rw [base_not hb] at h1 ⊢
        have : V.none5.count = 1 := by rw [V.count_eq]; rfl
        omega
    · rw [if_neg h5]; omega
theorem mrg_size {p v : V} (hp : p.fine = true) (hv : v.fine = true) : (p.mrg v).size ≤ 29280 := by
  have h1 := sound_size (mrg_sound p (fine_sound hp) v (fine_sound hv))
  have h2 := mrg_count p (fine_sound hp) v (fine_sound hv)
  have h3 := fine_count hp
  have h4 := fine_count hv
  split at h2 <;> omega
/-- merge.Merge. -/
def mergeV (v p : V) : V × Int := if v.fine = false ∨ p.fine = false then (v, 1) else if (p.mrg v).fine = false then (v, 2) else (p.mrg v, 0)
theorem merge_bad {v p : V} (h : (mergeV v p).2 ≠ 0) : (mergeV v p).1 = v := by
  unfold mergeV at *
  split
  · rfl
  · split
    · rfl
    · rename_i h1 h2; rw [if_neg h1, if_neg h2] at h; exact absurd rfl h
theorem merge_ok {v p : V} (h : (mergeV v p).2 = 0) : v.fine = true ∧ p.fine = true ∧ (p.mrg v).fine = true ∧ mergeV v p = (p.mrg v, 0) := by
  unfold mergeV at *
  split at h
  · simp at h
  · rename_i h1
    simp only [not_or, Bool.not_eq_false] at h1
    split at h
    · simp at h
    · rename_i h2
      rw [if_neg (by simp [h1]), if_neg h2]
      exact ⟨h1.1, h1.2, by simpa using h2, rfl⟩
/-- Merged twice it is as merged once: what Merge answers. -/
theorem merge_twice {v p : V} (h : (mergeV v p).2 = 0) : mergeV (mergeV v p).1 p = ((mergeV v p).1, 0) ∧ (p.k = 5 → (mergeV v p).1.k = 5) := by
  obtain ⟨h1, h2, h3, h4⟩ := merge_ok h
  rw [h4]
  have e := mrg_twice p (fine_sound h2) v (fine_sound h1)
  refine ⟨?_, fun h5 => mrg_k5 (fine_sound h2) (fine_sound h1) h5⟩
  unfold mergeV
  rw [if_neg (by simp [h2, h3])]
  simp only [e]
  rw [if_neg (by simp [h3])]

/-- No null among members. -/
def V.clean : V → Bool
  | .mk k _ _ _ l => decide (k ≠ 5) || go l
where go : List V → Bool
  | [] => true
  | x :: r => decide (x.k ≠ 0) && (V.clean x && go r)
theorem clean_eq (x : V) : x.clean = (decide (x.k ≠ 5) || x.l.all fun y => decide (y.k ≠ 0) && y.clean) := by
  have h : ∀ l : List V, V.clean.go l = l.all fun y => decide (y.k ≠ 0) && y.clean := by
    intro l
    induction l with
    | nil => rw [V.clean.go]; rfl
    | cons a r ih => rw [V.clean.go, ih, List.all_cons, Bool.and_assoc]
  cases x with | mk k n s ks l => rw [V.clean, h]; rfl
theorem clean_item {x y : V} (h : x.clean = true) (h5 : x.k = 5) (hy : y ∈ x.l) : y.k ≠ 0 ∧ y.clean = true := by
  rw [clean_eq, h5] at h
  simp only [ne_eq, not_true_eq_false, decide_false, Bool.false_or, List.all_eq_true, Bool.and_eq_true, decide_eq_true_eq] at h
  exact h y hy
theorem mrg_new (q : V) : q.sound → q.clean = true → ∀ v : V, v.sound → v.k ≠ 5 → q.mrg v = q := by
  induction q using V.ind with
  | h q ih =>
    intro hq hc v hv h5
    by_cases hq5 : q.k = 5
    · obtain ⟨o1, m1⟩ := mrg_obj hq hv hq5
      have oq := sound_obj hq hq5
      refine obj_ext o1 oq fun k => ?_
      rw [m1, base_not h5, member_none5]
      cases hz : q.member k with
      | none => rfl
      | some z =>
        have hzm := member_mem hz
        obtain ⟨c1, c2⟩ := clean_item hc hq5 hzm
        simp only [if_neg c1, Option.getD_none]
        rw [ih z hzm (hq.item hzm) c2 V.zero zero_sound (by decide)]
    · rw [mrg_eq, if_neg hq5]

/-- Members that are gone. -/
def V.gone (b : V) : List ByteArray → V → V
  | [], out => out
  | k :: ks, out => V.gone b ks (if (b.member k).isNone = true then out.put k V.zero else out)
/-- What is other; the new value stands first. -/
def V.dif : V → V → V
  | .mk k n s ks l, a => if a.k ≠ 5 ∨ k ≠ 5 then .mk k n s ks l else go a l ks (V.gone (.mk k n s ks l) a.keys V.none5)
where go (a : V) : List V → List ByteArray → V → V
  | [], _, out => out
  | q :: r, ks, out => go a r ks.tail (match a.member (ks.headD ⟨#[]⟩) with | some o => if o.same q = true then out else out.put (ks.headD ⟨#[]⟩) (V.dif q o) | none => out.put (ks.headD ⟨#[]⟩) q)
theorem dif_eq (b a : V) : b.dif a = if a.k ≠ 5 ∨ b.k ≠ 5 then b else V.dif.go a b.l b.keys (b.gone a.keys V.none5) := by
  cases b with | mk k n s ks l => rw [V.dif]; rfl
theorem dgo_nil (a : V) (ks : List ByteArray) (out : V) : V.dif.go a [] ks out = out := by rw [V.dif.go]
def V.dstep (a q : V) (k : ByteArray) (out : V) : V := match a.member k with | some o => if o.same q = true then out else out.put k (q.dif o) | none => out.put k q
theorem dgo_cons (a q : V) (r : List V) (k : ByteArray) (ks : List ByteArray) (out : V) : V.dif.go a (q :: r) (k :: ks) out = V.dif.go a r ks (V.dstep a q k out) := by rw [V.dif.go]; rfl
theorem dgo_snoc (a : V) : ∀ (l : List V) (ks : List ByteArray) (q : V) (k : ByteArray) (v : V), ks.length = l.length → V.dif.go a (l ++ [q]) (ks ++ [k]) v = V.dstep a q k (V.dif.go a l ks v)
  | [], ks, q, k, v, h => by
    obtain rfl := List.eq_nil_of_length_eq_zero (by simpa using h)
    rw [List.nil_append, List.nil_append, dgo_cons, dgo_nil, dgo_nil]
  | _ :: l, [], _, _, _, h => by simp at h
  | _ :: l, b :: ks, q, k, v, h => by
    rw [List.cons_append, List.cons_append, dgo_cons, dgo_cons, dgo_snoc a l ks q k _ (by simpa using h)]
theorem gone_snoc (b : V) : ∀ (ks : List ByteArray) (k : ByteArray) (out : V), b.gone (ks ++ [k]) out = if (b.member k).isNone = true then (b.gone ks out).put k V.zero else b.gone ks out
  | [], k, out => by simp only [List.nil_append, V.gone]
  | c :: ks, k, out => by rw [List.cons_append, V.gone, gone_snoc b ks k, V.gone]
theorem gone_spec (b : V) : ∀ (ks : List ByteArray) (out : V), VObj out → VObj (b.gone ks out) ∧ ∀ k', (k' ∈ ks → b.member k' = none → (b.gone ks out).member k' = some V.zero) ∧ (¬ (k' ∈ ks ∧ b.member k' = none) → (b.gone ks out).member k' = out.member k')
  | [], out, ho => by rw [V.gone]; exact ⟨ho, fun k' => ⟨fun h => (by cases h), fun _ => rfl⟩⟩
  | k :: ks, out, ho => by
    rw [V.gone]
    by_cases hb : (b.member k).isNone = true
    · rw [if_pos hb]
      obtain ⟨h1, h2⟩ := gone_spec b ks _ (ho.put k V.zero)
      have hb' : b.member k = none := by simpa using hb
      refine ⟨h1, fun k' => ⟨fun hm hn => ?_, fun hn => ?_⟩⟩
      · by_cases hk : k' ∈ ks
        · exact (h2 k').1 hk hn
        · rw [(h2 k').2 (fun h => hk h.1), member_put ho, if_pos ((List.mem_cons.1 hm).resolve_right hk).symm]
      · have e : k ≠ k' := fun e => hn (by rw [← e]; exact ⟨by simp, hb'⟩)
        rw [(h2 k').2 (fun h => hn ⟨by simp [h.1], h.2⟩), member_put ho, if_neg e]
    · rw [if_neg hb]
      obtain ⟨h1, h2⟩ := gone_spec b ks _ ho
      have hb' : b.member k ≠ none := by simpa using hb
      refine ⟨h1, fun k' => ⟨fun hm hn => ?_, fun hn => ?_⟩⟩
      · rcases List.mem_cons.1 hm with e | h
        · rw [e] at hn; exact absurd hn hb'
        · exact (h2 k').1 h hn
      · exact (h2 k').2 (fun h => hn ⟨by simp [h.1], h.2⟩)
theorem dstep_obj {out : V} (h : VObj out) (a q : V) (k : ByteArray) : VObj (V.dstep a q k out) := by
  unfold V.dstep; split
  · split
    · exact h
    · exact h.put k _
  · exact h.put k _
theorem dstep_member {out : V} (h : VObj out) (a q : V) (k k' : ByteArray) : (V.dstep a q k out).member k' = if k = k' then (match a.member k with | some o => if o.same q = true then out.member k' else some (q.dif o) | none => some q) else out.member k' := by
  unfold V.dstep
  cases a.member k with
  | none => simp only; rw [member_put h]
  | some o =>
    simp only
    split
    · split <;> rfl
    · rw [member_put h]
theorem dgo_spec (a : V) : ∀ (l : List V) (ks : List ByteArray) (out : V), VObj out → ks.length = l.length → ks.Nodup → VObj (V.dif.go a l ks out) ∧ ∀ k', (V.dif.go a l ks out).member k' = match lk ks l k' with | none => out.member k' | some q => match a.member k' with | some o => if o.same q = true then out.member k' else some (q.dif o) | none => some q
  | [], [], v, hv, _, _ => by rw [dgo_nil]; exact ⟨hv, fun k' => rfl⟩
  | [], _ :: _, _, _, h, _ => by simp at h
  | _ :: _, [], _, _, h, _ => by simp at h
  | q :: r, k :: ks, v, hv, hl, hn => by
    have hn' := List.nodup_cons.1 hn
    rw [dgo_cons]
    obtain ⟨h1, h2⟩ := dgo_spec a r ks (V.dstep a q k v) (dstep_obj hv a q k) (by simpa using hl) hn'.2
    refine ⟨h1, fun k' => ?_⟩
    rw [h2, lk, dstep_member hv]
    by_cases e : k = k'
    · subst e
      rw [lk_none ks r hn'.1]
      simp
    · simp only [if_neg e]
theorem dif_obj {b a : V} (hb : b.sound) (ha : a.sound) (b5 : b.k = 5) (a5 : a.k = 5) : VObj (b.dif a) ∧ ∀ k, (b.dif a).member k = match b.member k with
    | none => if (a.member k).isNone = true then none else some V.zero
    | some q => match a.member k with | some o => if o.same q = true then none else some (q.dif o) | none => some q := by
  have ob := sound_obj hb b5
  have oa := sound_obj ha a5
  rw [dif_eq, if_neg (by simp [a5, b5])]
  obtain ⟨g1, g2⟩ := gone_spec b a.keys V.none5 none5_obj
  obtain ⟨h1, h2⟩ := dgo_spec a b.l b.keys _ g1 ob.len ob.nodup
  refine ⟨h1, fun k => ?_⟩
  rw [h2, ← ob.member]
  have g3 := g2 k
  rw [member_none5] at g3
  cases hq : b.member k with
  | none =>
    simp only
    by_cases hk : k ∈ a.keys
    · rw [g3.1 hk hq, if_neg (by simpa using (oa.keys_iff k).1 hk)]
    · rw [g3.2 (fun h => hk h.1), if_pos]
      by_cases h : a.member k = none
      · rw [h]; rfl
      · exact absurd ((oa.keys_iff k).2 h) hk
  | some q =>
    rw [g3.2 (fun h => by rw [hq] at h; cases h.2)]
theorem dif_k {b a : V} (hb : b.sound) (ha : a.sound) (h0 : b.k ≠ 0) : (b.dif a).k ≠ 0 := by
  by_cases h : a.k ≠ 5 ∨ b.k ≠ 5
  · rw [dif_eq, if_pos h]; exact h0
  · have h' : a.k = 5 ∧ b.k = 5 := by
      constructor
      · exact Classical.byContradiction fun e => h (.inl e)
      · exact Classical.byContradiction fun e => h (.inr e)
    rw [(dif_obj hb ha h'.2 h'.1).1.k5]; decide
/-- What is other, merged into the old value, makes the new one. -/
theorem dif_mrg (b : V) : b.sound → b.clean = true → ∀ a : V, a.sound → (b.dif a).mrg a = b := by
  induction b using V.ind with
  | h b ih =>
    intro hb hc a ha
    by_cases b5 : b.k = 5
    · by_cases a5 : a.k = 5
      · obtain ⟨o1, m1⟩ := dif_obj hb ha b5 a5
        have oa := sound_obj ha a5
        have ob := sound_obj hb b5
        rw [mrg_eq, if_pos o1.k5, base_of a5]
        obtain ⟨o2, m2⟩ := mgo_spec (b.dif a).l (b.dif a).keys a oa o1.len o1.nodup
        refine obj_ext o2 ob fun k => ?_
        rw [m2, ← o1.member, m1]
        cases hq : b.member k with
        | none =>
          cases hz : a.member k with
          | none => simp
          | some o => simp [show V.zero.k = 0 from rfl]
        | some q =>
          have hqm := member_mem hq
          obtain ⟨c1, c2⟩ := clean_item hc b5 hqm
          cases hz : a.member k with
          | none =>
            simp only [if_neg c1, Option.getD_none]
            rw [mrg_new q (hb.item hqm) c2 V.zero zero_sound (by decide)]
          | some o =>
            by_cases hs : o.same q = true
            · obtain rfl := (same_iff o q).1 hs
              simp [hs]
            · simp only [if_neg hs]
              rw [if_neg (dif_k (hb.item hqm) (member_sound ha hz) c1)]
              simp only [Option.getD_some]
              rw [ih q hqm (hb.item hqm) c2 o (member_sound ha hz)]
      · rw [dif_eq, if_pos (.inl a5)]
        exact mrg_new b hb hc a ha a5
    · rw [dif_eq, if_pos (.inr b5), mrg_eq, if_neg b5]
theorem dif_self {a : V} (h : a.sound) (h5 : a.k = 5) : a.dif a = V.none5 := by
  obtain ⟨o1, m1⟩ := dif_obj h h h5 h5
  refine obj_ext o1 none5_obj fun k => ?_
  rw [m1, member_none5]
  cases hm : a.member k with
  | none => simp
  | some q => simp [(same_iff q q).2 rfl]
theorem mrg_none5 {a : V} (h5 : a.k = 5) : V.none5.mrg a = a := by
  rw [mrg_eq, if_pos (by rfl), base_of h5]
  exact mgo_nil _ _

/-! What is other is sound, and not great. -/
theorem gone_sound (b : V) : ∀ (ks : List ByteArray) (out : V), (∀ k ∈ ks, plainB k = true) → out.sound → out.k = 5 → (b.gone ks out).sound ∧ (b.gone ks out).k = 5 ∧ (b.gone ks out).count ≤ out.count + ks.length
  | [], out, _, ho, h5 => by rw [V.gone]; exact ⟨ho, h5, by simp⟩
  | k :: ks, out, hk, ho, h5 => by
    rw [V.gone]
    split
    · have h1 := put_sound ho zero_sound (hk k (by simp)) h5
      have h2 := ((sound_obj ho h5).put k V.zero).k5
      have h3 := count_put (sound_obj ho h5) k V.zero
      have h4 : V.zero.count = 1 := by rw [V.count_eq]; rfl
      obtain ⟨g1, g2, g3⟩ := gone_sound b ks _ (fun z hz => hk z (by simp [hz])) h1 h2
      exact ⟨g1, g2, by simp only [List.length_cons]; omega⟩
    · obtain ⟨g1, g2, g3⟩ := gone_sound b ks _ (fun z hz => hk z (by simp [hz])) ho h5
      exact ⟨g1, g2, by simp only [List.length_cons]; omega⟩
theorem dstep_sound {a q out : V} {M : Nat} (hq : q.sound) (ha : a.sound) (ih : ∀ z : V, z.sound → z.count ≤ M → (q.dif z).sound ∧ (q.dif z).count ≤ q.count * (M + 1)) (hM : a.count ≤ M) (ho : out.sound) (h5 : out.k = 5) {k : ByteArray} (hk : plainB k = true) :
    (V.dstep a q k out).sound ∧ (V.dstep a q k out).count ≤ out.count + q.count * (M + 1) := by
  unfold V.dstep
  have hc : ∀ y : V, (out.put k y).count ≤ out.count + y.count := fun y => by have := count_put (sound_obj ho h5) k y; omega
  cases hm : a.member k with
  | none =>
    have := hc q
    refine ⟨put_sound ho hq hk h5, ?_⟩
    have : q.count ≤ q.count * (M + 1) := Nat.le_mul_of_pos_right _ (by omega)
    simp only; omega
  | some o =>
    simp only
    split
    · exact ⟨ho, by omega⟩
    · have h1 := sum_ge V.count (member_mem hm)
      have h2 := V.count_eq a
      obtain ⟨i1, i2⟩ := ih o (member_sound ha hm) (by omega)
      have := hc (q.dif o)
      exact ⟨put_sound ho i1 hk h5, by omega⟩
theorem dgo_sound {a : V} {M : Nat} (ha : a.sound) (hM : a.count ≤ M) : ∀ (l : List V) (ks : List ByteArray) (out : V), (∀ q ∈ l, q.sound ∧ ∀ z : V, z.sound → z.count ≤ M → (q.dif z).sound ∧ (q.dif z).count ≤ q.count * (M + 1)) → (∀ k ∈ ks, plainB k = true) → out.sound → out.k = 5 → ks.length = l.length →
    (V.dif.go a l ks out).sound ∧ (V.dif.go a l ks out).k = 5 ∧ (V.dif.go a l ks out).count ≤ out.count + (l.map V.count).sum * (M + 1)
  | [], ks, out, _, _, ho, h5, _ => by rw [dgo_nil]; exact ⟨ho, h5, by simp⟩
  | _ :: _, [], _, _, _, _, _, h => by simp at h
  | q :: r, k :: ks, out, hq, hk, ho, h5, hl => by
    rw [dgo_cons]
    obtain ⟨s1, s2⟩ := dstep_sound (hq q (by simp)).1 ha (hq q (by simp)).2 hM ho h5 (hk k (by simp))
    obtain ⟨g1, g2, g3⟩ := dgo_sound ha hM r ks (V.dstep a q k out) (fun z hz => hq z (by simp [hz])) (fun z hz => hk z (by simp [hz])) s1 (dstep_obj (sound_obj ho h5) a q k).k5 (by simpa using hl)
    refine ⟨g1, g2, ?_⟩
    simp only [List.map_cons, List.sum_cons, Nat.add_mul]
    omega
theorem dif_sound (M : Nat) (b : V) : b.sound → ∀ a : V, a.sound → a.count ≤ M → (b.dif a).sound ∧ (b.dif a).count ≤ b.count * (M + 1) := by
  induction b using V.ind with
  | h b ih =>
    intro hb a ha hM
    rw [dif_eq]
    by_cases h : a.k ≠ 5 ∨ b.k ≠ 5
    · rw [if_pos h]
      exact ⟨hb, Nat.le_mul_of_pos_right _ (by omega)⟩
    · rw [if_neg h]
      have h' : a.k = 5 ∧ b.k = 5 := by
        constructor
        · exact Classical.byContradiction fun e => h (.inl e)
        · exact Classical.byContradiction fun e => h (.inr e)
      obtain ⟨g1, g2, g3⟩ := gone_sound b a.keys V.none5 ha.flat.kp none5_sound rfl
      obtain ⟨d1, d2, d3⟩ := dgo_sound ha hM b.l b.keys _ (fun q hq => ⟨hb.item hq, fun z hz hzM => ih q hq (hb.item hq) z hz hzM⟩) hb.flat.kp g1 g2 (hb.flat.len h'.2)
      refine ⟨d1, ?_⟩
      have e1 : V.none5.count = 1 := by rw [V.count_eq]; rfl
      have e2 := ha.flat.len h'.1
      have e3 := V.count_eq a
      have e4 := sum_len V.count V.count_pos a.l
      have e5 := V.count_eq b
      have e6 : b.count * (M + 1) = (M + 1) + (b.l.map V.count).sum * (M + 1) := by rw [e5, Nat.add_mul, Nat.one_mul]
      omega
theorem dif_size {b a : V} (hb : b.fine = true) (ha : a.fine = true) : (b.dif a).size ≤ 1771440 := by
  have h1 := dif_sound 120 b (fine_sound hb) a (fine_sound ha) (fine_count ha)
  have h2 := sound_size h1.1
  have h3 := fine_count hb
  omega
/-- merge.Diff. -/
def diffV (a b : V) : V × Int := if a.fine = false ∨ b.fine = false ∨ b.clean = false then (V.zero, 1) else if (b.dif a).fine = false then (V.zero, 2) else (b.dif a, 0)
theorem diff_bad {a b : V} (h : (diffV a b).2 ≠ 0) : (diffV a b).1 = V.zero := by
  unfold diffV at *
  split
  · rfl
  · split
    · rfl
    · rename_i h1 h2; rw [if_neg h1, if_neg h2] at h; exact absurd rfl h
theorem diff_ok {a b : V} (h : (diffV a b).2 = 0) : a.fine = true ∧ b.fine = true ∧ b.clean = true ∧ (b.dif a).fine = true ∧ diffV a b = (b.dif a, 0) := by
  unfold diffV at *
  split at h
  · simp at h
  · rename_i h1
    simp only [not_or, Bool.not_eq_false] at h1
    split at h
    · simp at h
    · rename_i h2
      rw [if_neg (by simp [h1]), if_neg h2]
      exact ⟨h1.1, h1.2.1, h1.2.2, by simpa using h2, rfl⟩
/-- What is other, merged, makes the second: what Diff and Merge answer. -/
theorem diff_merge {a b : V} (h : (diffV a b).2 = 0) : mergeV a (diffV a b).1 = (b, 0) := by
  obtain ⟨h1, h2, h3, h4, h5⟩ := diff_ok h
  rw [h5]
  have e := dif_mrg b (fine_sound h2) h3 a (fine_sound h1)
  unfold mergeV
  simp only
  rw [if_neg (by simp [h1, h4]), e, if_neg (by simp [h2])]
theorem none5_fine : V.none5.fine = true := by decide +kernel
theorem diff_self {a : V} (h : a.fine = true) (hc : a.clean = true) (h5 : a.k = 5) : diffV a a = (V.none5, 0) := by
  unfold diffV
  rw [if_neg (by simp [h, hc]), dif_self (fine_sound h) h5, if_neg (by rw [none5_fine]; decide)]
theorem merge_none5 {a : V} (h : a.fine = true) (h5 : a.k = 5) : mergeV a V.none5 = (a, 0) := by
  unfold mergeV
  rw [if_neg (by rw [none5_fine, h]; decide), mrg_none5 h5, if_neg (by rw [h]; decide)]
end Go.Proofs.YtjibdbnpkfghhaaGreatDoor

/- A region that draws its order: a condition on the world that need hold only until one of its operations (the first store) has come up: loads ahead of it may be taken first. -/
namespace Go.Proofs.YtjibdbnpkfghhaaGreatDoor
open Go

section
variable {P : Program} {ops : Array Oper} {Q : Exit → Act → World → Prop} {md : Region.Mode} {S : World → Prop} {c : Nat}

/-- Whatever order is picked, and, until operation c has come up, S holds behind each. -/
def wpAnyT (P : Program) (md : Region.Mode) (ops : Array Oper) (Q : Exit → Act → World → Prop) (S : World → Prop) (c : Nat) : Nat → Array Bool → Act → World → Prop
  | 0, listed, a, w => Region.ready md ops listed = [] ∧ Q .normal a w
  | fuel + 1, listed, a, w =>
    (Region.ready md ops listed = [] → Q .normal a w) ∧
    ∀ i ∈ Region.ready md ops listed, wpOp P ops Q i (fun a' w' => ((listed.setIfInBounds i true).getD c true = false → S w') ∧ wpAnyT P md ops Q S c fuel (listed.setIfInBounds i true) a' w') a w

theorem wpAny_of_till : ∀ (fuel : Nat) (listed : Array Bool) (a : Act) (w : World), wpAnyT P md ops Q S c fuel listed a w → wpAny P md ops Q fuel listed a w
  | 0, _, _, _, h => h
  | fuel + 1, _, _, _, h => ⟨h.1, fun i hi => wpOp_mono (fun a' w' h' => wpAny_of_till fuel _ a' w' h'.2) (h.2 i hi)⟩

/-- x waits for i. -/
def dependsB (md : Region.Mode) (ops : Array Oper) (i x : Nat) : Bool := match ops[x]? with
  | some o => o.after.any fun e => Region.binds md e && e.on == i
  | none => false
/-- Each waits for the one ahead of it, the first for i. -/
def chainB (md : Region.Mode) (ops : Array Oper) : Nat → List Nat → Bool
  | _, [] => true
  | i, x :: r => dependsB md ops i x && chainB md ops x r
theorem not_chain {listed : Array Bool} : ∀ (ch : List Nat) (i : Nat), chainB md ops i ch = true → listed.getD i true = false → (∀ x ∈ ch, listed.getD x true = false) → ∀ j ∈ Region.ready md ops listed, j ∉ ch
  | [], _, _, _, _, _, _ => by simp
  | x :: r, i, hc, hi, hx, j, hj => by
    simp only [chainB, Bool.and_eq_true] at hc
    have ih := not_chain r x hc.2 (hx x (by simp)) (fun y hy => hx y (by simp [hy])) j hj
    intro hm
    rcases List.mem_cons.1 hm with rfl | hm
    · obtain ⟨-, oj, hoj, hall⟩ := mem_ready.1 hj
      have hd := hc.1
      unfold dependsB at hd
      rw [hoj] at hd
      simp only [Array.any_eq_true'] at hd
      obtain ⟨e, he, hb⟩ := hd
      simp only [Bool.and_eq_true, beq_iff_eq] at hb
      have h1 := hall e he hb.1
      rw [hb.2] at h1
      rcases Nat.lt_or_ge i listed.size with h' | h'
      · simp [h'] at hi h1; rw [hi] at h1; cases h1
      · simp [Array.getElem?_eq_none h'] at hi
    · exact ih hm

theorem wpAnyT_first {i : Nat} {ch : List Nat} {oi : Oper} {v : Value} (hi : ops[i]? = some oi) (hsel : ∀ (j : Nat) (o : Oper) cs b, ops[j]? = some o → o.op ≠ .select cs b)
    (hQ : ∀ c a w, Q (.panic c) (a.put oi.dst v) w → Q (.panic c) a w) (hch : chainB md ops i ch = true) (hcc : c ∈ ch) (hich : i ∉ ch) :
    ∀ (fuel : Nat) (listed : Array Bool) (a : Act) (w : World),
      (∀ j oj, ops[j]? = some oj → j ≠ i → listed.getD j true = false → (∀ e ∈ oj.after, Region.binds md e = true → e.on ≠ i) → oi.apart ops oj = true) →
      i ∈ Region.ready md ops listed → (∀ x ∈ ch, listed.getD x true = false) → YieldsIf P ops S oi v a → S w →
      wpAnyT P md ops Q S c fuel (listed.setIfInBounds i true) (a.put oi.dst v) w → wpAnyT P md ops Q S c (fuel + 1) listed a w := by
  intro fuel
  induction fuel with
  | zero =>
    intro listed a w _ hr hcl hy hS H
    refine ⟨fun h => (by rw [h] at hr; cases hr), fun j hj => ?_⟩
    by_cases hji : j = i
    · subst hji; exact hy.wpOp hi hS ⟨fun _ => hS, H⟩
    · have := ready_mono hj hji
      rw [H.1] at this
      cases this
  | succ fuel ih =>
    intro listed a w hfree hr hcl hy hS H
    refine ⟨fun h => (by rw [h] at hr; cases hr), fun j hj => ?_⟩
    by_cases hji : j = i
    · subst hji; exact hy.wpOp hi hS ⟨fun _ => hS, H⟩
    · have h1 := H.2 j (ready_mono hj hji)
      obtain ⟨hjun, oj, hoj, hall⟩ := mem_ready.1 hj
      have hnot : ∀ e ∈ oj.after, Region.binds md e = true → e.on ≠ i := fun e he hb heq => by
        have h1 := hall e he hb
        have h0 := (mem_ready.1 hr).1
        rw [heq] at h1
        rcases Nat.lt_or_ge i listed.size with h' | h'
        · simp [h'] at h0 h1; rw [h0] at h1; cases h1
        · simp [Array.getElem?_eq_none h'] at h1
      have hi0 : listed.getD i true = false := (mem_ready.1 hr).1
      have hjch := not_chain ch i hch hi0 hcl j hj
      have hjc : j ≠ c := fun e => hjch (e ▸ hcc)
      have hci : i ≠ c := fun e => hich (e ▸ hcc)
      have h2 := wpOp_putIf hoj (hfree j oj hoj hji hjun hnot) (fun cs b => hsel i oi cs b hi) (fun cs b => hsel j oj cs b hoj) hQ hy h1
      have hfree' : ∀ k ok, ops[k]? = some ok → k ≠ i → (listed.setIfInBounds j true).getD k true = false →
          (∀ e ∈ ok.after, Region.binds md e = true → e.on ≠ i) → oi.apart ops ok = true := fun k ok hk hki hun hno => by
        refine hfree k ok hk hki ?_ hno
        by_cases hjk : j = k
        · subst hjk; exact hjun
        · rw [getD_set_ne true hjk] at hun; exact hun
      have hcj : ∀ x ∈ ch, (listed.setIfInBounds j true).getD x true = false := fun x hx => by rw [getD_set_ne true (fun e : j = x => hjch (e ▸ hx))]; exact hcl x hx
      have hcij : ((listed.setIfInBounds i true).setIfInBounds j true).getD c true = false := by rw [getD_set_ne true hjc, getD_set_ne true hci]; exact hcl c hcc
      refine wpOp_mono (fun a' w' h3 => ⟨fun _ => h3.2.1 hcij, ih (listed.setIfInBounds j true) a' w' hfree' (ready_mono hr (Ne.symm hji)) hcj h3.1 (h3.2.1 hcij) ?_⟩) h2
      rw [Array.setIfInBounds_comm _ _ hji]
      exact h3.2.2

theorem wpAnyT_take {i : Nat} {oi : Oper} {v : Value} {fuel : Nat} {listed : Array Bool} {a : Act} {w : World} (ch : List Nat) (hi : ops[i]? = some oi)
    (hs : Region.noSelect ops = true) (hf : Region.free md ops listed i = true) (hr : (Region.ready md ops listed).contains i = true) (hch : chainB md ops i ch = true)
    (hcc : ch.contains c = true) (hich : ch.contains i = false) (hcl : (ch.all fun x => !listed.getD x true) = true)
    (hQ : ∀ c a w, Q (.panic c) (a.put oi.dst v) w → Q (.panic c) a w) (hy : YieldsIf P ops S oi v a) (hS : S w)
    (h : wpAnyT P md ops Q S c fuel (listed.setIfInBounds i true) (a.put oi.dst v) w) : wpAnyT P md ops Q S c (fuel + 1) listed a w := by
  refine wpAnyT_first hi (Region.noSelect_spec hs) hQ hch (by simpa using hcc) (by simpa using hich) fuel listed a w (Region.free_spec hi hf) (by simpa using hr) ?_ hy hS h
  intro x hx
  have := List.all_eq_true.1 hcl x hx
  simpa using this

/-- Each of the operations rs comes up next. -/
def AllReadyT (P : Program) (md : Region.Mode) (ops : Array Oper) (Q : Exit → Act → World → Prop) (S : World → Prop) (c : Nat) (fuel : Nat) (listed : Array Bool) (a : Act) (w : World) (rs : List Nat) : Prop :=
  ∀ i ∈ rs, wpOp P ops Q i (fun a' w' => ((listed.setIfInBounds i true).getD c true = false → S w') ∧ wpAnyT P md ops Q S c fuel (listed.setIfInBounds i true) a' w') a w
theorem AllReadyT.nil {fuel : Nat} {listed : Array Bool} {a : Act} {w : World} : AllReadyT P md ops Q S c fuel listed a w [] := fun _ h => by cases h
theorem AllReadyT.cons {fuel : Nat} {listed : Array Bool} {a : Act} {w : World} {i : Nat} {o : Oper} {rs : List Nat} (ho : ops[i]? = some o)
    (h : ∀ K' : Act → World → Prop, Shut (∀ a w, ((listed.setIfInBounds i true).getD c true = false → S w) → wpAnyT P md ops Q S c fuel (listed.setIfInBounds i true) a w → K' a w) → if Region.wanted o (yielded ops a.tmps) = true then Oper.wp P o a w K' Q else K' (a.put o.dst undef) w)
    (hs : AllReadyT P md ops Q S c fuel listed a w rs) : AllReadyT P md ops Q S c fuel listed a w (i :: rs) := fun j hj => by
  rcases List.mem_cons.1 hj with rfl | hj
  · exact wpOp_step ho (fun K' hK => h K' (fun a w hS hW => hK a w ⟨hS, hW⟩))
  · exact hs j hj
theorem wpAnyT_ready {rs : List Nat} {fuel : Nat} {listed : Array Bool} {a : Act} {w : World} (hr : Region.ready md ops listed = rs) (hne : rs ≠ [])
    (h : AllReadyT P md ops Q S c fuel listed a w rs) : wpAnyT P md ops Q S c (fuel + 1) listed a w := ⟨fun h0 => absurd (hr ▸ h0) hne, hr ▸ h⟩
/-- One operation alone comes up. -/
theorem wpAnyT_one {fuel : Nat} {listed : Array Bool} {a : Act} {w : World} {i : Nat} {o : Oper} (hr : Region.ready md ops listed = [i]) (ho : ops[i]? = some o)
    (h : ∀ K' : Act → World → Prop, Shut (∀ a w, ((listed.setIfInBounds i true).getD c true = false → S w) → wpAnyT P md ops Q S c fuel (listed.setIfInBounds i true) a w → K' a w) → if Region.wanted o (yielded ops a.tmps) = true then Oper.wp P o a w K' Q else K' (a.put o.dst undef) w) :
    wpAnyT P md ops Q S c (fuel + 1) listed a w := wpAnyT_ready hr (by simp) (AllReadyT.cons ho h AllReadyT.nil)
theorem wpAnyT_done {listed : Array Bool} {a : Act} {w : World} (hr : Region.ready md ops listed = []) (h : Q .normal a w) :
    ∀ fuel, wpAnyT P md ops Q S c fuel listed a w
  | 0 => ⟨hr, h⟩
  | _ + 1 => ⟨fun _ => h, by rw [hr]; simp⟩
theorem wp_region_till {id : Nat} {a : Act} {w : World} (hm : P.follows .mixedOrders = true)
    (h : wpAnyT P .any ops Q S c ops.size (Array.replicate ops.size false) a w.drew) : (Code.region id ops true).wp P Q a w :=
  wp_region_any hm (wpAny_of_till _ _ _ _ h)
end
end Go.Proofs.YtjibdbnpkfghhaaGreatDoor

/- Paths, apart from memory: what the library's Split and ReplaceAll come to, letter by letter; a path's names, names' path, and that each leads back. -/
namespace Go.Proofs.YtjibdbnpkfghhaaGreatDoor
open Go

abbrev Bytes1 := List UInt8

theorem index_cons_hit {b : UInt8} {l sub : List UInt8} (h : sub.isPrefixOf (b :: l) = true) : Lib.index (b :: l) sub = 0 := by rw [Lib.index, if_pos h]
theorem index_cons_miss {b : UInt8} {l sub : List UInt8} (h : sub.isPrefixOf (b :: l) = false) : Lib.index (b :: l) sub = if Lib.index l sub == -1 then -1 else Lib.index l sub + 1 := by rw [Lib.index, if_neg (by simp [h])]
theorem index_nil {sub : List UInt8} (h : sub ≠ []) : Lib.index [] sub = -1 := by
  cases sub with
  | nil => exact absurd rfl h
  | cons a r => rfl

theorem rep_nil {old new : List UInt8} (h : old ≠ []) : Lib.replaceAll [] old new = [] := by
  unfold Lib.replaceAll Lib.replace
  split
  · rfl
  · have : Lib.replaceNum [] old (-1) = 0 := by simp [Lib.replaceNum, Lib.count_miss (index_nil h)]
    rw [this, Lib.replaceK]
theorem rep_eq {s old new : List UInt8} (hne : (old == new) = false) : Lib.replaceAll s old new = Lib.replaceK old new (Lib.count s old) s := by
  unfold Lib.replaceAll Lib.replace
  rw [if_neg (by simp [hne])]
  simp [Lib.replaceNum]
theorem rep_hit {b : UInt8} {l old new : List UInt8} (ho : old ≠ []) (hne : (old == new) = false) (h : old.isPrefixOf (b :: l) = true) : Lib.replaceAll (b :: l) old new = new ++ Lib.replaceAll ((b :: l).drop old.length) old new := by
  have hi : Lib.index (b :: l) old = (0 : Nat) := index_cons_hit h
  rw [rep_eq hne, rep_eq hne, Lib.count_hit ho hi, Nat.add_comm 1, Lib.replaceK_hit _ _ _ _ 0 hi]
  simp
theorem rep_miss {b : UInt8} {l old new : List UInt8} (ho : old ≠ []) (hne : (old == new) = false) (h : old.isPrefixOf (b :: l) = false) : Lib.replaceAll (b :: l) old new = b :: Lib.replaceAll l old new := by
  rw [rep_eq hne, rep_eq hne]
  have hi := index_cons_miss h
  have hge := Lib.index_ge l old
  by_cases hm : Lib.index l old = -1
  · rw [hm] at hi
    have hi : Lib.index (b :: l) old = -1 := by simpa using hi
    rw [Lib.count_miss hm, Lib.count_miss hi, Lib.replaceK, Lib.replaceK]
  · obtain ⟨i, he⟩ : ∃ i : Nat, Lib.index l old = i := ⟨(Lib.index l old).toNat, by omega⟩
    have hi : Lib.index (b :: l) old = ((i + 1 : Nat) : Int) := by
      rw [hi, he, if_neg (by simp <;> omega)]; rfl
    rw [Lib.count_hit ho he, Lib.count_hit ho hi, Nat.add_comm 1, Nat.add_comm 1, Lib.replaceK_hit _ _ _ _ _ he, Lib.replaceK_hit _ _ _ _ _ hi]
    have e : i + 1 + old.length = (i + old.length) + 1 := by omega
    rw [e]
    simp

/-- A letter more ahead of the first piece. -/
def ahead (b : UInt8) : List (List UInt8) → List (List UInt8)
  | [] => [[b]]
  | p :: ps => (b :: p) :: ps
theorem split_nil {c : UInt8} : Lib.split [] [c] = [[]] := by
  unfold Lib.split
  rw [Lib.count_miss (index_nil (by simp)), Lib.splitK]
theorem split_hit {c : UInt8} {l : List UInt8} : Lib.split (c :: l) [c] = [] :: Lib.split l [c] := by
  have hi : Lib.index (c :: l) [c] = (0 : Nat) := index_cons_hit (by simp [List.isPrefixOf])
  unfold Lib.split
  rw [Lib.count_hit (by simp) hi, Nat.add_comm 1, Lib.splitK, if_neg (by rw [hi]; decide), hi]
  simp
theorem split_miss {b c : UInt8} {l : List UInt8} (h : b ≠ c) : Lib.split (b :: l) [c] = ahead b (Lib.split l [c]) := by
  have hp : ([c] : List UInt8).isPrefixOf (b :: l) = false := by simp [List.isPrefixOf]; exact fun e => h e.symm
  have hi := index_cons_miss hp
  have hge := Lib.index_ge l [c]
  unfold Lib.split
  by_cases hm : Lib.index l [c] = -1
  · rw [hm] at hi
    have hi : Lib.index (b :: l) [c] = -1 := by simpa using hi
    rw [Lib.count_miss hm, Lib.count_miss hi, Lib.splitK, Lib.splitK, ahead]
  · obtain ⟨i, he⟩ : ∃ i : Nat, Lib.index l [c] = i := ⟨(Lib.index l [c]).toNat, by omega⟩
    have hi : Lib.index (b :: l) [c] = ((i + 1 : Nat) : Int) := by
      rw [hi, he, if_neg (by simp <;> omega)]; rfl
    rw [Lib.count_hit (by simp) he, Lib.count_hit (by simp) hi, Nat.add_comm 1, Nat.add_comm 1, Lib.splitK, Lib.splitK, if_neg (by rw [hi]; simp <;> omega), if_neg (by rw [he]; simp <;> omega), hi, he]
    simp [ahead]

/-- A name's letters, as a path tells them. -/
def escB (x : UInt8) : List UInt8 := if x = 126 then [126, 48] else if x = 47 then [126, 49] else [x]
def escN (s : List UInt8) : List UInt8 := Lib.replaceAll (Lib.replaceAll s [126] [126, 48]) [47] [126, 49]
def unescN (s : List UInt8) : List UInt8 := Lib.replaceAll (Lib.replaceAll s [126, 49] [47]) [126, 48] [126]
theorem rep_one (a : UInt8) (new : List UInt8) (hne : ([a] == new) = false) (s : List UInt8) : Lib.replaceAll s [a] new = s.flatMap fun x => if x = a then new else [x] := by
  induction s with
  | nil => exact rep_nil (by simp)
  | cons x r ih =>
    by_cases h : x = a
    · subst h
      rw [rep_hit (by simp) hne (by simp [List.isPrefixOf])]
      simp [ih]
    · rw [rep_miss (by simp) hne (by simp [List.isPrefixOf]; exact fun e => h e.symm)]
      simp [ih, h]
theorem escN_eq (s : List UInt8) : escN s = s.flatMap escB := by
  unfold escN
  rw [rep_one _ _ (by decide), rep_one _ _ (by decide)]
  induction s with
  | nil => rfl
  | cons x r ih =>
    simp only [List.flatMap_cons, List.flatMap_append, ih]
    congr 1
    unfold escB
    by_cases h : x = 126
    · subst h; decide
    · by_cases h2 : x = 47
      · subst h2; decide
      · simp [h, h2]
theorem r1_cons {x : UInt8} {r : List UInt8} (h : x ≠ 126) (a b : UInt8) (hne : ([126, a] == [b]) = false) : Lib.replaceAll (x :: r) [126, a] [b] = x :: Lib.replaceAll r [126, a] [b] :=
  rep_miss (by simp) hne (by simp [List.isPrefixOf]; intro e; exact absurd e.symm h)
theorem r1_hit {a b : UInt8} {r : List UInt8} : Lib.replaceAll (126 :: a :: r) [126, a] [b] = b :: Lib.replaceAll r [126, a] [b] := by
  rw [rep_hit (by simp) (by simp) (by simp [List.isPrefixOf])]; simp
theorem r1_other {a b c : UInt8} {r : List UInt8} (h : c ≠ a) : Lib.replaceAll (126 :: c :: r) [126, a] [b] = 126 :: Lib.replaceAll (c :: r) [126, a] [b] :=
  rep_miss (by simp) (by simp) (by simp [List.isPrefixOf]; exact fun e => h e.symm)
theorem unesc_esc (s : List UInt8) : unescN (escN s) = s := by
  rw [escN_eq]
  unfold unescN
  have h1 : Lib.replaceAll (s.flatMap escB) [126, 49] [47] = s.flatMap fun x => if x = 126 then [126, 48] else [x] := by
    induction s with
    | nil => exact rep_nil (by simp)
    | cons x r ih =>
      simp only [List.flatMap_cons, escB]
      by_cases h : x = 126
      · subst h
        simp only [if_true, List.cons_append, List.nil_append]
        rw [r1_other (by decide), r1_cons (by decide) _ _ (by decide), ih]
      · by_cases h2 : x = 47
        · subst h2
          simp (decide := true) only [if_true, if_false, List.cons_append, List.nil_append]
          rw [r1_hit, ih]
        · simp only [h, h2, if_false, List.cons_append, List.nil_append]
          rw [r1_cons h _ _ (by decide), ih]
  rw [h1]
  clear h1
  induction s with
  | nil => exact rep_nil (by simp)
  | cons x r ih =>
    simp only [List.flatMap_cons]
    by_cases h : x = 126
    · subst h
      simp only [if_true, List.cons_append, List.nil_append]
      rw [r1_hit, ih]
    · simp only [h, if_false, List.cons_append, List.nil_append]
      rw [r1_cons h _ _ (by decide), ih]

/-- Behind each tilde stands a zero or a one. -/
def tildeL : List UInt8 → Bool
  | [] => true
  | x :: r => (x != 126 || (match r with | c :: _ => c == 48 || c == 49 | [] => false)) && tildeL r
theorem esc_unesc : ∀ (s : List UInt8), tildeL s = true → (∀ x ∈ s, x ≠ 47) → escN (unescN s) = s
  | [], _, _ => by simp [escN, unescN, rep_nil]
  | [x], h, h47 => by
    have hx : x ≠ 126 := by intro e; subst e; simp [tildeL] at h
    have h47 := h47 x (by simp)
    rw [escN_eq]; unfold unescN
    rw [r1_cons hx _ _ (by decide), rep_nil (by simp), r1_cons hx _ _ (by decide), rep_nil (by simp)]
    simp [escB, hx, h47]
  | x :: y :: r, h, h47 => by
    have h47x := h47 x (by simp)
    have h47y := h47 y (by simp)
    by_cases hx : x = 126
    · subst hx
      simp only [tildeL, bne_self_eq_false, Bool.false_or, Bool.and_eq_true, Bool.or_eq_true, beq_iff_eq] at h
      obtain ⟨hy, -, hr⟩ := h
      have ih := esc_unesc r hr (fun z hz => h47 z (by simp [hz]))
      rw [escN_eq] at ih ⊢
      unfold unescN at ih ⊢
      rcases hy with rfl | rfl
      · rw [r1_other (by decide), r1_cons (x := 48) (by decide) 49 47 (by decide), r1_hit]
        simp only [List.flatMap_cons, ih]
        rfl
      · rw [r1_hit, r1_cons (x := 47) (by decide) 48 126 (by decide)]
        simp only [List.flatMap_cons, ih]
        rfl
    · have hr : tildeL (y :: r) = true := by
        rw [tildeL] at h
        simp only [Bool.and_eq_true] at h
        exact h.2
      have ih := esc_unesc (y :: r) hr (fun z hz => h47 z (by simp [hz]))
      rw [escN_eq] at ih ⊢
      unfold unescN at ih ⊢
      rw [r1_cons hx _ _ (by decide), r1_cons hx _ _ (by decide)]
      simp only [List.flatMap_cons, ih]
      simp [escB, hx, h47x]

/-- The names of a path. -/
def namesL (p : List UInt8) : Option (List (List UInt8)) :=
  match p with
  | [] => some []
  | c :: r => if c = 47 ∧ p.length ≤ 2000 then (if (Lib.split r [47]).all tildeL = true then some ((Lib.split r [47]).map unescN) else none) else none
/-- The path of names. -/
def joinL (l : List (List UInt8)) : List UInt8 := l.flatMap fun x => 47 :: escN x

theorem split_clean (s : List UInt8) : ∀ q ∈ Lib.split s [47], ∀ x ∈ q, x ≠ 47 := by
  induction s with
  | nil => rw [split_nil]; simp
  | cons b l ih =>
    by_cases h : b = 47
    · subst h; rw [split_hit]
      intro q hq
      rcases List.mem_cons.1 hq with rfl | hq
      · simp
      · exact ih q hq
    · rw [split_miss h]
      cases hs : Lib.split l [47] with
      | nil => simp [ahead, h]
      | cons p ps =>
        rw [hs] at ih
        intro q hq x hx
        simp only [ahead, List.mem_cons] at hq
        rcases hq with rfl | hq
        · rcases List.mem_cons.1 hx with rfl | hx
          · exact h
          · exact ih p (by simp) x hx
        · exact ih q (by simp [hq]) x hx
theorem split_join (s : List UInt8) : (Lib.split s [47]).flatMap (fun q => 47 :: q) = 47 :: s := by
  induction s with
  | nil => rw [split_nil]; rfl
  | cons b l ih =>
    by_cases h : b = 47
    · subst h; rw [split_hit]; simp only [List.flatMap_cons, ih]; rfl
    · rw [split_miss h]
      cases hs : Lib.split l [47] with
      | nil => rw [hs] at ih; simp at ih
      | cons p ps =>
        rw [hs] at ih
        simp only [List.flatMap_cons, List.cons_append, List.cons.injEq, true_and] at ih
        simp only [ahead, List.flatMap_cons, List.cons_append, ih]
theorem split_of (q : List UInt8) (h : ∀ x ∈ q, x ≠ 47) : Lib.split q [47] = [q] := by
  induction q with
  | nil => exact split_nil
  | cons b l ih => rw [split_miss (h b (by simp)), ih (fun x hx => h x (by simp [hx]))]; rfl
theorem split_app (q s : List UInt8) (h : ∀ x ∈ q, x ≠ 47) : Lib.split (q ++ 47 :: s) [47] = q :: Lib.split s [47] := by
  induction q with
  | nil => exact split_hit
  | cons b l ih => rw [List.cons_append, split_miss (h b (by simp)), ih (fun x hx => h x (by simp [hx]))]; rfl
theorem esc_clean (s : List UInt8) : ∀ x ∈ escN s, x ≠ 47 := by
  rw [escN_eq]
  intro x hx
  simp only [List.mem_flatMap] at hx
  obtain ⟨y, -, hy⟩ := hx
  unfold escB at hy
  split at hy
  · simp at hy; rcases hy with rfl | rfl <;> decide
  · split at hy
    · simp at hy; rcases hy with rfl | rfl <;> decide
    · simp at hy; subst hy; assumption
theorem esc_tilde (s : List UInt8) : tildeL (escN s) = true := by
  rw [escN_eq]
  induction s with
  | nil => rfl
  | cons x r ih =>
    simp only [List.flatMap_cons, escB]
    split
    · simp [tildeL, ih]
    · split
      · simp [tildeL, ih]
      · rename_i h1 h2
        simp only [List.cons_append, List.nil_append]
        rw [tildeL.eq_def]
        simp [h1, ih]
theorem split_joinL (x : List UInt8) (l : List (List UInt8)) : Lib.split (escN x ++ joinL l) [47] = escN x :: l.map escN := by
  induction l generalizing x with
  | nil => simp only [joinL, List.flatMap_nil, List.append_nil, List.map_nil]; exact split_of _ (esc_clean x)
  | cons y r ih =>
    simp only [joinL, List.flatMap_cons, List.cons_append, List.map_cons]
    rw [split_app _ _ (esc_clean x)]
    have := ih y
    simp only [joinL] at this
    rw [this]
theorem escN_len (s : List UInt8) : (escN s).length ≤ 2 * s.length := by
  rw [escN_eq]
  induction s with
  | nil => simp
  | cons x r ih =>
    simp only [List.flatMap_cons, List.length_append, List.length_cons]
    have : (escB x).length ≤ 2 := by
      unfold escB
      split
      · simp
      · split <;> simp
    omega
/-- Names' path is split into them again. -/
theorem names_join (l : List (List UInt8)) (h : (joinL l).length ≤ 2000) : namesL (joinL l) = some l := by
  cases l with
  | nil => rfl
  | cons x r =>
    have hs := split_joinL x r
    have e : joinL (x :: r) = 47 :: (escN x ++ joinL r) := by simp [joinL]
    rw [e] at h ⊢
    unfold namesL
    simp only
    rw [if_pos ⟨trivial, h⟩, hs, if_pos (by simp [esc_tilde]), ← List.map_cons, List.map_map, show unescN ∘ escN = id from funext unesc_esc, List.map_id]
/-- The names of a path are joined to it again. -/
theorem join_names {p : List UInt8} {l : List (List UInt8)} (h : namesL p = some l) : joinL l = p := by
  unfold namesL at h
  cases p with
  | nil => simp at h; subst h; rfl
  | cons c r =>
    simp only at h
    split at h
    · rename_i hc
      split at h
      · rename_i ht
        simp only [Option.some.injEq] at h
        subst h
        obtain ⟨rfl, -⟩ := hc
        unfold joinL
        rw [List.flatMap_map]
        have : ∀ q ∈ Lib.split r [47], escN (unescN q) = q := fun q hq => esc_unesc q (List.all_eq_true.1 ht q hq) (split_clean r q hq)
        rw [show (Lib.split r [47]).flatMap (fun a => 47 :: escN (unescN a)) = (Lib.split r [47]).flatMap (fun q => 47 :: q) from by
          rw [List.flatMap_def, List.flatMap_def]
          congr 1
          exact List.map_congr_left fun q hq => by rw [this q hq]]
        exact split_join r
      · cases h
    · cases h
end Go.Proofs.YtjibdbnpkfghhaaGreatDoor

/- Places in values, apart from memory: what stands at a path, what is done there, and that what is put or added is got, and taken away again leaves all as it was. No program in sight. -/
namespace Go.Proofs.YtjibdbnpkfghhaaGreatDoor

/-- Which item a name means; n, if it is a dash. -/
def idxV (name : ByteArray) (n : Nat) : Option Nat :=
  if name.data.toList = [45] then some n else
  match Lib.atoiAll name.data.toList with
  | .ok k => if name.size ≤ 4 ∧ 0 ≤ k ∧ Lib.itoa k = name.data.toList then some k.toNat else none
  | _ => none
theorem idxV_any {name : ByteArray} (h : name.data.toList ≠ [45]) (n m : Nat) : idxV name n = idxV name m := by
  unfold idxV; rw [if_neg h, if_neg h]

/-- Which item of a value a name means. -/
def V.child (x : V) (name : ByteArray) : Option Nat :=
  if x.k = 5 then (if hasB x.keys name = true then some (posOf x.keys name) else none)
  else if x.k = 4 then (idxV name x.l.length).bind fun k => if k < x.l.length then some k else none
  else none
def V.setL (x : V) (i : Nat) (y : V) : V := .mk x.k x.n x.s x.keys (x.l.set i y)
def V.insL (x : V) (i : Nat) (y : V) : V := .mk x.k x.n x.s x.keys (x.l.take i ++ y :: x.l.drop i)
def V.delL (x : V) (i : Nat) : V := .mk x.k x.n x.s x.keys (x.l.take i ++ x.l.drop (i + 1))

theorem child_lt {x : V} (h : x.sound) {name : ByteArray} {i : Nat} (hc : x.child name = some i) : i < x.l.length := by
  unfold V.child at hc
  split at hc
  · rename_i h5
    split at hc
    · rename_i hb
      have := hasB_lt hb
      rw [h.flat.len h5] at this
      cases hc; exact this
    · cases hc
  · split at hc
    · cases hi : idxV name x.l.length with
      | none => rw [hi] at hc; cases hc
      | some k =>
        rw [hi] at hc
        simp only [Option.bind_some] at hc
        split at hc
        · rename_i hlt; cases hc; exact hlt
        · cases hc
    · cases hc
theorem child_same {x y : V} (hk : y.k = x.k) (hks : y.keys = x.keys) (hl : y.l.length = x.l.length) (name : ByteArray) : y.child name = x.child name := by
  unfold V.child; rw [hk, hks, hl]
theorem child_setL (x : V) (i : Nat) (y : V) (name : ByteArray) : (x.setL i y).child name = x.child name := child_same (x := x) (y := x.setL i y) rfl rfl (by simp [V.setL]) name

/-- What stands behind names. -/
def getV : List ByteArray → V → Option V
  | [], x => some x
  | a :: r, x => (x.child a).bind fun i => (x.l[i]?).bind (getV r)

abbrev Doer := V → ByteArray → V × Int
/-- Something is done at the end of names. -/
def atV (F : Doer) : List ByteArray → V → V × Int
  | [], x => (x, 3)
  | a :: r, x => if r = [] then F x a else
    match x.child a with
    | none => (x, 3)
    | some i =>
      match x.l[i]? with
      | none => (x, 3)
      | some y => if (atV F r y).2 = 0 then (x.setL i (atV F r y).1, 0) else (x, (atV F r y).2)
theorem atV_one (F : Doer) (a : ByteArray) (x : V) : atV F [a] x = F x a := by simp [atV]
theorem atV_none {F : Doer} {a b : ByteArray} {r : List ByteArray} {x : V} (h : x.child a = none) : atV F (a :: b :: r) x = (x, 3) := by
  rw [atV, if_neg (by simp), h]
theorem atV_some {F : Doer} {a b : ByteArray} {r : List ByteArray} {x : V} {i : Nat} (h : x.child a = some i) (hi : i < x.l.length) :
    atV F (a :: b :: r) x = if (atV F (b :: r) x.l[i]).2 = 0 then (x.setL i (atV F (b :: r) x.l[i]).1, 0) else (x, (atV F (b :: r) x.l[i]).2) := by
  rw [atV, if_neg (by simp), h]
  simp only [List.getElem?_eq_getElem hi]

def addF (y : V) : Doer := fun x name =>
  if x.k = 5 then (x.put name y, 0)
  else if x.k = 4 then
    match idxV name x.l.length with
    | some i => if i ≤ x.l.length then (x.insL i y, 0) else (x, 3)
    | none => (x, 3)
  else (x, 3)
def remF : Doer := fun x name =>
  match x.child name with
  | none => (x, 3)
  | some i => if x.k = 5 then (x.del name, 0) else (x.delL i, 0)
def putF (y : V) : Doer := fun x name =>
  match x.child name with
  | none => (x, 3)
  | some i => (x.setL i y, 0)

/-- A path's names. -/
def namesB (p : ByteArray) : Option (List ByteArray) := (namesL p.data.toList).map fun l => l.map fun s => ⟨s.toArray⟩
theorem namesB_of {p : ByteArray} {ks : List ByteArray} (h : namesL p.data.toList = some (ks.map (·.data.toList))) : namesB p = some ks := by
  unfold namesB
  rw [h]
  simp only [Option.map_some, List.map_map, Option.some.injEq]
  have : ((fun s : List UInt8 => (⟨s.toArray⟩ : ByteArray)) ∘ fun k : ByteArray => k.data.toList) = id := by
    funext k; rfl
  rw [this, List.map_id]
theorem namesB_none {p : ByteArray} (h : namesL p.data.toList = none) : namesB p = none := by
  unfold namesB; rw [h]; rfl

/-- Something is done at a path; what comes of it must be a value still. -/
def changeV (x : V) (p : ByteArray) (F : Doer) : V × Int :=
  match namesB p with
  | none => (x, 1)
  | some l => if x.fine = false then (x, 1) else if l = [] then (x, 1) else
    if (atV F l x).2 = 0 then (if (atV F l x).1.fine = true then ((atV F l x).1, 0) else (x, 2)) else (x, (atV F l x).2)
def getP (x : V) (p : ByteArray) : V × Int :=
  match namesB p with
  | none => (V.zero, 1)
  | some l => if x.fine = false then (V.zero, 1) else match getV l x with | some y => (y, 0) | none => (V.zero, 3)
def addP (x : V) (p : ByteArray) (y : V) : V × Int := if y.fine = false then (x, 1) else if p.data.toList = [] ∧ x.fine = true then (y, 0) else changeV x p (addF y)
def putP (x : V) (p : ByteArray) (y : V) : V × Int := if y.fine = false then (x, 1) else if p.data.toList = [] ∧ x.fine = true then (y, 0) else changeV x p (putF y)
def remP (x : V) (p : ByteArray) : V × Int := changeV x p remF

theorem names_empty {p : ByteArray} (h : p.data.toList = []) : namesB p = some [] := by unfold namesB; rw [h]; rfl
theorem names_some {p : ByteArray} {l : List ByteArray} (h : namesB p = some l) (hp : p.data.toList ≠ []) : l ≠ [] := by
  unfold namesB at h
  cases hn : namesL p.data.toList with
  | none => rw [hn] at h; cases h
  | some m =>
    rw [hn] at h
    simp only [Option.map_some, Option.some.injEq] at h
    rintro rfl
    have hm : m = [] := by simpa using h
    subst hm
    unfold namesL at hn
    cases hq : p.data.toList with
    | nil => exact hp hq
    | cons c r =>
      rw [hq] at hn
      simp only at hn
      split at hn
      · split at hn
        · simp only [Option.some.injEq, List.map_eq_nil_iff] at hn
          have := split_join r
          rw [hn] at this
          simp at this
        · cases hn
      · cases hn

theorem getV_set {x y : V} {i : Nat} (hi : i < x.l.length) {a : ByteArray} {r : List ByteArray} (hc : x.child a = some i) : getV (a :: r) (x.setL i y) = getV r y := by
  simp only [getV, child_setL, hc, Option.bind_some]
  have : (x.setL i y).l[i]? = some y := by simp [V.setL, List.getElem?_set, hi]
  rw [this, Option.bind_some]

theorem put_pos {ks : List ByteArray} (h : Rises ks) {key : ByteArray} (hn : hasB ks key = false) : hasB (ks.take (posOf ks key) ++ key :: ks.drop (posOf ks key)) key = true ∧ posOf (ks.take (posOf ks key) ++ key :: ks.drop (posOf ks key)) key = posOf ks key := by
  have hr := rises_insert h hn
  have hl := posOf_le ks key
  have hlt : posOf ks key < (ks.take (posOf ks key) ++ key :: ks.drop (posOf ks key)).length := by simp; omega
  have hg : (ks.take (posOf ks key) ++ key :: ks.drop (posOf ks key))[posOf ks key] = key := by
    rw [List.getElem_append_right (by simp; omega)]
    simp [Nat.min_eq_left hl]
  have hp := pos_of_at hr hlt hg
  refine ⟨?_, hp⟩
  rw [hasB_iff, hp, List.getElem?_eq_getElem hlt, hg]
theorem put_child {x : V} (h : x.sound) (h5 : x.k = 5) (name : ByteArray) (y : V) : ∃ i, (x.put name y).child name = some i ∧ (x.put name y).l[i]? = some y := by
  have hf := h.flat
  by_cases hb : hasB x.keys name = true
  · rw [put_yes ⟨h5, hf.len h5⟩ hb]
    refine ⟨posOf x.keys name, by simp [V.child, h5, hb], ?_⟩
    have := hasB_lt hb
    rw [hf.len h5] at this
    simp [List.getElem?_set, this]
  · have hb : hasB x.keys name = false := by simpa using hb
    rw [put_new ⟨h5, hf.len h5⟩ hb]
    obtain ⟨h1, h2⟩ := put_pos hf.rise hb
    refine ⟨posOf x.keys name, by unfold V.child; rw [if_pos (show (V.mk x.k x.n x.s _ _).k = 5 from h5), if_pos (show hasB (V.mk x.k x.n x.s _ _).keys name = true from h1)]; exact congrArg some h2, ?_⟩
    have hl := posOf_le x.keys name
    rw [hf.len h5] at hl
    simp only [V.l_mk]
    rw [List.getElem?_append_right (by simp; omega)]
    simp [Nat.min_eq_left hl]
theorem ins_child {x : V} (h4 : x.k = 4) {name : ByteArray} (hd : name.data.toList ≠ [45]) {i : Nat} (hi : idxV name x.l.length = some i) (hl : i ≤ x.l.length) (y : V) : (x.insL i y).child name = some i ∧ (x.insL i y).l[i]? = some y := by
  have e : idxV name (x.insL i y).l.length = some i := by rw [idxV_any hd _ x.l.length]; exact hi
  have hlt : i < (x.insL i y).l.length := by simp [V.insL]; omega
  refine ⟨?_, ?_⟩
  · unfold V.child
    rw [if_neg (by simp [V.insL, h4]), if_pos (by simp [V.insL, h4]), e]
    simp [hlt]
  · simp only [V.insL, V.l_mk]
    rw [List.getElem?_append_right (by simp; omega)]
    simp [Nat.min_eq_left hl]

/-- What is put at the end of names is got there. -/
theorem at_put_get {y : V} (l : List ByteArray) (hl : l ≠ []) (x : V) (h : x.sound) (h0 : (atV (putF y) l x).2 = 0) : getV l (atV (putF y) l x).1 = some y := by
  induction l generalizing x with
  | nil => exact absurd rfl hl
  | cons a r ih =>
    cases r with
    | nil =>
      rw [atV_one] at h0 ⊢
      unfold putF at h0 ⊢
      cases hc : x.child a with
      | none => rw [hc] at h0; simp at h0
      | some i => simp only; rw [getV_set (child_lt h hc) hc]; rfl
    | cons b r =>
      cases hc : x.child a with
      | none => rw [atV_none hc] at h0; simp at h0
      | some i =>
        have hi := child_lt h hc
        rw [atV_some hc hi] at h0 ⊢
        by_cases e : (atV (putF y) (b :: r) x.l[i]).2 = 0
        · rw [if_pos e]
          rw [getV_set hi hc]
          exact ih (by simp) _ (h.item (List.getElem_mem hi)) e
        · rw [if_neg e] at h0; exact absurd h0 e
/-- What is added at the end of names is got there, if the last is no dash. -/
theorem at_add_get {y : V} (l : List ByteArray) (hl : l ≠ []) (hd : (l.getLast hl).data.toList ≠ [45]) (x : V) (h : x.sound) (h0 : (atV (addF y) l x).2 = 0) : getV l (atV (addF y) l x).1 = some y := by
  induction l generalizing x with
  | nil => exact absurd rfl hl
  | cons a r ih =>
    cases r with
    | nil =>
      rw [atV_one] at h0 ⊢
      simp only [List.getLast_singleton] at hd
      unfold addF at h0 ⊢
      by_cases h5 : x.k = 5
      · rw [if_pos h5]
        obtain ⟨i, h1, h2⟩ := put_child h h5 a y
        simp [getV, h1, h2]
      · rw [if_neg h5] at h0 ⊢
        by_cases h4 : x.k = 4
        · rw [if_pos h4] at h0 ⊢
          cases hi : idxV a x.l.length with
          | none => rw [hi] at h0; simp at h0
          | some i =>
            rw [hi] at h0
            simp only at h0 ⊢
            by_cases hle : i ≤ x.l.length
            · rw [if_pos hle]
              obtain ⟨h1, h2⟩ := ins_child h4 hd hi hle y
              simp [getV, h1, h2]
            · rw [if_neg hle] at h0; simp at h0
        · rw [if_neg h4] at h0; simp at h0
    | cons b r =>
      cases hc : x.child a with
      | none => rw [atV_none hc] at h0; simp at h0
      | some i =>
        have hi := child_lt h hc
        rw [atV_some hc hi] at h0 ⊢
        by_cases e : (atV (addF y) (b :: r) x.l[i]).2 = 0
        · rw [if_pos e]
          rw [getV_set hi hc]
          exact ih (by simp) (by simpa using hd) _ (h.item (List.getElem_mem hi)) e
        · rw [if_neg e] at h0; exact absurd h0 e

theorem del_put {x : V} (h : x.sound) (h5 : x.k = 5) {name : ByteArray} (hb : hasB x.keys name = false) (y : V) : (x.put name y).del name = x := by
  have hf := h.flat
  have hlen := hf.len h5
  have hl := posOf_le x.keys name
  obtain ⟨h1, h2⟩ := put_pos hf.rise hb
  rw [put_new ⟨h5, hlen⟩ hb]
  rw [del_yes (x := .mk x.k x.n x.s _ _) ⟨h5, by simp; omega⟩ h1]
  simp only [V.keys_mk, V.l_mk, V.k_mk, V.n_mk, V.s_mk]
  rw [h2]
  have e1 : ∀ {α : Type} (l : List α) (a : α) (p : Nat), p ≤ l.length → (l.take p ++ a :: l.drop p).take p ++ (l.take p ++ a :: l.drop p).drop (p + 1) = l := by
    intro α l a p hp
    have e : (l.take p).length = p := by simp; omega
    rw [List.take_append_of_le_length (by omega), List.take_of_length_le (by omega), List.drop_append, List.drop_of_length_le (by omega), e]
    simp [show p + 1 - p = 1 by omega]
  rw [e1 _ _ _ hl, e1 _ _ _ (by omega)]
  exact V.eta x
theorem delL_insL (x y : V) {i : Nat} (hi : i ≤ x.l.length) : (x.insL i y).delL i = x := by
  unfold V.insL V.delL
  simp only [V.keys_mk, V.l_mk, V.k_mk, V.n_mk, V.s_mk]
  have e : (x.l.take i).length = i := by simp; omega
  rw [List.take_append_of_le_length (by omega), List.take_of_length_le (by omega), List.drop_append, List.drop_of_length_le (by omega), e]
  simp only [show i + 1 - i = 1 by omega, List.drop_succ_cons, List.drop_zero, List.nil_append, List.take_append_drop]
  exact V.eta x
theorem setL_setL (x y z : V) (i : Nat) : (x.setL i y).setL i z = x.setL i z := by simp [V.setL]
theorem setL_self (x : V) {i : Nat} (hi : i < x.l.length) : x.setL i x.l[i] = x := by
  unfold V.setL; rw [List.set_getElem_self]; exact V.eta x

/-- What was added is taken away again; if it was not there, all is as it was. -/
theorem at_undo {y : V} (l : List ByteArray) (hl : l ≠ []) (hd : (l.getLast hl).data.toList ≠ [45]) (x : V) (h : x.sound) (h0 : (atV (addF y) l x).2 = 0) :
    (atV remF l (atV (addF y) l x).1).2 = 0 ∧ (getV l x = none → (atV remF l (atV (addF y) l x).1).1 = x) := by
  induction l generalizing x with
  | nil => exact absurd rfl hl
  | cons a r ih =>
    cases r with
    | nil =>
      simp only [atV_one] at h0 ⊢
      simp only [List.getLast_singleton] at hd
      unfold addF at h0 ⊢
      by_cases h5 : x.k = 5
      · rw [if_pos h5]
        obtain ⟨i, h1, h2⟩ := put_child h h5 a y
        have hk5 : (x.put a y).k = 5 := by
          unfold V.put; split
          · split <;> simp [h5]
          · exact h5
        unfold remF
        simp only [h1, hk5, if_true, true_and]
        intro hg
        refine del_put h h5 ?_ y
        cases hb : hasB x.keys a with
        | false => rfl
        | true =>
          exfalso
          have hlt := hasB_lt hb
          rw [h.flat.len h5] at hlt
          simp [getV, V.child, h5, hb, List.getElem?_eq_getElem hlt] at hg
      · rw [if_neg h5] at h0 ⊢
        by_cases h4 : x.k = 4
        · rw [if_pos h4] at h0 ⊢
          cases hi : idxV a x.l.length with
          | none => rw [hi] at h0; simp at h0
          | some i =>
            rw [hi] at h0
            simp only at h0 ⊢
            by_cases hle : i ≤ x.l.length
            · rw [if_pos hle]
              obtain ⟨h1, h2⟩ := ins_child h4 hd hi hle y
              unfold remF
              have hk5 : ¬ (x.insL i y).k = 5 := by simp [V.insL, h4]
              simp only [h1, hk5, if_false, true_and]
              intro _
              exact delL_insL x y hle
            · rw [if_neg hle] at h0; simp at h0
        · rw [if_neg h4] at h0; simp at h0
    | cons b r =>
      cases hc : x.child a with
      | none => rw [atV_none hc] at h0; simp at h0
      | some i =>
        have hi := child_lt h hc
        rw [atV_some hc hi] at h0
        by_cases e : (atV (addF y) (b :: r) x.l[i]).2 = 0
        · have hih := ih (by simp) (by simpa using hd) _ (h.item (List.getElem_mem hi)) e
          have ea : (atV (addF y) (a :: b :: r) x).1 = x.setL i (atV (addF y) (b :: r) x.l[i]).1 := by rw [atV_some hc hi, if_pos e]
          rw [ea]
          have hi2 : i < (x.setL i (atV (addF y) (b :: r) x.l[i]).1).l.length := by simpa [V.setL] using hi
          have hg2 : (x.setL i (atV (addF y) (b :: r) x.l[i]).1).l[i] = (atV (addF y) (b :: r) x.l[i]).1 := by simp [V.setL]
          rw [atV_some (by rw [child_setL]; exact hc) hi2, hg2, if_pos hih.1]
          refine ⟨rfl, fun hg => ?_⟩
          have hg' : getV (b :: r) x.l[i] = none := by
            simp only [getV, hc, Option.bind_some, List.getElem?_eq_getElem hi] at hg ⊢
            exact hg
          rw [hih.2 hg', setL_setL, setL_self x hi]
        · rw [if_neg e] at h0; exact absurd h0 e

/-- What is taken away leaves a good value good. -/
theorem good_setL {x y : V} {d : Int} (h : x.good d = true) (i : Nat) (hy : y.good (d + 1) = true) : (x.setL i y).good d = true := by
  rw [V.good_eq, Bool.and_eq_true, List.all_eq_true] at h ⊢
  obtain ⟨h1, h2⟩ := h
  obtain ⟨hf, hd⟩ := flat_of h1
  refine ⟨of_flat ⟨hf.k0, hf.k5, hf.n0, hf.s0, hf.ks0, fun a => ?_, hf.n1, hf.nlo, hf.nhi, hf.sp, fun a => ?_, hf.kp, hf.rise⟩ hd, ?_⟩
  · have := hf.l0 a; simp [V.setL, this]
  · have := hf.len a; simp [V.setL, this]
  · intro z hz
    rcases List.mem_or_eq_of_mem_set hz with hz | rfl
    · exact h2 z hz
    · exact hy
theorem mem_erase {α : Type} {l : List α} {p : Nat} {a : α} (h : a ∈ l.take p ++ l.drop (p + 1)) : a ∈ l := by
  rcases List.mem_append.1 h with h | h
  · exact List.mem_of_mem_take h
  · exact List.mem_of_mem_drop h
theorem good_delL {x : V} {d : Int} (h : x.good d = true) (h4 : x.k = 4) (i : Nat) : (x.delL i).good d = true := by
  rw [V.good_eq, Bool.and_eq_true, List.all_eq_true] at h ⊢
  obtain ⟨h1, h2⟩ := h
  obtain ⟨hf, hd⟩ := flat_of h1
  refine ⟨of_flat ⟨hf.k0, hf.k5, hf.n0, hf.s0, hf.ks0, fun a => ?_, hf.n1, hf.nlo, hf.nhi, hf.sp, fun a => ?_, hf.kp, hf.rise⟩ hd, fun z hz => h2 z (mem_erase hz)⟩
  · have a' : x.k < 4 := a
    omega
  · have a' : x.k = 5 := a
    omega
theorem good_del {x : V} {d : Int} (h : x.good d = true) (name : ByteArray) : (x.del name).good d = true := by
  by_cases h5 : x.k = 5 ∧ x.keys.length = x.l.length
  · by_cases hb : hasB x.keys name = true
    · rw [del_yes h5 hb]
      rw [V.good_eq, Bool.and_eq_true, List.all_eq_true] at h ⊢
      obtain ⟨h1, h2⟩ := h
      obtain ⟨hf, hd⟩ := flat_of h1
      refine ⟨of_flat ⟨hf.k0, hf.k5, hf.n0, hf.s0, fun a => absurd h5.1 a, fun a => ?_, hf.n1, hf.nlo, hf.nhi, hf.sp, fun a => ?_, fun k hk => hf.kp k (mem_erase hk), rises_erase hf.rise _⟩ hd, fun z hz => h2 z (mem_erase hz)⟩
      · have a' : x.k < 4 := a
        omega
      · have := h5.2
        simp only [V.keys_mk, V.l_mk, List.length_append, List.length_take, List.length_drop]; omega
    · rw [del_no (by simpa using hb)]; exact h
  · rw [del_not h5]; exact h
theorem count_setL {x y : V} {i : Nat} (hi : i < x.l.length) (hy : y.count ≤ (x.l[i]).count) : (x.setL i y).count ≤ x.count := by
  rw [V.count_eq, V.count_eq x]
  have : ∀ (l : List V) (i : Nat) (hi : i < l.length), y.count ≤ (l[i]).count → ((l.set i y).map V.count).sum ≤ (l.map V.count).sum := by
    intro l
    induction l with
    | nil => intro i hi; simp at hi
    | cons b r ih =>
      intro i hi hy
      cases i with
      | zero => simp only [List.getElem_cons_zero] at hy; simp only [List.set_cons_zero, List.map_cons, List.sum_cons]; omega
      | succ i => have := ih i (by simpa using hi) (by simpa using hy); simp only [List.set_cons_succ, List.map_cons, List.sum_cons]; omega
  have := this x.l i hi hy
  simp only [V.setL, V.l_mk]; omega
theorem count_delL (x : V) (i : Nat) : (x.delL i).count ≤ x.count := by
  rw [V.count_eq, V.count_eq x]
  have := sum_erase V.count x.l i
  simp only [V.delL, V.l_mk]; omega
theorem count_del (x : V) (name : ByteArray) : (x.del name).count ≤ x.count := by
  by_cases h5 : x.k = 5 ∧ x.keys.length = x.l.length
  · by_cases hb : hasB x.keys name = true
    · rw [del_yes h5 hb]; exact count_delL x _
    · rw [del_no (by simpa using hb)]; omega
  · rw [del_not h5]; omega
theorem good_sound {x : V} {d : Int} (h : x.good d = true) : x.sound := ⟨d, h⟩
theorem good_item {x : V} {d : Int} (h : x.good d = true) {i : Nat} (hi : i < x.l.length) : (x.l[i]).good (d + 1) = true := by
  rw [V.good_eq, Bool.and_eq_true, List.all_eq_true] at h
  exact h.2 _ (List.getElem_mem hi)
theorem at_rem_good (l : List ByteArray) (x : V) (d : Int) (h : x.good d = true) : (atV remF l x).1.good d = true ∧ (atV remF l x).1.count ≤ x.count := by
  induction l generalizing x d with
  | nil => exact ⟨h, Nat.le_refl _⟩
  | cons a r ih =>
    cases r with
    | nil =>
      rw [atV_one]
      unfold remF
      cases hc : x.child a with
      | none => exact ⟨h, Nat.le_refl _⟩
      | some i =>
        simp only
        by_cases h5 : x.k = 5
        · rw [if_pos h5]; exact ⟨good_del h _, count_del x _⟩
        · rw [if_neg h5]
          have h4 : x.k = 4 := by
            unfold V.child at hc
            rw [if_neg h5] at hc
            split at hc
            · assumption
            · cases hc
          exact ⟨good_delL h h4 i, count_delL x i⟩
    | cons b r =>
      cases hc : x.child a with
      | none => rw [atV_none hc]; exact ⟨h, Nat.le_refl _⟩
      | some i =>
        have hi := child_lt (good_sound h) hc
        rw [atV_some hc hi]
        have := ih x.l[i] (d + 1) (good_item h hi)
        split
        · exact ⟨good_setL h i this.1, count_setL hi this.2⟩
        · exact ⟨h, Nat.le_refl _⟩

/-- changeV where it goes through. -/
theorem change_ok_iff {x : V} {p : ByteArray} {F : Doer} (h : (changeV x p F).2 = 0) : ∃ l, namesB p = some l ∧ l ≠ [] ∧ x.fine = true ∧ (atV F l x).2 = 0 ∧ (atV F l x).1.fine = true ∧ (changeV x p F).1 = (atV F l x).1 := by
  unfold changeV at h ⊢
  cases hn : namesB p with
  | none => rw [hn] at h; simp at h
  | some l =>
    rw [hn] at h
    simp only at h ⊢
    by_cases hf : x.fine = false
    · rw [if_pos hf] at h; simp at h
    · rw [if_neg hf] at h ⊢
      by_cases hl : l = []
      · rw [if_pos hl] at h; simp at h
      · rw [if_neg hl] at h ⊢
        by_cases h0 : (atV F l x).2 = 0
        · rw [if_pos h0] at h ⊢
          by_cases hg : (atV F l x).1.fine = true
          · rw [if_pos hg]
            exact ⟨l, rfl, hl, by simpa using hf, h0, hg, rfl⟩
          · rw [if_neg hg] at h; simp at h
        · rw [if_neg h0] at h; exact absurd h h0
theorem change_not {x : V} {p : ByteArray} {F : Doer} (h : (changeV x p F).2 ≠ 0) : (changeV x p F).1 = x := by
  unfold changeV at h ⊢
  cases hn : namesB p with
  | none => rfl
  | some l =>
    rw [hn] at h
    simp only at h ⊢
    by_cases h1 : x.fine = false
    · rw [if_pos h1]
    · rw [if_neg h1] at h ⊢
      by_cases h2 : l = []
      · rw [if_pos h2]
      · rw [if_neg h2] at h ⊢
        by_cases h3 : (atV F l x).2 = 0
        · rw [if_pos h3] at h ⊢
          by_cases h4 : (atV F l x).1.fine = true
          · rw [if_pos h4] at h; exact absurd rfl h
          · rw [if_neg h4]
        · rw [if_neg h3]
theorem change_mk {x : V} {p : ByteArray} {F : Doer} {l : List ByteArray} (hn : namesB p = some l) (hl : l ≠ []) (hf : x.fine = true) (h0 : (atV F l x).2 = 0) (hg : (atV F l x).1.fine = true) : changeV x p F = ((atV F l x).1, 0) := by
  unfold changeV
  rw [hn]
  simp only
  rw [if_neg (by rw [hf]; decide), if_neg hl, if_pos h0, if_pos hg]

/-- PointAdds, of Put. -/
theorem put_law (x y : V) (p : ByteArray) : ((putP x p y).2 ≠ 0 → (putP x p y).1 = x) ∧ ((putP x p y).2 = 0 → (putP x p y).1.fine = true ∧ getP (putP x p y).1 p = (y, 0)) := by
  unfold putP
  by_cases hy : y.fine = false
  · rw [if_pos hy]; exact ⟨fun _ => rfl, fun h => by simp at h⟩
  · rw [if_neg hy]
    have hy' : y.fine = true := by simpa using hy
    by_cases hp : p.data.toList = [] ∧ x.fine = true
    · rw [if_pos hp]
      refine ⟨fun h => absurd rfl h, fun _ => ⟨hy', ?_⟩⟩
      unfold getP
      rw [names_empty hp.1]
      simp [hy', getV]
    · rw [if_neg hp]
      refine ⟨change_not, fun h => ?_⟩
      obtain ⟨l, hn, hl, hf, h0, hg, he⟩ := change_ok_iff h
      rw [he]
      refine ⟨hg, ?_⟩
      have := at_put_get l hl x (fine_sound hf) h0
      unfold getP
      rw [hn]
      simp only
      rw [if_neg (by rw [hg]; decide), this]
/-- PointAdds, of Add. -/
theorem add_law (x y : V) (p : ByteArray) : ((addP x p y).2 ≠ 0 → (addP x p y).1 = x) ∧ ((addP x p y).2 = 0 → (addP x p y).1.fine = true ∧ ∃ l, namesB p = some l ∧ (∀ hl : l ≠ [], (l.getLast hl).data.toList ≠ [45] → getP (addP x p y).1 p = (y, 0)) ∧ (l = [] → getP (addP x p y).1 p = (y, 0))) := by
  unfold addP
  by_cases hy : y.fine = false
  · rw [if_pos hy]; exact ⟨fun _ => rfl, fun h => by simp at h⟩
  · rw [if_neg hy]
    have hy' : y.fine = true := by simpa using hy
    by_cases hp : p.data.toList = [] ∧ x.fine = true
    · rw [if_pos hp]
      refine ⟨fun h => absurd rfl h, fun _ => ⟨hy', [], names_empty hp.1, fun hl => absurd rfl hl, fun _ => ?_⟩⟩
      unfold getP
      rw [names_empty hp.1]
      simp [hy', getV]
    · rw [if_neg hp]
      refine ⟨change_not, fun h => ?_⟩
      obtain ⟨l, hn, hl, hf, h0, hg, he⟩ := change_ok_iff h
      rw [he]
      refine ⟨hg, l, hn, fun hl hd => ?_, fun h => absurd h hl⟩
      have := at_add_get l hl hd x (fine_sound hf) h0
      unfold getP
      rw [hn]
      simp only
      rw [if_neg (by rw [hg]; decide), this]
/-- PointUndoes. -/
theorem undo_law (x y : V) (p : ByteArray) (l : List ByteArray) (hn : namesB p = some l) (hl : l ≠ []) (hd : (l.getLast hl).data.toList ≠ [45]) (h : (addP x p y).2 = 0) :
    (remP (addP x p y).1 p).2 = 0 ∧ ((getP x p).2 = 3 → (remP (addP x p y).1 p).1 = x) := by
  unfold addP at h ⊢
  by_cases hy : y.fine = false
  · rw [if_pos hy] at h; simp at h
  · rw [if_neg hy] at h ⊢
    by_cases hp : p.data.toList = [] ∧ x.fine = true
    · rw [names_empty hp.1] at hn
      exact absurd (Option.some.inj hn).symm hl
    · rw [if_neg hp] at h ⊢
      obtain ⟨l', hn', hl', hf, h0, hg, he⟩ := change_ok_iff h
      rw [hn] at hn'
      obtain rfl := Option.some.inj hn'
      rw [he]
      obtain ⟨h1, h2⟩ := at_undo l hl hd x (fine_sound hf) h0
      have hg1 : (atV (addF y) l x).1.good 1 = true := by simp only [V.fine, Bool.and_eq_true] at hg; exact hg.1
      obtain ⟨h3, h4⟩ := at_rem_good l _ 1 hg1
      have hg2 : (atV remF l (atV (addF y) l x).1).1.fine = true := by
        simp only [V.fine, Bool.and_eq_true, decide_eq_true_eq]
        have := fine_count hg
        exact ⟨h3, by omega⟩
      have hm := change_mk hn hl hg h1 hg2
      unfold remP
      rw [hm]
      refine ⟨rfl, fun h => h2 ?_⟩
      unfold getP at h
      rw [hn] at h
      simp only at h
      rw [if_neg (by rw [hf]; decide)] at h
      cases hq : getV l x with
      | none => rfl
      | some z => rw [hq] at h; simp at h
end Go.Proofs.YtjibdbnpkfghhaaGreatDoor
