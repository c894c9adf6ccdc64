/- Values: what a value of package json is, apart from memory; how it lies in memory. -/
import Derived.Test.YtknnflobpjppfaaDoorBase
set_option linter.all false
namespace Go.Proofs.YtknnflobpjppfaaDoor
open Go.RowKit

/-- A value, apart from memory. -/
inductive V where
  | mk (k n : Int) (s : ByteArray) (keys : List ByteArray) (l : List V)

def V.k : V → Int | .mk k _ _ _ _ => k
def V.n : V → Int | .mk _ n _ _ _ => n
def V.s : V → ByteArray | .mk _ _ s _ _ => s
def V.keys : V → List ByteArray | .mk _ _ _ ks _ => ks
def V.l : V → List V | .mk _ _ _ _ l => l
theorem V.eta (x : V) : V.mk x.k x.n x.s x.keys x.l = x := by cases x; rfl
@[simp] theorem V.k_mk (k n : Int) (s : ByteArray) (ks : List ByteArray) (l : List V) : (V.mk k n s ks l).k = k := rfl
@[simp] theorem V.n_mk (k n : Int) (s : ByteArray) (ks : List ByteArray) (l : List V) : (V.mk k n s ks l).n = n := rfl
@[simp] theorem V.s_mk (k n : Int) (s : ByteArray) (ks : List ByteArray) (l : List V) : (V.mk k n s ks l).s = s := rfl
@[simp] theorem V.keys_mk (k n : Int) (s : ByteArray) (ks : List ByteArray) (l : List V) : (V.mk k n s ks l).keys = ks := rfl
@[simp] theorem V.l_mk (k n : Int) (s : ByteArray) (ks : List ByteArray) (l : List V) : (V.mk k n s ks l).l = l := rfl

theorem V.ind {P : V → Prop} (h : ∀ x : V, (∀ y ∈ x.l, P y) → P x) (x : V) : P x :=
  V.rec (motive_1 := P) (motive_2 := fun l => ∀ y ∈ l, P y) (fun k n s ks l ih => h (.mk k n s ks l) ih) (fun y hy => by cases hy)
    (fun a l ha hl y hy => by rcases List.mem_cons.1 hy with rfl | hy; exact ha; exact hl y hy) x

/-- How many values there are in one, itself too. -/
def V.count : V → Nat | .mk _ _ _ _ l => 1 + go l
where go : List V → Nat
  | [] => 0
  | x :: r => V.count x + go r
theorem V.count_eq (x : V) : x.count = 1 + (x.l.map V.count).sum := by
  have h : ∀ l, V.count.go l = (l.map V.count).sum := by
    intro l; induction l with
    | nil => simp [V.count.go]
    | cons x r ih => simp [V.count.go, ih]
  cases x with | mk k n s ks l => simp [V.count, h]

def strsSize (ks : List ByteArray) : Nat := (ks.map fun k => k.size + 1).sum
/-- How much there is in one, letters too. -/
def V.size : V → Nat | .mk _ _ s ks l => 1 + s.size + strsSize ks + go l
where go : List V → Nat
  | [] => 0
  | x :: r => V.size x + go r
theorem V.size_eq (x : V) : x.size = 1 + x.s.size + strsSize x.keys + (x.l.map V.size).sum := by
  have h : ∀ l, V.size.go l = (l.map V.size).sum := by
    intro l; induction l with
    | nil => simp [V.size.go]
    | cons x r ih => simp [V.size.go, ih]
  cases x with | mk k n s ks l => simp [V.size, h]

theorem sum_ge {α : Type} (f : α → Nat) {x : α} {l : List α} (h : x ∈ l) : f x ≤ (l.map f).sum := by
  induction l with
  | nil => cases h
  | cons a r ih =>
    simp only [List.map_cons, List.sum_cons]
    rcases List.mem_cons.1 h with rfl | h
    · omega
    · have := ih h; omega
theorem sum_len {α : Type} (f : α → Nat) (hf : ∀ x, 1 ≤ f x) (l : List α) : l.length ≤ (l.map f).sum := by
  induction l with
  | nil => simp
  | cons a r ih => have := hf a; simp only [List.map_cons, List.sum_cons, List.length_cons]; omega
theorem V.size_pos (x : V) : 1 ≤ x.size := by rw [V.size_eq]; omega
theorem V.count_pos (x : V) : 1 ≤ x.count := by rw [V.count_eq]; omega
theorem V.size_mem {x y : V} (h : y ∈ x.l) : y.size < x.size := by rw [V.size_eq x]; have := sum_ge V.size h; omega
theorem V.size_item {x : V} {i : Nat} (h : i < x.l.length) : (x.l[i]).size < x.size := V.size_mem (List.getElem_mem h)
theorem V.len_l (x : V) : x.l.length < x.size := by rw [V.size_eq]; have := sum_len V.size V.size_pos x.l; omega
theorem V.len_keys (x : V) : x.keys.length < x.size := by
  rw [V.size_eq]; have := sum_len (fun k : ByteArray => k.size + 1) (fun _ => by omega) x.keys
  unfold strsSize; omega
theorem V.len_s (x : V) : x.s.size < x.size := by rw [V.size_eq]; omega
theorem V.len_key {x : V} {i : Nat} (h : i < x.keys.length) : (x.keys[i]).size < x.size := by
  rw [V.size_eq]; have := sum_ge (fun k : ByteArray => k.size + 1) (List.getElem_mem h)
  unfold strsSize; omega

/-- Texts lie behind a slice's address, in blocks of S. -/
def StrsIn (w : World) (S : Nat → Prop) (a : Option Addr) (ks : List ByteArray) : Prop :=
  ks = [] ∨ ∃ b o, a = some ⟨b, o, none⟩ ∧ S b ∧ ∀ i (h : i < ks.length), w.cell? ⟨b, o + i, none⟩ = some (.string ks[i])

/-- A slice's three words are a slice's. -/
def SlOk (a : Option Addr) (n c : Nat) : Prop := n ≤ c ∧ c ≤ maxLen ∧ (a = none → c = 0)
theorem SlOk.nil : SlOk none 0 0 := ⟨Nat.le_refl _, Nat.zero_le _, fun _ => rfl⟩
/-- A value lies in memory, in blocks of S: its keys and its items, where its two slices say. -/
def V.In (w : World) (S : Nat → Prop) : V → Option Addr → Nat → Option Addr → Nat → Prop
  | .mk _ _ _ ks l, ka, kc, la, lc => SlOk ka ks.length kc ∧ SlOk la l.length lc ∧ StrsIn w S ka ks ∧ rows l la
where rows : List V → Option Addr → Prop
  | [], _ => True
  | x :: r, p => ∃ b o ka kc la lc, p = some ⟨b, o, none⟩ ∧ S b ∧ (w.cell? ⟨b, o, none⟩ = some (.int .i64 x.k) ∧ w.cell? ⟨b, o + 1, none⟩ = some (.int .i64 x.n) ∧ w.cell? ⟨b, o + 2, none⟩ = some (.string x.s) ∧
      w.cell? ⟨b, o + 3, none⟩ = some (.slice ka x.keys.length kc) ∧ w.cell? ⟨b, o + 4, none⟩ = some (.slice la x.l.length lc)) ∧ V.In w S x ka kc la lc ∧ rows r (some ⟨b, o + 5, none⟩)

/-- A value's five cells, and what they lead to. -/
def V.Item (w : World) (S : Nat → Prop) (b o : Nat) (x : V) : Prop :=
  ∃ ka kc la lc, (w.cell? ⟨b, o, none⟩ = some (.int .i64 x.k) ∧ w.cell? ⟨b, o + 1, none⟩ = some (.int .i64 x.n) ∧ w.cell? ⟨b, o + 2, none⟩ = some (.string x.s) ∧
      w.cell? ⟨b, o + 3, none⟩ = some (.slice ka x.keys.length kc) ∧ w.cell? ⟨b, o + 4, none⟩ = some (.slice la x.l.length lc)) ∧ x.In w S ka kc la lc
/-- Values lie behind a slice's address. -/
def Rows (w : World) (S : Nat → Prop) (l : List V) (p : Option Addr) : Prop :=
  l = [] ∨ ∃ b o, p = some ⟨b, o, none⟩ ∧ S b ∧ ∀ i (h : i < l.length), V.Item w S b (o + i * 5) l[i]

theorem V.rows_iff (w : World) (S : Nat → Prop) (l : List V) (p : Option Addr) : V.In.rows w S l p ↔ Rows w S l p := by
  induction l generalizing p with
  | nil => simp [V.In.rows, Rows]
  | cons x r ih =>
    simp only [V.In.rows, ih]
    constructor
    · rintro ⟨b, o, ka, kc, la, lc, rfl, hS, hc, hin, hr⟩
      refine .inr ⟨b, o, rfl, hS, ?_⟩
      intro i hi
      match i with
      | 0 => simpa using ⟨ka, kc, la, lc, hc, hin⟩
      | i + 1 =>
        rcases hr with h | ⟨b', o', h, hS', hr⟩
        · subst h; simp at hi
        · simp only [Option.some.injEq, Addr.mk.injEq] at h
          obtain ⟨rfl, rfl, -⟩ := h
          have := hr i (by simpa using hi)
          rw [List.getElem_cons_succ, show o + (i + 1) * 5 = o + 5 + i * 5 from by omega]
          exact this
    · rintro (h | ⟨b, o, rfl, hS, hr⟩)
      · cases h
      · obtain ⟨ka, kc, la, lc, hc, hin⟩ := hr 0 (by simp)
        refine ⟨b, o, ka, kc, la, lc, rfl, hS, by simpa using hc, by simpa using hin, ?_⟩
        by_cases hn : r = []
        · exact .inl hn
        · refine .inr ⟨b, o + 5, rfl, hS, ?_⟩
          intro i hi
          have := hr (i + 1) (by simpa using hi)
          rw [List.getElem_cons_succ, show o + (i + 1) * 5 = o + 5 + i * 5 from by omega] at this
          exact this
theorem V.in_iff (w : World) (S : Nat → Prop) (x : V) (ka : Option Addr) (kc : Nat) (la : Option Addr) (lc : Nat) :
    x.In w S ka kc la lc ↔ SlOk ka x.keys.length kc ∧ SlOk la x.l.length lc ∧ StrsIn w S ka x.keys ∧ Rows w S x.l la := by
  cases x with | mk k n s ks l => simp only [V.In, V.rows_iff, V.keys_mk, V.l_mk]

/-- What S says of a block, that block is as it was. -/
def Kept (S : Nat → Prop) (w w' : World) : Prop := ∀ b, S b → b < w.heap.size → w'.heap[b]? = w.heap[b]?
theorem Kept.cell {S : Nat → Prop} {w w' : World} (h : Kept S w w') {p : Addr} {v : Value} (hS : S p.block) (hv : w.cell? p = some v) : w'.cell? p = some v := by
  have hb := cell_lt hv
  rw [World.cell?_of_block (h _ hS hb)]; exact hv
theorem Ext.kept {w w' : World} (h : Ext w w') (S : Nat → Prop) : Kept S w w' := fun b _ hb => Below.block h b hb
theorem Kept.mono {S T : Nat → Prop} {w w' : World} (h : Kept S w w') (hT : ∀ b, T b → S b) : Kept T w w' := fun b hb => h b (hT b hb)

theorem StrsIn.keep {S T : Nat → Prop} {w w' : World} {a : Option Addr} {ks : List ByteArray} (h : StrsIn w S a ks) (hk : Kept S w w') (hT : ∀ b, S b → b < w.heap.size → T b) : StrsIn w' T a ks := by
  rcases h with h | ⟨b, o, rfl, hS, hc⟩
  · exact .inl h
  · by_cases h0 : ks = []
    · exact .inl h0
    · have hlt : b < w.heap.size := cell_lt (hc 0 (by have := List.length_pos_iff.2 h0; omega))
      exact .inr ⟨b, o, rfl, hT b hS hlt, fun i hi => hk.cell hS (hc i hi)⟩
theorem V.In.keep {S T : Nat → Prop} {w w' : World} {x : V} {ka : Option Addr} {kc : Nat} {la : Option Addr} {lc : Nat} (h : x.In w S ka kc la lc) (hk : Kept S w w') (hT : ∀ b, S b → b < w.heap.size → T b) : x.In w' T ka kc la lc := by
  induction x using V.ind generalizing ka kc la lc with
  | h x ih =>
    rw [V.in_iff] at h ⊢
    obtain ⟨h1, h2, h3, h4⟩ := h
    refine ⟨h1, h2, h3.keep hk hT, ?_⟩
    rcases h4 with h4 | ⟨b, o, rfl, hS, hr⟩
    · exact .inl h4
    · by_cases h0 : x.l = []
      · exact .inl h0
      · have hlt : b < w.heap.size := by
          obtain ⟨_, _, _, _, hc, -⟩ := hr 0 (by have := List.length_pos_iff.2 h0; omega)
          exact cell_lt hc.1
        refine .inr ⟨b, o, rfl, hT b hS hlt, fun i hi => ?_⟩
        obtain ⟨ka, kc, la, lc, ⟨c0, c1, c2, c3, c4⟩, hin⟩ := hr i hi
        exact ⟨ka, kc, la, lc, ⟨hk.cell hS c0, hk.cell hS c1, hk.cell hS c2, hk.cell hS c3, hk.cell hS c4⟩, ih _ (List.getElem_mem hi) hin⟩
theorem V.Item.keep {S T : Nat → Prop} {w w' : World} {b o : Nat} {x : V} (h : V.Item w S b o x) (hS : S b) (hk : Kept S w w') (hT : ∀ b, S b → b < w.heap.size → T b) : V.Item w' T b o x := by
  obtain ⟨ka, kc, la, lc, ⟨c0, c1, c2, c3, c4⟩, hin⟩ := h
  exact ⟨ka, kc, la, lc, ⟨hk.cell hS c0, hk.cell hS c1, hk.cell hS c2, hk.cell hS c3, hk.cell hS c4⟩, hin.keep hk hT⟩
theorem Rows.keep {S T : Nat → Prop} {w w' : World} {l : List V} {p : Option Addr} (h : Rows w S l p) (hk : Kept S w w') (hT : ∀ b, S b → b < w.heap.size → T b) : Rows w' T l p := by
  rcases h with h | ⟨b, o, rfl, hS, hr⟩
  · exact .inl h
  · by_cases h0 : l = []
    · exact .inl h0
    · have hlt : b < w.heap.size := by
        obtain ⟨_, _, _, _, hc, -⟩ := hr 0 (by have := List.length_pos_iff.2 h0; omega)
        exact cell_lt hc.1
      exact .inr ⟨b, o, rfl, hT b hS hlt, fun i hi => (hr i hi).keep hS hk hT⟩

theorem StrsIn.ext {S : Nat → Prop} {w w' : World} {a : Option Addr} {ks : List ByteArray} (h : StrsIn w S a ks) (e : Ext w w') : StrsIn w' S a ks := h.keep (e.kept S) (fun _ h _ => h)
theorem V.In.ext {S : Nat → Prop} {w w' : World} {x : V} {ka : Option Addr} {kc : Nat} {la : Option Addr} {lc : Nat} (h : x.In w S ka kc la lc) (e : Ext w w') : x.In w' S ka kc la lc := h.keep (e.kept S) (fun _ h _ => h)
theorem Rows.ext {S : Nat → Prop} {w w' : World} {l : List V} {p : Option Addr} (h : Rows w S l p) (e : Ext w w') : Rows w' S l p := h.keep (e.kept S) (fun _ h _ => h)
theorem V.Item.ext {S : Nat → Prop} {w w' : World} {b o : Nat} {x : V} (h : V.Item w S b o x) (e : Ext w w') : V.Item w' S b o x := by
  obtain ⟨ka, kc, la, lc, ⟨c0, c1, c2, c3, c4⟩, hin⟩ := h
  exact ⟨ka, kc, la, lc, ⟨e.cell c0, e.cell c1, e.cell c2, e.cell c3, e.cell c4⟩, hin.ext e⟩
theorem V.In.mono {S T : Nat → Prop} {w : World} {x : V} {ka : Option Addr} {kc : Nat} {la : Option Addr} {lc : Nat} (h : x.In w S ka kc la lc) (hT : ∀ b, S b → b < w.heap.size → T b) : x.In w T ka kc la lc := h.keep (fun _ _ _ => rfl) hT

/-- An item of a value that lies in memory. -/
theorem V.In.item {S : Nat → Prop} {w : World} {x : V} {ka : Option Addr} {kc : Nat} {la : Option Addr} {lc : Nat} (h : x.In w S ka kc la lc) {i : Nat} (hi : i < x.l.length) :
    ∃ b o, la = some ⟨b, o, none⟩ ∧ S b ∧ V.Item w S b (o + i * 5) x.l[i] := by
  rw [V.in_iff] at h
  rcases h.2.2.2 with h | ⟨b, o, rfl, hS, hr⟩
  · rw [h] at hi; simp at hi
  · exact ⟨b, o, rfl, hS, hr i hi⟩
theorem V.In.key {S : Nat → Prop} {w : World} {x : V} {ka : Option Addr} {kc : Nat} {la : Option Addr} {lc : Nat} (h : x.In w S ka kc la lc) {i : Nat} (hi : i < x.keys.length) :
    ∃ b o, ka = some ⟨b, o, none⟩ ∧ S b ∧ w.cell? ⟨b, o + i, none⟩ = some (.string x.keys[i]) := by
  rw [V.in_iff] at h
  rcases h.2.2.1 with h | ⟨b, o, rfl, hS, hr⟩
  · rw [h] at hi; simp at hi
  · exact ⟨b, o, rfl, hS, hr i hi⟩

/-- A value's five cells, as one. -/
abbrev V.val (x : V) (ka : Option Addr) (kc : Nat) (la : Option Addr) (lc : Nat) : Value := .agg #[.int .i64 x.k, .int .i64 x.n, .string x.s, .slice ka x.keys.length kc, .slice la x.l.length lc]

/-- S, and what is new. -/
def Plus (S : Nat → Prop) (w : World) : Nat → Prop := fun b => S b ∨ w.heap.size ≤ b
/-- The call gives a value, in memory of S or its own. -/
def RetV (S : Nat → Prop) (r : V) (w : World) (e : Ending) (w' : World) : Prop :=
  ∃ ka kc la lc, e = .returned (r.val ka kc la lc) ∧ r.In w' (Plus S w) ka kc la lc ∧ Ext w w'
/-- The call gives a value and one thing more. -/
def RetV2 (S : Nat → Prop) (r : V) (u : Value) (w : World) (e : Ending) (w' : World) : Prop :=
  ∃ ka kc la lc, e = .returned (.tuple #[r.val ka kc la lc, u]) ∧ r.In w' (Plus S w) ka kc la lc ∧ Ext w w'

end Go.Proofs.YtknnflobpjppfaaDoor
