/- Several texts in one. -/
import Derived.Test.YtjibdbnpkfghhaaGreatDoorPkA
import Derived.Deep.AppendLies
import Derived.Deep.RegionHeld3
import Derived.Deep.DrawnRows
import Derived.Laws.AppendOwnNone
import Derived.OwnWalk
set_option linter.all false
/- Slices of values and of texts that the call itself makes, an item at a time. -/
namespace Go.Proofs.YtjibdbnpkfghhaaGreatDoor
open Go.RowKit
theorem Tryz.infoV : (Tryz.prog.info? 25).map (fun i => (i.zero, i.size, i.bytes)) = some (some (.agg #[.int .i64 0, .int .i64 0, .string ⟨#[]⟩, .slice none 0 0, .slice none 0 0]), 5, 80) := by kernel_rfl
theorem Tryz.infoS : (Tryz.prog.info? 9).map (fun i => (i.zero, i.size, i.bytes)) = some (some (.string ⟨#[]⟩), 1, 16) := by kernel_rfl
def CellsOf (w : World) (T : Nat → Prop) : List V → List Value → Prop
 | [], xs => xs = []
 | x :: r, xs => ∃ ka kc la lc t, xs = .int .i64 x.k :: .int .i64 x.n :: .string x.s :: .slice ka x.keys.length kc :: .slice la x.l.length lc :: t ∧ x.In w T ka kc la lc ∧ CellsOf w T r t
theorem CellsOf.keep {S T : Nat → Prop} {w w' : World} {l : List V} {xs : List Value} (h : CellsOf w S l xs) (hk : Kept S w w') (hT : ∀ b, S b → b < w.heap.size → T b) : CellsOf w' T l xs := by
 induction l generalizing xs with
 | nil => exact h
 | cons x r ih =>
  obtain ⟨ka, kc, la, lc, t, rfl, h1, h2⟩ := h
  exact ⟨ka, kc, la, lc, t, rfl, h1.keep hk hT, ih h2⟩
theorem CellsOf.snoc {w : World} {T : Nat → Prop} {l : List V} {xs : List Value} (h : CellsOf w T l xs) {x : V} {ka : Option Addr} {kc : Nat} {la : Option Addr} {lc : Nat} (hx : x.In w T ka kc la lc) :
  CellsOf w T (l ++ [x]) (xs ++ [.int .i64 x.k, .int .i64 x.n, .string x.s, .slice ka x.keys.length kc, .slice la x.l.length lc]) := by
 induction l generalizing xs with
 | nil => subst h; exact ⟨ka, kc, la, lc, [], rfl, hx, rfl⟩
 | cons y r ih =>
  obtain ⟨a, b, c, d, t, rfl, h1, h2⟩ := h
  exact ⟨a, b, c, d, _, rfl, h1, ih h2⟩
theorem CellsOf.len {w : World} {T : Nat → Prop} {l : List V} {xs : List Value} (h : CellsOf w T l xs) : xs.length = l.length * 5 := by
 induction l generalizing xs with
 | nil => subst h; rfl
 | cons y r ih =>
  obtain ⟨a, b, c, d, t, rfl, h1, h2⟩ := h
  have := ih h2
  simp only [List.length_cons, this]; omega
theorem CellsOf.item {w : World} {T : Nat → Prop} {l : List V} {xs : List Value} (h : CellsOf w T l xs) : ∀ i (hi : i < l.length), ∃ ka kc la lc, (xs[i * 5]? = some (.int .i64 l[i].k) ∧ xs[i * 5 + 1]? = some (.int .i64 l[i].n) ∧ xs[i * 5 + 2]? = some (.string l[i].s) ∧
  xs[i * 5 + 3]? = some (.slice ka l[i].keys.length kc) ∧ xs[i * 5 + 4]? = some (.slice la l[i].l.length lc)) ∧ l[i].In w T ka kc la lc := by
 induction l generalizing xs with
 | nil => intro i hi; simp at hi
 | cons y r ih =>
  obtain ⟨a, b, c, d, t, rfl, h1, h2⟩ := h
  intro i hi
  match i with
  | 0 => exact ⟨a, b, c, d, by simp, by simpa using h1⟩
  | i + 1 =>
   obtain ⟨ka, kc, la, lc, hc, hin⟩ := ih h2 i (by simpa using hi)
   refine ⟨ka, kc, la, lc, ?_, by simpa using hin⟩
   simp only [List.getElem_cons_succ, show (i + 1) * 5 = i * 5 + 1 + 1 + 1 + 1 + 1 from by omega, show i * 5 + 1 + 1 + 1 + 1 + 1 + 1 = i * 5 + 1 + 1 + 1 + 1 + 1 + 1 from rfl,
    show i * 5 + 1 + 1 + 1 + 1 + 1 + 2 = (i * 5 + 2) + 1 + 1 + 1 + 1 + 1 from by omega, show i * 5 + 1 + 1 + 1 + 1 + 1 + 3 = (i * 5 + 3) + 1 + 1 + 1 + 1 + 1 from by omega, show i * 5 + 1 + 1 + 1 + 1 + 1 + 4 = (i * 5 + 4) + 1 + 1 + 1 + 1 + 1 from by omega,
    List.getElem?_cons_succ]
   exact hc
def Foot (base : Nat) (S : Nat → Prop) (v : Value) (b : Nat) : Prop := (b < base ∧ S b) ∨ (base ≤ b ∧ v.ownBlock ≠ some b)
def OwnL (w : World) (base : Nat) (S : Nat → Prop) (v : Value) (n : Nat) (l : List V) : Prop :=
 l.length = n ∧ ∃ xs, w.ownsRow base 25 5 v n xs ∧ CellsOf w (Foot base S v) l xs
theorem OwnL.nil (w : World) (base : Nat) (S : Nat → Prop) : OwnL w base S (.slice none 0 0) 0 [] := ⟨rfl, [], World.ownsRow_nil _ _ _ _, rfl⟩
theorem OwnL.keep {w w' : World} {base : Nat} {S : Nat → Prop} {v : Value} {n : Nat} {l : List V} (h : OwnL w base S v n l) (e : ∀ b, b < w.heap.size → ((b < base ∧ S b) ∨ base ≤ b) → w'.heap[b]? = w.heap[b]?) : OwnL w' base S v n l := by
 obtain ⟨h0, xs, h1, h2⟩ := h
 refine ⟨h0, xs, ?_, h2.keep (fun b hb hlt => e b hlt (by rcases hb with hb | hb; exact .inl hb; exact .inr hb.1)) (fun _ h _ => h)⟩
 obtain ⟨hl, h1⟩ := h1
 refine ⟨hl, ?_⟩
 rcases h1 with h1 | ⟨g, cap, cur, hv, hb, hg, hr⟩
 ·exact .inl h1
 ·have hlt : g < w.heap.size := by
   rcases Nat.lt_or_ge g w.heap.size with h | h
   ·exact h
   ·rw [Array.getElem?_eq_none h] at hg; cases hg
  exact .inr ⟨g, cap, cur, hv, hb, by rw [e g hlt (.inr hb)]; exact hg, hr⟩
theorem OwnL.ext {w w' : World} {base : Nat} {S : Nat → Prop} {v : Value} {n : Nat} {l : List V} (h : OwnL w base S v n l) (e : Ext w w') : OwnL w' base S v n l := h.keep (fun b hb _ => Below.block e b hb)
theorem OwnL.push {w w1 : World} {base : Nat} {S : Nat → Prop} {v v' : Value} {n : Nat} {l : List V} {xs : List Value} (h0 : l.length = n) (hc : CellsOf w (Foot base S v) l xs) (hv : v.ownBlock = none ∨ ∃ g, v.ownBlock = some g ∧ base ≤ g)
  {x : V} {ka : Option Addr} {kc : Nat} {la : Option Addr} {lc : Nat} (hx : x.In w (Foot base S v) ka kc la lc)
  (hown : w1.ownsRow base 25 5 v' (n + 1) (xs ++ [.int .i64 x.k, .int .i64 x.n, .string x.s, .slice ka x.keys.length kc, .slice la x.l.length lc])) (hgrow : w.grownBy w1 v.ownBlock)
  (g : Nat) (hv' : v'.ownBlock = some g) (hat : v.ownBlock = some g ∨ g = w.heap.size) : OwnL w1 base S v' (n + 1) (l ++ [x]) := by
 refine ⟨by simp [h0], _, hown, ?_⟩
 have hk : Kept (Foot base S v) w w1 := by
  intro b hb hlt
  refine hgrow.block b hlt ?_
  intro he
  rcases hb with hb | hb
  ·rcases hv with hv | ⟨g', hv, hg'⟩
   ·rw [hv] at he; cases he
   ·rw [hv] at he; simp only [Option.some.injEq] at he; omega
  ·exact hb.2 he.symm
 have hT : ∀ b, Foot base S v b → b < w.heap.size → Foot base S v' b := by
  intro b hb hlt
  rcases hb with hb | hb
  ·exact .inl hb
  ·refine .inr ⟨hb.1, ?_⟩
   rw [hv']
   rcases hat with hat | hat
   ·rw [hat] at hb; exact hb.2
   ·intro he; simp only [Option.some.injEq] at he; omega
 exact (hc.keep hk hT).snoc (hx.keep hk hT)
theorem OwnL.rows {w : World} {base : Nat} {S : Nat → Prop} {v : Value} {n : Nat} {l : List V} (h : OwnL w base S v n l) :
  ∃ a cap, v = .slice a n cap ∧ SlOk a n cap ∧ l.length = n ∧ Rows w (fun b => (b < base ∧ S b) ∨ base ≤ b) l a := by
 obtain ⟨h0, xs, ⟨hl, h1⟩, h2⟩ := h
 rcases h1 with ⟨hv, hn⟩ | ⟨g, cap, cur, hv, hb, hg, hnc, hcm, hcs, ht⟩
 ·subst hn
  exact ⟨none, 0, hv, SlOk.nil, h0, .inl (List.length_eq_zero_iff.1 h0)⟩
 ·refine ⟨some ⟨g, 0, none⟩, cap, hv, ⟨hnc, hcm, by simp⟩, h0, .inr ⟨g, 0, rfl, .inr hb, ?_⟩⟩
  intro i hi
  obtain ⟨ka, kc, la, lc, ⟨c0, c1, c2, c3, c4⟩, hin⟩ := h2.item i hi
  have hx : ∀ j u, xs[j]? = some u → w.cell? ⟨g, j, none⟩ = some u := by
   intro j u hj
   rw [cell_of_row w g j cur _ _ hg]
   rw [← ht] at hj
   rw [List.getElem?_take] at hj
   split at hj
   ·simpa using hj
   ·cases hj
  refine ⟨ka, kc, la, lc, ⟨?_, ?_, ?_, ?_, ?_⟩, hin.mono (fun b hb _ => by rcases hb with hb | hb; exact .inl hb; exact .inr hb.1)⟩
  ·rw [Nat.zero_add]; exact hx _ _ c0
  ·rw [Nat.zero_add]; exact hx _ _ c1
  ·rw [Nat.zero_add]; exact hx _ _ c2
  ·rw [Nat.zero_add]; exact hx _ _ c3
  ·rw [Nat.zero_add]; exact hx _ _ c4
def OwnS (w : World) (base : Nat) (v : Value) (n : Nat) (ks : List ByteArray) : Prop := ks.length = n ∧ w.ownsRow base 9 1 v n (ks.map Value.string)
theorem OwnS.nil (w : World) (base : Nat) : OwnS w base (.slice none 0 0) 0 [] := ⟨rfl, World.ownsRow_nil _ _ _ _⟩
theorem ownsRow_keep {w w' : World} {base e size : Nat} {v : Value} {n : Nat} {xs : List Value} (h : w.ownsRow base e size v n xs) (k : ∀ b, b < w.heap.size → v.ownBlock = some b → w'.heap[b]? = w.heap[b]?) : w'.ownsRow base e size v n xs := by
 obtain ⟨hl, h1⟩ := h
 refine ⟨hl, ?_⟩
 rcases h1 with h1 | ⟨g, cap, cur, hv, hb, hg, hr⟩
 ·exact .inl h1
 ·have hlt : g < w.heap.size := by
   rcases Nat.lt_or_ge g w.heap.size with h | h
   ·exact h
   ·rw [Array.getElem?_eq_none h] at hg; cases hg
  exact .inr ⟨g, cap, cur, hv, hb, by rw [k g hlt (by rw [hv]; rfl)]; exact hg, hr⟩
theorem ownsRow_ext {w w' : World} {base e size : Nat} {v : Value} {n : Nat} {xs : List Value} (h : w.ownsRow base e size v n xs) (x : Ext w w') : w'.ownsRow base e size v n xs := ownsRow_keep h (fun b hb _ => Below.block x b hb)
theorem OwnS.ext {w w' : World} {base : Nat} {v : Value} {n : Nat} {ks : List ByteArray} (h : OwnS w base v n ks) (e : Ext w w') : OwnS w' base v n ks := ⟨h.1, ownsRow_keep h.2 (fun b hb _ => Below.block e b hb)⟩
theorem OwnS.strs {w : World} {base : Nat} {v : Value} {n : Nat} {ks : List ByteArray} (h : OwnS w base v n ks) :
  ∃ a cap, v = .slice a n cap ∧ SlOk a n cap ∧ ks.length = n ∧ StrsIn w (fun b => base ≤ b) a ks := by
 obtain ⟨h0, hl, h1⟩ := h
 rcases h1 with ⟨hv, hn⟩ | ⟨g, cap, cur, hv, hb, hg, hnc, hcm, hcs, ht⟩
 ·subst hn
  exact ⟨none, 0, hv, SlOk.nil, h0, .inl (List.length_eq_zero_iff.1 h0)⟩
 ·refine ⟨some ⟨g, 0, none⟩, cap, hv, ⟨hnc, hcm, by simp⟩, h0, .inr ⟨g, 0, rfl, hb, ?_⟩⟩
  intro i hi
  rw [Nat.zero_add, cell_of_row w g i cur _ _ hg]
  have : (ks.map Value.string)[i]? = some (.string ks[i]) := by simp [hi]
  rw [← ht, List.getElem?_take] at this
  split at this
  ·simpa using this
  ·cases this
end Go.Proofs.YtjibdbnpkfghhaaGreatDoor
/- 'append(nil, xs...)': a slice's cells, laid anew. -/
namespace Go.Proofs.YtjibdbnpkfghhaaGreatDoor
open Go.RowKit
theorem owns_form {w : World} {base e size : Nat} {v : Value} {n : Nat} {xs : List Value} (h : w.ownsRow base e size v n xs) : ∃ a c, v = .slice a n c ∧ SlOk a n c := by
 obtain ⟨-, h⟩ := h
 rcases h with ⟨rfl, rfl⟩ | ⟨g, cap, cur, rfl, -, -, h1, h2, -⟩
 ·exact ⟨none, 0, rfl, SlOk.nil⟩
 ·exact ⟨_, cap, rfl, h1, h2, by simp⟩
theorem strs_src {w : World} {S : Nat → Prop} {a : Option Addr} {ks : List ByteArray} (h : StrsIn w S a ks) : ks.length = 0 ∨ ∃ b, a = some b ∧ ∀ j u, (ks.map Value.string)[j]? = some u → w.cell? (b.add j) = some u := by
 rcases h with h | ⟨b, o, rfl, -, hc⟩
 ·exact .inl (by rw [h]; rfl)
 ·refine .inr ⟨_, rfl, fun j u hj => ?_⟩
  simp only [List.getElem?_map, Option.map_eq_some_iff] at hj
  obtain ⟨k, hk, rfl⟩ := hj
  obtain ⟨hlt, rfl⟩ := List.getElem?_eq_some_iff.1 hk
  rw [Addr.add_lit]
  exact hc j hlt
theorem strs_one (ks : List ByteArray) : ∀ u ∈ ks.map Value.string, u.oneCell' = true := by
 intro u hu; simp only [List.mem_map] at hu; obtain ⟨k, -, rfl⟩ := hu; rfl
structure Held (T : Nat → Prop) (a b : World) : Prop where
 size : a.heap.size ≤ b.heap.size
 block : ∀ k, T k → k < a.heap.size → b.heap[k]? = a.heap[k]?
theorem Held.refl (T : Nat → Prop) (a : World) : Held T a a := ⟨Nat.le_refl _, fun _ _ _ => rfl⟩
theorem Held.trans {T : Nat → Prop} {a b c : World} (h : Held T a b) (k : Held T b c) : Held T a c :=
 ⟨Nat.le_trans h.size k.size, fun i hi hl => (k.block i hi (Nat.lt_of_lt_of_le hl h.size)).trans (h.block i hi hl)⟩
theorem Held.ext {T : Nat → Prop} {a b c : World} (h : Held T a b) (e : Ext b c) : Held T a c := h.trans ⟨e.size, fun k _ hl => Below.block e k hl⟩
theorem Ext.held {a b : World} (e : Ext a b) (T : Nat → Prop) : Held T a b := ⟨e.size, fun k _ hl => Below.block e k hl⟩
theorem Held.alloc {T : Nat → Prop} {a b : World} (h : Held T a b) (o : Obj) : Held T a (b.alloc o) := h.ext ((Ext.refl b).alloc o)
theorem Held.drew {T : Nat → Prop} {a b : World} (h : Held T a b) : Held T a b.drew := h.ext ((Ext.refl b).drew)
theorem Held.drewN {T : Nat → Prop} {a b : World} (h : Held T a b) (n : Nat) : Held T a (b.drewN n) := h.ext ((Ext.refl b).drewN n)
theorem Held.set {T : Nat → Prop} {a b : World} (h : Held T a b) {p : Addr} (hp : ¬ T p.block) (v : Value) : Held T a (b.setCell p v) :=
 h.trans ⟨Nat.le_of_eq (by simp), fun k hk _ => Below.heap_setCell _ _ _ _ (fun e => hp (e ▸ hk))⟩
theorem Held.grown {T : Nat → Prop} {a b c : World} (h : Held T a b) {row : Option Nat} (g : b.grownBy c row) (hr : ∀ k, row = some k → ¬ T k) : Held T a c :=
 h.trans ⟨g.size, fun k hk hl => g.block k hl (fun e => hr k e.symm hk)⟩
theorem Held.kept {T : Nat → Prop} {a b : World} (h : Held T a b) : Kept T a b := h.block
theorem Held.mono {S T : Nat → Prop} {a b : World} (h : Held S a b) (k : ∀ b, T b → S b) : Held T a b := ⟨h.size, fun i hi => h.block i (k i hi)⟩
theorem Ext.grown {a b c : World} (h : Ext a b) {row : Option Nat} (g : b.grownBy c row) (hr : ∀ k, row = some k → a.heap.size ≤ k) : Ext a c := Below.grown h g h.size hr
theorem Box.held {T : Nat → Prop} {w w' : World} {n : Nat} {vs : Array Value} {U : TypeId} (e : Held T w w') (h : Box w n vs U) (hn : T n) : Box w' n vs U := by
 have := h.lt; unfold Box at *; rw [e.block _ hn this]; exact h
theorem Box.grown {w w' : World} {n : Nat} {vs : Array Value} {U : TypeId} (h : Box w n vs U) {row : Option Nat} (g : w.grownBy w' row) (hr : some n ≠ row) : Box w' n vs U := by
 have := h.lt; unfold Box at *; rw [g.block _ this hr]; exact h
theorem Hxt {T : Nat → Prop} {a b : World} (h : Held T a b := by with_reducible repeat (first | exact Held.refl _ _ | assumption | apply Held.drew | apply Held.drewN | apply Held.alloc | (refine Held.set ?_ ?_ _; rotate_left; (focus (first | (simp; done) | (simp; omega) | omega))) | (refine Held.ext ?_ (by assumption)) | (refine Held.grown ?_ (by assumption) (by assumption)) | (refine Held.trans ?_ (by assumption)))) : Held T a b := h
end Go.Proofs.YtjibdbnpkfghhaaGreatDoor
/- The walks of Member and of the reference's MemberOf. -/
namespace Go.Proofs.YtjibdbnpkfghhaaGreatDoor
open Go.RowKit
structure At (x : V) (key : ByteArray) (j : Nat) : Prop where
 k : x.k = 5
 len : x.keys.length = x.l.length
 lt : j < x.l.length
 eq : (x.keys[j]'(by omega)).toList = key.toList
 no : ∀ i, (h : i < j) → (x.keys[i]'(by omega)).toList ≠ key.toList
def NotAt (x : V) (key : ByteArray) : Prop := x.k ≠ 5 ∨ x.keys.length ≠ x.l.length ∨ (∀ i, (h : i < x.keys.length) → x.keys[i].toList ≠ key.toList)
theorem find_at {x : V} {key : ByteArray} {j : Nat} (h : x.find key = some j) : At x key j := by
 unfold V.find at h
 split at h
 ·rename_i hc
  rw [List.findIdx?_eq_some_iff_getElem] at h
  obtain ⟨h1, h2, h3⟩ := h
  refine ⟨hc.1, hc.2, by omega, by simpa using h2, fun i hi => ?_⟩
  have := h3 i hi
  simpa using this
 ·cases h
theorem find_not {x : V} {key : ByteArray} (h : x.find key = none) : NotAt x key := by
 unfold V.find at h
 split at h
 ·right; right
  intro i hi
  have := List.findIdx?_eq_none_iff.1 h (x.keys[i]) (List.getElem_mem hi)
  simpa using this
 ·rename_i hc
  by_cases h5 : x.k = 5
  ·exact .inr (.inl fun h => hc ⟨h5, h⟩)
  ·exact .inl h5
theorem member_at {x : V} {key : ByteArray} {y : V} (h : x.member key = some y) : ∃ j, ∃ a : At x key j, x.l[j]'a.lt = y := by
 unfold V.member at h
 cases hf : x.find key with
 | none => rw [hf] at h; cases h
 | some j =>
  rw [hf] at h
  have a := find_at hf
  refine ⟨j, a, ?_⟩
  simp only [Option.bind_some, List.getElem?_eq_getElem a.lt, Option.some.injEq] at h
  exact h
theorem member_not {x : V} {key : ByteArray} (h : x.member key = none) : NotAt x key := by
 unfold V.member at h
 cases hf : x.find key with
 | none => exact find_not hf
 | some j =>
  rw [hf] at h
  have a := find_at hf
  simp [List.getElem?_eq_getElem a.lt] at h
theorem V.zero_in (w : World) (S : Nat → Prop) : V.zero.In w S none 0 none 0 := by
 rw [V.in_iff]; exact ⟨SlOk.nil, SlOk.nil, .inl rfl, .inl rfl⟩
set_option maxHeartbeats 1000000 in
theorem member_some {x y : V} {key : ByteArray} (hm : x.member key = some y) (ka : Option Addr) (kc : Nat) (la : Option Addr) (lc : Nat) (S : Nat → Prop) (w : World) (hsz : x.size ≤ 1073741824) (hin : x.In w S ka kc la lc) :
  Calls Tryz.prog 71 #[x.val ka kc la lc, .string key] w (RetV2 S y (.bool true) w) := by
 obtain ⟨j, a, rfl⟩ := member_at hm
 clear hm
 have hl := x.len_l
 have hk5 : (x.k == 5) = true := by simpa using a.k
 have hlen : ((x.keys.length : Int) == (x.l.length : Int)) = true := by simpa using congrArg Int.ofNat a.len
 have hjl := a.lt
 have hll : x.keys.length ≤ x.l.length := Nat.le_of_eq a.len
 have hll2 : x.l.length ≤ x.keys.length := Nat.le_of_eq a.len.symm
 go_enter Tryz.func71, Tryz.ntmps71
 go_wp2_with fail
 go_loopg [6, 7, 23] (j + 1) (fun g _ _ i wr => ∃ k : Nat, k ≤ j ∧ i = .int .i64 k ∧ g = j + 1 - k ∧ Box wr w.heap.size #[.int .i64 x.k, .int .i64 x.n, .string x.s, .slice ka x.keys.length kc, .slice la x.l.length lc] 25 ∧ Box wr (w.heap.size + 1) #[.int .i64 0, .int .i64 0, .string ⟨#[]⟩, .slice none 0 0, .slice none 0 0] 25 ∧ Ext w wr)
 case atStart => exact ⟨0, by omega, rfl, rfl, Bxt, Bxt, Xt⟩
 case round =>
  obtain ⟨k, hk, rfl, rfl, hB0, hB1, hx⟩ := hrel
  have hc0 := hB0.cells; have hf0 := hB0.free; have hl0 := hB0.lt
  have hc1 := hB1.cells; have hf1 := hB1.free; have hl1 := hB1.lt
  have hlt : k < x.keys.length := by omega
  obtain ⟨b, o, rfl, hS, e0⟩ := (hin.ext hx).key hlt
  by_cases hkj : k = j
  ·subst hkj
   obtain ⟨b', o', rfl, hS', ka', kc', la', lc', ⟨d0, d1, d2, d3, d4⟩, hin'⟩ := hin.item hjl
   have d0 := hx.cell d0; have d1 := hx.cell d1; have d2 := hx.cell d2; have d3 := hx.cell d3; have d4 := hx.cell d4
   have heq : (x.keys[k].toList == key.toList) = true := by simpa using a.eq
   have hlt2 : k < x.l.length := hjl
   go_wp2_with fail
   (with_reducible apply bp_ret); (focus (go_light; simp [results, Tryz.results71, go_sem, *]; rfl))
   exact ⟨ka', kc', la', lc', rfl, (hin'.ext Xt).mono (fun _ h _ => .inl h), Xt⟩
  ·have heq : (x.keys[k].toList == key.toList) = false := by simpa using a.no k (by omega)
   go_wp2_with fail
   go_roundg (j + 1 - (k + 1))
   case measure => omega
   case rel => exact ⟨k + 1, by omega, by go_num, rfl, Bxt, Bxt, Xt⟩
set_option maxHeartbeats 1000000 in
theorem member_none {x : V} {key : ByteArray} (hm : x.member key = none) (ka : Option Addr) (kc : Nat) (la : Option Addr) (lc : Nat) (S : Nat → Prop) (w : World) (hsz : x.size ≤ 1073741824) (hin : x.In w S ka kc la lc) :
  Calls Tryz.prog 71 #[x.val ka kc la lc, .string key] w fun e w' => e = .returned (.tuple #[.agg #[.int .i64 0, .int .i64 0, .string ⟨#[]⟩, .slice none 0 0, .slice none 0 0], .bool false]) ∧ Ext w w' := by
 have hl := x.len_l
 have hlk := x.len_keys
 by_cases h5 : x.k = 5
 ·have hk5 : (x.k == 5) = true := by simpa using h5
  by_cases hln : x.keys.length = x.l.length
  ·have hlen : ((x.keys.length : Int) == (x.l.length : Int)) = true := by simpa using congrArg Int.ofNat hln
   have Hno := Lib.hid (((member_not hm).resolve_left (fun h => h h5)).resolve_left (fun h => h hln))
   have hll : x.keys.length ≤ x.l.length := Nat.le_of_eq hln
   clear hln h5 hm
   go_enter Tryz.func71, Tryz.ntmps71
   go_wp2_with fail
   go_loopg [6, 7, 23] x.keys.length (fun g _ _ i wr => ∃ k : Nat, k ≤ x.keys.length ∧ i = .int .i64 k ∧ g = x.keys.length - k ∧ Box wr w.heap.size #[.int .i64 x.k, .int .i64 x.n, .string x.s, .slice ka x.keys.length kc, .slice la x.l.length lc] 25 ∧ Box wr (w.heap.size + 1) #[.int .i64 0, .int .i64 0, .string ⟨#[]⟩, .slice none 0 0, .slice none 0 0] 25 ∧ Ext w wr)
   case atStart => exact ⟨0, by omega, rfl, rfl, Bxt, Bxt, Xt⟩
   case round =>
    obtain ⟨k, hk, rfl, rfl, hB0, hB1, hx⟩ := hrel
    have hc0 := hB0.cells; have hf0 := hB0.free; have hl0 := hB0.lt
    have hc1 := hB1.cells; have hf1 := hB1.free; have hl1 := hB1.lt
    by_cases hlt : k < x.keys.length
    ·obtain ⟨b, o, rfl, hS, e0⟩ := (hin.ext hx).key hlt
     have heq : (x.keys[k].toList == key.toList) = false := by simpa using Hno.out k hlt
     go_wp2_with fail
     go_roundg (x.keys.length - (k + 1))
     case measure => omega
     case rel => exact ⟨k + 1, by omega, by go_num, rfl, Bxt, Bxt, Xt⟩
    ·go_wp2_with fail
     (with_reducible apply bp_ret); (focus (go_light; simp [results, Tryz.results71, go_sem, *]; rfl))
     exact ⟨rfl, Xt⟩
  ·have hlen : ((x.keys.length : Int) == (x.l.length : Int)) = false := by simpa using fun h => hln (by omega)
   clear hln h5 hm
   go_enter Tryz.func71, Tryz.ntmps71
   go_wp2_with fail
   (with_reducible apply bp_ret); (focus (go_light; simp [results, Tryz.results71, go_sem, *]; rfl))
   exact ⟨rfl, Xt⟩
 ·have hk5 : (x.k == 5) = false := by simpa using h5
  clear h5 hm
  go_enter Tryz.func71, Tryz.ntmps71
  go_wp2_with fail
  (with_reducible apply bp_ret); (focus (go_light; simp [results, Tryz.results71, go_sem, *]; rfl))
  exact ⟨rfl, Xt⟩
end Go.Proofs.YtjibdbnpkfghhaaGreatDoor
/- json.Member at whatever value. -/
namespace Go.Proofs.YtjibdbnpkfghhaaGreatDoor
open Go.RowKit
def V.memD (x : V) (key : ByteArray) : V := (x.member key).getD V.zero
theorem memD_size (x : V) (key : ByteArray) : x.memD key = V.zero ∨ (x.memD key).size < x.size := by
 unfold V.memD
 cases h : x.member key with
 | none => exact .inl rfl
 | some y =>
  refine .inr ?_
  unfold V.member at h
  obtain ⟨i, -, hi⟩ := Option.bind_eq_some_iff.1 h
  exact V.size_mem (List.mem_of_getElem? hi)
theorem member_any (x : V) (key : ByteArray) (ka : Option Addr) (kc : Nat) (la : Option Addr) (lc : Nat) (S : Nat → Prop) (w : World) (hsz : x.size ≤ 1073741824) (hin : x.In w S ka kc la lc) :
  Calls Tryz.prog 71 #[x.val ka kc la lc, .string key] w (RetV2 S (x.memD key) (.bool (x.member key).isSome) w) := by
 unfold V.memD
 cases h : x.member key with
 | some y => exact member_some h ka kc la lc S w hsz hin
 | none =>
  refine (member_none h ka kc la lc S w hsz hin).mono ?_
  rintro e w' ⟨rfl, hx⟩
  exact ⟨none, 0, none, 0, rfl, V.zero_in _ _, hx⟩
end Go.Proofs.YtjibdbnpkfghhaaGreatDoor
/- The walk of the laws' own same: a value is alike itself, wherever its two readings lie. -/
namespace Go.Proofs.YtjibdbnpkfghhaaGreatDoor
open Go.RowKit
attribute [local go_sem ↓] Go.wp_at_zero Go.wp_at_succ
set_option maxRecDepth 100000 in
set_option maxHeartbeats 8000000 in
theorem same_refl (m : Nat) : ∀ (x : V) (ka : Option Addr) (kc : Nat) (la : Option Addr) (lc : Nat) (S : Nat → Prop) (kb : Option Addr) (kd : Nat) (lb : Option Addr) (ld : Nat) (T : Nat → Prop) (w : World), x.size ≤ m → x.size ≤ 1073741824 → x.In w S ka kc la lc → x.In w T kb kd lb ld →
  Calls Tryz.prog 24 #[x.val ka kc la lc, x.val kb kd lb ld] w fun e w' => e = .returned (.bool true) ∧ Ext w w' := by
 induction m with
 | zero => intro x _ _ _ _ _ _ _ _ _ _ _ h; have := x.size_pos; omega
 | succ m ih =>
  intro x ka kc la lc S kb kd lb ld T w hm hsz hin hjn
  have hl := x.len_l
  have hlk := x.len_keys
  have Ih := Lib.hid ih
  clear ih
  go_enter Tryz.func24, Tryz.ntmps24
  go_wp2_with fail
  go_loopg [5, 47] x.keys.length (fun g _ i wr => ∃ k : Nat, k ≤ x.keys.length ∧ i = .int .i64 k ∧ g = x.keys.length - k ∧ Box wr w.heap.size #[.int .i64 x.k, .int .i64 x.n, .string x.s, .slice ka x.keys.length kc, .slice la x.l.length lc] 25 ∧ Box wr (w.heap.size + 1) #[.int .i64 x.k, .int .i64 x.n, .string x.s, .slice kb x.keys.length kd, .slice lb x.l.length ld] 25 ∧ Ext w wr)
  case atStart => exact ⟨0, by omega, rfl, rfl, Bxt, Bxt, Xt⟩
  case round =>
   obtain ⟨k, hk, rfl, rfl, hB0, hB1, hx⟩ := hrel
   have hc0 := hB0.cells; have hf0 := hB0.free; have hl0 := hB0.lt
   have hc1 := hB1.cells; have hf1 := hB1.free; have hl1 := hB1.lt
   by_cases hlt : k < x.keys.length
   ·obtain ⟨b1, o1, rfl, hS1, d0⟩ := hin.key hlt
    obtain ⟨b2, o2, rfl, hS2, d1⟩ := hjn.key hlt
    have d0 := hx.cell d0
    have d1 := hx.cell d1
    have hki0 : (0 : Int) ≤ (k : Int) := by omega
    have hki1 : (k : Int) < (x.keys.length : Int) := by omega
    go_wp2_with fail
    go_quiet (fail)
    go_wp2_with fail
    go_roundg (x.keys.length - (k + 1))
    case measure => omega
    case rel => exact ⟨k + 1, by omega, by go_num, rfl, hB0, hB1, Xt⟩
   ·go_wp2_with fail
    go_loopg [6, 65] x.l.length (fun g _ i wq => ∃ k : Nat, k ≤ x.l.length ∧ i = .int .i64 k ∧ g = x.l.length - k ∧ Box wq w.heap.size #[.int .i64 x.k, .int .i64 x.n, .string x.s, .slice ka x.keys.length kc, .slice la x.l.length lc] 25 ∧ Box wq (w.heap.size + 1) #[.int .i64 x.k, .int .i64 x.n, .string x.s, .slice kb x.keys.length kd, .slice lb x.l.length ld] 25 ∧ Ext w wq)
    case atStart => exact ⟨0, by omega, rfl, rfl, hB0, hB1, Xt⟩
    case round =>
     clear hB0 hB1 hc0 hf0 hl0 hc1 hf1 hl1 hx
     obtain ⟨k, hk, rfl, rfl, hB0, hB1, hx⟩ := hrel
     by_cases hlt : k < x.l.length
     ·obtain ⟨b1, o1, rfl, hS1, ka', kc', la', lc', ⟨d0, d1, d2, d3, d4⟩, hin'⟩ := hin.item hlt
      obtain ⟨b2, o2, rfl, hS2, kb', kd', lb', ld', ⟨f0, f1, f2, f3, f4⟩, hjn'⟩ := hjn.item hlt
      have hsi := V.size_item hlt
      have hki0 : (0 : Int) ≤ (k : Int) := by omega
      have hki1 : (k : Int) < (x.l.length : Int) := by omega
      have Sof : ∀ w', Ext wr w' → (w'.cell? ⟨w.heap.size, 4, none⟩ = some (.slice (some ⟨b1, o1, none⟩) x.l.length lc) ∧ w'.cell? ⟨w.heap.size + 1, 4, none⟩ = some (.slice (some ⟨b2, o2, none⟩) x.l.length ld) ∧
        w'.cell? ⟨b1, o1 + k * 5, none⟩ = some (.int .i64 x.l[k].k) ∧ w'.cell? ⟨b1, o1 + k * 5 + 1, none⟩ = some (.int .i64 x.l[k].n) ∧ w'.cell? ⟨b1, o1 + k * 5 + 2, none⟩ = some (.string x.l[k].s) ∧ w'.cell? ⟨b1, o1 + k * 5 + 3, none⟩ = some (.slice ka' x.l[k].keys.length kc') ∧ w'.cell? ⟨b1, o1 + k * 5 + 4, none⟩ = some (.slice la' x.l[k].l.length lc') ∧
        w'.cell? ⟨b2, o2 + k * 5, none⟩ = some (.int .i64 x.l[k].k) ∧ w'.cell? ⟨b2, o2 + k * 5 + 1, none⟩ = some (.int .i64 x.l[k].n) ∧ w'.cell? ⟨b2, o2 + k * 5 + 2, none⟩ = some (.string x.l[k].s) ∧ w'.cell? ⟨b2, o2 + k * 5 + 3, none⟩ = some (.slice kb' x.l[k].keys.length kd') ∧ w'.cell? ⟨b2, o2 + k * 5 + 4, none⟩ = some (.slice lb' x.l[k].l.length ld')) :=
       fun w' e => ⟨e.cell (hB0.cells 4), e.cell (hB1.cells 4), e.cell (hx.cell d0), e.cell (hx.cell d1), e.cell (hx.cell d2), e.cell (hx.cell d3), e.cell (hx.cell d4), e.cell (hx.cell f0), e.cell (hx.cell f1), e.cell (hx.cell f2), e.cell (hx.cell f3), e.cell (hx.cell f4)⟩
      have hin2 := hin'.ext hx
      have hjn2 := hjn'.ext hx
      go_wp2_with fail
      go_region_held3 (fun w' => w'.cell? ⟨w.heap.size, 4, none⟩ = some (.slice (some ⟨b1, o1, none⟩) x.l.length lc) ∧ w'.cell? ⟨w.heap.size + 1, 4, none⟩ = some (.slice (some ⟨b2, o2, none⟩) x.l.length ld) ∧
        w'.cell? ⟨b1, o1 + k * 5, none⟩ = some (.int .i64 x.l[k].k) ∧ w'.cell? ⟨b1, o1 + k * 5 + 1, none⟩ = some (.int .i64 x.l[k].n) ∧ w'.cell? ⟨b1, o1 + k * 5 + 2, none⟩ = some (.string x.l[k].s) ∧ w'.cell? ⟨b1, o1 + k * 5 + 3, none⟩ = some (.slice ka' x.l[k].keys.length kc') ∧ w'.cell? ⟨b1, o1 + k * 5 + 4, none⟩ = some (.slice la' x.l[k].l.length lc') ∧
        w'.cell? ⟨b2, o2 + k * 5, none⟩ = some (.int .i64 x.l[k].k) ∧ w'.cell? ⟨b2, o2 + k * 5 + 1, none⟩ = some (.int .i64 x.l[k].n) ∧ w'.cell? ⟨b2, o2 + k * 5 + 2, none⟩ = some (.string x.l[k].s) ∧ w'.cell? ⟨b2, o2 + k * 5 + 3, none⟩ = some (.slice kb' x.l[k].keys.length kd') ∧ w'.cell? ⟨b2, o2 + k * 5 + 4, none⟩ = some (.slice lb' x.l[k].l.length ld'))
       (first | (exact Sof _ ((Ext.refl _).drew)) | (exact Sof _ (Ext.trans ((Ext.refl _).drew) h1)))
       (first | (go_at_call 24; refine (Ih.out x.l[k] ka' kc' la' lc' S kb' kd' lb' ld' T _ (by omega) (by omega) (hin2.ext Xt) (hjn2.ext Xt)).mono ?_; rintro e w1 ⟨rfl, h1⟩))
      all_goals
       have hB0 := Box.ext h1 (Box.drew hB0)
       have hB1 := Box.ext h1 (Box.drew hB1)
       go_wp2_with fail
       go_roundg (x.l.length - (k + 1))
       case measure => omega
       case rel => exact ⟨k + 1, by omega, by go_num, rfl, hB0, hB1, Xt⟩
     ·go_wp2_with fail
      go_ret
      exact ⟨rfl, Xt⟩
end Go.Proofs.YtjibdbnpkfghhaaGreatDoor
/- What the laws on places share. -/
namespace Go.Proofs.YtjibdbnpkfghhaaGreatDoor
open Go.RowKit
abbrev All : Nat → Prop := fun _ => True
theorem all_in {w : World} {S : Nat → Prop} {x : V} {ka : Option Addr} {kc : Nat} {la : Option Addr} {lc : Nat} (h : x.In w S ka kc la lc) : x.In w All ka kc la lc := h.mono fun _ _ _ => trivial
theorem same_any (x z : V) (hz : z = x) (hsz : x.size ≤ 1073741824) (ka : Option Addr) (kc : Nat) (la : Option Addr) (lc : Nat) (kb : Option Addr) (kd : Nat) (lb : Option Addr) (ld : Nat) (S T : Nat → Prop) (w : World) (h1 : x.In w S ka kc la lc) (h2 : z.In w T kb kd lb ld) :
  Calls Tryz.prog 24 #[x.val ka kc la lc, z.val kb kd lb ld] w fun e w' => e = .returned (.bool true) ∧ Ext w w' := by
 subst hz
 exact same_refl z.size z ka kc la lc S kb kd lb ld T w (Nat.le_refl _) hsz h1 h2
end Go.Proofs.YtjibdbnpkfghhaaGreatDoor
