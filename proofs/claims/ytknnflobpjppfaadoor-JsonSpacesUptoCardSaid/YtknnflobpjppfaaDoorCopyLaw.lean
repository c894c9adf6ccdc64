/- 'append(nil, xs...)': a slice's cells, laid anew. -/
import Derived.Test.YtknnflobpjppfaaDoorOwn
set_option linter.all false
namespace Go.Proofs.YtknnflobpjppfaaDoor
open Go.RowKit

theorem run_copy_nil {P : Program} (w : World) (base : Nat) (t ty e : TypeId) (i : TypeInfo) (z : Value) (size bytes : Nat) (ht : P.underlying t = some (.slice e)) (hi : P.info? e = some i) (hz : i.zero = some z)
    (hsize : i.size = size) (hby : i.bytes = bytes) (hzs : z.cells.size = size) (hsz : 0 < size)
    (a : Option Addr) (n c : Nat) (xs : List Value) (hok : SlOk a n c) (hl : xs.length = n * size) (hsrc : n = 0 ∨ ∃ ad, a = some ad ∧ ∀ j u, xs[j]? = some u → w.cell? (ad.add j) = some u) (h1 : ∀ u ∈ xs, u.oneCell' = true)
    (hbytes : n * bytes ≤ 140737488355328) (hbase : base ≤ w.heap.size) :
    ∃ v' w', (Builtin.append_ #[t, t] ty #[.slice none 0 0, .slice a n c]).run P w = .ok v' w' ∧ w'.ownsRow base e size v' n xs ∧ w.grownBy w' none := by
  have hown := World.ownsRow_nil w base e size
  have h63 : n ≤ maxLen := Nat.le_trans hok.1 hok.2.1
  cases a with
  | none =>
    have hc := hok.2.2 rfl
    have hn : n = 0 := by have := hok.1; omega
    subst hc hn
    have hx : xs = [] := List.eq_nil_of_length_eq_zero (by simpa using hl)
    subst hx
    exact ⟨_, w, run_append_owned_none (P := P) (w := w) base t ty e i size ht hi _ 0 [] hown, hown, ⟨rfl, rfl, rfl, Nat.le_refl _, fun _ _ _ => rfl⟩⟩
  | some ad =>
    obtain ⟨v', w', hr, h2, h3, -⟩ := run_append_own (P := P) w base t ty e i z size bytes ht hi hz hsize hby hzs hsz _ 0 [] hown ad n c xs hl (by
      rcases hsrc with h0 | ⟨ad', he, h⟩
      · subst h0
        have hx : xs = [] := List.eq_nil_of_length_eq_zero (by simpa using hl)
        subst hx
        intro j u hj; simp at hj
      · simp only [Option.some.injEq] at he; subst he; exact h) h1 (by omega) (by simpa using hbytes) hbase
    exact ⟨v', w', hr, by simpa using h2, h3⟩

theorem owns_form {w : World} {base e size : Nat} {v : Value} {n : Nat} {xs : List Value} (h : w.ownsRow base e size v n xs) : ∃ a c, v = .slice a n c ∧ SlOk a n c := by
  obtain ⟨-, h⟩ := h
  rcases h with ⟨rfl, rfl⟩ | ⟨g, cap, cur, rfl, -, -, h1, h2, -⟩
  · exact ⟨none, 0, rfl, SlOk.nil⟩
  · exact ⟨_, cap, rfl, h1, h2, by simp⟩

theorem wp_copy_nil {P : Program} {w : World} {o : Oper} {a : Act} {K : Act → World → Prop} {Q : Exit → Act → World → Prop} (s x : Operand) (t : TypeId)
    (ho : o.op = .call { callee := .builtin .append, args := #[s, x], argTypes := #[t, t] })
    (base : Nat) (e : TypeId) (i : TypeInfo) (z : Value) (size bytes : Nat) (ht : P.underlying t = some (.slice e)) (hi : P.info? e = some i) (hz : i.zero = some z)
    (hsize : i.size = size) (hby : i.bytes = bytes) (hzs : z.cells.size = size) (hsz : 0 < size)
    (hs : a.eval s = .slice none 0 0) (ad : Option Addr) (n c : Nat) (xs : List Value) (hx : a.eval x = .slice ad n c) (hok : SlOk ad n c) (hl : xs.length = n * size)
    (hsrc : n = 0 ∨ ∃ b, ad = some b ∧ ∀ j u, xs[j]? = some u → w.cell? (b.add j) = some u) (h1 : ∀ u ∈ xs, u.oneCell' = true) (hbytes : n * bytes ≤ 140737488355328) (hbase : base ≤ w.heap.size)
    (h : ∀ a' c' w', w'.ownsRow base e size (.slice a' n c') n xs → SlOk a' n c' → w.grownBy w' none → K (a.put o.dst (.slice a' n c')) w') : o.wp P a w K Q := by
  obtain ⟨v', w', hr, h2, h3⟩ := run_copy_nil (P := P) w base t o.type e i z size bytes ht hi hz hsize hby hzs hsz ad n c xs hok hl hsrc h1 hbytes hbase
  unfold Oper.wp execOp
  simp only [ho, resolve, invoke, builtin, Sem.run_bind, Sem.run_pure, Result.andThen_ok, List.map_toArray, List.map_cons, List.map_nil, hs, hx, hr]
  obtain ⟨a', c', rfl, hok'⟩ := owns_form h2
  exact h a' c' w' h2 hok' h3

theorem wpList_copy_nil {P : Program} {w : World} {ops : Array Oper} {rest : List Oper} {o : Oper} {a : Act} {Q : Exit → Act → World → Prop} (hgd : o.guard = none) (s x : Operand) (t : TypeId)
    (ho : o.op = .call { callee := .builtin .append, args := #[s, x], argTypes := #[t, t] })
    (base : Nat) (e : TypeId) (i : TypeInfo) (z : Value) (size bytes : Nat) (ht : P.underlying t = some (.slice e)) (hi : P.info? e = some i) (hz : i.zero = some z)
    (hsize : i.size = size) (hby : i.bytes = bytes) (hzs : z.cells.size = size) (hsz : 0 < size)
    (hs : a.eval s = .slice none 0 0) (ad : Option Addr) (n c : Nat) (xs : List Value) (hx : a.eval x = .slice ad n c) (hok : SlOk ad n c) (hl : xs.length = n * size)
    (hsrc : n = 0 ∨ ∃ b, ad = some b ∧ ∀ j u, xs[j]? = some u → w.cell? (b.add j) = some u) (h1 : ∀ u ∈ xs, u.oneCell' = true) (hbytes : n * bytes ≤ 140737488355328) (hbase : base ≤ w.heap.size)
    (h : ∀ a' c' w', w'.ownsRow base e size (.slice a' n c') n xs → SlOk a' n c' → w.grownBy w' none → wpList P ops Q rest (a.put o.dst (.slice a' n c')) w') : wpList P ops Q (o :: rest) a w :=
  wpList_plain hgd fun _ hK => wp_copy_nil s x t ho base e i z size bytes ht hi hz hsize hby hzs hsz hs ad n c xs hx hok hl hsrc h1 hbytes hbase fun a' c' w' h2 h4 h3 => hK _ _ (h a' c' w' h2 h4 h3)

theorem step_copy_nil {P : Program} {w : World} {ops : Array Oper} {o : Oper} {a : Act} {K : Act → World → Prop} {Q : Exit → Act → World → Prop} {E : Prop} (hgd : o.guard = none) (s x : Operand) (t : TypeId)
    (ho : o.op = .call { callee := .builtin .append, args := #[s, x], argTypes := #[t, t] })
    (base : Nat) (e : TypeId) (i : TypeInfo) (z : Value) (size bytes : Nat) (ht : P.underlying t = some (.slice e)) (hi : P.info? e = some i) (hz : i.zero = some z)
    (hsize : i.size = size) (hby : i.bytes = bytes) (hzs : z.cells.size = size) (hsz : 0 < size)
    (hs : a.eval s = .slice none 0 0) (ad : Option Addr) (n c : Nat) (xs : List Value) (hx : a.eval x = .slice ad n c) (hok : SlOk ad n c) (hl : xs.length = n * size)
    (hsrc : n = 0 ∨ ∃ b, ad = some b ∧ ∀ j u, xs[j]? = some u → w.cell? (b.add j) = some u) (h1 : ∀ u ∈ xs, u.oneCell' = true) (hbytes : n * bytes ≤ 140737488355328) (hbase : base ≤ w.heap.size)
    (h : ∀ a' c' w', w'.ownsRow base e size (.slice a' n c') n xs → SlOk a' n c' → w.grownBy w' none → K (a.put o.dst (.slice a' n c')) w') :
    if Region.wanted o (yielded ops a.tmps) = true then Oper.wp P o a w K Q else E := by
  have hw : Region.wanted o (yielded ops a.tmps) = true := by simp [Region.wanted, hgd]
  rw [if_pos hw]
  exact wp_copy_nil s x t ho base e i z size bytes ht hi hz hsize hby hzs hsz hs ad n c xs hx hok hl hsrc h1 hbytes hbase h

/-- What grows alone leaves all that was there. -/
theorem grown_ext {w w' : World} (h : w.grownBy w' none) : Ext w w' := (Below.refl _ _).grown h (Nat.le_refl _) (by simp)

theorem strs_src {w : World} {S : Nat → Prop} {a : Option Addr} {ks : List ByteArray} (h : StrsIn w S a ks) : ks.length = 0 ∨ ∃ b, a = some b ∧ ∀ j u, (ks.map Value.string)[j]? = some u → w.cell? (b.add j) = some u := by
  rcases h with h | ⟨b, o, rfl, -, hc⟩
  · exact .inl (by rw [h]; rfl)
  · refine .inr ⟨_, rfl, fun j u hj => ?_⟩
    simp only [List.getElem?_map, Option.map_eq_some_iff] at hj
    obtain ⟨k, hk, rfl⟩ := hj
    obtain ⟨hlt, rfl⟩ := List.getElem?_eq_some_iff.1 hk
    rw [Addr.add_lit]
    exact hc j hlt
theorem strs_one (ks : List ByteArray) : ∀ u ∈ ks.map Value.string, u.oneCell' = true := by
  intro u hu; simp only [List.mem_map] at hu; obtain ⟨k, -, rfl⟩ := hu; rfl

/-- What is of T is as it was. -/
structure Held (T : Nat → Prop) (a b : World) : Prop where
  size : a.heap.size ≤ b.heap.size
  block : ∀ k, T k → k < a.heap.size → b.heap[k]? = a.heap[k]?
theorem Held.refl (T : Nat → Prop) (a : World) : Held T a a := ⟨Nat.le_refl _, fun _ _ _ => rfl⟩
theorem Held.trans {T : Nat → Prop} {a b c : World} (h : Held T a b) (k : Held T b c) : Held T a c :=
  ⟨Nat.le_trans h.size k.size, fun i hi hl => (k.block i hi (Nat.lt_of_lt_of_le hl h.size)).trans (h.block i hi hl)⟩
theorem Held.ext {T : Nat → Prop} {a b c : World} (h : Held T a b) (e : Ext b c) : Held T a c := h.trans ⟨e.size, fun k _ hl => Below.block e k hl⟩
theorem Ext.held {a b : World} (e : Ext a b) (T : Nat → Prop) : Held T a b := ⟨e.size, fun k _ hl => Below.block e k hl⟩
theorem Held.alloc {T : Nat → Prop} {a b : World} (h : Held T a b) (o : Obj) : Held T a (b.alloc o) := h.ext ((Ext.refl b).alloc o)
theorem Held.drew {T : Nat → Prop} {a b : World} (h : Held T a b) : Held T a b.drew := h.ext ((Ext.refl b).drew)
theorem Held.drewN {T : Nat → Prop} {a b : World} (h : Held T a b) (n : Nat) : Held T a (b.drewN n) := h.ext ((Ext.refl b).drewN n)
theorem Held.set {T : Nat → Prop} {a b : World} (h : Held T a b) {p : Addr} (hp : ¬ T p.block) (v : Value) : Held T a (b.setCell p v) :=
  h.trans ⟨Nat.le_of_eq (by simp), fun k hk _ => Below.heap_setCell _ _ _ _ (fun e => hp (e ▸ hk))⟩
theorem Held.grown {T : Nat → Prop} {a b c : World} (h : Held T a b) {row : Option Nat} (g : b.grownBy c row) (hr : ∀ k, row = some k → ¬ T k) : Held T a c :=
  h.trans ⟨g.size, fun k hk hl => g.block k hl (fun e => hr k e.symm hk)⟩
theorem Held.kept {T : Nat → Prop} {a b : World} (h : Held T a b) : Kept T a b := h.block
theorem Held.mono {S T : Nat → Prop} {a b : World} (h : Held S a b) (k : ∀ b, T b → S b) : Held T a b := ⟨h.size, fun i hi => h.block i (k i hi)⟩
theorem Ext.grown {a b c : World} (h : Ext a b) {row : Option Nat} (g : b.grownBy c row) (hr : ∀ k, row = some k → a.heap.size ≤ k) : Ext a c := Below.grown h g h.size hr
theorem Box.held {T : Nat → Prop} {w w' : World} {n : Nat} {vs : Array Value} {U : TypeId} (e : Held T w w') (h : Box w n vs U) (hn : T n) : Box w' n vs U := by
  have := h.lt; unfold Box at *; rw [e.block _ hn this]; exact h
theorem Box.grown {w w' : World} {n : Nat} {vs : Array Value} {U : TypeId} (h : Box w n vs U) {row : Option Nat} (g : w.grownBy w' row) (hr : some n ≠ row) : Box w' n vs U := by
  have := h.lt; unfold Box at *; rw [g.block _ this hr]; exact h

/-- One more item of a row of the call's own, behind the append. -/
theorem own_push {wr W w1 : World} {base : Nat} {S : Nat → Prop} {v v' : Value} {n : Nat} {l : List V} {xs : List Value} (hl0 : l.length = n) (hown : wr.ownsRow base 33 5 v n xs) (hcells : CellsOf wr (Foot base S v) l xs) (e : Ext wr W)
    {x : V} {ka : Option Addr} {kc : Nat} {la : Option Addr} {lc : Nat} {Sx : Nat → Prop} {wx : World} (hx : x.In wx Sx ka kc la lc) (ex : Ext wx W) (hS : ∀ b, Sx b → (b < base ∧ S b) ∨ wr.heap.size ≤ b)
    (hown1 : w1.ownsRow base 33 5 v' (n + 1) (xs ++ [.int .i64 x.k, .int .i64 x.n, .string x.s, .slice ka x.keys.length kc, .slice la x.l.length lc])) (hgrow : W.grownBy w1 v.ownBlock)
    (g : Nat) (hv' : v'.ownBlock = some g) (hat : v.ownBlock = some g ∨ g = W.heap.size) (hbase : base ≤ wr.heap.size) : OwnL w1 base S v' (n + 1) (l ++ [x]) := by
  have hvb : v.ownBlock = none ∨ ∃ g, v.ownBlock = some g ∧ base ≤ g := by
    cases hv : v.ownBlock with
    | none => exact .inl rfl
    | some g => exact .inr ⟨g, rfl, (hown.lt g hv).1⟩
  refine OwnL.push hl0 (hcells.keep (e.kept _) (fun _ h _ => h)) hvb (hx.keep (ex.kept _) ?_) hown1 hgrow g hv' hat
  intro b hb _
  rcases hS b hb with h | h
  · exact .inl h
  · refine .inr ⟨Nat.le_trans hbase h, fun he => ?_⟩
    have := (hown.lt b he).2
    omega
end Go.Proofs.YtknnflobpjppfaaDoor
