/- Several texts in one. -/
import Derived.Test.YtjibdbnpkfghhaaGreatDoorSlV
import Derived.Test.YtjibdbnpkfghhaaGreatDoorSlS
import Derived.Test.YtjibdbnpkfghhaaGreatDoorPkF
import Derived.Test.YtjibdbnpkfghhaaGreatDoorPkA
import Derived.Deep.MidRow
set_option linter.all false
/- Clone at texts and at values; an insertion, a deletion and a store in a row of values. -/
namespace Go.Proofs.YtjibdbnpkfghhaaGreatDoor
open Go.RowKit
set_option maxRecDepth 100000 in
set_option maxHeartbeats 2000000 in
theorem cloneS_row (a : Option Addr) (n c : Nat) (news : List Value) (w : World) (hok : SlOk a n c) (hbig : n ≤ 1073741824) (hl : news.length = n * 1) (hsrc : n = 0 ∨ ∃ ad, a = some ad ∧ ∀ j u, news[j]? = some u → w.cell? (ad.add j) = some u) (h1 : ∀ u ∈ news, u.oneCell' = true) :
  Calls Tryz.prog 48 #[.slice a n c] w fun e w' => ∃ a' c', e = .returned (.slice a' n c') ∧ SlOk a' n c' ∧ w'.ownsRow w.heap.size 9 1 (.slice a' n c') n news ∧ Ext w w' := by
 obtain ⟨i0, hi, hz0, hz1, hz2⟩ := info_parts Tryz.infoS
 have q22 : ∀ (w : World) (a : Option Addr) (n c n' c' : Nat), (binOp .eql 22 (.slice a n c) (.slice none n' c')).run Tryz.prog w = .ok (.bool a.isNone) w := fun w a n c n' c' => Lib.run_eql_slice_nil w _ _ a n c n' c' Tryz.underlying22
 cases a with
 | none =>
  obtain rfl := hok.2.2 rfl
  obtain rfl : n = 0 := by have := hok.1; omega
  obtain rfl : news = [] := List.eq_nil_of_length_eq_zero (by simpa using hl)
  clear hok hl hsrc h1
  go_enter Tryz.func48, Tryz.ntmps48
  go_wp2_with fail
  go_ret
  exact ⟨none, 0, rfl, SlOk.nil, World.ownsRow_nil _ _ _ _, Ext.refl _⟩
 | some ad =>
  have hc : ∀ j u, news[j]? = some u → w.cell? (ad.add j) = some u := by
   rcases hsrc with h0 | ⟨ad', he, h⟩
   ·subst h0
    obtain rfl : news = [] := List.eq_nil_of_length_eq_zero (by simpa using hl)
    intro j u hj; simp at hj
   ·simp only [Option.some.injEq] at he; subst he; exact h
  have Hc := Lib.hid hc
  have Hl := Lib.hid hl
  clear hc hsrc hl
  have h63 : n ≤ maxLen := by unfold maxLen; omega
  go_enter Tryz.func48, Tryz.ntmps48
  go_wp2_with (at_builtin; refine wpList_append_own _ rfl _ _ 22 rfl w.heap.size 9 i0 _ 1 16 Tryz.underlying22 hi hz0 hz1 hz2 rfl (by decide) _ _ _ rfl (World.ownsRow_made w #[] 0 (Nat.le_refl _) (Nat.zero_le _) (by simp)) ad n c news rfl ?qc1 ?qc2 ?qc3 ?qc4 ?qc5 ?qc6 ?_)
  case qc1 => exact Hl.out
  case qc2 =>
   intro j u hj
   exact Lib.cell?_alloc_some _ (Hc.out j u hj)
  case qc3 => exact h1
  case qc4 => rw [Nat.zero_add]; exact h63
  case qc5 => rw [Nat.zero_add]; omega
  case qc6 => simp
  intro v' w1 hown hgrow hnil
  obtain ⟨a', c', rfl, hok'⟩ := owns_form hown
  go_wp2
  go_ret
  refine ⟨a', c', by simp, by simpa using hok', by simpa using hown, ?_⟩
  exact ((Below.refl _ w).alloc (Nat.le_refl _) _).grown hgrow (by simp) (by intro k hk; simp [Value.ownBlock] at hk; omega)
set_option maxRecDepth 100000 in
set_option maxHeartbeats 2000000 in
theorem cloneV_row (a : Option Addr) (n c : Nat) (news : List Value) (w : World) (hok : SlOk a n c) (hbig : n ≤ 1073741824) (hl : news.length = n * 5) (hsrc : n = 0 ∨ ∃ ad, a = some ad ∧ ∀ j u, news[j]? = some u → w.cell? (ad.add j) = some u) (h1 : ∀ u ∈ news, u.oneCell' = true) :
  Calls Tryz.prog 93 #[.slice a n c] w fun e w' => ∃ a' c', e = .returned (.slice a' n c') ∧ SlOk a' n c' ∧ w'.ownsRow w.heap.size 25 5 (.slice a' n c') n news ∧ Ext w w' := by
 obtain ⟨i0, hi, hz0, hz1, hz2⟩ := info_parts Tryz.infoV
 have q22 : ∀ (w : World) (a : Option Addr) (n c n' c' : Nat), (binOp .eql 23 (.slice a n c) (.slice none n' c')).run Tryz.prog w = .ok (.bool a.isNone) w := fun w a n c n' c' => Lib.run_eql_slice_nil w _ _ a n c n' c' Tryz.underlying23
 cases a with
 | none =>
  obtain rfl := hok.2.2 rfl
  obtain rfl : n = 0 := by have := hok.1; omega
  obtain rfl : news = [] := List.eq_nil_of_length_eq_zero (by simpa using hl)
  clear hok hl hsrc h1
  go_enter Tryz.func93, Tryz.ntmps93
  go_wp2_with fail
  go_ret
  exact ⟨none, 0, rfl, SlOk.nil, World.ownsRow_nil _ _ _ _, Ext.refl _⟩
 | some ad =>
  have hc : ∀ j u, news[j]? = some u → w.cell? (ad.add j) = some u := by
   rcases hsrc with h0 | ⟨ad', he, h⟩
   ·subst h0
    obtain rfl : news = [] := List.eq_nil_of_length_eq_zero (by simpa using hl)
    intro j u hj; simp at hj
   ·simp only [Option.some.injEq] at he; subst he; exact h
  have Hc := Lib.hid hc
  have Hl := Lib.hid hl
  clear hc hsrc hl
  have h63 : n ≤ maxLen := by unfold maxLen; omega
  go_enter Tryz.func93, Tryz.ntmps93
  go_wp2_with (at_builtin; refine wpList_append_own _ rfl _ _ 23 rfl w.heap.size 25 i0 _ 5 80 Tryz.underlying23 hi hz0 hz1 hz2 rfl (by decide) _ _ _ rfl (World.ownsRow_made w #[] 0 (Nat.le_refl _) (Nat.zero_le _) (by simp)) ad n c news rfl ?qc1 ?qc2 ?qc3 ?qc4 ?qc5 ?qc6 ?_)
  case qc1 => exact Hl.out
  case qc2 =>
   intro j u hj
   exact Lib.cell?_alloc_some _ (Hc.out j u hj)
  case qc3 => exact h1
  case qc4 => rw [Nat.zero_add]; exact h63
  case qc5 => rw [Nat.zero_add]; omega
  case qc6 => simp
  intro v' w1 hown hgrow hnil
  obtain ⟨a', c', rfl, hok'⟩ := owns_form hown
  go_wp2
  go_ret
  refine ⟨a', c', by simp, by simpa using hok', by simpa using hown, ?_⟩
  exact ((Below.refl _ w).alloc (Nat.le_refl _) _).grown hgrow (by simp) (by intro k hk; simp [Value.ownBlock] at hk; omega)
end Go.Proofs.YtjibdbnpkfghhaaGreatDoor
/- Rows of values: cells taken, joined, an item put in, taken out, set; no walk. -/
namespace Go.Proofs.YtjibdbnpkfghhaaGreatDoor
open Go.RowKit
abbrev V.five (x : V) (ka : Option Addr) (kc : Nat) (la : Option Addr) (lc : Nat) : List Value := [.int .i64 x.k, .int .i64 x.n, .string x.s, .slice ka x.keys.length kc, .slice la x.l.length lc]
theorem V.five_one (x : V) (ka : Option Addr) (kc : Nat) (la : Option Addr) (lc : Nat) : ∀ u ∈ x.five ka kc la lc, u.oneCell' = true := by
 intro u hu
 simp only [V.five, List.mem_cons, List.not_mem_nil, or_false] at hu
 rcases hu with rfl | rfl | rfl | rfl | rfl <;> rfl
theorem CellsOf.cons {w : World} {T : Nat → Prop} {x : V} {r : List V} {t : List Value} {ka : Option Addr} {kc : Nat} {la : Option Addr} {lc : Nat} (hx : x.In w T ka kc la lc) (hr : CellsOf w T r t) : CellsOf w T (x :: r) (x.five ka kc la lc ++ t) :=
 ⟨ka, kc, la, lc, t, rfl, hx, hr⟩
theorem CellsOf.uncons {w : World} {T : Nat → Prop} {x : V} {r : List V} {xs : List Value} (h : CellsOf w T (x :: r) xs) : ∃ ka kc la lc t, xs = x.five ka kc la lc ++ t ∧ x.In w T ka kc la lc ∧ CellsOf w T r t := by
 obtain ⟨ka, kc, la, lc, t, rfl, h1, h2⟩ := h
 exact ⟨ka, kc, la, lc, t, rfl, h1, h2⟩
theorem CellsOf.app {w : World} {T : Nat → Prop} {a b : List V} {x y : List Value} (h1 : CellsOf w T a x) (h2 : CellsOf w T b y) : CellsOf w T (a ++ b) (x ++ y) := by
 induction a generalizing x with
 | nil => obtain rfl : x = [] := h1; exact h2
 | cons v r ih =>
  obtain ⟨ka, kc, la, lc, t, rfl, h3, h4⟩ := h1.uncons
  rw [List.cons_append, List.append_assoc]
  exact .cons h3 (ih h4)
theorem CellsOf.nil {w : World} {T : Nat → Prop} : CellsOf w T [] [] := rfl
theorem CellsOf.cut {w : World} {T : Nat → Prop} {l : List V} {xs : List Value} (h : CellsOf w T l xs) (k : Nat) : CellsOf w T (l.take k) (xs.take (k * 5)) ∧ CellsOf w T (l.drop k) (xs.drop (k * 5)) := by
 induction k generalizing l xs with
 | zero => exact ⟨by rw [Nat.zero_mul, List.take_zero, List.take_zero]; exact .nil, by simpa using h⟩
 | succ k ih =>
  cases l with
  | nil => obtain rfl : xs = [] := h; exact ⟨by rw [List.take_nil, List.take_nil]; exact .nil, by rw [List.drop_nil, List.drop_nil]; exact .nil⟩
  | cons v r =>
   obtain ⟨ka, kc, la, lc, t, rfl, h3, h4⟩ := h.uncons
   obtain ⟨h5, h6⟩ := ih h4
   have e : (k + 1) * 5 = k * 5 + 1 + 1 + 1 + 1 + 1 := by omega
   rw [e]
   refine ⟨?_, ?_⟩
   ·simp only [List.take_succ_cons, V.five, List.cons_append, List.nil_append]
    exact ⟨ka, kc, la, lc, _, rfl, h3, h5⟩
   ·simpa using h6
theorem CellsOf.one {w : World} {T : Nat → Prop} {l : List V} {xs : List Value} (h : CellsOf w T l xs) : ∀ u ∈ xs, u.oneCell' = true := by
 induction l generalizing xs with
 | nil => obtain rfl : xs = [] := h; intro u hu; cases hu
 | cons v r ih =>
  obtain ⟨ka, kc, la, lc, t, rfl, h3, h4⟩ := h.uncons
  intro u hu
  rcases List.mem_append.1 hu with hu | hu
  ·exact v.five_one _ _ _ _ u hu
  ·exact ih h4 u hu
theorem CellsOf.ins {w : World} {T : Nat → Prop} {l : List V} {xs : List Value} (h : CellsOf w T l xs) (k : Nat) {x : V} {ka : Option Addr} {kc : Nat} {la : Option Addr} {lc : Nat} (hx : x.In w T ka kc la lc) :
  CellsOf w T (l.take k ++ x :: l.drop k) (xs.take (k * 5) ++ x.five ka kc la lc ++ xs.drop (k * 5)) := by
 rw [List.append_assoc]
 exact (h.cut k).1.app (.cons hx (h.cut k).2)
theorem CellsOf.del {w : World} {T : Nat → Prop} {l : List V} {xs : List Value} (h : CellsOf w T l xs) (k : Nat) : CellsOf w T (l.take k ++ l.drop (k + 1)) (xs.take (k * 5) ++ xs.drop ((k + 1) * 5)) := (h.cut k).1.app (h.cut (k + 1)).2
theorem CellsOf.mono {w : World} {S T : Nat → Prop} {l : List V} {xs : List Value} (h : CellsOf w S l xs) (hT : ∀ b, S b → b < w.heap.size → T b) : CellsOf w T l xs := h.keep (fun _ _ _ => rfl) hT
theorem rows_cells {w : World} {S : Nat → Prop} {l : List V} {a : Option Addr} (h : Rows w S l a) : ∃ xs, xs.length = l.length * 5 ∧ (l.length = 0 ∨ ∃ ad, a = some ad ∧ ∀ j u, xs[j]? = some u → w.cell? (ad.add j) = some u) ∧ CellsOf w S l xs := by
 rcases h with rfl | ⟨b, o, rfl, hS, hr⟩
 ·exact ⟨[], rfl, .inl rfl, rfl⟩
 ·have aux : ∀ (l : List V) (o : Nat), (∀ i (h : i < l.length), V.Item w S b (o + i * 5) l[i]) → ∃ xs, xs.length = l.length * 5 ∧ (∀ j u, xs[j]? = some u → w.cell? ⟨b, o + j, none⟩ = some u) ∧ CellsOf w S l xs := by
   intro l
   induction l with
   | nil => exact fun o _ => ⟨[], rfl, fun j u hj => by simp at hj, rfl⟩
   | cons x r ih =>
    intro o hr
    obtain ⟨ka, kc, la, lc, ⟨c0, c1, c2, c3, c4⟩, hin⟩ := hr 0 (by simp)
    obtain ⟨xs, h1, h2, h3⟩ := ih (o + 5) (fun i hi => by
     have := hr (i + 1) (by simpa using hi)
     rw [List.getElem_cons_succ, show o + (i + 1) * 5 = o + 5 + i * 5 from by omega] at this
     exact this)
    simp only [Nat.zero_mul, Nat.add_zero, List.getElem_cons_zero] at c0 c1 c2 c3 c4 hin
    refine ⟨x.five ka kc la lc ++ xs, by simp [h1]; omega, ?_, .cons hin h3⟩
    intro j u hj
    match j with
    | 0 => simp at hj; subst hj; exact c0
    | 1 => simp at hj; subst hj; exact c1
    | 2 => simp at hj; subst hj; exact c2
    | 3 => simp at hj; subst hj; exact c3
    | 4 => simp at hj; subst hj; exact c4
    | j + 5 =>
     have : xs[j]? = some u := by simpa using hj
     have := h2 j u this
     rwa [show o + 5 + j = o + (j + 5) by omega] at this
  obtain ⟨xs, h1, h2, h3⟩ := aux l o hr
  exact ⟨xs, h1, .inr ⟨_, rfl, fun j u hj => by rw [Addr.add_lit]; exact h2 j u hj⟩, h3⟩
theorem ownsRow_base {w : World} {b0 b1 e size : Nat} {v : Value} {n : Nat} {xs : List Value} (h : w.ownsRow b1 e size v n xs) (hb : b0 ≤ b1) : w.ownsRow b0 e size v n xs := by
 obtain ⟨hl, h1⟩ := h
 refine ⟨hl, ?_⟩
 rcases h1 with h1 | ⟨g, cap, cur, hv, hg, hr⟩
 ·exact .inl h1
 ·exact .inr ⟨g, cap, cur, hv, Nat.le_trans hb hg, hr⟩
theorem OwnL.mk {w : World} {base : Nat} {S : Nat → Prop} {v : Value} {n : Nat} {l : List V} {xs : List Value} (hl : l.length = n) (ho : w.ownsRow base 25 5 v n xs) (hc : CellsOf w (Foot base S v) l xs) : OwnL w base S v n l := ⟨hl, xs, ho, hc⟩
theorem set5_other (cur : Array Value) (a j : Nat) (u0 u1 u2 u3 u4 : Value) (h : j < a ∨ a + 5 ≤ j) : (((((cur.setIfInBounds a u0).setIfInBounds (a + 1) u1).setIfInBounds (a + 2) u2).setIfInBounds (a + 3) u3).setIfInBounds (a + 4) u4)[j]? = cur[j]? := by
 have h0 : ¬ a = j := by omega
 have h1 : ¬ a + 1 = j := by omega
 have h2 : ¬ a + 2 = j := by omega
 have h3 : ¬ a + 3 = j := by omega
 have h4 : ¬ a + 4 = j := by omega
 simp [Array.getElem?_setIfInBounds, h0, h1, h2, h3, h4]
theorem items_set {w w' : World} {F : Nat → Prop} {g k : Nat} {cur : Array Value} {T : TypeId} {l : List V} {y : V} {ka : Option Addr} {kc : Nat} {la : Option Addr} {lc : Nat} (hb : Box w g cur T) (hi : ∀ i (h : i < l.length), V.Item w F g (i * 5) l[i])
  (hk : k < l.length) (hsz : l.length * 5 ≤ cur.size) (hy : y.In w F ka kc la lc)
  (hb' : Box w' g (((((cur.setIfInBounds (k * 5) (.int .i64 y.k)).setIfInBounds (k * 5 + 1) (.int .i64 y.n)).setIfInBounds (k * 5 + 2) (.string y.s)).setIfInBounds (k * 5 + 3) (.slice ka y.keys.length kc)).setIfInBounds (k * 5 + 4) (.slice la y.l.length lc)) T)
  (hK : Kept F w w') : ∀ i (h : i < (l.set k y).length), V.Item w' F g (i * 5) (l.set k y)[i] := by
 have hc := hb.cells
 have hc' := hb'.cells
 intro i h
 simp only [List.length_set] at h
 by_cases e : i = k
 ·subst e
  refine ⟨ka, kc, la, lc, ?_, ?_⟩
  ·simp only [hc', List.getElem_set_self]
   have l0 : i * 5 < cur.size := by omega
   have l1 : i * 5 + 1 < cur.size := by omega
   have l2 : i * 5 + 2 < cur.size := by omega
   have l3 : i * 5 + 3 < cur.size := by omega
   have l4 : i * 5 + 4 < cur.size := by omega
   simp [Array.getElem?_setIfInBounds, l0, l1, l2, l3, l4]
  ·rw [List.getElem_set_self]; exact hy.keep hK (fun _ h _ => h)
 ·obtain ⟨ka', kc', la', lc', ⟨c0, c1, c2, c3, c4⟩, hin⟩ := hi i h
  rw [hc] at c0 c1 c2 c3 c4
  rw [List.getElem_set_ne (fun e' => e e'.symm)]
  refine ⟨ka', kc', la', lc', ?_, hin.keep hK (fun _ h _ => h)⟩
  simp only [hc']
  have hap : ∀ j, j < 5 → i * 5 + j < k * 5 ∨ k * 5 + 5 ≤ i * 5 + j := by intro j hj; omega
  exact ⟨(set5_other _ _ _ _ _ _ _ _ (hap 0 (by omega))).trans c0, (set5_other _ _ _ _ _ _ _ _ (hap 1 (by omega))).trans c1, (set5_other _ _ _ _ _ _ _ _ (hap 2 (by omega))).trans c2, (set5_other _ _ _ _ _ _ _ _ (hap 3 (by omega))).trans c3, (set5_other _ _ _ _ _ _ _ _ (hap 4 (by omega))).trans c4⟩
theorem Box.set5 {w : World} {g : Nat} {cur : Array Value} {T : TypeId} (h : Box w g cur T) (a : Nat) (u0 u1 u2 u3 u4 : Value) : Box (w.setCells g a [u0, u1, u2, u3, u4]) g (((((cur.setIfInBounds a u0).setIfInBounds (a + 1) u1).setIfInBounds (a + 2) u2).setIfInBounds (a + 3) u3).setIfInBounds (a + 4) u4) T :=
 ((((h.set a u0).set (a + 1) u1).set (a + 2) u2).set (a + 3) u3).set (a + 4) u4
theorem Box.other5 {w : World} {n : Nat} {vs : Array Value} {T : TypeId} (h : Box w n vs T) {g : Nat} (hn : n ≠ g) (a : Nat) (cs : List Value) : Box (w.setCells g a cs) n vs T := by
 induction cs generalizing w a with
 | nil => exact h
 | cons c r ih => exact ih (h.other (p := ⟨g, a, none⟩) hn c) _
theorem Held.set5 {T : Nat → Prop} {a b : World} (h : Held T a b) {g : Nat} (hg : ¬ T g) (o : Nat) (cs : List Value) : Held T a (b.setCells g o cs) := by
 induction cs generalizing b o with
 | nil => exact h
 | cons c r ih => exact ih (h.set (p := ⟨g, o, none⟩) hg c) _
theorem Ext.set5 {a b : World} (h : Ext a b) {g : Nat} (hg : a.heap.size ≤ g) (o : Nat) (cs : List Value) : Ext a (b.setCells g o cs) := by
 induction cs generalizing b o with
 | nil => exact h
 | cons c r ih => exact ih (h.setCell (p := ⟨g, o, none⟩) hg c) _
theorem there5 {w : World} {g : Nat} {cur : Array Value} {T : TypeId} (h : Box w g cur T) {o n : Nat} (hs : o + n ≤ cur.size) : w.there g o n := by
 intro j hj
 rw [h.cells, h.free, Array.getElem?_eq_getElem (by omega)]
 exact ⟨rfl, rfl⟩
theorem Tryz.sizeV : (Tryz.prog.info? 25).map (·.size) = some 5 := by kernel_rfl
theorem V.Item.keep' {S T : Nat → Prop} {w w' : World} {b o : Nat} {x : V} (h : V.Item w S b o x) (hT : T b) (hk : Kept T w w') (hS : ∀ b, S b → T b) : V.Item w' S b o x := by
 obtain ⟨ka, kc, la, lc, ⟨c0, c1, c2, c3, c4⟩, hin⟩ := h
 exact ⟨ka, kc, la, lc, ⟨hk.cell hT c0, hk.cell hT c1, hk.cell hT c2, hk.cell hT c3, hk.cell hT c4⟩, hin.keep (hk.mono hS) (fun _ h _ => h)⟩
theorem V.Item.mono {S T : Nat → Prop} {w : World} {b o : Nat} {x : V} (h : V.Item w S b o x) (hT : ∀ b, S b → T b) : V.Item w T b o x := by
 obtain ⟨ka, kc, la, lc, hc, hin⟩ := h
 exact ⟨ka, kc, la, lc, hc, hin.mono (fun b h _ => hT b h)⟩
theorem own_items {w : World} {base : Nat} {F : Nat → Prop} {a : Option Addr} {n c : Nat} {l : List V} {xs : List Value} (hn : 0 < n) (hl : l.length = n) (ho : w.ownsRow base 25 5 (.slice a n c) n xs) (hc : CellsOf w F l xs) :
  ∃ g cur, a = some ⟨g, 0, none⟩ ∧ base ≤ g ∧ Box w g cur 25 ∧ n * 5 ≤ cur.size ∧ ∀ i (h : i < l.length), V.Item w F g (i * 5) l[i] := by
 obtain ⟨g, cap, cur, hv, hb, hg, hnc, hcm, hcs, ht⟩ := ownsRow_at ho hn
 simp only [Value.slice.injEq, true_and] at hv
 obtain ⟨rfl, rfl⟩ := hv
 have hlt : n * 5 ≤ c * 5 := Nat.mul_le_mul_right _ hnc
 refine ⟨g, cur, rfl, hb, hg, by omega, ?_⟩
 intro i hi
 obtain ⟨ka, kc, la, lc, ⟨c0, c1, c2, c3, c4⟩, hin⟩ := hc.item i hi
 have hx : ∀ j u, xs[j]? = some u → w.cell? ⟨g, j, none⟩ = some u := by
  intro j u hj
  rw [cell_of_row w g j cur _ _ hg]
  rw [← ht] at hj
  rw [List.getElem?_take] at hj
  split at hj
  ·simpa using hj
  ·cases hj
 exact ⟨ka, kc, la, lc, ⟨hx _ _ c0, hx _ _ c1, hx _ _ c2, hx _ _ c3, hx _ _ c4⟩, hin⟩
theorem bs_rise (a : Option Addr) (n c : Nat) (ks : List ByteArray) (S : Nat → Prop) (key : ByteArray) (w : World) (hn : ks.length = n) (hst : StrsIn w S a ks) (hr : Rises ks) (hbig : n ≤ 1073741824) :
  Calls Tryz.prog 127 #[.slice a n c, .string key] w fun e w' => e = .returned (.tuple #[.int .i64 (posOf ks key : Nat), .bool (hasB ks key)]) ∧ Ext w w' := by
 subst hn
 rcases hst with rfl | ⟨b, o, rfl, hS, hc⟩
 ·refine (Any2.slices_BinarySearch_string_empty Tryz.lays2_26 a c key w).mono ?_
  rintro e w' ⟨rfl, rfl⟩
  exact ⟨rfl, Ext.refl _⟩
 ·have hcs : ∀ j, j < ks.length → w.cell? ⟨b, o + j, none⟩ = some (.string (ks.getD j ⟨#[]⟩)) := by
   intro j hj
   rw [hc j hj]; simp [List.getD, List.getElem?_eq_getElem hj]
  have hp := posOf_le ks key
  have hb : Lib.bsGo (fun t => Op.bytesLess (ks.getD t ⟨#[]⟩).toList key.toList) ks.length 0 ks.length = posOf ks key := by
   have e : ∀ lo hi f, hi ≤ ks.length → Lib.bsGo (fun t => Op.bytesLess (ks.getD t ⟨#[]⟩).toList key.toList) f lo hi = Lib.bsGo (fun t => decide (t < posOf ks key)) f lo hi := by
    intro lo hi f
    induction f generalizing lo hi with
    | zero => intro _; rfl
    | succ f ih =>
     intro hh
     unfold Lib.bsGo
     by_cases hlt : lo < hi
     ·rw [if_pos hlt, if_pos hlt]
      have hm : (lo + hi) / 2 < ks.length := by omega
      have : Op.bytesLess (ks.getD ((lo + hi) / 2) ⟨#[]⟩).toList key.toList = decide ((lo + hi) / 2 < posOf ks key) := by
       have eg : ks.getD ((lo + hi) / 2) ⟨#[]⟩ = ks[(lo + hi) / 2] := by simp [List.getD, List.getElem?_eq_getElem hm]
       rw [eg]
       by_cases hp2 : (lo + hi) / 2 < posOf ks key
       ·rw [decide_eq_true hp2]; exact posOf_below hm hp2
       ·rw [decide_eq_false hp2]; exact pos_above hr hm (by omega)
      rw [this, ih _ _ hh, ih _ _ (by omega)]
     ·rw [if_neg hlt, if_neg hlt]
   rw [e _ _ _ (Nat.le_refl _)]
   exact Lib.bsGo_spec _ _ (fun t ht => by simpa using ht) (fun t ht => by simpa using ht) _ _ _ (by omega) (by omega) hp
  refine (Any2.slices_BinarySearch_string Tryz.lays2_26 b o ks.length c (fun t => ks.getD t ⟨#[]⟩) key w (by omega) hcs).mono ?_
  rintro e w' ⟨rfl, q, rfl⟩
  rw [hb]
  refine ⟨?_, (Ext.refl w).drewN q⟩
  have : decide (posOf ks key < ks.length ∧ ks.getD (posOf ks key) ⟨#[]⟩ = key) = hasB ks key := by
   rw [Bool.eq_iff_iff, decide_eq_true_eq, hasB_iff]
   constructor
   ·rintro ⟨h1, h2⟩
    rw [List.getElem?_eq_getElem h1]
    simp only [List.getD, List.getElem?_eq_getElem h1, Option.getD_some] at h2
    rw [h2]
   ·intro h
    obtain ⟨h1, h2⟩ := List.getElem?_eq_some_iff.1 h
    exact ⟨h1, by simp [List.getD, h]⟩
  rw [this]
end Go.Proofs.YtjibdbnpkfghhaaGreatDoor
