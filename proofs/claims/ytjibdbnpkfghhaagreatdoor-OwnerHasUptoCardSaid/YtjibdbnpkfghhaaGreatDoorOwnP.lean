/- Keys and items that a call gathers, an item at a time; the items lead to what was there. -/
import Derived.Test.YtjibdbnpkfghhaaGreatDoorPkC
import Derived.Test.YtjibdbnpkfghhaaGreatDoorByt
set_option linter.all false
namespace Go.Proofs.YtjibdbnpkfghhaaGreatDoor
open Go.RowKit

/-- Items of the call's own that lead to what was there before base. -/
def OwnI (w : World) (base : Nat) (S : Nat → Prop) (v : Value) (n : Nat) (l : List V) : Prop :=
  l.length = n ∧ ∃ xs, w.ownsRow base 25 5 v n xs ∧ CellsOf w (fun b => b < base ∧ S b) l xs
theorem OwnI.nil (w : World) (base : Nat) (S : Nat → Prop) : OwnI w base S (.slice none 0 0) 0 [] := ⟨rfl, [], World.ownsRow_nil _ _ _ _, rfl⟩
theorem OwnI.keep {w w' : World} {base : Nat} {S : Nat → Prop} {v : Value} {n : Nat} {l : List V} (h : OwnI w base S v n l) (e : ∀ b, b < w.heap.size → (b < base ∧ S b) ∨ v.ownBlock = some b → w'.heap[b]? = w.heap[b]?) : OwnI w' base S v n l := by
  obtain ⟨h0, xs, h1, h2⟩ := h
  exact ⟨h0, xs, ownsRow_keep h1 (fun b hb he => e b hb (.inr he)), h2.keep (fun b hb hl => e b hl (.inl hb)) (fun _ h _ => h)⟩
theorem OwnI.ext {w w' : World} {base : Nat} {S : Nat → Prop} {v : Value} {n : Nat} {l : List V} (h : OwnI w base S v n l) (e : Ext w w') : OwnI w' base S v n l := h.keep (fun b hb _ => Below.block e b hb)
theorem OwnI.push {w w1 : World} {base : Nat} {S : Nat → Prop} {v' : Value} {n : Nat} {l : List V} {xs : List Value} (h0 : l.length = n) (hc : CellsOf w (fun b => b < base ∧ S b) l xs)
    {x : V} {ka : Option Addr} {kc : Nat} {la : Option Addr} {lc : Nat} (hx : x.In w (fun b => b < base ∧ S b) ka kc la lc)
    (hown : w1.ownsRow base 25 5 v' (n + 1) (xs ++ [.int .i64 x.k, .int .i64 x.n, .string x.s, .slice ka x.keys.length kc, .slice la x.l.length lc])) (hk : Kept (fun b => b < base ∧ S b) w w1) : OwnI w1 base S v' (n + 1) (l ++ [x]) :=
  ⟨by simp [h0], _, hown, (hc.keep hk (fun _ h _ => h)).snoc (hx.keep hk (fun _ h _ => h))⟩
theorem OwnI.ownL {w : World} {base : Nat} {S : Nat → Prop} {v : Value} {n : Nat} {l : List V} (h : OwnI w base S v n l) : OwnL w base S v n l := by
  obtain ⟨h0, xs, h1, h2⟩ := h
  exact ⟨h0, xs, h1, h2.keep (fun _ _ _ => rfl) (fun b hb _ => .inl hb)⟩
theorem OwnI.lt {w : World} {base : Nat} {S : Nat → Prop} {v : Value} {n : Nat} {l : List V} (h : OwnI w base S v n l) : ∀ g, v.ownBlock = some g → base ≤ g ∧ g < w.heap.size := by
  obtain ⟨_, xs, h1, _⟩ := h
  exact h1.lt
theorem OwnS.lt {w : World} {base : Nat} {v : Value} {n : Nat} {ks : List ByteArray} (h : OwnS w base v n ks) : ∀ g, v.ownBlock = some g → base ≤ g ∧ g < w.heap.size := h.2.lt
theorem OwnS.keep {w w' : World} {base : Nat} {v : Value} {n : Nat} {ks : List ByteArray} (h : OwnS w base v n ks) (e : ∀ b, b < w.heap.size → v.ownBlock = some b → w'.heap[b]? = w.heap[b]?) : OwnS w' base v n ks := ⟨h.1, ownsRow_keep h.2 e⟩
theorem OwnS.push {w1 : World} {base : Nat} {v' : Value} {n : Nat} {ks : List ByteArray} {k : ByteArray} (h0 : ks.length = n) (hown : w1.ownsRow base 9 1 v' (n + 1) (ks.map Value.string ++ [.string k])) : OwnS w1 base v' (n + 1) (ks ++ [k]) :=
  ⟨by simp [h0], by simpa using hown⟩
/-- The two rows are two. -/
theorem own_apart {w : World} {base b2 : Nat} {S : Nat → Prop} {v u : Value} {n m : Nat} {ks : List ByteArray} {l : List V} (h : OwnS w base v n ks) (k : OwnI w b2 S u m l) : ∀ g, v.ownBlock = some g → u.ownBlock ≠ some g := by
  intro g h1 h2
  obtain ⟨_, xs, k1, _⟩ := k
  obtain ⟨q1, z1, e1⟩ := owns_kind h.2 g h1
  obtain ⟨q2, z2, e2⟩ := owns_kind k1 g h2
  rw [e1] at e2
  simp at e2
/-- What has been gathered, as an object. -/
theorem own_obj {w : World} {base n m : Nat} {S : Nat → Prop} {ka : Option Addr} {kc : Nat} {la : Option Addr} {lc : Nat} {ks : List ByteArray} {l : List V} (h : OwnS w base (.slice ka n kc) n ks) (k : OwnI w base S (.slice la m lc) m l) :
    (V.mk 5 0 ⟨#[]⟩ ks l).In w (fun b => (b < base ∧ S b) ∨ base ≤ b) ka kc la lc := by
  obtain ⟨a, c, he, hok, h0, hst⟩ := h.strs
  simp only [Value.slice.injEq, true_and] at he
  obtain ⟨rfl, rfl⟩ := he
  obtain ⟨a2, c2, he2, hok2, k0, hrows⟩ := k.ownL.rows
  simp only [Value.slice.injEq, true_and] at he2
  obtain ⟨rfl, rfl⟩ := he2
  exact (V.in_iff ..).2 ⟨by rw [V.keys_mk, h0]; exact hok, by rw [V.l_mk, k0]; exact hok2, hst.keep (fun _ _ _ => rfl) (fun b hb _ => .inr hb), hrows⟩
/-- The items, where the keys' row has grown. -/
theorem OwnI.grownK {wr WA w4 : World} {base n m : Nat} {S : Nat → Prop} {vk vl : Value} {ks : List ByteArray} {l : List V} (hS : OwnS wr base vk n ks) (hI : OwnI wr base S vl m l) (e : Ext wr WA) (hg : WA.grownBy w4 vk.ownBlock) : OwnI w4 base S vl m l :=
  (hI.ext e).keep fun b hb he => hg.block b hb fun h => by
    rcases he with he | he
    · have := (hS.lt b h.symm).1; omega
    · exact own_apart hS hI b h.symm he
/-- The keys, where the items' row has grown. -/
theorem OwnS.grownI {w4 W w9 : World} {base n m : Nat} {S : Nat → Prop} {vk vl : Value} {ks : List ByteArray} {l : List V} (hS : OwnS w4 base vk n ks) (hI : OwnI w4 base S vl m l) (e : Ext w4 W) (hg : W.grownBy w9 vl.ownBlock) : OwnS w9 base vk n ks :=
  (hS.ext e).keep fun b hb he => hg.block b hb fun h => own_apart hS hI b he h.symm
/-- One more item, behind the append. -/
theorem OwnI.push2 {w0 W w1 wr : World} {base : Nat} {S : Nat → Prop} {v v' : Value} {n : Nat} {l : List V} {xs : List Value} (h0 : l.length = n) (hc : CellsOf w0 (fun b => b < base ∧ S b) l xs) (e : Ext w0 W)
    {x : V} {ka : Option Addr} {kc : Nat} {la : Option Addr} {lc : Nat} (hx : x.In wr (fun b => b < base ∧ S b) ka kc la lc) (k : Held (fun b => b < base) wr W)
    (hown : w1.ownsRow base 25 5 v' (n + 1) (xs ++ [.int .i64 x.k, .int .i64 x.n, .string x.s, .slice ka x.keys.length kc, .slice la x.l.length lc])) (hg : W.grownBy w1 v.ownBlock) (hlt : ∀ g, v.ownBlock = some g → base ≤ g) : OwnI w1 base S v' (n + 1) (l ++ [x]) :=
  OwnI.push h0 (hc.keep (e.kept _) (fun _ h _ => h)) (hx.keep (Held.kept (k.mono (fun b h => h.1))) (fun _ h _ => h)) hown (fun b hb hl => hg.block b hl (fun h => by have := hlt b h.symm; omega))
/-- One more key, by an append in a region that draws. -/
theorem app_key {wr W : World} {o : Oper} {a : Act} {K : Act → World → Prop} {Q : Exit → Act → World → Prop} {base n m : Nat} {S : Nat → Prop} {vk vl : Value} {ks : List ByteArray} {l : List V} (key : ByteArray) (B : Nat) {s x : Operand}
    (ho : o.op = .call { callee := .builtin .append, args := #[s, x], argTypes := #[22, 22] }) (hs : a.eval s = vk) (hx : a.eval x = .slice (some ⟨B, 0, none⟩) 1 1)
    (hS : OwnS wr base vk n ks) (hI : OwnI wr base S vl m l) (e : Ext wr W) (hd : Held (fun b => b < base) wr W) (hB : Box W B #[.string key] 9) (hn : n ≤ 10737418240) (hbase : base ≤ wr.heap.size)
    (h : ∀ g cap w', OwnS w' base (.slice (some ⟨g, 0, none⟩) (n + 1) cap) (n + 1) (ks ++ [key]) → OwnI w' base S vl m l → Held (fun b => b < base) wr w' → (∀ w0 : World, Ext w0 wr → w0.heap.size ≤ base → Ext w0 w') → W.grownBy w' vk.ownBlock → K (a.put o.dst (.slice (some ⟨g, 0, none⟩) (n + 1) cap)) w') : o.wp Tryz.prog a W K Q := by
  obtain ⟨i0, hi, hz0, hz1, hz2⟩ := info_parts Tryz.infoS
  refine wp_append_lies _ s x _ ho base 9 i0 _ 1 16 Tryz.underlying22 hi hz0 hz1 hz2 rfl (by decide) vk n (ks.map Value.string) hs (ownsRow_ext hS.2 e) ⟨B, 0, none⟩ 1 1 [.string key] hx (by rfl) (World.news_of_block (cs := #[.string key]) hB) (by simp [Value.oneCell']) (by omega) (by unfold maxLen; omega) (by omega) (Nat.le_trans hbase e.size) _ rfl ?_
  intro g cap w' hown hgrow _ _
  exact h g cap w' (OwnS.push hS.1 hown) (OwnI.grownK hS hI e hgrow) (Held.grown hd hgrow (fun g hg hT => by have := (hS.lt g hg).1; omega)) (fun w0 e0 h0 => Ext.grown (e0.trans e) hgrow (fun g hg => by have := (hS.lt g hg).1; omega)) hgrow
/-- One more item, by an append in a region that draws. -/
theorem app_val {wr w4 W : World} {o : Oper} {a : Act} {K : Act → World → Prop} {Q : Exit → Act → World → Prop} {base n m : Nat} {S : Nat → Prop} {vk vl : Value} {ks : List ByteArray} {l : List V} {x : V} {ka : Option Addr} {kc : Nat} {la : Option Addr} {lc : Nat} (B : Nat) {s t : Operand}
    (ho : o.op = .call { callee := .builtin .append, args := #[s, t], argTypes := #[23, 23] }) (hs : a.eval s = vl) (hx : a.eval t = .slice (some ⟨B, 0, none⟩) 1 1)
    (hS : OwnS w4 base vk m ks) (hI : OwnI w4 base S vl n l) (hv : x.In wr (fun b => b < base ∧ S b) ka kc la lc) (e : Ext w4 W) (hd : Held (fun b => b < base) wr W) (hB : Box W B #[.int .i64 x.k, .int .i64 x.n, .string x.s, .slice ka x.keys.length kc, .slice la x.l.length lc] 25) (hn : n ≤ 10737418240) (hbase : base ≤ wr.heap.size)
    (h : ∀ g cap w', OwnS w' base vk m ks → OwnI w' base S (.slice (some ⟨g, 0, none⟩) (n + 1) cap) (n + 1) (l ++ [x]) → Held (fun b => b < base) wr w' → (∀ w0 : World, Ext w0 w4 → w0.heap.size ≤ base → Ext w0 w') → K (a.put o.dst (.slice (some ⟨g, 0, none⟩) (n + 1) cap)) w') : o.wp Tryz.prog a W K Q := by
  obtain ⟨j0, hj, hy0, hy1, hy2⟩ := info_parts Tryz.infoV
  obtain ⟨hl0, xs, hI1, hI2⟩ := hI
  have hlt : ∀ g, vl.ownBlock = some g → base ≤ g := fun g hg => (hI1.lt g hg).1
  refine wp_append_lies _ s t _ ho base 25 j0 _ 5 80 Tryz.underlying23 hj hy0 hy1 hy2 rfl (by decide) vl n xs hs (ownsRow_ext hI1 e) ⟨B, 0, none⟩ 1 1 [.int .i64 x.k, .int .i64 x.n, .string x.s, .slice ka x.keys.length kc, .slice la x.l.length lc] hx (by rfl) (World.news_of_block (cs := #[.int .i64 x.k, .int .i64 x.n, .string x.s, .slice ka x.keys.length kc, .slice la x.l.length lc]) (t := 25) (fr := (0, 0)) hB) (by simp [Value.oneCell']) (by omega) (by unfold maxLen; omega) (by omega) (Nat.le_trans hbase hd.size) _ rfl ?_
  intro g cap w' hown hgrow _ _
  exact h g cap w' (OwnS.grownI hS ⟨hl0, xs, hI1, hI2⟩ e hgrow) (OwnI.push2 hl0 hI2 e hv hd hown hgrow hlt) (Held.grown hd hgrow (fun g hg hT => by have := hlt g hg; omega)) (fun w0 e0 h0 => Ext.grown (e0.trans e) hgrow (fun g hg => by have := hlt g hg; omega))
/-- The two rows are stored into the object. -/
theorem with_end {w wb wr w9 : World} {base n m out : Nat} {S0 : Nat → Prop} {vk vl u3 u4 : Value} {ks : List ByteArray} {l : List V} (hS : OwnS w9 base vk n ks) (hI : OwnI w9 base S0 vl m l) (hB : Box w9 out #[.int .i64 5, .int .i64 0, .string ⟨#[]⟩, u3, u4] 25)
    (hh : Held (fun b => b < base ∧ b ≠ out) wb wr) (hh9 : Held (fun b => b < base) wr w9) (hx : Ext w w9) (hS0 : ∀ b, S0 b → b < w.heap.size) (ho : w.heap.size ≤ out) (hob : out < base) :
    OwnS ((w9.setCell ⟨out, 3, none⟩ vk).setCell ⟨out, 4, none⟩ vl) base vk n ks ∧ OwnI ((w9.setCell ⟨out, 3, none⟩ vk).setCell ⟨out, 4, none⟩ vl) base S0 vl m l ∧ Box ((w9.setCell ⟨out, 3, none⟩ vk).setCell ⟨out, 4, none⟩ vl) out #[.int .i64 5, .int .i64 0, .string ⟨#[]⟩, vk, vl] 25 ∧
      Ext w ((w9.setCell ⟨out, 3, none⟩ vk).setCell ⟨out, 4, none⟩ vl) ∧ Held (fun b => b < base ∧ b ≠ out) wb ((w9.setCell ⟨out, 3, none⟩ vk).setCell ⟨out, 4, none⟩ vl) := by
  have hy : Held (fun b => b ≠ out) w9 ((w9.setCell ⟨out, 3, none⟩ vk).setCell ⟨out, 4, none⟩ vl) := ((Held.refl _ _).set (by simp) _).set (by simp) _
  refine ⟨hS.keep (fun b hb he => hy.block b (by have := (hS.lt b he).1; omega) hb), hI.keep (fun b hb he => hy.block b (by rcases he with he | he; have := hS0 b he.2; omega; have := (hI.lt b he).1; omega) hb), Box.to ((hB.set 3 vk).set 4 vl) (by simp), (hx.setCell (by simpa using ho) _).setCell (by simpa using ho) _, (hh.trans (hh9.mono (fun b h => h.1))).trans (hy.mono (fun b h => h.2))⟩
end Go.Proofs.YtjibdbnpkfghhaaGreatDoor
