/- Rows of bytes that the call itself makes; what is written is nothing else. -/
import Derived.Test.YtjibdbnpkfghhaaGreatDoorIdx
import Derived.Test.YtjibdbnpkfghhaaGreatDoorPkB
import Derived.Lib.AppendStr
import Derived.Deep.AppendLies
import Derived.Lib.OthersKept
set_option linter.all false
namespace Go.Proofs.YtjibdbnpkfghhaaGreatDoor
open Go.RowKit
theorem Tryz.infoB : (Tryz.prog.info? 5).map (fun i => (i.zero, i.size, i.bytes)) = some (some (.int .u8 0), 1, 1) := by kernel_rfl
def OwnB (w : World) (B : Nat) (v : Value) (l : Bytes) : Prop := w.ownsRow B 5 1 v l.length (Lib.byteCells l)
structure Wrote (B : Nat) (w w' : World) : Prop where
 below : Below B w w'
 others : Lib.OthersKept 5 none w w'
theorem Wrote.refl (B : Nat) (w : World) : Wrote B w w := ⟨Below.refl _ _, Lib.OthersKept.refl _ _ _⟩
theorem Wrote.trans {B : Nat} {a b c : World} (h : Wrote B a b) (k : Wrote B b c) : Wrote B a c := ⟨h.below.trans k.below, h.others.trans k.others⟩
theorem others_ext {b c : World} (e : Ext b c) : Lib.OthersKept 5 none b c := by
 intro k o hk _ _
 rw [Below.block e k (Array.getElem?_eq_some_iff.1 hk).1]; exact hk
theorem Wrote.ext {B : Nat} {a b c : World} (h : Wrote B a b) (hB : B ≤ a.heap.size) (e : Ext b c) : Wrote B a c :=
 ⟨h.below.trans (Below.mono e (Nat.le_trans hB (Below.size h.below))), h.others.trans (others_ext e)⟩
theorem Wrote.size {B : Nat} {a b : World} (h : Wrote B a b) : a.heap.size ≤ b.heap.size := Below.size h.below
theorem owns_kind {w : World} {B : Nat} {v : Value} {n : Nat} {xs : List Value} {e s : Nat} (h : w.ownsRow B e s v n xs) : ∀ g, v.ownBlock = some g → ∃ c fz, w.heap[g]? = some (.cells c e fz) := by
 intro g hg
 rcases h.2 with ⟨rfl, -⟩ | ⟨g', cap, cur, rfl, -, hgg, -⟩
 ·simp [Value.ownBlock] at hg
 ·simp [Value.ownBlock] at hg
  subst hg
  exact ⟨cur, _, hgg⟩
theorem Wrote.grown {B : Nat} {a w w' : World} (h : Wrote B a w) (hB : B ≤ a.heap.size) {v : Value} {n : Nat} {xs : List Value} (hown : w.ownsRow B 5 1 v n xs) (g : w.grownBy w' v.ownBlock) : Wrote B a w' :=
 ⟨Below.grown h.below g (Nat.le_trans hB h.size) (fun k hk => (hown.lt k hk).1), h.others.grown g (owns_kind hown)⟩
theorem OwnB.nil (w : World) (B : Nat) : OwnB w B (.slice none 0 0) [] := World.ownsRow_nil _ _ _ _
theorem OwnB.ext {w w' : World} {B : Nat} {v : Value} {l : Bytes} (h : OwnB w B v l) (e : Ext w w') : OwnB w' B v l := ownsRow_ext h e
theorem OwnB.form {w : World} {B : Nat} {v : Value} {l : Bytes} (h : OwnB w B v l) : ∃ a c, v = .slice a l.length c ∧ SlOk a l.length c := owns_form h
theorem byteCells_one (l : Bytes) : ∀ u ∈ Lib.byteCells l, u.oneCell' = true := by
 intro u hu
 simp only [Lib.byteCells, List.mem_map] at hu
 obtain ⟨b, -, rfl⟩ := hu
 rfl
theorem wpl_app {w : World} {ops : Array Oper} {rest : List Oper} {o : Oper} {a : Act} {Q : Exit → Act → World → Prop} (hgd : o.guard = none) (s x : Operand) (t : TypeId)
  (ho : o.op = .call { callee := .builtin .append, args := #[s, x], argTypes := #[t, t] }) (ht : Tryz.prog.underlying t = some (.slice 5))
  (B : Nat) (v : Value) (l : Bytes) (hs : a.eval s = v) (hown : OwnB w B v l) (ad : Addr) (m c : Nat) (news : Bytes) (hx : a.eval x = .slice (some ad) m c) (hm : news.length = m)
  (hnews : ∀ j u, (Lib.byteCells news)[j]? = some u → w.cell? (ad.add j) = some u) (hlim : l.length + m ≤ 140737488355328) (hB : B ≤ w.heap.size)
  (h : ∀ v' w', OwnB w' B v' (l ++ news) → w.grownBy w' v.ownBlock → wpList Tryz.prog ops Q rest (a.put o.dst v') w') : wpList Tryz.prog ops Q (o :: rest) a w := by
 obtain ⟨i0, hi, hz0, hz1, hz2⟩ := info_parts Tryz.infoB
 refine wpList_append_own _ hgd s x t ho B 5 i0 _ 1 1 ht hi hz0 hz1 hz2 rfl (by decide) v l.length _ hs hown ad m c (Lib.byteCells news) hx (by rw [Lib.byteCells_length, hm]; omega) hnews (byteCells_one _) (by unfold maxLen; omega) (by omega) hB ?_
 intro v' w' h1 h2 _
 refine h v' w' ?_ h2
 unfold OwnB
 rw [List.length_append, Lib.byteCells_append, hm]
 exact h1
end Go.Proofs.YtjibdbnpkfghhaaGreatDoor
