/- Keys and items that a call gathers, an item at a time; the items lead to what was there. -/
import Derived.Test.YtjibdbnpkfghhaaGreatDoorPkC
import Derived.Test.YtjibdbnpkfghhaaGreatDoorByt
set_option linter.all false
namespace Go.Proofs.YtjibdbnpkfghhaaGreatDoor
open Go.RowKit
def OwnI (w : World) (base : Nat) (S : Nat → Prop) (v : Value) (n : Nat) (l : List V) : Prop :=
 l.length = n ∧ ∃ xs, w.ownsRow base 25 5 v n xs ∧ CellsOf w (fun b => b < base ∧ S b) l xs
theorem OwnI.nil (w : World) (base : Nat) (S : Nat → Prop) : OwnI w base S (.slice none 0 0) 0 [] := ⟨rfl, [], World.ownsRow_nil _ _ _ _, rfl⟩
theorem OwnI.keep {w w' : World} {base : Nat} {S : Nat → Prop} {v : Value} {n : Nat} {l : List V} (h : OwnI w base S v n l) (e : ∀ b, b < w.heap.size → (b < base ∧ S b) ∨ v.ownBlock = some b → w'.heap[b]? = w.heap[b]?) : OwnI w' base S v n l := by
 obtain ⟨h0, xs, h1, h2⟩ := h
 exact ⟨h0, xs, ownsRow_keep h1 (fun b hb he => e b hb (.inr he)), h2.keep (fun b hb hl => e b hl (.inl hb)) (fun _ h _ => h)⟩
theorem OwnI.ext {w w' : World} {base : Nat} {S : Nat → Prop} {v : Value} {n : Nat} {l : List V} (h : OwnI w base S v n l) (e : Ext w w') : OwnI w' base S v n l := h.keep (fun b hb _ => Below.block e b hb)
theorem OwnI.push {w w1 : World} {base : Nat} {S : Nat → Prop} {v' : Value} {n : Nat} {l : List V} {xs : List Value} (h0 : l.length = n) (hc : CellsOf w (fun b => b < base ∧ S b) l xs)
  {x : V} {ka : Option Addr} {kc : Nat} {la : Option Addr} {lc : Nat} (hx : x.In w (fun b => b < base ∧ S b) ka kc la lc)
  (hown : w1.ownsRow base 25 5 v' (n + 1) (xs ++ [.int .i64 x.k, .int .i64 x.n, .string x.s, .slice ka x.keys.length kc, .slice la x.l.length lc])) (hk : Kept (fun b => b < base ∧ S b) w w1) : OwnI w1 base S v' (n + 1) (l ++ [x]) :=
 ⟨by simp [h0], _, hown, (hc.keep hk (fun _ h _ => h)).snoc (hx.keep hk (fun _ h _ => h))⟩
theorem OwnI.lt {w : World} {base : Nat} {S : Nat → Prop} {v : Value} {n : Nat} {l : List V} (h : OwnI w base S v n l) : ∀ g, v.ownBlock = some g → base ≤ g ∧ g < w.heap.size := by
 obtain ⟨_, xs, h1, _⟩ := h
 exact h1.lt
theorem OwnS.lt {w : World} {base : Nat} {v : Value} {n : Nat} {ks : List ByteArray} (h : OwnS w base v n ks) : ∀ g, v.ownBlock = some g → base ≤ g ∧ g < w.heap.size := h.2.lt
theorem OwnS.keep {w w' : World} {base : Nat} {v : Value} {n : Nat} {ks : List ByteArray} (h : OwnS w base v n ks) (e : ∀ b, b < w.heap.size → v.ownBlock = some b → w'.heap[b]? = w.heap[b]?) : OwnS w' base v n ks := ⟨h.1, ownsRow_keep h.2 e⟩
theorem OwnS.push {w1 : World} {base : Nat} {v' : Value} {n : Nat} {ks : List ByteArray} {k : ByteArray} (h0 : ks.length = n) (hown : w1.ownsRow base 9 1 v' (n + 1) (ks.map Value.string ++ [.string k])) : OwnS w1 base v' (n + 1) (ks ++ [k]) :=
 ⟨by simp [h0], by simpa using hown⟩
end Go.Proofs.YtjibdbnpkfghhaaGreatDoor
