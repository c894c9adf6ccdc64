/- Plain functions of package json: what a good value is, likeness, members. No program in sight. -/
import Derived.Test.YtknnflobpjppfaaDoorVal
set_option linter.all false
namespace Go.Proofs.YtknnflobpjppfaaDoor
open Go.RowKit

def ltS (a b : ByteArray) : Bool := Op.bytesLess a.toList b.toList
def plainB (s : ByteArray) : Bool := (s.data.toList.all fun c => decide ((c.toNat : Int) < 128)) && decide (s.size ≤ 60)
/-- Keys: each plain, each above the one ahead of it. -/
def keysB (ks : List ByteArray) : Bool := decide (∀ i, (h : i < ks.length) → plainB ks[i] = true ∧ (0 < i → ltS (ks[i - 1]'(by omega)) ks[i] = true))
def g1 (d k : Int) : Bool := decide (12 < d ∨ k < 0 ∨ 5 < k)
def g2 (k n : Int) (s : ByteArray) (lk ll : Nat) : Bool := decide ((k ≠ 1 ∧ k ≠ 2 ∧ n ≠ 0) ∨ (k ≠ 3 ∧ s.toList ≠ []) ∨ (k ≠ 5 ∧ 0 < lk) ∨ (k < 4 ∧ 0 < ll))
def g3 (k n : Int) (s : ByteArray) : Bool := decide ((k = 1 ∧ n ≠ 0 ∧ n ≠ 1) ∨ n < -9007199254740992 ∨ 9007199254740992 < n) || !plainB s
def g4 (k : Int) (lk ll : Nat) : Bool := decide (k = 5 ∧ lk ≠ ll)
def V.flat (d : Int) (x : V) : Bool := !g1 d x.k && !g2 x.k x.n x.s x.keys.length x.l.length && !g3 x.k x.n x.s && !g4 x.k x.keys.length x.l.length && keysB x.keys

/-- Is a value one, at that depth? -/
def V.good : V → Int → Bool
  | .mk k n s ks l, d => V.flat d (.mk k n s ks l) && go l (d + 1)
where go : List V → Int → Bool
  | [], _ => true
  | x :: r, d => V.good x d && go r d
theorem V.good_go (l : List V) (d : Int) : V.good.go l d = l.all fun x => x.good d := by
  induction l with
  | nil => simp [V.good.go]
  | cons x r ih => simp [V.good.go, ih]
theorem V.good_eq (x : V) (d : Int) : x.good d = (x.flat d && x.l.all fun y => y.good (d + 1)) := by
  cases x with | mk k n s ks l => rw [V.good, V.good_go]; rfl
/-- Is a value one? -/
def V.fine (x : V) : Bool := x.good 1 && decide (x.count ≤ 120)

theorem V.count_le (x : V) : x.count ≤ x.size := by
  induction x using V.ind with
  | h x ih =>
    rw [V.count_eq, V.size_eq]
    have : (x.l.map V.count).sum ≤ (x.l.map V.size).sum := by
      generalize x.l = l at *
      induction l with
      | nil => simp
      | cons a r ih2 =>
        simp only [List.map_cons, List.sum_cons]
        have h1 := ih a (by simp)
        have h2 := ih2 (fun y hy => ih y (by simp [hy]))
        omega
    omega
theorem V.count_item {x : V} {i : Nat} (h : i < x.l.length) : (x.l[i]).count < x.count := by
  rw [V.count_eq x]; have := sum_ge V.count (List.getElem_mem h); omega

theorem sum_take {α : Type} (f : α → Nat) (l : List α) {k : Nat} (h : k < l.length) : ((l.take (k + 1)).map f).sum = ((l.take k).map f).sum + f l[k] := by
  rw [List.take_succ_eq_append_getElem h]; simp only [List.map_append, List.map_cons, List.map_nil, List.sum_append, List.sum_cons, List.sum_nil, Nat.add_zero]
theorem sum_take_le {α : Type} (f : α → Nat) (l : List α) (k : Nat) : ((l.take k).map f).sum ≤ (l.map f).sum := by
  induction l generalizing k with
  | nil => simp
  | cons a r ih =>
    cases k with
    | zero => simp
    | succ k => simp only [List.take_succ_cons, List.map_cons, List.sum_cons]; have := ih k; omega
theorem all_take {α : Type} (f : α → Bool) (l : List α) {k : Nat} (h : k < l.length) (h0 : (l.take k).all f = true) (h1 : f l[k] = true) : (l.take (k + 1)).all f = true := by
  rw [List.take_succ_eq_append_getElem h]; simp only [List.all_append, List.all_cons, List.all_nil, Bool.and_true, Bool.and_eq_true]; exact ⟨h0, h1⟩
theorem all_bad {α : Type} (f : α → Bool) (l : List α) {k : Nat} (h : k < l.length) (h1 : f l[k] = false) : l.all f = false := by
  simp only [List.all_eq_false]; exact ⟨l[k], List.getElem_mem h, by simp [h1]⟩

/-- Are two values alike? -/
def V.same : V → V → Bool
  | .mk k n s ks l, y => decide (k = y.k ∧ n = y.n ∧ s.toList = y.s.toList ∧ ks.map ByteArray.toList = y.keys.map ByteArray.toList ∧ l.length = y.l.length) && go l y.l
where go : List V → List V → Bool
  | [], _ => true
  | _, [] => true
  | x :: r, y :: t => V.same x y && go r t

/-- What a value has by a key: which, of its items. -/
def V.find (x : V) (key : ByteArray) : Option Nat := if x.k = 5 ∧ x.keys.length = x.l.length then x.keys.findIdx? fun k => decide (k.toList = key.toList) else none
def V.zero : V := .mk 0 0 ⟨#[]⟩ [] []
def V.member (x : V) (key : ByteArray) : Option V := (x.find key).bind fun i => x.l[i]?

end Go.Proofs.YtknnflobpjppfaaDoor
