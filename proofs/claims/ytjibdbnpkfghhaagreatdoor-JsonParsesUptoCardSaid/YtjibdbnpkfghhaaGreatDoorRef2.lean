/- The walks of the reference's values: shaped, GoodValue. -/
import Derived.Test.YtjibdbnpkfghhaaGreatDoorRef1
import Derived.Deep.CutBlock
import Derived.Deep.RegionHeld3
import Derived.Deep.DrawnRows
set_option linter.all false
namespace Go.Proofs.YtjibdbnpkfghhaaGreatDoor
open Go.RowKit
attribute [local go_sem ↓] Go.wp_at_zero Go.wp_at_succ

def f0 (n : Int) (s : ByteArray) (lk ll : Nat) : Bool := decide (n = 0 ∧ s.toList.isEmpty = true ∧ lk = 0 ∧ ll = 0)
def f1 (n : Int) (s : ByteArray) (lk ll : Nat) : Bool := decide ((n = 0 ∨ n = 1) ∧ s.toList.isEmpty = true ∧ lk = 0 ∧ ll = 0)
def f2 (n : Int) (s : ByteArray) (lk ll : Nat) : Bool := decide (-9007199254740992 ≤ n ∧ n ≤ 9007199254740992 ∧ s.toList.isEmpty = true ∧ lk = 0 ∧ ll = 0)
def f3 (n : Int) (s : ByteArray) (lk ll : Nat) : Bool := decide (n = 0 ∧ lk = 0 ∧ ll = 0) && plainB s
def f4 (n : Int) (s : ByteArray) (lk : Nat) : Bool := decide (n = 0 ∧ s.toList.isEmpty = true ∧ lk = 0)
def f5 (n : Int) (s : ByteArray) (lk ll : Nat) : Bool := decide (n = 0 ∧ s.toList.isEmpty = true ∧ lk = ll)
/-- The form of a value, its items apart. -/
def V.form (x : V) : Bool :=
  if x.k = 0 then f0 x.n x.s x.keys.length x.l.length else if x.k = 1 then f1 x.n x.s x.keys.length x.l.length else if x.k = 2 then f2 x.n x.s x.keys.length x.l.length
  else if x.k = 3 then f3 x.n x.s x.keys.length x.l.length else if x.k = 4 then f4 x.n x.s x.keys.length else if x.k = 5 then f5 x.n x.s x.keys.length x.l.length && keysB x.keys else false
def V.shaped : V → Bool
  | .mk k n s ks l => V.form (.mk k n s ks l) && go l
where go : List V → Bool
  | [] => true
  | x :: r => V.shaped x && go r
theorem V.shaped_eq (x : V) : x.shaped = (x.form && x.l.all V.shaped) := by
  have h : ∀ l, V.shaped.go l = l.all V.shaped := by
    intro l; induction l with
    | nil => simp [V.shaped.go]
    | cons x r ih => simp [V.shaped.go, ih]
  cases x with | mk k n s ks l => rw [V.shaped, h]; rfl

/-- The keys so far are as they should be. -/
def keysTo (ks : List ByteArray) (k : Nat) : Bool := decide (∀ i, (h : i < ks.length) → i < k → plainB ks[i] = true ∧ (0 < i → ltS (ks[i - 1]'(by omega)) ks[i] = true))
theorem keysTo_zero (ks : List ByteArray) : keysTo ks 0 = true := by unfold keysTo; rw [decide_eq_true_eq]; intro i _ h; omega
theorem keysTo_all (ks : List ByteArray) {k : Nat} (h : ks.length ≤ k) : keysTo ks k = keysB ks := by
  unfold keysTo keysB
  rw [decide_eq_decide]
  exact ⟨fun g i hi => g i hi (by omega), fun g i hi _ => g i hi⟩
theorem keysTo_succ (ks : List ByteArray) {k : Nat} (h : k < ks.length) : keysTo ks (k + 1) = (keysTo ks k && (plainB ks[k] && (decide (k = 0) || (ltS (ks[k - 1]'(by omega)) ks[k])))) := by
  rw [Bool.eq_iff_iff]
  simp only [keysTo, decide_eq_true_eq, Bool.and_eq_true, Bool.or_eq_true]
  constructor
  · intro g
    refine ⟨fun i hi hk => g i hi (by omega), (g k h (by omega)).1, ?_⟩
    by_cases h0 : k = 0
    · exact .inl h0
    · exact .inr ((g k h (by omega)).2 (by omega))
  · rintro ⟨g, g1, g2⟩ i hi hk
    by_cases e : i = k
    · subst e; exact ⟨g1, fun h0 => g2.resolve_left (by omega)⟩
    · exact g i hi (by omega)

end Go.Proofs.YtjibdbnpkfghhaaGreatDoor
