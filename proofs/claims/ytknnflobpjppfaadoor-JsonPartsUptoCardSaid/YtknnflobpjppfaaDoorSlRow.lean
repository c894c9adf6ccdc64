/- Laws on rows of cells, of elements of any size: copy, clear, append in place; what a row holds behind an insertion and a deletion. -/
import Derived.Test.YtknnflobpjppfaaDoorPoint3
import Derived.Test.YtknnflobpjppfaaDoorTill
import Derived.Test.YtknnflobpjppfaaDoorMember
import Derived.Lib.SliceRun
import Derived.Lib.Overlaps
import Derived.Lib.AppendZerosOnto
import Derived.Laws.CopyRow
import Derived.Laws.Externs
import Derived.Deep.RegionLaw
import Derived.Lib.JoinLaws
import Derived.Shelf.Spec.SlicesInsert
set_option linter.all false
namespace Go.Proofs.YtknnflobpjppfaaDoor
open Go.RowKit
section
variable {P : Program}
theorem run_copy_k (w : World) (dT sT ty elem : TypeId) (K g o dLen dCap : Nat) (a : Addr) (sLen sCap : Nat) (cur : Array Value) (t : TypeId) (cs : List Value) (m : Nat)
    (hu : P.underlying dT = some (.slice elem)) (hs : (P.info? elem).map (·.size) = some K) (hm : Nat.min sLen dLen = m)
    (hg : w.heap[g]? = some (.cells cur t (0, 0))) (hn : cs.length = m * K)
    (hsrc : ∀ j v, cs[j]? = some v → w.cell? (a.add j) = some v) (hfit : o + cs.length ≤ cur.size) (h1 : ∀ v ∈ cs, v.oneCell' = true) :
    (Builtin.copy_ #[dT, sT] ty #[.slice (some ⟨g, o, none⟩) dLen dCap, .slice (some a) sLen sCap]).run P w =
      .ok (goInt m) (w.setRow g (cur.toList.take o ++ cs ++ cur.toList.drop (o + cs.length)).toArray) := by
  subst hm
  have hl := run_firstCells_some (P := P) w K (Nat.min sLen dLen) a sLen sCap cs hn hsrc
  have hst := run_storeCells_at P g o t cs 0 cur w hg (by simpa using hfit) h1
  simp only [Nat.add_zero] at hst
  cases hq : P.info? elem with
  | none => simp [hq] at hs
  | some i =>
    have hi : i.size = K := by simpa [hq] using hs
    simp [Builtin.copy_, run_underlying hu, Builtin.lenOf, sizeOf, typeInfo, hq, hi, hl, hst]
theorem zeroCells_one (z : Array Value) : (Builtin.zeroCells z 1).toList = z.toList := by
  simp [Builtin.zeroCells]
  apply List.ext_getElem
  · simp
  · intro i h1 h2
    have h : i < z.size := by simpa using h2
    simp [Nat.mod_eq_of_lt h, h]
theorem run_clear_k (w : World) (t e ty : TypeId) (z : Value) (ht : P.underlying t = some (.slice e)) (hv : ∀ w, (zeroValue e).run P w = .ok z w) (h1 : ∀ u ∈ z.cells.toList, u.oneCell' = true) (g o c : Nat) (cur : Array Value) (T : TypeId)
    (hg : w.heap[g]? = some (.cells cur T (0, 0))) (hfit : o + z.cells.size ≤ cur.size) :
    (Builtin.clear_ #[t] ty #[.slice (some ⟨g, o, none⟩) 1 c]).run P w = .ok (.tuple #[]) (w.setRow g (cur.toList.take o ++ z.cells.toList ++ cur.toList.drop (o + z.cells.size)).toArray) := by
  have hst := run_storeCells_at P g o T z.cells.toList 0 cur w hg (by simpa using hfit) h1
  simp only [Nat.add_zero, Array.length_toList] at hst
  simp [Builtin.clear_, run_underlying ht, hv, zeroCells_one, hst]

/-- append(s, t) where its run is known, as a step of a region that draws. -/
theorem step_append_runI {ops : Array Oper} {o : Oper} {a : Act} {w : World} {K : Act → World → Prop} {Q : Exit → Act → World → Prop} {E : Prop}
    (hg : o.guard = none) (d x : Operand) (dT sT : TypeId) (hop : o.op = Op.call { callee := Callee.builtin Builtin.append, args := #[d, x], argTypes := #[dT, sT] })
    (v u : Value) (hd : a.eval d = v) (hx : a.eval x = u) {v' : Value} {w' : World} (hr : (Builtin.append_ #[dT, sT] o.type #[v, u]).run P w = .ok v' w') (hK : K (a.put o.dst v') w') :
    if Region.wanted o (yielded ops a.tmps) = true then Oper.wp P o a w K Q else E := by
  have hw : Region.wanted o (yielded ops a.tmps) = true := by simp [Region.wanted, hg]
  rw [if_pos hw]
  unfold Oper.wp
  simp [execOp, hop, resolve, invoke, builtin, hd, hx, hr, Result.andThen]
  exact hK
end

/-- A row of the call's own is of this block. -/
theorem ownsRow_at {w : World} {base e K : Nat} {v : Value} {n : Nat} {xs : List Value} (h : w.ownsRow base e K v n xs) (hn : 0 < n) :
    ∃ g cap cur, v = .slice (some ⟨g, 0, none⟩) n cap ∧ base ≤ g ∧ w.heap[g]? = some (.cells cur e (0, 0)) ∧ n ≤ cap ∧ cap ≤ maxLen ∧ cur.size = cap * K ∧ cur.toList.take (n * K) = xs := by
  rcases h.2 with ⟨-, h0⟩ | h
  · omega
  · exact h
theorem ownsRow_mk {w : World} {base e K g n cap : Nat} {cur : Array Value} {xs : List Value} (hb : base ≤ g) (hg : w.heap[g]? = some (.cells cur e (0, 0))) (hn : n ≤ cap) (hm : cap ≤ maxLen) (hs : cur.size = cap * K) (ht : cur.toList.take (n * K) = xs) :
    w.ownsRow base e K (.slice (some ⟨g, 0, none⟩) n cap) n xs := by
  refine ⟨?_, .inr ⟨g, cap, cur, rfl, hb, hg, hn, hm, hs, ht⟩⟩
  rw [← ht, List.length_take, Array.length_toList, hs]
  have := Nat.mul_le_mul_right K hn
  omega
theorem grown_setRow (w : World) (g : Nat) (cs : Array Value) : w.grownBy (w.setRow g cs) (some g) :=
  ⟨rfl, rfl, rfl, by simp, fun k _ hk => setRow_other w g k cs (fun e => hk (by rw [e]))⟩
theorem grown_drew {w w' : World} {r : Option Nat} (h : w.drew.grownBy w' r) : w.grownBy w' r := ⟨h.os, h.tape, h.output, h.size, h.block⟩
theorem grown_trans {a b c : World} {r : Option Nat} (h : a.grownBy b r) (k : b.grownBy c r) : a.grownBy c r :=
  ⟨k.os.trans h.os, k.tape.trans h.tape, k.output.trans h.output, Nat.le_trans h.size k.size, fun i hi hr => (k.block i (Nat.lt_of_lt_of_le hi h.size) hr).trans (h.block i hi hr)⟩

/-- What a row holds behind an insertion in place. -/
theorem list_shift {α : Type} (cur : List α) (new : List α) (a b : Nat) (hab : a ≤ b) (hb : b + new.length ≤ cur.length) (cs : List α) (hcs : cs = (cur.take b).drop a) :
    let c1 := cur.take (a + new.length) ++ cs ++ cur.drop (a + new.length + cs.length)
    (c1.take a ++ new ++ c1.drop (a + new.length)).take (b + new.length) = (cur.take b).take a ++ new ++ (cur.take b).drop a ∧ (c1.take a ++ new ++ c1.drop (a + new.length)).length = cur.length ∧ c1.length = cur.length := by
  subst hcs
  intro c1
  have hl : ((cur.take b).drop a).length = b - a := by simp; omega
  have l1 : c1.length = cur.length := by
    show (cur.take (a + new.length) ++ (cur.take b).drop a ++ cur.drop (a + new.length + ((cur.take b).drop a).length)).length = _
    rw [List.length_append, List.length_append, hl]
    simp; omega
  refine ⟨?_, ?_, l1⟩
  · have e1 : c1.take a = (cur.take b).take a := by
      show (cur.take (a + new.length) ++ (cur.take b).drop a ++ cur.drop (a + new.length + ((cur.take b).drop a).length)).take a = _
      rw [List.append_assoc, List.take_append_of_le_length (by simp; omega), List.take_take, List.take_take]
      congr 1
      omega
    have e2 : (c1.drop (a + new.length)) = (cur.take b).drop a ++ cur.drop (a + new.length + ((cur.take b).drop a).length) := by
      show (cur.take (a + new.length) ++ (cur.take b).drop a ++ cur.drop (a + new.length + ((cur.take b).drop a).length)).drop (a + new.length) = _
      rw [List.append_assoc]
      have : (cur.take (a + new.length)).length = a + new.length := by simp; omega
      rw [List.drop_append_of_le_length (by omega), List.drop_of_length_le (by omega), List.nil_append]
    rw [e1, e2]
    have l2 : ((cur.take b).take a ++ new ++ (cur.take b).drop a).length = b + new.length := by simp; omega
    rw [← List.append_assoc, ← l2, List.take_left]
  · have : (c1.take a).length = a := by rw [List.length_take, l1]; omega
    rw [List.length_append, List.length_append, this, List.length_drop, l1]
    omega
/-- What a new row holds behind an insertion. -/
theorem list_grown {α : Type} (xs new z1 z2 : List α) (a : Nat) (ha : a ≤ xs.length) (hz : z1.length = new.length + (xs.length - a)) :
    let c0 := xs.take a ++ z1 ++ z2
    let c1 := c0.take a ++ new ++ c0.drop (a + new.length)
    (c1.take (a + new.length) ++ xs.drop a ++ c1.drop (a + new.length + (xs.drop a).length)).take (xs.length + new.length) = xs.take a ++ new ++ xs.drop a ∧
    (c1.take (a + new.length) ++ xs.drop a ++ c1.drop (a + new.length + (xs.drop a).length)).length = c0.length ∧ c1.length = c0.length := by
  intro c0 c1
  have l0 : c0.length = xs.length + new.length + z2.length := by
    show (xs.take a ++ z1 ++ z2).length = _
    simp; omega
  have hd : (xs.drop a).length = xs.length - a := by simp
  have e0 : c0.take a = xs.take a := by
    show (xs.take a ++ z1 ++ z2).take a = _
    rw [List.append_assoc, List.take_append_of_le_length (by simp; omega), List.take_take, Nat.min_self]
  have lt : (c0.take a).length = a := by rw [List.length_take, l0]; omega
  have l1 : c1.length = c0.length := by
    show (c0.take a ++ new ++ c0.drop (a + new.length)).length = _
    rw [List.length_append, List.length_append, lt, List.length_drop, l0]; omega
  have e1 : c1.take (a + new.length) = xs.take a ++ new := by
    show (c0.take a ++ new ++ c0.drop (a + new.length)).take (a + new.length) = _
    rw [List.take_append_of_le_length (by rw [List.length_append, lt]; omega), List.take_of_length_le (by rw [List.length_append, lt]; omega), e0]
  refine ⟨?_, ?_, l1⟩
  · rw [e1]
    have l2 : (xs.take a ++ new ++ xs.drop a).length = xs.length + new.length := by simp; omega
    rw [← l2, List.take_left]
  · have : (c1.take (a + new.length)).length = a + new.length := by rw [List.length_take, l1, l0]; omega
    rw [List.length_append, List.length_append, this, hd, List.length_drop, l1, l0]
    omega
/-- What a row holds behind a deletion in place. -/
theorem list_deleted {α : Type} (cur z : List α) (a k b : Nat) (hab : a + k ≤ b) (hb : b ≤ cur.length) (hz : z.length = k) (cs : List α) (hcs : cs = (cur.take b).drop (a + k)) :
    let c1 := cur.take a ++ cs ++ cur.drop (a + cs.length)
    (c1.take (b - k) ++ z ++ c1.drop (b - k + k)).take (b - k) = (cur.take b).take a ++ (cur.take b).drop (a + k) ∧ (c1.take (b - k) ++ z ++ c1.drop (b - k + k)).length = cur.length ∧ c1.length = cur.length := by
  subst hcs
  intro c1
  have hl : ((cur.take b).drop (a + k)).length = b - (a + k) := by simp; omega
  have ha : (cur.take a).length = a := by simp; omega
  have l1 : c1.length = cur.length := by
    show (cur.take a ++ (cur.take b).drop (a + k) ++ cur.drop (a + ((cur.take b).drop (a + k)).length)).length = _
    rw [List.length_append, List.length_append, hl, ha, List.length_drop]
    omega
  have e1 : c1.take (b - k) = (cur.take b).take a ++ (cur.take b).drop (a + k) := by
    show (cur.take a ++ (cur.take b).drop (a + k) ++ cur.drop (a + ((cur.take b).drop (a + k)).length)).take (b - k) = _
    have l2 : (cur.take a ++ (cur.take b).drop (a + k)).length = b - k := by rw [List.length_append, ha, hl]; omega
    rw [← l2, List.take_left, List.take_take]
    congr 2
    omega
  have lt : (c1.take (b - k)).length = b - k := by rw [List.length_take, l1]; omega
  refine ⟨?_, ?_, l1⟩
  · rw [List.append_assoc, List.take_append_of_le_length (by omega), List.take_of_length_le (by omega), e1]
  · rw [List.length_append, List.length_append, lt, hz, List.length_drop, l1]
    omega
end Go.Proofs.YtknnflobpjppfaaDoor
