/- Plain laws of the reference's numbers: digits counted up, one by one. No program in sight. -/
import Derived.Test.YtjibdbnpkfghhaaGreatDoorPkB
import Derived.Lib.ItoaMem
set_option linter.all false
namespace Go.Proofs.YtjibdbnpkfghhaaGreatDoor

def stepD (n : Nat) (c : UInt8) : Nat := 10 * n + (c.toNat - 48)
theorem fold_ge (l : Bytes) (a : Nat) : a ≤ l.foldl stepD a := by
  induction l generalizing a with
  | nil => simp
  | cons c t ih => have := ih (stepD a c); simp only [List.foldl_cons]; unfold stepD at *; omega
theorem fold_take (l : Bytes) (a q : Nat) : (l.take q).foldl stepD a ≤ l.foldl stepD a := by
  induction l generalizing a q with
  | nil => simp
  | cons c t ih =>
    cases q with
    | zero => simp only [List.take_zero, List.foldl_nil]; exact fold_ge _ _
    | succ q => simp only [List.take_succ_cons, List.foldl_cons]; exact ih _ _
theorem fold_dec (u : Nat) : (Lib.decDigits u).foldl stepD 0 = u := by
  induction u using Nat.strongRecOn with
  | ind u ih =>
    by_cases h : u < 10
    · rw [Lib.decDigits, dif_pos h]
      simp only [List.foldl_cons, List.foldl_nil, stepD]
      rw [dg_nat h]; omega
    · have e : Lib.decDigits u = Lib.decDigits (u / 10) ++ [UInt8.ofNat (48 + u % 10)] := by
        rw [Lib.decDigits, dif_neg h]
      rw [e, List.foldl_append, ih (u / 10) (by omega)]
      simp only [List.foldl_cons, List.foldl_nil, stepD]
      rw [dg_nat (by omega)]; omega
/-- The letters of the number that begins with c. -/
def numT (c : UInt8) (t : Bytes) : Bytes := c :: t.takeWhile isDg
def numD (c : UInt8) (t : Bytes) : Bytes := if c = 45 then t.takeWhile isDg else numT c t
theorem take_while_len {α : Type} (p : α → Bool) (l : List α) : l.take (l.takeWhile p).length = l.takeWhile p := by
  induction l with
  | nil => rfl
  | cons a r ih =>
    by_cases h : p a = true
    · simp [h, ih]
    · simp [h]
theorem numN_at {c : UInt8} {t : Bytes} (h : c = 45 ∨ isDg c = true) : numN (c :: t) = (t.takeWhile isDg).length + 1 := by
  by_cases h45 : c = 45
  · subst h45; rfl
  · have hd := h.resolve_left h45
    have e : numN (c :: t) = ((c :: t).takeWhile isDg).length := by
      unfold numN
      split
      · rename_i h1; simp only [List.cons.injEq] at h1; exact absurd h1.1 h45
      · rfl
    rw [e, List.takeWhile_cons, if_pos hd, List.length_cons]
theorem num_take {c : UInt8} {t : Bytes} (h : c = 45 ∨ isDg c = true) : (c :: t).take (numN (c :: t)) = numT c t := by
  rw [numN_at h, List.take_succ_cons, take_while_len]; rfl
theorem numL_some {c : UInt8} {t : Bytes} (h : c = 45 ∨ isDg c = true) {k : Int} (h0 : -9007199254740992 ≤ k) (h1 : k ≤ 9007199254740992) (e : Lib.itoa k = numT c t) : numL (c :: t) = some (k, t.drop (t.takeWhile isDg).length) := by
  have hl := itoa_len h0 h1
  have hn : numN (c :: t) = (Lib.itoa k).length := by rw [e, numN_at h]; simp [numT]
  unfold numL
  rw [if_neg (by rw [hn]; omega), num_take h, ← e, atoi_itoa k h0 h1]
  simp only
  rw [if_pos ⟨trivial, h0, h1⟩, numN_at h]
  rfl
theorem numL_none {c : UInt8} {t : Bytes} (h : c = 45 ∨ isDg c = true) (hn : ∀ k : Int, -9007199254740992 ≤ k → k ≤ 9007199254740992 → Lib.itoa k ≠ numT c t) : numL (c :: t) = none := by
  unfold numL
  rw [num_take h]
  split
  · rfl
  · split
    · split
      · rename_i k _ hk; exact absurd hk.1 (hn k hk.2.1 hk.2.2)
      · rfl
    · rfl
/-- What the letters mean, if they are a number's. -/
theorem num_uniq {c : UInt8} {t : Bytes} {k : Int} (e : Lib.itoa k = numT c t) : k = if c = 45 then -(((numD c t).foldl stepD 0 : Nat) : Int) else (((numD c t).foldl stepD 0 : Nat) : Int) := by
  by_cases hk : k < 0
  · obtain ⟨u, rfl⟩ : ∃ u : Nat, k = -(u : Int) := ⟨k.natAbs, by omega⟩
    rw [Lib.itoa_neg u (by omega)] at e
    simp only [numT, List.cons.injEq] at e
    rw [if_pos e.1.symm]
    unfold numD
    rw [if_pos e.1.symm, ← e.2, fold_dec]
  · obtain ⟨u, rfl⟩ : ∃ u : Nat, k = (u : Int) := ⟨k.toNat, by omega⟩
    rw [Lib.itoa_nonneg] at e
    have hc : c ≠ 45 := by
      intro h
      have hm : (45 : UInt8) ∈ Lib.decDigits u := by rw [e, h]; simp [numT]
      have := dec_dg u 45 hm
      exact absurd this (by decide)
    rw [if_neg hc]
    unfold numD
    rw [if_neg hc, ← e, fold_dec]
theorem num_bail {c : UInt8} {t : Bytes} (h : c = 45 ∨ isDg c = true) {q : Nat} (hq : 9007199254740992 < ((numD c t).take q).foldl stepD 0) : numL (c :: t) = none := by
  refine numL_none h fun k h0 h1 e => ?_
  have hu := num_uniq e
  have := fold_take (numD c t) 0 q
  split at hu <;> omega
theorem num_end {c : UInt8} {t : Bytes} (h : c = 45 ∨ isDg c = true) {k : Int} (hk : k = if c = 45 then -(((numD c t).foldl stepD 0 : Nat) : Int) else (((numD c t).foldl stepD 0 : Nat) : Int)) :
    numL (c :: t) = if -9007199254740992 ≤ k ∧ k ≤ 9007199254740992 ∧ Lib.itoa k = numT c t then some (k, t.drop (t.takeWhile isDg).length) else none := by
  by_cases hc : -9007199254740992 ≤ k ∧ k ≤ 9007199254740992 ∧ Lib.itoa k = numT c t
  · rw [if_pos hc, numL_some h hc.1 hc.2.1 hc.2.2]
  · rw [if_neg hc]
    refine numL_none h fun k2 h0 h1 e => hc ?_
    have hu := num_uniq e
    have : k2 = k := by rw [hu, hk]
    subst this
    exact ⟨h0, h1, e⟩
end Go.Proofs.YtjibdbnpkfghhaaGreatDoor
