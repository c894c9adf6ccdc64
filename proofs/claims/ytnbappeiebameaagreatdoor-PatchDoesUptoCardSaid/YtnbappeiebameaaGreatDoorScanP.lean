/- A path's names, letter by letter, as the document says them; what the library's pieces come to is the same. -/
import Derived.Test.YtnbappeiebameaaGreatDoorPkA
set_option linter.all false
namespace Go.Proofs.YtnbappeiebameaaGreatDoor
open Go

/-- The names of what stands behind a slash; 'now' has been read of the first. -/
def scanL : List UInt8 → List UInt8 → Option (List (List UInt8))
  | [], now => some [now]
  | [x], now => if x = 47 then some [now, []] else if x = 126 then none else some [now ++ [x]]
  | x :: y :: r, now => if x = 47 then (scanL (y :: r) []).map (now :: ·) else if x ≠ 126 then scanL (y :: r) (now ++ [x]) else if y = 48 then scanL r (now ++ [126]) else if y = 49 then scanL r (now ++ [47]) else none

/-- The pieces of a text, the first with 'now' ahead of it, all of them read. -/
def scanS (s now : List UInt8) : Option (List (List UInt8)) :=
  if (Lib.split s [47]).all tildeL = true then
    (match Lib.split s [47] with | [] => none | q :: qs => some ((now ++ unescN q) :: qs.map unescN)) else none

theorem unesc_nil : unescN [] = [] := by unfold unescN; rw [rep_nil (by simp), rep_nil (by simp)]
theorem unesc_cons {x : UInt8} (h : x ≠ 126) (r : List UInt8) : unescN (x :: r) = x :: unescN r := by
  unfold unescN; rw [r1_cons h _ _ (by simp [h]), r1_cons h _ _ (by simp [h])]
theorem unesc_0 (r : List UInt8) : unescN (126 :: 48 :: r) = 126 :: unescN r := by
  unfold unescN
  rw [r1_other (by decide), r1_cons (x := 48) (by decide) 49 47 (by decide), r1_hit]
theorem unesc_1 (r : List UInt8) : unescN (126 :: 49 :: r) = 47 :: unescN r := by
  unfold unescN
  rw [r1_hit, r1_cons (x := 47) (by decide) 48 126 (by decide)]
theorem tilde_cons (x : UInt8) (r : List UInt8) : tildeL (x :: r) = ((x != 126 || (match r with | c :: _ => c == 48 || c == 49 | [] => false)) && tildeL r) := by cases r <;> rfl
theorem split_ne (s : List UInt8) : Lib.split s [47] ≠ [] := by
  have := split_join s
  intro h
  rw [h] at this
  simp at this
theorem scanS_nil (now : List UInt8) : scanS [] now = some [now] := by
  unfold scanS; rw [split_nil]; simp [tildeL, unesc_nil]
theorem scanS_slash (r now : List UInt8) : scanS (47 :: r) now = (scanS r []).map (now :: ·) := by
  unfold scanS
  rw [split_hit]
  simp only [List.all_cons, tildeL, Bool.true_and, unesc_nil, List.append_nil]
  split
  · cases hs : Lib.split r [47] with
    | nil => exact absurd hs (split_ne r)
    | cons q qs => simp
  · rfl
theorem scanS_plain {x : UInt8} (h47 : x ≠ 47) (h126 : x ≠ 126) (r now : List UInt8) : scanS (x :: r) now = scanS r (now ++ [x]) := by
  unfold scanS
  rw [split_miss h47]
  cases hs : Lib.split r [47] with
  | nil => exact absurd hs (split_ne r)
  | cons q qs =>
    simp only [ahead, List.all_cons, tilde_cons]
    have : (x != 126) = true := by simpa using h126
    simp only [this, Bool.true_or, Bool.true_and, unesc_cons h126, List.append_assoc, List.cons_append, List.nil_append]
theorem scanS_esc {y z : UInt8} (hy : (y = 48 ∧ z = 126) ∨ (y = 49 ∧ z = 47)) (r now : List UInt8) : scanS (126 :: y :: r) now = scanS r (now ++ [z]) := by
  have hy47 : y ≠ 47 := by rcases hy with ⟨rfl, -⟩ | ⟨rfl, -⟩ <;> decide
  have hy126 : y ≠ 126 := by rcases hy with ⟨rfl, -⟩ | ⟨rfl, -⟩ <;> decide
  unfold scanS
  rw [split_miss (by decide), split_miss hy47]
  cases hs : Lib.split r [47] with
  | nil => exact absurd hs (split_ne r)
  | cons q qs =>
    simp only [ahead, List.all_cons, tilde_cons]
    rcases hy with ⟨rfl, rfl⟩ | ⟨rfl, rfl⟩
    · simp [unesc_0]
    · simp [unesc_1]
theorem scanS_bad {y : UInt8} (h0 : y ≠ 48) (h1 : y ≠ 49) (r now : List UInt8) : scanS (126 :: y :: r) now = none := by
  unfold scanS
  rw [split_miss (by decide)]
  rw [if_neg]
  intro h
  by_cases hy : y = 47
  · subst hy
    rw [split_hit] at h
    simp [ahead, tildeL] at h
  · rw [split_miss hy] at h
    cases hs : Lib.split r [47] with
    | nil => exact absurd hs (split_ne r)
    | cons q qs =>
      rw [hs] at h
      simp [ahead, tilde_cons, h0, h1] at h
theorem scanS_last (now : List UInt8) : scanS [126] now = none := by
  unfold scanS
  rw [split_miss (by decide), split_nil]
  simp [ahead, tildeL]
theorem scan_eq : ∀ (s now : List UInt8), scanL s now = scanS s now
  | [], now => by rw [scanS_nil]; rfl
  | [x], now => by
    unfold scanL
    by_cases h : x = 47
    · subst h; rw [scanS_slash, scanS_nil]; rfl
    · by_cases h2 : x = 126
      · subst h2; rw [scanS_last]; rfl
      · rw [scanS_plain h h2, scanS_nil, if_neg h, if_neg h2]
  | x :: y :: r, now => by
    unfold scanL
    by_cases h : x = 47
    · subst h; rw [scanS_slash, if_pos rfl, scan_eq (y :: r) []]
    · by_cases h2 : x = 126
      · subst h2
        rw [if_neg h, if_neg (by simp)]
        by_cases h3 : y = 48
        · subst h3; rw [if_pos rfl, scan_eq r (now ++ [126]), scanS_esc (.inl ⟨rfl, rfl⟩)]
        · by_cases h4 : y = 49
          · subst h4; rw [if_neg h3, if_pos rfl, scan_eq r (now ++ [47]), scanS_esc (.inr ⟨rfl, rfl⟩)]
          · rw [if_neg h3, if_neg h4, scanS_bad h3 h4]
      · rw [if_neg h, if_pos h2, scan_eq (y :: r) (now ++ [x]), scanS_plain h h2]
theorem names_scan (r : List UInt8) (h : (47 :: r : List UInt8).length ≤ 2000) : namesL (47 :: r) = scanL r [] := by
  rw [scan_eq]
  unfold namesL scanS
  simp only
  rw [if_pos ⟨trivial, h⟩]
  split
  · cases hs : Lib.split r [47] with
    | nil => exact absurd hs (split_ne r)
    | cons q qs => simp
  · rfl
end Go.Proofs.YtnbappeiebameaaGreatDoor
