/- Paths, apart from memory: what the library's Split and ReplaceAll come to, letter by letter; a path's names, names' path, and that each leads back. -/
import Derived.Test.YtknnflobpjppfaaDoorRows
import Derived.Lib.Replace
set_option linter.all false
namespace Go.Proofs.YtknnflobpjppfaaDoor
open Go

abbrev Bytes1 := List UInt8

theorem index_cons_hit {b : UInt8} {l sub : List UInt8} (h : sub.isPrefixOf (b :: l) = true) : Lib.index (b :: l) sub = 0 := by rw [Lib.index, if_pos h]
theorem index_cons_miss {b : UInt8} {l sub : List UInt8} (h : sub.isPrefixOf (b :: l) = false) : Lib.index (b :: l) sub = if Lib.index l sub == -1 then -1 else Lib.index l sub + 1 := by rw [Lib.index, if_neg (by simp [h])]
theorem index_nil {sub : List UInt8} (h : sub ≠ []) : Lib.index [] sub = -1 := by
  cases sub with
  | nil => exact absurd rfl h
  | cons a r => rfl

theorem rep_nil {old new : List UInt8} (h : old ≠ []) : Lib.replaceAll [] old new = [] := by
  unfold Lib.replaceAll Lib.replace
  split
  · rfl
  · have : Lib.replaceNum [] old (-1) = 0 := by simp [Lib.replaceNum, Lib.count_miss (index_nil h)]
    rw [this, Lib.replaceK]
theorem rep_eq {s old new : List UInt8} (hne : (old == new) = false) : Lib.replaceAll s old new = Lib.replaceK old new (Lib.count s old) s := by
  unfold Lib.replaceAll Lib.replace
  rw [if_neg (by simp [hne])]
  simp [Lib.replaceNum]
theorem rep_hit {b : UInt8} {l old new : List UInt8} (ho : old ≠ []) (hne : (old == new) = false) (h : old.isPrefixOf (b :: l) = true) : Lib.replaceAll (b :: l) old new = new ++ Lib.replaceAll ((b :: l).drop old.length) old new := by
  have hi : Lib.index (b :: l) old = (0 : Nat) := index_cons_hit h
  rw [rep_eq hne, rep_eq hne, Lib.count_hit ho hi, Nat.add_comm 1, Lib.replaceK_hit _ _ _ _ 0 hi]
  simp
theorem rep_miss {b : UInt8} {l old new : List UInt8} (ho : old ≠ []) (hne : (old == new) = false) (h : old.isPrefixOf (b :: l) = false) : Lib.replaceAll (b :: l) old new = b :: Lib.replaceAll l old new := by
  rw [rep_eq hne, rep_eq hne]
  have hi := index_cons_miss h
  have hge := Lib.index_ge l old
  by_cases hm : Lib.index l old = -1
  · rw [hm] at hi
    have hi : Lib.index (b :: l) old = -1 := by simpa using hi
    rw [Lib.count_miss hm, Lib.count_miss hi, Lib.replaceK, Lib.replaceK]
  · obtain ⟨i, he⟩ : ∃ i : Nat, Lib.index l old = i := ⟨(Lib.index l old).toNat, by omega⟩
    have hi : Lib.index (b :: l) old = ((i + 1 : Nat) : Int) := by
      rw [hi, he, if_neg (by simp <;> omega)]; rfl
    rw [Lib.count_hit ho he, Lib.count_hit ho hi, Nat.add_comm 1, Nat.add_comm 1, Lib.replaceK_hit _ _ _ _ _ he, Lib.replaceK_hit _ _ _ _ _ hi]
    have e : i + 1 + old.length = (i + old.length) + 1 := by omega
    rw [e]
    simp

/-- A letter more ahead of the first piece. -/
def ahead (b : UInt8) : List (List UInt8) → List (List UInt8)
  | [] => [[b]]
  | p :: ps => (b :: p) :: ps
theorem split_nil {c : UInt8} : Lib.split [] [c] = [[]] := by
  unfold Lib.split
  rw [Lib.count_miss (index_nil (by simp)), Lib.splitK]
theorem split_hit {c : UInt8} {l : List UInt8} : Lib.split (c :: l) [c] = [] :: Lib.split l [c] := by
  have hi : Lib.index (c :: l) [c] = (0 : Nat) := index_cons_hit (by simp [List.isPrefixOf])
  unfold Lib.split
  rw [Lib.count_hit (by simp) hi, Nat.add_comm 1, Lib.splitK, if_neg (by rw [hi]; decide), hi]
  simp
theorem split_miss {b c : UInt8} {l : List UInt8} (h : b ≠ c) : Lib.split (b :: l) [c] = ahead b (Lib.split l [c]) := by
  have hp : ([c] : List UInt8).isPrefixOf (b :: l) = false := by simp [List.isPrefixOf]; exact fun e => h e.symm
  have hi := index_cons_miss hp
  have hge := Lib.index_ge l [c]
  unfold Lib.split
  by_cases hm : Lib.index l [c] = -1
  · rw [hm] at hi
    have hi : Lib.index (b :: l) [c] = -1 := by simpa using hi
    rw [Lib.count_miss hm, Lib.count_miss hi, Lib.splitK, Lib.splitK, ahead]
  · obtain ⟨i, he⟩ : ∃ i : Nat, Lib.index l [c] = i := ⟨(Lib.index l [c]).toNat, by omega⟩
    have hi : Lib.index (b :: l) [c] = ((i + 1 : Nat) : Int) := by
      rw [hi, he, if_neg (by simp <;> omega)]; rfl
    rw [Lib.count_hit (by simp) he, Lib.count_hit (by simp) hi, Nat.add_comm 1, Nat.add_comm 1, Lib.splitK, Lib.splitK, if_neg (by rw [hi]; simp <;> omega), if_neg (by rw [he]; simp <;> omega), hi, he]
    simp [ahead]

/-- A name's letters, as a path tells them. -/
def escB (x : UInt8) : List UInt8 := if x = 126 then [126, 48] else if x = 47 then [126, 49] else [x]
def escN (s : List UInt8) : List UInt8 := Lib.replaceAll (Lib.replaceAll s [126] [126, 48]) [47] [126, 49]
def unescN (s : List UInt8) : List UInt8 := Lib.replaceAll (Lib.replaceAll s [126, 49] [47]) [126, 48] [126]
theorem rep_one (a : UInt8) (new : List UInt8) (hne : ([a] == new) = false) (s : List UInt8) : Lib.replaceAll s [a] new = s.flatMap fun x => if x = a then new else [x] := by
  induction s with
  | nil => exact rep_nil (by simp)
  | cons x r ih =>
    by_cases h : x = a
    · subst h
      rw [rep_hit (by simp) hne (by simp [List.isPrefixOf])]
      simp [ih]
    · rw [rep_miss (by simp) hne (by simp [List.isPrefixOf]; exact fun e => h e.symm)]
      simp [ih, h]
theorem escN_eq (s : List UInt8) : escN s = s.flatMap escB := by
  unfold escN
  rw [rep_one _ _ (by decide), rep_one _ _ (by decide)]
  induction s with
  | nil => rfl
  | cons x r ih =>
    simp only [List.flatMap_cons, List.flatMap_append, ih]
    congr 1
    unfold escB
    by_cases h : x = 126
    · subst h; decide
    · by_cases h2 : x = 47
      · subst h2; decide
      · simp [h, h2]
theorem r1_cons {x : UInt8} {r : List UInt8} (h : x ≠ 126) (a b : UInt8) (hne : ([126, a] == [b]) = false) : Lib.replaceAll (x :: r) [126, a] [b] = x :: Lib.replaceAll r [126, a] [b] :=
  rep_miss (by simp) hne (by simp [List.isPrefixOf]; intro e; exact absurd e.symm h)
theorem r1_hit {a b : UInt8} {r : List UInt8} : Lib.replaceAll (126 :: a :: r) [126, a] [b] = b :: Lib.replaceAll r [126, a] [b] := by
  rw [rep_hit (by simp) (by simp) (by simp [List.isPrefixOf])]; simp
theorem r1_other {a b c : UInt8} {r : List UInt8} (h : c ≠ a) : Lib.replaceAll (126 :: c :: r) [126, a] [b] = 126 :: Lib.replaceAll (c :: r) [126, a] [b] :=
  rep_miss (by simp) (by simp) (by simp [List.isPrefixOf]; exact fun e => h e.symm)
theorem unesc_esc (s : List UInt8) : unescN (escN s) = s := by
  rw [escN_eq]
  unfold unescN
  have h1 : Lib.replaceAll (s.flatMap escB) [126, 49] [47] = s.flatMap fun x => if x = 126 then [126, 48] else [x] := by
    induction s with
    | nil => exact rep_nil (by simp)
    | cons x r ih =>
      simp only [List.flatMap_cons, escB]
      by_cases h : x = 126
      · subst h
        simp only [if_true, List.cons_append, List.nil_append]
        rw [r1_other (by decide), r1_cons (by decide) _ _ (by decide), ih]
      · by_cases h2 : x = 47
        · subst h2
          simp (decide := true) only [if_true, if_false, List.cons_append, List.nil_append]
          rw [r1_hit, ih]
        · simp only [h, h2, if_false, List.cons_append, List.nil_append]
          rw [r1_cons h _ _ (by decide), ih]
  rw [h1]
  clear h1
  induction s with
  | nil => exact rep_nil (by simp)
  | cons x r ih =>
    simp only [List.flatMap_cons]
    by_cases h : x = 126
    · subst h
      simp only [if_true, List.cons_append, List.nil_append]
      rw [r1_hit, ih]
    · simp only [h, if_false, List.cons_append, List.nil_append]
      rw [r1_cons h _ _ (by decide), ih]

/-- Behind each tilde stands a zero or a one. -/
def tildeL : List UInt8 → Bool
  | [] => true
  | x :: r => (x != 126 || (match r with | c :: _ => c == 48 || c == 49 | [] => false)) && tildeL r
theorem esc_unesc : ∀ (s : List UInt8), tildeL s = true → (∀ x ∈ s, x ≠ 47) → escN (unescN s) = s
  | [], _, _ => by simp [escN, unescN, rep_nil]
  | [x], h, h47 => by
    have hx : x ≠ 126 := by intro e; subst e; simp [tildeL] at h
    have h47 := h47 x (by simp)
    rw [escN_eq]; unfold unescN
    rw [r1_cons hx _ _ (by decide), rep_nil (by simp), r1_cons hx _ _ (by decide), rep_nil (by simp)]
    simp [escB, hx, h47]
  | x :: y :: r, h, h47 => by
    have h47x := h47 x (by simp)
    have h47y := h47 y (by simp)
    by_cases hx : x = 126
    · subst hx
      simp only [tildeL, bne_self_eq_false, Bool.false_or, Bool.and_eq_true, Bool.or_eq_true, beq_iff_eq] at h
      obtain ⟨hy, -, hr⟩ := h
      have ih := esc_unesc r hr (fun z hz => h47 z (by simp [hz]))
      rw [escN_eq] at ih ⊢
      unfold unescN at ih ⊢
      rcases hy with rfl | rfl
      · rw [r1_other (by decide), r1_cons (x := 48) (by decide) 49 47 (by decide), r1_hit]
        simp only [List.flatMap_cons, ih]
        rfl
      · rw [r1_hit, r1_cons (x := 47) (by decide) 48 126 (by decide)]
        simp only [List.flatMap_cons, ih]
        rfl
    · have hr : tildeL (y :: r) = true := by
        rw [tildeL] at h
        simp only [Bool.and_eq_true] at h
        exact h.2
      have ih := esc_unesc (y :: r) hr (fun z hz => h47 z (by simp [hz]))
      rw [escN_eq] at ih ⊢
      unfold unescN at ih ⊢
      rw [r1_cons hx _ _ (by decide), r1_cons hx _ _ (by decide)]
      simp only [List.flatMap_cons, ih]
      simp [escB, hx, h47x]

/-- The names of a path. -/
def namesL (p : List UInt8) : Option (List (List UInt8)) :=
  match p with
  | [] => some []
  | c :: r => if c = 47 ∧ p.length ≤ 2000 then (if (Lib.split r [47]).all tildeL = true then some ((Lib.split r [47]).map unescN) else none) else none
/-- The path of names. -/
def joinL (l : List (List UInt8)) : List UInt8 := l.flatMap fun x => 47 :: escN x

theorem split_clean (s : List UInt8) : ∀ q ∈ Lib.split s [47], ∀ x ∈ q, x ≠ 47 := by
  induction s with
  | nil => rw [split_nil]; simp
  | cons b l ih =>
    by_cases h : b = 47
    · subst h; rw [split_hit]
      intro q hq
      rcases List.mem_cons.1 hq with rfl | hq
      · simp
      · exact ih q hq
    · rw [split_miss h]
      cases hs : Lib.split l [47] with
      | nil => simp [ahead, h]
      | cons p ps =>
        rw [hs] at ih
        intro q hq x hx
        simp only [ahead, List.mem_cons] at hq
        rcases hq with rfl | hq
        · rcases List.mem_cons.1 hx with rfl | hx
          · exact h
          · exact ih p (by simp) x hx
        · exact ih q (by simp [hq]) x hx
theorem split_join (s : List UInt8) : (Lib.split s [47]).flatMap (fun q => 47 :: q) = 47 :: s := by
  induction s with
  | nil => rw [split_nil]; rfl
  | cons b l ih =>
    by_cases h : b = 47
    · subst h; rw [split_hit]; simp only [List.flatMap_cons, ih]; rfl
    · rw [split_miss h]
      cases hs : Lib.split l [47] with
      | nil => rw [hs] at ih; simp at ih
      | cons p ps =>
        rw [hs] at ih
        simp only [List.flatMap_cons, List.cons_append, List.cons.injEq, true_and] at ih
        simp only [ahead, List.flatMap_cons, List.cons_append, ih]
theorem split_of (q : List UInt8) (h : ∀ x ∈ q, x ≠ 47) : Lib.split q [47] = [q] := by
  induction q with
  | nil => exact split_nil
  | cons b l ih => rw [split_miss (h b (by simp)), ih (fun x hx => h x (by simp [hx]))]; rfl
theorem split_app (q s : List UInt8) (h : ∀ x ∈ q, x ≠ 47) : Lib.split (q ++ 47 :: s) [47] = q :: Lib.split s [47] := by
  induction q with
  | nil => exact split_hit
  | cons b l ih => rw [List.cons_append, split_miss (h b (by simp)), ih (fun x hx => h x (by simp [hx]))]; rfl
theorem esc_clean (s : List UInt8) : ∀ x ∈ escN s, x ≠ 47 := by
  rw [escN_eq]
  intro x hx
  simp only [List.mem_flatMap] at hx
  obtain ⟨y, -, hy⟩ := hx
  unfold escB at hy
  split at hy
  · simp at hy; rcases hy with rfl | rfl <;> decide
  · split at hy
    · simp at hy; rcases hy with rfl | rfl <;> decide
    · simp at hy; subst hy; assumption
theorem esc_tilde (s : List UInt8) : tildeL (escN s) = true := by
  rw [escN_eq]
  induction s with
  | nil => rfl
  | cons x r ih =>
    simp only [List.flatMap_cons, escB]
    split
    · simp [tildeL, ih]
    · split
      · simp [tildeL, ih]
      · rename_i h1 h2
        simp only [List.cons_append, List.nil_append]
        rw [tildeL.eq_def]
        simp [h1, ih]
theorem split_joinL (x : List UInt8) (l : List (List UInt8)) : Lib.split (escN x ++ joinL l) [47] = escN x :: l.map escN := by
  induction l generalizing x with
  | nil => simp only [joinL, List.flatMap_nil, List.append_nil, List.map_nil]; exact split_of _ (esc_clean x)
  | cons y r ih =>
    simp only [joinL, List.flatMap_cons, List.cons_append, List.map_cons]
    rw [split_app _ _ (esc_clean x)]
    have := ih y
    simp only [joinL] at this
    rw [this]
theorem escN_len (s : List UInt8) : (escN s).length ≤ 2 * s.length := by
  rw [escN_eq]
  induction s with
  | nil => simp
  | cons x r ih =>
    simp only [List.flatMap_cons, List.length_append, List.length_cons]
    have : (escB x).length ≤ 2 := by
      unfold escB
      split
      · simp
      · split <;> simp
    omega
/-- Names' path is split into them again. -/
theorem names_join (l : List (List UInt8)) (h : (joinL l).length ≤ 2000) : namesL (joinL l) = some l := by
  cases l with
  | nil => rfl
  | cons x r =>
    have hs := split_joinL x r
    have e : joinL (x :: r) = 47 :: (escN x ++ joinL r) := by simp [joinL]
    rw [e] at h ⊢
    unfold namesL
    simp only
    rw [if_pos ⟨trivial, h⟩, hs, if_pos (by simp [esc_tilde]), ← List.map_cons, List.map_map, show unescN ∘ escN = id from funext unesc_esc, List.map_id]
/-- The names of a path are joined to it again. -/
theorem join_names {p : List UInt8} {l : List (List UInt8)} (h : namesL p = some l) : joinL l = p := by
  unfold namesL at h
  cases p with
  | nil => simp at h; subst h; rfl
  | cons c r =>
    simp only at h
    split at h
    · rename_i hc
      split at h
      · rename_i ht
        simp only [Option.some.injEq] at h
        subst h
        obtain ⟨rfl, -⟩ := hc
        unfold joinL
        rw [List.flatMap_map]
        have : ∀ q ∈ Lib.split r [47], escN (unescN q) = q := fun q hq => esc_unesc q (List.all_eq_true.1 ht q hq) (split_clean r q hq)
        rw [show (Lib.split r [47]).flatMap (fun a => 47 :: escN (unescN a)) = (Lib.split r [47]).flatMap (fun q => 47 :: q) from by
          rw [List.flatMap_def, List.flatMap_def]
          congr 1
          exact List.map_congr_left fun q hq => by rw [this q hq]]
        exact split_join r
      · cases h
    · cases h
end Go.Proofs.YtknnflobpjppfaaDoor
