/- What is read is no greater than its text: in plain Lean, no program in sight. -/
import Derived.Test.YtknnflobpjppfaaDoorTextQ
set_option linter.all false
namespace Go.Proofs.YtknnflobpjppfaaDoor

theorem textL_size : ∀ (f : Nat) (s b : Bytes) (p : Bytes × Bytes), textL f s b = some p → p.1.length + p.2.length + 1 ≤ s.length + b.length
  | 0, _, _, _, h => by cases h
  | _ + 1, [], _, _, h => by cases h
  | f + 1, c :: t, b, p, h => by
    rw [textL] at h
    split at h
    · cases h
    · split at h
      · cases h; simp; omega
      · split at h
        · cases he : escL t with
          | none => rw [he] at h; cases h
          | some q =>
            rw [he] at h
            have h1 := escL_len he
            have h2 := textL_size f _ _ _ h
            simp only [List.length_cons, List.length_append, List.length_nil] at *; omega
        · have h2 := textL_size f _ _ _ h
          simp only [List.length_cons, List.length_append, List.length_nil] at *; omega
/-- No greater than what is gone. -/
def Sized (val : Bytes → Option (V × Bytes)) : Prop := ∀ s p, val s = some p → p.1.size + p.2.length ≤ s.length
theorem listL_size {val : Bytes → Option (V × Bytes)} (hv : Sized val) : ∀ (g : Nat) (s : Bytes) (l : List V) (p : List V × Bytes), listL val g s l = some p → (p.1.map V.size).sum + p.2.length + 1 ≤ s.length + (l.map V.size).sum
  | 0, _, _, _, h => by cases h
  | g + 1, s, l, p, h => by
    rw [listL] at h
    have hs := spaceL_len s
    split at h
    · cases h
    · rename_i c t he
      rw [he] at hs
      simp only [List.length_cons] at hs
      split at h
      · cases h; simp only; omega
      · have aux : ∀ s1 : Bytes, s1.length ≤ t.length + 1 → ((val s1).bind fun p => listL val g p.2 (l ++ [p.1])) = some p → (p.1.map V.size).sum + p.2.length + 1 ≤ s.length + (l.map V.size).sum := by
          intro s1 h1 h
          cases hq : val s1 with
          | none => rw [hq] at h; cases h
          | some q =>
            rw [hq] at h
            have h2 := hv _ _ hq
            have h3 := listL_size hv g _ _ _ h
            simp only [List.map_append, List.sum_append, List.map_cons, List.map_nil, List.sum_cons, List.sum_nil] at h3
            omega
        split at h
        · exact aux _ (by simp) h
        · split at h
          · exact aux _ (by omega) h
          · cases h
theorem membL_size {val : Bytes → Option (V × Bytes)} (hv : Sized val) {s : Bytes} {p : (ByteArray × V) × Bytes} (h : membL val s = some p) : p.1.1.size + 1 + p.1.2.size + p.2.length ≤ s.length := by
  unfold membL at h
  have hs := spaceL_len s
  split at h
  · cases h
  · rename_i c t he
    rw [he] at hs
    simp only [List.length_cons] at hs
    split at h
    · cases hq : textL (t.length + 1) t [] with
      | none => rw [hq] at h; cases h
      | some q =>
        rw [hq] at h
        simp only [Option.bind_some] at h
        have h1 := textL_size _ _ _ _ hq
        have h2 := spaceL_len q.2
        split at h
        · cases h
        · rename_i c' t' he'
          rw [he'] at h2
          simp only [List.length_cons, List.length_nil] at h1 h2
          split at h
          · cases hr : val t' with
            | none => rw [hr] at h; cases h
            | some r =>
              rw [hr] at h
              have h3 := hv _ _ hr
              cases h
              simp only [ByteArray.size, List.size_toArray]; omega
          · cases h
    · cases h
theorem sum_ins {α : Type} (f : α → Nat) (l : List α) (k : Nat) (x : α) : ((l.take k ++ x :: l.drop k).map f).sum = (l.map f).sum + f x := by
  have h : (l.map f).sum = ((l.take k).map f).sum + ((l.drop k).map f).sum := by rw [← List.sum_append, ← List.map_append, List.take_append_drop]
  simp only [List.map_append, List.map_cons, List.sum_append, List.sum_cons]; omega
theorem objL_size {val : Bytes → Option (V × Bytes)} (hv : Sized val) : ∀ (g : Nat) (s : Bytes) (ks : List ByteArray) (l : List V) (p : (List ByteArray × List V) × Bytes), objL val g s ks l = some p → strsSize p.1.1 + (p.1.2.map V.size).sum + p.2.length + 1 ≤ s.length + strsSize ks + (l.map V.size).sum
  | 0, _, _, _, _, h => by cases h
  | g + 1, s, ks, l, p, h => by
    rw [objL] at h
    have hs := spaceL_len s
    split at h
    · cases h
    · rename_i c t he
      rw [he] at hs
      simp only [List.length_cons] at hs
      split at h
      · cases h; simp only; omega
      · have aux : ∀ s1 : Bytes, s1.length ≤ t.length + 1 → ((membL val s1).bind fun p => if hasB ks p.1.1 = true then none else objL val g p.2 (ks.take (posOf ks p.1.1) ++ p.1.1 :: ks.drop (posOf ks p.1.1)) (l.take (posOf ks p.1.1) ++ p.1.2 :: l.drop (posOf ks p.1.1))) = some p → strsSize p.1.1 + (p.1.2.map V.size).sum + p.2.length + 1 ≤ s.length + strsSize ks + (l.map V.size).sum := by
          intro s1 h1 h
          cases hq : membL val s1 with
          | none => rw [hq] at h; cases h
          | some q =>
            rw [hq] at h
            simp only [Option.bind_some] at h
            split at h
            · cases h
            · have h2 := membL_size hv hq
              have h3 := objL_size hv g _ _ _ _ h
              unfold strsSize at *
              rw [sum_ins, sum_ins] at h3
              omega
        split at h
        · exact aux _ (by simp) h
        · split at h
          · exact aux _ (by omega) h
          · cases h
theorem valL_size : ∀ (f : Nat), Sized (valL f)
  | 0, _, _, h => by cases h
  | f + 1, s, p, h => by
    rw [valL] at h
    have hs := spaceL_len s
    split at h
    · cases h
    · rename_i c t he
      rw [he] at hs
      simp only [List.length_cons] at hs
      have hz : V.zero.size = 1 := by rw [V.size_eq]; rfl
      have ht : trueV.size = 1 := by rw [V.size_eq]; rfl
      have hf : falseV.size = 1 := by rw [V.size_eq]; rfl
      repeat (split at h; rotate_left)
      all_goals first
        | (cases h; done)
        | (split at h; (first | (cases h; simp only [List.length_drop, hz, ht, hf]; omega) | cases h); (first | (cases h; done) | skip))
        | skip
      · simp only [Option.map_eq_some_iff] at h
        obtain ⟨q, hq, rfl⟩ := h
        have := textL_size _ _ _ _ hq
        rw [V.size_eq]
        simp only [V.s_mk, V.keys_mk, V.l_mk, ByteArray.size, List.size_toArray, strsSize, List.map_nil, List.sum_nil, List.length_nil] at *; omega
      · rename_i hd
        simp only [Option.map_eq_some_iff] at h
        obtain ⟨q, hq, rfl⟩ := h
        have := (numL_len hq).2 (numN_pos hd) (by simp)
        rw [V.size_eq]
        simp only [V.s_mk, V.keys_mk, V.l_mk, strsSize, List.map_nil, List.sum_nil, List.length_cons, show (⟨#[]⟩ : ByteArray).size = 0 from rfl] at *; omega
      · simp only [Option.map_eq_some_iff] at h
        obtain ⟨q, hq, rfl⟩ := h
        have := listL_size (valL_size f) _ _ _ _ hq
        rw [V.size_eq]
        simp only [V.s_mk, V.keys_mk, V.l_mk, strsSize, List.map_nil, List.sum_nil, show (⟨#[]⟩ : ByteArray).size = 0 from rfl] at *; omega
      · simp only [Option.map_eq_some_iff] at h
        obtain ⟨q, hq, rfl⟩ := h
        have := objL_size (valL_size f) _ _ _ _ _ hq
        rw [V.size_eq]
        simp only [V.s_mk, V.keys_mk, V.l_mk, strsSize, List.map_nil, List.sum_nil, show (⟨#[]⟩ : ByteArray).size = 0 from rfl] at *; omega
end Go.Proofs.YtknnflobpjppfaaDoor
