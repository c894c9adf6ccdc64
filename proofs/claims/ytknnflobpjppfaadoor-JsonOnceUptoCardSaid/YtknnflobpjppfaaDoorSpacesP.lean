/- Spaces ahead and behind change nothing of what is read: in plain Lean, no program in sight. -/
import Derived.Test.YtknnflobpjppfaaDoorTextQ
set_option linter.all false
namespace Go.Proofs.YtknnflobpjppfaaDoor

/-- Nothing but spaces. -/
def Gap (g : Bytes) : Prop := ∀ c ∈ g, isSp c = true
theorem Gap.tail {c : UInt8} {g : Bytes} (h : Gap (c :: g)) : Gap g := fun d hd => h d (List.mem_cons_of_mem _ hd)
theorem Gap.head {c : UInt8} {g : Bytes} (h : Gap (c :: g)) : isSp c = true := h c (List.mem_cons_self ..)
theorem sp_cases {c : UInt8} (h : isSp c = true) : c = 32 ∨ c = 9 ∨ c = 10 ∨ c = 13 := by
  simp only [isSp, Bool.or_eq_true, beq_iff_eq] at h
  rcases h with ((h | h) | h) | h
  · exact .inl h
  · exact .inr (.inl h)
  · exact .inr (.inr (.inl h))
  · exact .inr (.inr (.inr h))
theorem space_gap {g : Bytes} (h : Gap g) : spaceL g = [] := by
  unfold spaceL
  induction g with
  | nil => rfl
  | cons c t ih => rw [List.dropWhile_cons_of_pos h.head]; exact ih h.tail
theorem space_pre {g : Bytes} (h : Gap g) (s : Bytes) : spaceL (g ++ s) = spaceL s := by
  unfold spaceL
  induction g with
  | nil => rfl
  | cons c t ih => rw [List.cons_append, List.dropWhile_cons_of_pos h.head]; exact ih h.tail
theorem space_app {g : Bytes} (h : Gap g) : ∀ (s : Bytes), spaceL (s ++ g) = if spaceL s = [] then [] else spaceL s ++ g
  | [] => by rw [List.nil_append, space_gap h]; rfl
  | c :: t => by
    have ih := space_app h t
    unfold spaceL at *
    by_cases hc : isSp c = true
    · rw [List.cons_append, List.dropWhile_cons_of_pos hc, List.dropWhile_cons_of_pos hc]; exact ih
    · rw [List.cons_append, List.dropWhile_cons_of_neg hc, List.dropWhile_cons_of_neg hc, if_neg (by simp), List.cons_append]

theorem hexV_sp {c : UInt8} (h : isSp c = true) : hexV c = none := by
  rcases sp_cases h with rfl | rfl | rfl | rfl <;> decide
theorem escM_sp {c : UInt8} (h : isSp c = true) : escM c = none ∧ c ≠ 117 := by
  rcases sp_cases h with rfl | rfl | rfl | rfl <;> decide
theorem hex4_gap {g : Bytes} (h : Gap g) : hex4 g = none := by
  unfold hex4
  split
  · rw [hexV_sp h.head]; rfl
  · rfl
theorem hex4_app {g : Bytes} (h : Gap g) (s : Bytes) : hex4 (s ++ g) = (hex4 s).map fun p => (p.1, p.2 ++ g) := by
  rcases s with _ | ⟨a, _ | ⟨b, _ | ⟨c, _ | ⟨d, t⟩⟩⟩⟩
  · rw [List.nil_append, hex4_gap h]; rfl
  · rcases g with _ | ⟨b, g⟩
    · rfl
    · have := hexV_sp h.head
      rcases g with _ | ⟨c, _ | ⟨d, t⟩⟩ <;> simp [hex4, this]
  · rcases g with _ | ⟨c, g⟩
    · rfl
    · have := hexV_sp h.head
      rcases g with _ | ⟨d, t⟩ <;> simp [hex4, this]
  · rcases g with _ | ⟨d, g⟩
    · rfl
    · simp [hex4, hexV_sp h.head]
  · simp only [hex4, List.cons_append]
    cases hexV a with
    | none => rfl
    | some a => cases hexV b with
      | none => rfl
      | some b => cases hexV c with
        | none => rfl
        | some c => cases hexV d with
          | none => rfl
          | some d => rfl
theorem escL_app {g : Bytes} (h : Gap g) (s : Bytes) : escL (s ++ g) = (escL s).map fun p => (p.1, p.2 ++ g) := by
  cases s with
  | nil =>
    rw [List.nil_append]
    cases g with
    | nil => rfl
    | cons c t =>
      obtain ⟨h1, h2⟩ := escM_sp h.head
      simp [escL, h1, h2]
  | cons c t =>
    simp only [escL, List.cons_append]
    cases escM c with
    | some m => rfl
    | none =>
      simp only
      by_cases hc : c = 117
      · rw [if_pos hc, if_pos hc, hex4_app h]
        cases hex4 t with
        | none => rfl
        | some p =>
          simp only [Option.map_some, Option.bind_some]
          split <;> rfl
      · rw [if_neg hc, if_neg hc]; rfl
theorem textL_gap {g : Bytes} (h : Gap g) : ∀ (f : Nat) (b : Bytes), textL f g b = none := by
  induction g with
  | nil => intro f b; cases f <;> rfl
  | cons c t ih =>
    intro f b
    cases f with
    | zero => rfl
    | succ f =>
      rw [textL]
      rcases sp_cases h.head with rfl | rfl | rfl | rfl
      · by_cases hb : 60 < b.length
        · simp [hb]
        · simp [hb, ih h.tail]
      all_goals simp
theorem textL_app {g : Bytes} (h : Gap g) : ∀ (f : Nat) (s b : Bytes), textL f (s ++ g) b = (textL f s b).map fun p => (p.1, p.2 ++ g)
  | 0, _, _ => rfl
  | f + 1, [], b => by rw [List.nil_append, textL_gap h]; rfl
  | f + 1, c :: t, b => by
    rw [List.cons_append, textL, textL]
    split
    · rfl
    · split
      · rfl
      · split
        · rw [escL_app h]
          cases escL t with
          | none => rfl
          | some p => simp only [Option.map_some, Option.bind_some]; exact textL_app h f _ _
        · exact textL_app h f _ _
theorem textL_fuel : ∀ (f f' : Nat) (s b : Bytes), s.length < f → s.length < f' → textL f s b = textL f' s b
  | 0, _, _, _, h, _ => absurd h (Nat.not_lt_zero _)
  | _, 0, _, _, _, h => absurd h (Nat.not_lt_zero _)
  | f + 1, f' + 1, [], b, _, _ => rfl
  | f + 1, f' + 1, c :: t, b, h, h' => by
    simp only [List.length_cons] at h h'
    rw [textL, textL]
    split
    · rfl
    · split
      · rfl
      · split
        · cases he : escL t with
          | none => rfl
          | some p =>
            have := escL_len he
            simp only [Option.bind_some]; exact textL_fuel f f' _ _ (by omega) (by omega)
        · exact textL_fuel f f' _ _ (by omega) (by omega)

theorem dg_gap {g : Bytes} (h : Gap g) : g.takeWhile isDg = [] := by
  cases g with
  | nil => rfl
  | cons c t =>
    have : isDg c = false := by rcases sp_cases h.head with rfl | rfl | rfl | rfl <;> decide
    simp [this]
theorem dg_app {g : Bytes} (h : Gap g) : ∀ (s : Bytes), (s ++ g).takeWhile isDg = s.takeWhile isDg
  | [] => by rw [List.nil_append, dg_gap h]; rfl
  | c :: t => by
    rw [List.cons_append, List.takeWhile_cons, List.takeWhile_cons]
    split
    · rw [dg_app h t]
    · rfl
theorem numN_app {g : Bytes} (h : Gap g) {c : UInt8} {t : Bytes} : numN (c :: t ++ g) = numN (c :: t) ∧ numN (c :: t) ≤ (c :: t).length := by
  rw [List.cons_append]
  have hl : ∀ s : Bytes, (s.takeWhile isDg).length ≤ s.length := fun s => (List.takeWhile_sublist _).length_le
  by_cases hc : c = 45
  · subst hc
    simp only [numN]
    rw [dg_app h]
    exact ⟨rfl, by have := hl t; simp only [List.length_cons]; omega⟩
  · have e : ∀ u : Bytes, numN (c :: u) = ((c :: u).takeWhile isDg).length := by
      intro u
      unfold numN
      split
      · rename_i he; simp only [List.cons.injEq] at he; exact absurd he.1 hc
      · rfl
    rw [e, e, ← List.cons_append, dg_app h]
    exact ⟨rfl, hl _⟩
theorem numL_app {g : Bytes} (h : Gap g) (c : UInt8) (t : Bytes) : numL (c :: t ++ g) = (numL (c :: t)).map fun p => (p.1, p.2 ++ g) := by
  obtain ⟨h1, h2⟩ := numN_app h (c := c) (t := t)
  unfold numL
  rw [h1, List.take_append_of_le_length h2, List.drop_append_of_le_length h2]
  split
  · rfl
  · split
    · split <;> rfl
    · rfl

/-- What is read is read, whatever spaces stand behind. -/
def Apps (g : Bytes) (val : Bytes → Option (V × Bytes)) : Prop := ∀ s, val (s ++ g) = (val s).map fun p => (p.1, p.2 ++ g)
def Lens (val : Bytes → Option (V × Bytes)) : Prop := ∀ s p, val s = some p → p.2.length < s.length
theorem listL_fuel {val : Bytes → Option (V × Bytes)} (hv : Lens val) : ∀ (f f' : Nat) (s : Bytes) (l : List V), s.length < f → s.length < f' → listL val f s l = listL val f' s l
  | 0, _, _, _, h, _ => absurd h (Nat.not_lt_zero _)
  | _, 0, _, _, _, h => absurd h (Nat.not_lt_zero _)
  | f + 1, f' + 1, s, l, h, h' => by
    rw [listL, listL]
    have hs := spaceL_len s
    split
    · rfl
    · rename_i c t he
      rw [he] at hs
      simp only [List.length_cons] at hs
      split
      · rfl
      · have aux : ∀ s1 : Bytes, s1.length ≤ t.length + 1 → ((val s1).bind fun p => listL val f p.2 (l ++ [p.1])) = ((val s1).bind fun p => listL val f' p.2 (l ++ [p.1])) := by
          intro s1 h1
          cases hq : val s1 with
          | none => rfl
          | some q =>
            have h2 := hv _ _ hq
            simp only [Option.bind_some]
            exact listL_fuel hv f f' _ _ (by omega) (by omega)
        split
        · exact aux _ (by simp)
        · split
          · exact aux _ (by omega)
          · rfl
theorem listL_app {g : Bytes} (hg : Gap g) {val : Bytes → Option (V × Bytes)} (ha : Apps g val) : ∀ (f : Nat) (s : Bytes) (l : List V), listL val f (s ++ g) l = (listL val f s l).map fun p => (p.1, p.2 ++ g)
  | 0, _, _ => rfl
  | f + 1, s, l => by
    rw [listL, listL, space_app hg]
    cases hs : spaceL s with
    | nil => rfl
    | cons c t =>
      rw [if_neg (by simp), List.cons_append]
      simp only
      split
      · rfl
      · have aux : ∀ s1 : Bytes, ((val (s1 ++ g)).bind fun p => listL val f p.2 (l ++ [p.1])) = ((val s1).bind fun p => listL val f p.2 (l ++ [p.1])).map fun p => (p.1, p.2 ++ g) := by
          intro s1
          rw [ha]
          cases val s1 with
          | none => rfl
          | some q => simp only [Option.map_some, Option.bind_some]; exact listL_app hg ha f _ _
        split
        · rw [← List.cons_append]; exact aux _
        · split
          · exact aux _
          · rfl
theorem membL_app {g : Bytes} (hg : Gap g) {val : Bytes → Option (V × Bytes)} (ha : Apps g val) (s : Bytes) : membL val (s ++ g) = (membL val s).map fun p => (p.1, p.2 ++ g) := by
  unfold membL
  rw [space_app hg]
  cases hs : spaceL s with
  | nil => rfl
  | cons c t =>
    rw [if_neg (by simp), List.cons_append]
    simp only
    split
    · rw [textL_fuel _ ((t ++ g).length + 1 + t.length) (t ++ g) [] (by omega) (by omega), textL_app hg, textL_fuel _ (t.length + 1) t [] (by omega) (by omega)]
      cases textL (t.length + 1) t [] with
      | none => rfl
      | some p =>
        simp only [Option.map_some, Option.bind_some]
        rw [space_app hg]
        cases spaceL p.2 with
        | nil => rfl
        | cons d u =>
          rw [if_neg (by simp), List.cons_append]
          simp only
          split
          · rw [ha]; cases val u <;> rfl
          · rfl
    · rfl
theorem objL_fuel {val : Bytes → Option (V × Bytes)} (hv : Lens val) : ∀ (f f' : Nat) (s : Bytes) (ks : List ByteArray) (l : List V), s.length < f → s.length < f' → objL val f s ks l = objL val f' s ks l
  | 0, _, _, _, _, h, _ => absurd h (Nat.not_lt_zero _)
  | _, 0, _, _, _, _, h => absurd h (Nat.not_lt_zero _)
  | f + 1, f' + 1, s, ks, l, h, h' => by
    rw [objL, objL]
    have hs := spaceL_len s
    split
    · rfl
    · rename_i c t he
      rw [he] at hs
      simp only [List.length_cons] at hs
      split
      · rfl
      · have aux : ∀ s1 : Bytes, s1.length ≤ t.length + 1 → ((membL val s1).bind fun p => if hasB ks p.1.1 = true then none else objL val f p.2 (ks.take (posOf ks p.1.1) ++ p.1.1 :: ks.drop (posOf ks p.1.1)) (l.take (posOf ks p.1.1) ++ p.1.2 :: l.drop (posOf ks p.1.1))) = ((membL val s1).bind fun p => if hasB ks p.1.1 = true then none else objL val f' p.2 (ks.take (posOf ks p.1.1) ++ p.1.1 :: ks.drop (posOf ks p.1.1)) (l.take (posOf ks p.1.1) ++ p.1.2 :: l.drop (posOf ks p.1.1))) := by
          intro s1 h1
          cases hq : membL val s1 with
          | none => rfl
          | some q =>
            have h2 := membL_len hv hq
            simp only [Option.bind_some]
            split
            · rfl
            · exact objL_fuel hv f f' _ _ _ (by omega) (by omega)
        split
        · exact aux _ (by simp)
        · split
          · exact aux _ (by omega)
          · rfl
theorem objL_app {g : Bytes} (hg : Gap g) {val : Bytes → Option (V × Bytes)} (ha : Apps g val) : ∀ (f : Nat) (s : Bytes) (ks : List ByteArray) (l : List V), objL val f (s ++ g) ks l = (objL val f s ks l).map fun p => (p.1, p.2 ++ g)
  | 0, _, _, _ => rfl
  | f + 1, s, ks, l => by
    rw [objL, objL, space_app hg]
    cases hs : spaceL s with
    | nil => rfl
    | cons c t =>
      rw [if_neg (by simp), List.cons_append]
      simp only
      split
      · rfl
      · have aux : ∀ s1 : Bytes, ((membL val (s1 ++ g)).bind fun p => if hasB ks p.1.1 = true then none else objL val f p.2 (ks.take (posOf ks p.1.1) ++ p.1.1 :: ks.drop (posOf ks p.1.1)) (l.take (posOf ks p.1.1) ++ p.1.2 :: l.drop (posOf ks p.1.1))) = ((membL val s1).bind fun p => if hasB ks p.1.1 = true then none else objL val f p.2 (ks.take (posOf ks p.1.1) ++ p.1.1 :: ks.drop (posOf ks p.1.1)) (l.take (posOf ks p.1.1) ++ p.1.2 :: l.drop (posOf ks p.1.1))).map fun p => (p.1, p.2 ++ g) := by
          intro s1
          rw [membL_app hg ha]
          cases membL val s1 with
          | none => rfl
          | some q =>
            simp only [Option.map_some, Option.bind_some]
            split
            · rfl
            · exact objL_app hg ha f _ _ _
        split
        · rw [← List.cons_append]; exact aux _
        · split
          · exact aux _
          · rfl
theorem prefix_app {l s g : Bytes} (hl : ∀ c ∈ l, isSp c = false) (hg : Gap g) (h : ¬ l.isPrefixOf s = true) : ¬ l.isPrefixOf (s ++ g) = true := by
  induction l generalizing s with
  | nil => simp at h
  | cons c t ih =>
    cases s with
    | nil =>
      cases g with
      | nil => simp
      | cons d u =>
        have h1 := hl c (List.mem_cons_self ..)
        have h2 := hg.head
        simp only [List.nil_append, List.isPrefixOf, Bool.and_eq_true, beq_iff_eq]
        rintro ⟨rfl, -⟩
        rw [h1] at h2; cases h2
    | cons d u =>
      simp only [List.cons_append, List.isPrefixOf, Bool.and_eq_true, beq_iff_eq] at h ⊢
      rintro ⟨rfl, h2⟩
      exact ih (fun c hc => hl c (List.mem_cons_of_mem _ hc)) (fun h3 => h ⟨rfl, h3⟩) h2
theorem word_app {l s g : Bytes} (hl : ∀ c ∈ l, isSp c = false) (hg : Gap g) (v : V) : (if l.isPrefixOf (s ++ g) = true then some (v, (s ++ g).drop l.length) else none) = (if l.isPrefixOf s = true then some (v, s.drop l.length) else none).map fun p => (p.1, p.2 ++ g) := by
  by_cases h : l.isPrefixOf s = true
  · have h2 : l.isPrefixOf (s ++ g) = true := List.isPrefixOf_iff_prefix.2 ((List.isPrefixOf_iff_prefix.1 h).trans (List.prefix_append _ _))
    rw [if_pos h, if_pos h2, List.drop_append_of_le_length (List.isPrefixOf_iff_prefix.1 h).length_le]; rfl
  · rw [if_neg h, if_neg (prefix_app hl hg h)]; rfl
theorem valL_app {g : Bytes} (hg : Gap g) : ∀ (f : Nat), Apps g (valL f)
  | 0, s => rfl
  | f + 1, s => by
    have ih := valL_app hg f
    have hv : Lens (valL f) := fun s p h => valL_len f s p h
    rw [valL, valL, space_app hg]
    cases hs : spaceL s with
    | nil => rfl
    | cons c t =>
      rw [if_neg (by simp), List.cons_append]
      simp only
      split
      · exact word_app (by decide) hg _
      split
      · exact word_app (by decide) hg _
      split
      · exact word_app (by decide) hg _
      split
      · rw [textL_fuel _ ((t ++ g).length + 1 + t.length) (t ++ g) [] (by omega) (by omega), textL_app hg, textL_fuel _ (t.length + 1) t [] (by omega) (by omega)]
        cases textL (t.length + 1) t [] <;> rfl
      split
      · rw [← List.cons_append, numL_app hg]
        cases numL (c :: t) <;> rfl
      split
      · rw [listL_fuel hv _ ((t ++ g).length + 1 + t.length) (t ++ g) [] (by omega) (by omega), listL_app hg ih, listL_fuel hv _ (t.length + 1) t [] (by omega) (by omega)]
        cases listL (valL f) (t.length + 1) t [] <;> rfl
      split
      · rw [objL_fuel hv _ ((t ++ g).length + 1 + t.length) (t ++ g) [] [] (by omega) (by omega), objL_app hg ih, objL_fuel hv _ (t.length + 1) t [] [] (by omega) (by omega)]
        cases objL (valL f) (t.length + 1) t [] [] <;> rfl
      · rfl
theorem parse_spaces {g : Bytes} (hg : Gap g) (s : Bytes) : parseL (g ++ s ++ g) = parseL s := by
  unfold parseL
  have e : ∀ f s, valL (f + 1) (g ++ s) = valL (f + 1) s := by
    intro f s
    rw [valL, valL, space_pre hg]
  rw [List.append_assoc, e 11, valL_app hg]
  cases valL 12 s with
  | none => rfl
  | some p =>
    simp only [Option.map_some, Option.bind_some]
    rw [space_app hg]
    by_cases h : spaceL p.2 = []
    · rw [if_pos h, h]
    · rw [if_neg h]
      have : spaceL p.2 ++ g ≠ [] := by simp [h]
      rw [if_neg (fun x => this x.1), if_neg (fun x => h x.1)]
theorem spaces_law {g s : Bytes} (hg : Gap g) (h : s.length + 2 * g.length ≤ 2000) : parseV (g ++ s ++ g) = parseV s := by
  unfold parseV
  rw [parse_spaces hg, if_neg (by simp; omega), if_neg (by omega)]
end Go.Proofs.YtknnflobpjppfaaDoor
