/- The order of texts; keys that rise; where a key stands among them. No program in sight. -/
import Derived.Test.YtknnflobpjppfaaDoorJsonP
set_option linter.all false
namespace Go.Proofs.YtknnflobpjppfaaDoor

theorem bl_irrefl (a : List UInt8) : Op.bytesLess a a = false := by
  induction a with
  | nil => rfl
  | cons x a ih => simp [Op.bytesLess, ih]
theorem bl_trans (a : List UInt8) : ∀ b c, Op.bytesLess a b = true → Op.bytesLess b c = true → Op.bytesLess a c = true := by
  induction a with
  | nil =>
    intro b c h1 h2
    cases b with
    | nil => simp [Op.bytesLess] at h1
    | cons y b => cases c with
      | nil => simp [Op.bytesLess] at h2
      | cons z c => simp [Op.bytesLess]
  | cons x a ih =>
    intro b c h1 h2
    cases b with
    | nil => simp [Op.bytesLess] at h1
    | cons y b => cases c with
      | nil => simp [Op.bytesLess] at h2
      | cons z c =>
        simp only [Op.bytesLess, Bool.or_eq_true, decide_eq_true_eq, Bool.and_eq_true, beq_iff_eq] at h1 h2 ⊢
        rcases h1 with h1 | ⟨rfl, h1⟩
        · rcases h2 with h2 | ⟨rfl, h2⟩
          · exact .inl (UInt8.lt_trans h1 h2)
          · exact .inl h1
        · rcases h2 with h2 | ⟨rfl, h2⟩
          · exact .inl h2
          · exact .inr ⟨rfl, ih _ _ h1 h2⟩
theorem bl_tri (a : List UInt8) : ∀ b, Op.bytesLess a b = true ∨ a = b ∨ Op.bytesLess b a = true := by
  induction a with
  | nil =>
    intro b
    cases b with
    | nil => exact .inr (.inl rfl)
    | cons y b => exact .inl rfl
  | cons x a ih =>
    intro b
    cases b with
    | nil => exact .inr (.inr rfl)
    | cons y b =>
      simp only [Op.bytesLess, Bool.or_eq_true, decide_eq_true_eq, Bool.and_eq_true, beq_iff_eq, List.cons.injEq]
      rcases Nat.lt_trichotomy x.toNat y.toNat with h | h | h
      · exact .inl (.inl (UInt8.lt_iff_toNat_lt.2 h))
      · have e : x = y := UInt8.toNat_inj.1 h
        subst e
        rcases ih b with h | h | h
        · exact .inl (.inr ⟨rfl, h⟩)
        · exact .inr (.inl ⟨rfl, h⟩)
        · exact .inr (.inr (.inr ⟨rfl, h⟩))
      · exact .inr (.inr (.inl (UInt8.lt_iff_toNat_lt.2 h)))
theorem bytes_ext {a b : ByteArray} (h : a.toList = b.toList) : a = b := by
  rw [ByteArray.toList_eq, ByteArray.toList_eq] at h
  obtain ⟨⟨a⟩⟩ := a; obtain ⟨⟨b⟩⟩ := b
  simp only at h; subst h; rfl
theorem ltS_irrefl (a : ByteArray) : ltS a a = false := bl_irrefl _
theorem ltS_trans {a b c : ByteArray} (h1 : ltS a b = true) (h2 : ltS b c = true) : ltS a c = true := bl_trans _ _ _ h1 h2
theorem ltS_tri (a b : ByteArray) : ltS a b = true ∨ a = b ∨ ltS b a = true := by
  rcases bl_tri a.toList b.toList with h | h | h
  · exact .inl h
  · exact .inr (.inl (bytes_ext h))
  · exact .inr (.inr h)
theorem ltS_ne {a b : ByteArray} (h : ltS a b = true) : a ≠ b := by rintro rfl; rw [ltS_irrefl] at h; cases h
theorem ltS_asymm {a b : ByteArray} (h : ltS a b = true) : ltS b a = false := by
  cases h2 : ltS b a with
  | false => rfl
  | true => have := ltS_trans h h2; rw [ltS_irrefl] at this; cases this

/-- Keys that rise. -/
abbrev Rises (ks : List ByteArray) : Prop := ks.Pairwise fun a b => ltS a b = true
theorem keysB_iff (ks : List ByteArray) : keysB ks = true ↔ (∀ k ∈ ks, plainB k = true) ∧ Rises ks := by
  unfold keysB
  rw [decide_eq_true_eq]
  constructor
  · intro h
    refine ⟨?_, ?_⟩
    · intro k hk
      obtain ⟨i, hi, rfl⟩ := List.getElem_of_mem hk
      exact (h i hi).1
    · rw [Rises, List.pairwise_iff_getElem]
      intro i j hi hj hij
      induction j with
      | zero => omega
      | succ j ih =>
        have h1 := (h (j + 1) hj).2 (by omega)
        simp only [Nat.add_sub_cancel] at h1
        by_cases e : i = j
        · subst e; exact h1
        · exact ltS_trans (ih (by omega) (by omega)) h1
  · rintro ⟨h1, h2⟩ i hi
    refine ⟨h1 _ (List.getElem_mem hi), fun h0 => ?_⟩
    rw [Rises, List.pairwise_iff_getElem] at h2
    exact h2 (i - 1) i (by omega) hi (by omega)

/-- Where a key stands, or would. -/
def posOf (ks : List ByteArray) (key : ByteArray) : Nat := (ks.takeWhile fun k => ltS k key).length
theorem posOf_le (ks : List ByteArray) (key : ByteArray) : posOf ks key ≤ ks.length := by
  unfold posOf
  induction ks with
  | nil => simp
  | cons k r ih => simp only [List.takeWhile_cons]; split <;> simp <;> omega
theorem posOf_spec (ks : List ByteArray) (key : ByteArray) : (∀ i, (h : i < ks.length) → i < posOf ks key → ltS ks[i] key = true) ∧ (∀ h : posOf ks key < ks.length, ltS ks[posOf ks key] key = false) := by
  induction ks with
  | nil => exact ⟨fun i h => by simp at h, fun h => by simp at h⟩
  | cons k r ih =>
    by_cases hk : ltS k key = true
    · have e : posOf (k :: r) key = posOf r key + 1 := by simp [posOf, hk]
      refine ⟨?_, ?_⟩
      · intro i hi hp
        cases i with
        | zero => simpa using hk
        | succ i => simpa using ih.1 i (by simpa using hi) (by omega)
      · intro h
        simp only [e] at h ⊢
        simpa using ih.2 (by simpa using h)
    · have hk : ltS k key = false := by simpa using hk
      have e : posOf (k :: r) key = 0 := by simp [posOf, hk]
      refine ⟨?_, ?_⟩
      · intro i hi hp; omega
      · intro h
        simp only [e]
        simpa using hk
theorem posOf_below {ks : List ByteArray} {key : ByteArray} {i : Nat} (hl : i < ks.length) (h : i < posOf ks key) : ltS ks[i] key = true := (posOf_spec ks key).1 i hl h
theorem posOf_at {ks : List ByteArray} {key : ByteArray} (h : posOf ks key < ks.length) : ltS ks[posOf ks key] key = false := (posOf_spec ks key).2 h
theorem posOf_unique {ks : List ByteArray} {key : ByteArray} {p : Nat} (hp : p ≤ ks.length) (h1 : ∀ i, (h : i < p) → ltS (ks[i]'(by omega)) key = true) (h2 : (h : p < ks.length) → ltS ks[p] key = false) : p = posOf ks key := by
  induction ks generalizing p with
  | nil => simp at hp; simp [posOf, hp]
  | cons k r ih =>
    cases p with
    | zero =>
      have := h2 (by simp)
      simp only [List.getElem_cons_zero] at this
      simp [posOf, this]
    | succ p =>
      have h0 := h1 0 (by omega)
      simp only [List.getElem_cons_zero] at h0
      have := ih (p := p) (by simpa using hp) (fun i hi => by have := h1 (i + 1) (by omega); simpa using this) (fun h => by have := h2 (by simpa using h); simpa using this)
      simp only [posOf, List.takeWhile_cons, h0, if_true, List.length_cons]
      rw [← posOf]
      omega
end Go.Proofs.YtknnflobpjppfaaDoor
