/- Objects and lists, apart from memory: a member put, a member taken away; a value that is sound at some depth; how great it may be. No program in sight. -/
import Derived.Test.YtknnflobpjppfaaDoorOrder
set_option linter.all false
namespace Go.Proofs.YtknnflobpjppfaaDoor

/-- Is a key there? Where it would stand, it stands. -/
def hasB (ks : List ByteArray) (key : ByteArray) : Bool := match ks[posOf ks key]? with | some k => decide (k.toList = key.toList) | none => false
theorem hasB_iff (ks : List ByteArray) (key : ByteArray) : hasB ks key = true ↔ ks[posOf ks key]? = some key := by
  unfold hasB
  cases h : ks[posOf ks key]? with
  | none => simp
  | some k =>
    simp only [decide_eq_true_eq, Option.some.injEq]
    exact ⟨fun h => bytes_ext h, fun h => by rw [h]⟩
theorem hasB_not {ks : List ByteArray} {key : ByteArray} (h : hasB ks key = false) : ks[posOf ks key]? ≠ some key := fun e => by rw [(hasB_iff _ _).2 e] at h; cases h
theorem hasB_lt {ks : List ByteArray} {key : ByteArray} (h : hasB ks key = true) : posOf ks key < ks.length := by
  have := (hasB_iff _ _).1 h
  exact (List.getElem?_eq_some_iff.1 this).1
theorem hasB_at {ks : List ByteArray} {key : ByteArray} (h : hasB ks key = true) : ks[posOf ks key]'(hasB_lt h) = key := by
  have := (hasB_iff _ _).1 h
  exact (List.getElem?_eq_some_iff.1 this).2

theorem rises_get {ks : List ByteArray} (h : Rises ks) {i j : Nat} (hi : i < ks.length) (hj : j < ks.length) (hij : i < j) : ltS ks[i] ks[j] = true := (List.pairwise_iff_getElem.1 h) i j hi hj hij
theorem rises_ne {ks : List ByteArray} (h : Rises ks) {i j : Nat} (hi : i < ks.length) (hj : j < ks.length) (hij : i ≠ j) : ks[i] ≠ ks[j] := by
  rcases Nat.lt_or_gt_of_ne hij with h1 | h1
  · exact ltS_ne (rises_get h hi hj h1)
  · exact fun e => ltS_ne (rises_get h hj hi h1) e.symm
/-- Of keys that rise, those behind the place of a key are not below it. -/
theorem pos_above {ks : List ByteArray} (h : Rises ks) {key : ByteArray} {i : Nat} (hi : i < ks.length) (hp : posOf ks key ≤ i) : ltS ks[i] key = false := by
  by_cases e : posOf ks key = i
  · subst e; exact posOf_at hi
  · have h1 := posOf_at (ks := ks) (key := key) (by omega)
    have h2 := rises_get h (show posOf ks key < ks.length by omega) hi (by omega)
    cases h3 : ltS ks[i] key with
    | false => rfl
    | true => rw [ltS_trans h2 h3] at h1; cases h1
theorem pos_of_at {ks : List ByteArray} (h : Rises ks) {key : ByteArray} {i : Nat} (hi : i < ks.length) (he : ks[i] = key) : posOf ks key = i := by
  symm
  refine posOf_unique (by omega) (fun j hj => ?_) (fun _ => ?_)
  · rw [← he]; exact rises_get h (by omega) hi hj
  · rw [he]; exact ltS_irrefl _
theorem has_of_mem {ks : List ByteArray} (h : Rises ks) {key : ByteArray} (hm : key ∈ ks) : hasB ks key = true := by
  obtain ⟨i, hi, he⟩ := List.getElem_of_mem hm
  rw [hasB_iff, pos_of_at h hi he, List.getElem?_eq_getElem hi, he]
theorem mem_of_has {ks : List ByteArray} {key : ByteArray} (h : hasB ks key = true) : key ∈ ks := by
  have := hasB_at h
  rw [← this]; exact List.getElem_mem _
/-- A key behind its place is above it, if it is not there. -/
theorem pos_gt {ks : List ByteArray} (h : Rises ks) {key : ByteArray} (hn : hasB ks key = false) {i : Nat} (hi : i < ks.length) (hp : posOf ks key ≤ i) : ltS key ks[i] = true := by
  rcases ltS_tri ks[i] key with h1 | h1 | h1
  · rw [pos_above h hi hp] at h1; cases h1
  · have := has_of_mem h (h1 ▸ List.getElem_mem hi)
    rw [hn] at this; cases this
  · exact h1

/-- An object with a member put. -/
def V.put (x : V) (key : ByteArray) (y : V) : V :=
  if x.k = 5 ∧ x.keys.length = x.l.length then
    if hasB x.keys key = true then .mk x.k x.n x.s x.keys (x.l.set (posOf x.keys key) y)
    else .mk x.k x.n x.s (x.keys.take (posOf x.keys key) ++ key :: x.keys.drop (posOf x.keys key)) (x.l.take (posOf x.keys key) ++ y :: x.l.drop (posOf x.keys key))
  else x
/-- An object without a member. -/
def V.del (x : V) (key : ByteArray) : V :=
  if x.k = 5 ∧ x.keys.length = x.l.length then
    if hasB x.keys key = true then .mk x.k x.n x.s (x.keys.take (posOf x.keys key) ++ x.keys.drop (posOf x.keys key + 1)) (x.l.take (posOf x.keys key) ++ x.l.drop (posOf x.keys key + 1))
    else x
  else x

theorem rises_insert {ks : List ByteArray} (h : Rises ks) {key : ByteArray} (hn : hasB ks key = false) : Rises (ks.take (posOf ks key) ++ key :: ks.drop (posOf ks key)) := by
  unfold Rises
  rw [List.pairwise_append]
  refine ⟨h.sublist (List.take_sublist _ _), ?_, ?_⟩
  · rw [List.pairwise_cons]
    refine ⟨fun a ha => ?_, h.sublist (List.drop_sublist _ _)⟩
    obtain ⟨i, hi, rfl⟩ := List.getElem_of_mem ha
    rw [List.getElem_drop]
    exact pos_gt h hn (by simp at hi; omega) (by omega)
  · intro a ha b hb
    obtain ⟨i, hi, rfl⟩ := List.getElem_of_mem ha
    have hi' : i < posOf ks key := by simp at hi; omega
    have hl := posOf_le ks key
    rw [List.getElem_take]
    have h1 := posOf_below (ks := ks) (key := key) (i := i) (by omega) hi'
    rcases List.mem_cons.1 hb with rfl | hb
    · exact h1
    · obtain ⟨j, hj, rfl⟩ := List.getElem_of_mem hb
      rw [List.getElem_drop]
      exact ltS_trans h1 (pos_gt h hn (by simp at hj; omega) (by omega))
theorem rises_erase {ks : List ByteArray} (h : Rises ks) (p : Nat) : Rises (ks.take p ++ ks.drop (p + 1)) := by
  refine List.Pairwise.sublist ?_ h
  have h1 : ks.take p ++ ks.drop p = ks := List.take_append_drop _ _
  have h2 : (ks.drop (p + 1)).Sublist (ks.drop p) := by
    rw [← List.drop_drop]; exact List.drop_sublist _ _
  have := (List.Sublist.refl (ks.take p)).append h2
  rw [h1] at this
  exact this

/-- The parts of what is put. -/
theorem put_yes {x : V} {key : ByteArray} {y : V} (h : x.k = 5 ∧ x.keys.length = x.l.length) (hb : hasB x.keys key = true) : x.put key y = .mk x.k x.n x.s x.keys (x.l.set (posOf x.keys key) y) := by
  unfold V.put; rw [if_pos h, if_pos hb]
theorem put_new {x : V} {key : ByteArray} {y : V} (h : x.k = 5 ∧ x.keys.length = x.l.length) (hb : hasB x.keys key = false) : x.put key y = .mk x.k x.n x.s (x.keys.take (posOf x.keys key) ++ key :: x.keys.drop (posOf x.keys key)) (x.l.take (posOf x.keys key) ++ y :: x.l.drop (posOf x.keys key)) := by
  unfold V.put; rw [if_pos h, if_neg (by rw [hb]; decide)]
theorem put_not {x : V} {key : ByteArray} {y : V} (h : ¬ (x.k = 5 ∧ x.keys.length = x.l.length)) : x.put key y = x := by
  unfold V.put; rw [if_neg h]
theorem del_yes {x : V} {key : ByteArray} (h : x.k = 5 ∧ x.keys.length = x.l.length) (hb : hasB x.keys key = true) : x.del key = .mk x.k x.n x.s (x.keys.take (posOf x.keys key) ++ x.keys.drop (posOf x.keys key + 1)) (x.l.take (posOf x.keys key) ++ x.l.drop (posOf x.keys key + 1)) := by
  unfold V.del; rw [if_pos h, if_pos hb]
theorem del_no {x : V} {key : ByteArray} (hb : hasB x.keys key = false) : x.del key = x := by
  unfold V.del; split
  · rw [if_neg (by rw [hb]; decide)]
  · rfl
theorem del_not {x : V} {key : ByteArray} (h : ¬ (x.k = 5 ∧ x.keys.length = x.l.length)) : x.del key = x := by
  unfold V.del; rw [if_neg h]

theorem sum_insert {α : Type} (f : α → Nat) (l : List α) (p : Nat) (a : α) : ((l.take p ++ a :: l.drop p).map f).sum = (l.map f).sum + f a := by
  have : (l.map f).sum = ((l.take p ++ l.drop p).map f).sum := by rw [List.take_append_drop]
  rw [this]
  simp only [List.map_append, List.map_cons, List.sum_append, List.sum_cons]
  omega
theorem sum_erase {α : Type} (f : α → Nat) (l : List α) (p : Nat) : ((l.take p ++ l.drop (p + 1)).map f).sum ≤ (l.map f).sum := by
  have : (l.map f).sum = ((l.take p ++ l.drop p).map f).sum := by rw [List.take_append_drop]
  rw [this]
  have h2 : ((l.drop (p + 1)).map f).sum ≤ ((l.drop p).map f).sum := by
    by_cases h : p < l.length
    · rw [List.drop_eq_getElem_cons h]; simp only [List.map_cons, List.sum_cons]; omega
    · rw [List.drop_of_length_le (by omega)]; simp
  simp only [List.map_append, List.sum_append]
  omega
theorem sum_set {α : Type} (f : α → Nat) (l : List α) (p : Nat) (a : α) : ((l.set p a).map f).sum ≤ (l.map f).sum + f a := by
  induction l generalizing p with
  | nil => simp
  | cons b r ih =>
    cases p with
    | zero => simp only [List.set_cons_zero, List.map_cons, List.sum_cons]; omega
    | succ p => have := ih p; simp only [List.set_cons_succ, List.map_cons, List.sum_cons]; omega
theorem put_size (x : V) (key : ByteArray) (y : V) : (x.put key y).size ≤ x.size + key.size + 1 + y.size := by
  by_cases h : x.k = 5 ∧ x.keys.length = x.l.length
  · by_cases hb : hasB x.keys key = true
    · rw [put_yes h hb, V.size_eq, V.size_eq x]
      have := sum_set V.size x.l (posOf x.keys key) y
      simp only [V.s_mk, V.keys_mk, V.l_mk]; omega
    · rw [put_new h (by simpa using hb), V.size_eq, V.size_eq x]
      have h1 := sum_insert V.size x.l (posOf x.keys key) y
      have h2 := sum_insert (fun k : ByteArray => k.size + 1) x.keys (posOf x.keys key) key
      simp only [V.s_mk, V.keys_mk, V.l_mk, strsSize] at *; omega
  · rw [put_not h]; omega
theorem del_size (x : V) (key : ByteArray) : (x.del key).size ≤ x.size := by
  by_cases h : x.k = 5 ∧ x.keys.length = x.l.length
  · by_cases hb : hasB x.keys key = true
    · rw [del_yes h hb, V.size_eq, V.size_eq x]
      have h1 := sum_erase V.size x.l (posOf x.keys key)
      have h2 := sum_erase (fun k : ByteArray => k.size + 1) x.keys (posOf x.keys key)
      simp only [V.s_mk, V.keys_mk, V.l_mk, strsSize] at *; omega
    · rw [del_no (by simpa using hb)]; omega
  · rw [del_not h]; omega

/-- A value that is good at some depth: its shape is right all the way down. -/
def V.sound (x : V) : Prop := ∃ d, x.good d = true
theorem good_mono {x : V} {d e : Int} (h : x.good d = true) (hde : e ≤ d) : x.good e = true := by
  induction x using V.ind generalizing d e with
  | h x ih =>
    rw [V.good_eq, Bool.and_eq_true, List.all_eq_true] at h ⊢
    refine ⟨?_, fun y hy => ih y hy (h.2 y hy) (by omega)⟩
    have h1 := h.1
    simp only [V.flat, Bool.and_eq_true, Bool.not_eq_true', g1, decide_eq_false_iff_not] at h1 ⊢
    obtain ⟨⟨⟨⟨h1, h2⟩, h3⟩, h4⟩, h5⟩ := h1
    exact ⟨⟨⟨⟨by omega, h2⟩, h3⟩, h4⟩, h5⟩
structure Flat (x : V) : Prop where
  k0 : 0 ≤ x.k
  k5 : x.k ≤ 5
  n0 : x.k ≠ 1 → x.k ≠ 2 → x.n = 0
  s0 : x.k ≠ 3 → x.s.toList = []
  ks0 : x.k ≠ 5 → x.keys = []
  l0 : x.k < 4 → x.l = []
  n1 : x.k = 1 → x.n = 0 ∨ x.n = 1
  nlo : -9007199254740992 ≤ x.n
  nhi : x.n ≤ 9007199254740992
  sp : plainB x.s = true
  len : x.k = 5 → x.keys.length = x.l.length
  kp : ∀ k ∈ x.keys, plainB k = true
  rise : Rises x.keys
theorem flat_of {x : V} {d : Int} (h : x.flat d = true) : Flat x ∧ d ≤ 12 := by
  simp only [V.flat, Bool.and_eq_true, Bool.not_eq_true', g1, g2, g3, g4, decide_eq_false_iff_not, Bool.or_eq_false_iff, Bool.not_eq_false'] at h
  obtain ⟨⟨⟨⟨h1, h2⟩, h3, hp⟩, h4⟩, h5⟩ := h
  obtain ⟨hk, hr⟩ := (keysB_iff _).1 h5
  refine ⟨⟨by omega, by omega, fun a b => ?_, fun a => ?_, fun a => ?_, fun a => ?_, fun a => ?_, by omega, by omega, hp, fun a => ?_, hk, hr⟩, by omega⟩
  · by_cases e : x.n = 0
    · exact e
    · exact absurd (.inl ⟨a, b, e⟩) h2
  · by_cases e : x.s.toList = []
    · exact e
    · exact absurd (.inr (.inl ⟨a, e⟩)) h2
  · by_cases e : 0 < x.keys.length
    · exact absurd (.inr (.inr (.inl ⟨a, e⟩))) h2
    · exact List.eq_nil_of_length_eq_zero (by omega)
  · by_cases e : 0 < x.l.length
    · exact absurd (.inr (.inr (.inr ⟨a, e⟩))) h2
    · exact List.eq_nil_of_length_eq_zero (by omega)
  · omega
  · omega
theorem of_flat {x : V} {d : Int} (h : Flat x) (hd : d ≤ 12) : x.flat d = true := by
  simp only [V.flat, Bool.and_eq_true, Bool.not_eq_true', g1, g2, g3, g4, decide_eq_false_iff_not, Bool.or_eq_false_iff, Bool.not_eq_false']
  refine ⟨⟨⟨⟨?_, ?_⟩, ?_, h.sp⟩, ?_⟩, (keysB_iff _).2 ⟨h.kp, h.rise⟩⟩
  · have := h.k0; have := h.k5; omega
  · rintro (⟨a, b, c⟩ | ⟨a, b⟩ | ⟨a, b⟩ | ⟨a, b⟩)
    · exact c (h.n0 a b)
    · exact b (h.s0 a)
    · rw [h.ks0 a] at b; simp at b
    · rw [h.l0 a] at b; simp at b
  · rintro (⟨a, b, c⟩ | a | a)
    · rcases h.n1 a with h | h
      · exact b h
      · exact c h
    · have := h.nlo; omega
    · have := h.nhi; omega
  · rintro ⟨a, b⟩; exact b (h.len a)
theorem V.sound.flat {x : V} (h : x.sound) : Flat x := by
  obtain ⟨d, h⟩ := h
  rw [V.good_eq, Bool.and_eq_true] at h
  exact (flat_of h.1).1
theorem V.sound.item {x y : V} (h : x.sound) (hy : y ∈ x.l) : y.sound := by
  obtain ⟨d, h⟩ := h
  rw [V.good_eq, Bool.and_eq_true, List.all_eq_true] at h
  exact ⟨d + 1, h.2 y hy⟩
theorem all_depth {l : List V} (h : ∀ y ∈ l, y.sound) : ∃ d : Int, d ≤ 12 ∧ ∀ y ∈ l, y.good (d + 1) = true := by
  induction l with
  | nil => exact ⟨12, by omega, fun y hy => by cases hy⟩
  | cons a r ih =>
    obtain ⟨d, h1, h2⟩ := ih (fun y hy => h y (by simp [hy]))
    obtain ⟨e, he⟩ := h a (by simp)
    refine ⟨min d (e - 1), by omega, fun y hy => ?_⟩
    rcases List.mem_cons.1 hy with rfl | hy
    · exact good_mono he (by omega)
    · exact good_mono (h2 y hy) (by omega)
theorem sound_mk {x : V} (h : Flat x) (hl : ∀ y ∈ x.l, y.sound) : x.sound := by
  obtain ⟨d, h1, h2⟩ := all_depth hl
  exact ⟨d, by rw [V.good_eq, Bool.and_eq_true, List.all_eq_true]; exact ⟨of_flat h h1, h2⟩⟩
theorem fine_sound {x : V} (h : x.fine = true) : x.sound := by
  simp only [V.fine, Bool.and_eq_true] at h
  exact ⟨1, h.1⟩
theorem fine_count {x : V} (h : x.fine = true) : x.count ≤ 120 := by
  simp only [V.fine, Bool.and_eq_true, decide_eq_true_eq] at h
  exact h.2
theorem plain_size {s : ByteArray} (h : plainB s = true) : s.size ≤ 60 := by
  simp only [plainB, Bool.and_eq_true, decide_eq_true_eq] at h
  exact h.2
/-- What is sound is not great. -/
theorem sound_size {x : V} (h : x.sound) : x.size + 61 ≤ x.count * 122 := by
  induction x using V.ind with
  | h x ih =>
    have hf := h.flat
    have hs := plain_size hf.sp
    rw [V.size_eq, V.count_eq]
    have h1 : strsSize x.keys ≤ x.l.length * 61 := by
      by_cases hk : x.k = 5
      · rw [← hf.len hk]
        have h2 : ∀ k ∈ x.keys, k.size ≤ 60 := fun k hk => plain_size (hf.kp k hk)
        generalize x.keys = ks at h2
        unfold strsSize
        induction ks with
        | nil => simp
        | cons a r ih =>
          have := ih (fun k hk => h2 k (by simp [hk]))
          have := h2 a (by simp)
          simp only [List.map_cons, List.sum_cons, List.length_cons]
          omega
      · rw [hf.ks0 hk]; simp [strsSize]
    have h2 : (x.l.map V.size).sum + x.l.length * 61 ≤ (x.l.map V.count).sum * 122 := by
      have h3 : ∀ y ∈ x.l, y.size + 61 ≤ y.count * 122 := fun y hy => ih y hy (h.item hy)
      generalize x.l = l at h3
      induction l with
      | nil => simp
      | cons a r ih =>
        have := ih (fun y hy => h3 y (by simp [hy]))
        have := h3 a (by simp)
        simp only [List.map_cons, List.sum_cons, List.length_cons] at *
        omega
    omega
theorem fine_size {x : V} (h : x.fine = true) : x.size ≤ 14640 := by
  have h1 := sound_size (fine_sound h)
  have h2 := fine_count h
  omega
end Go.Proofs.YtknnflobpjppfaaDoor
