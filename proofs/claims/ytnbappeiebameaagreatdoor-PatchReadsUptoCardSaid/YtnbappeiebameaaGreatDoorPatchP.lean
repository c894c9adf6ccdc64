/- What package patch reckons: plain functions and their laws, no program in sight. -/
import Derived.Test.YtnbappeiebameaaGreatDoorPkA
set_option linter.all false
namespace Go.Proofs.YtnbappeiebameaaGreatDoor

/-- An operation, apart from memory. -/
structure OpV where
  k : Int
  p : ByteArray
  f : ByteArray
  v : V
/-- Does a path lie below another one? -/
def belowB (f p : ByteArray) : Bool := (f.data.toList ++ [47]).isPrefixOf p.data.toList
/-- To move: what stands at a path, to another one. -/
def moveV (x : V) (f p : ByteArray) (y : V) : V × Int :=
  if belowB f p = true then (x, 1) else if f = p then (x, 0)
  else if (remP x f).2 ≠ 0 then (x, (remP x f).2)
  else if (addP (remP x f).1 p y).2 ≠ 0 then (x, (addP (remP x f).1 p y).2) else ((addP (remP x f).1 p y).1, 0)
/-- patch.One. -/
def oneV (x : V) (o : OpV) : V × Int :=
  if o.k = 1 then addP x o.p o.v else if o.k = 2 then remP x o.p else if o.k = 3 then putP x o.p o.v
  else if o.k = 4 ∨ o.k = 5 then
    if (getP x o.f).2 ≠ 0 then (x, (getP x o.f).2)
    else if o.k = 5 then addP x o.p (getP x o.f).1
    else moveV x o.f o.p (getP x o.f).1
  else if o.k = 6 then
    if (getP x o.p).2 ≠ 0 then (x, (getP x o.p).2)
    else if (getP x o.p).1.same o.v = true then (x, 0) else (x, 4)
  else (x, 9)
/-- One by one. -/
def goV : List OpV → V → V × Int
  | [], x => (x, 0)
  | o :: r, x => if (oneV x o).2 ≠ 0 then oneV x o else goV r (oneV x o).1
/-- patch.All. -/
def allV (x : V) (l : List OpV) : V × Int := if 20 < l.length then (x, 2) else if (goV l x).2 ≠ 0 then (x, (goV l x).2) else ((goV l x).1, 0)

theorem rem_law (x : V) (p : ByteArray) : ((remP x p).2 ≠ 0 → (remP x p).1 = x) ∧ ((remP x p).2 = 0 → (remP x p).1.fine = true) := by
  unfold remP
  refine ⟨change_not, fun h => ?_⟩
  obtain ⟨l, hn, hl, hf, h0, hg, he⟩ := change_ok_iff h
  rw [he]; exact hg
theorem getP_fine {x : V} {p : ByteArray} (h : (getP x p).2 = 0) : x.fine = true := by
  unfold getP at h
  split at h
  · simp at h
  · by_cases hf : x.fine = false
    · rw [if_pos hf] at h; simp at h
    · simpa using hf
theorem getV_fine : ∀ (l : List ByteArray) (x y : V), getV l x = some y → ∀ d : Int, x.good d = true → (∃ e, d ≤ e ∧ y.good e = true) ∧ y.count ≤ x.count
  | [], x, y, h, d, hd => by
    have h : x = y := by simpa [getV] using h
    subst h
    exact ⟨⟨d, Int.le_refl _, hd⟩, Nat.le_refl _⟩
  | a :: r, x, y, h, d, hd => by
    cases hc : x.child a with
    | none => simp [getV, hc] at h
    | some i =>
      have hi := child_lt (good_sound hd) hc
      have h : getV r x.l[i] = some y := by simpa [getV, hc, hi] using h
      obtain ⟨⟨e, h1, h2⟩, h3⟩ := getV_fine r _ y h (d + 1) (good_item hd hi)
      have := V.count_item hi
      exact ⟨⟨e, by omega, h2⟩, by omega⟩
/-- What is got of a value is one. -/
theorem getP_val {x : V} {p : ByteArray} (h : (getP x p).2 = 0) : (getP x p).1.fine = true := by
  have hf := getP_fine h
  unfold getP at h ⊢
  cases hn : namesB p with
  | none => rw [hn] at h; simp at h
  | some l =>
    rw [hn] at h
    simp only at h ⊢
    rw [if_neg (by rw [hf]; decide)] at h ⊢
    cases hg : getV l x with
    | none => rw [hg] at h; simp at h
    | some y =>
      simp only
      simp only [V.fine, Bool.and_eq_true, decide_eq_true_eq] at hf ⊢
      obtain ⟨⟨e, h1, h2⟩, h3⟩ := getV_fine l x y hg 1 hf.1
      exact ⟨good_mono h2 h1, by omega⟩
theorem getP_zero {x : V} {p : ByteArray} (h : (getP x p).2 ≠ 0) : (getP x p).1 = V.zero := by
  unfold getP at h ⊢
  cases hn : namesB p with
  | none => rfl
  | some l =>
    rw [hn] at h
    simp only at h ⊢
    by_cases hf : x.fine = false
    · rw [if_pos hf]
    · rw [if_neg hf] at h ⊢
      cases hg : getV l x with
      | none => rfl
      | some y => rw [hg] at h; simp at h
theorem getP_size (x : V) (p : ByteArray) : (getP x p).1.size ≤ 14640 := by
  by_cases h : (getP x p).2 = 0
  · exact fine_size (getP_val h)
  · rw [getP_zero h, V.size_eq]; decide
theorem move_law (x : V) (f p : ByteArray) (y : V) (hx : x.fine = true) : ((moveV x f p y).2 ≠ 0 → (moveV x f p y).1 = x) ∧ ((moveV x f p y).2 = 0 → (moveV x f p y).1.fine = true) := by
  unfold moveV
  split
  · exact ⟨fun _ => rfl, fun h => by simp at h⟩
  · split
    · exact ⟨fun h => absurd rfl h, fun _ => hx⟩
    · split
      · exact ⟨fun _ => rfl, fun h => absurd h (by assumption)⟩
      · split
        · exact ⟨fun _ => rfl, fun h => absurd h (by assumption)⟩
        · rename_i h1 h2
          exact ⟨fun h => absurd rfl h, fun _ => ((add_law _ y p).2 (by simpa using h2)).1⟩
theorem one_law (x : V) (o : OpV) : ((oneV x o).2 ≠ 0 → (oneV x o).1 = x) ∧ ((oneV x o).2 = 0 → (oneV x o).1.fine = true) := by
  unfold oneV
  split
  · exact ⟨(add_law x o.v o.p).1, fun h => ((add_law x o.v o.p).2 h).1⟩
  split
  · exact rem_law x o.p
  split
  · exact ⟨(put_law x o.v o.p).1, fun h => ((put_law x o.v o.p).2 h).1⟩
  split
  · split
    · rename_i h; exact ⟨fun _ => rfl, fun h' => absurd h' h⟩
    · rename_i h
      have hx := getP_fine (by simpa using h)
      split
      · exact ⟨(add_law x _ o.p).1, fun h => ((add_law x _ o.p).2 h).1⟩
      · exact move_law x o.f o.p _ hx
  split
  · split
    · rename_i h; exact ⟨fun _ => rfl, fun h' => absurd h' h⟩
    · rename_i h
      have hx := getP_fine (by simpa using h)
      split
      · exact ⟨fun h => absurd rfl h, fun _ => hx⟩
      · exact ⟨fun _ => rfl, fun h => by simp at h⟩
  · exact ⟨fun _ => rfl, fun h => by simp at h⟩
theorem one_size (x : V) (o : OpV) : (oneV x o).1.size ≤ max x.size 14640 := by
  by_cases h : (oneV x o).2 = 0
  · have := fine_size ((one_law x o).2 h); omega
  · rw [(one_law x o).1 h]; omega
theorem go_app : ∀ (l m : List OpV) (x : V), goV (l ++ m) x = if (goV l x).2 ≠ 0 then goV l x else goV m (goV l x).1
  | [], m, x => by rw [List.nil_append, goV, if_neg (by simp)]
  | o :: r, m, x => by
    rw [List.cons_append, goV, goV]
    by_cases h : (oneV x o).2 ≠ 0
    · rw [if_pos h, if_pos h, if_pos h]
    · rw [if_neg h, if_neg h]
      exact go_app r m _
theorem go_snoc (l : List OpV) (o : OpV) (x : V) (h : (goV l x).2 = 0) : goV (l ++ [o]) x = oneV (goV l x).1 o := by
  rw [go_app, if_neg (by simp [h]), goV]
  split
  · rfl
  · rename_i h'
    rw [goV]
    exact Prod.ext rfl (by simpa using Eq.symm (by simpa using h'))
theorem go_fine : ∀ (l : List OpV) (x : V), (goV l x).2 = 0 → (l = [] ∧ (goV l x).1 = x) ∨ (goV l x).1.fine = true
  | [], x, _ => .inl ⟨rfl, by rw [goV]⟩
  | o :: r, x, h => by
    rw [goV] at h ⊢
    split at h
    · rename_i h'; exact absurd h h'
    · rename_i h'
      rw [if_neg h']
      have h0 : (oneV x o).2 = 0 := by simpa using h'
      rcases go_fine r _ h with ⟨-, he⟩ | hf
      · rw [he]; exact .inr ((one_law x o).2 h0)
      · exact .inr hf
theorem go_size (l : List OpV) (x : V) (h : (goV l x).2 = 0) : (goV l x).1.size ≤ max x.size 14640 := by
  rcases go_fine l x h with ⟨-, he⟩ | hf
  · rw [he]; omega
  · have := fine_size hf; omega
/-- PatchWhole: what All answers. -/
theorem all_whole (x : V) (l : List OpV) : ((allV x l).2 ≠ 0 → (allV x l).1 = x) ∧ ((allV x l).2 = 0 → l = [] ∨ (allV x l).1.fine = true) := by
  unfold allV
  split
  · exact ⟨fun _ => rfl, fun h => by simp at h⟩
  · split
    · rename_i h; exact ⟨fun _ => rfl, fun h' => absurd h' h⟩
    · rename_i h
      refine ⟨fun h' => absurd rfl h', fun _ => ?_⟩
      rcases go_fine l x (by simpa using h) with ⟨h1, -⟩ | hf
      · exact .inl h1
      · exact .inr hf
/-- PatchParts: what All answers to some and then to the others. -/
theorem all_parts (x : V) (l m : List OpV) (hl : (l ++ m).length ≤ 20) : ((allV x l).2 ≠ 0 → allV x (l ++ m) = (x, (allV x l).2)) ∧
    ((allV x l).2 = 0 → (allV x (l ++ m)).2 = (allV (allV x l).1 m).2 ∧ ((allV (allV x l).1 m).2 = 0 → (allV x (l ++ m)).1 = (allV (allV x l).1 m).1) ∧ ((allV (allV x l).1 m).2 ≠ 0 → (allV x (l ++ m)).1 = x)) := by
  have h1 : ¬ 20 < l.length := by simp at hl; omega
  have h2 : ¬ 20 < m.length := by simp at hl; omega
  have h3 : ¬ 20 < (l ++ m).length := by omega
  unfold allV
  rw [if_neg h1, if_neg h3, go_app]
  by_cases e1 : (goV l x).2 ≠ 0
  · rw [if_pos e1, if_pos e1, if_pos e1]
    exact ⟨fun _ => rfl, fun h => absurd h e1⟩
  · rw [if_neg e1, if_neg e1, if_neg h2]
    refine ⟨fun h => absurd rfl h, fun _ => ?_⟩
    by_cases e2 : (goV m (goV l x).1).2 ≠ 0
    · rw [if_pos e2, if_pos e2]
      exact ⟨rfl, fun h => absurd h e2, fun _ => rfl⟩
    · rw [if_neg e2, if_neg e2]
      exact ⟨rfl, fun _ => rfl, fun h => absurd rfl h⟩
theorem below_self (p : ByteArray) : belowB p p = false := by
  unfold belowB
  rw [Bool.eq_false_iff]
  intro h
  have := (List.isPrefixOf_iff_prefix.1 h).length_le
  rw [List.length_append, List.length_singleton] at this
  omega
/-- PatchMoves: what One answers. -/
theorem one_move (x : V) (f p : ByteArray) (y : V) : oneV x ⟨4, p, f, y⟩ = if (getP x f).2 ≠ 0 then (x, (getP x f).2) else moveV x f p (getP x f).1 := by
  unfold oneV
  simp
theorem move_parts {x : V} {f p : ByteArray} {y : V} (h : (moveV x f p y).2 = 0) (hn : f ≠ p) : (remP x f).2 = 0 ∧ (addP (remP x f).1 p y).2 = 0 ∧ (moveV x f p y).1 = (addP (remP x f).1 p y).1 := by
  unfold moveV at h ⊢
  by_cases h1 : belowB f p = true
  · rw [if_pos h1] at h; simp at h
  · rw [if_neg h1, if_neg hn] at h
    rw [if_neg h1, if_neg hn]
    by_cases h2 : (remP x f).2 ≠ 0
    · rw [if_pos h2] at h; exact absurd h h2
    · rw [if_neg h2] at h
      rw [if_neg h2]
      by_cases h3 : (addP (remP x f).1 p y).2 ≠ 0
      · rw [if_pos h3] at h; exact absurd h h3
      · rw [if_neg h3]
        exact ⟨by simpa using h2, by simpa using h3, rfl⟩
theorem move_self {x : V} {f : ByteArray} {y : V} : moveV x f f y = (x, 0) := by
  unfold moveV
  rw [below_self, if_neg (by decide), if_pos rfl]
end Go.Proofs.YtnbappeiebameaaGreatDoor
