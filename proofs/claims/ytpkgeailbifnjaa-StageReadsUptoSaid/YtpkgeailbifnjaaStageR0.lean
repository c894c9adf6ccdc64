/- What a value tells of a spec: the plain law. -/
import Derived.Test.YtpkgeailbifnjaaStageW3
import Derived.Test.YtpkgeailbifnjaaJson2
import Derived.Test.YtpkgeailbifnjaaMember
import Derived.Test.YtpkgeailbifnjaaCopyLaw
import Derived.Deep.AppendLies
set_option linter.all false
namespace Go.Proofs.Ytpkgeailbifnjaa
open Go.RowKit
attribute [local go_sem ↓] Go.wp_at_zero Go.wp_at_succ

theorem infoStepR : (Try.prog.info? 34).map (fun i => (i.zero, i.size, i.bytes)) = some (some (.agg #[.int .i64 0, .int .i64 0]), 2, 16) := by kernel_rfl

/-- The cells of steps. -/
def stepCells (xs : List (Int × Int)) : List Value := xs.flatMap fun x => [.int .i64 x.1, .int .i64 x.2]
theorem stepCells_len (xs : List (Int × Int)) : (stepCells xs).length = xs.length * 2 := by
  induction xs with
  | nil => rfl
  | cons x r ih => simp only [stepCells, List.flatMap_cons, List.length_append, List.length_cons, List.length_nil] at ih ⊢; omega
theorem stepCells_one (xs : List (Int × Int)) : ∀ u ∈ stepCells xs, u.oneCell' = true := by
  intro u hu
  simp only [stepCells, List.mem_flatMap] at hu
  obtain ⟨x, -, hu⟩ := hu
  simp only [List.mem_cons, List.mem_nil_iff, or_false] at hu
  rcases hu with rfl | rfl <;> rfl
theorem stepCells_at (xs : List (Int × Int)) : ∀ i, i < xs.length → (stepCells xs)[i * 2]? = some (.int .i64 (xs.getD i (0, 0)).1) ∧ (stepCells xs)[i * 2 + 1]? = some (.int .i64 (xs.getD i (0, 0)).2) := by
  induction xs with
  | nil => intro i hi; simp at hi
  | cons x r ih =>
    intro i hi
    cases i with
    | zero => simp [stepCells]
    | succ i =>
      have := ih i (by simpa using hi)
      simp only [stepCells, List.flatMap_cons, List.cons_append, List.nil_append] at this ⊢
      rw [show (i + 1) * 2 = i * 2 + 1 + 1 from by omega, show i * 2 + 1 + 1 + 1 = (i * 2 + 1) + 1 + 1 from by omega]
      simpa using this
theorem steps_src {w : World} {a : Option Addr} {xs : List (Int × Int)} (h : StepsIn w a xs) : xs.length = 0 ∨ ∃ b, a = some b ∧ ∀ j u, (stepCells xs)[j]? = some u → w.cell? (b.add j) = some u := by
  rcases h with h | ⟨b, o, rfl, hc⟩
  · exact .inl (by rw [h]; rfl)
  · refine .inr ⟨_, rfl, fun j u hj => ?_⟩
    have hlt : j < xs.length * 2 := by rw [← stepCells_len]; exact (List.getElem?_eq_some_iff.1 hj).1
    obtain ⟨c0, c1⟩ := hc (j / 2) (by omega)
    obtain ⟨s0, s1⟩ := stepCells_at xs (j / 2) (by omega)
    rw [Addr.add_lit]
    rcases Nat.mod_two_eq_zero_or_one j with h | h
    · have e : j = j / 2 * 2 := by omega
      rw [e] at hj ⊢
      rw [s0] at hj
      simp only [Option.some.injEq] at hj
      rw [← hj]; exact c0
    · have e : j = j / 2 * 2 + 1 := by omega
      rw [e] at hj ⊢
      rw [s1] at hj
      simp only [Option.some.injEq] at hj
      rw [← hj]; exact c1
theorem owns_steps {w : World} {base : Nat} {a : Option Addr} {n c : Nat} {xs : List (Int × Int)} (h : w.ownsRow base 34 2 (.slice a n c) n (stepCells xs)) (hn : xs.length = n) : StepsIn w a xs := by
  obtain ⟨hl, h⟩ := h
  rcases h with ⟨-, h0⟩ | ⟨g, cap, cur, hv, hb, hg, hnc, hcm, hcs, ht⟩
  · subst h0
    exact .inl (List.length_eq_zero_iff.1 hn)
  · simp only [Value.slice.injEq] at hv
    obtain ⟨rfl, -, rfl⟩ := hv
    refine .inr ⟨g, 0, rfl, fun i hi => ?_⟩
    have hx : ∀ j u, (stepCells xs)[j]? = some u → w.cell? ⟨g, j, none⟩ = some u := by
      intro j u hj
      rw [cell_of_row w g j cur _ _ hg]
      rw [← ht, List.getElem?_take] at hj
      split at hj
      · simpa using hj
      · cases hj
    obtain ⟨s0, s1⟩ := stepCells_at xs i hi
    rw [Nat.zero_add]
    exact ⟨hx _ _ s0, hx _ _ s1⟩


abbrev imageK : ByteArray := ⟨#[105, 109, 97, 103, 101]⟩
abbrev stepsK : ByteArray := ⟨#[115, 116, 101, 112, 115]⟩
abbrev pauseK : ByteArray := ⟨#[112, 97, 117, 115, 101]⟩
/-- The step that a value tells. -/
def stepOf (x : V) : Option (Int × Int) :=
  if x.k = 5 then (match x.member pauseK with
    | some p => if p.k = 2 ∧ 0 ≤ p.n ∧ goodStepB (-1) p.n = true then some (-1, p.n) else none
    | none => none)
  else if x.k = 2 ∧ 0 ≤ x.n ∧ goodStepB x.n 0 = true then some (x.n, 0) else none
def stepsOf : List V → Option (List (Int × Int))
  | [] => some []
  | x :: r => match stepOf x, stepsOf r with
    | some p, some l => some (p :: l)
    | _, _ => none
theorem stepsOf_bad {l : List V} {k : Nat} (h : k < l.length) (hb : stepOf l[k] = none) : stepsOf l = none := by
  induction l generalizing k with
  | nil => simp at h
  | cons x r ih =>
    cases k with
    | zero => simp only [List.getElem_cons_zero] at hb; simp [stepsOf, hb]
    | succ k => simp only [List.getElem_cons_succ] at hb; rw [stepsOf, ih (by simpa using h) hb]; cases stepOf x <;> rfl
/-- Steps so far. -/
def StepsTo (l : List V) (k : Nat) (xs : List (Int × Int)) : Prop := xs.length = k ∧ ∀ i, (h : i < l.length) → i < k → ∃ p, stepOf l[i] = some p ∧ xs[i]? = some p
theorem StepsTo.nil (l : List V) : StepsTo l 0 [] := ⟨rfl, fun i _ h => by omega⟩
theorem StepsTo.snoc {l : List V} {k : Nat} {xs : List (Int × Int)} (h : StepsTo l k xs) (hk : k < l.length) {p : Int × Int} (hp : stepOf l[k] = some p) : StepsTo l (k + 1) (xs ++ [p]) := by
  obtain ⟨h1, h2⟩ := h
  refine ⟨by simp [h1], fun i hi hk' => ?_⟩
  by_cases e : i = k
  · subst e; exact ⟨p, hp, by rw [List.getElem?_append_right (by omega)]; simp [h1]⟩
  · obtain ⟨q, hq, hx⟩ := h2 i hi (by omega)
    exact ⟨q, hq, by rw [List.getElem?_append_left (by omega)]; exact hx⟩
theorem StepsTo.all {l : List V} {xs : List (Int × Int)} (h : StepsTo l l.length xs) : stepsOf l = some xs := by
  induction l generalizing xs with
  | nil => obtain ⟨h, -⟩ := h; simp at h; subst h; rfl
  | cons x r ih =>
    obtain ⟨h1, h2⟩ := h
    obtain ⟨p, hp, hx⟩ := h2 0 (by simp) (by simp)
    cases xs with
    | nil => simp at h1
    | cons y ys =>
      simp only [List.getElem?_cons_zero, Option.some.injEq] at hx
      subst hx
      simp only [List.getElem_cons_zero] at hp
      rw [stepsOf, hp, ih (xs := ys) ⟨by simpa using h1, fun i hi hk => by have := h2 (i + 1) (by simpa using hi) (by simpa using hi); simpa using this⟩]
theorem stepCells_snoc (xs : List (Int × Int)) (a b : Int) : stepCells (xs ++ [(a, b)]) = stepCells xs ++ [.int .i64 a, .int .i64 b] := by simp [stepCells]
/-- The spec that a value tells. -/
def specOf (x : V) : Option (ByteArray × List (Int × Int)) :=
  if x.fine = true then (match x.member imageK with
    | none => none
    | some i => if i.k = 3 ∧ i.s.toList ≠ [] then (match x.member stepsK with
        | none => some (i.s, [])
        | some t => if t.k = 4 ∧ t.l.length ≤ 8 then (match stepsOf t.l with
            | some xs => some (i.s, xs)
            | none => none) else none)
      else none)
  else none
/-- The call gives the spec, or says that there is none. -/
def RetSpec (r : Option (ByteArray × List (Int × Int))) (w : World) (e : Ending) (w' : World) : Prop :=
  (∃ im xs a n c, r = some (im, xs) ∧ xs.length = n ∧ e = .returned (.tuple #[.agg #[.string im, .slice a n c], .int .i64 0]) ∧ StepsIn w' a xs ∧ Ext w w') ∨
  (r = none ∧ e = .returned (.tuple #[.agg #[.string ⟨#[]⟩, .slice none 0 0], .int .i64 1]) ∧ Ext w w')
theorem member_size {x y : V} {key : ByteArray} (h : x.member key = some y) : y.size < x.size := by
  obtain ⟨j, a, rfl⟩ := member_at h
  exact V.size_item a.lt
end Go.Proofs.Ytpkgeailbifnjaa
