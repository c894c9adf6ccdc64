/- The walks of point.Split and point.Join, over the library's contracts. -/
import Derived.Test.YtknnflobpjppfaaDoorPathP
import Derived.Test.YtknnflobpjppfaaDoorOwn
import Derived.Test.YtknnflobpjppfaaDoorCopyLaw
import Derived.Test.YtknnflobpjppfaaDoorShelf
import Derived.Lib.ReplaceLaws
import Derived.Deep.AppendLies
set_option linter.all false
namespace Go.Proofs.YtknnflobpjppfaaDoor
open Go.RowKit

/-- The library's cell that its search asks for. -/
def MaxAt (w : World) : Prop := ∃ m, w.cell? ⟨0, 0, none⟩ = some (.int .i64 m)
theorem MaxAt.ext {w w' : World} (h : MaxAt w) (e : Ext w w') : MaxAt w' := by obtain ⟨m, hm⟩ := h; exact ⟨m, e.cell hm⟩

theorem rep_len (s old new : List UInt8) (ho : old ≠ []) (hne : (old == new) = false) : (Lib.replaceAll s old new).length ≤ s.length * (1 + new.length) := by
  have h : ∀ (n : Nat) (s : List UInt8), s.length ≤ n → (Lib.replaceAll s old new).length ≤ s.length * (1 + new.length) := by
    intro n
    induction n with
    | zero => intro s hs; obtain rfl := List.eq_nil_of_length_eq_zero (Nat.le_zero.1 hs); rw [rep_nil ho]; simp
    | succ n ih =>
      intro s hs
      cases s with
      | nil => rw [rep_nil ho]; simp
      | cons b l =>
        simp only [List.length_cons] at hs
        cases hp : old.isPrefixOf (b :: l) with
        | true =>
          rw [rep_hit ho hne hp]
          have hol : 0 < old.length := List.length_pos_iff.2 ho
          have h1 : ((b :: l).drop old.length).length ≤ l.length := by simp; omega
          have h2 := ih ((b :: l).drop old.length) (by omega)
          have h3 : ((b :: l).drop old.length).length * (1 + new.length) ≤ l.length * (1 + new.length) := Nat.mul_le_mul_right _ h1
          simp only [List.length_append, List.length_cons]
          rw [Nat.succ_mul]
          omega
        | false =>
          rw [rep_miss ho hne hp]
          have h2 := ih l (by omega)
          simp only [List.length_cons]
          rw [Nat.succ_mul]
          omega
  exact h _ s (Nat.le_refl _)

theorem replace_at (s : ByteArray) (old new : List UInt8) (ho : old ≠ []) (hne : (old == new) = false) (hn : new.length ≤ 2) (hs : s.size ≤ 1073741824) (w : World) (hm : MaxAt w) :
    Calls Tryd.prog 32 #[.string s, .string ⟨old.toArray⟩, .string ⟨new.toArray⟩] w fun e w' => e = .returned (.string ⟨(Lib.replaceAll s.data.toList old new).toArray⟩) ∧ Ext w w' := by
  obtain ⟨m, hm⟩ := hm
  have hol : 0 < old.length := List.length_pos_iff.2 ho
  have h1 : 1 ≤ (⟨old.toArray⟩ : ByteArray).size := by simp [ByteArray.size]; omega
  have h2 : Lib.countB s ⟨old.toArray⟩ ≤ s.size := Lib.countB_le _ h1 _ _ (Nat.le_refl _)
  have h3 : (⟨new.toArray⟩ : ByteArray).size ≤ 2 := by simpa [ByteArray.size] using hn
  have h4 : Lib.countB s ⟨old.toArray⟩ * (⟨new.toArray⟩ : ByteArray).size ≤ s.size * 2 := Nat.mul_le_mul h2 h3
  refine (Tryd.strings_ReplaceAll s ⟨old.toArray⟩ ⟨new.toArray⟩ m w (by omega) hm h1 (by omega)).mono ?_
  rintro e w' ⟨rfl, h⟩
  exact ⟨rfl, h⟩
theorem size_arr (l : List UInt8) : (⟨l.toArray⟩ : ByteArray).size = l.length := by simp [ByteArray.size]

/-- Both replacements of a name, there and back. -/
theorem unesc_len (s : List UInt8) : (Lib.replaceAll s [126, 49] [47]).length ≤ s.length * 2 := rep_len s _ _ (by simp) (by decide)
theorem esc_len (s : List UInt8) : (Lib.replaceAll s [126] [126, 48]).length ≤ s.length * 3 := rep_len s _ _ (by simp) (by decide)

theorem split_at (r : List UInt8) (hs : r.length ≤ 1073741824) (w : World) (hm : MaxAt w) :
    Calls Tryd.prog 31 #[.string ⟨r.toArray⟩, .string ⟨#[47]⟩] w fun e w' => ∃ ps : List ByteArray, ps.map (·.data.toList) = Lib.split r [47] ∧ e = .returned (.slice (some ⟨w.heap.size, 0, none⟩) ps.length ps.length) ∧ w' = w.alloc (.cells (ps.map Value.string).toArray 9) := by
  obtain ⟨m, hm⟩ := hm
  refine (Tryd.strings_Split ⟨r.toArray⟩ ⟨#[47]⟩ m w (by rw [size_arr]; omega) hm (by decide)).mono ?_
  rintro e w' ⟨rfl, rfl⟩
  have hl := Lib.splitB_all ⟨#[47]⟩ (by decide) 0 _ ⟨r.toArray⟩ rfl
  refine ⟨_, ?_, by rw [hl], rfl⟩
  rw [Lib.splitB_data]
  simp [Lib.split, Lib.countB]

/-- Names, as a call gives them. -/
def RetNames (r : Option (List (List UInt8))) (w : World) (e : Ending) (w' : World) : Prop :=
  (∃ l a n c ks, r = some l ∧ e = .returned (.tuple #[.slice a n c, .int .i64 0]) ∧ ks.length = n ∧ ks.map (·.data.toList) = l ∧ SlOk a n c ∧ StrsIn w' (fun b => w.heap.size ≤ b) a ks ∧ Ext w w') ∨
  (r = none ∧ e = .returned (.tuple #[.slice none 0 0, .int .i64 1]) ∧ Ext w w')

/-- What stands behind a place's tilde. -/
def tildeAt (s : List UInt8) (i : Nat) : Prop := s[i]? = some 126 → (s[i + 1]? = some 48 ∨ s[i + 1]? = some 49)
theorem tildeL_cons (x : UInt8) (r : List UInt8) : tildeL (x :: r) = ((x != 126 || (match r with | c :: _ => c == 48 || c == 49 | [] => false)) && tildeL r) := by
  cases r <;> rfl
theorem tildeL_iff (s : List UInt8) : tildeL s = true ↔ ∀ i, tildeAt s i := by
  induction s with
  | nil => simp [tildeL, tildeAt]
  | cons x r ih =>
    rw [tildeL_cons, Bool.and_eq_true, ih]
    constructor
    · rintro ⟨h1, h2⟩ i
      cases i with
      | zero =>
        intro hx
        simp only [List.getElem?_cons_zero, Option.some.injEq] at hx
        subst hx
        cases r with
        | nil => simp at h1
        | cons c t => simpa [tildeAt] using h1
      | succ i => simpa [tildeAt] using h2 i
    · intro h
      refine ⟨?_, fun i => by simpa [tildeAt] using h (i + 1)⟩
      have h0 := h 0
      by_cases hx : x = 126
      · subst hx
        have := h0 rfl
        cases r with
        | nil => simp at this
        | cons c t => simpa using this
      · simp [hx]

theorem names_bad1 {p : ByteArray} (h : p.data.toList ≠ []) (hb : ¬ (Lib.hasPrefix p.data.toList [47] = true ∧ p.size ≤ 2000)) : namesL p.data.toList = none := by
  unfold namesL
  cases hp : p.data.toList with
  | nil => exact absurd hp h
  | cons c r =>
    have hsz : p.size = (c :: r).length := by rw [← hp]; exact Array.length_toList.symm
    simp only
    rw [if_neg]
    rintro ⟨rfl, h2⟩
    refine hb ⟨?_, by omega⟩
    rw [hp]; simp [Lib.hasPrefix, List.isPrefixOf]

set_option maxHeartbeats 2000000 in
theorem split_none (p : ByteArray) (w : World) (h0 : p.data.toList = [] ∨ (p.data.toList ≠ [] ∧ ¬ (Lib.hasPrefix p.data.toList [47] = true ∧ p.size ≤ 2000))) :
    Calls Tryd.prog 11 #[.string p] w (RetNames (namesL p.data.toList) w) := by
  rcases h0 with h | ⟨h, hb⟩
  · have hp : p = ⟨#[]⟩ := by obtain ⟨⟨l⟩⟩ := p; simp only at h; subst h; rfl
    subst hp
    go_enter Tryd.func11, Tryd.ntmps11
    go_wp2_with fail
    go_ret2
    exact .inl ⟨[], none, 0, 0, [], rfl, rfl, rfl, rfl, SlOk.nil, .inl rfl, (by with_reducible repeat (first | exact Ext.refl _ | assumption | apply Ext.drew | apply Ext.drewN | apply Ext.alloc | (refine Ext.setCell ?_ ?_ _; rotate_left; (focus (first | (simp; done) | (simp; omega) | omega))) | refine Ext.trans ?_ (by assumption)))⟩
  · have hn := names_bad1 h hb
    have h1 : p.toList.isEmpty = false := by rw [ByteArray.toList_eq]; cases hq : p.data.toList with | nil => exact absurd hq h | cons => rfl
    have h2 : ¬ p.toList = [] := by rw [ByteArray.toList_eq]; exact h
    rw [hn]
    clear hn
    cases hx : Lib.hasPrefix p.data.toList [47]
    · have hcp : ∀ w, Calls Tryd.prog 30 #[.string p, .string ⟨#[47]⟩] w fun e w' => ∃ q, e = .returned (.tuple #[.string q, .bool false]) ∧ w' = w := fun w => by
        have hx' : Lib.hasPrefix p.data.toList (⟨#[47]⟩ : ByteArray).data.toList = false := hx
        refine (Tryd.strings_CutPrefix p ⟨#[47]⟩ w).mono ?_
        rintro e w' ⟨rfl, rfl⟩
        exact ⟨⟨(Lib.trimPrefix p.data.toList (⟨#[47]⟩ : ByteArray).data.toList).toArray⟩, by rw [hx'], rfl⟩
      clear hb hx
      go_enter Tryd.func11, Tryd.ntmps11
      go_wp2_with (go_at_call 30; refine (hcp _).mono ?_; rintro e w1 ⟨q, rfl, rfl⟩)
      go_ret2
      exact .inr ⟨rfl, rfl, (by with_reducible repeat (first | exact Ext.refl _ | assumption | apply Ext.drew | apply Ext.drewN | apply Ext.alloc | (refine Ext.setCell ?_ ?_ _; rotate_left; (focus (first | (simp; done) | (simp; omega) | omega))) | refine Ext.trans ?_ (by assumption)))⟩
    · have hcp : ∀ w, Calls Tryd.prog 30 #[.string p, .string ⟨#[47]⟩] w fun e w' => ∃ q, e = .returned (.tuple #[.string q, .bool true]) ∧ w' = w := fun w => by
        have hx' : Lib.hasPrefix p.data.toList (⟨#[47]⟩ : ByteArray).data.toList = true := hx
        refine (Tryd.strings_CutPrefix p ⟨#[47]⟩ w).mono ?_
        rintro e w' ⟨rfl, rfl⟩
        exact ⟨⟨(Lib.trimPrefix p.data.toList (⟨#[47]⟩ : ByteArray).data.toList).toArray⟩, by rw [hx'], rfl⟩
      have hs : (2000 : Int) < (p.size : Int) := by
        have : ¬ p.size ≤ 2000 := fun h => hb ⟨hx, h⟩
        omega
      clear hb hx
      go_enter Tryd.func11, Tryd.ntmps11
      go_wp2_with (go_at_call 30; refine (hcp _).mono ?_; rintro e w1 ⟨q, rfl, rfl⟩)
      go_ret2
      exact .inr ⟨rfl, rfl, (by with_reducible repeat (first | exact Ext.refl _ | assumption | apply Ext.drew | apply Ext.drewN | apply Ext.alloc | (refine Ext.setCell ?_ ?_ _; rotate_left; (focus (first | (simp; done) | (simp; omega) | omega))) | refine Ext.trans ?_ (by assumption)))⟩
end Go.Proofs.YtknnflobpjppfaaDoor
