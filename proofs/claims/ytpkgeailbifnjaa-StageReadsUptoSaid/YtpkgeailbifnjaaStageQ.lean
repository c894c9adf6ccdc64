/- Plain laws of package stage: what a run of steps ends in. -/
import Derived.Test.YtpkgeailbifnjaaStageP
set_option linter.all false
namespace Go.Proofs.Ytpkgeailbifnjaa
open Go.RowKit

/-- What a run comes to: all is done; or it waits at a pause, begun now or (if nothing was done) before. -/
def RunEnd (xs : List (Int × Int)) (now : Int) (s : St) (o : Int) (k : Nat) (r : St) : Prop :=
  r = doneSt s.cm ∨ ∃ (j : Nat) (hj : j < xs.length) (wt si : Int), k ≤ j ∧ xs[j].1 < 0 ∧ r = ⟨s.sb, s.cm, 3, j, wt, si⟩ ∧ (wt = s.wt ∨ ∃ x ∈ xs, wt = x.1 ∧ 0 ≤ x.1) ∧
    (si = now ∨ (j = k ∧ s.ph = 3 ∧ o ≠ 1 ∧ si = s.si ∧ wt = s.wt ∧ (xs[j].2 = 0 ∨ now < si ∨ now - si < xs[j].2)))

theorem run_end (xs : List (Int × Int)) (now : Int) (n : Nat) : ∀ (k : Nat) (s : St) (o : Int), xs.length - k ≤ n → s.sp = k → RunEnd xs now s o k (runSt now (xs.drop k) s o) := by
  induction n with
  | zero =>
    intro k s o hk _
    rw [List.drop_of_length_le (by omega)]
    exact .inl rfl
  | succ n ih =>
    intro k s o hk hs
    by_cases hlt : k < xs.length
    · have step : ∀ (wt : Int) (o' : Int), (wt = s.wt ∨ ∃ x ∈ xs, wt = x.1 ∧ 0 ≤ x.1) → RunEnd xs now s o k (runSt now (xs.drop (k + 1)) ⟨s.sb, s.cm, 2, s.sp + 1, wt, 0⟩ o') := by
        intro wt o' hw
        rcases ih (k + 1) ⟨s.sb, s.cm, 2, s.sp + 1, wt, 0⟩ o' (by omega) (by simp [hs]) with h | ⟨j, hj, wt', si', hkj, hx, hr, hw', hsi⟩
        · exact .inl h
        · refine .inr ⟨j, hj, wt', si', by omega, hx, hr, ?_, ?_⟩
          · rcases hw' with h | h
            · exact h ▸ hw
            · exact .inr h
          · rcases hsi with h | h
            · exact .inl h
            · exact absurd h.2.1 (by simp)
      rw [List.drop_eq_getElem_cons hlt, runSt]
      split
      · rename_i h0
        exact step xs[k].1 o (.inr ⟨xs[k], List.getElem_mem hlt, rfl, h0⟩)
      · rename_i h0
        split
        · exact .inr ⟨k, hlt, s.wt, now, Nat.le_refl _, by omega, by simp [hs], .inl rfl, .inl rfl⟩
        · rename_i h3
          have h3 : s.ph = 3 := by simpa using h3
          split
          · exact step s.wt 0 (.inl rfl)
          · rename_i ho
            split
            · rename_i hw
              exact .inr ⟨k, hlt, s.wt, s.si, Nat.le_refl _, by omega, by cases s; simp_all, .inl rfl, .inr ⟨rfl, h3, ho, rfl, rfl, hw⟩⟩
            · exact step s.wt o (.inl rfl)
    · rw [List.drop_of_length_le (by omega)]
      exact .inl rfl

theorem goodSpec_parts {im : ByteArray} {xs : List (Int × Int)} (hG : goodSpecB im xs = true) : im.toList ≠ [] ∧ im.size ≤ 60 ∧ xs.length ≤ 8 ∧ ∀ x ∈ xs, goodStepB x.1 x.2 = true := by
  simp only [goodSpecB, stepsB, Bool.and_eq_true, decide_eq_true_eq, List.all_eq_true] at hG
  exact ⟨hG.1.1.1, hG.1.1.2, hG.1.2, hG.2⟩

/-- What Next ends in, when it answers at all. -/
theorem next_ok {im : ByteArray} {xs : List (Int × Int)} {s : St} {now o : Int} {r : St} (h : nextSt im xs s now o = (r, 0)) :
    goodSpecB im xs = true ∧ goodStB s = true ∧ 0 ≤ now ∧ now ≤ 1099511627776 ∧ 0 ≤ o ∧ o ≤ 3 ∧
    ((im.toList ≠ s.cm.toList ∧ im.toList = s.sb.toList ∧ r = doneSt s.sb) ∨
     (¬ (im.toList ≠ s.cm.toList ∧ im.toList = s.sb.toList) ∧
      (((comingSt im s).ph ≠ 2 ∧ (comingSt im s).ph ≠ 3 ∧ r = comingSt im s) ∨
       (((comingSt im s).ph = 2 ∨ (comingSt im s).ph = 3) ∧
        ((o = 2 ∧ r = doneSt (comingSt im s).cm) ∨ (o = 3 ∧ r = ⟨(comingSt im s).sb, (comingSt im s).cm, 4, 0, 0, 0⟩) ∨
         (o ≤ 1 ∧ r = runSt now (xs.drop (comingSt im s).sp.toNat) (comingSt im s) o)))))) := by
  unfold nextSt at h
  repeat' split at h
  all_goals simp only [Prod.mk.injEq] at h
  all_goals grind

/-- It answers whenever all is good. -/
theorem next_fits {im : ByteArray} {xs : List (Int × Int)} {s : St} {now o : Int} (hG : goodSpecB im xs = true) (hT : goodStB s = true) (h0 : 0 ≤ now) (h1 : now ≤ 1099511627776) (ho0 : 0 ≤ o) (ho1 : o ≤ 3) :
    (nextSt im xs s now o).2 = 0 := by
  unfold nextSt
  grind

/-- What Next answers is good. -/
theorem next_good {im : ByteArray} {xs : List (Int × Int)} {s : St} {now o : Int} {r : St} (h : nextSt im xs s now o = (r, 0)) : goodStB r = true := by
  obtain ⟨hG, hT, h0, h1, ho0, ho1, hc⟩ := next_ok h
  obtain ⟨g1, g2, g3, g4⟩ := goodSpec_parts hG
  have hT' := hT
  simp only [goodStB, decide_eq_true_eq] at hT'
  rcases hc with ⟨ha, hb, rfl⟩ | ⟨ha, ⟨hp2, hp3, rfl⟩ | ⟨hp, ⟨rfl, rfl⟩ | ⟨rfl, rfl⟩ | ⟨ho, hr⟩⟩⟩
  · simp only [goodStB, doneSt]; grind
  · simp only [goodStB, comingSt] at *; grind
  · simp only [goodStB, doneSt, comingSt] at *; grind
  · simp only [goodStB, comingSt] at *; grind
  · have hsp : 0 ≤ (comingSt im s).sp := by simp only [comingSt] at *; grind
    obtain ⟨k, hk⟩ := Int.eq_ofNat_of_zero_le hsp
    have hk' : (comingSt im s).sp.toNat = k := by omega
    rw [hk'] at hr
    have he := run_end xs now _ k (comingSt im s) o (Nat.le_refl _) hk
    rw [← hr] at he
    rcases he with h | ⟨j, hj, wt, si, hkj, hx, hrr, hw, hsi⟩
    · rw [h]; simp only [goodStB, doneSt, comingSt] at *; grind
    · have hgj := g4 xs[j] (List.getElem_mem hj)
      have hwb : 0 ≤ wt ∧ wt ≤ 100 := by
        rcases hw with h | ⟨x, hxm, h, h0⟩
        · simp only [comingSt] at *; grind
        · have := g4 x hxm; simp only [goodStepB] at this; grind
      have hsb : 0 ≤ si ∧ si ≤ 1099511627776 := by
        rcases hsi with h | h
        · omega
        · simp only [comingSt] at *; grind
      rw [hrr]; simp only [goodStB, comingSt] at *; grind

/-- At the same time nothing more happens. -/
theorem next_still {im : ByteArray} {xs : List (Int × Int)} {s : St} {now : Int} {r : St} (h : nextSt im xs s now 0 = (r, 0)) : nextSt im xs r now 0 = (r, 0) := by
  have hgood := next_good h
  obtain ⟨hG, hT, h0, h1, ho0, ho1, hc⟩ := next_ok h
  obtain ⟨g1, g2, g3, g4⟩ := goodSpec_parts hG
  rcases hc with ⟨ha, hb, rfl⟩ | ⟨ha, ⟨hp2, hp3, rfl⟩ | ⟨hp, ⟨ho, rfl⟩ | ⟨ho, rfl⟩ | ⟨ho, hr⟩⟩⟩
  · simp only [nextSt, comingSt, doneSt] at *; grind
  · simp only [nextSt, comingSt] at *; grind
  · omega
  · omega
  · have hT' := hT
    simp only [goodStB, decide_eq_true_eq] at hT'
    have hsp : 0 ≤ (comingSt im s).sp := by simp only [comingSt] at *; grind
    obtain ⟨k, hk⟩ := Int.eq_ofNat_of_zero_le hsp
    have hk' : (comingSt im s).sp.toNat = k := by omega
    rw [hk'] at hr
    have hcm : im.toList = (comingSt im s).cm.toList := by simp only [comingSt]; grind
    have he := run_end xs now _ k (comingSt im s) 0 (Nat.le_refl _) hk
    rw [← hr] at he
    rcases he with hd | ⟨j, hj, wt, si, hkj, hx, hrr, hw, hsi⟩
    · rw [hd] at hgood ⊢
      have e : comingSt im (doneSt (comingSt im s).cm) = doneSt (comingSt im s).cm := by
        rw [comingSt, if_pos (show im.toList = (doneSt (comingSt im s).cm).cm.toList from hcm)]
      simp only [nextSt, hG, hgood, e]
      simp only [doneSt]
      grind
    · have hgj := g4 xs[j] (List.getElem_mem hj)
      have hst : xs[j].2 = 0 ∨ now < si ∨ now - si < xs[j].2 := by
        rcases hsi with h | h
        · simp only [goodStepB] at hgj; grind
        · exact h.2.2.2.2.2
      rw [hrr] at hgood ⊢
      have e : comingSt im ⟨(comingSt im s).sb, (comingSt im s).cm, 3, j, wt, si⟩ = ⟨(comingSt im s).sb, (comingSt im s).cm, 3, j, wt, si⟩ := by rw [comingSt, if_pos hcm]
      have er : runSt now (xs.drop j) ⟨(comingSt im s).sb, (comingSt im s).cm, 3, j, wt, si⟩ 0 = ⟨(comingSt im s).sb, (comingSt im s).cm, 3, j, wt, si⟩ := by
        rw [List.drop_eq_getElem_cons hj, runSt, if_neg (by omega), if_neg (by simp), if_neg (by simp), if_pos hst]
      have ej : ((j : Int)).toNat = j := by omega
      simp only [nextSt, hG, hgood, e, ej, er]
      grind

end Go.Proofs.Ytpkgeailbifnjaa
