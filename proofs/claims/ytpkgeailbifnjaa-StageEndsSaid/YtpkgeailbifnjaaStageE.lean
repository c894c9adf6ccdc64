/- Plain law: whoever waits long enough sees the end. -/
import Derived.Test.YtpkgeailbifnjaaStageQ
set_option linter.all false
namespace Go.Proofs.Ytpkgeailbifnjaa
open Go.RowKit

theorem bytes_inj {a b : ByteArray} (h : a.toList = b.toList) : a = b := by
  rw [ByteArray.toList_eq, ByteArray.toList_eq] at h
  exact ByteArray.ext (Array.toList_inj.1 h)

/-- Every pause ends, and not later than 2^30. -/
def PausesEnd (xs : List (Int × Int)) : Prop := ∀ x ∈ xs, x.1 = -1 → x.2 ≠ 0 ∧ x.2 ≤ 1073741824

/-- Where a rollout stands behind a round at the time now: it is out, or paused at a step not before j. -/
def Onto (im : ByteArray) (xs : List (Int × Int)) (now : Int) (j : Nat) (t : St) : Prop :=
  goodStB t = true ∧ t.cm.toList = im.toList ∧ ((t = doneSt t.cm) ∨ (t.ph = 3 ∧ ∃ k : Nat, t.sp = k ∧ j ≤ k ∧ k < xs.length ∧ t.si ≤ now))

theorem onto_first {im : ByteArray} {xs : List (Int × Int)} {s : St} {now : Int} {r : St} (h : nextSt im xs s now 0 = (r, 0)) (hp : PausesEnd xs) (hsi : s.si ≤ now) (hab : ¬ (s.ph = 4 ∧ im.toList = s.cm.toList)) : Onto im xs now 0 r := by
  have hg := next_good h
  obtain ⟨hG, hT, h0, h1, ho0, ho1, hc⟩ := next_ok h
  have hT' := hT
  simp only [goodStB, decide_eq_true_eq] at hT'
  have hcm : (comingSt im s).cm.toList = im.toList := by simp only [comingSt]; split <;> grind
  rcases hc with ⟨ha, hb, rfl⟩ | ⟨ha, ⟨hp2, hp3, rfl⟩ | ⟨hp', ⟨ho, rfl⟩ | ⟨ho, rfl⟩ | ⟨ho, hr⟩⟩⟩
  · exact ⟨hg, hb.symm, .inl rfl⟩
  · refine ⟨hg, hcm, .inl ?_⟩
    have e : im.toList = s.cm.toList := by
      by_cases e : im.toList = s.cm.toList
      · exact e
      · simp only [comingSt, if_neg e] at hp2; exact absurd trivial (by simpa using hp2)
    have ec : comingSt im s = s := by rw [comingSt, if_pos e]
    rw [ec] at hp2 hp3 ⊢
    obtain ⟨sb, cm, ph, sp, wt, si⟩ := s
    have h1 : ph = 1 := by simp only at *; grind
    subst h1
    simp only at hT' hp2 hp3
    have : sb = cm := bytes_inj (by grind)
    subst this
    simp only [doneSt, St.mk.injEq]
    grind
  · omega
  · omega
  · have hsp : 0 ≤ (comingSt im s).sp := by simp only [comingSt]; split <;> grind
    obtain ⟨k, hk⟩ := Int.eq_ofNat_of_zero_le hsp
    have hk' : (comingSt im s).sp.toNat = k := by omega
    rw [hk'] at hr
    have he := run_end xs now _ k (comingSt im s) 0 (Nat.le_refl _) hk
    rw [← hr] at he
    rcases he with hd | ⟨j, hj, wt, si, hkj, hx, hrr, hw, hsi'⟩
    · refine ⟨hg, ?_, .inl ?_⟩
      · rw [hd]; exact hcm
      · rw [hd]; rfl
    · refine ⟨hg, by rw [hrr]; exact hcm, .inr ⟨by rw [hrr], j, by rw [hrr], Nat.zero_le _, hj, ?_⟩⟩
      rw [hrr]
      rcases hsi' with h | h
      · simp only; omega
      · have hc : (comingSt im s).si ≤ now := by
          simp only [comingSt]
          split
          · exact hsi
          · exact h0
        have := h.2.2.2.1
        simp only
        omega

theorem onto_next {im : ByteArray} {xs : List (Int × Int)} {t : St} {now : Int} {j : Nat} (hG : goodSpecB im xs = true) (hp : PausesEnd xs) (h : Onto im xs now j t) (h0 : 0 ≤ now) (h1 : now + 1073741824 ≤ 1099511627776) :
    ∃ r, nextSt im xs t (now + 1073741824) 0 = (r, 0) ∧ Onto im xs (now + 1073741824) (j + 1) r := by
  obtain ⟨hg, hcm, hc⟩ := h
  have hfit := next_fits (o := 0) hG hg (by omega : 0 ≤ now + 1073741824) h1 (by omega) (by omega)
  obtain ⟨r, e, hr⟩ : ∃ r e, nextSt im xs t (now + 1073741824) 0 = (r, e) := ⟨_, _, rfl⟩
  rw [hr] at hfit
  simp only at hfit
  subst hfit
  refine ⟨r, hr, next_good hr, ?_⟩
  have ec : comingSt im t = t := by rw [comingSt, if_pos hcm.symm]
  obtain ⟨-, hT, -, -, -, -, hcc⟩ := next_ok hr
  rw [ec] at hcc
  obtain ⟨g1, g2, g3, g4⟩ := goodSpec_parts hG
  rcases hc with hd | ⟨h3, k, hk, hjk, hkl, hsi⟩
  · rcases hcc with ⟨ha, hb, rfl⟩ | ⟨ha, ⟨hp2, hp3, rfl⟩ | ⟨hp', _⟩⟩
    · exact absurd hcm.symm ha
    · exact ⟨hcm, .inl hd⟩
    · rw [hd] at hp'; simp [doneSt] at hp'
  · rcases hcc with ⟨ha, hb, rfl⟩ | ⟨ha, ⟨hp2, hp3, rfl⟩ | ⟨hp', ⟨ho, rfl⟩ | ⟨ho, rfl⟩ | ⟨ho, hrr⟩⟩⟩
    · exact absurd hcm.symm ha
    · exact absurd h3 hp3
    · omega
    · omega
    · have hk' : t.sp.toNat = k := by omega
      have hgk := g4 xs[k] (List.getElem_mem hkl)
      have hpk := hp xs[k] (List.getElem_mem hkl)
      simp only [goodStepB, decide_eq_true_eq] at hgk
      have hstep : ∃ s' : St, s'.cm = t.cm ∧ s'.sb = t.sb ∧ s'.ph = 2 ∧ s'.sp = (k : Int) + 1 ∧ r = runSt (now + 1073741824) (xs.drop (k + 1)) s' 0 := by
        rw [hk', List.drop_eq_getElem_cons hkl, runSt] at hrr
        split at hrr
        · exact ⟨⟨t.sb, t.cm, 2, t.sp + 1, xs[k].1, 0⟩, rfl, rfl, rfl, by simp only; omega, hrr⟩
        · rename_i hneg
          have hm1 : xs[k].1 = -1 := by omega
          obtain ⟨q1, q2⟩ := hpk hm1
          rw [if_neg (by simp [h3]), if_neg (by omega), if_neg (by omega)] at hrr
          exact ⟨⟨t.sb, t.cm, 2, t.sp + 1, t.wt, 0⟩, rfl, rfl, rfl, by simp only; omega, hrr⟩
      obtain ⟨s', e1, e2, e3, e4, e5⟩ := hstep
      have he := run_end xs (now + 1073741824) _ (k + 1) s' 0 (Nat.le_refl _) (by rw [e4]; omega)
      rw [← e5] at he
      rcases he with hd | ⟨m, hm, wt, si, hkm, hx, hq, hw, hs2⟩
      · rw [hd]; exact ⟨by simp only [doneSt, e1]; exact hcm, .inl rfl⟩
      · rw [hq]
        refine ⟨by simp only [e1]; exact hcm, .inr ⟨rfl, m, rfl, by omega, hm, ?_⟩⟩
        rcases hs2 with h | h
        · simp only; omega
        · exact absurd h.2.1 (by omega)

end Go.Proofs.Ytpkgeailbifnjaa
