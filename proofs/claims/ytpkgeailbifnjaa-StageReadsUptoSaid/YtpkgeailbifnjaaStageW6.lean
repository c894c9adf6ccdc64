/- stage.Next whole; and the plain laws that the reference's recursion wants. -/
import Derived.Test.YtpkgeailbifnjaaStageW5
set_option linter.all false
namespace Go.Proofs.Ytpkgeailbifnjaa
open Go.RowKit

theorem next_any (im : ByteArray) (a : Option Addr) (cap : Nat) (xs : List (Int × Int)) (s : St) (now order : Int) (w : World) (hl : xs.length ≤ 9223372036854775807) (hs : StepsIn w a xs) :
    Calls Try.prog 10 #[.agg #[.string im, .slice a xs.length cap], .agg #[.string s.sb, .string s.cm, .int .i64 s.ph, .int .i64 s.sp, .int .i64 s.wt, .int .i64 s.si], .int .i64 now, .int .i64 order] w fun e w' => e = .returned (.tuple #[(nextSt im xs s now order).1.val, .int .i64 (nextSt im xs s now order).2]) ∧ Ext w w' := by
  by_cases hL : Loops im xs s now order
  · obtain ⟨hG, hT, h0, h1, ho0, ho1, hd, hp⟩ := hL
    have hn : nextSt im xs s now order = (runSt now (xs.drop (comingSt im s).sp.toNat) (comingSt im s) order, 0) := by
      simp only [nextSt]
      grind
    have hR : RunsTo xs now (comingSt im s) order (runSt now (xs.drop (comingSt im s).sp.toNat) (comingSt im s) order) := by
      refine ⟨?_, rfl⟩
      simp only [comingSt, goodStB] at *
      grind
    obtain ⟨sb, cm, ph, sp, wt, si⟩ := s
    have hsi : 0 ≤ si ∧ si ≤ 1099511627776 := by
      simp only [goodStB] at hT
      grind
    by_cases him : im.toList = cm.toList
    · obtain rfl := toList_inj him
      simp only [comingSt, if_true] at hn hR hp
      rcases hp with rfl | rfl
      · exact next_loopB im sb a cap xs sp wt si now order w hl hs hG hT h0 h1 ho0 ho1 hsi _ hR hn
      · exact next_loopC im sb a cap xs sp wt si now order w hl hs hG hT h0 h1 ho0 ho1 hsi _ hR hn
    · simp only [comingSt, if_neg him] at hn hR hp
      exact next_loopA im sb cm a cap xs ph sp wt si now order w hl hs hG hT h0 h1 ho0 ho1 (by simpa using him) (by grind) _ hR hn
  · exact next_early im a cap xs s now order w hl hs hL

theorem run_out {xs : List (Int × Int)} {now : Int} {s : St} {o : Int} (hk : ¬ s.sp.toNat < xs.length) : runSt now (xs.drop s.sp.toNat) s o = doneSt s.cm := by
  rw [List.drop_of_length_le (by omega)]; rfl
theorem run_at {xs : List (Int × Int)} {now : Int} {s : St} {o : Int} (k : Nat) (hs : s.sp = k) (hk : k < xs.length) : runSt now (xs.drop s.sp.toNat) s o =
    if 0 ≤ xs[k].1 then runSt now (xs.drop (k + 1)) ⟨s.sb, s.cm, 2, (k : Int) + 1, xs[k].1, 0⟩ o
    else if s.ph ≠ 3 then { s with ph := 3, si := now }
    else if o = 1 then runSt now (xs.drop (k + 1)) ⟨s.sb, s.cm, 2, (k : Int) + 1, s.wt, 0⟩ 0
    else if xs[k].2 = 0 ∨ now < s.si ∨ now - s.si < xs[k].2 then s
    else runSt now (xs.drop (k + 1)) ⟨s.sb, s.cm, 2, (k : Int) + 1, s.wt, 0⟩ o := by
  have e1 : s.sp.toNat = k := by omega
  rw [e1, List.drop_eq_getElem_cons hk, runSt, hs]
theorem step_good {im : ByteArray} {xs : List (Int × Int)} (hG : goodSpecB im xs = true) {k : Nat} (hk : k < xs.length) : goodStepB xs[k].1 xs[k].2 = true ∧ xs.length ≤ 8 := by
  simp only [goodSpecB, stepsB, Bool.and_eq_true, List.all_eq_true, decide_eq_true_eq] at hG
  exact ⟨hG.2 _ (List.getElem_mem hk), hG.1.2⟩
/-- One step on, it is the same as from there. -/
theorem next_rec {im : ByteArray} {xs : List (Int × Int)} (hG : goodSpecB im xs = true) {sb cm : ByteArray} {now o wt : Int} {k : Nat} (hk : k < xs.length) (hcm : im.toList = cm.toList) (hsb : sb.toList ≠ cm.toList) (hsb0 : sb.toList ≠ [])
    (hw : 0 ≤ wt ∧ wt ≤ 100) (h0 : 0 ≤ now) (h1 : now ≤ 1099511627776) (ho0 : 0 ≤ o) (ho1 : o ≤ 1) :
    nextSt im xs ⟨sb, cm, 2, (k : Int) + 1, wt, 0⟩ now o = (runSt now (xs.drop (k + 1)) ⟨sb, cm, 2, (k : Int) + 1, wt, 0⟩ o, 0) := by
  have h8 := (step_good hG hk).2
  have hne : im.toList ≠ [] := by simp only [goodSpecB] at hG; grind
  have hT : goodStB ⟨sb, cm, 2, (k : Int) + 1, wt, 0⟩ = true := by
    simp only [goodStB]
    grind
  have e : ((k : Int) + 1).toNat = k + 1 := by omega
  simp only [nextSt, hG, hT, comingSt, if_pos hcm, e]
  grind

theorem next_loops {im : ByteArray} {xs : List (Int × Int)} {s : St} {now o : Int} (hG : goodSpecB im xs = true) (hT : goodStB s = true) (hcm : im.toList = s.cm.toList) (hp : s.ph ≠ 1) (hp4 : s.ph ≠ 4)
    (h0 : 0 ≤ now) (h1 : now ≤ 1099511627776) (ho0 : 0 ≤ o) (ho1 : o ≤ 1) : nextSt im xs s now o = (runSt now (xs.drop s.sp.toNat) s o, 0) := by
  have hq : s.ph = 2 ∨ s.ph = 3 := by simp only [goodStB] at hT; grind
  simp only [nextSt, hG, hT, comingSt, if_pos hcm]
  grind

end Go.Proofs.Ytpkgeailbifnjaa
