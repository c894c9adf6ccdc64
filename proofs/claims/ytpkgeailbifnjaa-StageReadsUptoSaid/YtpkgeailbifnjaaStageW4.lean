/- The walk of stage.Next: the ways that do not come to its loop. -/
import Derived.Test.YtpkgeailbifnjaaStageW3
set_option linter.all false
namespace Go.Proofs.Ytpkgeailbifnjaa
open Go.RowKit

theorem ret_st {r : St × Int} {a b : ByteArray} {c d e f k : Int} (h : r = (⟨a, b, c, d, e, f⟩, k)) :
    Ending.returned (.tuple #[.agg #[.string a, .string b, .int .i64 c, .int .i64 d, .int .i64 e, .int .i64 f], .int .i64 k]) = .returned (.tuple #[r.1.val, .int .i64 r.2]) := by subst h; rfl

/-- Where the loop begins, and at each of its rounds, the run from here on gives what was to come. -/
def RunsTo (xs : List (Int × Int)) (now : Int) (s : St) (o : Int) (r : St) : Prop := 0 ≤ s.sp ∧ runSt now (xs.drop s.sp.toNat) s o = r

theorem RunsTo.out {xs : List (Int × Int)} {now : Int} {s : St} {o : Int} {r : St} (h : RunsTo xs now s o r) (hk : ¬ s.sp.toNat < xs.length) : r = doneSt s.cm := by
  obtain ⟨_, h⟩ := h
  rw [List.drop_of_length_le (by omega)] at h
  exact h.symm
theorem RunsTo.step {xs : List (Int × Int)} {now : Int} {s : St} {o : Int} {r : St} (h : RunsTo xs now s o r) (k : Nat) (hs : s.sp = k) (hk : k < xs.length) :
    (0 ≤ xs[k].1 → RunsTo xs now { s with wt := xs[k].1, ph := 2, si := 0, sp := (k : Int) + 1 } o r) ∧
    (xs[k].1 < 0 → s.ph ≠ 3 → r = { s with ph := 3, si := now }) ∧
    (xs[k].1 < 0 → s.ph = 3 → o = 1 → RunsTo xs now { s with ph := 2, si := 0, sp := (k : Int) + 1 } 0 r) ∧
    (xs[k].1 < 0 → s.ph = 3 → o ≠ 1 → (xs[k].2 = 0 ∨ now < s.si ∨ now - s.si < xs[k].2) → r = s) ∧
    (xs[k].1 < 0 → s.ph = 3 → o ≠ 1 → ¬ (xs[k].2 = 0 ∨ now < s.si ∨ now - s.si < xs[k].2) → RunsTo xs now { s with ph := 2, si := 0, sp := (k : Int) + 1 } o r) := by
  obtain ⟨h0, h⟩ := h
  have e1 : s.sp.toNat = k := by omega
  have e2 : ((k : Int) + 1).toNat = k + 1 := by omega
  rw [e1, List.drop_eq_getElem_cons hk, runSt] at h
  unfold RunsTo
  simp only [e2, hs] at h ⊢
  refine ⟨?_, ?_, ?_, ?_, ?_⟩
  · intro a; rw [if_pos a] at h; exact ⟨by omega, h⟩
  · intro a b; rw [if_neg (by omega), if_pos b] at h; rw [← h]
  · intro a b c; rw [if_neg (by omega), if_neg (by simp [b]), if_pos c] at h; exact ⟨by omega, h⟩
  · intro a b c d; rw [if_neg (by omega), if_neg (by simp [b]), if_neg c, if_pos d] at h; exact h.symm
  · intro a b c d; rw [if_neg (by omega), if_neg (by simp [b]), if_neg c, if_neg d] at h; exact ⟨by omega, h⟩

/-- Nothing keeps the call from its loop. -/
def Loops (im : ByteArray) (xs : List (Int × Int)) (s : St) (now order : Int) : Prop :=
  goodSpecB im xs = true ∧ goodStB s = true ∧ 0 ≤ now ∧ now ≤ 1099511627776 ∧ 0 ≤ order ∧ order ≤ 1 ∧ ¬ (im.toList ≠ s.cm.toList ∧ im.toList = s.sb.toList) ∧ ((comingSt im s).ph = 2 ∨ (comingSt im s).ph = 3)

set_option maxRecDepth 100000 in
set_option maxHeartbeats 4000000 in
theorem next_early (im : ByteArray) (a : Option Addr) (cap : Nat) (xs : List (Int × Int)) (s : St) (now order : Int) (w : World) (hl : xs.length ≤ 9223372036854775807) (hs : StepsIn w a xs) (hL : ¬ Loops im xs s now order) :
    Calls Try.prog 10 #[.agg #[.string im, .slice a xs.length cap], .agg #[.string s.sb, .string s.cm, .int .i64 s.ph, .int .i64 s.sp, .int .i64 s.wt, .int .i64 s.si], .int .i64 now, .int .i64 order] w fun e w' => e = .returned (.tuple #[(nextSt im xs s now order).1.val, .int .i64 (nextSt im xs s now order).2]) ∧ Ext w w' := by
  obtain ⟨sb, cm, ph, sp, wt, si⟩ := s
  have HL := Lib.hid hL
  clear hL
  go_enter Try.func10, Try.ntmps10
  go_wp2_with (first | (go_at_call 15; (with_reducible refine (goodSpec_any _ _ _ _ _ hl (hs.ext (by with_reducible repeat (first | exact Ext.refl _ | assumption | apply Ext.drew | apply Ext.drewN | apply Ext.alloc | (refine Ext.setCell ?_ ?_ _; rotate_left; (focus (first | (simp; done) | (simp; omega) | omega))) | refine Ext.trans ?_ (by assumption))))).mono ?_); rintro e w1 ⟨rfl, h1⟩; obtain ⟨hc1, hf1, hz1⟩ := ext_facts h1; (try simp at hz1); (try have hzA : w.heap.size < w1.heap.size := by omega); (try have hzB : w.heap.size + 1 < w1.heap.size := by omega); (try have hzC : w.heap.size + 2 < w1.heap.size := by omega); (try have hzD : w.heap.size + 3 < w1.heap.size := by omega)) | (go_at_call 14; (with_reducible refine (good_any ⟨sb, cm, ph, sp, wt, si⟩ _).mono ?_); rintro e w1 ⟨rfl, h1⟩; obtain ⟨hc1, hf1, hz1⟩ := ext_facts h1; (try simp at hz1); (try have hzA : w.heap.size < w1.heap.size := by omega); (try have hzB : w.heap.size + 1 < w1.heap.size := by omega); (try have hzC : w.heap.size + 2 < w1.heap.size := by omega); (try have hzD : w.heap.size + 3 < w1.heap.size := by omega)) | (go_at_call 26; (with_reducible refine (done_any _ _).mono ?_); rintro e w1 ⟨rfl, h1⟩; obtain ⟨hc1, hf1, hz1⟩ := ext_facts h1; (try simp at hz1); (try have hzA : w.heap.size < w1.heap.size := by omega); (try have hzB : w.heap.size + 1 < w1.heap.size := by omega); (try have hzC : w.heap.size + 2 < w1.heap.size := by omega); (try have hzD : w.heap.size + 3 < w1.heap.size := by omega)))
  all_goals first
    | ((with_reducible apply bp_ret); (focus (go_light; simp [results, Try.results10, go_sem, *]; rfl))
       refine ⟨ret_st ?_, (by with_reducible repeat (first | exact Ext.refl _ | assumption | apply Ext.drew | apply Ext.drewN | apply Ext.alloc | (refine Ext.setCell ?_ ?_ _; rotate_left; (focus (first | (simp; done) | (simp; omega) | omega))) | refine Ext.trans ?_ (by assumption)))⟩
       go_light
       simp only [nextSt, comingSt, doneSt]
       grind)
    | (exfalso
       have := HL.out
       clear HL
       go_light
       simp only [Loops, comingSt] at this
       grind)

end Go.Proofs.Ytpkgeailbifnjaa
