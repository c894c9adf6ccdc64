/- Contracts in the form in which the laws of package stage call them; the closed calls 'steps'. -/
import Derived.Test.YtpkgeailbifnjaaStageW6
import Derived.Test.YtpkgeailbifnjaaStageO
import Derived.Test.YtpkgeailbifnjaaStageQ
set_option linter.all false
namespace Go.Proofs.Ytpkgeailbifnjaa
open Go.RowKit

theorem goodSpec_n (im : ByteArray) (a : Option Addr) (n cap : Nat) (xs : List (Int × Int)) (w : World) (hl : xs.length ≤ 9223372036854775807) (hs : StepsIn w a xs) (hn : n = xs.length) :
    Calls Try.prog 15 #[.agg #[.string im, .slice a n cap]] w fun e w' => e = .returned (.bool (goodSpecB im xs)) ∧ Ext w w' := by
  subst hn; exact goodSpec_any im a cap xs w hl hs

/-- Next, its answer under names. -/
theorem next_to {im : ByteArray} {a : Option Addr} {n cap : Nat} {xs : List (Int × Int)} {s r : St} {now order e : Int} (hr : nextSt im xs s now order = (r, e)) (w : World) (hl : xs.length ≤ 9223372036854775807) (hs : StepsIn w a xs) (hn : n = xs.length) :
    Calls Try.prog 10 #[.agg #[.string im, .slice a n cap], .agg #[.string s.sb, .string s.cm, .int .i64 s.ph, .int .i64 s.sp, .int .i64 s.wt, .int .i64 s.si], .int .i64 now, .int .i64 order] w
      fun x w' => x = .returned (.tuple #[.agg #[.string r.sb, .string r.cm, .int .i64 r.ph, .int .i64 r.sp, .int .i64 r.wt, .int .i64 r.si], .int .i64 e]) ∧ Ext w w' := by
  subst hn
  have := next_any im a cap xs s now order w hl hs
  rw [hr] at this
  exact this

theorem first_good (im : ByteArray) (a : Option Addr) (n cap : Nat) (xs : List (Int × Int)) (w : World) (hl : xs.length ≤ 9223372036854775807) (hs : StepsIn w a xs) (hn : n = xs.length) (hG : goodSpecB im xs = true) :
    Calls Try.prog 19 #[.agg #[.string im, .slice a n cap]] w fun e w' => e = .returned (.tuple #[.agg #[.string im, .string im, .int .i64 1, .int .i64 0, .int .i64 100, .int .i64 0], .int .i64 0]) ∧ Ext w w' := by
  have Hn := Lib.hid hn
  clear hn
  go_enter Try.func19, Try.ntmps19
  go_wp2_with (first | (go_at_call 15; (with_reducible refine (goodSpec_n _ _ _ _ _ _ hl (hs.ext (by with_reducible repeat (first | exact Ext.refl _ | assumption | apply Ext.drew | apply Ext.drewN | apply Ext.alloc | (refine Ext.setCell ?_ ?_ _; rotate_left; (focus (first | (simp; done) | (simp; omega) | omega))) | refine Ext.trans ?_ (by assumption)))) Hn.out).mono ?_); rintro e w1 ⟨rfl, h1⟩; obtain ⟨hc1, hf1, hz1⟩ := ext_facts h1; (try simp at hz1); (try have hzA : w.heap.size < w1.heap.size := by omega); (try have hzB : w.heap.size + 1 < w1.heap.size := by omega); (try have hzC : w.heap.size + 2 < w1.heap.size := by omega); (try have hzD : w.heap.size + 3 < w1.heap.size := by omega)) | (go_at_call 26; (with_reducible refine (done_any _ _).mono ?_); rintro e w1 ⟨rfl, h1⟩; obtain ⟨hc1, hf1, hz1⟩ := ext_facts h1; (try simp at hz1); (try have hzA : w.heap.size < w1.heap.size := by omega); (try have hzB : w.heap.size + 1 < w1.heap.size := by omega); (try have hzC : w.heap.size + 2 < w1.heap.size := by omega); (try have hzD : w.heap.size + 3 < w1.heap.size := by omega)))
  (with_reducible apply bp_ret); (focus (go_light; simp [results, Try.results19, go_sem, *]; rfl))
  exact ⟨rfl, (by with_reducible repeat (first | exact Ext.refl _ | assumption | apply Ext.drew | apply Ext.drewN | apply Ext.alloc | (refine Ext.setCell ?_ ?_ _; rotate_left; (focus (first | (simp; done) | (simp; omega) | omega))) | refine Ext.trans ?_ (by assumption)))⟩

theorem first_bad (im : ByteArray) (a : Option Addr) (n cap : Nat) (xs : List (Int × Int)) (w : World) (hl : xs.length ≤ 9223372036854775807) (hs : StepsIn w a xs) (hn : n = xs.length) (hG : goodSpecB im xs = false) :
    Calls Try.prog 19 #[.agg #[.string im, .slice a n cap]] w fun e w' => e = .returned (.tuple #[.agg #[.string ⟨#[]⟩, .string ⟨#[]⟩, .int .i64 0, .int .i64 0, .int .i64 0, .int .i64 0], .int .i64 1]) ∧ Ext w w' := by
  have Hn := Lib.hid hn
  clear hn
  go_enter Try.func19, Try.ntmps19
  go_wp2_with (first | (go_at_call 15; (with_reducible refine (goodSpec_n _ _ _ _ _ _ hl (hs.ext (by with_reducible repeat (first | exact Ext.refl _ | assumption | apply Ext.drew | apply Ext.drewN | apply Ext.alloc | (refine Ext.setCell ?_ ?_ _; rotate_left; (focus (first | (simp; done) | (simp; omega) | omega))) | refine Ext.trans ?_ (by assumption)))) Hn.out).mono ?_); rintro e w1 ⟨rfl, h1⟩; obtain ⟨hc1, hf1, hz1⟩ := ext_facts h1; (try simp at hz1); (try have hzA : w.heap.size < w1.heap.size := by omega); (try have hzB : w.heap.size + 1 < w1.heap.size := by omega); (try have hzC : w.heap.size + 2 < w1.heap.size := by omega); (try have hzD : w.heap.size + 3 < w1.heap.size := by omega)) | (go_at_call 26; (with_reducible refine (done_any _ _).mono ?_); rintro e w1 ⟨rfl, h1⟩; obtain ⟨hc1, hf1, hz1⟩ := ext_facts h1; (try simp at hz1); (try have hzA : w.heap.size < w1.heap.size := by omega); (try have hzB : w.heap.size + 1 < w1.heap.size := by omega); (try have hzC : w.heap.size + 2 < w1.heap.size := by omega); (try have hzD : w.heap.size + 3 < w1.heap.size := by omega)))
  (with_reducible apply bp_ret); (focus (go_light; simp [results, Try.results19, go_sem, *]; rfl))
  exact ⟨rfl, (by with_reducible repeat (first | exact Ext.refl _ | assumption | apply Ext.drew | apply Ext.drewN | apply Ext.alloc | (refine Ext.setCell ?_ ?_ _; rotate_left; (focus (first | (simp; done) | (simp; omega) | omega))) | refine Ext.trans ?_ (by assumption)))⟩

theorem steps_run : nextSt ⟨#[98]⟩ [(20, 0), (-1, 0)] ⟨⟨#[97]⟩, ⟨#[97]⟩, 1, 0, 100, 0⟩ 5 0 = (⟨⟨#[97]⟩, ⟨#[98]⟩, 3, 1, 20, 5⟩, 0) := by
  simp [nextSt, goodSpecB, stepsB, goodStepB, goodStB, comingSt, doneSt, runSt, ByteArray.toList_eq, ByteArray.size]

theorem steps_first : goodSpecB ⟨#[97]⟩ [] = true := by
  simp [goodSpecB, stepsB, ByteArray.toList_eq, ByteArray.size]

set_option maxHeartbeats 1000000 in
theorem steps_keep (w : World) : Calls Try.prog 13 #[] w fun e w' => e = .returned (.bool true) ∧ Ext w w' := by
  go_enter Try.func13, Try.ntmps13
  go_wp2_with (go_at_call 19; refine (first_good _ _ 0 _ [] _ (by simp) (.inl rfl) rfl steps_first).mono ?_; rintro e w1 ⟨rfl, h1⟩; obtain ⟨hc1, hf1, hz1⟩ := ext_facts h1; (try simp at hz1); (try have hzA : w.heap.size < w1.heap.size := by omega); (try have hzB : w.heap.size + 1 < w1.heap.size := by omega); (try have hzC : w.heap.size + 2 < w1.heap.size := by omega); (try have hzD : w.heap.size + 3 < w1.heap.size := by omega))
  refine (next_to (n := 2) steps_run _ (by simp) ?_ rfl).mono ?_
  · refine .inr ⟨_, 0, rfl, ?_⟩
    intro i hi
    match i, hi with
    | 0, _ => constructor <;> simp
    | 1, _ => constructor <;> simp
  rintro e w1 ⟨rfl, h1⟩
  obtain ⟨hc1, hf1, hz1⟩ := ext_facts h1; (try simp at hz1); (try have hzA : w.heap.size < w1.heap.size := by omega); (try have hzB : w.heap.size + 1 < w1.heap.size := by omega); (try have hzC : w.heap.size + 2 < w1.heap.size := by omega); (try have hzD : w.heap.size + 3 < w1.heap.size := by omega)
  go_wp2
  all_goals go_ret
  all_goals exact ⟨rfl, (by with_reducible repeat (first | exact Ext.refl _ | assumption | apply Ext.drew | apply Ext.drewN | apply Ext.alloc | (refine Ext.setCell ?_ ?_ _; rotate_left; (focus (first | (simp; done) | (simp; omega) | omega))) | refine Ext.trans ?_ (by assumption)))⟩
end Go.Proofs.Ytpkgeailbifnjaa
