/- The walks of package stage and of its reference, function by function: the specs. -/
import Derived.Test.YtpkgeailbifnjaaStageW1
set_option linter.all false
namespace Go.Proofs.Ytpkgeailbifnjaa
open Go.RowKit

theorem badStep_any (wt p : Int) (w : World) : Calls Try.prog 29 #[.agg #[.int .i64 wt, .int .i64 p]] w fun e w' => e = .returned (.bool (!goodStepB wt p)) ∧ Ext w w' := by
  go_enter Try.func29, Try.ntmps29
  go_wp2_with (go_at_call 22; (with_reducible refine (goodStep_any _ _ _).mono ?_); rintro e w1 ⟨rfl, h1⟩; obtain ⟨hc1, hf1, hz1⟩ := ext_facts h1; (try simp at hz1); (try have hzA : w.heap.size < w1.heap.size := by omega); (try have hzB : w.heap.size + 1 < w1.heap.size := by omega); (try have hzC : w.heap.size + 2 < w1.heap.size := by omega); (try have hzD : w.heap.size + 3 < w1.heap.size := by omega))
  go_ret
  exact ⟨rfl, (by with_reducible repeat (first | exact Ext.refl _ | assumption | apply Ext.drew | apply Ext.drewN | apply Ext.alloc | (refine Ext.setCell ?_ ?_ _; rotate_left; (focus (first | (simp; done) | (simp; omega) | omega))) | refine Ext.trans ?_ (by assumption)))⟩

/-- The steps lie behind a slice's address. -/
def StepsIn (w : World) (a : Option Addr) (xs : List (Int × Int)) : Prop :=
  xs = [] ∨ ∃ b o, a = some ⟨b, o, none⟩ ∧ ∀ i, i < xs.length → w.cell? ⟨b, o + i * 2, none⟩ = some (.int .i64 (xs.getD i (0, 0)).1) ∧ w.cell? ⟨b, o + i * 2 + 1, none⟩ = some (.int .i64 (xs.getD i (0, 0)).2)
theorem StepsIn.ext {w w' : World} {a : Option Addr} {xs : List (Int × Int)} (h : StepsIn w a xs) (e : Ext w w') : StepsIn w' a xs := by
  rcases h with h | ⟨b, o, h, k⟩
  · exact .inl h
  · exact .inr ⟨b, o, h, fun i hi => ⟨e.cell (k i hi).1, e.cell (k i hi).2⟩⟩

theorem stepsB_take {xs : List (Int × Int)} {k : Nat} (h : k < xs.length) (h0 : stepsB (xs.take k) = true) (h1 : goodStepB xs[k].1 xs[k].2 = true) : stepsB (xs.take (k + 1)) = true := by
  rw [List.take_succ_eq_append_getElem h]
  simp only [stepsB, List.all_append, List.all_cons, List.all_nil, Bool.and_true, Bool.and_eq_true]
  exact ⟨h0, h1⟩
theorem stepsB_bad {xs : List (Int × Int)} {k : Nat} (h : k < xs.length) (h1 : goodStepB xs[k].1 xs[k].2 = false) : stepsB xs = false := by
  simp only [stepsB, List.all_eq_false]
  exact ⟨xs[k], List.getElem_mem h, by simp [h1]⟩

/-- 'slices.IndexFunc' at the steps: below nought just where all are good. -/
theorem idxSteps_any (a : Option Addr) (cap : Nat) (xs : List (Int × Int)) (w : World) (hl : xs.length ≤ 9223372036854775807) (hs : StepsIn w a xs) :
    Calls Try.prog 34 #[.slice a xs.length cap, .func (.func 29) #[] #[]] w fun e w' => ∃ n : Int, e = .returned (.int .i64 n) ∧ decide (0 ≤ n) = !stepsB xs ∧ Ext w w' := by
  rcases hs with rfl | ⟨b, o, rfl, hc⟩
  · go_enter Try.func34, Try.ntmps34
    go_wp2
    refine wp_loop_rounds 1 ?_; rw [rounds_succ]
    go_wp2
    go_ret
    exact ⟨_, rfl, by simp [stepsB], Ext.refl _⟩
  · go_enter Try.func34, Try.ntmps34
    go_wp2
    go_loopg [5, 8] xs.length (fun g _ i wr => ∃ k : Nat, k ≤ xs.length ∧ i = .int .i64 k ∧ g = xs.length - k ∧ stepsB (xs.take k) = true ∧ Ext w wr)
    case atStart => exact ⟨0, by omega, rfl, rfl, rfl, Ext.refl _⟩
    case round =>
      obtain ⟨k, hk, rfl, rfl, hg, hx⟩ := hrel
      have Hg := Lib.hid hg
      clear hg
      by_cases hlt : k < xs.length
      · obtain ⟨c0, c1⟩ := hc k hlt
        have c0 := hx.cell c0
        have c1 := hx.cell c1
        clear hc
        go_wp2_with (go_at_call 29; (with_reducible refine (badStep_any _ _ _).mono ?_); rintro e w1 ⟨rfl, h1⟩; obtain ⟨hc1, hf1, hz1⟩ := ext_facts h1; (try simp at hz1); (try have hzA : w.heap.size < w1.heap.size := by omega); (try have hzB : w.heap.size + 1 < w1.heap.size := by omega); (try have hzC : w.heap.size + 2 < w1.heap.size := by omega); (try have hzD : w.heap.size + 3 < w1.heap.size := by omega))
        · go_ret
          go_light
          have h1 : goodStepB xs[k].1 xs[k].2 = false := by simp_all
          exact ⟨_, rfl, by rw [stepsB_bad hlt h1]; simp, (by with_reducible repeat (first | exact Ext.refl _ | assumption | apply Ext.drew | apply Ext.drewN | apply Ext.alloc | (refine Ext.setCell ?_ ?_ _; rotate_left; (focus (first | (simp; done) | (simp; omega) | omega))) | refine Ext.trans ?_ (by assumption)))⟩
        · have h1 : goodStepB xs[k].1 xs[k].2 = true := by simp_all
          go_roundg (xs.length - (k + 1))
          case measure => omega
          case rel => exact ⟨k + 1, by omega, by go_num, rfl, stepsB_take hlt Hg.out h1, (by with_reducible repeat (first | exact Ext.refl _ | assumption | apply Ext.drew | apply Ext.drewN | apply Ext.alloc | (refine Ext.setCell ?_ ?_ _; rotate_left; (focus (first | (simp; done) | (simp; omega) | omega))) | refine Ext.trans ?_ (by assumption)))⟩
      · go_wp2
        go_ret
        have hk2 : k = xs.length := by omega
        refine ⟨_, rfl, ?_, hx⟩
        have := Hg.out
        rw [List.take_of_length_le (by omega)] at this
        rw [this]
        simp

end Go.Proofs.Ytpkgeailbifnjaa
