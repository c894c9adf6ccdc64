/- The walks of package stage and of its reference, function by function: a spec is one. -/
import Derived.Test.YtpkgeailbifnjaaStageW2
set_option linter.all false
namespace Go.Proofs.Ytpkgeailbifnjaa
open Go.RowKit

theorem hasBad_any (a : Option Addr) (cap : Nat) (xs : List (Int × Int)) (w : World) (hl : xs.length ≤ 9223372036854775807) (hs : StepsIn w a xs) :
    Calls Try.prog 28 #[.slice a xs.length cap, .func (.func 29) #[] #[]] w fun e w' => e = .returned (.bool (!stepsB xs)) ∧ Ext w w' := by
  go_enter Try.func28, Try.ntmps28
  go_wp2_with (go_at_call 34; refine (idxSteps_any _ _ _ _ hl hs).mono ?_; rintro e w1 ⟨n, rfl, hn, h1⟩; have Hn := Lib.hid hn; clear hn)
  go_ret
  exact ⟨ret_bool Hn.out, (by with_reducible repeat (first | exact Ext.refl _ | assumption | apply Ext.drew | apply Ext.drewN | apply Ext.alloc | (refine Ext.setCell ?_ ?_ _; rotate_left; (focus (first | (simp; done) | (simp; omega) | omega))) | refine Ext.trans ?_ (by assumption)))⟩

theorem goodSpec_any (im : ByteArray) (a : Option Addr) (cap : Nat) (xs : List (Int × Int)) (w : World) (hl : xs.length ≤ 9223372036854775807) (hs : StepsIn w a xs) :
    Calls Try.prog 15 #[.agg #[.string im, .slice a xs.length cap]] w fun e w' => e = .returned (.bool (goodSpecB im xs)) ∧ Ext w w' := by
  go_enter Try.func15, Try.ntmps15
  go_wp2_with (go_at_call 28; (with_reducible refine (hasBad_any _ _ _ _ hl (hs.ext (by with_reducible repeat (first | exact Ext.refl _ | assumption | apply Ext.drew | apply Ext.drewN | apply Ext.alloc | (refine Ext.setCell ?_ ?_ _; rotate_left; (focus (first | (simp; done) | (simp; omega) | omega))) | refine Ext.trans ?_ (by assumption))))).mono ?_); rintro e w1 ⟨rfl, h1⟩; obtain ⟨hc1, hf1, hz1⟩ := ext_facts h1; (try simp at hz1); (try have hzA : w.heap.size < w1.heap.size := by omega); (try have hzB : w.heap.size + 1 < w1.heap.size := by omega); (try have hzC : w.heap.size + 2 < w1.heap.size := by omega); (try have hzD : w.heap.size + 3 < w1.heap.size := by omega))
  all_goals go_ret
  all_goals refine ⟨ret_bool ?_, (by with_reducible repeat (first | exact Ext.refl _ | assumption | apply Ext.drew | apply Ext.drewN | apply Ext.alloc | (refine Ext.setCell ?_ ?_ _; rotate_left; (focus (first | (simp; done) | (simp; omega) | omega))) | refine Ext.trans ?_ (by assumption)))⟩
  all_goals go_light
  all_goals simp only [goodSpecB]
  all_goals grind

theorem isSpec_any (im : ByteArray) (a : Option Addr) (cap : Nat) (xs : List (Int × Int)) (w : World) (hl : xs.length ≤ 9223372036854775807) (hs : StepsIn w a xs) :
    Calls Try.prog 24 #[.agg #[.string im, .slice a xs.length cap]] w fun e w' => e = .returned (.bool (goodSpecB im xs)) ∧ Ext w w' := by
  by_cases hn : xs = []
  · subst hn
    go_enter Try.func24, Try.ntmps24
    go_wp2
    refine wp_loop_rounds 1 ?_; rw [rounds_succ]
    go_wp2
    all_goals go_ret
    all_goals refine ⟨ret_bool ?_, (by with_reducible repeat (first | exact Ext.refl _ | assumption | apply Ext.drew | apply Ext.drewN | apply Ext.alloc | (refine Ext.setCell ?_ ?_ _; rotate_left; (focus (first | (simp; done) | (simp; omega) | omega))) | refine Ext.trans ?_ (by assumption)))⟩
    all_goals go_light
    all_goals simp only [goodSpecB, stepsB]
    all_goals grind
  · obtain ⟨b, o, rfl, hc⟩ := hs.resolve_left hn
    clear hs hn
    go_enter Try.func24, Try.ntmps24
    go_wp2
    go_loopg [4, 8] xs.length (fun g _ i wr => ∃ k : Nat, k ≤ xs.length ∧ i = .int .i64 k ∧ g = xs.length - k ∧ stepsB (xs.take k) = true ∧ wr.cell? ⟨w.heap.size, 0, none⟩ = some (.string im) ∧ wr.cell? ⟨w.heap.size, 1, none⟩ = some (.slice (some ⟨b, o, none⟩) xs.length cap) ∧ Ext w wr ∧ w.heap.size < wr.heap.size)
    case atStart => exact ⟨0, by omega, rfl, rfl, rfl, by simp, by simp, (by with_reducible repeat (first | exact Ext.refl _ | assumption | apply Ext.drew | apply Ext.drewN | apply Ext.alloc | (refine Ext.setCell ?_ ?_ _; rotate_left; (focus (first | (simp; done) | (simp; omega) | omega))) | refine Ext.trans ?_ (by assumption))), by simp⟩
    case round =>
      obtain ⟨k, hk, rfl, rfl, hg, hb0, hb1, hx, hz⟩ := hrel
      have Hg := Lib.hid hg
      clear hg
      by_cases hlt : k < xs.length
      · obtain ⟨c0, c1⟩ := hc k hlt
        have c0 := hx.cell c0
        have c1 := hx.cell c1
        clear hc
        go_wp2_with (go_at_call 23; (with_reducible refine (isStep_any _ _ _).mono ?_); rintro e w1 ⟨rfl, h1⟩; obtain ⟨hc1, hf1, hz1⟩ := ext_facts h1; (try simp at hz1); (try have hzA : w.heap.size < w1.heap.size := by omega); (try have hzB : w.heap.size + 1 < w1.heap.size := by omega); (try have hzC : w.heap.size + 2 < w1.heap.size := by omega); (try have hzD : w.heap.size + 3 < w1.heap.size := by omega))
        · go_ret
          go_light
          have h1 : goodStepB xs[k].1 xs[k].2 = false := by simp_all
          exact ⟨ret_bool (by simp [goodSpecB, stepsB_bad hlt h1]), (by with_reducible repeat (first | exact Ext.refl _ | assumption | apply Ext.drew | apply Ext.drewN | apply Ext.alloc | (refine Ext.setCell ?_ ?_ _; rotate_left; (focus (first | (simp; done) | (simp; omega) | omega))) | refine Ext.trans ?_ (by assumption)))⟩
        · have h1 : goodStepB xs[k].1 xs[k].2 = true := by simp_all
          go_roundg (xs.length - (k + 1))
          case measure => omega
          case rel => exact ⟨k + 1, by omega, by go_num, rfl, stepsB_take hlt Hg.out h1, Ext.cell (a := wr) (by with_reducible repeat (first | exact Ext.refl _ | assumption | apply Ext.drew | apply Ext.drewN | apply Ext.alloc | (refine Ext.setCell ?_ ?_ _; rotate_left; (focus (first | (simp; done) | (simp; omega) | omega))) | refine Ext.trans ?_ (by assumption))) hb0, Ext.cell (a := wr) (by with_reducible repeat (first | exact Ext.refl _ | assumption | apply Ext.drew | apply Ext.drewN | apply Ext.alloc | (refine Ext.setCell ?_ ?_ _; rotate_left; (focus (first | (simp; done) | (simp; omega) | omega))) | refine Ext.trans ?_ (by assumption))) hb1, (by with_reducible repeat (first | exact Ext.refl _ | assumption | apply Ext.drew | apply Ext.drewN | apply Ext.alloc | (refine Ext.setCell ?_ ?_ _; rotate_left; (focus (first | (simp; done) | (simp; omega) | omega))) | refine Ext.trans ?_ (by assumption))), Nat.lt_of_lt_of_le hz (Ext.size (a := wr) (by with_reducible repeat (first | exact Ext.refl _ | assumption | apply Ext.drew | apply Ext.drewN | apply Ext.alloc | (refine Ext.setCell ?_ ?_ _; rotate_left; (focus (first | (simp; done) | (simp; omega) | omega))) | refine Ext.trans ?_ (by assumption))))⟩
      · have hk2 : k = xs.length := by omega
        have hst : stepsB xs = true := by have := Hg.out; rwa [List.take_of_length_le (by omega)] at this
        have Hst := Lib.hid hst
        clear hst hk2
        go_wp2
        all_goals go_ret
        all_goals go_light
        all_goals refine ⟨ret_bool ?_, (by with_reducible repeat (first | exact Ext.refl _ | assumption | apply Ext.drew | apply Ext.drewN | apply Ext.alloc | (refine Ext.setCell ?_ ?_ _; rotate_left; (focus (first | (simp; done) | (simp; omega) | omega))) | refine Ext.trans ?_ (by assumption)))⟩
        all_goals simp only [goodSpecB, Hst.out]
        all_goals grind

end Go.Proofs.Ytpkgeailbifnjaa
