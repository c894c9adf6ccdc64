/- The walk of the reference's NextStatus, which calls itself: the ways that fit. -/
import Derived.Test.YtpkgeailbifnjaaStageW7
set_option linter.all false
namespace Go.Proofs.Ytpkgeailbifnjaa
open Go.RowKit

set_option maxRecDepth 100000 in
set_option maxHeartbeats 8000000 in
theorem nextStatus_one (im : ByteArray) (a : Option Addr) (cap : Nat) (xs : List (Int × Int)) (now : Int) (hl : xs.length ≤ 9223372036854775807) (hG : goodSpecB im xs = true) (hn0 : 0 ≤ now) (hn1 : now ≤ 1099511627776)
    : ∀ (sb cm : ByteArray) (ph wt si order : Int) (k : Nat) (w : World), StepsIn w a xs → (hlt : k < xs.length) → goodStB ⟨sb, cm, ph, k, wt, si⟩ = true → 0 ≤ order → order ≤ 3 → im.toList = cm.toList →
  Hid (∀ (sb cm : ByteArray) (wt order : Int) (w : World), StepsIn w a xs → goodStB ⟨sb, cm, 2, (k : Int) + 1, wt, 0⟩ = true → 0 ≤ order → order ≤ 3 → im.toList = cm.toList →
    Calls Try.prog 11 #[.agg #[.string im, .slice a xs.length cap], .agg #[.string sb, .string cm, .int .i64 2, .int .i64 ((k : Int) + 1), .int .i64 wt, .int .i64 0], .int .i64 now, .int .i64 order] w fun e w' => e = .returned (.tuple #[(nextSt im xs ⟨sb, cm, 2, (k : Int) + 1, wt, 0⟩ now order).1.val, .int .i64 (nextSt im xs ⟨sb, cm, 2, (k : Int) + 1, wt, 0⟩ now order).2]) ∧ Ext w w') →
  Calls Try.prog 11 #[.agg #[.string im, .slice a xs.length cap], .agg #[.string sb, .string cm, .int .i64 ph, .int .i64 k, .int .i64 wt, .int .i64 si], .int .i64 now, .int .i64 order] w fun e w' => e = .returned (.tuple #[(nextSt im xs ⟨sb, cm, ph, k, wt, si⟩ now order).1.val, .int .i64 (nextSt im xs ⟨sb, cm, ph, k, wt, si⟩ now order).2]) ∧ Ext w w' := by
  intro sb cm ph wt si order k w hs hlt hT ho0 ho1 hcm Ih
  obtain rfl := toList_inj hcm
  clear hcm
  have hT' := hT
  simp only [goodStB, decide_eq_true_eq] at hT'
  obtain ⟨hb1, hb2, hp0, hp8, hw0, hw1, hi0, hi1, hph, hd⟩ := hT'
  have Hd := Lib.hid hd
  have Hph := Lib.hid hph
  have hgs := step_good hG hlt
  have Hgs := Lib.hid hgs
  clear hd hph hp0 hgs
  have Hb2 := Lib.hid hb2
  clear hb2
  obtain ⟨b, o, rfl, hc⟩ : ∃ b o, a = some ⟨b, o, none⟩ ∧ ∀ i, i < xs.length → w.cell? ⟨b, o + i * 2, none⟩ = some (.int .i64 (xs.getD i (0, 0)).1) ∧ w.cell? ⟨b, o + i * 2 + 1, none⟩ = some (.int .i64 (xs.getD i (0, 0)).2) := hs.resolve_left (by intro e; subst e; simp at hlt)
  obtain ⟨d0, d1⟩ := hc k hlt
  clear hc
  go_enter Try.func11, Try.ntmps11
  go_wp2_with (first | (go_at_call 24; (with_reducible refine (isSpec_any _ _ _ _ _ hl (hs.ext (by with_reducible repeat (first | exact Ext.refl _ | assumption | apply Ext.drew | apply Ext.drewN | apply Ext.alloc | (refine Ext.setCell ?_ ?_ _; rotate_left; (focus (first | (simp; done) | (simp; omega) | omega))) | refine Ext.trans ?_ (by assumption))))).mono ?_); rintro e w1 ⟨rfl, h1⟩; obtain ⟨hc1, hf1, hz1⟩ := ext_facts h1; (try simp at hz1); (try have hzA : w.heap.size < w1.heap.size := by omega); (try have hzB : w.heap.size + 1 < w1.heap.size := by omega); (try have hzC : w.heap.size + 2 < w1.heap.size := by omega); (try have hzD : w.heap.size + 3 < w1.heap.size := by omega); have e0 := Ext.cell (a := w) (b := w1) (by with_reducible repeat (first | exact Ext.refl _ | assumption | apply Ext.drew | apply Ext.drewN | apply Ext.alloc | (refine Ext.setCell ?_ ?_ _; rotate_left; (focus (first | (simp; done) | (simp; omega) | omega))) | refine Ext.trans ?_ (by assumption))) d0; have e1 := Ext.cell (a := w) (b := w1) (by with_reducible repeat (first | exact Ext.refl _ | assumption | apply Ext.drew | apply Ext.drewN | apply Ext.alloc | (refine Ext.setCell ?_ ?_ _; rotate_left; (focus (first | (simp; done) | (simp; omega) | omega))) | refine Ext.trans ?_ (by assumption))) d1) | (go_at_call 25; (with_reducible refine (isStatus_any ⟨sb, im, ph, k, wt, si⟩ _).mono ?_); rintro e w1 ⟨rfl, h1⟩; obtain ⟨hc1, hf1, hz1⟩ := ext_facts h1; (try simp at hz1); (try have hzA : w.heap.size < w1.heap.size := by omega); (try have hzB : w.heap.size + 1 < w1.heap.size := by omega); (try have hzC : w.heap.size + 2 < w1.heap.size := by omega); (try have hzD : w.heap.size + 3 < w1.heap.size := by omega); have e0 := Ext.cell (a := w) (b := w1) (by with_reducible repeat (first | exact Ext.refl _ | assumption | apply Ext.drew | apply Ext.drewN | apply Ext.alloc | (refine Ext.setCell ?_ ?_ _; rotate_left; (focus (first | (simp; done) | (simp; omega) | omega))) | refine Ext.trans ?_ (by assumption))) d0; have e1 := Ext.cell (a := w) (b := w1) (by with_reducible repeat (first | exact Ext.refl _ | assumption | apply Ext.drew | apply Ext.drewN | apply Ext.alloc | (refine Ext.setCell ?_ ?_ _; rotate_left; (focus (first | (simp; done) | (simp; omega) | omega))) | refine Ext.trans ?_ (by assumption))) d1) | (go_at_call 27; (with_reducible refine (healthy_any _ _).mono ?_); rintro e w1 ⟨rfl, h1⟩; obtain ⟨hc1, hf1, hz1⟩ := ext_facts h1; (try simp at hz1); (try have hzA : w.heap.size < w1.heap.size := by omega); (try have hzB : w.heap.size + 1 < w1.heap.size := by omega); (try have hzC : w.heap.size + 2 < w1.heap.size := by omega); (try have hzD : w.heap.size + 3 < w1.heap.size := by omega); have e0 := Ext.cell (a := w) (b := w1) (by with_reducible repeat (first | exact Ext.refl _ | assumption | apply Ext.drew | apply Ext.drewN | apply Ext.alloc | (refine Ext.setCell ?_ ?_ _; rotate_left; (focus (first | (simp; done) | (simp; omega) | omega))) | refine Ext.trans ?_ (by assumption))) d0; have e1 := Ext.cell (a := w) (b := w1) (by with_reducible repeat (first | exact Ext.refl _ | assumption | apply Ext.drew | apply Ext.drewN | apply Ext.alloc | (refine Ext.setCell ?_ ?_ _; rotate_left; (focus (first | (simp; done) | (simp; omega) | omega))) | refine Ext.trans ?_ (by assumption))) d1))
  all_goals first
    | ((with_reducible apply bp_ret); (focus (go_light; simp [results, Try.results11, go_sem, *]; rfl))
       refine ⟨ret_st ?_, (by with_reducible repeat (first | exact Ext.refl _ | assumption | apply Ext.drew | apply Ext.drewN | apply Ext.alloc | (refine Ext.setCell ?_ ?_ _; rotate_left; (focus (first | (simp; done) | (simp; omega) | omega))) | refine Ext.trans ?_ (by assumption)))⟩
       have := Hd.out
       have := Hph.out
       go_light
       have hr := run_at (xs := xs) (now := now) (s := ⟨sb, im, ph, k, wt, si⟩) (o := order) k rfl hlt
       simp only [nextSt, comingSt, doneSt, if_true, hG, hT] at hr ⊢
       grind)
    | skip
  all_goals
    have hne : sb.toList ≠ im.toList := by
      have := Hd.out
      go_light
      grind
    have Hne := Lib.hid hne
    clear hne
  all_goals
    have ho23 : order ≠ 2 ∧ order ≠ 3 := by
      go_light
      grind
    obtain ⟨ho2, ho3⟩ := ho23
    (with_reducible refine (Ih.out sb im _ _ _ ?_ ?_ ?_ ?_ rfl).mono ?_)
    case refine_1 => exact hs.ext (by with_reducible repeat (first | exact Ext.refl _ | assumption | apply Ext.drew | apply Ext.drewN | apply Ext.alloc | (refine Ext.setCell ?_ ?_ _; rotate_left; (focus (first | (simp; done) | (simp; omega) | omega))) | refine Ext.trans ?_ (by assumption)))
    case refine_2 =>
      have := Hd.out
      have := Hne.out
      have := Hb2.out
      have hh := Hgs.out
      go_light
      simp only [goodStepB, decide_eq_true_eq] at hh
      simp only [goodStB]
      grind
    case refine_3 => omega
    case refine_4 => omega
    rintro e w1 ⟨rfl, h1⟩
    obtain ⟨hc1, hf1, hz1⟩ := ext_facts h1; (try simp at hz1); (try have hzA : w.heap.size < w1.heap.size := by omega); (try have hzB : w.heap.size + 1 < w1.heap.size := by omega); (try have hzC : w.heap.size + 2 < w1.heap.size := by omega); (try have hzD : w.heap.size + 3 < w1.heap.size := by omega)
    go_wp2
    (with_reducible apply bp_ret); (focus (go_light; simp [results, Try.results11, go_sem, *]; rfl))
    refine ⟨ret_st ?_, (by with_reducible repeat (first | exact Ext.refl _ | assumption | apply Ext.drew | apply Ext.drewN | apply Ext.alloc | (refine Ext.setCell ?_ ?_ _; rotate_left; (focus (first | (simp; done) | (simp; omega) | omega))) | refine Ext.trans ?_ (by assumption)))⟩
    have := Hd.out
    have hh := Hgs.out
    go_light
    simp only [goodStepB, decide_eq_true_eq] at hh
    have e1 := fun wt o hw h0 h1 => next_rec (o := o) (now := now) (wt := wt) (sb := sb) (cm := im) hG hlt rfl Hne.out hb1 hw hn0 hn1 h0 h1
    have hr := run_at (xs := xs) (now := now) (s := ⟨sb, im, ph, k, wt, si⟩) (o := order) k rfl hlt
    rw [e1]
    case h0 => omega
    case h1 => omega
    case hw => omega
    clear e1
    have hp1 : ph ≠ 1 := by grind
    have hp4 : ph ≠ 4 := by grind
    rw [next_loops hG hT rfl hp1 hp4 hn0 hn1 ho0 (by omega), hr]
    clear hr hT
    simp only
    repeat' split
    all_goals first
      | rfl
      | (obtain rfl : order = 0 := by omega
         rfl)
      | (exfalso; grind)

end Go.Proofs.Ytpkgeailbifnjaa
