/- The walk of the reference's NextStatus, which calls itself. -/
import Derived.Test.YtpkgeailbifnjaaStageW6
set_option linter.all false
namespace Go.Proofs.Ytpkgeailbifnjaa
open Go.RowKit

def Fits (im : ByteArray) (xs : List (Int × Int)) (s : St) (now order : Int) : Prop :=
  goodSpecB im xs = true ∧ goodStB s = true ∧ 0 ≤ now ∧ now ≤ 1099511627776 ∧ 0 ≤ order ∧ order ≤ 3

set_option maxRecDepth 100000 in
set_option maxHeartbeats 4000000 in
theorem nextStatus_early (im : ByteArray) (a : Option Addr) (cap : Nat) (xs : List (Int × Int)) (s : St) (now order : Int) (w : World) (hl : xs.length ≤ 9223372036854775807) (hs : StepsIn w a xs)
    (hL : goodSpecB im xs = false ∨ goodStB s = false ∨ now < 0 ∨ 1099511627776 < now ∨ order < 0 ∨ 3 < order) :
    Calls Try.prog 11 #[.agg #[.string im, .slice a xs.length cap], .agg #[.string s.sb, .string s.cm, .int .i64 s.ph, .int .i64 s.sp, .int .i64 s.wt, .int .i64 s.si], .int .i64 now, .int .i64 order] w fun e w' => e = .returned (.tuple #[(nextSt im xs s now order).1.val, .int .i64 (nextSt im xs s now order).2]) ∧ Ext w w' := by
  obtain ⟨sb, cm, ph, sp, wt, si⟩ := s
  have HL := Lib.hid hL
  clear hL
  by_cases hG : goodSpecB im xs = true
  · by_cases hT : goodStB ⟨sb, cm, ph, sp, wt, si⟩ = true
    · by_cases hn : 0 ≤ now ∧ now ≤ 1099511627776
      · obtain ⟨hn0, hn1⟩ := hn
        by_cases ho : order < 0
        · go_enter Try.func11, Try.ntmps11
          go_wp2_with (first | (go_at_call 24; (with_reducible refine (isSpec_any _ _ _ _ _ hl (hs.ext (by with_reducible repeat (first | exact Ext.refl _ | assumption | apply Ext.drew | apply Ext.drewN | apply Ext.alloc | (refine Ext.setCell ?_ ?_ _; rotate_left; (focus (first | (simp; done) | (simp; omega) | omega))) | refine Ext.trans ?_ (by assumption))))).mono ?_); rintro e w1 ⟨rfl, h1⟩; obtain ⟨hc1, hf1, hz1⟩ := ext_facts h1; (try simp at hz1); (try have hzA : w.heap.size < w1.heap.size := by omega); (try have hzB : w.heap.size + 1 < w1.heap.size := by omega); (try have hzC : w.heap.size + 2 < w1.heap.size := by omega); (try have hzD : w.heap.size + 3 < w1.heap.size := by omega)) | (go_at_call 25; (with_reducible refine (isStatus_any ⟨sb, cm, ph, sp, wt, si⟩ _).mono ?_); rintro e w1 ⟨rfl, h1⟩; obtain ⟨hc1, hf1, hz1⟩ := ext_facts h1; (try simp at hz1); (try have hzA : w.heap.size < w1.heap.size := by omega); (try have hzB : w.heap.size + 1 < w1.heap.size := by omega); (try have hzC : w.heap.size + 2 < w1.heap.size := by omega); (try have hzD : w.heap.size + 3 < w1.heap.size := by omega)))
          (with_reducible apply bp_ret); (focus (go_light; simp [results, Try.results11, go_sem, *]; rfl))
          refine ⟨ret_st ?_, (by with_reducible repeat (first | exact Ext.refl _ | assumption | apply Ext.drew | apply Ext.drewN | apply Ext.alloc | (refine Ext.setCell ?_ ?_ _; rotate_left; (focus (first | (simp; done) | (simp; omega) | omega))) | refine Ext.trans ?_ (by assumption)))⟩
          go_light
          simp only [nextSt]
          grind
        · have ho2 : 3 < order := by
            have := HL.out
            simp only [hG, hT] at this
            grind
          go_enter Try.func11, Try.ntmps11
          go_wp2_with (first | (go_at_call 24; (with_reducible refine (isSpec_any _ _ _ _ _ hl (hs.ext (by with_reducible repeat (first | exact Ext.refl _ | assumption | apply Ext.drew | apply Ext.drewN | apply Ext.alloc | (refine Ext.setCell ?_ ?_ _; rotate_left; (focus (first | (simp; done) | (simp; omega) | omega))) | refine Ext.trans ?_ (by assumption))))).mono ?_); rintro e w1 ⟨rfl, h1⟩; obtain ⟨hc1, hf1, hz1⟩ := ext_facts h1; (try simp at hz1); (try have hzA : w.heap.size < w1.heap.size := by omega); (try have hzB : w.heap.size + 1 < w1.heap.size := by omega); (try have hzC : w.heap.size + 2 < w1.heap.size := by omega); (try have hzD : w.heap.size + 3 < w1.heap.size := by omega)) | (go_at_call 25; (with_reducible refine (isStatus_any ⟨sb, cm, ph, sp, wt, si⟩ _).mono ?_); rintro e w1 ⟨rfl, h1⟩; obtain ⟨hc1, hf1, hz1⟩ := ext_facts h1; (try simp at hz1); (try have hzA : w.heap.size < w1.heap.size := by omega); (try have hzB : w.heap.size + 1 < w1.heap.size := by omega); (try have hzC : w.heap.size + 2 < w1.heap.size := by omega); (try have hzD : w.heap.size + 3 < w1.heap.size := by omega)))
          (with_reducible apply bp_ret); (focus (go_light; simp [results, Try.results11, go_sem, *]; rfl))
          refine ⟨ret_st ?_, (by with_reducible repeat (first | exact Ext.refl _ | assumption | apply Ext.drew | apply Ext.drewN | apply Ext.alloc | (refine Ext.setCell ?_ ?_ _; rotate_left; (focus (first | (simp; done) | (simp; omega) | omega))) | refine Ext.trans ?_ (by assumption)))⟩
          go_light
          simp only [nextSt]
          grind
      · by_cases hn0 : now < 0
        · go_enter Try.func11, Try.ntmps11
          go_wp2_with (first | (go_at_call 24; (with_reducible refine (isSpec_any _ _ _ _ _ hl (hs.ext (by with_reducible repeat (first | exact Ext.refl _ | assumption | apply Ext.drew | apply Ext.drewN | apply Ext.alloc | (refine Ext.setCell ?_ ?_ _; rotate_left; (focus (first | (simp; done) | (simp; omega) | omega))) | refine Ext.trans ?_ (by assumption))))).mono ?_); rintro e w1 ⟨rfl, h1⟩; obtain ⟨hc1, hf1, hz1⟩ := ext_facts h1; (try simp at hz1); (try have hzA : w.heap.size < w1.heap.size := by omega); (try have hzB : w.heap.size + 1 < w1.heap.size := by omega); (try have hzC : w.heap.size + 2 < w1.heap.size := by omega); (try have hzD : w.heap.size + 3 < w1.heap.size := by omega)) | (go_at_call 25; (with_reducible refine (isStatus_any ⟨sb, cm, ph, sp, wt, si⟩ _).mono ?_); rintro e w1 ⟨rfl, h1⟩; obtain ⟨hc1, hf1, hz1⟩ := ext_facts h1; (try simp at hz1); (try have hzA : w.heap.size < w1.heap.size := by omega); (try have hzB : w.heap.size + 1 < w1.heap.size := by omega); (try have hzC : w.heap.size + 2 < w1.heap.size := by omega); (try have hzD : w.heap.size + 3 < w1.heap.size := by omega)))
          (with_reducible apply bp_ret); (focus (go_light; simp [results, Try.results11, go_sem, *]; rfl))
          refine ⟨ret_st ?_, (by with_reducible repeat (first | exact Ext.refl _ | assumption | apply Ext.drew | apply Ext.drewN | apply Ext.alloc | (refine Ext.setCell ?_ ?_ _; rotate_left; (focus (first | (simp; done) | (simp; omega) | omega))) | refine Ext.trans ?_ (by assumption)))⟩
          go_light
          simp only [nextSt]
          grind
        · have hn1 : 1099511627776 < now := by omega
          go_enter Try.func11, Try.ntmps11
          go_wp2_with (first | (go_at_call 24; (with_reducible refine (isSpec_any _ _ _ _ _ hl (hs.ext (by with_reducible repeat (first | exact Ext.refl _ | assumption | apply Ext.drew | apply Ext.drewN | apply Ext.alloc | (refine Ext.setCell ?_ ?_ _; rotate_left; (focus (first | (simp; done) | (simp; omega) | omega))) | refine Ext.trans ?_ (by assumption))))).mono ?_); rintro e w1 ⟨rfl, h1⟩; obtain ⟨hc1, hf1, hz1⟩ := ext_facts h1; (try simp at hz1); (try have hzA : w.heap.size < w1.heap.size := by omega); (try have hzB : w.heap.size + 1 < w1.heap.size := by omega); (try have hzC : w.heap.size + 2 < w1.heap.size := by omega); (try have hzD : w.heap.size + 3 < w1.heap.size := by omega)) | (go_at_call 25; (with_reducible refine (isStatus_any ⟨sb, cm, ph, sp, wt, si⟩ _).mono ?_); rintro e w1 ⟨rfl, h1⟩; obtain ⟨hc1, hf1, hz1⟩ := ext_facts h1; (try simp at hz1); (try have hzA : w.heap.size < w1.heap.size := by omega); (try have hzB : w.heap.size + 1 < w1.heap.size := by omega); (try have hzC : w.heap.size + 2 < w1.heap.size := by omega); (try have hzD : w.heap.size + 3 < w1.heap.size := by omega)))
          (with_reducible apply bp_ret); (focus (go_light; simp [results, Try.results11, go_sem, *]; rfl))
          refine ⟨ret_st ?_, (by with_reducible repeat (first | exact Ext.refl _ | assumption | apply Ext.drew | apply Ext.drewN | apply Ext.alloc | (refine Ext.setCell ?_ ?_ _; rotate_left; (focus (first | (simp; done) | (simp; omega) | omega))) | refine Ext.trans ?_ (by assumption)))⟩
          go_light
          simp only [nextSt]
          grind
    · have hT' : goodStB ⟨sb, cm, ph, sp, wt, si⟩ = false := by simpa using hT
      clear hT
      go_enter Try.func11, Try.ntmps11
      go_wp2_with (first | (go_at_call 24; (with_reducible refine (isSpec_any _ _ _ _ _ hl (hs.ext (by with_reducible repeat (first | exact Ext.refl _ | assumption | apply Ext.drew | apply Ext.drewN | apply Ext.alloc | (refine Ext.setCell ?_ ?_ _; rotate_left; (focus (first | (simp; done) | (simp; omega) | omega))) | refine Ext.trans ?_ (by assumption))))).mono ?_); rintro e w1 ⟨rfl, h1⟩; obtain ⟨hc1, hf1, hz1⟩ := ext_facts h1; (try simp at hz1); (try have hzA : w.heap.size < w1.heap.size := by omega); (try have hzB : w.heap.size + 1 < w1.heap.size := by omega); (try have hzC : w.heap.size + 2 < w1.heap.size := by omega); (try have hzD : w.heap.size + 3 < w1.heap.size := by omega)) | (go_at_call 25; (with_reducible refine (isStatus_any ⟨sb, cm, ph, sp, wt, si⟩ _).mono ?_); rintro e w1 ⟨rfl, h1⟩; obtain ⟨hc1, hf1, hz1⟩ := ext_facts h1; (try simp at hz1); (try have hzA : w.heap.size < w1.heap.size := by omega); (try have hzB : w.heap.size + 1 < w1.heap.size := by omega); (try have hzC : w.heap.size + 2 < w1.heap.size := by omega); (try have hzD : w.heap.size + 3 < w1.heap.size := by omega)))
      (with_reducible apply bp_ret); (focus (go_light; simp [results, Try.results11, go_sem, *]; rfl))
      refine ⟨ret_st ?_, (by with_reducible repeat (first | exact Ext.refl _ | assumption | apply Ext.drew | apply Ext.drewN | apply Ext.alloc | (refine Ext.setCell ?_ ?_ _; rotate_left; (focus (first | (simp; done) | (simp; omega) | omega))) | refine Ext.trans ?_ (by assumption)))⟩
      go_light
      simp only [nextSt]
      grind
  · have hG' : goodSpecB im xs = false := by simpa using hG
    clear hG
    go_enter Try.func11, Try.ntmps11
    go_wp2_with (first | (go_at_call 24; (with_reducible refine (isSpec_any _ _ _ _ _ hl (hs.ext (by with_reducible repeat (first | exact Ext.refl _ | assumption | apply Ext.drew | apply Ext.drewN | apply Ext.alloc | (refine Ext.setCell ?_ ?_ _; rotate_left; (focus (first | (simp; done) | (simp; omega) | omega))) | refine Ext.trans ?_ (by assumption))))).mono ?_); rintro e w1 ⟨rfl, h1⟩; obtain ⟨hc1, hf1, hz1⟩ := ext_facts h1; (try simp at hz1); (try have hzA : w.heap.size < w1.heap.size := by omega); (try have hzB : w.heap.size + 1 < w1.heap.size := by omega); (try have hzC : w.heap.size + 2 < w1.heap.size := by omega); (try have hzD : w.heap.size + 3 < w1.heap.size := by omega)) | (go_at_call 25; (with_reducible refine (isStatus_any ⟨sb, cm, ph, sp, wt, si⟩ _).mono ?_); rintro e w1 ⟨rfl, h1⟩; obtain ⟨hc1, hf1, hz1⟩ := ext_facts h1; (try simp at hz1); (try have hzA : w.heap.size < w1.heap.size := by omega); (try have hzB : w.heap.size + 1 < w1.heap.size := by omega); (try have hzC : w.heap.size + 2 < w1.heap.size := by omega); (try have hzD : w.heap.size + 3 < w1.heap.size := by omega)))
    (with_reducible apply bp_ret); (focus (go_light; simp [results, Try.results11, go_sem, *]; rfl))
    refine ⟨ret_st ?_, (by with_reducible repeat (first | exact Ext.refl _ | assumption | apply Ext.drew | apply Ext.drewN | apply Ext.alloc | (refine Ext.setCell ?_ ?_ _; rotate_left; (focus (first | (simp; done) | (simp; omega) | omega))) | refine Ext.trans ?_ (by assumption)))⟩
    go_light
    simp only [nextSt]
    grind

set_option maxRecDepth 100000 in
set_option maxHeartbeats 8000000 in
theorem nextStatus_out (im : ByteArray) (a : Option Addr) (cap : Nat) (xs : List (Int × Int)) (now : Int) (hl : xs.length ≤ 9223372036854775807) (hG : goodSpecB im xs = true) (hn0 : 0 ≤ now) (hn1 : now ≤ 1099511627776)
    : ∀ (sb cm : ByteArray) (ph sp wt si order : Int) (w : World), StepsIn w a xs → ¬ sp.toNat < xs.length → goodStB ⟨sb, cm, ph, sp, wt, si⟩ = true → 0 ≤ order → order ≤ 3 → im.toList = cm.toList →
  Calls Try.prog 11 #[.agg #[.string im, .slice a xs.length cap], .agg #[.string sb, .string cm, .int .i64 ph, .int .i64 sp, .int .i64 wt, .int .i64 si], .int .i64 now, .int .i64 order] w fun e w' => e = .returned (.tuple #[(nextSt im xs ⟨sb, cm, ph, sp, wt, si⟩ now order).1.val, .int .i64 (nextSt im xs ⟨sb, cm, ph, sp, wt, si⟩ now order).2]) ∧ Ext w w' := by
  intro sb cm ph sp wt si order w hs hlt hT ho0 ho1 hcm
  obtain rfl := toList_inj hcm
  clear hcm
  have hT' := hT
  simp only [goodStB, decide_eq_true_eq] at hT'
  obtain ⟨hb1, hb2, hp0, hp8, hw0, hw1, hi0, hi1, hph, hd⟩ := hT'
  obtain ⟨k, rfl⟩ := Int.eq_ofNat_of_zero_le hp0
  have Hd := Lib.hid hd
  have Hph := Lib.hid hph
  clear hd hph hb2 hp0
  simp only [Int.toNat_natCast] at hlt
  go_enter Try.func11, Try.ntmps11
  go_wp2_with (first | (go_at_call 24; (with_reducible refine (isSpec_any _ _ _ _ _ hl (hs.ext (by with_reducible repeat (first | exact Ext.refl _ | assumption | apply Ext.drew | apply Ext.drewN | apply Ext.alloc | (refine Ext.setCell ?_ ?_ _; rotate_left; (focus (first | (simp; done) | (simp; omega) | omega))) | refine Ext.trans ?_ (by assumption))))).mono ?_); rintro e w1 ⟨rfl, h1⟩; obtain ⟨hc1, hf1, hz1⟩ := ext_facts h1; (try simp at hz1); (try have hzA : w.heap.size < w1.heap.size := by omega); (try have hzB : w.heap.size + 1 < w1.heap.size := by omega); (try have hzC : w.heap.size + 2 < w1.heap.size := by omega); (try have hzD : w.heap.size + 3 < w1.heap.size := by omega)) | (go_at_call 25; (with_reducible refine (isStatus_any ⟨sb, im, ph, k, wt, si⟩ _).mono ?_); rintro e w1 ⟨rfl, h1⟩; obtain ⟨hc1, hf1, hz1⟩ := ext_facts h1; (try simp at hz1); (try have hzA : w.heap.size < w1.heap.size := by omega); (try have hzB : w.heap.size + 1 < w1.heap.size := by omega); (try have hzC : w.heap.size + 2 < w1.heap.size := by omega); (try have hzD : w.heap.size + 3 < w1.heap.size := by omega)) | (go_at_call 27; (with_reducible refine (healthy_any _ _).mono ?_); rintro e w1 ⟨rfl, h1⟩; obtain ⟨hc1, hf1, hz1⟩ := ext_facts h1; (try simp at hz1); (try have hzA : w.heap.size < w1.heap.size := by omega); (try have hzB : w.heap.size + 1 < w1.heap.size := by omega); (try have hzC : w.heap.size + 2 < w1.heap.size := by omega); (try have hzD : w.heap.size + 3 < w1.heap.size := by omega)))
  all_goals
    ((with_reducible apply bp_ret); (focus (go_light; simp [results, Try.results11, go_sem, *]; rfl))
     refine ⟨ret_st ?_, (by with_reducible repeat (first | exact Ext.refl _ | assumption | apply Ext.drew | apply Ext.drewN | apply Ext.alloc | (refine Ext.setCell ?_ ?_ _; rotate_left; (focus (first | (simp; done) | (simp; omega) | omega))) | refine Ext.trans ?_ (by assumption)))⟩
     have := Hd.out
     have := Hph.out
     go_light
     have hr := run_out (xs := xs) (now := now) (s := ⟨sb, im, ph, k, wt, si⟩) (o := order) (by simpa using hlt)
     simp only [nextSt, comingSt, doneSt, if_true, hG, hT] at hr ⊢
     grind)

end Go.Proofs.Ytpkgeailbifnjaa
