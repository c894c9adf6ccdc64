/- The walk of the reference's NextStatus: where another image is to come; and the whole. -/
import Derived.Test.YtpkgeailbifnjaaStageW8
set_option linter.all false
namespace Go.Proofs.Ytpkgeailbifnjaa
open Go.RowKit

theorem nextStatus_same (im : ByteArray) (a : Option Addr) (cap : Nat) (xs : List (Int × Int)) (now : Int) (hl : xs.length ≤ 9223372036854775807) (hG : goodSpecB im xs = true) (hn0 : 0 ≤ now) (hn1 : now ≤ 1099511627776) (n : Nat) :
    ∀ (sb cm : ByteArray) (ph sp wt si order : Int) (w : World), StepsIn w a xs → xs.length - sp.toNat ≤ n → goodStB ⟨sb, cm, ph, sp, wt, si⟩ = true → 0 ≤ order → order ≤ 3 → im.toList = cm.toList →
    Calls Try.prog 11 #[.agg #[.string im, .slice a xs.length cap], .agg #[.string sb, .string cm, .int .i64 ph, .int .i64 sp, .int .i64 wt, .int .i64 si], .int .i64 now, .int .i64 order] w fun e w' => e = .returned (.tuple #[(nextSt im xs ⟨sb, cm, ph, sp, wt, si⟩ now order).1.val, .int .i64 (nextSt im xs ⟨sb, cm, ph, sp, wt, si⟩ now order).2]) ∧ Ext w w' := by
  induction n with
  | zero => exact fun sb cm ph sp wt si order w hs hk hT ho0 ho1 hcm => nextStatus_out im a cap xs now hl hG hn0 hn1 sb cm ph sp wt si order w hs (by omega) hT ho0 ho1 hcm
  | succ n ih =>
    intro sb cm ph sp wt si order w hs hk hT ho0 ho1 hcm
    by_cases hlt : sp.toNat < xs.length
    · have hp0 : 0 ≤ sp := by simp only [goodStB, decide_eq_true_eq] at hT; exact hT.2.2.1
      obtain ⟨k, rfl⟩ := Int.eq_ofNat_of_zero_le hp0
      simp only [Int.toNat_natCast] at hlt hk
      exact nextStatus_one im a cap xs now hl hG hn0 hn1 sb cm ph wt si order k w hs hlt hT ho0 ho1 hcm
        (fun sb cm wt order w hs hT ho0 ho1 hcm => ih sb cm 2 ((k : Int) + 1) wt 0 order w hs (by omega) hT ho0 ho1 hcm)
    · exact nextStatus_out im a cap xs now hl hG hn0 hn1 sb cm ph sp wt si order w hs hlt hT ho0 ho1 hcm

theorem nextStatus_n (im : ByteArray) (a : Option Addr) (n cap : Nat) (xs : List (Int × Int)) (now : Int) (hl : xs.length ≤ 9223372036854775807) (hG : goodSpecB im xs = true) (hn0 : 0 ≤ now) (hn1 : now ≤ 1099511627776)
    (sb cm : ByteArray) (ph sp wt si order : Int) (w : World) (hs : StepsIn w a xs) (hT : goodStB ⟨sb, cm, ph, sp, wt, si⟩ = true) (ho0 : 0 ≤ order) (ho1 : order ≤ 3) (hcm : im.toList = cm.toList) (hn : n = xs.length) :
    Calls Try.prog 11 #[.agg #[.string im, .slice a n cap], .agg #[.string sb, .string cm, .int .i64 ph, .int .i64 sp, .int .i64 wt, .int .i64 si], .int .i64 now, .int .i64 order] w fun e w' => e = .returned (.tuple #[(nextSt im xs ⟨sb, cm, ph, sp, wt, si⟩ now order).1.val, .int .i64 (nextSt im xs ⟨sb, cm, ph, sp, wt, si⟩ now order).2]) ∧ Ext w w' := by
  subst hn
  exact nextStatus_same im a cap xs now hl hG hn0 hn1 _ sb cm ph sp wt si order w hs (Nat.le_refl _) hT ho0 ho1 hcm

theorem next_news {im : ByteArray} {xs : List (Int × Int)} {s : St} {now o : Int} (hG : goodSpecB im xs = true) (hT : goodStB s = true) (hcm : im.toList ≠ s.cm.toList) (hsb : im.toList ≠ s.sb.toList)
    (h0 : 0 ≤ now) (h1 : now ≤ 1099511627776) (ho0 : 0 ≤ o) (ho1 : o ≤ 1) : nextSt im xs s now o = (runSt now xs ⟨s.sb, im, 2, 0, 0, 0⟩ o, 0) := by
  simp only [nextSt, hG, hT, comingSt, if_neg hcm]
  rw [if_neg (by simp), if_neg (by omega), if_neg (by omega), if_neg (by simp [hsb]), if_neg (by simp), if_neg (by omega), if_neg (by omega)]
  rfl

theorem isSpec_n (im : ByteArray) (a : Option Addr) (n cap : Nat) (xs : List (Int × Int)) (w : World) (hl : xs.length ≤ 9223372036854775807) (hs : StepsIn w a xs) (hn : n = xs.length) :
    Calls Try.prog 24 #[.agg #[.string im, .slice a n cap]] w fun e w' => e = .returned (.bool (goodSpecB im xs)) ∧ Ext w w' := by
  subst hn; exact isSpec_any im a cap xs w hl hs
/-- The first step, and the rest. -/
theorem run_first {now : Int} {p q : Int} {r : List (Int × Int)} {s : St} {o : Int} (hp : s.ph = 2) (hs : s.sp = 0) :
    runSt now ((p, q) :: r) s o = if 0 ≤ p then runSt now r ⟨s.sb, s.cm, 2, 1, p, 0⟩ o else { s with ph := 3, si := now } := by
  rw [runSt]
  simp [hp, hs]

set_option maxRecDepth 100000 in
set_option maxHeartbeats 4000000 in
theorem nextStatus_new (im : ByteArray) (a : Option Addr) (n cap : Nat) (xs : List (Int × Int)) (now : Int) (hl : xs.length ≤ 9223372036854775807) (hG : goodSpecB im xs = true) (hn0 : 0 ≤ now) (hn1 : now ≤ 1099511627776)
    (sb cm : ByteArray) (ph sp wt si order : Int) (w : World) (hs : StepsIn w a xs) (hT : goodStB ⟨sb, cm, ph, sp, wt, si⟩ = true) (ho0 : 0 ≤ order) (ho1 : order ≤ 3) (Hcm : Hid (im.toList ≠ cm.toList)) (hcm' : (im.toList == cm.toList) = false)
    (Hn : Hid (n = xs.length)) (hb1 : sb.toList ≠ []) :
    Calls Try.prog 11 #[.agg #[.string im, .slice a n cap], .agg #[.string sb, .string cm, .int .i64 ph, .int .i64 sp, .int .i64 wt, .int .i64 si], .int .i64 now, .int .i64 order] w fun e w' => e = .returned (.tuple #[(nextSt im xs ⟨sb, cm, ph, sp, wt, si⟩ now order).1.val, .int .i64 (nextSt im xs ⟨sb, cm, ph, sp, wt, si⟩ now order).2]) ∧ Ext w w' := by
  by_cases hsb : im.toList = sb.toList
  · obtain rfl := toList_inj hsb
    clear hsb
    go_enter Try.func11, Try.ntmps11
    go_wp2_with (first | (go_at_call 24; (with_reducible refine (isSpec_n _ _ _ _ _ _ hl (hs.ext (by with_reducible repeat (first | exact Ext.refl _ | assumption | apply Ext.drew | apply Ext.drewN | apply Ext.alloc | (refine Ext.setCell ?_ ?_ _; rotate_left; (focus (first | (simp; done) | (simp; omega) | omega))) | refine Ext.trans ?_ (by assumption)))) Hn.out).mono ?_); rintro e w1 ⟨rfl, h1⟩; obtain ⟨hc1, hf1, hz1⟩ := ext_facts h1; (try simp at hz1); (try have hzA : w.heap.size < w1.heap.size := by omega); (try have hzB : w.heap.size + 1 < w1.heap.size := by omega); (try have hzC : w.heap.size + 2 < w1.heap.size := by omega); (try have hzD : w.heap.size + 3 < w1.heap.size := by omega)) | (go_at_call 25; (with_reducible refine (isStatus_any ⟨im, cm, ph, sp, wt, si⟩ _).mono ?_); rintro e w1 ⟨rfl, h1⟩; obtain ⟨hc1, hf1, hz1⟩ := ext_facts h1; (try simp at hz1); (try have hzA : w.heap.size < w1.heap.size := by omega); (try have hzB : w.heap.size + 1 < w1.heap.size := by omega); (try have hzC : w.heap.size + 2 < w1.heap.size := by omega); (try have hzD : w.heap.size + 3 < w1.heap.size := by omega)) | (go_at_call 27; (with_reducible refine (healthy_any _ _).mono ?_); rintro e w1 ⟨rfl, h1⟩; obtain ⟨hc1, hf1, hz1⟩ := ext_facts h1; (try simp at hz1); (try have hzA : w.heap.size < w1.heap.size := by omega); (try have hzB : w.heap.size + 1 < w1.heap.size := by omega); (try have hzC : w.heap.size + 2 < w1.heap.size := by omega); (try have hzD : w.heap.size + 3 < w1.heap.size := by omega)))
    (with_reducible apply bp_ret); (focus (go_light; simp [results, Try.results11, go_sem, *]; rfl))
    refine ⟨ret_st ?_, (by with_reducible repeat (first | exact Ext.refl _ | assumption | apply Ext.drew | apply Ext.drewN | apply Ext.alloc | (refine Ext.setCell ?_ ?_ _; rotate_left; (focus (first | (simp; done) | (simp; omega) | omega))) | refine Ext.trans ?_ (by assumption)))⟩
    have := Hcm.out
    go_light
    simp only [nextSt, comingSt, doneSt, hG, hT]
    grind
  · have Hsb := Lib.hid hsb
    have hsb' : (im.toList == sb.toList) = false := by simpa using hsb
    clear hsb
    by_cases hx : 0 < n
    · obtain ⟨⟨p, q⟩, r, hxs⟩ : ∃ x r, xs = x :: r := by
        cases xs with
        | nil => have := Hn.out; simp at this; omega
        | cons x r => exact ⟨x, r, rfl⟩
      have hne : xs ≠ [] := by rw [hxs]; simp
      obtain ⟨b, o, rfl, hc⟩ := hs.resolve_left hne
      obtain ⟨d0, d1⟩ := hc 0 (by rw [hxs]; simp)
      have d0 : w.cell? ⟨b, o, none⟩ = some (.int .i64 p) := by simpa [hxs] using d0
      have d1 : w.cell? ⟨b, o + 1, none⟩ = some (.int .i64 q) := by simpa [hxs] using d1
      have hgs : goodStepB p q = true := by have := (step_good hG (k := 0) (by rw [hxs]; simp)).1; simpa [hxs] using this
      have Hgs := Lib.hid hgs
      have Hxs := Lib.hid hxs
      have hn2 : (n : Int) ≤ 9223372036854775807 := by have := Hn.out; omega
      have hbl := cell_lt d0
      simp only at hbl
      have hb_1 : ¬ b = w.heap.size + 1 := by omega
      have hb_2 : ¬ w.heap.size + 1 = b := by omega
      clear hc hgs hxs hne hbl
      go_enter Try.func11, Try.ntmps11
      go_upto_region 17 with (first | (go_at_call 24; (with_reducible refine (isSpec_n _ _ _ _ _ _ hl (hs.ext (by with_reducible repeat (first | exact Ext.refl _ | assumption | apply Ext.drew | apply Ext.drewN | apply Ext.alloc | (refine Ext.setCell ?_ ?_ _; rotate_left; (focus (first | (simp; done) | (simp; omega) | omega))) | refine Ext.trans ?_ (by assumption)))) Hn.out).mono ?_); rintro e w1 ⟨rfl, h1⟩; obtain ⟨hc1, hf1, hz1⟩ := ext_facts h1; (try simp at hz1); (try have hzA : w.heap.size < w1.heap.size := by omega); (try have hzB : w.heap.size + 1 < w1.heap.size := by omega); (try have hzC : w.heap.size + 2 < w1.heap.size := by omega); (try have hzD : w.heap.size + 3 < w1.heap.size := by omega)) | (go_at_call 25; (with_reducible refine (isStatus_any ⟨sb, cm, ph, sp, wt, si⟩ _).mono ?_); rintro e w1 ⟨rfl, h1⟩; obtain ⟨hc1, hf1, hz1⟩ := ext_facts h1; (try simp at hz1); (try have hzA : w.heap.size < w1.heap.size := by omega); (try have hzB : w.heap.size + 1 < w1.heap.size := by omega); (try have hzC : w.heap.size + 2 < w1.heap.size := by omega); (try have hzD : w.heap.size + 3 < w1.heap.size := by omega)) | (go_at_call 27; (with_reducible refine (healthy_any _ _).mono ?_); rintro e w1 ⟨rfl, h1⟩; obtain ⟨hc1, hf1, hz1⟩ := ext_facts h1; (try simp at hz1); (try have hzA : w.heap.size < w1.heap.size := by omega); (try have hzB : w.heap.size + 1 < w1.heap.size := by omega); (try have hzC : w.heap.size + 2 < w1.heap.size := by omega); (try have hzD : w.heap.size + 3 < w1.heap.size := by omega)))
      · (with_reducible apply bp_ret); (focus (go_light; simp [results, Try.results11, go_sem, *]; rfl))
        refine ⟨ret_st ?_, (by with_reducible repeat (first | exact Ext.refl _ | assumption | apply Ext.drew | apply Ext.drewN | apply Ext.alloc | (refine Ext.setCell ?_ ?_ _; rotate_left; (focus (first | (simp; done) | (simp; omega) | omega))) | refine Ext.trans ?_ (by assumption)))⟩
        have := Hcm.out
        have := Hsb.out
        go_light
        simp only [nextSt, comingSt, doneSt, hG, hT]
        grind
      · (with_reducible apply bp_ret); (focus (go_light; simp [results, Try.results11, go_sem, *]; rfl))
        refine ⟨ret_st ?_, (by with_reducible repeat (first | exact Ext.refl _ | assumption | apply Ext.drew | apply Ext.drewN | apply Ext.alloc | (refine Ext.setCell ?_ ?_ _; rotate_left; (focus (first | (simp; done) | (simp; omega) | omega))) | refine Ext.trans ?_ (by assumption)))⟩
        have := Hcm.out
        have := Hsb.out
        go_light
        simp only [nextSt, comingSt, doneSt, hG, hT]
        grind
      · have ho23 : order ≠ 2 ∧ order ≠ 3 := by
          go_light
          grind
        have Ho23 := Lib.hid ho23
        clear ho23
        refine gen_world (R := fun wx => Box wx w.heap.size #[.string im, .slice (some ⟨b, o, none⟩) n cap] 25 ∧
          Box wx (w.heap.size + 1) #[.string sb, .string im, .int .i64 2, .int .i64 0, .int .i64 0, .int .i64 0] 27 ∧
          Box wx (w.heap.size + 2) #[.string ⟨#[]⟩, .string ⟨#[]⟩, .int .i64 0, .int .i64 0, .int .i64 0, .int .i64 0] 27 ∧ Ext w wx) ⟨(by (with_reducible apply Box.to); (focus (with_reducible repeat (first | assumption | (apply Box.new; (focus (first | rfl | (first | (simp; done) | (simp; omega) | omega)))) | apply Box.set | (apply Box.other; rotate_left; (focus (first | (simp; done) | (simp; omega) | omega))) | apply Box.alloc | apply Box.drew | (apply Box.ext; (focus assumption))))); (first | rfl | (simp; done))), (by (with_reducible apply Box.to); (focus (with_reducible repeat (first | assumption | (apply Box.new; (focus (first | rfl | (first | (simp; done) | (simp; omega) | omega)))) | apply Box.set | (apply Box.other; rotate_left; (focus (first | (simp; done) | (simp; omega) | omega))) | apply Box.alloc | apply Box.drew | (apply Box.ext; (focus assumption))))); (first | rfl | (simp; done))), (by (with_reducible apply Box.to); (focus (with_reducible repeat (first | assumption | (apply Box.new; (focus (first | rfl | (first | (simp; done) | (simp; omega) | omega)))) | apply Box.set | (apply Box.other; rotate_left; (focus (first | (simp; done) | (simp; omega) | omega))) | apply Box.alloc | apply Box.drew | (apply Box.ext; (focus assumption))))); (first | rfl | (simp; done))), (by with_reducible repeat (first | exact Ext.refl _ | assumption | apply Ext.drew | apply Ext.drewN | apply Ext.alloc | (refine Ext.setCell ?_ ?_ _; rotate_left; (focus (first | (simp; done) | (simp; omega) | omega))) | refine Ext.trans ?_ (by assumption)))⟩ ?_
        rintro wx ⟨hB0, hB1, hB2, hx⟩
        have d0 := hx.cell d0
        have d1 := hx.cell d1
        clear hc1 hf1 hz1 hzA hzB hzC h1
        have hc0 := hB0.cells
        have hf0 := hB0.free
        have hc1 := hB1.cells
        have hf1 := hB1.free
        have hc2 := hB2.cells
        have hf2 := hB2.free
        have hl0 := hB0.lt
        have hl1 := hB1.lt
        have hl2 := hB2.lt
        go_wp2_with fail
        · (with_reducible apply bp_ret); (focus (go_light; simp [results, Try.results11, go_sem, *]; rfl))
          refine ⟨ret_st ?_, (by with_reducible repeat (first | exact Ext.refl _ | assumption | apply Ext.drew | apply Ext.drewN | apply Ext.alloc | (refine Ext.setCell ?_ ?_ _; rotate_left; (focus (first | (simp; done) | (simp; omega) | omega))) | refine Ext.trans ?_ (by assumption)))⟩
          rw [next_news hG hT Hcm.out Hsb.out hn0 hn1 ho0 (by have := Ho23.out; omega), Hxs.out, run_first rfl rfl, if_neg (by omega)]
        · have hp : 0 ≤ p := by assumption
          (with_reducible refine (nextStatus_n im _ _ _ xs _ hl hG hn0 hn1 sb im _ _ _ _ _ _ ?_ ?_ ho0 ho1 rfl Hn.out).mono ?_)
          case refine_1 => exact hs.ext (by with_reducible repeat (first | exact Ext.refl _ | assumption | apply Ext.drew | apply Ext.drewN | apply Ext.alloc | (refine Ext.setCell ?_ ?_ _; rotate_left; (focus (first | (simp; done) | (simp; omega) | omega))) | refine Ext.trans ?_ (by assumption)))
          case refine_2 =>
            have := Hsb.out
            have hh := Hgs.out
            have h0 : im.toList ≠ [] := by simp only [goodSpecB] at hG; grind
            go_light
            simp only [goodStepB, decide_eq_true_eq] at hh
            simp only [goodStB]
            grind
          rintro e w1 ⟨rfl, h1⟩
          obtain ⟨hc1, hf1, hz1⟩ := ext_facts h1; (try simp at hz1); (try have hzA : w.heap.size < w1.heap.size := by omega); (try have hzB : w.heap.size + 1 < w1.heap.size := by omega); (try have hzC : w.heap.size + 2 < w1.heap.size := by omega); (try have hzD : w.heap.size + 3 < w1.heap.size := by omega)
          go_wp2
          (with_reducible apply bp_ret); (focus (go_light; simp [results, Try.results11, go_sem, *]; rfl))
          refine ⟨ret_st ?_, (by with_reducible repeat (first | exact Ext.refl _ | assumption | apply Ext.drew | apply Ext.drewN | apply Ext.alloc | (refine Ext.setCell ?_ ?_ _; rotate_left; (focus (first | (simp; done) | (simp; omega) | omega))) | refine Ext.trans ?_ (by assumption)))⟩
          have hh := Hgs.out
          simp only [goodStepB, decide_eq_true_eq] at hh
          have hm : nextSt im xs ⟨sb, im, 2, 1, p, 0⟩ now order = (runSt now r ⟨sb, im, 2, 1, p, 0⟩ order, 0) := by
            have := next_rec (o := order) (now := now) (wt := p) (sb := sb) (cm := im) (k := 0) hG (by rw [Hxs.out]; simp) rfl (fun h => Hsb.out h.symm) hb1 (by omega) hn0 hn1 ho0 (by have := Ho23.out; omega)
            simpa [Hxs.out] using this
          rw [hm, next_news hG hT Hcm.out Hsb.out hn0 hn1 ho0 (by have := Ho23.out; omega), Hxs.out, run_first rfl rfl, if_pos hp]
    · have hx0 : (n : Int) ≤ 0 := by omega
      clear hx
      go_enter Try.func11, Try.ntmps11
      go_wp2_with (first | (go_at_call 24; (with_reducible refine (isSpec_n _ _ _ _ _ _ hl (hs.ext (by with_reducible repeat (first | exact Ext.refl _ | assumption | apply Ext.drew | apply Ext.drewN | apply Ext.alloc | (refine Ext.setCell ?_ ?_ _; rotate_left; (focus (first | (simp; done) | (simp; omega) | omega))) | refine Ext.trans ?_ (by assumption)))) Hn.out).mono ?_); rintro e w1 ⟨rfl, h1⟩; obtain ⟨hc1, hf1, hz1⟩ := ext_facts h1; (try simp at hz1); (try have hzA : w.heap.size < w1.heap.size := by omega); (try have hzB : w.heap.size + 1 < w1.heap.size := by omega); (try have hzC : w.heap.size + 2 < w1.heap.size := by omega); (try have hzD : w.heap.size + 3 < w1.heap.size := by omega)) | (go_at_call 25; (with_reducible refine (isStatus_any ⟨sb, cm, ph, sp, wt, si⟩ _).mono ?_); rintro e w1 ⟨rfl, h1⟩; obtain ⟨hc1, hf1, hz1⟩ := ext_facts h1; (try simp at hz1); (try have hzA : w.heap.size < w1.heap.size := by omega); (try have hzB : w.heap.size + 1 < w1.heap.size := by omega); (try have hzC : w.heap.size + 2 < w1.heap.size := by omega); (try have hzD : w.heap.size + 3 < w1.heap.size := by omega)) | (go_at_call 27; (with_reducible refine (healthy_any _ _).mono ?_); rintro e w1 ⟨rfl, h1⟩; obtain ⟨hc1, hf1, hz1⟩ := ext_facts h1; (try simp at hz1); (try have hzA : w.heap.size < w1.heap.size := by omega); (try have hzB : w.heap.size + 1 < w1.heap.size := by omega); (try have hzC : w.heap.size + 2 < w1.heap.size := by omega); (try have hzD : w.heap.size + 3 < w1.heap.size := by omega)))
      all_goals
        ((with_reducible apply bp_ret); (focus (go_light; simp [results, Try.results11, go_sem, *]; rfl))
         refine ⟨ret_st ?_, (by with_reducible repeat (first | exact Ext.refl _ | assumption | apply Ext.drew | apply Ext.drewN | apply Ext.alloc | (refine Ext.setCell ?_ ?_ _; rotate_left; (focus (first | (simp; done) | (simp; omega) | omega))) | refine Ext.trans ?_ (by assumption)))⟩
         have := Hcm.out
         have := Hsb.out
         have hnl := Hn.out
         go_light
         obtain rfl : xs = [] := List.eq_nil_of_length_eq_zero (by omega)
         simp only [nextSt, comingSt, doneSt, hG, hT]
         grind [runSt, doneSt])

/-- THE REFERENCE's NextStatus COMPUTES nextSt, TOO. -/
theorem nextStatus_any (im : ByteArray) (a : Option Addr) (cap : Nat) (xs : List (Int × Int)) (s : St) (now order : Int) (w : World) (hl : xs.length ≤ 9223372036854775807) (hs : StepsIn w a xs) :
    Calls Try.prog 11 #[.agg #[.string im, .slice a xs.length cap], .agg #[.string s.sb, .string s.cm, .int .i64 s.ph, .int .i64 s.sp, .int .i64 s.wt, .int .i64 s.si], .int .i64 now, .int .i64 order] w fun e w' => e = .returned (.tuple #[(nextSt im xs s now order).1.val, .int .i64 (nextSt im xs s now order).2]) ∧ Ext w w' := by
  by_cases hL : goodSpecB im xs = false ∨ goodStB s = false ∨ now < 0 ∨ 1099511627776 < now ∨ order < 0 ∨ 3 < order
  · exact nextStatus_early im a cap xs s now order w hl hs hL
  · simp only [not_or, Bool.not_eq_false, Int.not_lt] at hL
    obtain ⟨hG, hT, h0, h1, ho0, ho1⟩ := hL
    by_cases hcm : im.toList = s.cm.toList
    · exact nextStatus_same im a cap xs now hl hG h0 h1 _ s.sb s.cm s.ph s.sp s.wt s.si order w hs (Nat.le_refl _) hT ho0 ho1 hcm
    · have hb1 : s.sb.toList ≠ [] := by simp only [goodStB, decide_eq_true_eq] at hT; exact hT.1
      exact nextStatus_new im a xs.length cap xs now hl hG h0 h1 s.sb s.cm s.ph s.sp s.wt s.si order w hs hT ho0 ho1 hcm (by simpa using hcm) rfl hb1

end Go.Proofs.Ytpkgeailbifnjaa
