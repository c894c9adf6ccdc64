/- The walk of stage.Next: the three ways that come to its loop; and the whole. -/
import Derived.Test.YtpkgeailbifnjaaStageW4
set_option linter.all false
namespace Go.Proofs.Ytpkgeailbifnjaa
open Go.RowKit

set_option maxRecDepth 100000 in
set_option maxHeartbeats 8000000 in
theorem next_loopA (im sb cm : ByteArray) (a : Option Addr) (cap : Nat) (xs : List (Int × Int)) (ph sp wt si : Int) (now order : Int) (w : World) (hl : xs.length ≤ 9223372036854775807) (hs : StepsIn w a xs)
    (hG : goodSpecB im xs = true) (hT : goodStB ⟨sb, cm, ph, sp, wt, si⟩ = true) (hnow0 : 0 ≤ now) (hnow1 : now ≤ 1099511627776) (ho0 : 0 ≤ order) (ho1 : order ≤ 1)
    (h1 : (im.toList == cm.toList) = false) (h2 : (im.toList == sb.toList) = false) (r : St) (HR : Hid (RunsTo xs now ⟨sb, im, 2, 0, 0, 0⟩ order r)) (Hn : Hid (nextSt im xs ⟨sb, cm, ph, sp, wt, si⟩ now order = (r, 0))) :
    Calls Try.prog 10 #[.agg #[.string im, .slice a xs.length cap], .agg #[.string sb, .string cm, .int .i64 ph, .int .i64 sp, .int .i64 wt, .int .i64 si], .int .i64 now, .int .i64 order] w fun e w' => e = .returned (.tuple #[(nextSt im xs ⟨sb, cm, ph, sp, wt, si⟩ now order).1.val, .int .i64 (nextSt im xs ⟨sb, cm, ph, sp, wt, si⟩ now order).2]) ∧ Ext w w' := by
  have hsi : (0 : Int) ≤ 0 ∧ (0 : Int) ≤ 1099511627776 := by omega
  go_enter Try.func10, Try.ntmps10
  have e2 : (order == 2) = false := by simp; omega
  have e3 : (order == 3) = false := by simp; omega
  go_wp2_with (first | (go_at_call 15; (with_reducible refine (goodSpec_any _ _ _ _ _ hl (hs.ext (by with_reducible repeat (first | exact Ext.refl _ | assumption | apply Ext.drew | apply Ext.drewN | apply Ext.alloc | (refine Ext.setCell ?_ ?_ _; rotate_left; (focus (first | (simp; done) | (simp; omega) | omega))) | refine Ext.trans ?_ (by assumption))))).mono ?_); rintro e w1 ⟨rfl, h1⟩; obtain ⟨hc1, hf1, hz1⟩ := ext_facts h1; (try simp at hz1); (try have hzA : w.heap.size < w1.heap.size := by omega); (try have hzB : w.heap.size + 1 < w1.heap.size := by omega); (try have hzC : w.heap.size + 2 < w1.heap.size := by omega); (try have hzD : w.heap.size + 3 < w1.heap.size := by omega)) | (go_at_call 14; (with_reducible refine (good_any ⟨sb, cm, ph, sp, wt, si⟩ _).mono ?_); rintro e w1 ⟨rfl, h1⟩; obtain ⟨hc1, hf1, hz1⟩ := ext_facts h1; (try simp at hz1); (try have hzA : w.heap.size < w1.heap.size := by omega); (try have hzB : w.heap.size + 1 < w1.heap.size := by omega); (try have hzC : w.heap.size + 2 < w1.heap.size := by omega); (try have hzD : w.heap.size + 3 < w1.heap.size := by omega)) | (go_at_call 26; (with_reducible refine (done_any _ _).mono ?_); rintro e w1 ⟨rfl, h1⟩; obtain ⟨hc1, hf1, hz1⟩ := ext_facts h1; (try simp at hz1); (try have hzA : w.heap.size < w1.heap.size := by omega); (try have hzB : w.heap.size + 1 < w1.heap.size := by omega); (try have hzC : w.heap.size + 2 < w1.heap.size := by omega); (try have hzD : w.heap.size + 3 < w1.heap.size := by omega)))
  go_loopg [3] xs.length (fun g o wr => ∃ (s' : St) (ord' : Int) (k : Nat), o = .int .i64 ord' ∧ s'.sp = (k : Int) ∧ xs.length ≤ g + k ∧
    Box wr w.heap.size #[.string im, .slice a xs.length cap] 25 ∧
    Box wr (w.heap.size + 1) #[.string s'.sb, .string s'.cm, .int .i64 s'.ph, .int .i64 s'.sp, .int .i64 s'.wt, .int .i64 s'.si] 27 ∧
    Box wr (w.heap.size + 2) #[.string ⟨#[]⟩, .string ⟨#[]⟩, .int .i64 0, .int .i64 0, .int .i64 0, .int .i64 0] 27 ∧
    Ext w wr ∧ 0 ≤ s'.si ∧ s'.si ≤ 1099511627776 ∧ RunsTo xs now s' ord' r)
  case atStart =>
    have HR' := HR.out
    obtain ⟨h0, -⟩ := HR.out
    obtain ⟨k, hk⟩ := Int.eq_ofNat_of_zero_le h0
    exact ⟨(⟨sb, im, 2, 0, 0, 0⟩ : St), order, k, rfl, hk, by omega, (by (with_reducible apply Box.to); (focus (with_reducible repeat (first | assumption | (apply Box.new; (focus (first | rfl | (first | (simp; done) | (simp; omega) | omega)))) | apply Box.set | (apply Box.other; rotate_left; (focus (first | (simp; done) | (simp; omega) | omega))) | apply Box.alloc | apply Box.drew | (apply Box.ext; (focus assumption))))); (first | rfl | (simp; done) | (go_light; simp [*]; done))), (by (with_reducible apply Box.to); (focus (with_reducible repeat (first | assumption | (apply Box.new; (focus (first | rfl | (first | (simp; done) | (simp; omega) | omega)))) | apply Box.set | (apply Box.other; rotate_left; (focus (first | (simp; done) | (simp; omega) | omega))) | apply Box.alloc | apply Box.drew | (apply Box.ext; (focus assumption))))); (first | rfl | (simp; done) | (go_light; simp [*]; done))), (by (with_reducible apply Box.to); (focus (with_reducible repeat (first | assumption | (apply Box.new; (focus (first | rfl | (first | (simp; done) | (simp; omega) | omega)))) | apply Box.set | (apply Box.other; rotate_left; (focus (first | (simp; done) | (simp; omega) | omega))) | apply Box.alloc | apply Box.drew | (apply Box.ext; (focus assumption))))); (first | rfl | (simp; done) | (go_light; simp [*]; done))), (by with_reducible repeat (first | exact Ext.refl _ | assumption | apply Ext.drew | apply Ext.drewN | apply Ext.alloc | (refine Ext.setCell ?_ ?_ _; rotate_left; (focus (first | (simp; done) | (simp; omega) | omega))) | refine Ext.trans ?_ (by assumption))), hsi.1, hsi.2, HR'⟩
  case round =>
    obtain ⟨⟨sb', cm', ph', sp', wt', si'⟩, ord', k, rfl, hsp, hgk, hB0, hB1, hB2, hx, hsi0, hsi1, hrun⟩ := hrel
    obtain rfl : sp' = (k : Int) := hsp
    simp only at hsi0 hsi1
    have Hr := Lib.hid hrun
    clear hrun hc1 hf1
    have hc0 := hB0.cells
    have hf0 := hB0.free
    have hc1 := hB1.cells
    have hf1 := hB1.free
    have hc2 := hB2.cells
    have hf2 := hB2.free
    have hl0 := hB0.lt
    have hl1 := hB1.lt
    have hl2 := hB2.lt
    by_cases hlt : k < xs.length
    · obtain ⟨b, o, rfl, hc⟩ : ∃ b o, a = some ⟨b, o, none⟩ ∧ ∀ i, i < xs.length → w.cell? ⟨b, o + i * 2, none⟩ = some (.int .i64 (xs.getD i (0, 0)).1) ∧ w.cell? ⟨b, o + i * 2 + 1, none⟩ = some (.int .i64 (xs.getD i (0, 0)).2) := hs.resolve_left (by intro e; subst e; simp at hlt)
      obtain ⟨d0, d1⟩ := hc k hlt
      have d0 := hx.cell d0
      have d1 := hx.cell d1
      have Hst := Lib.hid (Hr.out.step k rfl hlt)
      clear hc hs
      by_cases h0 : 0 ≤ xs[k].1
      · go_wp2
        go_roundg (gk - 1)
        case measure => omega
        case rel => exact ⟨⟨sb', cm', 2, (k : Int) + 1, xs[k].1, 0⟩, ord', k + 1, rfl, by simp, by omega, (by (with_reducible apply Box.to); (focus (with_reducible repeat (first | assumption | (apply Box.new; (focus (first | rfl | (first | (simp; done) | (simp; omega) | omega)))) | apply Box.set | (apply Box.other; rotate_left; (focus (first | (simp; done) | (simp; omega) | omega))) | apply Box.alloc | apply Box.drew | (apply Box.ext; (focus assumption))))); (first | rfl | (simp; done) | (go_light; simp [*]; done))), (by (with_reducible apply Box.to); (focus (with_reducible repeat (first | assumption | (apply Box.new; (focus (first | rfl | (first | (simp; done) | (simp; omega) | omega)))) | apply Box.set | (apply Box.other; rotate_left; (focus (first | (simp; done) | (simp; omega) | omega))) | apply Box.alloc | apply Box.drew | (apply Box.ext; (focus assumption))))); (first | rfl | (simp; done) | (go_light; simp [*]; done))), (by (with_reducible apply Box.to); (focus (with_reducible repeat (first | assumption | (apply Box.new; (focus (first | rfl | (first | (simp; done) | (simp; omega) | omega)))) | apply Box.set | (apply Box.other; rotate_left; (focus (first | (simp; done) | (simp; omega) | omega))) | apply Box.alloc | apply Box.drew | (apply Box.ext; (focus assumption))))); (first | rfl | (simp; done) | (go_light; simp [*]; done))), (by with_reducible repeat (first | exact Ext.refl _ | assumption | apply Ext.drew | apply Ext.drewN | apply Ext.alloc | (refine Ext.setCell ?_ ?_ _; rotate_left; (focus (first | (simp; done) | (simp; omega) | omega))) | refine Ext.trans ?_ (by assumption))), by simp, by simp, (Hst.out).1 h0⟩
      · by_cases h3 : ph' = 3
        · subst h3
          by_cases ho : ord' = 1
          · subst ho
            go_wp2
            go_roundg (gk - 1)
            case measure => omega
            case rel => exact ⟨⟨sb', cm', 2, (k : Int) + 1, wt', 0⟩, 0, k + 1, rfl, by simp, by omega, (by (with_reducible apply Box.to); (focus (with_reducible repeat (first | assumption | (apply Box.new; (focus (first | rfl | (first | (simp; done) | (simp; omega) | omega)))) | apply Box.set | (apply Box.other; rotate_left; (focus (first | (simp; done) | (simp; omega) | omega))) | apply Box.alloc | apply Box.drew | (apply Box.ext; (focus assumption))))); (first | rfl | (simp; done) | (go_light; simp [*]; done))), (by (with_reducible apply Box.to); (focus (with_reducible repeat (first | assumption | (apply Box.new; (focus (first | rfl | (first | (simp; done) | (simp; omega) | omega)))) | apply Box.set | (apply Box.other; rotate_left; (focus (first | (simp; done) | (simp; omega) | omega))) | apply Box.alloc | apply Box.drew | (apply Box.ext; (focus assumption))))); (first | rfl | (simp; done) | (go_light; simp [*]; done))), (by (with_reducible apply Box.to); (focus (with_reducible repeat (first | assumption | (apply Box.new; (focus (first | rfl | (first | (simp; done) | (simp; omega) | omega)))) | apply Box.set | (apply Box.other; rotate_left; (focus (first | (simp; done) | (simp; omega) | omega))) | apply Box.alloc | apply Box.drew | (apply Box.ext; (focus assumption))))); (first | rfl | (simp; done) | (go_light; simp [*]; done))), (by with_reducible repeat (first | exact Ext.refl _ | assumption | apply Ext.drew | apply Ext.drewN | apply Ext.alloc | (refine Ext.setCell ?_ ?_ _; rotate_left; (focus (first | (simp; done) | (simp; omega) | omega))) | refine Ext.trans ?_ (by assumption))), by simp, by simp, (Hst.out).2.2.1 (by omega) (by trivial) (by trivial)⟩
          · have ho' : (ord' == 1) = false := by simpa using ho
            by_cases hp : xs[k].2 = 0 ∨ now < si' ∨ now - si' < xs[k].2
            · have Hp := Lib.hid hp
              clear hp
              go_wp2
              all_goals first
                | ((with_reducible apply bp_ret); (focus (go_light; simp [results, Try.results10, go_sem, *]; rfl))
                   refine ⟨ret_st ?_, (by with_reducible repeat (first | exact Ext.refl _ | assumption | apply Ext.drew | apply Ext.drewN | apply Ext.alloc | (refine Ext.setCell ?_ ?_ _; rotate_left; (focus (first | (simp; done) | (simp; omega) | omega))) | refine Ext.trans ?_ (by assumption)))⟩
                   rw [Hn.out, (Hst.out).2.2.2.1 (by omega) (by trivial) ho Hp.out])
                | (exfalso
                   have := Hp.out
                   go_light
                   grind)
            · obtain ⟨hp1, hp2, hp3⟩ : xs[k].2 ≠ 0 ∧ si' ≤ now ∧ xs[k].2 ≤ now - si' := by omega
              have hp1' : (xs[k].2 == 0) = false := by simpa using hp1
              go_wp2
              go_roundg (gk - 1)
              case measure => omega
              case rel => exact ⟨⟨sb', cm', 2, (k : Int) + 1, wt', 0⟩, ord', k + 1, rfl, by simp, by omega, (by (with_reducible apply Box.to); (focus (with_reducible repeat (first | assumption | (apply Box.new; (focus (first | rfl | (first | (simp; done) | (simp; omega) | omega)))) | apply Box.set | (apply Box.other; rotate_left; (focus (first | (simp; done) | (simp; omega) | omega))) | apply Box.alloc | apply Box.drew | (apply Box.ext; (focus assumption))))); (first | rfl | (simp; done) | (go_light; simp [*]; done))), (by (with_reducible apply Box.to); (focus (with_reducible repeat (first | assumption | (apply Box.new; (focus (first | rfl | (first | (simp; done) | (simp; omega) | omega)))) | apply Box.set | (apply Box.other; rotate_left; (focus (first | (simp; done) | (simp; omega) | omega))) | apply Box.alloc | apply Box.drew | (apply Box.ext; (focus assumption))))); (first | rfl | (simp; done) | (go_light; simp [*]; done))), (by (with_reducible apply Box.to); (focus (with_reducible repeat (first | assumption | (apply Box.new; (focus (first | rfl | (first | (simp; done) | (simp; omega) | omega)))) | apply Box.set | (apply Box.other; rotate_left; (focus (first | (simp; done) | (simp; omega) | omega))) | apply Box.alloc | apply Box.drew | (apply Box.ext; (focus assumption))))); (first | rfl | (simp; done) | (go_light; simp [*]; done))), (by with_reducible repeat (first | exact Ext.refl _ | assumption | apply Ext.drew | apply Ext.drewN | apply Ext.alloc | (refine Ext.setCell ?_ ?_ _; rotate_left; (focus (first | (simp; done) | (simp; omega) | omega))) | refine Ext.trans ?_ (by assumption))), by simp, by simp, (Hst.out).2.2.2.2 (by omega) (by trivial) ho hp⟩
        · have h3' : (ph' != 3) = true := by simpa using h3
          go_wp2
          (with_reducible apply bp_ret); (focus (go_light; simp [results, Try.results10, go_sem, *]; rfl))
          refine ⟨ret_st ?_, (by with_reducible repeat (first | exact Ext.refl _ | assumption | apply Ext.drew | apply Ext.drewN | apply Ext.alloc | (refine Ext.setCell ?_ ?_ _; rotate_left; (focus (first | (simp; done) | (simp; omega) | omega))) | refine Ext.trans ?_ (by assumption)))⟩
          rw [Hn.out, (Hst.out).2.1 (by omega) h3]
    · go_wp2_with (go_at_call 26; (with_reducible refine (done_any _ _).mono ?_); rintro e w1 ⟨rfl, h1⟩; obtain ⟨hc1, hf1, hz1⟩ := ext_facts h1; (try simp at hz1); (try have hzA : w.heap.size < w1.heap.size := by omega); (try have hzB : w.heap.size + 1 < w1.heap.size := by omega); (try have hzC : w.heap.size + 2 < w1.heap.size := by omega); (try have hzD : w.heap.size + 3 < w1.heap.size := by omega))
      (with_reducible apply bp_ret); (focus (go_light; simp [results, Try.results10, go_sem, *]; rfl))
      refine ⟨ret_st ?_, (by with_reducible repeat (first | exact Ext.refl _ | assumption | apply Ext.drew | apply Ext.drewN | apply Ext.alloc | (refine Ext.setCell ?_ ?_ _; rotate_left; (focus (first | (simp; done) | (simp; omega) | omega))) | refine Ext.trans ?_ (by assumption)))⟩
      rw [Hn.out, Hr.out.out (by simpa using hlt)]
      rfl

set_option maxRecDepth 100000 in
set_option maxHeartbeats 8000000 in
theorem next_loopB (im sb : ByteArray) (a : Option Addr) (cap : Nat) (xs : List (Int × Int)) (sp wt si : Int) (now order : Int) (w : World) (hl : xs.length ≤ 9223372036854775807) (hs : StepsIn w a xs)
    (hG : goodSpecB im xs = true) (hT : goodStB ⟨sb, im, 2, sp, wt, si⟩ = true) (hnow0 : 0 ≤ now) (hnow1 : now ≤ 1099511627776) (ho0 : 0 ≤ order) (ho1 : order ≤ 1) (hsi : 0 ≤ si ∧ si ≤ 1099511627776)
    (r : St) (HR : Hid (RunsTo xs now ⟨sb, im, 2, sp, wt, si⟩ order r)) (Hn : Hid (nextSt im xs ⟨sb, im, 2, sp, wt, si⟩ now order = (r, 0))) :
    Calls Try.prog 10 #[.agg #[.string im, .slice a xs.length cap], .agg #[.string sb, .string im, .int .i64 2, .int .i64 sp, .int .i64 wt, .int .i64 si], .int .i64 now, .int .i64 order] w fun e w' => e = .returned (.tuple #[(nextSt im xs ⟨sb, im, 2, sp, wt, si⟩ now order).1.val, .int .i64 (nextSt im xs ⟨sb, im, 2, sp, wt, si⟩ now order).2]) ∧ Ext w w' := by
  go_enter Try.func10, Try.ntmps10
  have e2 : (order == 2) = false := by simp; omega
  have e3 : (order == 3) = false := by simp; omega
  go_wp2_with (first | (go_at_call 15; (with_reducible refine (goodSpec_any _ _ _ _ _ hl (hs.ext (by with_reducible repeat (first | exact Ext.refl _ | assumption | apply Ext.drew | apply Ext.drewN | apply Ext.alloc | (refine Ext.setCell ?_ ?_ _; rotate_left; (focus (first | (simp; done) | (simp; omega) | omega))) | refine Ext.trans ?_ (by assumption))))).mono ?_); rintro e w1 ⟨rfl, h1⟩; obtain ⟨hc1, hf1, hz1⟩ := ext_facts h1; (try simp at hz1); (try have hzA : w.heap.size < w1.heap.size := by omega); (try have hzB : w.heap.size + 1 < w1.heap.size := by omega); (try have hzC : w.heap.size + 2 < w1.heap.size := by omega); (try have hzD : w.heap.size + 3 < w1.heap.size := by omega)) | (go_at_call 14; (with_reducible refine (good_any ⟨sb, im, 2, sp, wt, si⟩ _).mono ?_); rintro e w1 ⟨rfl, h1⟩; obtain ⟨hc1, hf1, hz1⟩ := ext_facts h1; (try simp at hz1); (try have hzA : w.heap.size < w1.heap.size := by omega); (try have hzB : w.heap.size + 1 < w1.heap.size := by omega); (try have hzC : w.heap.size + 2 < w1.heap.size := by omega); (try have hzD : w.heap.size + 3 < w1.heap.size := by omega)) | (go_at_call 26; (with_reducible refine (done_any _ _).mono ?_); rintro e w1 ⟨rfl, h1⟩; obtain ⟨hc1, hf1, hz1⟩ := ext_facts h1; (try simp at hz1); (try have hzA : w.heap.size < w1.heap.size := by omega); (try have hzB : w.heap.size + 1 < w1.heap.size := by omega); (try have hzC : w.heap.size + 2 < w1.heap.size := by omega); (try have hzD : w.heap.size + 3 < w1.heap.size := by omega)))
  go_loopg [3] xs.length (fun g o wr => ∃ (s' : St) (ord' : Int) (k : Nat), o = .int .i64 ord' ∧ s'.sp = (k : Int) ∧ xs.length ≤ g + k ∧
    Box wr w.heap.size #[.string im, .slice a xs.length cap] 25 ∧
    Box wr (w.heap.size + 1) #[.string s'.sb, .string s'.cm, .int .i64 s'.ph, .int .i64 s'.sp, .int .i64 s'.wt, .int .i64 s'.si] 27 ∧
    Box wr (w.heap.size + 2) #[.string ⟨#[]⟩, .string ⟨#[]⟩, .int .i64 0, .int .i64 0, .int .i64 0, .int .i64 0] 27 ∧
    Ext w wr ∧ 0 ≤ s'.si ∧ s'.si ≤ 1099511627776 ∧ RunsTo xs now s' ord' r)
  case atStart =>
    have HR' := HR.out
    obtain ⟨h0, -⟩ := HR.out
    obtain ⟨k, hk⟩ := Int.eq_ofNat_of_zero_le h0
    exact ⟨(⟨sb, im, 2, sp, wt, si⟩ : St), order, k, rfl, hk, by omega, (by (with_reducible apply Box.to); (focus (with_reducible repeat (first | assumption | (apply Box.new; (focus (first | rfl | (first | (simp; done) | (simp; omega) | omega)))) | apply Box.set | (apply Box.other; rotate_left; (focus (first | (simp; done) | (simp; omega) | omega))) | apply Box.alloc | apply Box.drew | (apply Box.ext; (focus assumption))))); (first | rfl | (simp; done) | (go_light; simp [*]; done))), (by (with_reducible apply Box.to); (focus (with_reducible repeat (first | assumption | (apply Box.new; (focus (first | rfl | (first | (simp; done) | (simp; omega) | omega)))) | apply Box.set | (apply Box.other; rotate_left; (focus (first | (simp; done) | (simp; omega) | omega))) | apply Box.alloc | apply Box.drew | (apply Box.ext; (focus assumption))))); (first | rfl | (simp; done) | (go_light; simp [*]; done))), (by (with_reducible apply Box.to); (focus (with_reducible repeat (first | assumption | (apply Box.new; (focus (first | rfl | (first | (simp; done) | (simp; omega) | omega)))) | apply Box.set | (apply Box.other; rotate_left; (focus (first | (simp; done) | (simp; omega) | omega))) | apply Box.alloc | apply Box.drew | (apply Box.ext; (focus assumption))))); (first | rfl | (simp; done) | (go_light; simp [*]; done))), (by with_reducible repeat (first | exact Ext.refl _ | assumption | apply Ext.drew | apply Ext.drewN | apply Ext.alloc | (refine Ext.setCell ?_ ?_ _; rotate_left; (focus (first | (simp; done) | (simp; omega) | omega))) | refine Ext.trans ?_ (by assumption))), hsi.1, hsi.2, HR'⟩
  case round =>
    obtain ⟨⟨sb', cm', ph', sp', wt', si'⟩, ord', k, rfl, hsp, hgk, hB0, hB1, hB2, hx, hsi0, hsi1, hrun⟩ := hrel
    obtain rfl : sp' = (k : Int) := hsp
    simp only at hsi0 hsi1
    have Hr := Lib.hid hrun
    clear hrun hc1 hf1
    have hc0 := hB0.cells
    have hf0 := hB0.free
    have hc1 := hB1.cells
    have hf1 := hB1.free
    have hc2 := hB2.cells
    have hf2 := hB2.free
    have hl0 := hB0.lt
    have hl1 := hB1.lt
    have hl2 := hB2.lt
    by_cases hlt : k < xs.length
    · obtain ⟨b, o, rfl, hc⟩ : ∃ b o, a = some ⟨b, o, none⟩ ∧ ∀ i, i < xs.length → w.cell? ⟨b, o + i * 2, none⟩ = some (.int .i64 (xs.getD i (0, 0)).1) ∧ w.cell? ⟨b, o + i * 2 + 1, none⟩ = some (.int .i64 (xs.getD i (0, 0)).2) := hs.resolve_left (by intro e; subst e; simp at hlt)
      obtain ⟨d0, d1⟩ := hc k hlt
      have d0 := hx.cell d0
      have d1 := hx.cell d1
      have Hst := Lib.hid (Hr.out.step k rfl hlt)
      clear hc hs
      by_cases h0 : 0 ≤ xs[k].1
      · go_wp2
        go_roundg (gk - 1)
        case measure => omega
        case rel => exact ⟨⟨sb', cm', 2, (k : Int) + 1, xs[k].1, 0⟩, ord', k + 1, rfl, by simp, by omega, (by (with_reducible apply Box.to); (focus (with_reducible repeat (first | assumption | (apply Box.new; (focus (first | rfl | (first | (simp; done) | (simp; omega) | omega)))) | apply Box.set | (apply Box.other; rotate_left; (focus (first | (simp; done) | (simp; omega) | omega))) | apply Box.alloc | apply Box.drew | (apply Box.ext; (focus assumption))))); (first | rfl | (simp; done) | (go_light; simp [*]; done))), (by (with_reducible apply Box.to); (focus (with_reducible repeat (first | assumption | (apply Box.new; (focus (first | rfl | (first | (simp; done) | (simp; omega) | omega)))) | apply Box.set | (apply Box.other; rotate_left; (focus (first | (simp; done) | (simp; omega) | omega))) | apply Box.alloc | apply Box.drew | (apply Box.ext; (focus assumption))))); (first | rfl | (simp; done) | (go_light; simp [*]; done))), (by (with_reducible apply Box.to); (focus (with_reducible repeat (first | assumption | (apply Box.new; (focus (first | rfl | (first | (simp; done) | (simp; omega) | omega)))) | apply Box.set | (apply Box.other; rotate_left; (focus (first | (simp; done) | (simp; omega) | omega))) | apply Box.alloc | apply Box.drew | (apply Box.ext; (focus assumption))))); (first | rfl | (simp; done) | (go_light; simp [*]; done))), (by with_reducible repeat (first | exact Ext.refl _ | assumption | apply Ext.drew | apply Ext.drewN | apply Ext.alloc | (refine Ext.setCell ?_ ?_ _; rotate_left; (focus (first | (simp; done) | (simp; omega) | omega))) | refine Ext.trans ?_ (by assumption))), by simp, by simp, (Hst.out).1 h0⟩
      · by_cases h3 : ph' = 3
        · subst h3
          by_cases ho : ord' = 1
          · subst ho
            go_wp2
            go_roundg (gk - 1)
            case measure => omega
            case rel => exact ⟨⟨sb', cm', 2, (k : Int) + 1, wt', 0⟩, 0, k + 1, rfl, by simp, by omega, (by (with_reducible apply Box.to); (focus (with_reducible repeat (first | assumption | (apply Box.new; (focus (first | rfl | (first | (simp; done) | (simp; omega) | omega)))) | apply Box.set | (apply Box.other; rotate_left; (focus (first | (simp; done) | (simp; omega) | omega))) | apply Box.alloc | apply Box.drew | (apply Box.ext; (focus assumption))))); (first | rfl | (simp; done) | (go_light; simp [*]; done))), (by (with_reducible apply Box.to); (focus (with_reducible repeat (first | assumption | (apply Box.new; (focus (first | rfl | (first | (simp; done) | (simp; omega) | omega)))) | apply Box.set | (apply Box.other; rotate_left; (focus (first | (simp; done) | (simp; omega) | omega))) | apply Box.alloc | apply Box.drew | (apply Box.ext; (focus assumption))))); (first | rfl | (simp; done) | (go_light; simp [*]; done))), (by (with_reducible apply Box.to); (focus (with_reducible repeat (first | assumption | (apply Box.new; (focus (first | rfl | (first | (simp; done) | (simp; omega) | omega)))) | apply Box.set | (apply Box.other; rotate_left; (focus (first | (simp; done) | (simp; omega) | omega))) | apply Box.alloc | apply Box.drew | (apply Box.ext; (focus assumption))))); (first | rfl | (simp; done) | (go_light; simp [*]; done))), (by with_reducible repeat (first | exact Ext.refl _ | assumption | apply Ext.drew | apply Ext.drewN | apply Ext.alloc | (refine Ext.setCell ?_ ?_ _; rotate_left; (focus (first | (simp; done) | (simp; omega) | omega))) | refine Ext.trans ?_ (by assumption))), by simp, by simp, (Hst.out).2.2.1 (by omega) (by trivial) (by trivial)⟩
          · have ho' : (ord' == 1) = false := by simpa using ho
            by_cases hp : xs[k].2 = 0 ∨ now < si' ∨ now - si' < xs[k].2
            · have Hp := Lib.hid hp
              clear hp
              go_wp2
              all_goals first
                | ((with_reducible apply bp_ret); (focus (go_light; simp [results, Try.results10, go_sem, *]; rfl))
                   refine ⟨ret_st ?_, (by with_reducible repeat (first | exact Ext.refl _ | assumption | apply Ext.drew | apply Ext.drewN | apply Ext.alloc | (refine Ext.setCell ?_ ?_ _; rotate_left; (focus (first | (simp; done) | (simp; omega) | omega))) | refine Ext.trans ?_ (by assumption)))⟩
                   rw [Hn.out, (Hst.out).2.2.2.1 (by omega) (by trivial) ho Hp.out])
                | (exfalso
                   have := Hp.out
                   go_light
                   grind)
            · obtain ⟨hp1, hp2, hp3⟩ : xs[k].2 ≠ 0 ∧ si' ≤ now ∧ xs[k].2 ≤ now - si' := by omega
              have hp1' : (xs[k].2 == 0) = false := by simpa using hp1
              go_wp2
              go_roundg (gk - 1)
              case measure => omega
              case rel => exact ⟨⟨sb', cm', 2, (k : Int) + 1, wt', 0⟩, ord', k + 1, rfl, by simp, by omega, (by (with_reducible apply Box.to); (focus (with_reducible repeat (first | assumption | (apply Box.new; (focus (first | rfl | (first | (simp; done) | (simp; omega) | omega)))) | apply Box.set | (apply Box.other; rotate_left; (focus (first | (simp; done) | (simp; omega) | omega))) | apply Box.alloc | apply Box.drew | (apply Box.ext; (focus assumption))))); (first | rfl | (simp; done) | (go_light; simp [*]; done))), (by (with_reducible apply Box.to); (focus (with_reducible repeat (first | assumption | (apply Box.new; (focus (first | rfl | (first | (simp; done) | (simp; omega) | omega)))) | apply Box.set | (apply Box.other; rotate_left; (focus (first | (simp; done) | (simp; omega) | omega))) | apply Box.alloc | apply Box.drew | (apply Box.ext; (focus assumption))))); (first | rfl | (simp; done) | (go_light; simp [*]; done))), (by (with_reducible apply Box.to); (focus (with_reducible repeat (first | assumption | (apply Box.new; (focus (first | rfl | (first | (simp; done) | (simp; omega) | omega)))) | apply Box.set | (apply Box.other; rotate_left; (focus (first | (simp; done) | (simp; omega) | omega))) | apply Box.alloc | apply Box.drew | (apply Box.ext; (focus assumption))))); (first | rfl | (simp; done) | (go_light; simp [*]; done))), (by with_reducible repeat (first | exact Ext.refl _ | assumption | apply Ext.drew | apply Ext.drewN | apply Ext.alloc | (refine Ext.setCell ?_ ?_ _; rotate_left; (focus (first | (simp; done) | (simp; omega) | omega))) | refine Ext.trans ?_ (by assumption))), by simp, by simp, (Hst.out).2.2.2.2 (by omega) (by trivial) ho hp⟩
        · have h3' : (ph' != 3) = true := by simpa using h3
          go_wp2
          (with_reducible apply bp_ret); (focus (go_light; simp [results, Try.results10, go_sem, *]; rfl))
          refine ⟨ret_st ?_, (by with_reducible repeat (first | exact Ext.refl _ | assumption | apply Ext.drew | apply Ext.drewN | apply Ext.alloc | (refine Ext.setCell ?_ ?_ _; rotate_left; (focus (first | (simp; done) | (simp; omega) | omega))) | refine Ext.trans ?_ (by assumption)))⟩
          rw [Hn.out, (Hst.out).2.1 (by omega) h3]
    · go_wp2_with (go_at_call 26; (with_reducible refine (done_any _ _).mono ?_); rintro e w1 ⟨rfl, h1⟩; obtain ⟨hc1, hf1, hz1⟩ := ext_facts h1; (try simp at hz1); (try have hzA : w.heap.size < w1.heap.size := by omega); (try have hzB : w.heap.size + 1 < w1.heap.size := by omega); (try have hzC : w.heap.size + 2 < w1.heap.size := by omega); (try have hzD : w.heap.size + 3 < w1.heap.size := by omega))
      (with_reducible apply bp_ret); (focus (go_light; simp [results, Try.results10, go_sem, *]; rfl))
      refine ⟨ret_st ?_, (by with_reducible repeat (first | exact Ext.refl _ | assumption | apply Ext.drew | apply Ext.drewN | apply Ext.alloc | (refine Ext.setCell ?_ ?_ _; rotate_left; (focus (first | (simp; done) | (simp; omega) | omega))) | refine Ext.trans ?_ (by assumption)))⟩
      rw [Hn.out, Hr.out.out (by simpa using hlt)]
      rfl

set_option maxRecDepth 100000 in
set_option maxHeartbeats 8000000 in
theorem next_loopC (im sb : ByteArray) (a : Option Addr) (cap : Nat) (xs : List (Int × Int)) (sp wt si : Int) (now order : Int) (w : World) (hl : xs.length ≤ 9223372036854775807) (hs : StepsIn w a xs)
    (hG : goodSpecB im xs = true) (hT : goodStB ⟨sb, im, 3, sp, wt, si⟩ = true) (hnow0 : 0 ≤ now) (hnow1 : now ≤ 1099511627776) (ho0 : 0 ≤ order) (ho1 : order ≤ 1) (hsi : 0 ≤ si ∧ si ≤ 1099511627776)
    (r : St) (HR : Hid (RunsTo xs now ⟨sb, im, 3, sp, wt, si⟩ order r)) (Hn : Hid (nextSt im xs ⟨sb, im, 3, sp, wt, si⟩ now order = (r, 0))) :
    Calls Try.prog 10 #[.agg #[.string im, .slice a xs.length cap], .agg #[.string sb, .string im, .int .i64 3, .int .i64 sp, .int .i64 wt, .int .i64 si], .int .i64 now, .int .i64 order] w fun e w' => e = .returned (.tuple #[(nextSt im xs ⟨sb, im, 3, sp, wt, si⟩ now order).1.val, .int .i64 (nextSt im xs ⟨sb, im, 3, sp, wt, si⟩ now order).2]) ∧ Ext w w' := by
  go_enter Try.func10, Try.ntmps10
  have e2 : (order == 2) = false := by simp; omega
  have e3 : (order == 3) = false := by simp; omega
  go_wp2_with (first | (go_at_call 15; (with_reducible refine (goodSpec_any _ _ _ _ _ hl (hs.ext (by with_reducible repeat (first | exact Ext.refl _ | assumption | apply Ext.drew | apply Ext.drewN | apply Ext.alloc | (refine Ext.setCell ?_ ?_ _; rotate_left; (focus (first | (simp; done) | (simp; omega) | omega))) | refine Ext.trans ?_ (by assumption))))).mono ?_); rintro e w1 ⟨rfl, h1⟩; obtain ⟨hc1, hf1, hz1⟩ := ext_facts h1; (try simp at hz1); (try have hzA : w.heap.size < w1.heap.size := by omega); (try have hzB : w.heap.size + 1 < w1.heap.size := by omega); (try have hzC : w.heap.size + 2 < w1.heap.size := by omega); (try have hzD : w.heap.size + 3 < w1.heap.size := by omega)) | (go_at_call 14; (with_reducible refine (good_any ⟨sb, im, 3, sp, wt, si⟩ _).mono ?_); rintro e w1 ⟨rfl, h1⟩; obtain ⟨hc1, hf1, hz1⟩ := ext_facts h1; (try simp at hz1); (try have hzA : w.heap.size < w1.heap.size := by omega); (try have hzB : w.heap.size + 1 < w1.heap.size := by omega); (try have hzC : w.heap.size + 2 < w1.heap.size := by omega); (try have hzD : w.heap.size + 3 < w1.heap.size := by omega)) | (go_at_call 26; (with_reducible refine (done_any _ _).mono ?_); rintro e w1 ⟨rfl, h1⟩; obtain ⟨hc1, hf1, hz1⟩ := ext_facts h1; (try simp at hz1); (try have hzA : w.heap.size < w1.heap.size := by omega); (try have hzB : w.heap.size + 1 < w1.heap.size := by omega); (try have hzC : w.heap.size + 2 < w1.heap.size := by omega); (try have hzD : w.heap.size + 3 < w1.heap.size := by omega)))
  go_loopg [3] xs.length (fun g o wr => ∃ (s' : St) (ord' : Int) (k : Nat), o = .int .i64 ord' ∧ s'.sp = (k : Int) ∧ xs.length ≤ g + k ∧
    Box wr w.heap.size #[.string im, .slice a xs.length cap] 25 ∧
    Box wr (w.heap.size + 1) #[.string s'.sb, .string s'.cm, .int .i64 s'.ph, .int .i64 s'.sp, .int .i64 s'.wt, .int .i64 s'.si] 27 ∧
    Box wr (w.heap.size + 2) #[.string ⟨#[]⟩, .string ⟨#[]⟩, .int .i64 0, .int .i64 0, .int .i64 0, .int .i64 0] 27 ∧
    Ext w wr ∧ 0 ≤ s'.si ∧ s'.si ≤ 1099511627776 ∧ RunsTo xs now s' ord' r)
  case atStart =>
    have HR' := HR.out
    obtain ⟨h0, -⟩ := HR.out
    obtain ⟨k, hk⟩ := Int.eq_ofNat_of_zero_le h0
    exact ⟨(⟨sb, im, 3, sp, wt, si⟩ : St), order, k, rfl, hk, by omega, (by (with_reducible apply Box.to); (focus (with_reducible repeat (first | assumption | (apply Box.new; (focus (first | rfl | (first | (simp; done) | (simp; omega) | omega)))) | apply Box.set | (apply Box.other; rotate_left; (focus (first | (simp; done) | (simp; omega) | omega))) | apply Box.alloc | apply Box.drew | (apply Box.ext; (focus assumption))))); (first | rfl | (simp; done) | (go_light; simp [*]; done))), (by (with_reducible apply Box.to); (focus (with_reducible repeat (first | assumption | (apply Box.new; (focus (first | rfl | (first | (simp; done) | (simp; omega) | omega)))) | apply Box.set | (apply Box.other; rotate_left; (focus (first | (simp; done) | (simp; omega) | omega))) | apply Box.alloc | apply Box.drew | (apply Box.ext; (focus assumption))))); (first | rfl | (simp; done) | (go_light; simp [*]; done))), (by (with_reducible apply Box.to); (focus (with_reducible repeat (first | assumption | (apply Box.new; (focus (first | rfl | (first | (simp; done) | (simp; omega) | omega)))) | apply Box.set | (apply Box.other; rotate_left; (focus (first | (simp; done) | (simp; omega) | omega))) | apply Box.alloc | apply Box.drew | (apply Box.ext; (focus assumption))))); (first | rfl | (simp; done) | (go_light; simp [*]; done))), (by with_reducible repeat (first | exact Ext.refl _ | assumption | apply Ext.drew | apply Ext.drewN | apply Ext.alloc | (refine Ext.setCell ?_ ?_ _; rotate_left; (focus (first | (simp; done) | (simp; omega) | omega))) | refine Ext.trans ?_ (by assumption))), hsi.1, hsi.2, HR'⟩
  case round =>
    obtain ⟨⟨sb', cm', ph', sp', wt', si'⟩, ord', k, rfl, hsp, hgk, hB0, hB1, hB2, hx, hsi0, hsi1, hrun⟩ := hrel
    obtain rfl : sp' = (k : Int) := hsp
    simp only at hsi0 hsi1
    have Hr := Lib.hid hrun
    clear hrun hc1 hf1
    have hc0 := hB0.cells
    have hf0 := hB0.free
    have hc1 := hB1.cells
    have hf1 := hB1.free
    have hc2 := hB2.cells
    have hf2 := hB2.free
    have hl0 := hB0.lt
    have hl1 := hB1.lt
    have hl2 := hB2.lt
    by_cases hlt : k < xs.length
    · obtain ⟨b, o, rfl, hc⟩ : ∃ b o, a = some ⟨b, o, none⟩ ∧ ∀ i, i < xs.length → w.cell? ⟨b, o + i * 2, none⟩ = some (.int .i64 (xs.getD i (0, 0)).1) ∧ w.cell? ⟨b, o + i * 2 + 1, none⟩ = some (.int .i64 (xs.getD i (0, 0)).2) := hs.resolve_left (by intro e; subst e; simp at hlt)
      obtain ⟨d0, d1⟩ := hc k hlt
      have d0 := hx.cell d0
      have d1 := hx.cell d1
      have Hst := Lib.hid (Hr.out.step k rfl hlt)
      clear hc hs
      by_cases h0 : 0 ≤ xs[k].1
      · go_wp2
        go_roundg (gk - 1)
        case measure => omega
        case rel => exact ⟨⟨sb', cm', 2, (k : Int) + 1, xs[k].1, 0⟩, ord', k + 1, rfl, by simp, by omega, (by (with_reducible apply Box.to); (focus (with_reducible repeat (first | assumption | (apply Box.new; (focus (first | rfl | (first | (simp; done) | (simp; omega) | omega)))) | apply Box.set | (apply Box.other; rotate_left; (focus (first | (simp; done) | (simp; omega) | omega))) | apply Box.alloc | apply Box.drew | (apply Box.ext; (focus assumption))))); (first | rfl | (simp; done) | (go_light; simp [*]; done))), (by (with_reducible apply Box.to); (focus (with_reducible repeat (first | assumption | (apply Box.new; (focus (first | rfl | (first | (simp; done) | (simp; omega) | omega)))) | apply Box.set | (apply Box.other; rotate_left; (focus (first | (simp; done) | (simp; omega) | omega))) | apply Box.alloc | apply Box.drew | (apply Box.ext; (focus assumption))))); (first | rfl | (simp; done) | (go_light; simp [*]; done))), (by (with_reducible apply Box.to); (focus (with_reducible repeat (first | assumption | (apply Box.new; (focus (first | rfl | (first | (simp; done) | (simp; omega) | omega)))) | apply Box.set | (apply Box.other; rotate_left; (focus (first | (simp; done) | (simp; omega) | omega))) | apply Box.alloc | apply Box.drew | (apply Box.ext; (focus assumption))))); (first | rfl | (simp; done) | (go_light; simp [*]; done))), (by with_reducible repeat (first | exact Ext.refl _ | assumption | apply Ext.drew | apply Ext.drewN | apply Ext.alloc | (refine Ext.setCell ?_ ?_ _; rotate_left; (focus (first | (simp; done) | (simp; omega) | omega))) | refine Ext.trans ?_ (by assumption))), by simp, by simp, (Hst.out).1 h0⟩
      · by_cases h3 : ph' = 3
        · subst h3
          by_cases ho : ord' = 1
          · subst ho
            go_wp2
            go_roundg (gk - 1)
            case measure => omega
            case rel => exact ⟨⟨sb', cm', 2, (k : Int) + 1, wt', 0⟩, 0, k + 1, rfl, by simp, by omega, (by (with_reducible apply Box.to); (focus (with_reducible repeat (first | assumption | (apply Box.new; (focus (first | rfl | (first | (simp; done) | (simp; omega) | omega)))) | apply Box.set | (apply Box.other; rotate_left; (focus (first | (simp; done) | (simp; omega) | omega))) | apply Box.alloc | apply Box.drew | (apply Box.ext; (focus assumption))))); (first | rfl | (simp; done) | (go_light; simp [*]; done))), (by (with_reducible apply Box.to); (focus (with_reducible repeat (first | assumption | (apply Box.new; (focus (first | rfl | (first | (simp; done) | (simp; omega) | omega)))) | apply Box.set | (apply Box.other; rotate_left; (focus (first | (simp; done) | (simp; omega) | omega))) | apply Box.alloc | apply Box.drew | (apply Box.ext; (focus assumption))))); (first | rfl | (simp; done) | (go_light; simp [*]; done))), (by (with_reducible apply Box.to); (focus (with_reducible repeat (first | assumption | (apply Box.new; (focus (first | rfl | (first | (simp; done) | (simp; omega) | omega)))) | apply Box.set | (apply Box.other; rotate_left; (focus (first | (simp; done) | (simp; omega) | omega))) | apply Box.alloc | apply Box.drew | (apply Box.ext; (focus assumption))))); (first | rfl | (simp; done) | (go_light; simp [*]; done))), (by with_reducible repeat (first | exact Ext.refl _ | assumption | apply Ext.drew | apply Ext.drewN | apply Ext.alloc | (refine Ext.setCell ?_ ?_ _; rotate_left; (focus (first | (simp; done) | (simp; omega) | omega))) | refine Ext.trans ?_ (by assumption))), by simp, by simp, (Hst.out).2.2.1 (by omega) (by trivial) (by trivial)⟩
          · have ho' : (ord' == 1) = false := by simpa using ho
            by_cases hp : xs[k].2 = 0 ∨ now < si' ∨ now - si' < xs[k].2
            · have Hp := Lib.hid hp
              clear hp
              go_wp2
              all_goals first
                | ((with_reducible apply bp_ret); (focus (go_light; simp [results, Try.results10, go_sem, *]; rfl))
                   refine ⟨ret_st ?_, (by with_reducible repeat (first | exact Ext.refl _ | assumption | apply Ext.drew | apply Ext.drewN | apply Ext.alloc | (refine Ext.setCell ?_ ?_ _; rotate_left; (focus (first | (simp; done) | (simp; omega) | omega))) | refine Ext.trans ?_ (by assumption)))⟩
                   rw [Hn.out, (Hst.out).2.2.2.1 (by omega) (by trivial) ho Hp.out])
                | (exfalso
                   have := Hp.out
                   go_light
                   grind)
            · obtain ⟨hp1, hp2, hp3⟩ : xs[k].2 ≠ 0 ∧ si' ≤ now ∧ xs[k].2 ≤ now - si' := by omega
              have hp1' : (xs[k].2 == 0) = false := by simpa using hp1
              go_wp2
              go_roundg (gk - 1)
              case measure => omega
              case rel => exact ⟨⟨sb', cm', 2, (k : Int) + 1, wt', 0⟩, ord', k + 1, rfl, by simp, by omega, (by (with_reducible apply Box.to); (focus (with_reducible repeat (first | assumption | (apply Box.new; (focus (first | rfl | (first | (simp; done) | (simp; omega) | omega)))) | apply Box.set | (apply Box.other; rotate_left; (focus (first | (simp; done) | (simp; omega) | omega))) | apply Box.alloc | apply Box.drew | (apply Box.ext; (focus assumption))))); (first | rfl | (simp; done) | (go_light; simp [*]; done))), (by (with_reducible apply Box.to); (focus (with_reducible repeat (first | assumption | (apply Box.new; (focus (first | rfl | (first | (simp; done) | (simp; omega) | omega)))) | apply Box.set | (apply Box.other; rotate_left; (focus (first | (simp; done) | (simp; omega) | omega))) | apply Box.alloc | apply Box.drew | (apply Box.ext; (focus assumption))))); (first | rfl | (simp; done) | (go_light; simp [*]; done))), (by (with_reducible apply Box.to); (focus (with_reducible repeat (first | assumption | (apply Box.new; (focus (first | rfl | (first | (simp; done) | (simp; omega) | omega)))) | apply Box.set | (apply Box.other; rotate_left; (focus (first | (simp; done) | (simp; omega) | omega))) | apply Box.alloc | apply Box.drew | (apply Box.ext; (focus assumption))))); (first | rfl | (simp; done) | (go_light; simp [*]; done))), (by with_reducible repeat (first | exact Ext.refl _ | assumption | apply Ext.drew | apply Ext.drewN | apply Ext.alloc | (refine Ext.setCell ?_ ?_ _; rotate_left; (focus (first | (simp; done) | (simp; omega) | omega))) | refine Ext.trans ?_ (by assumption))), by simp, by simp, (Hst.out).2.2.2.2 (by omega) (by trivial) ho hp⟩
        · have h3' : (ph' != 3) = true := by simpa using h3
          go_wp2
          (with_reducible apply bp_ret); (focus (go_light; simp [results, Try.results10, go_sem, *]; rfl))
          refine ⟨ret_st ?_, (by with_reducible repeat (first | exact Ext.refl _ | assumption | apply Ext.drew | apply Ext.drewN | apply Ext.alloc | (refine Ext.setCell ?_ ?_ _; rotate_left; (focus (first | (simp; done) | (simp; omega) | omega))) | refine Ext.trans ?_ (by assumption)))⟩
          rw [Hn.out, (Hst.out).2.1 (by omega) h3]
    · go_wp2_with (go_at_call 26; (with_reducible refine (done_any _ _).mono ?_); rintro e w1 ⟨rfl, h1⟩; obtain ⟨hc1, hf1, hz1⟩ := ext_facts h1; (try simp at hz1); (try have hzA : w.heap.size < w1.heap.size := by omega); (try have hzB : w.heap.size + 1 < w1.heap.size := by omega); (try have hzC : w.heap.size + 2 < w1.heap.size := by omega); (try have hzD : w.heap.size + 3 < w1.heap.size := by omega))
      (with_reducible apply bp_ret); (focus (go_light; simp [results, Try.results10, go_sem, *]; rfl))
      refine ⟨ret_st ?_, (by with_reducible repeat (first | exact Ext.refl _ | assumption | apply Ext.drew | apply Ext.drewN | apply Ext.alloc | (refine Ext.setCell ?_ ?_ _; rotate_left; (focus (first | (simp; done) | (simp; omega) | omega))) | refine Ext.trans ?_ (by assumption)))⟩
      rw [Hn.out, Hr.out.out (by simpa using hlt)]
      rfl

theorem toList_inj {a b : ByteArray} (h : a.toList = b.toList) : a = b := by
  rw [ByteArray.toList_eq, ByteArray.toList_eq] at h
  exact ByteArray.ext (Array.toList_inj.1 h)

end Go.Proofs.Ytpkgeailbifnjaa
