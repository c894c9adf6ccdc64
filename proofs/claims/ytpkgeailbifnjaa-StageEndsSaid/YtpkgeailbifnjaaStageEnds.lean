/- StageEnds: for every spec, status and time the law returns true (behind everything it is out); no condition. -/
import Derived.Test.YtpkgeailbifnjaaStageL1
import Derived.Test.YtpkgeailbifnjaaStageE
import Derived.ChangeOld
set_option linter.all false
namespace Go.Proofs.Ytpkgeailbifnjaa.lawStageEnds
open Go.ChangeShapes Go.WideShapes Go.ChangeAt Go.RowKit

/-- A step whose pause ends, and not later than 2^30. -/
def endsB (x : Int × Int) : Bool := !(x.1 == -1 && (x.2 == 0 || decide (1073741824 < x.2)))

theorem ends_all {xs : List (Int × Int)} (h : xs.all endsB = true) : PausesEnd xs := by
  intro x hx h1
  have := List.all_eq_true.1 h x hx
  simp only [endsB] at this
  grind

theorem ends_take {xs : List (Int × Int)} {k : Nat} (h : k < xs.length) (h0 : (xs.take k).all endsB = true) (h1 : endsB xs[k] = true) : (xs.take (k + 1)).all endsB = true := by
  rw [List.take_succ_eq_append_getElem h]
  simp only [List.all_append, List.all_cons, List.all_nil, Bool.and_true, Bool.and_eq_true]
  exact ⟨h0, h1⟩

set_option maxRecDepth 100000 in
set_option maxHeartbeats 4000000 in
theorem walk (im : ByteArray) (a : Option Addr) (n cap : Nat) (xs : List (Int × Int)) (s : St) (now : Int) (w : World) (hl : xs.length ≤ 9223372036854775807) (hs : StepsIn w a xs) (hn : Hid (n = xs.length)) :
    Calls Try.prog 7 #[.agg #[.string im, .slice a n cap], .agg #[.string s.sb, .string s.cm, .int .i64 s.ph, .int .i64 s.sp, .int .i64 s.wt, .int .i64 s.si], .int .i64 now] w fun e w' => e = .returned (.bool true) ∧ Ext w w' := by
  obtain ⟨sb, cm, ph, sp, wt, si⟩ := s
  have hn2 : (n : Int) ≤ 9223372036854775807 := by have := hn.out; omega
  go_enter Try.func7, Try.ntmps7
  go_wp2_with fail
  go_loopg [14] n (fun g i wr => ∃ k : Nat, i = .int .i64 k ∧ k ≤ n ∧ g = n - k ∧ (xs.take k).all endsB = true ∧
      Box wr w.heap.size #[.string im, .slice a n cap] 25 ∧
      Box wr (w.heap.size + 1) #[.string sb, .string cm, .int .i64 ph, .int .i64 sp, .int .i64 wt, .int .i64 si] 27 ∧ Ext w wr)
  case atStart => exact ⟨0, rfl, Nat.zero_le _, rfl, rfl, (by (with_reducible apply Box.to); (focus (with_reducible repeat (first | assumption | (apply Box.new; (focus (first | rfl | (first | (simp; done) | (simp; omega) | omega)))) | apply Box.set | (apply Box.other; rotate_left; (focus (first | (simp; done) | (simp; omega) | omega))) | apply Box.alloc | apply Box.drew | (apply Box.ext; (focus assumption))))); (first | rfl | (simp; done))), (by (with_reducible apply Box.to); (focus (with_reducible repeat (first | assumption | (apply Box.new; (focus (first | rfl | (first | (simp; done) | (simp; omega) | omega)))) | apply Box.set | (apply Box.other; rotate_left; (focus (first | (simp; done) | (simp; omega) | omega))) | apply Box.alloc | apply Box.drew | (apply Box.ext; (focus assumption))))); (first | rfl | (simp; done))), (by with_reducible repeat (first | exact Ext.refl _ | assumption | apply Ext.drew | apply Ext.drewN | apply Ext.alloc | (refine Ext.setCell ?_ ?_ _; rotate_left; (focus (first | (simp; done) | (simp; omega) | omega))) | refine Ext.trans ?_ (by assumption)))⟩
  case round =>
    obtain ⟨k, rfl, hk, rfl, hall, hB0, hB1, hx⟩ := hrel
    have Hall := Lib.hid hall
    clear hall
    have hc0 := hB0.cells
    have hf0 := hB0.free
    have hc1 := hB1.cells
    have hf1 := hB1.free
    have hl0 := hB0.lt
    have hl1 := hB1.lt
    by_cases hlt : k < n
    · have hkx : k < xs.length := by have := hn.out; omega
      obtain ⟨b, o', rfl, hc⟩ : ∃ b o, a = some ⟨b, o, none⟩ ∧ ∀ i, i < xs.length → w.cell? ⟨b, o + i * 2, none⟩ = some (.int .i64 (xs.getD i (0, 0)).1) ∧ w.cell? ⟨b, o + i * 2 + 1, none⟩ = some (.int .i64 (xs.getD i (0, 0)).2) := hs.resolve_left (by intro e; subst e; simp at hkx)
      obtain ⟨d0, d1⟩ := hc k hkx
      have d0 := hx.cell d0
      have d1 := hx.cell d1
      clear hc
      go_wp2_with fail
      · (with_reducible refine (steps_keep _).mono ?_); rintro e w2 ⟨rfl, h2⟩; obtain ⟨hcw2, hfw2, hzw2⟩ := ext_facts h2; (try simp at hzw2); (try have hzAw2 : w.heap.size < w2.heap.size := by omega); (try have hzBw2 : w.heap.size + 1 < w2.heap.size := by omega); (try have hzCw2 : w.heap.size + 2 < w2.heap.size := by omega)
        go_wp2
        go_ret
        exact ⟨rfl, (by with_reducible repeat (first | exact Ext.refl _ | assumption | apply Ext.drew | apply Ext.drewN | apply Ext.alloc | (refine Ext.setCell ?_ ?_ _; rotate_left; (focus (first | (simp; done) | (simp; omega) | omega))) | refine Ext.trans ?_ (by assumption)))⟩
      · (with_reducible refine (steps_keep _).mono ?_); rintro e w2 ⟨rfl, h2⟩; obtain ⟨hcw2, hfw2, hzw2⟩ := ext_facts h2; (try simp at hzw2); (try have hzAw2 : w.heap.size < w2.heap.size := by omega); (try have hzBw2 : w.heap.size + 1 < w2.heap.size := by omega); (try have hzCw2 : w.heap.size + 2 < w2.heap.size := by omega)
        go_wp2
        go_ret
        exact ⟨rfl, (by with_reducible repeat (first | exact Ext.refl _ | assumption | apply Ext.drew | apply Ext.drewN | apply Ext.alloc | (refine Ext.setCell ?_ ?_ _; rotate_left; (focus (first | (simp; done) | (simp; omega) | omega))) | refine Ext.trans ?_ (by assumption)))⟩
      all_goals
        have he : endsB xs[k] = true := by
          go_light
          simp only [endsB]
          grind
        go_roundg (n - (k + 1))
        case measure => omega
        case rel => exact ⟨k + 1, by go_num, by omega, rfl, ends_take hkx Hall.out he, (by (with_reducible apply Box.to); (focus (with_reducible repeat (first | assumption | (apply Box.new; (focus (first | rfl | (first | (simp; done) | (simp; omega) | omega)))) | apply Box.set | (apply Box.other; rotate_left; (focus (first | (simp; done) | (simp; omega) | omega))) | apply Box.alloc | apply Box.drew | (apply Box.ext; (focus assumption))))); (first | rfl | (simp; done))), (by (with_reducible apply Box.to); (focus (with_reducible repeat (first | assumption | (apply Box.new; (focus (first | rfl | (first | (simp; done) | (simp; omega) | omega)))) | apply Box.set | (apply Box.other; rotate_left; (focus (first | (simp; done) | (simp; omega) | omega))) | apply Box.alloc | apply Box.drew | (apply Box.ext; (focus assumption))))); (first | rfl | (simp; done))), (by with_reducible repeat (first | exact Ext.refl _ | assumption | apply Ext.drew | apply Ext.drewN | apply Ext.alloc | (refine Ext.setCell ?_ ?_ _; rotate_left; (focus (first | (simp; done) | (simp; omega) | omega))) | refine Ext.trans ?_ (by assumption)))⟩
    · have hall : xs.all endsB = true := by
        have := Hall.out
        rwa [List.take_of_length_le (by have := hn.out; omega)] at this
      have Hpe := Lib.hid (ends_all hall)
      clear hall
      by_cases hq : 0 ≤ now ∧ now ≤ 274877906944 ∧ si ≤ now ∧ ¬ (ph = 4 ∧ im.toList = cm.toList)
      · obtain ⟨hq0, hq1, hq2, hq3⟩ := hq
        have Hq3 := Lib.hid hq3
        clear hq3
        by_cases h4 : ph = 4
        · have H4 := Lib.hid h4
          have h4b : (ph == 4) = true := by simpa using h4
          clear h4
          have hcm4 : (cm.toList == im.toList) = false := by
            rw [beq_eq_false_iff_ne]
            exact fun h => Hq3.out ⟨H4.out, h.symm⟩
          go_wp2_with fail
          go_loopg [2, 58] 10 (fun g nv i wr => ∃ (k : Nat) (t : St) (nw : Int), nv = .int .i64 nw ∧ nw = now + (k : Int) * 1073741824 ∧ i = .int .i64 k ∧ k ≤ 10 ∧ g = 10 - k ∧
            ((k = 0 ∧ t = ⟨sb, cm, ph, sp, wt, si⟩) ∨ (0 < k ∧ goodSpecB im xs = true ∧ Onto im xs (now + ((k : Int) - 1) * 1073741824) (k - 1) t)) ∧
            Box wr w.heap.size #[.string im, .slice a n cap] 25 ∧
            Box wr (w.heap.size + 1) #[.string t.sb, .string t.cm, .int .i64 t.ph, .int .i64 t.sp, .int .i64 t.wt, .int .i64 t.si] 27 ∧ Ext w wr)
          case atStart => exact ⟨0, ⟨sb, cm, ph, sp, wt, si⟩, now, rfl, by simp, rfl, by omega, rfl, .inl ⟨rfl, rfl⟩, hB0, hB1, hx⟩
          case round =>
            clear hB0 hB1 hc0 hc1 hf0 hf1 hl0 hl1 hx
            obtain ⟨k, ⟨tsb, tcm, tph, tsp, twt, tsi⟩, nw, rfl, hnw, rfl, hk10, rfl, ht, hB0, hB1, hx⟩ := hrel
            have Ht := Lib.hid ht
            have Hnw := Lib.hid hnw
            have hnw0 : 0 ≤ nw := by omega
            have hnw1 : nw ≤ 300000000000 := by omega
            clear ht hnw
            have hc0 := hB0.cells
            have hf0 := hB0.free
            have hc1 := hB1.cells
            have hf1 := hB1.free
            have hl0 := hB0.lt
            have hl1 := hB1.lt
            by_cases hlt : k < 10
            · obtain ⟨r, e, hr⟩ : ∃ r e, nextSt im xs ⟨tsb, tcm, tph, tsp, twt, tsi⟩ nw 0 = (r, e) := ⟨_, _, rfl⟩
              obtain ⟨rsb, rcm, rph, rsp, rwt, rsi⟩ := r
              by_cases he : e = 0
              · subst he
                have hrel : goodSpecB im xs = true ∧ Onto im xs (now + (((k + 1 : Nat) : Int) - 1) * 1073741824) k ⟨rsb, rcm, rph, rsp, rwt, rsi⟩ := by
                  have e1 : now + (((k + 1 : Nat) : Int) - 1) * 1073741824 = nw := by have := Hnw.out; omega
                  rw [e1]
                  refine ⟨(next_ok hr).1, ?_⟩
                  rcases Ht.out with ⟨rfl, h⟩ | ⟨hk, hG, ho⟩
                  · rw [h] at hr
                    exact onto_first hr Hpe.out (by simp only; have := Hnw.out; omega) Hq3.out
                  · obtain ⟨r', h1, h2⟩ := onto_next hG Hpe.out ho (by omega) (by omega)
                    have e2 : now + ((k : Int) - 1) * 1073741824 + 1073741824 = nw := by have := Hnw.out; omega
                    rw [e2, hr] at h1
                    rw [e2] at h2
                    simp only [Prod.mk.injEq, and_true] at h1
                    rw [h1]
                    have e3 : k - 1 + 1 = k := by omega
                    rwa [e3] at h2
                have Hrel := Lib.hid hrel
                have Hr := Lib.hid hr
                clear hr hrel
                go_wp2_with fail
                (with_reducible refine (next_to Hr.out _ hl (hs.ext (by with_reducible repeat (first | exact Ext.refl _ | assumption | apply Ext.drew | apply Ext.drewN | apply Ext.alloc | (refine Ext.setCell ?_ ?_ _; rotate_left; (focus (first | (simp; done) | (simp; omega) | omega))) | refine Ext.trans ?_ (by assumption)))) hn.out).mono ?_); rintro e w1 ⟨rfl, h1⟩; obtain ⟨hcw1, hfw1, hzw1⟩ := ext_facts h1; (try simp at hzw1); (try have hzAw1 : w.heap.size < w1.heap.size := by omega); (try have hzBw1 : w.heap.size + 1 < w1.heap.size := by omega); (try have hzCw1 : w.heap.size + 2 < w1.heap.size := by omega)
                go_wp2_with fail
                go_roundg (10 - (k + 1))
                case measure => omega
                case rel => exact ⟨k + 1, ⟨rsb, rcm, rph, rsp, rwt, rsi⟩, nw + 1073741824, rfl, by have := Hnw.out; omega, by go_num, by omega, rfl, .inr ⟨by omega, Hrel.out.1, Hrel.out.2⟩, (by (with_reducible apply Box.to); (focus (with_reducible repeat (first | assumption | (apply Box.new; (focus (first | rfl | (first | (simp; done) | (simp; omega) | omega)))) | apply Box.set | (apply Box.other; rotate_left; (focus (first | (simp; done) | (simp; omega) | omega))) | apply Box.alloc | apply Box.drew | (apply Box.ext; (focus assumption))))); (first | rfl | (simp; done))), (by (with_reducible apply Box.to); (focus (with_reducible repeat (first | assumption | (apply Box.new; (focus (first | rfl | (first | (simp; done) | (simp; omega) | omega)))) | apply Box.set | (apply Box.other; rotate_left; (focus (first | (simp; done) | (simp; omega) | omega))) | apply Box.alloc | apply Box.drew | (apply Box.ext; (focus assumption))))); (first | rfl | (simp; done))), (by with_reducible repeat (first | exact Ext.refl _ | assumption | apply Ext.drew | apply Ext.drewN | apply Ext.alloc | (refine Ext.setCell ?_ ?_ _; rotate_left; (focus (first | (simp; done) | (simp; omega) | omega))) | refine Ext.trans ?_ (by assumption)))⟩
              · have he' : (e != 0) = true := by simpa using he
                have hbad : goodStB ⟨tsb, tcm, tph, tsp, twt, tsi⟩ = false ∨ (goodStB ⟨tsb, tcm, tph, tsp, twt, tsi⟩ = true ∧ goodSpecB im xs = false) := by
                  by_cases q1 : goodStB ⟨tsb, tcm, tph, tsp, twt, tsi⟩ = true
                  · by_cases q2 : goodSpecB im xs = true
                    · have := next_fits (o := 0) q2 q1 hnw0 (by omega) (by omega) (by omega)
                      rw [hr] at this
                      exact absurd this he
                    · exact .inr ⟨q1, by simpa using q2⟩
                  · exact .inl (by simpa using q1)
                have Hr := Lib.hid hr
                clear hr he
                rcases hbad with q | ⟨q, q2⟩
                · go_wp2_with fail
                  (with_reducible refine (next_to Hr.out _ hl (hs.ext (by with_reducible repeat (first | exact Ext.refl _ | assumption | apply Ext.drew | apply Ext.drewN | apply Ext.alloc | (refine Ext.setCell ?_ ?_ _; rotate_left; (focus (first | (simp; done) | (simp; omega) | omega))) | refine Ext.trans ?_ (by assumption)))) hn.out).mono ?_); rintro e w1 ⟨rfl, h1⟩; obtain ⟨hcw1, hfw1, hzw1⟩ := ext_facts h1; (try simp at hzw1); (try have hzAw1 : w.heap.size < w1.heap.size := by omega); (try have hzBw1 : w.heap.size + 1 < w1.heap.size := by omega); (try have hzCw1 : w.heap.size + 2 < w1.heap.size := by omega)
                  go_wp2_with fail
                  (with_reducible refine (good_any ⟨tsb, tcm, tph, tsp, twt, tsi⟩ _).mono ?_); rintro e w2 ⟨rfl, h2⟩; obtain ⟨hcw2, hfw2, hzw2⟩ := ext_facts h2; (try simp at hzw2); (try have hzAw2 : w.heap.size < w2.heap.size := by omega); (try have hzBw2 : w.heap.size + 1 < w2.heap.size := by omega); (try have hzCw2 : w.heap.size + 2 < w2.heap.size := by omega)
                  go_wp2
                  go_ret
                  exact ⟨ret_bool (by simp), (by with_reducible repeat (first | exact Ext.refl _ | assumption | apply Ext.drew | apply Ext.drewN | apply Ext.alloc | (refine Ext.setCell ?_ ?_ _; rotate_left; (focus (first | (simp; done) | (simp; omega) | omega))) | refine Ext.trans ?_ (by assumption)))⟩
                · go_wp2_with fail
                  (with_reducible refine (next_to Hr.out _ hl (hs.ext (by with_reducible repeat (first | exact Ext.refl _ | assumption | apply Ext.drew | apply Ext.drewN | apply Ext.alloc | (refine Ext.setCell ?_ ?_ _; rotate_left; (focus (first | (simp; done) | (simp; omega) | omega))) | refine Ext.trans ?_ (by assumption)))) hn.out).mono ?_); rintro e w1 ⟨rfl, h1⟩; obtain ⟨hcw1, hfw1, hzw1⟩ := ext_facts h1; (try simp at hzw1); (try have hzAw1 : w.heap.size < w1.heap.size := by omega); (try have hzBw1 : w.heap.size + 1 < w1.heap.size := by omega); (try have hzCw1 : w.heap.size + 2 < w1.heap.size := by omega)
                  go_wp2_with fail
                  (with_reducible refine (good_any ⟨tsb, tcm, tph, tsp, twt, tsi⟩ _).mono ?_); rintro e w2 ⟨rfl, h2⟩; obtain ⟨hcw2, hfw2, hzw2⟩ := ext_facts h2; (try simp at hzw2); (try have hzAw2 : w.heap.size < w2.heap.size := by omega); (try have hzBw2 : w.heap.size + 1 < w2.heap.size := by omega); (try have hzCw2 : w.heap.size + 2 < w2.heap.size := by omega)
                  go_wp2_with fail
                  (with_reducible refine (goodSpec_n _ _ _ _ _ _ hl (hs.ext (by with_reducible repeat (first | exact Ext.refl _ | assumption | apply Ext.drew | apply Ext.drewN | apply Ext.alloc | (refine Ext.setCell ?_ ?_ _; rotate_left; (focus (first | (simp; done) | (simp; omega) | omega))) | refine Ext.trans ?_ (by assumption)))) hn.out).mono ?_); rintro e w3 ⟨rfl, h3⟩; obtain ⟨hcw3, hfw3, hzw3⟩ := ext_facts h3; (try simp at hzw3); (try have hzAw3 : w.heap.size < w3.heap.size := by omega); (try have hzBw3 : w.heap.size + 1 < w3.heap.size := by omega); (try have hzCw3 : w.heap.size + 2 < w3.heap.size := by omega)
                  go_wp2
                  go_ret
                  exact ⟨ret_bool (by simp), (by with_reducible repeat (first | exact Ext.refl _ | assumption | apply Ext.drew | apply Ext.drewN | apply Ext.alloc | (refine Ext.setCell ?_ ?_ _; rotate_left; (focus (first | (simp; done) | (simp; omega) | omega))) | refine Ext.trans ?_ (by assumption)))⟩
            · have hend : (⟨tsb, tcm, tph, tsp, twt, tsi⟩ : St) = doneSt tcm ∧ tcm.toList = im.toList := by
                rcases Ht.out with ⟨h, -⟩ | ⟨-, hG, ho⟩
                · omega
                · obtain ⟨-, hcm', hd | ⟨-, m, -, hm, hml, -⟩⟩ := ho
                  · exact ⟨hd, hcm'⟩
                  · have := (goodSpec_parts hG).2.2.1
                    omega
              obtain ⟨hd, hcm'⟩ := hend
              obtain rfl := bytes_inj hcm'
              simp only [doneSt, St.mk.injEq] at hd
              obtain ⟨rfl, -, rfl, rfl, rfl, rfl⟩ := hd
              go_wp2_with fail
              (with_reducible refine (steps_keep _).mono ?_); rintro e w2 ⟨rfl, h2⟩; obtain ⟨hcw2, hfw2, hzw2⟩ := ext_facts h2; (try simp at hzw2); (try have hzAw2 : w.heap.size < w2.heap.size := by omega); (try have hzBw2 : w.heap.size + 1 < w2.heap.size := by omega); (try have hzCw2 : w.heap.size + 2 < w2.heap.size := by omega)
              go_wp2
              go_ret
              exact ⟨ret_bool (by simp), (by with_reducible repeat (first | exact Ext.refl _ | assumption | apply Ext.drew | apply Ext.drewN | apply Ext.alloc | (refine Ext.setCell ?_ ?_ _; rotate_left; (focus (first | (simp; done) | (simp; omega) | omega))) | refine Ext.trans ?_ (by assumption)))⟩
        · have h4' : (ph == 4) = false := by simpa using h4
          go_wp2_with fail
          go_loopg [2, 58] 10 (fun g nv i wr => ∃ (k : Nat) (t : St) (nw : Int), nv = .int .i64 nw ∧ nw = now + (k : Int) * 1073741824 ∧ i = .int .i64 k ∧ k ≤ 10 ∧ g = 10 - k ∧
            ((k = 0 ∧ t = ⟨sb, cm, ph, sp, wt, si⟩) ∨ (0 < k ∧ goodSpecB im xs = true ∧ Onto im xs (now + ((k : Int) - 1) * 1073741824) (k - 1) t)) ∧
            Box wr w.heap.size #[.string im, .slice a n cap] 25 ∧
            Box wr (w.heap.size + 1) #[.string t.sb, .string t.cm, .int .i64 t.ph, .int .i64 t.sp, .int .i64 t.wt, .int .i64 t.si] 27 ∧ Ext w wr)
          case atStart => exact ⟨0, ⟨sb, cm, ph, sp, wt, si⟩, now, rfl, by simp, rfl, by omega, rfl, .inl ⟨rfl, rfl⟩, hB0, hB1, hx⟩
          case round =>
            clear hB0 hB1 hc0 hc1 hf0 hf1 hl0 hl1 hx
            obtain ⟨k, ⟨tsb, tcm, tph, tsp, twt, tsi⟩, nw, rfl, hnw, rfl, hk10, rfl, ht, hB0, hB1, hx⟩ := hrel
            have Ht := Lib.hid ht
            have Hnw := Lib.hid hnw
            have hnw0 : 0 ≤ nw := by omega
            have hnw1 : nw ≤ 300000000000 := by omega
            clear ht hnw
            have hc0 := hB0.cells
            have hf0 := hB0.free
            have hc1 := hB1.cells
            have hf1 := hB1.free
            have hl0 := hB0.lt
            have hl1 := hB1.lt
            by_cases hlt : k < 10
            · obtain ⟨r, e, hr⟩ : ∃ r e, nextSt im xs ⟨tsb, tcm, tph, tsp, twt, tsi⟩ nw 0 = (r, e) := ⟨_, _, rfl⟩
              obtain ⟨rsb, rcm, rph, rsp, rwt, rsi⟩ := r
              by_cases he : e = 0
              · subst he
                have hrel : goodSpecB im xs = true ∧ Onto im xs (now + (((k + 1 : Nat) : Int) - 1) * 1073741824) k ⟨rsb, rcm, rph, rsp, rwt, rsi⟩ := by
                  have e1 : now + (((k + 1 : Nat) : Int) - 1) * 1073741824 = nw := by have := Hnw.out; omega
                  rw [e1]
                  refine ⟨(next_ok hr).1, ?_⟩
                  rcases Ht.out with ⟨rfl, h⟩ | ⟨hk, hG, ho⟩
                  · rw [h] at hr
                    exact onto_first hr Hpe.out (by simp only; have := Hnw.out; omega) Hq3.out
                  · obtain ⟨r', h1, h2⟩ := onto_next hG Hpe.out ho (by omega) (by omega)
                    have e2 : now + ((k : Int) - 1) * 1073741824 + 1073741824 = nw := by have := Hnw.out; omega
                    rw [e2, hr] at h1
                    rw [e2] at h2
                    simp only [Prod.mk.injEq, and_true] at h1
                    rw [h1]
                    have e3 : k - 1 + 1 = k := by omega
                    rwa [e3] at h2
                have Hrel := Lib.hid hrel
                have Hr := Lib.hid hr
                clear hr hrel
                go_wp2_with fail
                (with_reducible refine (next_to Hr.out _ hl (hs.ext (by with_reducible repeat (first | exact Ext.refl _ | assumption | apply Ext.drew | apply Ext.drewN | apply Ext.alloc | (refine Ext.setCell ?_ ?_ _; rotate_left; (focus (first | (simp; done) | (simp; omega) | omega))) | refine Ext.trans ?_ (by assumption)))) hn.out).mono ?_); rintro e w1 ⟨rfl, h1⟩; obtain ⟨hcw1, hfw1, hzw1⟩ := ext_facts h1; (try simp at hzw1); (try have hzAw1 : w.heap.size < w1.heap.size := by omega); (try have hzBw1 : w.heap.size + 1 < w1.heap.size := by omega); (try have hzCw1 : w.heap.size + 2 < w1.heap.size := by omega)
                go_wp2_with fail
                go_roundg (10 - (k + 1))
                case measure => omega
                case rel => exact ⟨k + 1, ⟨rsb, rcm, rph, rsp, rwt, rsi⟩, nw + 1073741824, rfl, by have := Hnw.out; omega, by go_num, by omega, rfl, .inr ⟨by omega, Hrel.out.1, Hrel.out.2⟩, (by (with_reducible apply Box.to); (focus (with_reducible repeat (first | assumption | (apply Box.new; (focus (first | rfl | (first | (simp; done) | (simp; omega) | omega)))) | apply Box.set | (apply Box.other; rotate_left; (focus (first | (simp; done) | (simp; omega) | omega))) | apply Box.alloc | apply Box.drew | (apply Box.ext; (focus assumption))))); (first | rfl | (simp; done))), (by (with_reducible apply Box.to); (focus (with_reducible repeat (first | assumption | (apply Box.new; (focus (first | rfl | (first | (simp; done) | (simp; omega) | omega)))) | apply Box.set | (apply Box.other; rotate_left; (focus (first | (simp; done) | (simp; omega) | omega))) | apply Box.alloc | apply Box.drew | (apply Box.ext; (focus assumption))))); (first | rfl | (simp; done))), (by with_reducible repeat (first | exact Ext.refl _ | assumption | apply Ext.drew | apply Ext.drewN | apply Ext.alloc | (refine Ext.setCell ?_ ?_ _; rotate_left; (focus (first | (simp; done) | (simp; omega) | omega))) | refine Ext.trans ?_ (by assumption)))⟩
              · have he' : (e != 0) = true := by simpa using he
                have hbad : goodStB ⟨tsb, tcm, tph, tsp, twt, tsi⟩ = false ∨ (goodStB ⟨tsb, tcm, tph, tsp, twt, tsi⟩ = true ∧ goodSpecB im xs = false) := by
                  by_cases q1 : goodStB ⟨tsb, tcm, tph, tsp, twt, tsi⟩ = true
                  · by_cases q2 : goodSpecB im xs = true
                    · have := next_fits (o := 0) q2 q1 hnw0 (by omega) (by omega) (by omega)
                      rw [hr] at this
                      exact absurd this he
                    · exact .inr ⟨q1, by simpa using q2⟩
                  · exact .inl (by simpa using q1)
                have Hr := Lib.hid hr
                clear hr he
                rcases hbad with q | ⟨q, q2⟩
                · go_wp2_with fail
                  (with_reducible refine (next_to Hr.out _ hl (hs.ext (by with_reducible repeat (first | exact Ext.refl _ | assumption | apply Ext.drew | apply Ext.drewN | apply Ext.alloc | (refine Ext.setCell ?_ ?_ _; rotate_left; (focus (first | (simp; done) | (simp; omega) | omega))) | refine Ext.trans ?_ (by assumption)))) hn.out).mono ?_); rintro e w1 ⟨rfl, h1⟩; obtain ⟨hcw1, hfw1, hzw1⟩ := ext_facts h1; (try simp at hzw1); (try have hzAw1 : w.heap.size < w1.heap.size := by omega); (try have hzBw1 : w.heap.size + 1 < w1.heap.size := by omega); (try have hzCw1 : w.heap.size + 2 < w1.heap.size := by omega)
                  go_wp2_with fail
                  (with_reducible refine (good_any ⟨tsb, tcm, tph, tsp, twt, tsi⟩ _).mono ?_); rintro e w2 ⟨rfl, h2⟩; obtain ⟨hcw2, hfw2, hzw2⟩ := ext_facts h2; (try simp at hzw2); (try have hzAw2 : w.heap.size < w2.heap.size := by omega); (try have hzBw2 : w.heap.size + 1 < w2.heap.size := by omega); (try have hzCw2 : w.heap.size + 2 < w2.heap.size := by omega)
                  go_wp2
                  go_ret
                  exact ⟨ret_bool (by simp), (by with_reducible repeat (first | exact Ext.refl _ | assumption | apply Ext.drew | apply Ext.drewN | apply Ext.alloc | (refine Ext.setCell ?_ ?_ _; rotate_left; (focus (first | (simp; done) | (simp; omega) | omega))) | refine Ext.trans ?_ (by assumption)))⟩
                · go_wp2_with fail
                  (with_reducible refine (next_to Hr.out _ hl (hs.ext (by with_reducible repeat (first | exact Ext.refl _ | assumption | apply Ext.drew | apply Ext.drewN | apply Ext.alloc | (refine Ext.setCell ?_ ?_ _; rotate_left; (focus (first | (simp; done) | (simp; omega) | omega))) | refine Ext.trans ?_ (by assumption)))) hn.out).mono ?_); rintro e w1 ⟨rfl, h1⟩; obtain ⟨hcw1, hfw1, hzw1⟩ := ext_facts h1; (try simp at hzw1); (try have hzAw1 : w.heap.size < w1.heap.size := by omega); (try have hzBw1 : w.heap.size + 1 < w1.heap.size := by omega); (try have hzCw1 : w.heap.size + 2 < w1.heap.size := by omega)
                  go_wp2_with fail
                  (with_reducible refine (good_any ⟨tsb, tcm, tph, tsp, twt, tsi⟩ _).mono ?_); rintro e w2 ⟨rfl, h2⟩; obtain ⟨hcw2, hfw2, hzw2⟩ := ext_facts h2; (try simp at hzw2); (try have hzAw2 : w.heap.size < w2.heap.size := by omega); (try have hzBw2 : w.heap.size + 1 < w2.heap.size := by omega); (try have hzCw2 : w.heap.size + 2 < w2.heap.size := by omega)
                  go_wp2_with fail
                  (with_reducible refine (goodSpec_n _ _ _ _ _ _ hl (hs.ext (by with_reducible repeat (first | exact Ext.refl _ | assumption | apply Ext.drew | apply Ext.drewN | apply Ext.alloc | (refine Ext.setCell ?_ ?_ _; rotate_left; (focus (first | (simp; done) | (simp; omega) | omega))) | refine Ext.trans ?_ (by assumption)))) hn.out).mono ?_); rintro e w3 ⟨rfl, h3⟩; obtain ⟨hcw3, hfw3, hzw3⟩ := ext_facts h3; (try simp at hzw3); (try have hzAw3 : w.heap.size < w3.heap.size := by omega); (try have hzBw3 : w.heap.size + 1 < w3.heap.size := by omega); (try have hzCw3 : w.heap.size + 2 < w3.heap.size := by omega)
                  go_wp2
                  go_ret
                  exact ⟨ret_bool (by simp), (by with_reducible repeat (first | exact Ext.refl _ | assumption | apply Ext.drew | apply Ext.drewN | apply Ext.alloc | (refine Ext.setCell ?_ ?_ _; rotate_left; (focus (first | (simp; done) | (simp; omega) | omega))) | refine Ext.trans ?_ (by assumption)))⟩
            · have hend : (⟨tsb, tcm, tph, tsp, twt, tsi⟩ : St) = doneSt tcm ∧ tcm.toList = im.toList := by
                rcases Ht.out with ⟨h, -⟩ | ⟨-, hG, ho⟩
                · omega
                · obtain ⟨-, hcm', hd | ⟨-, m, -, hm, hml, -⟩⟩ := ho
                  · exact ⟨hd, hcm'⟩
                  · have := (goodSpec_parts hG).2.2.1
                    omega
              obtain ⟨hd, hcm'⟩ := hend
              obtain rfl := bytes_inj hcm'
              simp only [doneSt, St.mk.injEq] at hd
              obtain ⟨rfl, -, rfl, rfl, rfl, rfl⟩ := hd
              go_wp2_with fail
              (with_reducible refine (steps_keep _).mono ?_); rintro e w2 ⟨rfl, h2⟩; obtain ⟨hcw2, hfw2, hzw2⟩ := ext_facts h2; (try simp at hzw2); (try have hzAw2 : w.heap.size < w2.heap.size := by omega); (try have hzBw2 : w.heap.size + 1 < w2.heap.size := by omega); (try have hzCw2 : w.heap.size + 2 < w2.heap.size := by omega)
              go_wp2
              go_ret
              exact ⟨ret_bool (by simp), (by with_reducible repeat (first | exact Ext.refl _ | assumption | apply Ext.drew | apply Ext.drewN | apply Ext.alloc | (refine Ext.setCell ?_ ?_ _; rotate_left; (focus (first | (simp; done) | (simp; omega) | omega))) | refine Ext.trans ?_ (by assumption)))⟩
      · go_wp2_with fail
        all_goals first
          | ((with_reducible refine (steps_keep _).mono ?_); rintro e w2 ⟨rfl, h2⟩; obtain ⟨hcw2, hfw2, hzw2⟩ := ext_facts h2; (try simp at hzw2); (try have hzAw2 : w.heap.size < w2.heap.size := by omega); (try have hzBw2 : w.heap.size + 1 < w2.heap.size := by omega); (try have hzCw2 : w.heap.size + 2 < w2.heap.size := by omega); go_wp2; go_ret; exact ⟨rfl, (by with_reducible repeat (first | exact Ext.refl _ | assumption | apply Ext.drew | apply Ext.drewN | apply Ext.alloc | (refine Ext.setCell ?_ ?_ _; rotate_left; (focus (first | (simp; done) | (simp; omega) | omega))) | refine Ext.trans ?_ (by assumption)))⟩)
          | (exfalso; go_light; grind)

set_option maxRecDepth 100000 in
theorem lifted (os : Os) (started : os.Started) (H : Type) (enc : TypeId × Value → H) :
    ReturnsInHanded {} Try.checked os 7 .any (Rows.stageEndsSpec.pre6 enc Try.prog Try.f7 Rows.stageEndsRow.domain false) (Rows.stageEndsSpec.post enc Try.prog Try.f7 false true false false) := by
  refine returnsInHanded_of_change (C := Try.checked) Try.own started (by kernel_rfl) Try.func7
    (ChangeSpec.witness6 (enc := enc) (C := Try.checked) false ⟨#[], #[.agg #[.string ⟨#[]⟩, .slice none 0 0], .agg #[.string ⟨#[]⟩, .string ⟨#[]⟩, .int .i64 0, .int .i64 0, .int .i64 0, .int .i64 0], .int .i64 0], []⟩ 12 (by kernel_rfl) (by kernel_rfl) (by kernel_rfl) (by kernel_rfl)) ?_
  intro W base args ds gs before hval0 hW hcnd _
  have hval : ∀ (j : Nat) t v, Try.f7.params[j]? = some t → args[j]? = some v → Value.okWide Try.prog W .any base t v := hval0
  have hW' := hW
  obtain ⟨p, q, hA0, hV, rfl, hfz, hnd⟩ := hW
  have hA : DataW.TrodAll enc Try.prog W 0 (fun _ => true) true Try.f7.params.toList args.toList ds p := hA0
  rw [Try.params7] at hA hval
  obtain ⟨v0, vs0, d0, ds0, p0, q0, hargs, rfl, rfl, h0, r0⟩ := trodAll_cons hA
  obtain ⟨v1, vs1, d1, ds1, p1, q1, rfl, rfl, rfl, h1, r1⟩ := trodAll_cons r0
  obtain ⟨v2, vs2, d2, ds2, p2, q2, rfl, rfl, rfl, h2, r2⟩ := trodAll_cons r1
  obtain ⟨rfl, rfl, rfl⟩ := trodAll_nil r2
  obtain rfl : args = #[v0, v1, v2] := by cases args; simp_all
  obtain ⟨rfl, rfl⟩ := trodVars_none hV
  have k0 := h0
  have k1 := h1
  have k2 := h2
  have lt0 : ∀ x ∈ p0, x.block < W.heap.size := by obtain ⟨m, hm⟩ := k0; exact DataW.trod_lt m _ _ _ hm
  have lt1 : ∀ x ∈ p1, x.block < W.heap.size := by obtain ⟨m, hm⟩ := k1; exact DataW.trod_lt m _ _ _ hm
  have lt2 : ∀ x ∈ p2, x.block < W.heap.size := by obtain ⟨m, hm⟩ := k2; exact DataW.trod_lt m _ _ _ hm
  obtain ⟨im, a, cap, xs, rfl, hs, hl⟩ := open_spec (hval 0 25 v0 rfl rfl) h0
  obtain ⟨s, rfl⟩ := open_status (hval 1 27 v1 rfl rfl) h1
  obtain ⟨now, rfl, rfl, rfl, w2⟩ := open_int Try.underlying3 (hval 2 3 v2 rfl rfl) h2
  clear hA0 hval0
  refine (walk im a xs.length cap xs s now W hl hs rfl).mono fun e W' ⟨he, bel⟩ => ?_
  subst he
  exact ⟨_, rfl, _, _, _, [], _, [], hW', trodAll_mk1 (shut_bool Try.underlying4 _), (trodAll_cons_mk (Below.trod Try.laidOut (by kernel_rfl) (of_decide_eq_true (by kernel_rfl)) k0 bel lt0) (trodAll_cons_mk (Below.trod Try.laidOut (by kernel_rfl) (of_decide_eq_true (by kernel_rfl)) k1 bel lt1) (trodAll_cons_mk (Below.trod Try.laidOut (by kernel_rfl) (of_decide_eq_true (by kernel_rfl)) k2 bel lt2) trodAll_mk0))), rfl, Below.frame bel _, fun h => by cases h⟩

theorem over : Rows.stageEndsRow.holds Try.pinned (OpenSpec.ofChange Rows.stageEndsSpec) :=
  OpenClaim.holds_of_wide 7 Try.f7 rfl rfl rfl rfl rfl rfl rfl ⟨rfl, rfl, rfl, rfl, rfl⟩ rfl rfl rfl rfl rfl (by kernel_rfl) Try.func7 (by kernel_rfl)
    (of_decide_eq_true (by kernel_rfl)) (by unfold Func.isWrapper; first | (rw [if_pos (by decide +kernel)]; kernel_rfl) | (rw [if_neg (by decide +kernel)]; exact ⟨rfl, rfl⟩))
    (fun os started H enc _ => lifted os started H enc)

theorem proved : Rows.StageEndsSaid := over
end Go.Proofs.Ytpkgeailbifnjaa.lawStageEnds
