/- The walk of the reference's ReadSpec. -/
import Derived.Test.YtpkgeailbifnjaaStageR1
import Derived.Test.YtpkgeailbifnjaaRef3
set_option linter.all false
namespace Go.Proofs.Ytpkgeailbifnjaa
open Go.RowKit
attribute [local go_sem ↓] Go.wp_at_zero Go.wp_at_succ

theorem memberOf_get {x p : V} {key : ByteArray} (hp : (x.member key).getD V.zero = p) (ka : Option Addr) (kc : Nat) (la : Option Addr) (lc : Nat) (S : Nat → Prop) (w : World) (hsz : x.size ≤ 1073741824) (hin : x.In w S ka kc la lc) :
    Calls Try.prog 32 #[x.val ka kc la lc, .string key] w (RetV2 S p (.bool (x.member key).isSome) w) := by
  cases hm : x.member key with
  | some y =>
    rw [hm] at hp
    simp only [Option.getD_some] at hp
    subst hp
    exact memberOf_some hm ka kc la lc S w hsz hin
  | none =>
    rw [hm] at hp
    simp only [Option.getD_none] at hp
    subst hp
    refine (memberOf_none hm ka kc la lc S w hsz hin).mono ?_
    rintro e w' ⟨rfl, h⟩
    exact ⟨none, 0, none, 0, rfl, V.zero_in _ _, h⟩

theorem memberOf_get2 {x p : V} {b : Bool} {key : ByteArray} (hp : (x.member key).getD V.zero = p ∧ (x.member key).isSome = b) (ka : Option Addr) (kc : Nat) (la : Option Addr) (lc : Nat) (S : Nat → Prop) (w : World) (hsz : x.size ≤ 1073741824) (hin : x.In w S ka kc la lc) :
    Calls Try.prog 32 #[x.val ka kc la lc, .string key] w (RetV2 S p (.bool b) w) := by
  obtain ⟨h1, rfl⟩ := hp
  exact memberOf_get h1 ka kc la lc S w hsz hin
theorem stepOf_ref (x : V) : stepOf x = if x.k = 2 ∧ 0 ≤ x.n ∧ x.n ≤ 100 then some (x.n, 0) else
    if (x.member pauseK).isSome = true ∧ ((x.member pauseK).getD V.zero).k = 2 ∧ 0 ≤ ((x.member pauseK).getD V.zero).n ∧ ((x.member pauseK).getD V.zero).n ≤ 1099511627776 then some (-1, ((x.member pauseK).getD V.zero).n) else none := by
  by_cases h5 : x.k = 5
  · have h2 : ¬ (x.k = 2 ∧ 0 ≤ x.n ∧ x.n ≤ 100) := by omega
    rw [stepOf, if_pos h5, if_neg h2]
    cases x.member pauseK with
    | none => simp
    | some p =>
      simp only [Option.getD_some, Option.isSome_some, true_and, goodStepB]
      simp
  · have hm : x.member pauseK = none := by simp [V.member, V.find, h5]
    rw [stepOf, if_neg h5, hm]
    simp only [Option.isSome_none, Bool.false_eq_true, false_and, if_false]
    by_cases h2 : x.k = 2 ∧ 0 ≤ x.n ∧ x.n ≤ 100
    · rw [if_pos h2, if_pos]
      refine ⟨h2.1, h2.2.1, ?_⟩
      simp [goodStepB]; omega
    · rw [if_neg h2, if_neg]
      rintro ⟨a, b, c⟩
      refine h2 ⟨a, b, ?_⟩
      simp [goodStepB] at c; omega

set_option maxHeartbeats 2000000 in
theorem refRead_none (x : V) (ka : Option Addr) (kc : Nat) (la : Option Addr) (lc : Nat) (S : Nat → Prop) (w : World) (hsz : x.size ≤ 1073741824) (hin : x.In w S ka kc la lc)
    (hn : x.fine = false ∨ (x.fine = true ∧ (x.member imageK = none ∨ ∃ i, x.member imageK = some i ∧ ¬ (i.k = 3 ∧ i.s.toList ≠ [])))) :
    Calls Try.prog 18 #[x.val ka kc la lc] w (RetSpec none w) := by
  rcases hn with hf | ⟨hf, hi | ⟨i, hi, hni⟩⟩
  · obtain ⟨i, hi⟩ : ∃ i, (x.member imageK).getD V.zero = i := ⟨_, rfl⟩
    go_enter Try.func18, Try.ntmps18
    go_upto_region 1 with fail
    refine gen_world (R := fun wx => Box wx w.heap.size #[.int .i64 x.k, .int .i64 x.n, .string x.s, .slice ka x.keys.length kc, .slice la x.l.length lc] 40 ∧ Box wx (w.heap.size + 1) #[.string ⟨#[]⟩, .slice none 0 0] 25 ∧ Ext w wx) ⟨(by (with_reducible apply Box.to); (focus (with_reducible repeat (first | assumption | (apply Box.new; (focus (first | rfl | (first | (simp; done) | (simp; omega) | omega)))) | apply Box.set | (apply Box.other; rotate_left; (focus (first | (simp; done) | (simp; omega) | omega))) | apply Box.alloc | apply Box.drew | (apply Box.ext; (focus assumption))))); (first | rfl | (simp; done) | (go_light; simp [*]; done))), (by (with_reducible apply Box.to); (focus (with_reducible repeat (first | assumption | (apply Box.new; (focus (first | rfl | (first | (simp; done) | (simp; omega) | omega)))) | apply Box.set | (apply Box.other; rotate_left; (focus (first | (simp; done) | (simp; omega) | omega))) | apply Box.alloc | apply Box.drew | (apply Box.ext; (focus assumption))))); (first | rfl | (simp; done) | (go_light; simp [*]; done))), (by with_reducible repeat (first | exact Ext.refl _ | assumption | apply Ext.drew | apply Ext.drewN | apply Ext.alloc | (refine Ext.setCell ?_ ?_ _; rotate_left; (focus (first | (simp; done) | (simp; omega) | omega))) | refine Ext.trans ?_ (by assumption)))⟩ ?_
    rintro wa ⟨hB1, hB2, hxa⟩
    have hc1 := hB1.cells; have hf1 := hB1.free; have hl1 := hB1.lt
    go_wp2_with fail
    (refine (memberOf_get hi _ _ _ _ _ _ (by omega) (hin.ext (by with_reducible repeat (first | exact Ext.refl _ | assumption | apply Ext.drew | apply Ext.drewN | apply Ext.alloc | (refine Ext.setCell ?_ ?_ _; rotate_left; (focus (first | (simp; done) | (simp; omega) | omega))) | refine Ext.trans ?_ (by assumption))))).mono ?_); rintro e w2 ⟨ka2, kc2, la2, lc2, rfl, hin2, h2⟩; obtain ⟨hcw2, hfw2, hzw2⟩ := ext_facts h2; (try simp at hzw2); (try have hzAw2 : w.heap.size < w2.heap.size := by omega); (try have hzBw2 : w.heap.size + 1 < w2.heap.size := by omega); (try have hzCw2 : w.heap.size + 2 < w2.heap.size := by omega)
    have hB1 := Box.ext h2 hB1
    have hB2 := Box.ext h2 hB2
    have hx2 : Ext w w2 := (by with_reducible repeat (first | exact Ext.refl _ | assumption | apply Ext.drew | apply Ext.drewN | apply Ext.alloc | (refine Ext.setCell ?_ ?_ _; rotate_left; (focus (first | (simp; done) | (simp; omega) | omega))) | refine Ext.trans ?_ (by assumption)))
    clear hc1 hf1 hl1 hcw2 hfw2
    clear hxa h2
    have hc1 := hB1.cells; have hf1 := hB1.free; have hl1 := hB1.lt
    have hc2 := hB2.cells; have hf2 := hB2.free; have hl2 := hB2.lt
    go_wp2_with fail
    (with_reducible refine (goodValue_any x ka kc la lc _ _ hsz (hin.ext (by with_reducible repeat (first | exact Ext.refl _ | assumption | apply Ext.drew | apply Ext.drewN | apply Ext.alloc | (refine Ext.setCell ?_ ?_ _; rotate_left; (focus (first | (simp; done) | (simp; omega) | omega))) | refine Ext.trans ?_ (by assumption))))).mono ?_); rintro e w3 ⟨rfl, h3⟩; obtain ⟨hcw3, hfw3, hzw3⟩ := ext_facts h3; (try simp at hzw3); (try have hzAw3 : w.heap.size < w3.heap.size := by omega); (try have hzBw3 : w.heap.size + 1 < w3.heap.size := by omega); (try have hzCw3 : w.heap.size + 2 < w3.heap.size := by omega)
    rw [hf]
    go_wp2_with fail
    (with_reducible apply bp_ret); (focus (go_light; simp [results, Try.results18, go_sem, *]; rfl))
    exact .inr ⟨rfl, rfl, (by with_reducible repeat (first | exact Ext.refl _ | assumption | apply Ext.drew | apply Ext.drewN | apply Ext.alloc | (refine Ext.setCell ?_ ?_ _; rotate_left; (focus (first | (simp; done) | (simp; omega) | omega))) | refine Ext.trans ?_ (by assumption)))⟩
  · go_enter Try.func18, Try.ntmps18
    go_wp2_with fail
    (refine (memberOf_none hi ka kc la lc S _ hsz (hin.ext (by with_reducible repeat (first | exact Ext.refl _ | assumption | apply Ext.drew | apply Ext.drewN | apply Ext.alloc | (refine Ext.setCell ?_ ?_ _; rotate_left; (focus (first | (simp; done) | (simp; omega) | omega))) | refine Ext.trans ?_ (by assumption))))).mono ?_); rintro e w2 ⟨rfl, h2⟩; obtain ⟨hcw2, hfw2, hzw2⟩ := ext_facts h2; (try simp at hzw2); (try have hzAw2 : w.heap.size < w2.heap.size := by omega); (try have hzBw2 : w.heap.size + 1 < w2.heap.size := by omega); (try have hzCw2 : w.heap.size + 2 < w2.heap.size := by omega)
    go_wp2_with fail
    (with_reducible refine (goodValue_any x ka kc la lc _ _ hsz (hin.ext (by with_reducible repeat (first | exact Ext.refl _ | assumption | apply Ext.drew | apply Ext.drewN | apply Ext.alloc | (refine Ext.setCell ?_ ?_ _; rotate_left; (focus (first | (simp; done) | (simp; omega) | omega))) | refine Ext.trans ?_ (by assumption))))).mono ?_); rintro e w3 ⟨rfl, h3⟩; obtain ⟨hcw3, hfw3, hzw3⟩ := ext_facts h3; (try simp at hzw3); (try have hzAw3 : w.heap.size < w3.heap.size := by omega); (try have hzBw3 : w.heap.size + 1 < w3.heap.size := by omega); (try have hzCw3 : w.heap.size + 2 < w3.heap.size := by omega)
    rw [hf]
    go_wp2_with fail
    (with_reducible apply bp_ret); (focus (go_light; simp [results, Try.results18, go_sem, *]; rfl))
    exact .inr ⟨rfl, rfl, (by with_reducible repeat (first | exact Ext.refl _ | assumption | apply Ext.drew | apply Ext.drewN | apply Ext.alloc | (refine Ext.setCell ?_ ?_ _; rotate_left; (focus (first | (simp; done) | (simp; omega) | omega))) | refine Ext.trans ?_ (by assumption)))⟩
  · go_enter Try.func18, Try.ntmps18
    go_upto_region 1 with fail
    refine gen_world (R := fun wx => Box wx w.heap.size #[.int .i64 x.k, .int .i64 x.n, .string x.s, .slice ka x.keys.length kc, .slice la x.l.length lc] 40 ∧ Box wx (w.heap.size + 1) #[.string ⟨#[]⟩, .slice none 0 0] 25 ∧ Ext w wx) ⟨(by (with_reducible apply Box.to); (focus (with_reducible repeat (first | assumption | (apply Box.new; (focus (first | rfl | (first | (simp; done) | (simp; omega) | omega)))) | apply Box.set | (apply Box.other; rotate_left; (focus (first | (simp; done) | (simp; omega) | omega))) | apply Box.alloc | apply Box.drew | (apply Box.ext; (focus assumption))))); (first | rfl | (simp; done) | (go_light; simp [*]; done))), (by (with_reducible apply Box.to); (focus (with_reducible repeat (first | assumption | (apply Box.new; (focus (first | rfl | (first | (simp; done) | (simp; omega) | omega)))) | apply Box.set | (apply Box.other; rotate_left; (focus (first | (simp; done) | (simp; omega) | omega))) | apply Box.alloc | apply Box.drew | (apply Box.ext; (focus assumption))))); (first | rfl | (simp; done) | (go_light; simp [*]; done))), (by with_reducible repeat (first | exact Ext.refl _ | assumption | apply Ext.drew | apply Ext.drewN | apply Ext.alloc | (refine Ext.setCell ?_ ?_ _; rotate_left; (focus (first | (simp; done) | (simp; omega) | omega))) | refine Ext.trans ?_ (by assumption)))⟩ ?_
    rintro wa ⟨hB1, hB2, hxa⟩
    have hc1 := hB1.cells; have hf1 := hB1.free; have hl1 := hB1.lt
    go_wp2_with fail
    (refine (memberOf_some hi _ _ _ _ _ _ (by omega) (hin.ext (by with_reducible repeat (first | exact Ext.refl _ | assumption | apply Ext.drew | apply Ext.drewN | apply Ext.alloc | (refine Ext.setCell ?_ ?_ _; rotate_left; (focus (first | (simp; done) | (simp; omega) | omega))) | refine Ext.trans ?_ (by assumption))))).mono ?_); rintro e w2 ⟨ka2, kc2, la2, lc2, rfl, hin2, h2⟩; obtain ⟨hcw2, hfw2, hzw2⟩ := ext_facts h2; (try simp at hzw2); (try have hzAw2 : w.heap.size < w2.heap.size := by omega); (try have hzBw2 : w.heap.size + 1 < w2.heap.size := by omega); (try have hzCw2 : w.heap.size + 2 < w2.heap.size := by omega)
    have hB1 := Box.ext h2 hB1
    have hB2 := Box.ext h2 hB2
    have hx2 : Ext w w2 := (by with_reducible repeat (first | exact Ext.refl _ | assumption | apply Ext.drew | apply Ext.drewN | apply Ext.alloc | (refine Ext.setCell ?_ ?_ _; rotate_left; (focus (first | (simp; done) | (simp; omega) | omega))) | refine Ext.trans ?_ (by assumption)))
    clear hc1 hf1 hl1 hcw2 hfw2
    clear hxa h2
    have hc1 := hB1.cells; have hf1 := hB1.free; have hl1 := hB1.lt
    have hc2 := hB2.cells; have hf2 := hB2.free; have hl2 := hB2.lt
    go_wp2_with fail
    (with_reducible refine (goodValue_any x ka kc la lc _ _ hsz (hin.ext (by with_reducible repeat (first | exact Ext.refl _ | assumption | apply Ext.drew | apply Ext.drewN | apply Ext.alloc | (refine Ext.setCell ?_ ?_ _; rotate_left; (focus (first | (simp; done) | (simp; omega) | omega))) | refine Ext.trans ?_ (by assumption))))).mono ?_); rintro e w3 ⟨rfl, h3⟩; obtain ⟨hcw3, hfw3, hzw3⟩ := ext_facts h3; (try simp at hzw3); (try have hzAw3 : w.heap.size < w3.heap.size := by omega); (try have hzBw3 : w.heap.size + 1 < w3.heap.size := by omega); (try have hzCw3 : w.heap.size + 2 < w3.heap.size := by omega)
    rw [hf]
    by_cases q : i.k = 3
    · have q0 : (i.k == 3) = true := by simpa using q
      have q1 : (i.k != 3) = false := by simpa using q
      have q2 : i.s.toList = [] := Classical.byContradiction fun h => hni ⟨q, h⟩
      have q3 : i.s.toList.isEmpty = true := by rw [q2]; rfl
      go_wp2_with fail
      (with_reducible apply bp_ret); (focus (go_light; simp [results, Try.results18, go_sem, *]; rfl))
      exact .inr ⟨rfl, rfl, (by with_reducible repeat (first | exact Ext.refl _ | assumption | apply Ext.drew | apply Ext.drewN | apply Ext.alloc | (refine Ext.setCell ?_ ?_ _; rotate_left; (focus (first | (simp; done) | (simp; omega) | omega))) | refine Ext.trans ?_ (by assumption)))⟩
    · have q0 : (i.k == 3) = false := by simpa using q
      have q1 : (i.k != 3) = true := by simpa using q
      go_wp2_with fail
      (with_reducible apply bp_ret); (focus (go_light; simp [results, Try.results18, go_sem, *]; rfl))
      exact .inr ⟨rfl, rfl, (by with_reducible repeat (first | exact Ext.refl _ | assumption | apply Ext.drew | apply Ext.drewN | apply Ext.alloc | (refine Ext.setCell ?_ ?_ _; rotate_left; (focus (first | (simp; done) | (simp; omega) | omega))) | refine Ext.trans ?_ (by assumption)))⟩

set_option maxRecDepth 100000 in
set_option maxHeartbeats 4000000 in
theorem refRead_short (x i : V) (ka : Option Addr) (kc : Nat) (la : Option Addr) (lc : Nat) (S : Nat → Prop) (w : World) (hsz : x.size ≤ 1073741824) (hin : x.In w S ka kc la lc)
    (hf : x.fine = true) (hi : x.member imageK = some i) (q : i.k = 3) (hs : i.s.toList ≠ []) (r : Option (ByteArray × List (Int × Int)))
    (hn : (x.member stepsK = none ∧ r = some (i.s, [])) ∨ (∃ t, x.member stepsK = some t ∧ ¬ (t.k = 4 ∧ t.l.length ≤ 8) ∧ r = none)) :
    Calls Try.prog 18 #[x.val ka kc la lc] w (RetSpec r w) := by
  have q0 : (i.k == 3) = true := by simpa using q
  have q1 : (i.k != 3) = false := by simpa using q
  have q3 := textB hs
  rcases hn with ⟨ht, rfl⟩ | ⟨t, ht, hnt, rfl⟩
  · skip
    go_enter Try.func18, Try.ntmps18
    go_upto_region 1 with fail
    refine gen_world (R := fun wx => Box wx w.heap.size #[.int .i64 x.k, .int .i64 x.n, .string x.s, .slice ka x.keys.length kc, .slice la x.l.length lc] 40 ∧ Box wx (w.heap.size + 1) #[.string ⟨#[]⟩, .slice none 0 0] 25 ∧ Ext w wx) ⟨(by (with_reducible apply Box.to); (focus (with_reducible repeat (first | assumption | (apply Box.new; (focus (first | rfl | (first | (simp; done) | (simp; omega) | omega)))) | apply Box.set | (apply Box.other; rotate_left; (focus (first | (simp; done) | (simp; omega) | omega))) | apply Box.alloc | apply Box.drew | (apply Box.ext; (focus assumption))))); (first | rfl | (simp; done) | (go_light; simp [*]; done))), (by (with_reducible apply Box.to); (focus (with_reducible repeat (first | assumption | (apply Box.new; (focus (first | rfl | (first | (simp; done) | (simp; omega) | omega)))) | apply Box.set | (apply Box.other; rotate_left; (focus (first | (simp; done) | (simp; omega) | omega))) | apply Box.alloc | apply Box.drew | (apply Box.ext; (focus assumption))))); (first | rfl | (simp; done) | (go_light; simp [*]; done))), (by with_reducible repeat (first | exact Ext.refl _ | assumption | apply Ext.drew | apply Ext.drewN | apply Ext.alloc | (refine Ext.setCell ?_ ?_ _; rotate_left; (focus (first | (simp; done) | (simp; omega) | omega))) | refine Ext.trans ?_ (by assumption)))⟩ ?_
    rintro wa ⟨hB1, hB2, hxa⟩
    have hc1 := hB1.cells; have hf1 := hB1.free; have hl1 := hB1.lt
    go_wp2_with fail
    (refine (memberOf_some hi _ _ _ _ _ _ (by omega) (hin.ext (by with_reducible repeat (first | exact Ext.refl _ | assumption | apply Ext.drew | apply Ext.drewN | apply Ext.alloc | (refine Ext.setCell ?_ ?_ _; rotate_left; (focus (first | (simp; done) | (simp; omega) | omega))) | refine Ext.trans ?_ (by assumption))))).mono ?_); rintro e w2 ⟨ka2, kc2, la2, lc2, rfl, hin2, h2⟩; obtain ⟨hcw2, hfw2, hzw2⟩ := ext_facts h2; (try simp at hzw2); (try have hzAw2 : w.heap.size < w2.heap.size := by omega); (try have hzBw2 : w.heap.size + 1 < w2.heap.size := by omega); (try have hzCw2 : w.heap.size + 2 < w2.heap.size := by omega)
    have hB1 := Box.ext h2 hB1
    have hB2 := Box.ext h2 hB2
    have hx2 : Ext w w2 := (by with_reducible repeat (first | exact Ext.refl _ | assumption | apply Ext.drew | apply Ext.drewN | apply Ext.alloc | (refine Ext.setCell ?_ ?_ _; rotate_left; (focus (first | (simp; done) | (simp; omega) | omega))) | refine Ext.trans ?_ (by assumption)))
    clear hc1 hf1 hl1 hcw2 hfw2
    clear hxa h2
    have hc1 := hB1.cells; have hf1 := hB1.free; have hl1 := hB1.lt
    have hc2 := hB2.cells; have hf2 := hB2.free; have hl2 := hB2.lt
    go_wp2_with fail
    (with_reducible refine (goodValue_any x ka kc la lc _ _ hsz (hin.ext (by with_reducible repeat (first | exact Ext.refl _ | assumption | apply Ext.drew | apply Ext.drewN | apply Ext.alloc | (refine Ext.setCell ?_ ?_ _; rotate_left; (focus (first | (simp; done) | (simp; omega) | omega))) | refine Ext.trans ?_ (by assumption))))).mono ?_); rintro e w3 ⟨rfl, h3⟩; obtain ⟨hcw3, hfw3, hzw3⟩ := ext_facts h3; (try simp at hzw3); (try have hzAw3 : w.heap.size < w3.heap.size := by omega); (try have hzBw3 : w.heap.size + 1 < w3.heap.size := by omega); (try have hzCw3 : w.heap.size + 2 < w3.heap.size := by omega)
    rw [hf]
    have hB4 : Box w3 w2.heap.size #[.int .i64 i.k, .int .i64 i.n, .string i.s, .slice ka2 i.keys.length kc2, .slice la2 i.l.length lc2] 40 := Box.ext h3 (by (with_reducible apply Box.to); (focus (with_reducible repeat (first | assumption | (apply Box.new; (focus (first | rfl | (first | (simp; done) | (simp; omega) | omega)))) | apply Box.set | (apply Box.other; rotate_left; (focus (first | (simp; done) | (simp; omega) | omega))) | apply Box.alloc | apply Box.drew | (apply Box.ext; (focus assumption))))); (first | rfl | (simp; done) | (go_light; simp [*]; done)))
    have hB1 := Box.ext (w := w2) (w' := w3) (by with_reducible repeat (first | exact Ext.refl _ | assumption | apply Ext.drew | apply Ext.drewN | apply Ext.alloc | (refine Ext.setCell ?_ ?_ _; rotate_left; (focus (first | (simp; done) | (simp; omega) | omega))) | refine Ext.trans ?_ (by assumption))) hB1
    have hB2 := Box.ext (w := w2) (w' := w3) (by with_reducible repeat (first | exact Ext.refl _ | assumption | apply Ext.drew | apply Ext.drewN | apply Ext.alloc | (refine Ext.setCell ?_ ?_ _; rotate_left; (focus (first | (simp; done) | (simp; omega) | omega))) | refine Ext.trans ?_ (by assumption))) hB2
    have hw2 := hB2.lt
    have hx3 : Ext w w3 := (by with_reducible repeat (first | exact Ext.refl _ | assumption | apply Ext.drew | apply Ext.drewN | apply Ext.alloc | (refine Ext.setCell ?_ ?_ _; rotate_left; (focus (first | (simp; done) | (simp; omega) | omega))) | refine Ext.trans ?_ (by assumption)))
    clear hcw3 hfw3 hc1 hf1 hl1 hc2 hf2 hl2
    clear hx2 h3
    have hc4 := hB4.cells; have hf4 := hB4.free; have hl4 := hB4.lt
    go_upto_region 5 with fail
    refine gen_world (R := fun wx => Box wx w.heap.size #[.int .i64 x.k, .int .i64 x.n, .string x.s, .slice ka x.keys.length kc, .slice la x.l.length lc] 40 ∧ Box wx (w.heap.size + 1) #[.string ⟨#[]⟩, .slice none 0 0] 25 ∧ Box wx w3.heap.size #[.string i.s, .slice none 0 0] 25 ∧ Ext w wx) ⟨(by (with_reducible apply Box.to); (focus (with_reducible repeat (first | assumption | (apply Box.new; (focus (first | rfl | (first | (simp; done) | (simp; omega) | omega)))) | apply Box.set | (apply Box.other; rotate_left; (focus (first | (simp; done) | (simp; omega) | omega))) | apply Box.alloc | apply Box.drew | (apply Box.ext; (focus assumption))))); (first | rfl | (simp; done) | (go_light; simp [*]; done))), (by (with_reducible apply Box.to); (focus (with_reducible repeat (first | assumption | (apply Box.new; (focus (first | rfl | (first | (simp; done) | (simp; omega) | omega)))) | apply Box.set | (apply Box.other; rotate_left; (focus (first | (simp; done) | (simp; omega) | omega))) | apply Box.alloc | apply Box.drew | (apply Box.ext; (focus assumption))))); (first | rfl | (simp; done) | (go_light; simp [*]; done))), (by (with_reducible apply Box.to); (focus (with_reducible repeat (first | assumption | (apply Box.new; (focus (first | rfl | (first | (simp; done) | (simp; omega) | omega)))) | apply Box.set | (apply Box.other; rotate_left; (focus (first | (simp; done) | (simp; omega) | omega))) | apply Box.alloc | apply Box.drew | (apply Box.ext; (focus assumption))))); (first | rfl | (simp; done) | (go_light; simp [*]; done))), (by with_reducible repeat (first | exact Ext.refl _ | assumption | apply Ext.drew | apply Ext.drewN | apply Ext.alloc | (refine Ext.setCell ?_ ?_ _; rotate_left; (focus (first | (simp; done) | (simp; omega) | omega))) | refine Ext.trans ?_ (by assumption)))⟩ ?_
    clear hB1 hB2 hB4 hc4 hf4 hl4
    rintro wb ⟨hB1, hB2, hB6, hxb⟩
    have hc1 := hB1.cells; have hf1 := hB1.free; have hl1 := hB1.lt
    have hc2 := hB2.cells; have hf2 := hB2.free; have hl2 := hB2.lt
    have hc6 := hB6.cells; have hf6 := hB6.free; have hl6 := hB6.lt
    go_wp2_with fail
    (refine (memberOf_none ht ka kc la lc S _ hsz (hin.ext (by with_reducible repeat (first | exact Ext.refl _ | assumption | apply Ext.drew | apply Ext.drewN | apply Ext.alloc | (refine Ext.setCell ?_ ?_ _; rotate_left; (focus (first | (simp; done) | (simp; omega) | omega))) | refine Ext.trans ?_ (by assumption))))).mono ?_); rintro e w4 ⟨rfl, h4⟩; obtain ⟨hcw4, hfw4, hzw4⟩ := ext_facts h4; (try simp at hzw4); (try have hzAw4 : w.heap.size < w4.heap.size := by omega); (try have hzBw4 : w.heap.size + 1 < w4.heap.size := by omega); (try have hzCw4 : w.heap.size + 2 < w4.heap.size := by omega)
    have hB2 := Box.ext h4 hB2
    have hB6 := Box.ext h4 hB6
    have hx4 : Ext w w4 := (by with_reducible repeat (first | exact Ext.refl _ | assumption | apply Ext.drew | apply Ext.drewN | apply Ext.alloc | (refine Ext.setCell ?_ ?_ _; rotate_left; (focus (first | (simp; done) | (simp; omega) | omega))) | refine Ext.trans ?_ (by assumption)))
    clear hc1 hf1 hl1 hc2 hf2 hl2 hc6 hf6 hl6 hB1
    clear h4 hxb
    have hc2 := hB2.cells; have hf2 := hB2.free; have hl2 := hB2.lt
    have hc6 := hB6.cells; have hf6 := hB6.free; have hl6 := hB6.lt
    go_wp2_with fail
    go_loopg [9, 10, 11, 59] 0 (fun g _ _ _ i' wr => i' = .int .i64 0 ∧ g = 0 ∧ Box wr (w.heap.size + 1) #[.string ⟨#[]⟩, .slice none 0 0] 25 ∧ Box wr (w3.heap.size) #[.string i.s, .slice none 0 0] 25 ∧ Ext w wr)
    case atStart => exact ⟨rfl, rfl, (by (with_reducible apply Box.to); (focus (with_reducible repeat (first | assumption | (apply Box.new; (focus (first | rfl | (first | (simp; done) | (simp; omega) | omega)))) | apply Box.set | (apply Box.other; rotate_left; (focus (first | (simp; done) | (simp; omega) | omega))) | apply Box.alloc | apply Box.drew | (apply Box.ext; (focus assumption))))); (first | rfl | (simp; done) | (go_light; simp [*]; done))), (by (with_reducible apply Box.to); (focus (with_reducible repeat (first | assumption | (apply Box.new; (focus (first | rfl | (first | (simp; done) | (simp; omega) | omega)))) | apply Box.set | (apply Box.other; rotate_left; (focus (first | (simp; done) | (simp; omega) | omega))) | apply Box.alloc | apply Box.drew | (apply Box.ext; (focus assumption))))); (first | rfl | (simp; done) | (go_light; simp [*]; done))), (by with_reducible repeat (first | exact Ext.refl _ | assumption | apply Ext.drew | apply Ext.drewN | apply Ext.alloc | (refine Ext.setCell ?_ ?_ _; rotate_left; (focus (first | (simp; done) | (simp; omega) | omega))) | refine Ext.trans ?_ (by assumption)))⟩
    case round =>
      obtain ⟨rfl, rfl, hB2, hB6, hx⟩ := hrel
      clear hc2 hf2 hl2 hc6 hf6 hl6
      have hc2 := hB2.cells; have hf2 := hB2.free; have hl2 := hB2.lt
      have hc6 := hB6.cells; have hf6 := hB6.free; have hl6 := hB6.lt
      go_wp2_with fail
      (with_reducible apply bp_ret); (focus (go_light; simp [results, Try.results18, go_sem, *]; rfl))
      exact .inl ⟨_, _, _, _, _, rfl, rfl, rfl, .inl rfl, (by with_reducible repeat (first | exact Ext.refl _ | assumption | apply Ext.drew | apply Ext.drewN | apply Ext.alloc | (refine Ext.setCell ?_ ?_ _; rotate_left; (focus (first | (simp; done) | (simp; omega) | omega))) | refine Ext.trans ?_ (by assumption)))⟩
  · have Hnt := Lib.hid hnt
    have hts := member_size ht
    have htl := t.len_l
    skip
    go_enter Try.func18, Try.ntmps18
    go_upto_region 1 with fail
    refine gen_world (R := fun wx => Box wx w.heap.size #[.int .i64 x.k, .int .i64 x.n, .string x.s, .slice ka x.keys.length kc, .slice la x.l.length lc] 40 ∧ Box wx (w.heap.size + 1) #[.string ⟨#[]⟩, .slice none 0 0] 25 ∧ Ext w wx) ⟨(by (with_reducible apply Box.to); (focus (with_reducible repeat (first | assumption | (apply Box.new; (focus (first | rfl | (first | (simp; done) | (simp; omega) | omega)))) | apply Box.set | (apply Box.other; rotate_left; (focus (first | (simp; done) | (simp; omega) | omega))) | apply Box.alloc | apply Box.drew | (apply Box.ext; (focus assumption))))); (first | rfl | (simp; done) | (go_light; simp [*]; done))), (by (with_reducible apply Box.to); (focus (with_reducible repeat (first | assumption | (apply Box.new; (focus (first | rfl | (first | (simp; done) | (simp; omega) | omega)))) | apply Box.set | (apply Box.other; rotate_left; (focus (first | (simp; done) | (simp; omega) | omega))) | apply Box.alloc | apply Box.drew | (apply Box.ext; (focus assumption))))); (first | rfl | (simp; done) | (go_light; simp [*]; done))), (by with_reducible repeat (first | exact Ext.refl _ | assumption | apply Ext.drew | apply Ext.drewN | apply Ext.alloc | (refine Ext.setCell ?_ ?_ _; rotate_left; (focus (first | (simp; done) | (simp; omega) | omega))) | refine Ext.trans ?_ (by assumption)))⟩ ?_
    rintro wa ⟨hB1, hB2, hxa⟩
    have hc1 := hB1.cells; have hf1 := hB1.free; have hl1 := hB1.lt
    go_wp2_with fail
    (refine (memberOf_some hi _ _ _ _ _ _ (by omega) (hin.ext (by with_reducible repeat (first | exact Ext.refl _ | assumption | apply Ext.drew | apply Ext.drewN | apply Ext.alloc | (refine Ext.setCell ?_ ?_ _; rotate_left; (focus (first | (simp; done) | (simp; omega) | omega))) | refine Ext.trans ?_ (by assumption))))).mono ?_); rintro e w2 ⟨ka2, kc2, la2, lc2, rfl, hin2, h2⟩; obtain ⟨hcw2, hfw2, hzw2⟩ := ext_facts h2; (try simp at hzw2); (try have hzAw2 : w.heap.size < w2.heap.size := by omega); (try have hzBw2 : w.heap.size + 1 < w2.heap.size := by omega); (try have hzCw2 : w.heap.size + 2 < w2.heap.size := by omega)
    have hB1 := Box.ext h2 hB1
    have hB2 := Box.ext h2 hB2
    have hx2 : Ext w w2 := (by with_reducible repeat (first | exact Ext.refl _ | assumption | apply Ext.drew | apply Ext.drewN | apply Ext.alloc | (refine Ext.setCell ?_ ?_ _; rotate_left; (focus (first | (simp; done) | (simp; omega) | omega))) | refine Ext.trans ?_ (by assumption)))
    clear hc1 hf1 hl1 hcw2 hfw2
    clear hxa h2
    have hc1 := hB1.cells; have hf1 := hB1.free; have hl1 := hB1.lt
    have hc2 := hB2.cells; have hf2 := hB2.free; have hl2 := hB2.lt
    go_wp2_with fail
    (with_reducible refine (goodValue_any x ka kc la lc _ _ hsz (hin.ext (by with_reducible repeat (first | exact Ext.refl _ | assumption | apply Ext.drew | apply Ext.drewN | apply Ext.alloc | (refine Ext.setCell ?_ ?_ _; rotate_left; (focus (first | (simp; done) | (simp; omega) | omega))) | refine Ext.trans ?_ (by assumption))))).mono ?_); rintro e w3 ⟨rfl, h3⟩; obtain ⟨hcw3, hfw3, hzw3⟩ := ext_facts h3; (try simp at hzw3); (try have hzAw3 : w.heap.size < w3.heap.size := by omega); (try have hzBw3 : w.heap.size + 1 < w3.heap.size := by omega); (try have hzCw3 : w.heap.size + 2 < w3.heap.size := by omega)
    rw [hf]
    have hB4 : Box w3 w2.heap.size #[.int .i64 i.k, .int .i64 i.n, .string i.s, .slice ka2 i.keys.length kc2, .slice la2 i.l.length lc2] 40 := Box.ext h3 (by (with_reducible apply Box.to); (focus (with_reducible repeat (first | assumption | (apply Box.new; (focus (first | rfl | (first | (simp; done) | (simp; omega) | omega)))) | apply Box.set | (apply Box.other; rotate_left; (focus (first | (simp; done) | (simp; omega) | omega))) | apply Box.alloc | apply Box.drew | (apply Box.ext; (focus assumption))))); (first | rfl | (simp; done) | (go_light; simp [*]; done)))
    have hB1 := Box.ext (w := w2) (w' := w3) (by with_reducible repeat (first | exact Ext.refl _ | assumption | apply Ext.drew | apply Ext.drewN | apply Ext.alloc | (refine Ext.setCell ?_ ?_ _; rotate_left; (focus (first | (simp; done) | (simp; omega) | omega))) | refine Ext.trans ?_ (by assumption))) hB1
    have hB2 := Box.ext (w := w2) (w' := w3) (by with_reducible repeat (first | exact Ext.refl _ | assumption | apply Ext.drew | apply Ext.drewN | apply Ext.alloc | (refine Ext.setCell ?_ ?_ _; rotate_left; (focus (first | (simp; done) | (simp; omega) | omega))) | refine Ext.trans ?_ (by assumption))) hB2
    have hw2 := hB2.lt
    have hx3 : Ext w w3 := (by with_reducible repeat (first | exact Ext.refl _ | assumption | apply Ext.drew | apply Ext.drewN | apply Ext.alloc | (refine Ext.setCell ?_ ?_ _; rotate_left; (focus (first | (simp; done) | (simp; omega) | omega))) | refine Ext.trans ?_ (by assumption)))
    clear hcw3 hfw3 hc1 hf1 hl1 hc2 hf2 hl2
    clear hx2 h3
    have hc4 := hB4.cells; have hf4 := hB4.free; have hl4 := hB4.lt
    go_upto_region 5 with fail
    refine gen_world (R := fun wx => Box wx w.heap.size #[.int .i64 x.k, .int .i64 x.n, .string x.s, .slice ka x.keys.length kc, .slice la x.l.length lc] 40 ∧ Box wx (w.heap.size + 1) #[.string ⟨#[]⟩, .slice none 0 0] 25 ∧ Box wx w3.heap.size #[.string i.s, .slice none 0 0] 25 ∧ Ext w wx) ⟨(by (with_reducible apply Box.to); (focus (with_reducible repeat (first | assumption | (apply Box.new; (focus (first | rfl | (first | (simp; done) | (simp; omega) | omega)))) | apply Box.set | (apply Box.other; rotate_left; (focus (first | (simp; done) | (simp; omega) | omega))) | apply Box.alloc | apply Box.drew | (apply Box.ext; (focus assumption))))); (first | rfl | (simp; done) | (go_light; simp [*]; done))), (by (with_reducible apply Box.to); (focus (with_reducible repeat (first | assumption | (apply Box.new; (focus (first | rfl | (first | (simp; done) | (simp; omega) | omega)))) | apply Box.set | (apply Box.other; rotate_left; (focus (first | (simp; done) | (simp; omega) | omega))) | apply Box.alloc | apply Box.drew | (apply Box.ext; (focus assumption))))); (first | rfl | (simp; done) | (go_light; simp [*]; done))), (by (with_reducible apply Box.to); (focus (with_reducible repeat (first | assumption | (apply Box.new; (focus (first | rfl | (first | (simp; done) | (simp; omega) | omega)))) | apply Box.set | (apply Box.other; rotate_left; (focus (first | (simp; done) | (simp; omega) | omega))) | apply Box.alloc | apply Box.drew | (apply Box.ext; (focus assumption))))); (first | rfl | (simp; done) | (go_light; simp [*]; done))), (by with_reducible repeat (first | exact Ext.refl _ | assumption | apply Ext.drew | apply Ext.drewN | apply Ext.alloc | (refine Ext.setCell ?_ ?_ _; rotate_left; (focus (first | (simp; done) | (simp; omega) | omega))) | refine Ext.trans ?_ (by assumption)))⟩ ?_
    clear hB1 hB2 hB4 hc4 hf4 hl4
    rintro wb ⟨hB1, hB2, hB6, hxb⟩
    have hc1 := hB1.cells; have hf1 := hB1.free; have hl1 := hB1.lt
    have hc2 := hB2.cells; have hf2 := hB2.free; have hl2 := hB2.lt
    have hc6 := hB6.cells; have hf6 := hB6.free; have hl6 := hB6.lt
    go_wp2_with fail
    (refine (memberOf_some ht _ _ _ _ _ _ (by omega) (hin.ext (by with_reducible repeat (first | exact Ext.refl _ | assumption | apply Ext.drew | apply Ext.drewN | apply Ext.alloc | (refine Ext.setCell ?_ ?_ _; rotate_left; (focus (first | (simp; done) | (simp; omega) | omega))) | refine Ext.trans ?_ (by assumption))))).mono ?_); rintro e w4 ⟨ka4, kc4, la4, lc4, rfl, hin4, h4⟩; obtain ⟨hcw4, hfw4, hzw4⟩ := ext_facts h4; (try simp at hzw4); (try have hzAw4 : w.heap.size < w4.heap.size := by omega); (try have hzBw4 : w.heap.size + 1 < w4.heap.size := by omega); (try have hzCw4 : w.heap.size + 2 < w4.heap.size := by omega)
    have hB2 := Box.ext h4 hB2
    have hx4 : Ext w w4 := (by with_reducible repeat (first | exact Ext.refl _ | assumption | apply Ext.drew | apply Ext.drewN | apply Ext.alloc | (refine Ext.setCell ?_ ?_ _; rotate_left; (focus (first | (simp; done) | (simp; omega) | omega))) | refine Ext.trans ?_ (by assumption)))
    clear hc1 hf1 hl1 hc2 hf2 hl2 hc6 hf6 hl6 hB1 hB6
    clear h4 hxb
    have hc2 := hB2.cells; have hf2 := hB2.free; have hl2 := hB2.lt
    by_cases p : t.k = 4
    · have p0 : (t.k == 4) = true := by simpa using p
      have p1 : (t.k != 4) = false := by simpa using p
      have p2 : (8 : Int) < (t.l.length : Int) := by have := Hnt.out; omega
      go_wp2_with fail
      (with_reducible apply bp_ret); (focus (go_light; simp [results, Try.results18, go_sem, *]; rfl))
      exact .inr ⟨rfl, rfl, (by with_reducible repeat (first | exact Ext.refl _ | assumption | apply Ext.drew | apply Ext.drewN | apply Ext.alloc | (refine Ext.setCell ?_ ?_ _; rotate_left; (focus (first | (simp; done) | (simp; omega) | omega))) | refine Ext.trans ?_ (by assumption)))⟩
    · have p0 : (t.k == 4) = false := by simpa using p
      have p1 : (t.k != 4) = true := by simpa using p
      go_wp2_with fail
      (with_reducible apply bp_ret); (focus (go_light; simp [results, Try.results18, go_sem, *]; rfl))
      exact .inr ⟨rfl, rfl, (by with_reducible repeat (first | exact Ext.refl _ | assumption | apply Ext.drew | apply Ext.drewN | apply Ext.alloc | (refine Ext.setCell ?_ ?_ _; rotate_left; (focus (first | (simp; done) | (simp; omega) | omega))) | refine Ext.trans ?_ (by assumption)))⟩

set_option maxRecDepth 100000 in
set_option maxHeartbeats 16000000 in
theorem refRead_loop (x i t : V) (ka : Option Addr) (kc : Nat) (la : Option Addr) (lc : Nat) (S0 : Nat → Prop) (w : World) (hsz : x.size ≤ 1073741824) (hin0 : x.In w S0 ka kc la lc)
    (hf : x.fine = true) (hi : x.member imageK = some i) (q : i.k = 3) (hs : i.s.toList ≠ []) (ht : x.member stepsK = some t) (p : t.k = 4) (hlen : t.l.length ≤ 8) :
    Calls Try.prog 18 #[x.val ka kc la lc] w (RetSpec (specOf x) w) := by
  have hin : x.In w (fun b => b < w.heap.size) ka kc la lc := hin0.mono fun b _ h => h
  clear hin0
  obtain ⟨j0, hj, hy0, hy1, hy2⟩ := info_parts infoStepR
  have hsp := specOf_spec hf hi q hs ht p hlen
  have q0 : (i.k == 3) = true := by simpa using q
  have q1 : (i.k != 3) = false := by simpa using q
  have q3 := textB hs
  have hts := member_size ht
  have htl := t.len_l
  have p0 : (t.k == 4) = true := by simpa using p
  have p1 : (t.k != 4) = false := by simpa using p
  have p2 : ¬ (8 : Int) < (t.l.length : Int) := by omega
  have p3 : (t.l.length : Int) ≤ 8 := by omega
  have Hspec := Lib.hid hsp
  clear hsp q hs p
  skip
  go_enter Try.func18, Try.ntmps18
  go_upto_region 1 with fail
  refine gen_world (R := fun wx => Box wx w.heap.size #[.int .i64 x.k, .int .i64 x.n, .string x.s, .slice ka x.keys.length kc, .slice la x.l.length lc] 40 ∧ Box wx (w.heap.size + 1) #[.string ⟨#[]⟩, .slice none 0 0] 25 ∧ Ext w wx) ⟨(by (with_reducible apply Box.to); (focus (with_reducible repeat (first | assumption | (apply Box.new; (focus (first | rfl | (first | (simp; done) | (simp; omega) | omega)))) | apply Box.set | (apply Box.other; rotate_left; (focus (first | (simp; done) | (simp; omega) | omega))) | apply Box.alloc | apply Box.drew | (apply Box.ext; (focus assumption))))); (first | rfl | (simp; done) | (go_light; simp [*]; done))), (by (with_reducible apply Box.to); (focus (with_reducible repeat (first | assumption | (apply Box.new; (focus (first | rfl | (first | (simp; done) | (simp; omega) | omega)))) | apply Box.set | (apply Box.other; rotate_left; (focus (first | (simp; done) | (simp; omega) | omega))) | apply Box.alloc | apply Box.drew | (apply Box.ext; (focus assumption))))); (first | rfl | (simp; done) | (go_light; simp [*]; done))), (by with_reducible repeat (first | exact Ext.refl _ | assumption | apply Ext.drew | apply Ext.drewN | apply Ext.alloc | (refine Ext.setCell ?_ ?_ _; rotate_left; (focus (first | (simp; done) | (simp; omega) | omega))) | refine Ext.trans ?_ (by assumption)))⟩ ?_
  rintro wa ⟨hB1, hB2, hxa⟩
  have hc1 := hB1.cells; have hf1 := hB1.free; have hl1 := hB1.lt
  go_wp2_with fail
  (refine (memberOf_some hi _ _ _ _ _ _ (by omega) (hin.ext (by with_reducible repeat (first | exact Ext.refl _ | assumption | apply Ext.drew | apply Ext.drewN | apply Ext.alloc | (refine Ext.setCell ?_ ?_ _; rotate_left; (focus (first | (simp; done) | (simp; omega) | omega))) | refine Ext.trans ?_ (by assumption))))).mono ?_); rintro e w2 ⟨ka2, kc2, la2, lc2, rfl, hin2, h2⟩; obtain ⟨hcw2, hfw2, hzw2⟩ := ext_facts h2; (try simp at hzw2); (try have hzAw2 : w.heap.size < w2.heap.size := by omega); (try have hzBw2 : w.heap.size + 1 < w2.heap.size := by omega); (try have hzCw2 : w.heap.size + 2 < w2.heap.size := by omega)
  have hB1 := Box.ext h2 hB1
  have hB2 := Box.ext h2 hB2
  have hx2 : Ext w w2 := (by with_reducible repeat (first | exact Ext.refl _ | assumption | apply Ext.drew | apply Ext.drewN | apply Ext.alloc | (refine Ext.setCell ?_ ?_ _; rotate_left; (focus (first | (simp; done) | (simp; omega) | omega))) | refine Ext.trans ?_ (by assumption)))
  clear hc1 hf1 hl1 hcw2 hfw2
  clear hxa h2
  have hc1 := hB1.cells; have hf1 := hB1.free; have hl1 := hB1.lt
  have hc2 := hB2.cells; have hf2 := hB2.free; have hl2 := hB2.lt
  go_wp2_with fail
  (with_reducible refine (goodValue_any x ka kc la lc _ _ hsz (hin.ext (by with_reducible repeat (first | exact Ext.refl _ | assumption | apply Ext.drew | apply Ext.drewN | apply Ext.alloc | (refine Ext.setCell ?_ ?_ _; rotate_left; (focus (first | (simp; done) | (simp; omega) | omega))) | refine Ext.trans ?_ (by assumption))))).mono ?_); rintro e w3 ⟨rfl, h3⟩; obtain ⟨hcw3, hfw3, hzw3⟩ := ext_facts h3; (try simp at hzw3); (try have hzAw3 : w.heap.size < w3.heap.size := by omega); (try have hzBw3 : w.heap.size + 1 < w3.heap.size := by omega); (try have hzCw3 : w.heap.size + 2 < w3.heap.size := by omega)
  rw [hf]
  have hB4 : Box w3 w2.heap.size #[.int .i64 i.k, .int .i64 i.n, .string i.s, .slice ka2 i.keys.length kc2, .slice la2 i.l.length lc2] 40 := Box.ext h3 (by (with_reducible apply Box.to); (focus (with_reducible repeat (first | assumption | (apply Box.new; (focus (first | rfl | (first | (simp; done) | (simp; omega) | omega)))) | apply Box.set | (apply Box.other; rotate_left; (focus (first | (simp; done) | (simp; omega) | omega))) | apply Box.alloc | apply Box.drew | (apply Box.ext; (focus assumption))))); (first | rfl | (simp; done) | (go_light; simp [*]; done)))
  have hB1 := Box.ext (w := w2) (w' := w3) (by with_reducible repeat (first | exact Ext.refl _ | assumption | apply Ext.drew | apply Ext.drewN | apply Ext.alloc | (refine Ext.setCell ?_ ?_ _; rotate_left; (focus (first | (simp; done) | (simp; omega) | omega))) | refine Ext.trans ?_ (by assumption))) hB1
  have hB2 := Box.ext (w := w2) (w' := w3) (by with_reducible repeat (first | exact Ext.refl _ | assumption | apply Ext.drew | apply Ext.drewN | apply Ext.alloc | (refine Ext.setCell ?_ ?_ _; rotate_left; (focus (first | (simp; done) | (simp; omega) | omega))) | refine Ext.trans ?_ (by assumption))) hB2
  have hw2 := hB2.lt
  have hx3 : Ext w w3 := (by with_reducible repeat (first | exact Ext.refl _ | assumption | apply Ext.drew | apply Ext.drewN | apply Ext.alloc | (refine Ext.setCell ?_ ?_ _; rotate_left; (focus (first | (simp; done) | (simp; omega) | omega))) | refine Ext.trans ?_ (by assumption)))
  clear hcw3 hfw3 hc1 hf1 hl1 hc2 hf2 hl2
  clear hx2 h3
  have hc4 := hB4.cells; have hf4 := hB4.free; have hl4 := hB4.lt
  go_upto_region 5 with fail
  refine gen_world (R := fun wx => Box wx w.heap.size #[.int .i64 x.k, .int .i64 x.n, .string x.s, .slice ka x.keys.length kc, .slice la x.l.length lc] 40 ∧ Box wx (w.heap.size + 1) #[.string ⟨#[]⟩, .slice none 0 0] 25 ∧ Box wx w3.heap.size #[.string i.s, .slice none 0 0] 25 ∧ Ext w wx) ⟨(by (with_reducible apply Box.to); (focus (with_reducible repeat (first | assumption | (apply Box.new; (focus (first | rfl | (first | (simp; done) | (simp; omega) | omega)))) | apply Box.set | (apply Box.other; rotate_left; (focus (first | (simp; done) | (simp; omega) | omega))) | apply Box.alloc | apply Box.drew | (apply Box.ext; (focus assumption))))); (first | rfl | (simp; done) | (go_light; simp [*]; done))), (by (with_reducible apply Box.to); (focus (with_reducible repeat (first | assumption | (apply Box.new; (focus (first | rfl | (first | (simp; done) | (simp; omega) | omega)))) | apply Box.set | (apply Box.other; rotate_left; (focus (first | (simp; done) | (simp; omega) | omega))) | apply Box.alloc | apply Box.drew | (apply Box.ext; (focus assumption))))); (first | rfl | (simp; done) | (go_light; simp [*]; done))), (by (with_reducible apply Box.to); (focus (with_reducible repeat (first | assumption | (apply Box.new; (focus (first | rfl | (first | (simp; done) | (simp; omega) | omega)))) | apply Box.set | (apply Box.other; rotate_left; (focus (first | (simp; done) | (simp; omega) | omega))) | apply Box.alloc | apply Box.drew | (apply Box.ext; (focus assumption))))); (first | rfl | (simp; done) | (go_light; simp [*]; done))), (by with_reducible repeat (first | exact Ext.refl _ | assumption | apply Ext.drew | apply Ext.drewN | apply Ext.alloc | (refine Ext.setCell ?_ ?_ _; rotate_left; (focus (first | (simp; done) | (simp; omega) | omega))) | refine Ext.trans ?_ (by assumption)))⟩ ?_
  clear hB1 hB2 hB4 hc4 hf4 hl4
  rintro wb ⟨hB1, hB2, hB6, hxb⟩
  have hc1 := hB1.cells; have hf1 := hB1.free; have hl1 := hB1.lt
  have hc2 := hB2.cells; have hf2 := hB2.free; have hl2 := hB2.lt
  have hc6 := hB6.cells; have hf6 := hB6.free; have hl6 := hB6.lt
  go_wp2_with fail
  (refine (memberOf_some ht _ _ _ _ _ _ (by omega) (hin.ext (by with_reducible repeat (first | exact Ext.refl _ | assumption | apply Ext.drew | apply Ext.drewN | apply Ext.alloc | (refine Ext.setCell ?_ ?_ _; rotate_left; (focus (first | (simp; done) | (simp; omega) | omega))) | refine Ext.trans ?_ (by assumption))))).mono ?_); rintro e w4 ⟨ka4, kc4, la4, lc4, rfl, hin4, h4⟩; obtain ⟨hcw4, hfw4, hzw4⟩ := ext_facts h4; (try simp at hzw4); (try have hzAw4 : w.heap.size < w4.heap.size := by omega); (try have hzBw4 : w.heap.size + 1 < w4.heap.size := by omega); (try have hzCw4 : w.heap.size + 2 < w4.heap.size := by omega)
  have hw3 : w3.heap.size < wb.heap.size := hB6.lt
  have hB2 := Box.ext h4 hB2
  have hB6 := Box.ext h4 hB6
  have hx4 : Ext w w4 := (by with_reducible repeat (first | exact Ext.refl _ | assumption | apply Ext.drew | apply Ext.drewN | apply Ext.alloc | (refine Ext.setCell ?_ ?_ _; rotate_left; (focus (first | (simp; done) | (simp; omega) | omega))) | refine Ext.trans ?_ (by assumption)))
  clear hc1 hf1 hl1 hc2 hf2 hl2 hc6 hf6 hl6 hB1
  clear h4 hxb
  go_upto_region 9 with fail
  refine gen_world (R := fun wx => ∃ P : Nat → Prop, (∀ b, P b → b ≠ w3.heap.size) ∧ t.In wx P ka4 kc4 la4 lc4 ∧ Box wx (w.heap.size + 1) #[.string ⟨#[]⟩, .slice none 0 0] 25 ∧ Box wx w3.heap.size #[.string i.s, .slice none 0 0] 25 ∧ Ext w wx) ⟨_, fun b hb => by simp only [Plus] at hb; omega, hin4.ext (by with_reducible repeat (first | exact Ext.refl _ | assumption | apply Ext.drew | apply Ext.drewN | apply Ext.alloc | (refine Ext.setCell ?_ ?_ _; rotate_left; (focus (first | (simp; done) | (simp; omega) | omega))) | refine Ext.trans ?_ (by assumption))), (by (with_reducible apply Box.to); (focus (with_reducible repeat (first | assumption | (apply Box.new; (focus (first | rfl | (first | (simp; done) | (simp; omega) | omega)))) | apply Box.set | (apply Box.other; rotate_left; (focus (first | (simp; done) | (simp; omega) | omega))) | apply Box.alloc | apply Box.drew | (apply Box.ext; (focus assumption))))); (first | rfl | (simp; done) | (go_light; simp [*]; done))), (by (with_reducible apply Box.to); (focus (with_reducible repeat (first | assumption | (apply Box.new; (focus (first | rfl | (first | (simp; done) | (simp; omega) | omega)))) | apply Box.set | (apply Box.other; rotate_left; (focus (first | (simp; done) | (simp; omega) | omega))) | apply Box.alloc | apply Box.drew | (apply Box.ext; (focus assumption))))); (first | rfl | (simp; done) | (go_light; simp [*]; done))), (by with_reducible repeat (first | exact Ext.refl _ | assumption | apply Ext.drew | apply Ext.drewN | apply Ext.alloc | (refine Ext.setCell ?_ ?_ _; rotate_left; (focus (first | (simp; done) | (simp; omega) | omega))) | refine Ext.trans ?_ (by assumption)))⟩ ?_
  rintro wx ⟨P, hP, hint, hB2, hB6, hx⟩
  have hlw := hB2.lt
  have hlv := hB6.lt
  have HP := Lib.hid hP
  clear hP hin4 hcw4 hfw4
  go_loopg [9, 10, 11, 59] t.l.length (fun g _ _ _ i' wr => ∃ (k : Nat) (a2 : Option Addr) (c2 : Nat) (xs : List (Int × Int)), k ≤ t.l.length ∧ i' = .int .i64 k ∧ g = t.l.length - k ∧ StepsTo t.l k xs ∧ wr.ownsRow wx.heap.size 34 2 (.slice a2 k c2) k (stepCells xs) ∧
      Box wr (w.heap.size + 1) #[.string ⟨#[]⟩, .slice none 0 0] 25 ∧ Box wr w3.heap.size #[.string i.s, .slice a2 k c2] 25 ∧ Ext w wr ∧ Held (fun b => b < wx.heap.size ∧ b ≠ w3.heap.size) wx wr)
  case atStart => exact ⟨0, none, 0, [], by omega, rfl, rfl, StepsTo.nil _, World.ownsRow_nil _ _ _ _, hB2, hB6, hx, Held.refl _ _⟩
  case round =>
    clear hB2 hB6 hx
    obtain ⟨k, a2, c2, xs, hk, rfl, rfl, hst, hown, hB2, hB6, hx, hh⟩ := hrel
    have Hst := Lib.hid hst
    have Hown := Lib.hid hown
    have hszr := hh.size
    clear hst hown
    have hc2 := hB2.cells; have hf2 := hB2.free; have hl2 := hB2.lt
    have hc6 := hB6.cells; have hf6 := hB6.free; have hl6 := hB6.lt
    by_cases hlt : k < t.l.length
    · have hK : Kept P wx wr := fun b hb hl => hh.block b ⟨hl, HP.out b hb⟩ hl
      obtain ⟨bb, o, rfl, hS, ka', kc', la', lc', ⟨d0, d1, d2, d3, d4⟩, hin'⟩ := hint.item hlt
      have d0 := hK.cell hS d0
      have d1 := hK.cell hS d1
      have d2 := hK.cell hS d2
      have d3 := hK.cell hS d3
      have d4 := hK.cell hS d4
      have hin' := hin'.keep hK (fun _ h _ => h)
      have hnb : ∀ b, b < wx.heap.size → some b ≠ (Value.slice a2 k c2).ownBlock := fun b hb he => by
        have := (Hown.out.lt b he.symm).1
        omega
      have Hnb := Lib.hid hnb
      clear hnb
      have hsi := V.size_item hlt
      obtain ⟨p, b, hp⟩ : ∃ p b, ((t.l[k]).member pauseK).getD V.zero = p ∧ ((t.l[k]).member pauseK).isSome = b := ⟨_, _, rfl, rfl⟩
      have Hso := Lib.hid (stepOf_ref t.l[k])
      rw [hp.1, hp.2] at Hso
      have Hbk := Lib.hid (show b = true → (t.l[k]).k = 5 by
        intro hb
        rw [← hp.2] at hb
        cases hm : (t.l[k]).member pauseK with
        | none => rw [hm] at hb; cases hb
        | some y => obtain ⟨j, a, -⟩ := member_at hm; exact a.k)
      go_wp2_with fail
      (refine (memberOf_get2 hp _ _ _ _ _ _ (by omega) (hin'.ext (by with_reducible repeat (first | exact Ext.refl _ | assumption | apply Ext.drew | apply Ext.drewN | apply Ext.alloc | (refine Ext.setCell ?_ ?_ _; rotate_left; (focus (first | (simp; done) | (simp; omega) | omega))) | refine Ext.trans ?_ (by assumption))))).mono ?_); rintro e w5 ⟨ka5, kc5, la5, lc5, rfl, hin5, h5⟩; obtain ⟨hcw5, hfw5, hzw5⟩ := ext_facts h5; (try simp at hzw5); (try have hzAw5 : w.heap.size < w5.heap.size := by omega); (try have hzBw5 : w.heap.size + 1 < w5.heap.size := by omega); (try have hzCw5 : w.heap.size + 2 < w5.heap.size := by omega)
      clear hcw5 hfw5
      go_upto_region 13 with fail
      refine gen_world (R := fun wy => Box wy wr.heap.size #[.int .i64 t.l[k].k, .int .i64 t.l[k].n, .string t.l[k].s, .slice ka' t.l[k].keys.length kc', .slice la' t.l[k].l.length lc'] 40 ∧ Box wy w5.heap.size #[.int .i64 p.k, .int .i64 p.n, .string p.s, .slice ka5 p.keys.length kc5, .slice la5 p.l.length lc5] 40 ∧ Ext wr wy) ⟨(by (with_reducible apply Box.to); (focus (with_reducible repeat (first | assumption | (apply Box.new; (focus (first | rfl | (first | (simp; done) | (simp; omega) | omega)))) | apply Box.set | (apply Box.other; rotate_left; (focus (first | (simp; done) | (simp; omega) | omega))) | apply Box.alloc | apply Box.drew | (apply Box.ext; (focus assumption))))); (first | rfl | (simp; done) | (go_light; simp [*]; done))), (by (with_reducible apply Box.to); (focus (with_reducible repeat (first | assumption | (apply Box.new; (focus (first | rfl | (first | (simp; done) | (simp; omega) | omega)))) | apply Box.set | (apply Box.other; rotate_left; (focus (first | (simp; done) | (simp; omega) | omega))) | apply Box.alloc | apply Box.drew | (apply Box.ext; (focus assumption))))); (first | rfl | (simp; done) | (go_light; simp [*]; done))), (by with_reducible repeat (first | exact Ext.refl _ | assumption | apply Ext.drew | apply Ext.drewN | apply Ext.alloc | (refine Ext.setCell ?_ ?_ _; rotate_left; (focus (first | (simp; done) | (simp; omega) | omega))) | refine Ext.trans ?_ (by assumption)))⟩ ?_
      rintro wy ⟨hB9, hB10, hz⟩
      have hB2z := Box.ext hz hB2
      have hB6z := Box.ext hz hB6
      have Hown5 := Lib.hid (ownsRow_ext Hown.out hz)
      clear hc2 hf2 hl2 hc6 hf6 hl6
      have hc2 := hB2z.cells; have hf2 := hB2z.free; have hl2 := hB2z.lt
      have hc6 := hB6z.cells; have hf6 := hB6z.free; have hl6 := hB6z.lt
      have hc9 := hB9.cells; have hf9 := hB9.free; have hl9 := hB9.lt
      have hc10 := hB10.cells; have hf10 := hB10.free; have hl10 := hB10.lt
      clear hp
      by_cases k2 : (t.l[k]).k = 2
      · have k2b : ((t.l[k]).k == 2) = true := by simpa using k2
        obtain rfl : b = false := by
          cases b
          · rfl
          · have := Hbk.out rfl; omega
        by_cases n0 : 0 ≤ (t.l[k]).n
        · by_cases n1 : (t.l[k]).n ≤ 100
          · have Hs2 : Hid (stepOf t.l[k] = some ((t.l[k]).n, 0)) := Lib.hid (by rw [Hso.out, if_pos ⟨k2, n0, n1⟩])
            clear Hso
            go_wp2_with ((at_builtin; refine wpList_append_lies _ (by rfl) _ _ 23 (by rfl) wx.heap.size 34 j0 _ 2 16 Try.underlying23 hj hy0 hy1 hy2 rfl (by decide) (.slice a2 k c2) k (stepCells xs) (by rfl) (Hown5.out.alloc _) ⟨wy.heap.size, 0, none⟩ 1 1 [.int .i64 ((t.l[k]).n), .int .i64 (0)] (by rfl) (by rfl) (World.news_of_block (cs := #[.int .i64 ((t.l[k]).n), .int .i64 (0)]) (t := 34) (fr := (0, 0)) (heap_alloc_new wy _)) (by simp [Value.oneCell']) (by omega) (by unfold maxLen; omega) (by omega) (by simp; omega) _ rfl ?_; intro g6 cap6 w6 hown6 hgrow6 hat6 hlt6; have hB66 := Box.grown (Box.alloc hB6z _) hgrow6 (Hnb.out _ (by omega)); have hc66 := hB66.cells; have hf66 := hB66.free; have hl66 := hB66.lt; have Hgrow := Lib.hid hgrow6; have Hown6 := Lib.hid hown6; have Hat := Lib.hid hat6; clear hgrow6 hown6 hat6))
            have hB26 := Box.grown (Box.alloc hB2z (.cells #[.int .i64 ((t.l[k]).n), .int .i64 (0)] 34)) Hgrow.out (Hnb.out _ (by omega))
            have hx6 : Ext w w6 := Ext.grown (b := wy.alloc _) (by with_reducible repeat (first | exact Ext.refl _ | assumption | apply Ext.drew | apply Ext.drewN | apply Ext.alloc | (refine Ext.setCell ?_ ?_ _; rotate_left; (focus (first | (simp; done) | (simp; omega) | omega))) | refine Ext.trans ?_ (by assumption))) Hgrow.out (fun g hg => by have := (Hown.out.lt g hg).1; omega)
            have hh6 : Held (fun b => b < wx.heap.size ∧ b ≠ w3.heap.size) wx w6 := Held.grown (b := wy.alloc _) (by with_reducible repeat (first | exact Held.refl _ _ | assumption | apply Held.drew | apply Held.drewN | apply Held.alloc | (refine Held.set ?_ ?_ _; rotate_left; (focus (first | (simp; done) | (simp; omega) | omega))) | (refine Held.ext ?_ (by assumption)) | (refine Held.grown ?_ (by assumption) (by assumption)) | (refine Held.trans ?_ (by assumption)))) Hgrow.out (fun g hg hT => by have := (Hown.out.lt g hg).1; omega)
            go_roundg (t.l.length - (k + 1))
            case measure => omega
            case rel => exact ⟨k + 1, _, _, xs ++ [((t.l[k]).n, 0)], by omega, by go_num, rfl, Hst.out.snoc hlt Hs2.out, by rw [stepCells_snoc]; exact ownsRow_keep Hown6.out (fun b hb he => by have := (Hown6.out.lt b he).1; rw [Below.heap_setCell _ _ _ _ (by simp; omega)]), (by (with_reducible apply Box.to); (focus (with_reducible repeat (first | assumption | (apply Box.new; (focus (first | rfl | (first | (simp; done) | (simp; omega) | omega)))) | apply Box.set | (apply Box.other; rotate_left; (focus (first | (simp; done) | (simp; omega) | omega))) | apply Box.alloc | apply Box.drew | (apply Box.ext; (focus assumption))))); (first | rfl | (simp; done) | (go_light; simp [*]; done))), (by (with_reducible apply Box.to); (focus (with_reducible repeat (first | assumption | (apply Box.new; (focus (first | rfl | (first | (simp; done) | (simp; omega) | omega)))) | apply Box.set | (apply Box.other; rotate_left; (focus (first | (simp; done) | (simp; omega) | omega))) | apply Box.alloc | apply Box.drew | (apply Box.ext; (focus assumption))))); (first | rfl | (simp; done) | (go_light; simp [*]; done))), (by with_reducible repeat (first | exact Ext.refl _ | assumption | apply Ext.drew | apply Ext.drewN | apply Ext.alloc | (refine Ext.setCell ?_ ?_ _; rotate_left; (focus (first | (simp; done) | (simp; omega) | omega))) | refine Ext.trans ?_ (by assumption))), (by with_reducible repeat (first | exact Held.refl _ _ | assumption | apply Held.drew | apply Held.drewN | apply Held.alloc | (refine Held.set ?_ ?_ _; rotate_left; (focus (first | (simp; done) | (simp; omega) | omega))) | (refine Held.ext ?_ (by assumption)) | (refine Held.grown ?_ (by assumption) (by assumption)) | (refine Held.trans ?_ (by assumption))))⟩
          · have Hs2 : Hid (stepOf t.l[k] = none) := Lib.hid (by rw [Hso.out, if_neg (fun h => n1 h.2.2), if_neg (fun h => by cases h.1)])
            have n1' : 100 < (t.l[k]).n := by omega
            clear Hso
            go_wp2_with fail
            (with_reducible apply bp_ret); (focus (go_light; simp [results, Try.results18, go_sem, *]; rfl))
            exact .inr ⟨by rw [Hspec.out, stepsOf_bad hlt Hs2.out], rfl, (by with_reducible repeat (first | exact Ext.refl _ | assumption | apply Ext.drew | apply Ext.drewN | apply Ext.alloc | (refine Ext.setCell ?_ ?_ _; rotate_left; (focus (first | (simp; done) | (simp; omega) | omega))) | refine Ext.trans ?_ (by assumption)))⟩
        · have Hs2 : Hid (stepOf t.l[k] = none) := Lib.hid (by rw [Hso.out, if_neg (fun h => n0 h.2.1), if_neg (fun h => by cases h.1)])
          have n1' : (t.l[k]).n < 0 := by omega
          clear Hso
          go_wp2_with fail
          (with_reducible apply bp_ret); (focus (go_light; simp [results, Try.results18, go_sem, *]; rfl))
          exact .inr ⟨by rw [Hspec.out, stepsOf_bad hlt Hs2.out], rfl, (by with_reducible repeat (first | exact Ext.refl _ | assumption | apply Ext.drew | apply Ext.drewN | apply Ext.alloc | (refine Ext.setCell ?_ ?_ _; rotate_left; (focus (first | (simp; done) | (simp; omega) | omega))) | refine Ext.trans ?_ (by assumption)))⟩
      · have k2b : ((t.l[k]).k == 2) = false := by simpa using k2
        have Hso := Lib.hid (Hso.out.trans (if_neg (fun h => k2 h.1)))
        cases b
        · have Hs2 : Hid (stepOf t.l[k] = none) := Lib.hid (by rw [Hso.out, if_neg (fun h => by cases h.1)])
          clear Hso
          go_wp2_with fail
          (with_reducible apply bp_ret); (focus (go_light; simp [results, Try.results18, go_sem, *]; rfl))
          exact .inr ⟨by rw [Hspec.out, stepsOf_bad hlt Hs2.out], rfl, (by with_reducible repeat (first | exact Ext.refl _ | assumption | apply Ext.drew | apply Ext.drewN | apply Ext.alloc | (refine Ext.setCell ?_ ?_ _; rotate_left; (focus (first | (simp; done) | (simp; omega) | omega))) | refine Ext.trans ?_ (by assumption)))⟩
        · by_cases m2 : p.k = 2
          · have m2b : (p.k == 2) = true := by simpa using m2
            by_cases n0 : 0 ≤ p.n
            · by_cases n1 : p.n ≤ 1099511627776
              · have Hs2 : Hid (stepOf t.l[k] = some (-1, p.n)) := Lib.hid (by rw [Hso.out, if_pos ⟨rfl, m2, n0, n1⟩])
                clear Hso
                go_wp2_with ((at_builtin; refine wpList_append_lies _ (by rfl) _ _ 23 (by rfl) wx.heap.size 34 j0 _ 2 16 Try.underlying23 hj hy0 hy1 hy2 rfl (by decide) (.slice a2 k c2) k (stepCells xs) (by rfl) (Hown5.out.alloc _) ⟨wy.heap.size, 0, none⟩ 1 1 [.int .i64 (-1), .int .i64 (p.n)] (by rfl) (by rfl) (World.news_of_block (cs := #[.int .i64 (-1), .int .i64 (p.n)]) (t := 34) (fr := (0, 0)) (heap_alloc_new wy _)) (by simp [Value.oneCell']) (by omega) (by unfold maxLen; omega) (by omega) (by simp; omega) _ rfl ?_; intro g6 cap6 w6 hown6 hgrow6 hat6 hlt6; have hB66 := Box.grown (Box.alloc hB6z _) hgrow6 (Hnb.out _ (by omega)); have hc66 := hB66.cells; have hf66 := hB66.free; have hl66 := hB66.lt; have Hgrow := Lib.hid hgrow6; have Hown6 := Lib.hid hown6; have Hat := Lib.hid hat6; clear hgrow6 hown6 hat6))
                have hB26 := Box.grown (Box.alloc hB2z (.cells #[.int .i64 (-1), .int .i64 (p.n)] 34)) Hgrow.out (Hnb.out _ (by omega))
                have hx6 : Ext w w6 := Ext.grown (b := wy.alloc _) (by with_reducible repeat (first | exact Ext.refl _ | assumption | apply Ext.drew | apply Ext.drewN | apply Ext.alloc | (refine Ext.setCell ?_ ?_ _; rotate_left; (focus (first | (simp; done) | (simp; omega) | omega))) | refine Ext.trans ?_ (by assumption))) Hgrow.out (fun g hg => by have := (Hown.out.lt g hg).1; omega)
                have hh6 : Held (fun b => b < wx.heap.size ∧ b ≠ w3.heap.size) wx w6 := Held.grown (b := wy.alloc _) (by with_reducible repeat (first | exact Held.refl _ _ | assumption | apply Held.drew | apply Held.drewN | apply Held.alloc | (refine Held.set ?_ ?_ _; rotate_left; (focus (first | (simp; done) | (simp; omega) | omega))) | (refine Held.ext ?_ (by assumption)) | (refine Held.grown ?_ (by assumption) (by assumption)) | (refine Held.trans ?_ (by assumption)))) Hgrow.out (fun g hg hT => by have := (Hown.out.lt g hg).1; omega)
                go_roundg (t.l.length - (k + 1))
                case measure => omega
                case rel => exact ⟨k + 1, _, _, xs ++ [(-1, p.n)], by omega, by go_num, rfl, Hst.out.snoc hlt Hs2.out, by rw [stepCells_snoc]; exact ownsRow_keep Hown6.out (fun b hb he => by have := (Hown6.out.lt b he).1; rw [Below.heap_setCell _ _ _ _ (by simp; omega)]), (by (with_reducible apply Box.to); (focus (with_reducible repeat (first | assumption | (apply Box.new; (focus (first | rfl | (first | (simp; done) | (simp; omega) | omega)))) | apply Box.set | (apply Box.other; rotate_left; (focus (first | (simp; done) | (simp; omega) | omega))) | apply Box.alloc | apply Box.drew | (apply Box.ext; (focus assumption))))); (first | rfl | (simp; done) | (go_light; simp [*]; done))), (by (with_reducible apply Box.to); (focus (with_reducible repeat (first | assumption | (apply Box.new; (focus (first | rfl | (first | (simp; done) | (simp; omega) | omega)))) | apply Box.set | (apply Box.other; rotate_left; (focus (first | (simp; done) | (simp; omega) | omega))) | apply Box.alloc | apply Box.drew | (apply Box.ext; (focus assumption))))); (first | rfl | (simp; done) | (go_light; simp [*]; done))), (by with_reducible repeat (first | exact Ext.refl _ | assumption | apply Ext.drew | apply Ext.drewN | apply Ext.alloc | (refine Ext.setCell ?_ ?_ _; rotate_left; (focus (first | (simp; done) | (simp; omega) | omega))) | refine Ext.trans ?_ (by assumption))), (by with_reducible repeat (first | exact Held.refl _ _ | assumption | apply Held.drew | apply Held.drewN | apply Held.alloc | (refine Held.set ?_ ?_ _; rotate_left; (focus (first | (simp; done) | (simp; omega) | omega))) | (refine Held.ext ?_ (by assumption)) | (refine Held.grown ?_ (by assumption) (by assumption)) | (refine Held.trans ?_ (by assumption))))⟩
              · have Hs2 : Hid (stepOf t.l[k] = none) := Lib.hid (by rw [Hso.out, if_neg (fun h => n1 h.2.2.2)])
                have n1' : 1099511627776 < p.n := by omega
                clear Hso
                go_wp2_with fail
                (with_reducible apply bp_ret); (focus (go_light; simp [results, Try.results18, go_sem, *]; rfl))
                exact .inr ⟨by rw [Hspec.out, stepsOf_bad hlt Hs2.out], rfl, (by with_reducible repeat (first | exact Ext.refl _ | assumption | apply Ext.drew | apply Ext.drewN | apply Ext.alloc | (refine Ext.setCell ?_ ?_ _; rotate_left; (focus (first | (simp; done) | (simp; omega) | omega))) | refine Ext.trans ?_ (by assumption)))⟩
            · have Hs2 : Hid (stepOf t.l[k] = none) := Lib.hid (by rw [Hso.out, if_neg (fun h => n0 h.2.2.1)])
              have n1' : p.n < 0 := by omega
              clear Hso
              go_wp2_with fail
              (with_reducible apply bp_ret); (focus (go_light; simp [results, Try.results18, go_sem, *]; rfl))
              exact .inr ⟨by rw [Hspec.out, stepsOf_bad hlt Hs2.out], rfl, (by with_reducible repeat (first | exact Ext.refl _ | assumption | apply Ext.drew | apply Ext.drewN | apply Ext.alloc | (refine Ext.setCell ?_ ?_ _; rotate_left; (focus (first | (simp; done) | (simp; omega) | omega))) | refine Ext.trans ?_ (by assumption)))⟩
          · have m2b : (p.k == 2) = false := by simpa using m2
            have Hs2 : Hid (stepOf t.l[k] = none) := Lib.hid (by rw [Hso.out, if_neg (fun h => m2 h.2.1)])
            clear Hso
            go_wp2_with fail
            (with_reducible apply bp_ret); (focus (go_light; simp [results, Try.results18, go_sem, *]; rfl))
            exact .inr ⟨by rw [Hspec.out, stepsOf_bad hlt Hs2.out], rfl, (by with_reducible repeat (first | exact Ext.refl _ | assumption | apply Ext.drew | apply Ext.drewN | apply Ext.alloc | (refine Ext.setCell ?_ ?_ _; rotate_left; (focus (first | (simp; done) | (simp; omega) | omega))) | refine Ext.trans ?_ (by assumption)))⟩
    · obtain rfl : k = t.l.length := by omega
      go_wp2_with fail
      (with_reducible apply bp_ret); (focus (go_light; simp [results, Try.results18, go_sem, *]; rfl))
      exact .inl ⟨i.s, xs, a2, t.l.length, c2, by rw [Hspec.out, Hst.out.all], Hst.out.1, rfl, owns_steps (ownsRow_keep Hown.out (fun b hb he => by
        have := (Hown.out.lt b he).1
        rw [Below.heap_setCell _ _ _ _ (by simp; omega), Below.heap_setCell _ _ _ _ (by simp; omega)])) Hst.out.1, (by with_reducible repeat (first | exact Ext.refl _ | assumption | apply Ext.drew | apply Ext.drewN | apply Ext.alloc | (refine Ext.setCell ?_ ?_ _; rotate_left; (focus (first | (simp; done) | (simp; omega) | omega))) | refine Ext.trans ?_ (by assumption)))⟩
theorem refRead_any (x : V) (ka : Option Addr) (kc : Nat) (la : Option Addr) (lc : Nat) (S : Nat → Prop) (w : World) (hsz : x.size ≤ 1073741824) (hin : x.In w S ka kc la lc) :
    Calls Try.prog 18 #[x.val ka kc la lc] w (RetSpec (specOf x) w) := by
  rcases spec_cases x with ⟨h, hn⟩ | ⟨i, hf, hi, q, hs, hn | ⟨t, ht, p, hlen⟩⟩
  · rw [h]; exact refRead_none x ka kc la lc S w hsz hin hn
  · exact refRead_short x i ka kc la lc S w hsz hin hf hi q hs _ (hn.imp (fun h => ⟨h.1, h.2⟩) (fun ⟨t, h1, h2, h3⟩ => ⟨t, h1, h2, h3⟩))
  · exact refRead_loop x i t ka kc la lc S w hsz hin hf hi q hs ht p hlen
end Go.Proofs.Ytpkgeailbifnjaa
