/- The walk of stage.Read. -/
import Derived.Test.YtpkgeailbifnjaaStageR0
import Derived.Deep.RegionHeld3
import Derived.Deep.DrawnRows
import Derived.Deep.CutBlock
set_option linter.all false
namespace Go.Proofs.Ytpkgeailbifnjaa
open Go.RowKit
attribute [local go_sem ↓] Go.wp_at_zero Go.wp_at_succ

theorem textB {s : ByteArray} (h : s.toList ≠ []) : s.toList.isEmpty = false := by cases hs : s.toList with | nil => exact absurd hs h | cons => rfl

theorem member_get {x p : V} {key : ByteArray} (hp : (x.member key).getD V.zero = p) (ka : Option Addr) (kc : Nat) (la : Option Addr) (lc : Nat) (S : Nat → Prop) (w : World) (hsz : x.size ≤ 1073741824) (hin : x.In w S ka kc la lc) :
    Calls Try.prog 31 #[x.val ka kc la lc, .string key] w (RetV2 S p (.bool (x.member key).isSome) w) := by
  cases hm : x.member key with
  | some y =>
    rw [hm] at hp
    simp only [Option.getD_some] at hp
    subst hp
    exact member_some hm ka kc la lc S w hsz hin
  | none =>
    rw [hm] at hp
    simp only [Option.getD_none] at hp
    subst hp
    refine (member_none hm ka kc la lc S w hsz hin).mono ?_
    rintro e w' ⟨rfl, h⟩
    exact ⟨none, 0, none, 0, rfl, V.zero_in _ _, h⟩

set_option maxHeartbeats 2000000 in
theorem read_none (x : V) (ka : Option Addr) (kc : Nat) (la : Option Addr) (lc : Nat) (S : Nat → Prop) (w : World) (hsz : x.size ≤ 1073741824) (hin : x.In w S ka kc la lc)
    (hn : x.fine = false ∨ (x.fine = true ∧ (x.member imageK = none ∨ ∃ i, x.member imageK = some i ∧ ¬ (i.k = 3 ∧ i.s.toList ≠ [])))) :
    Calls Try.prog 16 #[x.val ka kc la lc] w (RetSpec none w) := by
  rcases hn with hf | ⟨hf, hi | ⟨i, hi, hni⟩⟩
  · go_enter Try.func16, Try.ntmps16
    go_wp2_with fail
    (with_reducible refine (fine_any x ka kc la lc S _ hsz (hin.ext (by with_reducible repeat (first | exact Ext.refl _ | assumption | apply Ext.drew | apply Ext.drewN | apply Ext.alloc | (refine Ext.setCell ?_ ?_ _; rotate_left; (focus (first | (simp; done) | (simp; omega) | omega))) | refine Ext.trans ?_ (by assumption))))).mono ?_); rintro e w1 ⟨rfl, h1⟩; obtain ⟨hcw1, hfw1, hzw1⟩ := ext_facts h1; (try simp at hzw1); (try have hzAw1 : w.heap.size < w1.heap.size := by omega); (try have hzBw1 : w.heap.size + 1 < w1.heap.size := by omega); (try have hzCw1 : w.heap.size + 2 < w1.heap.size := by omega)
    rw [hf]
    go_wp2_with fail
    (with_reducible apply bp_ret); (focus (go_light; simp [results, Try.results16, go_sem, *]; rfl))
    exact .inr ⟨rfl, rfl, (by with_reducible repeat (first | exact Ext.refl _ | assumption | apply Ext.drew | apply Ext.drewN | apply Ext.alloc | (refine Ext.setCell ?_ ?_ _; rotate_left; (focus (first | (simp; done) | (simp; omega) | omega))) | refine Ext.trans ?_ (by assumption)))⟩
  · go_enter Try.func16, Try.ntmps16
    go_wp2_with fail
    (with_reducible refine (fine_any x ka kc la lc S _ hsz (hin.ext (by with_reducible repeat (first | exact Ext.refl _ | assumption | apply Ext.drew | apply Ext.drewN | apply Ext.alloc | (refine Ext.setCell ?_ ?_ _; rotate_left; (focus (first | (simp; done) | (simp; omega) | omega))) | refine Ext.trans ?_ (by assumption))))).mono ?_); rintro e w1 ⟨rfl, h1⟩; obtain ⟨hcw1, hfw1, hzw1⟩ := ext_facts h1; (try simp at hzw1); (try have hzAw1 : w.heap.size < w1.heap.size := by omega); (try have hzBw1 : w.heap.size + 1 < w1.heap.size := by omega); (try have hzCw1 : w.heap.size + 2 < w1.heap.size := by omega)
    rw [hf]
    go_wp2_with fail
    (refine (member_none hi ka kc la lc S _ hsz (hin.ext (by with_reducible repeat (first | exact Ext.refl _ | assumption | apply Ext.drew | apply Ext.drewN | apply Ext.alloc | (refine Ext.setCell ?_ ?_ _; rotate_left; (focus (first | (simp; done) | (simp; omega) | omega))) | refine Ext.trans ?_ (by assumption))))).mono ?_); rintro e w2 ⟨rfl, h2⟩; obtain ⟨hcw2, hfw2, hzw2⟩ := ext_facts h2; (try simp at hzw2); (try have hzAw2 : w.heap.size < w2.heap.size := by omega); (try have hzBw2 : w.heap.size + 1 < w2.heap.size := by omega); (try have hzCw2 : w.heap.size + 2 < w2.heap.size := by omega)
    go_wp2_with fail
    (with_reducible apply bp_ret); (focus (go_light; simp [results, Try.results16, go_sem, *]; rfl))
    exact .inr ⟨rfl, rfl, (by with_reducible repeat (first | exact Ext.refl _ | assumption | apply Ext.drew | apply Ext.drewN | apply Ext.alloc | (refine Ext.setCell ?_ ?_ _; rotate_left; (focus (first | (simp; done) | (simp; omega) | omega))) | refine Ext.trans ?_ (by assumption)))⟩
  · go_enter Try.func16, Try.ntmps16
    go_wp2_with fail
    (with_reducible refine (fine_any x ka kc la lc S _ hsz (hin.ext (by with_reducible repeat (first | exact Ext.refl _ | assumption | apply Ext.drew | apply Ext.drewN | apply Ext.alloc | (refine Ext.setCell ?_ ?_ _; rotate_left; (focus (first | (simp; done) | (simp; omega) | omega))) | refine Ext.trans ?_ (by assumption))))).mono ?_); rintro e w1 ⟨rfl, h1⟩; obtain ⟨hcw1, hfw1, hzw1⟩ := ext_facts h1; (try simp at hzw1); (try have hzAw1 : w.heap.size < w1.heap.size := by omega); (try have hzBw1 : w.heap.size + 1 < w1.heap.size := by omega); (try have hzCw1 : w.heap.size + 2 < w1.heap.size := by omega)
    rw [hf]
    go_wp2_with fail
    (refine (member_some hi _ _ _ _ _ _ (by omega) (hin.ext (by with_reducible repeat (first | exact Ext.refl _ | assumption | apply Ext.drew | apply Ext.drewN | apply Ext.alloc | (refine Ext.setCell ?_ ?_ _; rotate_left; (focus (first | (simp; done) | (simp; omega) | omega))) | refine Ext.trans ?_ (by assumption))))).mono ?_); rintro e w2 ⟨ka2, kc2, la2, lc2, rfl, hin2, h2⟩; obtain ⟨hcw2, hfw2, hzw2⟩ := ext_facts h2; (try simp at hzw2); (try have hzAw2 : w.heap.size < w2.heap.size := by omega); (try have hzBw2 : w.heap.size + 1 < w2.heap.size := by omega); (try have hzCw2 : w.heap.size + 2 < w2.heap.size := by omega)
    by_cases q : i.k = 3
    · have q0 : (i.k == 3) = true := by simpa using q
      have q1 : (i.k != 3) = false := by simpa using q
      have q2 : i.s.toList = [] := Classical.byContradiction fun h => hni ⟨q, h⟩
      have q3 : i.s.toList.isEmpty = true := by rw [q2]; rfl
      go_wp2_with fail
      (with_reducible apply bp_ret); (focus (go_light; simp [results, Try.results16, go_sem, *]; rfl))
      exact .inr ⟨rfl, rfl, (by with_reducible repeat (first | exact Ext.refl _ | assumption | apply Ext.drew | apply Ext.drewN | apply Ext.alloc | (refine Ext.setCell ?_ ?_ _; rotate_left; (focus (first | (simp; done) | (simp; omega) | omega))) | refine Ext.trans ?_ (by assumption)))⟩
    · have q0 : (i.k == 3) = false := by simpa using q
      have q1 : (i.k != 3) = true := by simpa using q
      go_wp2_with fail
      (with_reducible apply bp_ret); (focus (go_light; simp [results, Try.results16, go_sem, *]; rfl))
      exact .inr ⟨rfl, rfl, (by with_reducible repeat (first | exact Ext.refl _ | assumption | apply Ext.drew | apply Ext.drewN | apply Ext.alloc | (refine Ext.setCell ?_ ?_ _; rotate_left; (focus (first | (simp; done) | (simp; omega) | omega))) | refine Ext.trans ?_ (by assumption)))⟩

set_option maxHeartbeats 4000000 in
theorem read_short (x i : V) (ka : Option Addr) (kc : Nat) (la : Option Addr) (lc : Nat) (S : Nat → Prop) (w : World) (hsz : x.size ≤ 1073741824) (hin : x.In w S ka kc la lc)
    (hf : x.fine = true) (hi : x.member imageK = some i) (q : i.k = 3) (hs : i.s.toList ≠ []) (r : Option (ByteArray × List (Int × Int)))
    (hn : (x.member stepsK = none ∧ r = some (i.s, [])) ∨ (∃ t, x.member stepsK = some t ∧ ¬ (t.k = 4 ∧ t.l.length ≤ 8) ∧ r = none)) :
    Calls Try.prog 16 #[x.val ka kc la lc] w (RetSpec r w) := by
  have q0 : (i.k == 3) = true := by simpa using q
  have q1 : (i.k != 3) = false := by simpa using q
  have q3 := textB hs
  rcases hn with ⟨ht, rfl⟩ | ⟨t, ht, hnt, rfl⟩
  · go_enter Try.func16, Try.ntmps16
    go_upto_region 1 with fail
    refine gen_world (R := fun wx => Box wx w.heap.size #[.int .i64 x.k, .int .i64 x.n, .string x.s, .slice ka x.keys.length kc, .slice la x.l.length lc] 40 ∧ Box wx (w.heap.size + 1) #[.string ⟨#[]⟩, .slice none 0 0] 25 ∧ Ext w wx) ⟨(by (with_reducible apply Box.to); (focus (with_reducible repeat (first | assumption | (apply Box.new; (focus (first | rfl | (first | (simp; done) | (simp; omega) | omega)))) | apply Box.set | (apply Box.other; rotate_left; (focus (first | (simp; done) | (simp; omega) | omega))) | apply Box.alloc | apply Box.drew | (apply Box.ext; (focus assumption))))); (first | rfl | (simp; done) | (go_light; simp [*]; done))), (by (with_reducible apply Box.to); (focus (with_reducible repeat (first | assumption | (apply Box.new; (focus (first | rfl | (first | (simp; done) | (simp; omega) | omega)))) | apply Box.set | (apply Box.other; rotate_left; (focus (first | (simp; done) | (simp; omega) | omega))) | apply Box.alloc | apply Box.drew | (apply Box.ext; (focus assumption))))); (first | rfl | (simp; done) | (go_light; simp [*]; done))), (by with_reducible repeat (first | exact Ext.refl _ | assumption | apply Ext.drew | apply Ext.drewN | apply Ext.alloc | (refine Ext.setCell ?_ ?_ _; rotate_left; (focus (first | (simp; done) | (simp; omega) | omega))) | refine Ext.trans ?_ (by assumption)))⟩ ?_
    rintro wa ⟨hB1, hB2, hxa⟩
    have hc1 := hB1.cells; have hf1 := hB1.free; have hl1 := hB1.lt
    go_wp2_with fail
    (with_reducible refine (fine_any x ka kc la lc _ _ hsz (hin.ext (by with_reducible repeat (first | exact Ext.refl _ | assumption | apply Ext.drew | apply Ext.drewN | apply Ext.alloc | (refine Ext.setCell ?_ ?_ _; rotate_left; (focus (first | (simp; done) | (simp; omega) | omega))) | refine Ext.trans ?_ (by assumption))))).mono ?_); rintro e w1 ⟨rfl, h1⟩; obtain ⟨hcw1, hfw1, hzw1⟩ := ext_facts h1; (try simp at hzw1); (try have hzAw1 : w.heap.size < w1.heap.size := by omega); (try have hzBw1 : w.heap.size + 1 < w1.heap.size := by omega); (try have hzCw1 : w.heap.size + 2 < w1.heap.size := by omega)
    rw [hf]
    have hB1 := Box.ext h1 hB1
    have hB2 := Box.ext h1 hB2
    have hx1 : Ext w w1 := (by with_reducible repeat (first | exact Ext.refl _ | assumption | apply Ext.drew | apply Ext.drewN | apply Ext.alloc | (refine Ext.setCell ?_ ?_ _; rotate_left; (focus (first | (simp; done) | (simp; omega) | omega))) | refine Ext.trans ?_ (by assumption)))
    clear hc1 hf1 hl1
    clear hxa h1
    have hc1 := hB1.cells; have hf1 := hB1.free; have hl1 := hB1.lt
    go_wp2_with fail
    (refine (member_some hi _ _ _ _ _ _ (by omega) (hin.ext (by with_reducible repeat (first | exact Ext.refl _ | assumption | apply Ext.drew | apply Ext.drewN | apply Ext.alloc | (refine Ext.setCell ?_ ?_ _; rotate_left; (focus (first | (simp; done) | (simp; omega) | omega))) | refine Ext.trans ?_ (by assumption))))).mono ?_); rintro e w2 ⟨ka2, kc2, la2, lc2, rfl, hin2, h2⟩; obtain ⟨hcw2, hfw2, hzw2⟩ := ext_facts h2; (try simp at hzw2); (try have hzAw2 : w.heap.size < w2.heap.size := by omega); (try have hzBw2 : w.heap.size + 1 < w2.heap.size := by omega); (try have hzCw2 : w.heap.size + 2 < w2.heap.size := by omega)
    have hB1 := Box.ext h2 hB1
    have hB2 := Box.ext h2 hB2
    have hw2 := hB2.lt
    have hx2 : Ext w w2 := (by with_reducible repeat (first | exact Ext.refl _ | assumption | apply Ext.drew | apply Ext.drewN | apply Ext.alloc | (refine Ext.setCell ?_ ?_ _; rotate_left; (focus (first | (simp; done) | (simp; omega) | omega))) | refine Ext.trans ?_ (by assumption)))
    clear hc1 hf1 hl1 hcw2 hfw2 hcw1 hfw1
    clear hx1 h2
    go_upto_region 7 with fail
    refine gen_world (R := fun wx => Box wx w.heap.size #[.int .i64 x.k, .int .i64 x.n, .string x.s, .slice ka x.keys.length kc, .slice la x.l.length lc] 40 ∧ Box wx (w.heap.size + 1) #[.string ⟨#[]⟩, .slice none 0 0] 25 ∧ Box wx (w2.heap.size + 1) #[.string i.s, .slice none 0 0] 25 ∧ Ext w wx) ⟨(by (with_reducible apply Box.to); (focus (with_reducible repeat (first | assumption | (apply Box.new; (focus (first | rfl | (first | (simp; done) | (simp; omega) | omega)))) | apply Box.set | (apply Box.other; rotate_left; (focus (first | (simp; done) | (simp; omega) | omega))) | apply Box.alloc | apply Box.drew | (apply Box.ext; (focus assumption))))); (first | rfl | (simp; done) | (go_light; simp [*]; done))), (by (with_reducible apply Box.to); (focus (with_reducible repeat (first | assumption | (apply Box.new; (focus (first | rfl | (first | (simp; done) | (simp; omega) | omega)))) | apply Box.set | (apply Box.other; rotate_left; (focus (first | (simp; done) | (simp; omega) | omega))) | apply Box.alloc | apply Box.drew | (apply Box.ext; (focus assumption))))); (first | rfl | (simp; done) | (go_light; simp [*]; done))), (by (with_reducible apply Box.to); (focus (with_reducible repeat (first | assumption | (apply Box.new; (focus (first | rfl | (first | (simp; done) | (simp; omega) | omega)))) | apply Box.set | (apply Box.other; rotate_left; (focus (first | (simp; done) | (simp; omega) | omega))) | apply Box.alloc | apply Box.drew | (apply Box.ext; (focus assumption))))); (first | rfl | (simp; done) | (go_light; simp [*]; done))), (by with_reducible repeat (first | exact Ext.refl _ | assumption | apply Ext.drew | apply Ext.drewN | apply Ext.alloc | (refine Ext.setCell ?_ ?_ _; rotate_left; (focus (first | (simp; done) | (simp; omega) | omega))) | refine Ext.trans ?_ (by assumption)))⟩ ?_
    rintro wb ⟨hB1, hB2, hB6, hxb⟩
    have hc1 := hB1.cells; have hf1 := hB1.free; have hl1 := hB1.lt
    have hc2 := hB2.cells; have hf2 := hB2.free; have hl2 := hB2.lt
    have hc6 := hB6.cells; have hf6 := hB6.free; have hl6 := hB6.lt
    go_wp2_with fail
    (refine (member_none ht ka kc la lc S _ hsz (hin.ext (by with_reducible repeat (first | exact Ext.refl _ | assumption | apply Ext.drew | apply Ext.drewN | apply Ext.alloc | (refine Ext.setCell ?_ ?_ _; rotate_left; (focus (first | (simp; done) | (simp; omega) | omega))) | refine Ext.trans ?_ (by assumption))))).mono ?_); rintro e w3 ⟨rfl, h3⟩; obtain ⟨hcw3, hfw3, hzw3⟩ := ext_facts h3; (try simp at hzw3); (try have hzAw3 : w.heap.size < w3.heap.size := by omega); (try have hzBw3 : w.heap.size + 1 < w3.heap.size := by omega); (try have hzCw3 : w.heap.size + 2 < w3.heap.size := by omega)
    have hB2 := Box.ext h3 hB2
    have hB6 := Box.ext h3 hB6
    have hx3 : Ext w w3 := (by with_reducible repeat (first | exact Ext.refl _ | assumption | apply Ext.drew | apply Ext.drewN | apply Ext.alloc | (refine Ext.setCell ?_ ?_ _; rotate_left; (focus (first | (simp; done) | (simp; omega) | omega))) | refine Ext.trans ?_ (by assumption)))
    clear hc1 hf1 hl1 hc2 hf2 hl2 hc6 hf6 hl6 hB1
    clear h3 hxb
    have hc2 := hB2.cells; have hf2 := hB2.free; have hl2 := hB2.lt
    have hc6 := hB6.cells; have hf6 := hB6.free; have hl6 := hB6.lt
    go_wp2_with fail
    (with_reducible apply bp_ret); (focus (go_light; simp [results, Try.results16, go_sem, *]; rfl))
    exact .inl ⟨_, _, _, _, _, rfl, rfl, rfl, .inl rfl, (by with_reducible repeat (first | exact Ext.refl _ | assumption | apply Ext.drew | apply Ext.drewN | apply Ext.alloc | (refine Ext.setCell ?_ ?_ _; rotate_left; (focus (first | (simp; done) | (simp; omega) | omega))) | refine Ext.trans ?_ (by assumption)))⟩
  · have Hnt := Lib.hid hnt
    have hts := member_size ht
    have htl := t.len_l
    go_enter Try.func16, Try.ntmps16
    go_upto_region 1 with fail
    refine gen_world (R := fun wx => Box wx w.heap.size #[.int .i64 x.k, .int .i64 x.n, .string x.s, .slice ka x.keys.length kc, .slice la x.l.length lc] 40 ∧ Box wx (w.heap.size + 1) #[.string ⟨#[]⟩, .slice none 0 0] 25 ∧ Ext w wx) ⟨(by (with_reducible apply Box.to); (focus (with_reducible repeat (first | assumption | (apply Box.new; (focus (first | rfl | (first | (simp; done) | (simp; omega) | omega)))) | apply Box.set | (apply Box.other; rotate_left; (focus (first | (simp; done) | (simp; omega) | omega))) | apply Box.alloc | apply Box.drew | (apply Box.ext; (focus assumption))))); (first | rfl | (simp; done) | (go_light; simp [*]; done))), (by (with_reducible apply Box.to); (focus (with_reducible repeat (first | assumption | (apply Box.new; (focus (first | rfl | (first | (simp; done) | (simp; omega) | omega)))) | apply Box.set | (apply Box.other; rotate_left; (focus (first | (simp; done) | (simp; omega) | omega))) | apply Box.alloc | apply Box.drew | (apply Box.ext; (focus assumption))))); (first | rfl | (simp; done) | (go_light; simp [*]; done))), (by with_reducible repeat (first | exact Ext.refl _ | assumption | apply Ext.drew | apply Ext.drewN | apply Ext.alloc | (refine Ext.setCell ?_ ?_ _; rotate_left; (focus (first | (simp; done) | (simp; omega) | omega))) | refine Ext.trans ?_ (by assumption)))⟩ ?_
    rintro wa ⟨hB1, hB2, hxa⟩
    have hc1 := hB1.cells; have hf1 := hB1.free; have hl1 := hB1.lt
    go_wp2_with fail
    (with_reducible refine (fine_any x ka kc la lc _ _ hsz (hin.ext (by with_reducible repeat (first | exact Ext.refl _ | assumption | apply Ext.drew | apply Ext.drewN | apply Ext.alloc | (refine Ext.setCell ?_ ?_ _; rotate_left; (focus (first | (simp; done) | (simp; omega) | omega))) | refine Ext.trans ?_ (by assumption))))).mono ?_); rintro e w1 ⟨rfl, h1⟩; obtain ⟨hcw1, hfw1, hzw1⟩ := ext_facts h1; (try simp at hzw1); (try have hzAw1 : w.heap.size < w1.heap.size := by omega); (try have hzBw1 : w.heap.size + 1 < w1.heap.size := by omega); (try have hzCw1 : w.heap.size + 2 < w1.heap.size := by omega)
    rw [hf]
    have hB1 := Box.ext h1 hB1
    have hB2 := Box.ext h1 hB2
    have hx1 : Ext w w1 := (by with_reducible repeat (first | exact Ext.refl _ | assumption | apply Ext.drew | apply Ext.drewN | apply Ext.alloc | (refine Ext.setCell ?_ ?_ _; rotate_left; (focus (first | (simp; done) | (simp; omega) | omega))) | refine Ext.trans ?_ (by assumption)))
    clear hc1 hf1 hl1
    clear hxa h1
    have hc1 := hB1.cells; have hf1 := hB1.free; have hl1 := hB1.lt
    go_wp2_with fail
    (refine (member_some hi _ _ _ _ _ _ (by omega) (hin.ext (by with_reducible repeat (first | exact Ext.refl _ | assumption | apply Ext.drew | apply Ext.drewN | apply Ext.alloc | (refine Ext.setCell ?_ ?_ _; rotate_left; (focus (first | (simp; done) | (simp; omega) | omega))) | refine Ext.trans ?_ (by assumption))))).mono ?_); rintro e w2 ⟨ka2, kc2, la2, lc2, rfl, hin2, h2⟩; obtain ⟨hcw2, hfw2, hzw2⟩ := ext_facts h2; (try simp at hzw2); (try have hzAw2 : w.heap.size < w2.heap.size := by omega); (try have hzBw2 : w.heap.size + 1 < w2.heap.size := by omega); (try have hzCw2 : w.heap.size + 2 < w2.heap.size := by omega)
    have hB1 := Box.ext h2 hB1
    have hB2 := Box.ext h2 hB2
    have hw2 := hB2.lt
    have hx2 : Ext w w2 := (by with_reducible repeat (first | exact Ext.refl _ | assumption | apply Ext.drew | apply Ext.drewN | apply Ext.alloc | (refine Ext.setCell ?_ ?_ _; rotate_left; (focus (first | (simp; done) | (simp; omega) | omega))) | refine Ext.trans ?_ (by assumption)))
    clear hc1 hf1 hl1 hcw2 hfw2 hcw1 hfw1
    clear hx1 h2
    go_upto_region 7 with fail
    refine gen_world (R := fun wx => Box wx w.heap.size #[.int .i64 x.k, .int .i64 x.n, .string x.s, .slice ka x.keys.length kc, .slice la x.l.length lc] 40 ∧ Box wx (w.heap.size + 1) #[.string ⟨#[]⟩, .slice none 0 0] 25 ∧ Box wx (w2.heap.size + 1) #[.string i.s, .slice none 0 0] 25 ∧ Ext w wx) ⟨(by (with_reducible apply Box.to); (focus (with_reducible repeat (first | assumption | (apply Box.new; (focus (first | rfl | (first | (simp; done) | (simp; omega) | omega)))) | apply Box.set | (apply Box.other; rotate_left; (focus (first | (simp; done) | (simp; omega) | omega))) | apply Box.alloc | apply Box.drew | (apply Box.ext; (focus assumption))))); (first | rfl | (simp; done) | (go_light; simp [*]; done))), (by (with_reducible apply Box.to); (focus (with_reducible repeat (first | assumption | (apply Box.new; (focus (first | rfl | (first | (simp; done) | (simp; omega) | omega)))) | apply Box.set | (apply Box.other; rotate_left; (focus (first | (simp; done) | (simp; omega) | omega))) | apply Box.alloc | apply Box.drew | (apply Box.ext; (focus assumption))))); (first | rfl | (simp; done) | (go_light; simp [*]; done))), (by (with_reducible apply Box.to); (focus (with_reducible repeat (first | assumption | (apply Box.new; (focus (first | rfl | (first | (simp; done) | (simp; omega) | omega)))) | apply Box.set | (apply Box.other; rotate_left; (focus (first | (simp; done) | (simp; omega) | omega))) | apply Box.alloc | apply Box.drew | (apply Box.ext; (focus assumption))))); (first | rfl | (simp; done) | (go_light; simp [*]; done))), (by with_reducible repeat (first | exact Ext.refl _ | assumption | apply Ext.drew | apply Ext.drewN | apply Ext.alloc | (refine Ext.setCell ?_ ?_ _; rotate_left; (focus (first | (simp; done) | (simp; omega) | omega))) | refine Ext.trans ?_ (by assumption)))⟩ ?_
    rintro wb ⟨hB1, hB2, hB6, hxb⟩
    have hc1 := hB1.cells; have hf1 := hB1.free; have hl1 := hB1.lt
    have hc2 := hB2.cells; have hf2 := hB2.free; have hl2 := hB2.lt
    have hc6 := hB6.cells; have hf6 := hB6.free; have hl6 := hB6.lt
    go_wp2_with fail
    (refine (member_some ht _ _ _ _ _ _ (by omega) (hin.ext (by with_reducible repeat (first | exact Ext.refl _ | assumption | apply Ext.drew | apply Ext.drewN | apply Ext.alloc | (refine Ext.setCell ?_ ?_ _; rotate_left; (focus (first | (simp; done) | (simp; omega) | omega))) | refine Ext.trans ?_ (by assumption))))).mono ?_); rintro e w3 ⟨ka3, kc3, la3, lc3, rfl, hin3, h3⟩; obtain ⟨hcw3, hfw3, hzw3⟩ := ext_facts h3; (try simp at hzw3); (try have hzAw3 : w.heap.size < w3.heap.size := by omega); (try have hzBw3 : w.heap.size + 1 < w3.heap.size := by omega); (try have hzCw3 : w.heap.size + 2 < w3.heap.size := by omega)
    have hB2 := Box.ext h3 hB2
    have hx3 : Ext w w3 := (by with_reducible repeat (first | exact Ext.refl _ | assumption | apply Ext.drew | apply Ext.drewN | apply Ext.alloc | (refine Ext.setCell ?_ ?_ _; rotate_left; (focus (first | (simp; done) | (simp; omega) | omega))) | refine Ext.trans ?_ (by assumption)))
    clear hc1 hf1 hl1 hc2 hf2 hl2 hc6 hf6 hl6 hB1 hB6
    clear h3 hxb
    have hc2 := hB2.cells; have hf2 := hB2.free; have hl2 := hB2.lt
    by_cases p : t.k = 4
    · have p0 : (t.k == 4) = true := by simpa using p
      have p1 : (t.k != 4) = false := by simpa using p
      have p2 : (8 : Int) < (t.l.length : Int) := by have := Hnt.out; omega
      go_wp2_with fail
      (with_reducible apply bp_ret); (focus (go_light; simp [results, Try.results16, go_sem, *]; rfl))
      exact .inr ⟨rfl, rfl, (by with_reducible repeat (first | exact Ext.refl _ | assumption | apply Ext.drew | apply Ext.drewN | apply Ext.alloc | (refine Ext.setCell ?_ ?_ _; rotate_left; (focus (first | (simp; done) | (simp; omega) | omega))) | refine Ext.trans ?_ (by assumption)))⟩
    · have p0 : (t.k == 4) = false := by simpa using p
      have p1 : (t.k != 4) = true := by simpa using p
      go_wp2_with fail
      (with_reducible apply bp_ret); (focus (go_light; simp [results, Try.results16, go_sem, *]; rfl))
      exact .inr ⟨rfl, rfl, (by with_reducible repeat (first | exact Ext.refl _ | assumption | apply Ext.drew | apply Ext.drewN | apply Ext.alloc | (refine Ext.setCell ?_ ?_ _; rotate_left; (focus (first | (simp; done) | (simp; omega) | omega))) | refine Ext.trans ?_ (by assumption)))⟩

set_option maxRecDepth 100000 in
set_option maxHeartbeats 16000000 in
theorem read_loop (x i t : V) (ka : Option Addr) (kc : Nat) (la : Option Addr) (lc : Nat) (S0 : Nat → Prop) (w : World) (hsz : x.size ≤ 1073741824) (hin0 : x.In w S0 ka kc la lc)
    (hf : x.fine = true) (hi : x.member imageK = some i) (q : i.k = 3) (hs : i.s.toList ≠ []) (ht : x.member stepsK = some t) (p : t.k = 4) (hlen : t.l.length ≤ 8)
    (hsp : specOf x = match stepsOf t.l with | some xs => some (i.s, xs) | none => none) :
    Calls Try.prog 16 #[x.val ka kc la lc] w (RetSpec (specOf x) w) := by
  have hin : x.In w (fun b => b < w.heap.size) ka kc la lc := hin0.mono fun b _ h => h
  clear hin0
  obtain ⟨j0, hj, hy0, hy1, hy2⟩ := info_parts infoStepR
  have q0 : (i.k == 3) = true := by simpa using q
  have q1 : (i.k != 3) = false := by simpa using q
  have q3 := textB hs
  have hts := member_size ht
  have htl := t.len_l
  have p0 : (t.k == 4) = true := by simpa using p
  have p1 : (t.k != 4) = false := by simpa using p
  have p2 : ¬ (8 : Int) < (t.l.length : Int) := by omega
  have p3 : (t.l.length : Int) ≤ 8 := by omega
  have Hspec := Lib.hid hsp
  clear hsp q hs p
  go_enter Try.func16, Try.ntmps16
  go_upto_region 1 with fail
  refine gen_world (R := fun wx => Box wx w.heap.size #[.int .i64 x.k, .int .i64 x.n, .string x.s, .slice ka x.keys.length kc, .slice la x.l.length lc] 40 ∧ Box wx (w.heap.size + 1) #[.string ⟨#[]⟩, .slice none 0 0] 25 ∧ Ext w wx) ⟨(by (with_reducible apply Box.to); (focus (with_reducible repeat (first | assumption | (apply Box.new; (focus (first | rfl | (first | (simp; done) | (simp; omega) | omega)))) | apply Box.set | (apply Box.other; rotate_left; (focus (first | (simp; done) | (simp; omega) | omega))) | apply Box.alloc | apply Box.drew | (apply Box.ext; (focus assumption))))); (first | rfl | (simp; done) | (go_light; simp [*]; done))), (by (with_reducible apply Box.to); (focus (with_reducible repeat (first | assumption | (apply Box.new; (focus (first | rfl | (first | (simp; done) | (simp; omega) | omega)))) | apply Box.set | (apply Box.other; rotate_left; (focus (first | (simp; done) | (simp; omega) | omega))) | apply Box.alloc | apply Box.drew | (apply Box.ext; (focus assumption))))); (first | rfl | (simp; done) | (go_light; simp [*]; done))), (by with_reducible repeat (first | exact Ext.refl _ | assumption | apply Ext.drew | apply Ext.drewN | apply Ext.alloc | (refine Ext.setCell ?_ ?_ _; rotate_left; (focus (first | (simp; done) | (simp; omega) | omega))) | refine Ext.trans ?_ (by assumption)))⟩ ?_
  rintro wa ⟨hB1, hB2, hxa⟩
  have hc1 := hB1.cells; have hf1 := hB1.free; have hl1 := hB1.lt
  go_wp2_with fail
  (with_reducible refine (fine_any x ka kc la lc _ _ hsz (hin.ext (by with_reducible repeat (first | exact Ext.refl _ | assumption | apply Ext.drew | apply Ext.drewN | apply Ext.alloc | (refine Ext.setCell ?_ ?_ _; rotate_left; (focus (first | (simp; done) | (simp; omega) | omega))) | refine Ext.trans ?_ (by assumption))))).mono ?_); rintro e w1 ⟨rfl, h1⟩; obtain ⟨hcw1, hfw1, hzw1⟩ := ext_facts h1; (try simp at hzw1); (try have hzAw1 : w.heap.size < w1.heap.size := by omega); (try have hzBw1 : w.heap.size + 1 < w1.heap.size := by omega); (try have hzCw1 : w.heap.size + 2 < w1.heap.size := by omega)
  rw [hf]
  have hB1 := Box.ext h1 hB1
  have hB2 := Box.ext h1 hB2
  have hx1 : Ext w w1 := (by with_reducible repeat (first | exact Ext.refl _ | assumption | apply Ext.drew | apply Ext.drewN | apply Ext.alloc | (refine Ext.setCell ?_ ?_ _; rotate_left; (focus (first | (simp; done) | (simp; omega) | omega))) | refine Ext.trans ?_ (by assumption)))
  clear hc1 hf1 hl1
  clear hxa h1
  have hc1 := hB1.cells; have hf1 := hB1.free; have hl1 := hB1.lt
  go_wp2_with fail
  (refine (member_some hi _ _ _ _ _ _ (by omega) (hin.ext (by with_reducible repeat (first | exact Ext.refl _ | assumption | apply Ext.drew | apply Ext.drewN | apply Ext.alloc | (refine Ext.setCell ?_ ?_ _; rotate_left; (focus (first | (simp; done) | (simp; omega) | omega))) | refine Ext.trans ?_ (by assumption))))).mono ?_); rintro e w2 ⟨ka2, kc2, la2, lc2, rfl, hin2, h2⟩; obtain ⟨hcw2, hfw2, hzw2⟩ := ext_facts h2; (try simp at hzw2); (try have hzAw2 : w.heap.size < w2.heap.size := by omega); (try have hzBw2 : w.heap.size + 1 < w2.heap.size := by omega); (try have hzCw2 : w.heap.size + 2 < w2.heap.size := by omega)
  have hB1 := Box.ext h2 hB1
  have hB2 := Box.ext h2 hB2
  have hw2 := hB2.lt
  have hx2 : Ext w w2 := (by with_reducible repeat (first | exact Ext.refl _ | assumption | apply Ext.drew | apply Ext.drewN | apply Ext.alloc | (refine Ext.setCell ?_ ?_ _; rotate_left; (focus (first | (simp; done) | (simp; omega) | omega))) | refine Ext.trans ?_ (by assumption)))
  clear hc1 hf1 hl1 hcw2 hfw2 hcw1 hfw1
  clear hx1 h2
  go_upto_region 7 with fail
  refine gen_world (R := fun wx => Box wx w.heap.size #[.int .i64 x.k, .int .i64 x.n, .string x.s, .slice ka x.keys.length kc, .slice la x.l.length lc] 40 ∧ Box wx (w.heap.size + 1) #[.string ⟨#[]⟩, .slice none 0 0] 25 ∧ Box wx (w2.heap.size + 1) #[.string i.s, .slice none 0 0] 25 ∧ Ext w wx) ⟨(by (with_reducible apply Box.to); (focus (with_reducible repeat (first | assumption | (apply Box.new; (focus (first | rfl | (first | (simp; done) | (simp; omega) | omega)))) | apply Box.set | (apply Box.other; rotate_left; (focus (first | (simp; done) | (simp; omega) | omega))) | apply Box.alloc | apply Box.drew | (apply Box.ext; (focus assumption))))); (first | rfl | (simp; done) | (go_light; simp [*]; done))), (by (with_reducible apply Box.to); (focus (with_reducible repeat (first | assumption | (apply Box.new; (focus (first | rfl | (first | (simp; done) | (simp; omega) | omega)))) | apply Box.set | (apply Box.other; rotate_left; (focus (first | (simp; done) | (simp; omega) | omega))) | apply Box.alloc | apply Box.drew | (apply Box.ext; (focus assumption))))); (first | rfl | (simp; done) | (go_light; simp [*]; done))), (by (with_reducible apply Box.to); (focus (with_reducible repeat (first | assumption | (apply Box.new; (focus (first | rfl | (first | (simp; done) | (simp; omega) | omega)))) | apply Box.set | (apply Box.other; rotate_left; (focus (first | (simp; done) | (simp; omega) | omega))) | apply Box.alloc | apply Box.drew | (apply Box.ext; (focus assumption))))); (first | rfl | (simp; done) | (go_light; simp [*]; done))), (by with_reducible repeat (first | exact Ext.refl _ | assumption | apply Ext.drew | apply Ext.drewN | apply Ext.alloc | (refine Ext.setCell ?_ ?_ _; rotate_left; (focus (first | (simp; done) | (simp; omega) | omega))) | refine Ext.trans ?_ (by assumption)))⟩ ?_
  rintro wb ⟨hB1, hB2, hB6, hxb⟩
  have hc1 := hB1.cells; have hf1 := hB1.free; have hl1 := hB1.lt
  have hc2 := hB2.cells; have hf2 := hB2.free; have hl2 := hB2.lt
  have hc6 := hB6.cells; have hf6 := hB6.free; have hl6 := hB6.lt
  go_wp2_with fail
  (refine (member_some ht _ _ _ _ _ _ (by omega) (hin.ext (by with_reducible repeat (first | exact Ext.refl _ | assumption | apply Ext.drew | apply Ext.drewN | apply Ext.alloc | (refine Ext.setCell ?_ ?_ _; rotate_left; (focus (first | (simp; done) | (simp; omega) | omega))) | refine Ext.trans ?_ (by assumption))))).mono ?_); rintro e w3 ⟨ka3, kc3, la3, lc3, rfl, hin3, h3⟩; obtain ⟨hcw3, hfw3, hzw3⟩ := ext_facts h3; (try simp at hzw3); (try have hzAw3 : w.heap.size < w3.heap.size := by omega); (try have hzBw3 : w.heap.size + 1 < w3.heap.size := by omega); (try have hzCw3 : w.heap.size + 2 < w3.heap.size := by omega)
  have hw3 : w2.heap.size + 1 < wb.heap.size := hB6.lt
  have hB2 := Box.ext h3 hB2
  have hB6 := Box.ext h3 hB6
  have hx3 : Ext w w3 := (by with_reducible repeat (first | exact Ext.refl _ | assumption | apply Ext.drew | apply Ext.drewN | apply Ext.alloc | (refine Ext.setCell ?_ ?_ _; rotate_left; (focus (first | (simp; done) | (simp; omega) | omega))) | refine Ext.trans ?_ (by assumption)))
  clear hc1 hf1 hl1 hc2 hf2 hl2 hc6 hf6 hl6 hB1
  clear h3 hxb
  go_upto_region 13 with fail
  refine gen_world (R := fun wx => ∃ P : Nat → Prop, (∀ b, P b → b ≠ w2.heap.size + 1) ∧ t.In wx P ka3 kc3 la3 lc3 ∧ Box wx (w.heap.size + 1) #[.string ⟨#[]⟩, .slice none 0 0] 25 ∧ Box wx (w2.heap.size + 1) #[.string i.s, .slice none 0 0] 25 ∧ Ext w wx) ⟨_, fun b hb => by simp only [Plus] at hb; omega, hin3.ext (by with_reducible repeat (first | exact Ext.refl _ | assumption | apply Ext.drew | apply Ext.drewN | apply Ext.alloc | (refine Ext.setCell ?_ ?_ _; rotate_left; (focus (first | (simp; done) | (simp; omega) | omega))) | refine Ext.trans ?_ (by assumption))), (by (with_reducible apply Box.to); (focus (with_reducible repeat (first | assumption | (apply Box.new; (focus (first | rfl | (first | (simp; done) | (simp; omega) | omega)))) | apply Box.set | (apply Box.other; rotate_left; (focus (first | (simp; done) | (simp; omega) | omega))) | apply Box.alloc | apply Box.drew | (apply Box.ext; (focus assumption))))); (first | rfl | (simp; done) | (go_light; simp [*]; done))), (by (with_reducible apply Box.to); (focus (with_reducible repeat (first | assumption | (apply Box.new; (focus (first | rfl | (first | (simp; done) | (simp; omega) | omega)))) | apply Box.set | (apply Box.other; rotate_left; (focus (first | (simp; done) | (simp; omega) | omega))) | apply Box.alloc | apply Box.drew | (apply Box.ext; (focus assumption))))); (first | rfl | (simp; done) | (go_light; simp [*]; done))), (by with_reducible repeat (first | exact Ext.refl _ | assumption | apply Ext.drew | apply Ext.drewN | apply Ext.alloc | (refine Ext.setCell ?_ ?_ _; rotate_left; (focus (first | (simp; done) | (simp; omega) | omega))) | refine Ext.trans ?_ (by assumption)))⟩ ?_
  rintro wx ⟨P, hP, hint, hB2, hB6, hx⟩
  have hlw := hB2.lt
  have hlv := hB6.lt
  have HP := Lib.hid hP
  clear hP hin3 hcw3 hfw3
  go_loopg [9, 10, 11, 12, 59] t.l.length (fun g _ _ _ _ i' wr => ∃ (k : Nat) (a2 : Option Addr) (c2 : Nat) (xs : List (Int × Int)), k ≤ t.l.length ∧ i' = .int .i64 k ∧ g = t.l.length - k ∧ StepsTo t.l k xs ∧ wr.ownsRow wx.heap.size 34 2 (.slice a2 k c2) k (stepCells xs) ∧
      Box wr (w.heap.size + 1) #[.string ⟨#[]⟩, .slice none 0 0] 25 ∧ Box wr (w2.heap.size + 1) #[.string i.s, .slice a2 k c2] 25 ∧ Ext w wr ∧ Held (fun b => b < wx.heap.size ∧ b ≠ w2.heap.size + 1) wx wr)
  case atStart => exact ⟨0, none, 0, [], by omega, rfl, rfl, StepsTo.nil _, World.ownsRow_nil _ _ _ _, hB2, hB6, hx, Held.refl _ _⟩
  case round =>
    clear hB2 hB6 hx
    obtain ⟨k, a2, c2, xs, hk, rfl, rfl, hst, hown, hB2, hB6, hx, hh⟩ := hrel
    have Hst := Lib.hid hst
    have Hown := Lib.hid hown
    have hszr := hh.size
    clear hst hown
    have hc2 := hB2.cells; have hf2 := hB2.free; have hl2 := hB2.lt
    have hc6 := hB6.cells; have hf6 := hB6.free; have hl6 := hB6.lt
    by_cases hlt : k < t.l.length
    · have hK : Kept P wx wr := fun b hb hl => hh.block b ⟨hl, HP.out b hb⟩ hl
      obtain ⟨bb, o, rfl, hS, ka', kc', la', lc', ⟨d0, d1, d2, d3, d4⟩, hin'⟩ := hint.item hlt
      have d0 := hK.cell hS d0
      have d1 := hK.cell hS d1
      have d2 := hK.cell hS d2
      have d3 := hK.cell hS d3
      have d4 := hK.cell hS d4
      have hin' := hin'.keep hK (fun _ h _ => h)
      have hnb : ∀ b, b < wx.heap.size → some b ≠ (Value.slice a2 k c2).ownBlock := fun b hb he => by
        have := (Hown.out.lt b he.symm).1
        omega
      have Hnb := Lib.hid hnb
      clear hnb
      have hsi := V.size_item hlt
      by_cases k5 : (t.l[k]).k = 5
      · have k5b : ((t.l[k]).k == 5) = true := by simpa using k5
        obtain ⟨p, hp⟩ : ∃ p, ((t.l[k]).member pauseK).getD V.zero = p := ⟨_, rfl⟩
        have Hso := Lib.hid (show stepOf t.l[k] = if p.k = 2 ∧ 0 ≤ p.n ∧ goodStepB (-1) p.n = true then some (-1, p.n) else none by rw [stepOf, if_pos k5, ← hp]; cases (t.l[k]).member pauseK <;> simp [V.zero])
        clear k5
        go_wp2_with fail
        (refine (member_get hp _ _ _ _ _ _ (by omega) (hin'.ext (by with_reducible repeat (first | exact Ext.refl _ | assumption | apply Ext.drew | apply Ext.drewN | apply Ext.alloc | (refine Ext.setCell ?_ ?_ _; rotate_left; (focus (first | (simp; done) | (simp; omega) | omega))) | refine Ext.trans ?_ (by assumption))))).mono ?_); rintro e w4 ⟨ka4, kc4, la4, lc4, rfl, hin4, h4⟩; obtain ⟨hcw4, hfw4, hzw4⟩ := ext_facts h4; (try simp at hzw4); (try have hzAw4 : w.heap.size < w4.heap.size := by omega); (try have hzBw4 : w.heap.size + 1 < w4.heap.size := by omega); (try have hzCw4 : w.heap.size + 2 < w4.heap.size := by omega)
        clear hcw4 hfw4
        go_upto_region 18 with fail
        refine gen_world (R := fun wy => Box wy wr.heap.size #[.int .i64 t.l[k].k, .int .i64 t.l[k].n, .string t.l[k].s, .slice ka' t.l[k].keys.length kc', .slice la' t.l[k].l.length lc'] 40 ∧ Box wy (wr.heap.size + 1) #[.int .i64 (t.l[k]).n, .int .i64 0] 34 ∧ Box wy w4.heap.size #[.int .i64 p.k, .int .i64 p.n, .string p.s, .slice ka4 p.keys.length kc4, .slice la4 p.l.length lc4] 40 ∧ Ext wr wy) ⟨(by (with_reducible apply Box.to); (focus (with_reducible repeat (first | assumption | (apply Box.new; (focus (first | rfl | (first | (simp; done) | (simp; omega) | omega)))) | apply Box.set | (apply Box.other; rotate_left; (focus (first | (simp; done) | (simp; omega) | omega))) | apply Box.alloc | apply Box.drew | (apply Box.ext; (focus assumption))))); (first | rfl | (simp; done) | (go_light; simp [*]; done))), (by (with_reducible apply Box.to); (focus (with_reducible repeat (first | assumption | (apply Box.new; (focus (first | rfl | (first | (simp; done) | (simp; omega) | omega)))) | apply Box.set | (apply Box.other; rotate_left; (focus (first | (simp; done) | (simp; omega) | omega))) | apply Box.alloc | apply Box.drew | (apply Box.ext; (focus assumption))))); (first | rfl | (simp; done) | (go_light; simp [*]; done))), (by (with_reducible apply Box.to); (focus (with_reducible repeat (first | assumption | (apply Box.new; (focus (first | rfl | (first | (simp; done) | (simp; omega) | omega)))) | apply Box.set | (apply Box.other; rotate_left; (focus (first | (simp; done) | (simp; omega) | omega))) | apply Box.alloc | apply Box.drew | (apply Box.ext; (focus assumption))))); (first | rfl | (simp; done) | (go_light; simp [*]; done))), (by with_reducible repeat (first | exact Ext.refl _ | assumption | apply Ext.drew | apply Ext.drewN | apply Ext.alloc | (refine Ext.setCell ?_ ?_ _; rotate_left; (focus (first | (simp; done) | (simp; omega) | omega))) | refine Ext.trans ?_ (by assumption)))⟩ ?_
        rintro wy ⟨hB9, hB10, hB11, hy⟩
        have hB2y := Box.ext hy hB2
        have hB6y := Box.ext hy hB6
        clear hc2 hf2 hl2 hc6 hf6 hl6
        have hc9 := hB9.cells; have hf9 := hB9.free; have hl9 := hB9.lt
        have hc10 := hB10.cells; have hf10 := hB10.free; have hl10 := hB10.lt
        have hc11 := hB11.cells; have hf11 := hB11.free; have hl11 := hB11.lt
        have n1 : ¬ w4.heap.size = wr.heap.size := by omega
        have n2 : ¬ w4.heap.size = wr.heap.size + 1 := by omega
        have n3 : ¬ wr.heap.size = w4.heap.size := by omega
        have n4 : ¬ wr.heap.size + 1 = w4.heap.size := by omega
        go_region_held3 (fun w' => w'.cell? ⟨w4.heap.size, 0, none⟩ = some (.int .i64 p.k) ∧ w'.cell? ⟨w4.heap.size, 1, none⟩ = some (.int .i64 p.n) ∧ w'.cell? ⟨w4.heap.size, 2, none⟩ = some (.string p.s) ∧ w'.cell? ⟨w4.heap.size, 3, none⟩ = some (.slice ka4 p.keys.length kc4) ∧ w'.cell? ⟨w4.heap.size, 4, none⟩ = some (.slice la4 p.l.length lc4))
          (go_keep)
          (fail)
        all_goals
          go_upto_region 19 with fail
          refine gen_world (R := fun wz => Box wz wr.heap.size #[.int .i64 p.k, .int .i64 p.n, .string p.s, .slice ka4 p.keys.length kc4, .slice la4 p.l.length lc4] 40 ∧ Box wz (wr.heap.size + 1) #[.int .i64 (-1), .int .i64 p.n] 34 ∧ Ext wr wz) ⟨?_, ?_, (by with_reducible repeat (first | exact Ext.refl _ | assumption | apply Ext.drew | apply Ext.drewN | apply Ext.alloc | (refine Ext.setCell ?_ ?_ _; rotate_left; (focus (first | (simp; done) | (simp; omega) | omega))) | refine Ext.trans ?_ (by assumption)))⟩ ?_
          · refine Box.to (Box.drew ?_) (vs := #[.int .i64 p.k, .int .i64 p.n, .string p.s, .slice ka4 p.keys.length kc4, .slice la4 p.l.length lc4]) rfl
            exact (((((((hB9.other (p := ⟨wr.heap.size + 1, 0, none⟩) (by simp) _).other (p := ⟨wr.heap.size + 1, 1, none⟩) (by simp) _).set 0 _).set 1 _).set 2 _).set 3 _).set 4 _).to rfl
          · refine Box.drew ?_
            exact (((((((hB10.set 0 _).set 1 _).other (p := ⟨wr.heap.size, 0, none⟩) (by simp) _).other (p := ⟨wr.heap.size, 1, none⟩) (by simp) _).other (p := ⟨wr.heap.size, 2, none⟩) (by simp) _).other (p := ⟨wr.heap.size, 3, none⟩) (by simp) _).other (p := ⟨wr.heap.size, 4, none⟩) (by simp) _).to rfl
          clear hB9 hB10 hB11 hc9 hf9 hl9 hc10 hf10 hl10 hc11 hf11 hl11 hy
          rintro wz ⟨hB9, hB10z, hz⟩
          have hB2z := Box.ext hz hB2
          have hB6z := Box.ext hz hB6
          have hc2 := hB2z.cells; have hf2 := hB2z.free; have hl2 := hB2z.lt
          have hc9 := hB9.cells; have hf9 := hB9.free; have hl9 := hB9.lt
          have hc10 := hB10z.cells; have hf10 := hB10z.free; have hl10 := hB10z.lt
          by_cases q1 : p.k = 2
          · have q1b : (p.k == 2) = true := by simpa using q1
            have q1c : (p.k != 2) = false := by simpa using q1
            by_cases q2 : 0 ≤ p.n
            · have q2c : ¬ p.n < 0 := by omega
              cases q3 : goodStepB (-1) (p.n)
              · go_wp2_with fail
                (with_reducible refine (goodStep_any (-1) (p.n) _).mono ?_); rintro e w5 ⟨rfl, h5⟩; obtain ⟨hcw5, hfw5, hzw5⟩ := ext_facts h5; (try simp at hzw5); (try have hzAw5 : w.heap.size < w5.heap.size := by omega); (try have hzBw5 : w.heap.size + 1 < w5.heap.size := by omega); (try have hzCw5 : w.heap.size + 2 < w5.heap.size := by omega)
                rw [q3]
                go_wp2_with fail
                (with_reducible apply bp_ret); (focus (go_light; simp [results, Try.results16, go_sem, *]; rfl))
                refine .inr ⟨?_, rfl, (by with_reducible repeat (first | exact Ext.refl _ | assumption | apply Ext.drew | apply Ext.drewN | apply Ext.alloc | (refine Ext.setCell ?_ ?_ _; rotate_left; (focus (first | (simp; done) | (simp; omega) | omega))) | refine Ext.trans ?_ (by assumption)))⟩
                rw [Hspec.out, stepsOf_bad hlt]
                rw [Hso.out, if_neg]
                rw [q3]; simp
              · have Hgo := Lib.hid (show stepOf t.l[k] = some (-1, p.n) by rw [Hso.out, if_pos ⟨q1, q2, q3⟩])
                go_wp2_with fail
                (with_reducible refine (goodStep_any (-1) (p.n) _).mono ?_); rintro e w5 ⟨rfl, h5⟩; obtain ⟨hcw5, hfw5, hzw5⟩ := ext_facts h5; (try simp at hzw5); (try have hzAw5 : w.heap.size < w5.heap.size := by omega); (try have hzBw5 : w.heap.size + 1 < w5.heap.size := by omega); (try have hzCw5 : w.heap.size + 2 < w5.heap.size := by omega)
                rw [q3]
                have hx5 : Ext wr w5 := (by with_reducible repeat (first | exact Ext.refl _ | assumption | apply Ext.drew | apply Ext.drewN | apply Ext.alloc | (refine Ext.setCell ?_ ?_ _; rotate_left; (focus (first | (simp; done) | (simp; omega) | omega))) | refine Ext.trans ?_ (by assumption)))
                have Hown5 := Lib.hid (ownsRow_ext Hown.out hx5)
                have hB65 := Box.ext h5 hB6z
                have hB10 := Box.ext h5 hB10z
                have hc65 := hB65.cells; have hf65 := hB65.free; have hl65 := hB65.lt
                have hc10 := hB10.cells; have hf10 := hB10.free; have hl10 := hB10.lt
                go_wp2_with ((at_builtin; refine wpList_append_lies _ (by rfl) _ _ 23 (by rfl) wx.heap.size 34 j0 _ 2 16 Try.underlying23 hj hy0 hy1 hy2 rfl (by decide) (.slice a2 k c2) k (stepCells xs) (by rfl) (Hown5.out.alloc _) ⟨w5.heap.size, 0, none⟩ 1 1 [.int .i64 (-1), .int .i64 (p.n)] (by rfl) (by rfl) (World.news_of_block (cs := #[.int .i64 (-1), .int .i64 (p.n)]) (t := 34) (fr := (0, 0)) (heap_alloc_new w5 _)) (by simp [Value.oneCell']) (by omega) (by unfold maxLen; omega) (by omega) (by simp; omega) _ rfl ?_; intro g6 cap6 w6 hown6 hgrow6 hat6 hlt6; have hB66 := Box.grown (Box.alloc hB65 _) hgrow6 (Hnb.out _ (by omega)); have hc66 := hB66.cells; have hf66 := hB66.free; have hl66 := hB66.lt; have Hgrow := Lib.hid hgrow6; have Hown6 := Lib.hid hown6; have Hat := Lib.hid hat6; clear hgrow6 hown6 hat6))
                have hB26 := Box.grown (Box.alloc (Box.ext h5 hB2z) (.cells #[.int .i64 (-1), .int .i64 (p.n)] 34)) Hgrow.out (Hnb.out _ (by omega))
                have hx6 : Ext w w6 := Ext.grown (b := w5.alloc _) (by with_reducible repeat (first | exact Ext.refl _ | assumption | apply Ext.drew | apply Ext.drewN | apply Ext.alloc | (refine Ext.setCell ?_ ?_ _; rotate_left; (focus (first | (simp; done) | (simp; omega) | omega))) | refine Ext.trans ?_ (by assumption))) Hgrow.out (fun g hg => by have := (Hown.out.lt g hg).1; omega)
                have hh6 : Held (fun b => b < wx.heap.size ∧ b ≠ w2.heap.size + 1) wx w6 := Held.grown (b := w5.alloc _) (by with_reducible repeat (first | exact Held.refl _ _ | assumption | apply Held.drew | apply Held.drewN | apply Held.alloc | (refine Held.set ?_ ?_ _; rotate_left; (focus (first | (simp; done) | (simp; omega) | omega))) | (refine Held.ext ?_ (by assumption)) | (refine Held.grown ?_ (by assumption) (by assumption)) | (refine Held.trans ?_ (by assumption)))) Hgrow.out (fun g hg hT => by have := (Hown.out.lt g hg).1; omega)
                go_roundg (t.l.length - (k + 1))
                case measure => omega
                case rel => exact ⟨k + 1, _, _, xs ++ [(-1, p.n)], by omega, by go_num, rfl, Hst.out.snoc hlt Hgo.out, by rw [stepCells_snoc]; exact ownsRow_keep Hown6.out (fun b hb he => by have := (Hown6.out.lt b he).1; rw [Below.heap_setCell _ _ _ _ (by simp; omega)]), (by (with_reducible apply Box.to); (focus (with_reducible repeat (first | assumption | (apply Box.new; (focus (first | rfl | (first | (simp; done) | (simp; omega) | omega)))) | apply Box.set | (apply Box.other; rotate_left; (focus (first | (simp; done) | (simp; omega) | omega))) | apply Box.alloc | apply Box.drew | (apply Box.ext; (focus assumption))))); (first | rfl | (simp; done) | (go_light; simp [*]; done))), (by (with_reducible apply Box.to); (focus (with_reducible repeat (first | assumption | (apply Box.new; (focus (first | rfl | (first | (simp; done) | (simp; omega) | omega)))) | apply Box.set | (apply Box.other; rotate_left; (focus (first | (simp; done) | (simp; omega) | omega))) | apply Box.alloc | apply Box.drew | (apply Box.ext; (focus assumption))))); (first | rfl | (simp; done) | (go_light; simp [*]; done))), (by with_reducible repeat (first | exact Ext.refl _ | assumption | apply Ext.drew | apply Ext.drewN | apply Ext.alloc | (refine Ext.setCell ?_ ?_ _; rotate_left; (focus (first | (simp; done) | (simp; omega) | omega))) | refine Ext.trans ?_ (by assumption))), (by with_reducible repeat (first | exact Held.refl _ _ | assumption | apply Held.drew | apply Held.drewN | apply Held.alloc | (refine Held.set ?_ ?_ _; rotate_left; (focus (first | (simp; done) | (simp; omega) | omega))) | (refine Held.ext ?_ (by assumption)) | (refine Held.grown ?_ (by assumption) (by assumption)) | (refine Held.trans ?_ (by assumption))))⟩
            · have q2c : p.n < 0 := by omega
              go_wp2_with fail
              (with_reducible apply bp_ret); (focus (go_light; simp [results, Try.results16, go_sem, *]; rfl))
              refine .inr ⟨?_, rfl, (by with_reducible repeat (first | exact Ext.refl _ | assumption | apply Ext.drew | apply Ext.drewN | apply Ext.alloc | (refine Ext.setCell ?_ ?_ _; rotate_left; (focus (first | (simp; done) | (simp; omega) | omega))) | refine Ext.trans ?_ (by assumption)))⟩
              rw [Hspec.out, stepsOf_bad hlt]
              rw [Hso.out, if_neg]
              rintro ⟨-, h, -⟩; omega
          · have q1b : (p.k == 2) = false := by simpa using q1
            have q1c : (p.k != 2) = true := by simpa using q1
            go_wp2_with fail
            (with_reducible apply bp_ret); (focus (go_light; simp [results, Try.results16, go_sem, *]; rfl))
            refine .inr ⟨?_, rfl, (by with_reducible repeat (first | exact Ext.refl _ | assumption | apply Ext.drew | apply Ext.drewN | apply Ext.alloc | (refine Ext.setCell ?_ ?_ _; rotate_left; (focus (first | (simp; done) | (simp; omega) | omega))) | refine Ext.trans ?_ (by assumption)))⟩
            rw [Hspec.out, stepsOf_bad hlt]
            rw [Hso.out, if_neg]
            rintro ⟨h, -⟩; exact q1 h
      · have k5b : ((t.l[k]).k == 5) = false := by simpa using k5
        have Hso := Lib.hid (show stepOf t.l[k] = if (t.l[k]).k = 2 ∧ 0 ≤ (t.l[k]).n ∧ goodStepB (t.l[k]).n 0 = true then some ((t.l[k]).n, 0) else none by rw [stepOf, if_neg k5])
        clear k5
        go_upto_region 19 with fail
        refine gen_world (R := fun wz => Box wz wr.heap.size #[.int .i64 t.l[k].k, .int .i64 t.l[k].n, .string t.l[k].s, .slice ka' t.l[k].keys.length kc', .slice la' t.l[k].l.length lc'] 40 ∧ Box wz (wr.heap.size + 1) #[.int .i64 (t.l[k]).n, .int .i64 0] 34 ∧ Ext wr wz) ⟨(by (with_reducible apply Box.to); (focus (with_reducible repeat (first | assumption | (apply Box.new; (focus (first | rfl | (first | (simp; done) | (simp; omega) | omega)))) | apply Box.set | (apply Box.other; rotate_left; (focus (first | (simp; done) | (simp; omega) | omega))) | apply Box.alloc | apply Box.drew | (apply Box.ext; (focus assumption))))); (first | rfl | (simp; done) | (go_light; simp [*]; done))), (by (with_reducible apply Box.to); (focus (with_reducible repeat (first | assumption | (apply Box.new; (focus (first | rfl | (first | (simp; done) | (simp; omega) | omega)))) | apply Box.set | (apply Box.other; rotate_left; (focus (first | (simp; done) | (simp; omega) | omega))) | apply Box.alloc | apply Box.drew | (apply Box.ext; (focus assumption))))); (first | rfl | (simp; done) | (go_light; simp [*]; done))), (by with_reducible repeat (first | exact Ext.refl _ | assumption | apply Ext.drew | apply Ext.drewN | apply Ext.alloc | (refine Ext.setCell ?_ ?_ _; rotate_left; (focus (first | (simp; done) | (simp; omega) | omega))) | refine Ext.trans ?_ (by assumption)))⟩ ?_
        rintro wz ⟨hB9, hB10z, hz⟩
        have hB2z := Box.ext hz hB2
        have hB6z := Box.ext hz hB6
        clear hc2 hf2 hl2 hc6 hf6 hl6
        have hc2 := hB2z.cells; have hf2 := hB2z.free; have hl2 := hB2z.lt
        have hc9 := hB9.cells; have hf9 := hB9.free; have hl9 := hB9.lt
        have hc10 := hB10z.cells; have hf10 := hB10z.free; have hl10 := hB10z.lt
        by_cases q1 : (t.l[k]).k = 2
        · have q1b : ((t.l[k]).k == 2) = true := by simpa using q1
          have q1c : ((t.l[k]).k != 2) = false := by simpa using q1
          by_cases q2 : 0 ≤ (t.l[k]).n
          · have q2c : ¬ (t.l[k]).n < 0 := by omega
            cases q3 : goodStepB ((t.l[k]).n) (0)
            · go_wp2_with fail
              (with_reducible refine (goodStep_any ((t.l[k]).n) (0) _).mono ?_); rintro e w5 ⟨rfl, h5⟩; obtain ⟨hcw5, hfw5, hzw5⟩ := ext_facts h5; (try simp at hzw5); (try have hzAw5 : w.heap.size < w5.heap.size := by omega); (try have hzBw5 : w.heap.size + 1 < w5.heap.size := by omega); (try have hzCw5 : w.heap.size + 2 < w5.heap.size := by omega)
              rw [q3]
              go_wp2_with fail
              (with_reducible apply bp_ret); (focus (go_light; simp [results, Try.results16, go_sem, *]; rfl))
              refine .inr ⟨?_, rfl, (by with_reducible repeat (first | exact Ext.refl _ | assumption | apply Ext.drew | apply Ext.drewN | apply Ext.alloc | (refine Ext.setCell ?_ ?_ _; rotate_left; (focus (first | (simp; done) | (simp; omega) | omega))) | refine Ext.trans ?_ (by assumption)))⟩
              rw [Hspec.out, stepsOf_bad hlt]
              rw [Hso.out, if_neg]
              rw [q3]; simp
            · have Hgo := Lib.hid (show stepOf t.l[k] = some ((t.l[k]).n, 0) by rw [Hso.out, if_pos ⟨q1, q2, q3⟩])
              go_wp2_with fail
              (with_reducible refine (goodStep_any ((t.l[k]).n) (0) _).mono ?_); rintro e w5 ⟨rfl, h5⟩; obtain ⟨hcw5, hfw5, hzw5⟩ := ext_facts h5; (try simp at hzw5); (try have hzAw5 : w.heap.size < w5.heap.size := by omega); (try have hzBw5 : w.heap.size + 1 < w5.heap.size := by omega); (try have hzCw5 : w.heap.size + 2 < w5.heap.size := by omega)
              rw [q3]
              have hx5 : Ext wr w5 := (by with_reducible repeat (first | exact Ext.refl _ | assumption | apply Ext.drew | apply Ext.drewN | apply Ext.alloc | (refine Ext.setCell ?_ ?_ _; rotate_left; (focus (first | (simp; done) | (simp; omega) | omega))) | refine Ext.trans ?_ (by assumption)))
              have Hown5 := Lib.hid (ownsRow_ext Hown.out hx5)
              have hB65 := Box.ext h5 hB6z
              have hB10 := Box.ext h5 hB10z
              have hc65 := hB65.cells; have hf65 := hB65.free; have hl65 := hB65.lt
              have hc10 := hB10.cells; have hf10 := hB10.free; have hl10 := hB10.lt
              go_wp2_with ((at_builtin; refine wpList_append_lies _ (by rfl) _ _ 23 (by rfl) wx.heap.size 34 j0 _ 2 16 Try.underlying23 hj hy0 hy1 hy2 rfl (by decide) (.slice a2 k c2) k (stepCells xs) (by rfl) (Hown5.out.alloc _) ⟨w5.heap.size, 0, none⟩ 1 1 [.int .i64 ((t.l[k]).n), .int .i64 (0)] (by rfl) (by rfl) (World.news_of_block (cs := #[.int .i64 ((t.l[k]).n), .int .i64 (0)]) (t := 34) (fr := (0, 0)) (heap_alloc_new w5 _)) (by simp [Value.oneCell']) (by omega) (by unfold maxLen; omega) (by omega) (by simp; omega) _ rfl ?_; intro g6 cap6 w6 hown6 hgrow6 hat6 hlt6; have hB66 := Box.grown (Box.alloc hB65 _) hgrow6 (Hnb.out _ (by omega)); have hc66 := hB66.cells; have hf66 := hB66.free; have hl66 := hB66.lt; have Hgrow := Lib.hid hgrow6; have Hown6 := Lib.hid hown6; have Hat := Lib.hid hat6; clear hgrow6 hown6 hat6))
              have hB26 := Box.grown (Box.alloc (Box.ext h5 hB2z) (.cells #[.int .i64 ((t.l[k]).n), .int .i64 (0)] 34)) Hgrow.out (Hnb.out _ (by omega))
              have hx6 : Ext w w6 := Ext.grown (b := w5.alloc _) (by with_reducible repeat (first | exact Ext.refl _ | assumption | apply Ext.drew | apply Ext.drewN | apply Ext.alloc | (refine Ext.setCell ?_ ?_ _; rotate_left; (focus (first | (simp; done) | (simp; omega) | omega))) | refine Ext.trans ?_ (by assumption))) Hgrow.out (fun g hg => by have := (Hown.out.lt g hg).1; omega)
              have hh6 : Held (fun b => b < wx.heap.size ∧ b ≠ w2.heap.size + 1) wx w6 := Held.grown (b := w5.alloc _) (by with_reducible repeat (first | exact Held.refl _ _ | assumption | apply Held.drew | apply Held.drewN | apply Held.alloc | (refine Held.set ?_ ?_ _; rotate_left; (focus (first | (simp; done) | (simp; omega) | omega))) | (refine Held.ext ?_ (by assumption)) | (refine Held.grown ?_ (by assumption) (by assumption)) | (refine Held.trans ?_ (by assumption)))) Hgrow.out (fun g hg hT => by have := (Hown.out.lt g hg).1; omega)
              go_roundg (t.l.length - (k + 1))
              case measure => omega
              case rel => exact ⟨k + 1, _, _, xs ++ [((t.l[k]).n, 0)], by omega, by go_num, rfl, Hst.out.snoc hlt Hgo.out, by rw [stepCells_snoc]; exact ownsRow_keep Hown6.out (fun b hb he => by have := (Hown6.out.lt b he).1; rw [Below.heap_setCell _ _ _ _ (by simp; omega)]), (by (with_reducible apply Box.to); (focus (with_reducible repeat (first | assumption | (apply Box.new; (focus (first | rfl | (first | (simp; done) | (simp; omega) | omega)))) | apply Box.set | (apply Box.other; rotate_left; (focus (first | (simp; done) | (simp; omega) | omega))) | apply Box.alloc | apply Box.drew | (apply Box.ext; (focus assumption))))); (first | rfl | (simp; done) | (go_light; simp [*]; done))), (by (with_reducible apply Box.to); (focus (with_reducible repeat (first | assumption | (apply Box.new; (focus (first | rfl | (first | (simp; done) | (simp; omega) | omega)))) | apply Box.set | (apply Box.other; rotate_left; (focus (first | (simp; done) | (simp; omega) | omega))) | apply Box.alloc | apply Box.drew | (apply Box.ext; (focus assumption))))); (first | rfl | (simp; done) | (go_light; simp [*]; done))), (by with_reducible repeat (first | exact Ext.refl _ | assumption | apply Ext.drew | apply Ext.drewN | apply Ext.alloc | (refine Ext.setCell ?_ ?_ _; rotate_left; (focus (first | (simp; done) | (simp; omega) | omega))) | refine Ext.trans ?_ (by assumption))), (by with_reducible repeat (first | exact Held.refl _ _ | assumption | apply Held.drew | apply Held.drewN | apply Held.alloc | (refine Held.set ?_ ?_ _; rotate_left; (focus (first | (simp; done) | (simp; omega) | omega))) | (refine Held.ext ?_ (by assumption)) | (refine Held.grown ?_ (by assumption) (by assumption)) | (refine Held.trans ?_ (by assumption))))⟩
          · have q2c : (t.l[k]).n < 0 := by omega
            go_wp2_with fail
            (with_reducible apply bp_ret); (focus (go_light; simp [results, Try.results16, go_sem, *]; rfl))
            refine .inr ⟨?_, rfl, (by with_reducible repeat (first | exact Ext.refl _ | assumption | apply Ext.drew | apply Ext.drewN | apply Ext.alloc | (refine Ext.setCell ?_ ?_ _; rotate_left; (focus (first | (simp; done) | (simp; omega) | omega))) | refine Ext.trans ?_ (by assumption)))⟩
            rw [Hspec.out, stepsOf_bad hlt]
            rw [Hso.out, if_neg]
            rintro ⟨-, h, -⟩; omega
        · have q1b : ((t.l[k]).k == 2) = false := by simpa using q1
          have q1c : ((t.l[k]).k != 2) = true := by simpa using q1
          go_wp2_with fail
          (with_reducible apply bp_ret); (focus (go_light; simp [results, Try.results16, go_sem, *]; rfl))
          refine .inr ⟨?_, rfl, (by with_reducible repeat (first | exact Ext.refl _ | assumption | apply Ext.drew | apply Ext.drewN | apply Ext.alloc | (refine Ext.setCell ?_ ?_ _; rotate_left; (focus (first | (simp; done) | (simp; omega) | omega))) | refine Ext.trans ?_ (by assumption)))⟩
          rw [Hspec.out, stepsOf_bad hlt]
          rw [Hso.out, if_neg]
          rintro ⟨h, -⟩; exact q1 h
    · obtain rfl : k = t.l.length := by omega
      go_wp2_with fail
      (with_reducible apply bp_ret); (focus (go_light; simp [results, Try.results16, go_sem, *]; rfl))
      exact .inl ⟨i.s, xs, a2, t.l.length, c2, by rw [Hspec.out, Hst.out.all], Hst.out.1, rfl, owns_steps (ownsRow_keep Hown.out (fun b hb he => by
        have := (Hown.out.lt b he).1
        rw [Below.heap_setCell _ _ _ _ (by simp; omega), Below.heap_setCell _ _ _ _ (by simp; omega)])) Hst.out.1, (by with_reducible repeat (first | exact Ext.refl _ | assumption | apply Ext.drew | apply Ext.drewN | apply Ext.alloc | (refine Ext.setCell ?_ ?_ _; rotate_left; (focus (first | (simp; done) | (simp; omega) | omega))) | refine Ext.trans ?_ (by assumption)))⟩
theorem specOf_spec {x i t : V} (hf : x.fine = true) (hi : x.member imageK = some i) (q : i.k = 3) (hs : i.s.toList ≠ []) (ht : x.member stepsK = some t) (p : t.k = 4) (hlen : t.l.length ≤ 8) :
    specOf x = match stepsOf t.l with | some xs => some (i.s, xs) | none => none := by
  unfold specOf; rw [if_pos hf, hi]; simp only; rw [if_pos ⟨q, hs⟩, ht]; simp only; rw [if_pos ⟨p, hlen⟩]; cases stepsOf t.l <;> rfl
theorem spec_cases (x : V) : (specOf x = none ∧ (x.fine = false ∨ (x.fine = true ∧ (x.member imageK = none ∨ ∃ i, x.member imageK = some i ∧ ¬ (i.k = 3 ∧ i.s.toList ≠ []))))) ∨
    ∃ i, x.fine = true ∧ x.member imageK = some i ∧ i.k = 3 ∧ i.s.toList ≠ [] ∧
      (((x.member stepsK = none ∧ specOf x = some (i.s, [])) ∨ (∃ t, x.member stepsK = some t ∧ ¬ (t.k = 4 ∧ t.l.length ≤ 8) ∧ specOf x = none)) ∨
        ∃ t, x.member stepsK = some t ∧ t.k = 4 ∧ t.l.length ≤ 8) := by
  by_cases hf : x.fine = true
  · cases hi : x.member imageK with
    | none => exact .inl ⟨by unfold specOf; rw [if_pos hf, hi], .inr ⟨hf, .inl rfl⟩⟩
    | some i =>
      by_cases hq : i.k = 3 ∧ i.s.toList ≠ []
      · refine .inr ⟨i, hf, rfl, hq.1, hq.2, ?_⟩
        cases ht : x.member stepsK with
        | none => exact .inl (.inl ⟨rfl, by unfold specOf; rw [if_pos hf, hi]; simp only; rw [if_pos hq, ht]⟩)
        | some t =>
          by_cases hp : t.k = 4 ∧ t.l.length ≤ 8
          · exact .inr ⟨t, rfl, hp.1, hp.2⟩
          · exact .inl (.inr ⟨t, rfl, hp, by unfold specOf; rw [if_pos hf, hi]; simp only; rw [if_pos hq, ht]; simp only; rw [if_neg hp]⟩)
      · exact .inl ⟨by unfold specOf; rw [if_pos hf, hi]; simp only; rw [if_neg hq], .inr ⟨hf, .inr ⟨i, rfl, hq⟩⟩⟩
  · have hf : x.fine = false := by simpa using hf
    exact .inl ⟨by unfold specOf; rw [hf]; simp, .inl hf⟩
theorem read_any (x : V) (ka : Option Addr) (kc : Nat) (la : Option Addr) (lc : Nat) (S : Nat → Prop) (w : World) (hsz : x.size ≤ 1073741824) (hin : x.In w S ka kc la lc) :
    Calls Try.prog 16 #[x.val ka kc la lc] w (RetSpec (specOf x) w) := by
  rcases spec_cases x with ⟨h, hn⟩ | ⟨i, hf, hi, q, hs, hn | ⟨t, ht, p, hlen⟩⟩
  · rw [h]; exact read_none x ka kc la lc S w hsz hin hn
  · exact read_short x i ka kc la lc S w hsz hin hf hi q hs _ (hn.imp (fun h => ⟨h.1, h.2⟩) (fun ⟨t, h1, h2, h3⟩ => ⟨t, h1, h2, h3⟩))
  · exact read_loop x i t ka kc la lc S w hsz hin hf hi q hs ht p hlen (specOf_spec hf hi q hs ht p hlen)
end Go.Proofs.Ytpkgeailbifnjaa
