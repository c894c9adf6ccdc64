/- JsonParts: for all values and keys the law returns true (a member that is put is there, all others are as they were, and taken away it is gone); the arguments hold together at most 1048576 values and letters; the library's listed variables as its text lays them. -/
import Derived.Test.YtknnflobpjppfaaDoorRd9
import Derived.Test.YtknnflobpjppfaaDoorLawK
import Derived.Test.YtknnflobpjppfaaDoorMemA
import Derived.Test.YtknnflobpjppfaaDoorMapP
import Derived.Test.YtknnflobpjppfaaDoorWith
import Derived.Test.YtknnflobpjppfaaDoorWout
import Derived.Test.YtknnflobpjppfaaDoorLibAt
import Derived.Test.YtknnflobpjppfaaDoorOpenV
import Derived.HandedShaped
import Derived.SevenTiedAt
set_option linter.all false
namespace Go.Proofs.YtknnflobpjppfaaDoor.lawJsonParts
open Go.ChangeShapes Go.WideShapes Go.ChangeAt Go.RowKit
open Go.ChangeMaps (open_string shut_string)
section
attribute [local go_sem ↓] Go.wp_at_zero Go.wp_at_succ

theorem walk_bad (x : V) (ka : Option Addr) (kc : Nat) (la : Option Addr) (lc : Nat) (y : V) (kb : Option Addr) (kd : Nat) (lb : Option Addr) (ld : Nat) (key other : ByteArray) (w : World) (hl : LibAt w) (hsx : x.size ≤ 4194304) (hin : x.In w All ka kc la lc) (hbad : ¬ (x.fine = true ∧ x.k = 5)) :
    Calls Tryd.prog 10 #[x.val ka kc la lc, y.val kb kd lb ld, .string key, .string other] w fun e w' => e = .returned (.bool true) ∧ Ext w w' := by
  have Hin := Lib.hid hin
  clear hin
  by_cases hf : x.fine = true
  · have hk5 : (x.k != 5) = true := by simpa using fun h => hbad ⟨hf, h⟩
    have Hf := Lib.hid hf
    clear hf hbad
    go_enter Tryd.func10, Tryd.ntmps10
    go_wp2_with fail
    (refine (fine_any x ka kc la lc _ _ (by omega) (Hin.out.ext (by with_reducible repeat (first | exact Ext.refl _ | assumption | apply Ext.drew | apply Ext.drewN | apply Ext.alloc | (refine Ext.setCell ?_ ?_ _; rotate_left; (focus (first | (simp; done) | (simp; omega) | omega))) | refine Ext.trans ?_ (by assumption))))).mono ?_); rintro e w1 ⟨rfl, h1⟩
    rw [Hf.out]
    have hB1 : Box w1 w.heap.size #[.int .i64 x.k, .int .i64 x.n, .string x.s, .slice ka x.keys.length kc, .slice la x.l.length lc] 33 := Box.ext h1 (by (with_reducible apply Box.to); (focus (with_reducible repeat (first | assumption | (apply Box.new; (focus (first | rfl | (first | (simp; done) | (simp; omega) | omega)))) | apply Box.set | (apply Box.other; rotate_left; (focus (first | (simp; done) | (simp; omega) | omega))) | apply Box.alloc | apply Box.drew | (apply Box.ext; (focus assumption))))); (first | rfl | (simp; done) | (go_light; simp [*]; done)))
    have hx1 : Ext w w1 := (by with_reducible repeat (first | exact Ext.refl _ | assumption | apply Ext.drew | apply Ext.drewN | apply Ext.alloc | (refine Ext.setCell ?_ ?_ _; rotate_left; (focus (first | (simp; done) | (simp; omega) | omega))) | refine Ext.trans ?_ (by assumption)))
    clear h1
    have hc1 := hB1.cells; have hf1 := hB1.free; have hl1 := hB1.lt
    go_wp2_with fail
    (with_reducible refine (reads_keep _ (hl.ext (by with_reducible repeat (first | exact Ext.refl _ | assumption | apply Ext.drew | apply Ext.drewN | apply Ext.alloc | (refine Ext.setCell ?_ ?_ _; rotate_left; (focus (first | (simp; done) | (simp; omega) | omega))) | refine Ext.trans ?_ (by assumption))))).mono ?_); rintro e w2 ⟨rfl, h2⟩; obtain ⟨hcw2, hfw2, hzw2⟩ := ext_facts h2; (try simp at hzw2); (try have hzAw2 : w.heap.size < w2.heap.size := by omega); (try have hzBw2 : w.heap.size + 1 < w2.heap.size := by omega); (try have hzCw2 : w.heap.size + 2 < w2.heap.size := by omega)
    go_wp2_with fail
    go_ret
    exact ⟨rfl, (by with_reducible repeat (first | exact Ext.refl _ | assumption | apply Ext.drew | apply Ext.drewN | apply Ext.alloc | (refine Ext.setCell ?_ ?_ _; rotate_left; (focus (first | (simp; done) | (simp; omega) | omega))) | refine Ext.trans ?_ (by assumption)))⟩
  · have hf' : x.fine = false := by simpa using hf
    have Hf := Lib.hid hf'
    clear hf hf' hbad
    go_enter Tryd.func10, Tryd.ntmps10
    go_wp2_with fail
    (refine (fine_any x ka kc la lc _ _ (by omega) (Hin.out.ext (by with_reducible repeat (first | exact Ext.refl _ | assumption | apply Ext.drew | apply Ext.drewN | apply Ext.alloc | (refine Ext.setCell ?_ ?_ _; rotate_left; (focus (first | (simp; done) | (simp; omega) | omega))) | refine Ext.trans ?_ (by assumption))))).mono ?_); rintro e w1 ⟨rfl, h1⟩
    rw [Hf.out]
    have hx1 : Ext w w1 := (by with_reducible repeat (first | exact Ext.refl _ | assumption | apply Ext.drew | apply Ext.drewN | apply Ext.alloc | (refine Ext.setCell ?_ ?_ _; rotate_left; (focus (first | (simp; done) | (simp; omega) | omega))) | refine Ext.trans ?_ (by assumption)))
    clear h1
    go_wp2_with fail
    (with_reducible refine (reads_keep _ (hl.ext (by with_reducible repeat (first | exact Ext.refl _ | assumption | apply Ext.drew | apply Ext.drewN | apply Ext.alloc | (refine Ext.setCell ?_ ?_ _; rotate_left; (focus (first | (simp; done) | (simp; omega) | omega))) | refine Ext.trans ?_ (by assumption))))).mono ?_); rintro e w2 ⟨rfl, h2⟩; obtain ⟨hcw2, hfw2, hzw2⟩ := ext_facts h2; (try simp at hzw2); (try have hzAw2 : w.heap.size < w2.heap.size := by omega); (try have hzBw2 : w.heap.size + 1 < w2.heap.size := by omega); (try have hzCw2 : w.heap.size + 2 < w2.heap.size := by omega)
    go_wp2_with fail
    go_ret
    exact ⟨rfl, (by with_reducible repeat (first | exact Ext.refl _ | assumption | apply Ext.drew | apply Ext.drewN | apply Ext.alloc | (refine Ext.setCell ?_ ?_ _; rotate_left; (focus (first | (simp; done) | (simp; omega) | omega))) | refine Ext.trans ?_ (by assumption)))⟩

/-- The values that the law meets. -/
structure Met (x y : V) (key other : ByteArray) (u b : V) (is : Bool) : Prop where
  eq : x.put key y = u
  uk : u.memD key = y ∧ (u.member key).isSome = true
  ub : u.memD other = b ∧ (u.member other).isSome = is
  ud : ((u.del key).memD key) = V.zero ∧ ((u.del key).member key).isSome = false
  rise : Rises u.keys
  size : u.size ≤ 12582912
  dsize : (u.del key).size ≤ 12582912
theorem met {x y : V} (h : Obj x) (key other : ByteArray) (hx : x.size ≤ 4194304) (hy : y.size ≤ 4194304) (hk : key.size ≤ 4194303) : ∃ u b is, Met x y key other u b is ∧ (key ≠ other → x.memD other = b ∧ (x.member other).isSome = is) := by
  have hs := put_size x key y
  refine ⟨_, _, _, ⟨rfl, ?_, ⟨rfl, rfl⟩, ?_, (h.put key y).rise, by omega, by have := del_size (x.put key y) key; omega⟩, fun e => ?_⟩
  · unfold V.memD; rw [member_put h, if_pos rfl]; exact ⟨rfl, rfl⟩
  · unfold V.memD; rw [member_del (h.put key y), if_pos rfl]; exact ⟨rfl, rfl⟩
  · unfold V.memD; rw [member_put h, if_neg e]; exact ⟨rfl, rfl⟩

set_option maxRecDepth 100000 in
set_option maxHeartbeats 8000000 in
theorem walk_good (x : V) (ka : Option Addr) (kc : Nat) (la : Option Addr) (lc : Nat) (y : V) (kb : Option Addr) (kd : Nat) (lb : Option Addr) (ld : Nat) (key other : ByteArray) (w : World) (hl : LibAt w) (hsx : x.size ≤ 4194304) (hsy : y.size ≤ 4194304) (hsk : key.size ≤ 4194303) (hin : x.In w All ka kc la lc) (hjn : y.In w All kb kd lb ld) (hf : x.fine = true) (h5 : x.k = 5) :
    Calls Tryd.prog 10 #[x.val ka kc la lc, y.val kb kd lb ld, .string key, .string other] w fun e w' => e = .returned (.bool true) ∧ Ext w w' := by
  have hobj := sound_obj (fine_sound hf) h5
  obtain ⟨u, b, is, hmet, hne⟩ := met (y := y) hobj key other hsx hsy hsk
  have Hin := Lib.hid hin
  have Hjn := Lib.hid hjn
  have Hf := Lib.hid hf
  have Hr := Lib.hid hobj.rise
  have Hm := Lib.hid hmet
  have Hne := Lib.hid hne
  have hus := hmet.size
  have hds := hmet.dsize
  have hbs : b.size ≤ 12582912 := by
    rw [← hmet.ub.1]
    rcases memD_size u other with h | h
    · rw [h, V.size_eq]; decide
    · omega
  have hk5 : (x.k != 5) = false := by simpa using h5
  clear hin hjn hf hobj hmet hne h5
  go_enter Tryd.func10, Tryd.ntmps10
  go_wp2_with fail
  (refine (fine_any x ka kc la lc _ _ (by omega) (Hin.out.ext (by with_reducible repeat (first | exact Ext.refl _ | assumption | apply Ext.drew | apply Ext.drewN | apply Ext.alloc | (refine Ext.setCell ?_ ?_ _; rotate_left; (focus (first | (simp; done) | (simp; omega) | omega))) | refine Ext.trans ?_ (by assumption))))).mono ?_); rintro e w1 ⟨rfl, h1⟩
  rw [Hf.out]
  have hB0 : Box w1 w.heap.size #[.int .i64 x.k, .int .i64 x.n, .string x.s, .slice ka x.keys.length kc, .slice la x.l.length lc] 33 := Box.ext h1 (by (with_reducible apply Box.to); (focus (with_reducible repeat (first | assumption | (apply Box.new; (focus (first | rfl | (first | (simp; done) | (simp; omega) | omega)))) | apply Box.set | (apply Box.other; rotate_left; (focus (first | (simp; done) | (simp; omega) | omega))) | apply Box.alloc | apply Box.drew | (apply Box.ext; (focus assumption))))); (first | rfl | (simp; done) | (go_light; simp [*]; done)))
  have hB1 : Box w1 (w.heap.size + 1) #[.int .i64 y.k, .int .i64 y.n, .string y.s, .slice kb y.keys.length kd, .slice lb y.l.length ld] 33 := Box.ext h1 (by (with_reducible apply Box.to); (focus (with_reducible repeat (first | assumption | (apply Box.new; (focus (first | rfl | (first | (simp; done) | (simp; omega) | omega)))) | apply Box.set | (apply Box.other; rotate_left; (focus (first | (simp; done) | (simp; omega) | omega))) | apply Box.alloc | apply Box.drew | (apply Box.ext; (focus assumption))))); (first | rfl | (simp; done) | (go_light; simp [*]; done)))
  have hx1 : Ext w w1 := (by with_reducible repeat (first | exact Ext.refl _ | assumption | apply Ext.drew | apply Ext.drewN | apply Ext.alloc | (refine Ext.setCell ?_ ?_ _; rotate_left; (focus (first | (simp; done) | (simp; omega) | omega))) | refine Ext.trans ?_ (by assumption)))
  clear h1
  have hc0 := hB0.cells; have hf0 := hB0.free; have hl0 := hB0.lt
  have hc1 := hB1.cells; have hf1 := hB1.free; have hl1 := hB1.lt
  go_wp2_with fail
  (refine (with_any x ka kc la lc key y kb kd lb ld All _ (by omega) Hr.out (Hin.out.ext (by with_reducible repeat (first | exact Ext.refl _ | assumption | apply Ext.drew | apply Ext.drewN | apply Ext.alloc | (refine Ext.setCell ?_ ?_ _; rotate_left; (focus (first | (simp; done) | (simp; omega) | omega))) | refine Ext.trans ?_ (by assumption)))) (Hjn.out.ext (by with_reducible repeat (first | exact Ext.refl _ | assumption | apply Ext.drew | apply Ext.drewN | apply Ext.alloc | (refine Ext.setCell ?_ ?_ _; rotate_left; (focus (first | (simp; done) | (simp; omega) | omega))) | refine Ext.trans ?_ (by assumption))))).mono ?_)
  rw [Hm.out.eq]
  rintro e w2 ⟨ka2, kc2, la2, lc2, rfl, hin2, h2⟩
  have hB0 := Box.ext h2 hB0
  have hB1 := Box.ext h2 hB1
  have hx2 : Ext w w2 := (by with_reducible repeat (first | exact Ext.refl _ | assumption | apply Ext.drew | apply Ext.drewN | apply Ext.alloc | (refine Ext.setCell ?_ ?_ _; rotate_left; (focus (first | (simp; done) | (simp; omega) | omega))) | refine Ext.trans ?_ (by assumption)))
  have Hin2 := Lib.hid (all_in hin2)
  clear h2 hin2 hx1 hc0 hf0 hl0 hc1 hf1 hl1
  go_upto_region 4 with fail
  refine gen_world (R := fun wx => Box wx w.heap.size #[.int .i64 x.k, .int .i64 x.n, .string x.s, .slice ka x.keys.length kc, .slice la x.l.length lc] 33 ∧ Box wx (w.heap.size + 1) #[.int .i64 y.k, .int .i64 y.n, .string y.s, .slice kb y.keys.length kd, .slice lb y.l.length ld] 33 ∧ Box wx w2.heap.size #[.int .i64 u.k, .int .i64 u.n, .string u.s, .slice ka2 u.keys.length kc2, .slice la2 u.l.length lc2] 33 ∧ u.In wx All ka2 kc2 la2 lc2 ∧ Ext w wx) ⟨(by (with_reducible apply Box.to); (focus (with_reducible repeat (first | assumption | (apply Box.new; (focus (first | rfl | (first | (simp; done) | (simp; omega) | omega)))) | apply Box.set | (apply Box.other; rotate_left; (focus (first | (simp; done) | (simp; omega) | omega))) | apply Box.alloc | apply Box.drew | (apply Box.ext; (focus assumption))))); (first | rfl | (simp; done) | (go_light; simp [*]; done))), (by (with_reducible apply Box.to); (focus (with_reducible repeat (first | assumption | (apply Box.new; (focus (first | rfl | (first | (simp; done) | (simp; omega) | omega)))) | apply Box.set | (apply Box.other; rotate_left; (focus (first | (simp; done) | (simp; omega) | omega))) | apply Box.alloc | apply Box.drew | (apply Box.ext; (focus assumption))))); (first | rfl | (simp; done) | (go_light; simp [*]; done))), (by (with_reducible apply Box.to); (focus (with_reducible repeat (first | assumption | (apply Box.new; (focus (first | rfl | (first | (simp; done) | (simp; omega) | omega)))) | apply Box.set | (apply Box.other; rotate_left; (focus (first | (simp; done) | (simp; omega) | omega))) | apply Box.alloc | apply Box.drew | (apply Box.ext; (focus assumption))))); (first | rfl | (simp; done) | (go_light; simp [*]; done))), Hin2.out.ext (by with_reducible repeat (first | exact Ext.refl _ | assumption | apply Ext.drew | apply Ext.drewN | apply Ext.alloc | (refine Ext.setCell ?_ ?_ _; rotate_left; (focus (first | (simp; done) | (simp; omega) | omega))) | refine Ext.trans ?_ (by assumption))), (by with_reducible repeat (first | exact Ext.refl _ | assumption | apply Ext.drew | apply Ext.drewN | apply Ext.alloc | (refine Ext.setCell ?_ ?_ _; rotate_left; (focus (first | (simp; done) | (simp; omega) | omega))) | refine Ext.trans ?_ (by assumption)))⟩ ?_
  clear hB0 hB1 Hin2 hx2
  rintro wa ⟨hB0, hB1, hB2, hin2, hxa⟩
  have Hin2 := Lib.hid hin2
  clear hin2
  have hc2 := hB2.cells; have hf2 := hB2.free; have hl2 := hB2.lt
  go_wp2_with fail
  (refine (member_any u key ka2 kc2 la2 lc2 All _ (by omega) (Hin2.out.ext (by with_reducible repeat (first | exact Ext.refl _ | assumption | apply Ext.drew | apply Ext.drewN | apply Ext.alloc | (refine Ext.setCell ?_ ?_ _; rotate_left; (focus (first | (simp; done) | (simp; omega) | omega))) | refine Ext.trans ?_ (by assumption))))).mono ?_)
  rw [Hm.out.uk.1, Hm.out.uk.2]
  rintro e w3 ⟨ka3, kc3, la3, lc3, rfl, hin3, h3⟩
  have hB0 := Box.ext h3 hB0
  have hB1 := Box.ext h3 hB1
  have hB2 := Box.ext h3 hB2
  have Hin2 := Lib.hid (V.In.ext (w' := w3) Hin2.out h3)
  have Hin3 := Lib.hid (all_in hin3)
  have hx3 := hxa.trans h3
  clear h3 hin3 hxa hc2 hf2 hl2
  go_upto_region 5 with fail
  refine gen_world (R := fun wx => Box wx w.heap.size #[.int .i64 x.k, .int .i64 x.n, .string x.s, .slice ka x.keys.length kc, .slice la x.l.length lc] 33 ∧ Box wx (w.heap.size + 1) #[.int .i64 y.k, .int .i64 y.n, .string y.s, .slice kb y.keys.length kd, .slice lb y.l.length ld] 33 ∧ Box wx w2.heap.size #[.int .i64 u.k, .int .i64 u.n, .string u.s, .slice ka2 u.keys.length kc2, .slice la2 u.l.length lc2] 33 ∧ Box wx w3.heap.size #[.int .i64 y.k, .int .i64 y.n, .string y.s, .slice ka3 y.keys.length kc3, .slice la3 y.l.length lc3] 33 ∧ u.In wx All ka2 kc2 la2 lc2 ∧ y.In wx All ka3 kc3 la3 lc3 ∧ Ext w wx) ⟨(by (with_reducible apply Box.to); (focus (with_reducible repeat (first | assumption | (apply Box.new; (focus (first | rfl | (first | (simp; done) | (simp; omega) | omega)))) | apply Box.set | (apply Box.other; rotate_left; (focus (first | (simp; done) | (simp; omega) | omega))) | apply Box.alloc | apply Box.drew | (apply Box.ext; (focus assumption))))); (first | rfl | (simp; done) | (go_light; simp [*]; done))), (by (with_reducible apply Box.to); (focus (with_reducible repeat (first | assumption | (apply Box.new; (focus (first | rfl | (first | (simp; done) | (simp; omega) | omega)))) | apply Box.set | (apply Box.other; rotate_left; (focus (first | (simp; done) | (simp; omega) | omega))) | apply Box.alloc | apply Box.drew | (apply Box.ext; (focus assumption))))); (first | rfl | (simp; done) | (go_light; simp [*]; done))), (by (with_reducible apply Box.to); (focus (with_reducible repeat (first | assumption | (apply Box.new; (focus (first | rfl | (first | (simp; done) | (simp; omega) | omega)))) | apply Box.set | (apply Box.other; rotate_left; (focus (first | (simp; done) | (simp; omega) | omega))) | apply Box.alloc | apply Box.drew | (apply Box.ext; (focus assumption))))); (first | rfl | (simp; done) | (go_light; simp [*]; done))), (by (with_reducible apply Box.to); (focus (with_reducible repeat (first | assumption | (apply Box.new; (focus (first | rfl | (first | (simp; done) | (simp; omega) | omega)))) | apply Box.set | (apply Box.other; rotate_left; (focus (first | (simp; done) | (simp; omega) | omega))) | apply Box.alloc | apply Box.drew | (apply Box.ext; (focus assumption))))); (first | rfl | (simp; done) | (go_light; simp [*]; done))), Hin2.out.ext (by with_reducible repeat (first | exact Ext.refl _ | assumption | apply Ext.drew | apply Ext.drewN | apply Ext.alloc | (refine Ext.setCell ?_ ?_ _; rotate_left; (focus (first | (simp; done) | (simp; omega) | omega))) | refine Ext.trans ?_ (by assumption))), Hin3.out.ext (by with_reducible repeat (first | exact Ext.refl _ | assumption | apply Ext.drew | apply Ext.drewN | apply Ext.alloc | (refine Ext.setCell ?_ ?_ _; rotate_left; (focus (first | (simp; done) | (simp; omega) | omega))) | refine Ext.trans ?_ (by assumption))), (by with_reducible repeat (first | exact Ext.refl _ | assumption | apply Ext.drew | apply Ext.drewN | apply Ext.alloc | (refine Ext.setCell ?_ ?_ _; rotate_left; (focus (first | (simp; done) | (simp; omega) | omega))) | refine Ext.trans ?_ (by assumption)))⟩ ?_
  clear hB0 hB1 hB2 Hin2 Hin3 hx3
  rintro wb ⟨hB0, hB1, hB2, hB3, hin2, hin3, hxb⟩
  have Hin2 := Lib.hid hin2
  have Hin3 := Lib.hid hin3
  clear hin2 hin3
  have hc2 := hB2.cells; have hf2 := hB2.free; have hl2 := hB2.lt
  go_wp2_with fail
  (refine (member_any u other ka2 kc2 la2 lc2 All _ (by omega) (Hin2.out.ext (by with_reducible repeat (first | exact Ext.refl _ | assumption | apply Ext.drew | apply Ext.drewN | apply Ext.alloc | (refine Ext.setCell ?_ ?_ _; rotate_left; (focus (first | (simp; done) | (simp; omega) | omega))) | refine Ext.trans ?_ (by assumption))))).mono ?_)
  rw [Hm.out.ub.1, Hm.out.ub.2]
  rintro e w4 ⟨ka4, kc4, la4, lc4, rfl, hin4, h4⟩
  have hB0 := Box.ext h4 hB0
  have hB1 := Box.ext h4 hB1
  have hB2 := Box.ext h4 hB2
  have hB3 := Box.ext h4 hB3
  have Hin2 := Lib.hid (V.In.ext (w' := w4) Hin2.out h4)
  have Hin3 := Lib.hid (V.In.ext (w' := w4) Hin3.out h4)
  have Hin4 := Lib.hid (all_in hin4)
  have hx4 := hxb.trans h4
  clear h4 hin4 hxb hc2 hf2 hl2
  go_upto_region 6 with fail
  refine gen_world (R := fun wx => Box wx w.heap.size #[.int .i64 x.k, .int .i64 x.n, .string x.s, .slice ka x.keys.length kc, .slice la x.l.length lc] 33 ∧ Box wx (w.heap.size + 1) #[.int .i64 y.k, .int .i64 y.n, .string y.s, .slice kb y.keys.length kd, .slice lb y.l.length ld] 33 ∧ Box wx w2.heap.size #[.int .i64 u.k, .int .i64 u.n, .string u.s, .slice ka2 u.keys.length kc2, .slice la2 u.l.length lc2] 33 ∧ Box wx w3.heap.size #[.int .i64 y.k, .int .i64 y.n, .string y.s, .slice ka3 y.keys.length kc3, .slice la3 y.l.length lc3] 33 ∧ Box wx w4.heap.size #[.int .i64 b.k, .int .i64 b.n, .string b.s, .slice ka4 b.keys.length kc4, .slice la4 b.l.length lc4] 33 ∧ u.In wx All ka2 kc2 la2 lc2 ∧ y.In wx All ka3 kc3 la3 lc3 ∧ b.In wx All ka4 kc4 la4 lc4 ∧ Ext w wx) ⟨(by (with_reducible apply Box.to); (focus (with_reducible repeat (first | assumption | (apply Box.new; (focus (first | rfl | (first | (simp; done) | (simp; omega) | omega)))) | apply Box.set | (apply Box.other; rotate_left; (focus (first | (simp; done) | (simp; omega) | omega))) | apply Box.alloc | apply Box.drew | (apply Box.ext; (focus assumption))))); (first | rfl | (simp; done) | (go_light; simp [*]; done))), (by (with_reducible apply Box.to); (focus (with_reducible repeat (first | assumption | (apply Box.new; (focus (first | rfl | (first | (simp; done) | (simp; omega) | omega)))) | apply Box.set | (apply Box.other; rotate_left; (focus (first | (simp; done) | (simp; omega) | omega))) | apply Box.alloc | apply Box.drew | (apply Box.ext; (focus assumption))))); (first | rfl | (simp; done) | (go_light; simp [*]; done))), (by (with_reducible apply Box.to); (focus (with_reducible repeat (first | assumption | (apply Box.new; (focus (first | rfl | (first | (simp; done) | (simp; omega) | omega)))) | apply Box.set | (apply Box.other; rotate_left; (focus (first | (simp; done) | (simp; omega) | omega))) | apply Box.alloc | apply Box.drew | (apply Box.ext; (focus assumption))))); (first | rfl | (simp; done) | (go_light; simp [*]; done))), (by (with_reducible apply Box.to); (focus (with_reducible repeat (first | assumption | (apply Box.new; (focus (first | rfl | (first | (simp; done) | (simp; omega) | omega)))) | apply Box.set | (apply Box.other; rotate_left; (focus (first | (simp; done) | (simp; omega) | omega))) | apply Box.alloc | apply Box.drew | (apply Box.ext; (focus assumption))))); (first | rfl | (simp; done) | (go_light; simp [*]; done))), (by (with_reducible apply Box.to); (focus (with_reducible repeat (first | assumption | (apply Box.new; (focus (first | rfl | (first | (simp; done) | (simp; omega) | omega)))) | apply Box.set | (apply Box.other; rotate_left; (focus (first | (simp; done) | (simp; omega) | omega))) | apply Box.alloc | apply Box.drew | (apply Box.ext; (focus assumption))))); (first | rfl | (simp; done) | (go_light; simp [*]; done))), Hin2.out.ext (by with_reducible repeat (first | exact Ext.refl _ | assumption | apply Ext.drew | apply Ext.drewN | apply Ext.alloc | (refine Ext.setCell ?_ ?_ _; rotate_left; (focus (first | (simp; done) | (simp; omega) | omega))) | refine Ext.trans ?_ (by assumption))), Hin3.out.ext (by with_reducible repeat (first | exact Ext.refl _ | assumption | apply Ext.drew | apply Ext.drewN | apply Ext.alloc | (refine Ext.setCell ?_ ?_ _; rotate_left; (focus (first | (simp; done) | (simp; omega) | omega))) | refine Ext.trans ?_ (by assumption))), Hin4.out.ext (by with_reducible repeat (first | exact Ext.refl _ | assumption | apply Ext.drew | apply Ext.drewN | apply Ext.alloc | (refine Ext.setCell ?_ ?_ _; rotate_left; (focus (first | (simp; done) | (simp; omega) | omega))) | refine Ext.trans ?_ (by assumption))), (by with_reducible repeat (first | exact Ext.refl _ | assumption | apply Ext.drew | apply Ext.drewN | apply Ext.alloc | (refine Ext.setCell ?_ ?_ _; rotate_left; (focus (first | (simp; done) | (simp; omega) | omega))) | refine Ext.trans ?_ (by assumption)))⟩ ?_
  clear hB0 hB1 hB2 hB3 Hin2 Hin3 Hin4 hx4
  rintro wc ⟨hB0, hB1, hB2, hB3, hB4, hin2, hin3, hin4, hxc⟩
  have Hin2 := Lib.hid hin2
  have Hin3 := Lib.hid hin3
  have Hin4 := Lib.hid hin4
  clear hin2 hin3 hin4
  obtain ⟨c, hc⟩ : ∃ c, x.memD other = c := ⟨_, rfl⟩
  obtain ⟨was, hwas⟩ : ∃ was, (x.member other).isSome = was := ⟨_, rfl⟩
  have Hc := Lib.hid hc
  have Hwas := Lib.hid hwas
  clear hc hwas
  have hc0 := hB0.cells; have hf0 := hB0.free; have hl0 := hB0.lt
  go_wp2_with fail
  (refine (member_any x other ka kc la lc All _ (by omega) (Hin.out.ext (by with_reducible repeat (first | exact Ext.refl _ | assumption | apply Ext.drew | apply Ext.drewN | apply Ext.alloc | (refine Ext.setCell ?_ ?_ _; rotate_left; (focus (first | (simp; done) | (simp; omega) | omega))) | refine Ext.trans ?_ (by assumption))))).mono ?_)
  rw [Hc.out, Hwas.out]
  rintro e w5 ⟨ka5, kc5, la5, lc5, rfl, hin5, h5⟩
  have hB1 := Box.ext h5 hB1
  have hB2 := Box.ext h5 hB2
  have hB3 := Box.ext h5 hB3
  have hB4 := Box.ext h5 hB4
  have Hin2 := Lib.hid (V.In.ext (w' := w5) Hin2.out h5)
  have Hin3 := Lib.hid (V.In.ext (w' := w5) Hin3.out h5)
  have Hin4 := Lib.hid (V.In.ext (w' := w5) Hin4.out h5)
  have Hin5 := Lib.hid (all_in hin5)
  have hx5 := hxc.trans h5
  clear h5 hin5 hxc hc0 hf0 hl0 hB0
  go_upto_region 7 with fail
  refine gen_world (R := fun wx => Box wx (w.heap.size + 1) #[.int .i64 y.k, .int .i64 y.n, .string y.s, .slice kb y.keys.length kd, .slice lb y.l.length ld] 33 ∧ Box wx w2.heap.size #[.int .i64 u.k, .int .i64 u.n, .string u.s, .slice ka2 u.keys.length kc2, .slice la2 u.l.length lc2] 33 ∧ Box wx w3.heap.size #[.int .i64 y.k, .int .i64 y.n, .string y.s, .slice ka3 y.keys.length kc3, .slice la3 y.l.length lc3] 33 ∧ Box wx w4.heap.size #[.int .i64 b.k, .int .i64 b.n, .string b.s, .slice ka4 b.keys.length kc4, .slice la4 b.l.length lc4] 33 ∧ Box wx w5.heap.size #[.int .i64 c.k, .int .i64 c.n, .string c.s, .slice ka5 c.keys.length kc5, .slice la5 c.l.length lc5] 33 ∧ u.In wx All ka2 kc2 la2 lc2 ∧ y.In wx All ka3 kc3 la3 lc3 ∧ b.In wx All ka4 kc4 la4 lc4 ∧ c.In wx All ka5 kc5 la5 lc5 ∧ Ext w wx) ⟨(by (with_reducible apply Box.to); (focus (with_reducible repeat (first | assumption | (apply Box.new; (focus (first | rfl | (first | (simp; done) | (simp; omega) | omega)))) | apply Box.set | (apply Box.other; rotate_left; (focus (first | (simp; done) | (simp; omega) | omega))) | apply Box.alloc | apply Box.drew | (apply Box.ext; (focus assumption))))); (first | rfl | (simp; done) | (go_light; simp [*]; done))), (by (with_reducible apply Box.to); (focus (with_reducible repeat (first | assumption | (apply Box.new; (focus (first | rfl | (first | (simp; done) | (simp; omega) | omega)))) | apply Box.set | (apply Box.other; rotate_left; (focus (first | (simp; done) | (simp; omega) | omega))) | apply Box.alloc | apply Box.drew | (apply Box.ext; (focus assumption))))); (first | rfl | (simp; done) | (go_light; simp [*]; done))), (by (with_reducible apply Box.to); (focus (with_reducible repeat (first | assumption | (apply Box.new; (focus (first | rfl | (first | (simp; done) | (simp; omega) | omega)))) | apply Box.set | (apply Box.other; rotate_left; (focus (first | (simp; done) | (simp; omega) | omega))) | apply Box.alloc | apply Box.drew | (apply Box.ext; (focus assumption))))); (first | rfl | (simp; done) | (go_light; simp [*]; done))), (by (with_reducible apply Box.to); (focus (with_reducible repeat (first | assumption | (apply Box.new; (focus (first | rfl | (first | (simp; done) | (simp; omega) | omega)))) | apply Box.set | (apply Box.other; rotate_left; (focus (first | (simp; done) | (simp; omega) | omega))) | apply Box.alloc | apply Box.drew | (apply Box.ext; (focus assumption))))); (first | rfl | (simp; done) | (go_light; simp [*]; done))), (by (with_reducible apply Box.to); (focus (with_reducible repeat (first | assumption | (apply Box.new; (focus (first | rfl | (first | (simp; done) | (simp; omega) | omega)))) | apply Box.set | (apply Box.other; rotate_left; (focus (first | (simp; done) | (simp; omega) | omega))) | apply Box.alloc | apply Box.drew | (apply Box.ext; (focus assumption))))); (first | rfl | (simp; done) | (go_light; simp [*]; done))), Hin2.out.ext (by with_reducible repeat (first | exact Ext.refl _ | assumption | apply Ext.drew | apply Ext.drewN | apply Ext.alloc | (refine Ext.setCell ?_ ?_ _; rotate_left; (focus (first | (simp; done) | (simp; omega) | omega))) | refine Ext.trans ?_ (by assumption))), Hin3.out.ext (by with_reducible repeat (first | exact Ext.refl _ | assumption | apply Ext.drew | apply Ext.drewN | apply Ext.alloc | (refine Ext.setCell ?_ ?_ _; rotate_left; (focus (first | (simp; done) | (simp; omega) | omega))) | refine Ext.trans ?_ (by assumption))), Hin4.out.ext (by with_reducible repeat (first | exact Ext.refl _ | assumption | apply Ext.drew | apply Ext.drewN | apply Ext.alloc | (refine Ext.setCell ?_ ?_ _; rotate_left; (focus (first | (simp; done) | (simp; omega) | omega))) | refine Ext.trans ?_ (by assumption))), Hin5.out.ext (by with_reducible repeat (first | exact Ext.refl _ | assumption | apply Ext.drew | apply Ext.drewN | apply Ext.alloc | (refine Ext.setCell ?_ ?_ _; rotate_left; (focus (first | (simp; done) | (simp; omega) | omega))) | refine Ext.trans ?_ (by assumption))), (by with_reducible repeat (first | exact Ext.refl _ | assumption | apply Ext.drew | apply Ext.drewN | apply Ext.alloc | (refine Ext.setCell ?_ ?_ _; rotate_left; (focus (first | (simp; done) | (simp; omega) | omega))) | refine Ext.trans ?_ (by assumption)))⟩ ?_
  clear hB1 hB2 hB3 hB4 Hin2 Hin3 Hin4 Hin5 hx5
  rintro wd ⟨hB1, hB2, hB3, hB4, hB5, hin2, hin3, hin4, hin5, hxd⟩
  have Hin2 := Lib.hid hin2
  have Hin3 := Lib.hid hin3
  have Hin4 := Lib.hid hin4
  have Hin5 := Lib.hid hin5
  clear hin2 hin3 hin4 hin5
  have hc2 := hB2.cells; have hf2 := hB2.free; have hl2 := hB2.lt
  go_wp2_with fail
  (refine (without_any u ka2 kc2 la2 lc2 key All _ (by omega) Hm.out.rise (Hin2.out.ext (by with_reducible repeat (first | exact Ext.refl _ | assumption | apply Ext.drew | apply Ext.drewN | apply Ext.alloc | (refine Ext.setCell ?_ ?_ _; rotate_left; (focus (first | (simp; done) | (simp; omega) | omega))) | refine Ext.trans ?_ (by assumption))))).mono ?_)
  rintro e w6 ⟨ka6, kc6, la6, lc6, rfl, hin6, h6⟩
  have hB1 := Box.ext h6 hB1
  have hB3 := Box.ext h6 hB3
  have hB4 := Box.ext h6 hB4
  have hB5 := Box.ext h6 hB5
  have Hin3 := Lib.hid (V.In.ext (w' := w6) Hin3.out h6)
  have Hin4 := Lib.hid (V.In.ext (w' := w6) Hin4.out h6)
  have Hin5 := Lib.hid (V.In.ext (w' := w6) Hin5.out h6)
  have Hin6 := Lib.hid (all_in hin6)
  have hx6 := hxd.trans h6
  clear h6 hin6 hxd hc2 hf2 hl2 hB2 Hin2
  go_wp2_with fail
  (refine (member_any (u.del key) key ka6 kc6 la6 lc6 All _ (by omega) (Hin6.out.ext (by with_reducible repeat (first | exact Ext.refl _ | assumption | apply Ext.drew | apply Ext.drewN | apply Ext.alloc | (refine Ext.setCell ?_ ?_ _; rotate_left; (focus (first | (simp; done) | (simp; omega) | omega))) | refine Ext.trans ?_ (by assumption))))).mono ?_)
  rw [Hm.out.ud.1, Hm.out.ud.2]
  rintro e w7 ⟨ka7, kc7, la7, lc7, rfl, hin7, h7⟩
  have hB1 := Box.ext h7 hB1
  have hB3 := Box.ext h7 hB3
  have hB4 := Box.ext h7 hB4
  have hB5 := Box.ext h7 hB5
  have Hin3 := Lib.hid (V.In.ext (w' := w7) Hin3.out h7)
  have Hin4 := Lib.hid (V.In.ext (w' := w7) Hin4.out h7)
  have Hin5 := Lib.hid (V.In.ext (w' := w7) Hin5.out h7)
  have hx7 := hx6.trans h7
  clear h7 hin7 hx6 Hin6
  go_upto_region 8 with fail
  refine gen_world (R := fun wx => Box wx (w.heap.size + 1) #[.int .i64 y.k, .int .i64 y.n, .string y.s, .slice kb y.keys.length kd, .slice lb y.l.length ld] 33 ∧ Box wx w3.heap.size #[.int .i64 y.k, .int .i64 y.n, .string y.s, .slice ka3 y.keys.length kc3, .slice la3 y.l.length lc3] 33 ∧ Box wx w4.heap.size #[.int .i64 b.k, .int .i64 b.n, .string b.s, .slice ka4 b.keys.length kc4, .slice la4 b.l.length lc4] 33 ∧ Box wx w5.heap.size #[.int .i64 c.k, .int .i64 c.n, .string c.s, .slice ka5 c.keys.length kc5, .slice la5 c.l.length lc5] 33 ∧ y.In wx All ka3 kc3 la3 lc3 ∧ b.In wx All ka4 kc4 la4 lc4 ∧ c.In wx All ka5 kc5 la5 lc5 ∧ Ext w wx) ⟨(by (with_reducible apply Box.to); (focus (with_reducible repeat (first | assumption | (apply Box.new; (focus (first | rfl | (first | (simp; done) | (simp; omega) | omega)))) | apply Box.set | (apply Box.other; rotate_left; (focus (first | (simp; done) | (simp; omega) | omega))) | apply Box.alloc | apply Box.drew | (apply Box.ext; (focus assumption))))); (first | rfl | (simp; done) | (go_light; simp [*]; done))), (by (with_reducible apply Box.to); (focus (with_reducible repeat (first | assumption | (apply Box.new; (focus (first | rfl | (first | (simp; done) | (simp; omega) | omega)))) | apply Box.set | (apply Box.other; rotate_left; (focus (first | (simp; done) | (simp; omega) | omega))) | apply Box.alloc | apply Box.drew | (apply Box.ext; (focus assumption))))); (first | rfl | (simp; done) | (go_light; simp [*]; done))), (by (with_reducible apply Box.to); (focus (with_reducible repeat (first | assumption | (apply Box.new; (focus (first | rfl | (first | (simp; done) | (simp; omega) | omega)))) | apply Box.set | (apply Box.other; rotate_left; (focus (first | (simp; done) | (simp; omega) | omega))) | apply Box.alloc | apply Box.drew | (apply Box.ext; (focus assumption))))); (first | rfl | (simp; done) | (go_light; simp [*]; done))), (by (with_reducible apply Box.to); (focus (with_reducible repeat (first | assumption | (apply Box.new; (focus (first | rfl | (first | (simp; done) | (simp; omega) | omega)))) | apply Box.set | (apply Box.other; rotate_left; (focus (first | (simp; done) | (simp; omega) | omega))) | apply Box.alloc | apply Box.drew | (apply Box.ext; (focus assumption))))); (first | rfl | (simp; done) | (go_light; simp [*]; done))), Hin3.out.ext (by with_reducible repeat (first | exact Ext.refl _ | assumption | apply Ext.drew | apply Ext.drewN | apply Ext.alloc | (refine Ext.setCell ?_ ?_ _; rotate_left; (focus (first | (simp; done) | (simp; omega) | omega))) | refine Ext.trans ?_ (by assumption))), Hin4.out.ext (by with_reducible repeat (first | exact Ext.refl _ | assumption | apply Ext.drew | apply Ext.drewN | apply Ext.alloc | (refine Ext.setCell ?_ ?_ _; rotate_left; (focus (first | (simp; done) | (simp; omega) | omega))) | refine Ext.trans ?_ (by assumption))), Hin5.out.ext (by with_reducible repeat (first | exact Ext.refl _ | assumption | apply Ext.drew | apply Ext.drewN | apply Ext.alloc | (refine Ext.setCell ?_ ?_ _; rotate_left; (focus (first | (simp; done) | (simp; omega) | omega))) | refine Ext.trans ?_ (by assumption))), (by with_reducible repeat (first | exact Ext.refl _ | assumption | apply Ext.drew | apply Ext.drewN | apply Ext.alloc | (refine Ext.setCell ?_ ?_ _; rotate_left; (focus (first | (simp; done) | (simp; omega) | omega))) | refine Ext.trans ?_ (by assumption)))⟩ ?_
  clear hB1 hB3 hB4 hB5 Hin3 Hin4 Hin5 hx7
  rintro we ⟨hB1, hB3, hB4, hB5, hin3, hin4, hin5, hxe⟩
  have Hin3 := Lib.hid hin3
  have Hin4 := Lib.hid hin4
  have Hin5 := Lib.hid hin5
  clear hin3 hin4 hin5
  have hc1 := hB1.cells; have hf1 := hB1.free; have hl1 := hB1.lt
  have hc3 := hB3.cells; have hf3 := hB3.free; have hl3 := hB3.lt
  have hc4 := hB4.cells; have hf4 := hB4.free; have hl4 := hB4.lt
  have hc5 := hB5.cells; have hf5 := hB5.free; have hl5 := hB5.lt
  by_cases heq : key = other
  · subst heq
    go_wp2_with fail
    (refine (same_any y y rfl (by omega) ka3 kc3 la3 lc3 kb kd lb ld All All _ (Hin3.out.ext (by with_reducible repeat (first | exact Ext.refl _ | assumption | apply Ext.drew | apply Ext.drewN | apply Ext.alloc | (refine Ext.setCell ?_ ?_ _; rotate_left; (focus (first | (simp; done) | (simp; omega) | omega))) | refine Ext.trans ?_ (by assumption)))) (Hjn.out.ext (by with_reducible repeat (first | exact Ext.refl _ | assumption | apply Ext.drew | apply Ext.drewN | apply Ext.alloc | (refine Ext.setCell ?_ ?_ _; rotate_left; (focus (first | (simp; done) | (simp; omega) | omega))) | refine Ext.trans ?_ (by assumption))))).mono ?_); rintro e w8 ⟨rfl, h8⟩
    have hx8 := hxe.trans h8
    clear h8 hxe hc1 hf1 hl1 hc3 hf3 hl3 hc4 hf4 hl4 hc5 hf5 hl5
    go_wp2_with fail
    (with_reducible refine (reads_keep _ (hl.ext (by with_reducible repeat (first | exact Ext.refl _ | assumption | apply Ext.drew | apply Ext.drewN | apply Ext.alloc | (refine Ext.setCell ?_ ?_ _; rotate_left; (focus (first | (simp; done) | (simp; omega) | omega))) | refine Ext.trans ?_ (by assumption))))).mono ?_); rintro e w9 ⟨rfl, h9⟩; obtain ⟨hcw9, hfw9, hzw9⟩ := ext_facts h9; (try simp at hzw9); (try have hzAw9 : w.heap.size < w9.heap.size := by omega); (try have hzBw9 : w.heap.size + 1 < w9.heap.size := by omega); (try have hzCw9 : w.heap.size + 2 < w9.heap.size := by omega)
    go_wp2_with fail
    go_ret
    exact ⟨by simp, (by with_reducible repeat (first | exact Ext.refl _ | assumption | apply Ext.drew | apply Ext.drewN | apply Ext.alloc | (refine Ext.setCell ?_ ?_ _; rotate_left; (focus (first | (simp; done) | (simp; omega) | omega))) | refine Ext.trans ?_ (by assumption)))⟩
  · have hkb : (other.toList == key.toList) = false := by simpa using fun h => heq (bytes_ext h).symm
    have hkn : ¬ other.toList = key.toList := fun h => heq (bytes_ext h).symm
    obtain ⟨e1, e2⟩ := Hne.out heq
    have e1 : c = b := Hc.out.symm.trans e1
    have e2 : was = is := Hwas.out.symm.trans e2
    subst e1
    subst e2
    clear Hc Hwas Hne heq
    go_wp2_with fail
    (refine (same_any y y rfl (by omega) ka3 kc3 la3 lc3 kb kd lb ld All All _ (Hin3.out.ext (by with_reducible repeat (first | exact Ext.refl _ | assumption | apply Ext.drew | apply Ext.drewN | apply Ext.alloc | (refine Ext.setCell ?_ ?_ _; rotate_left; (focus (first | (simp; done) | (simp; omega) | omega))) | refine Ext.trans ?_ (by assumption)))) (Hjn.out.ext (by with_reducible repeat (first | exact Ext.refl _ | assumption | apply Ext.drew | apply Ext.drewN | apply Ext.alloc | (refine Ext.setCell ?_ ?_ _; rotate_left; (focus (first | (simp; done) | (simp; omega) | omega))) | refine Ext.trans ?_ (by assumption))))).mono ?_); rintro e w8 ⟨rfl, h8⟩
    have hx8 := hxe.trans h8
    have hB4 := Box.ext h8 hB4
    have hB5 := Box.ext h8 hB5
    have Hin4 := Lib.hid (V.In.ext (w' := w8) Hin4.out h8)
    have Hin5 := Lib.hid (V.In.ext (w' := w8) Hin5.out h8)
    clear h8 hxe hc1 hf1 hl1 hc3 hf3 hl3 hc4 hf4 hl4 hc5 hf5 hl5
    have hc4 := hB4.cells; have hf4 := hB4.free; have hl4 := hB4.lt
    have hc5 := hB5.cells; have hf5 := hB5.free; have hl5 := hB5.lt
    go_wp2_with fail
    (refine (same_any c c rfl (by omega) ka4 kc4 la4 lc4 ka5 kc5 la5 lc5 All All _ (Hin4.out.ext (by with_reducible repeat (first | exact Ext.refl _ | assumption | apply Ext.drew | apply Ext.drewN | apply Ext.alloc | (refine Ext.setCell ?_ ?_ _; rotate_left; (focus (first | (simp; done) | (simp; omega) | omega))) | refine Ext.trans ?_ (by assumption)))) (Hin5.out.ext (by with_reducible repeat (first | exact Ext.refl _ | assumption | apply Ext.drew | apply Ext.drewN | apply Ext.alloc | (refine Ext.setCell ?_ ?_ _; rotate_left; (focus (first | (simp; done) | (simp; omega) | omega))) | refine Ext.trans ?_ (by assumption))))).mono ?_); rintro e w9 ⟨rfl, h9⟩
    have hx9 := hx8.trans h9
    clear h9 hx8 hc4 hf4 hl4 hc5 hf5 hl5
    go_wp2_with fail
    (with_reducible refine (reads_keep _ (hl.ext (by with_reducible repeat (first | exact Ext.refl _ | assumption | apply Ext.drew | apply Ext.drewN | apply Ext.alloc | (refine Ext.setCell ?_ ?_ _; rotate_left; (focus (first | (simp; done) | (simp; omega) | omega))) | refine Ext.trans ?_ (by assumption))))).mono ?_); rintro e w10 ⟨rfl, h10⟩; obtain ⟨hcw10, hfw10, hzw10⟩ := ext_facts h10; (try simp at hzw10); (try have hzAw10 : w.heap.size < w10.heap.size := by omega); (try have hzBw10 : w.heap.size + 1 < w10.heap.size := by omega); (try have hzCw10 : w.heap.size + 2 < w10.heap.size := by omega)
    go_wp2_with fail
    go_ret
    exact ⟨by simp, (by with_reducible repeat (first | exact Ext.refl _ | assumption | apply Ext.drew | apply Ext.drewN | apply Ext.alloc | (refine Ext.setCell ?_ ?_ _; rotate_left; (focus (first | (simp; done) | (simp; omega) | omega))) | refine Ext.trans ?_ (by assumption)))⟩
theorem walk (x : V) (ka : Option Addr) (kc : Nat) (la : Option Addr) (lc : Nat) (y : V) (kb : Option Addr) (kd : Nat) (lb : Option Addr) (ld : Nat) (key other : ByteArray) (w : World) (hl : LibAt w) (hsx : x.size ≤ 4194304) (hsy : y.size ≤ 4194304) (hsk : key.size ≤ 4194303) (hso : other.size ≤ 4194304) (hin : x.In w All ka kc la lc) (hjn : y.In w All kb kd lb ld) :
    Calls Tryd.prog 10 #[x.val ka kc la lc, y.val kb kd lb ld, .string key, .string other] w fun e w' => e = .returned (.bool true) ∧ Ext w w' := by
  by_cases h : x.fine = true ∧ x.k = 5
  · exact walk_good x ka kc la lc y kb kd lb ld key other w hl hsx hsy hsk hin hjn h.1 h.2
  · exact walk_bad x ka kc la lc y kb kd lb ld key other w hl hsx hin h
end
set_option maxRecDepth 100000 in
theorem lifted (os : Os) (started : os.Started) (H : Type) (enc : TypeId × Value → H) (Fi : Stop.Interp) :
    ReturnsInHanded {} Tryd.checked os 10 .any ((Rows.OpenSpec.upto Rows.jsonPartsSpec).preRow enc Tryd.prog Tryd.f10 Rows.jsonPartsUptoRow.domain false Rows.jsonPartsUptoRow.laid) (((Rows.OpenSpec.upto Rows.jsonPartsSpec).at Fi).post enc Tryd.prog Tryd.f10 false true false false) := by
  obtain ⟨places, hx⟩ : ∃ places, DataW.whole enc Tryd.prog ((start.laidWorld os).forCall (fun _ _ => 0) ⟨#[], #[.agg #[.int .i64 0, .int .i64 0, .string ⟨#[]⟩, .slice none 0 0, .slice none 0 0], .agg #[.int .i64 0, .int .i64 0, .string ⟨#[]⟩, .slice none 0 0, .slice none 0 0], .string ⟨#[]⟩, .string ⟨#[]⟩], []⟩).memory Tryd.f10.params.toList Rows.jsonPartsSpec.vars false (#[.agg #[.int .i64 0, .int .i64 0, .string ⟨#[]⟩, .slice none 0 0, .slice none 0 0], .agg #[.int .i64 0, .int .i64 0, .string ⟨#[]⟩, .slice none 0 0, .slice none 0 0], .string ⟨#[]⟩, .string ⟨#[]⟩]).toList 8 = some ([.agg [.lit (.int .i64 0), .lit (.int .i64 0), .lit (.string []), .nil, .nil], .agg [.lit (.int .i64 0), .lit (.int .i64 0), .lit (.string []), .nil, .nil], .lit (.string []), .lit (.string [])], [], places) := ⟨[], by kernel_rfl⟩
  refine returnsInHanded_of_row (C := Tryd.checked) (s := Rows.OpenSpec.upto Rows.jsonPartsSpec) Tryd.own started (by kernel_rfl) Tryd.func10
    (witness_row_atRef (enc := enc) (C := Tryd.checked) false (start.laidWorld os) #[.agg #[.int .i64 0, .int .i64 0, .string ⟨#[]⟩, .slice none 0 0, .slice none 0 0], .agg #[.int .i64 0, .int .i64 0, .string ⟨#[]⟩, .slice none 0 0, .slice none 0 0], .string ⟨#[]⟩, .string ⟨#[]⟩] rfl (by kernel_rfl) (by kernel_rfl) (by kernel_rfl)
      (OpenSpec.preRow_of_cond 8 hx (by kernel_rfl) (fun k hk => by cases hk; kernel_rfl) (by kernel_rfl) (start.laid_met os _))) ?_
  intro W base args ds gs before hval0 hW _ hk _ hL hsh _
  have hkb := hk _ rfl
  have hval : ∀ (j : Nat) t v, Tryd.f10.params[j]? = some t → args[j]? = some v → Value.okWide Tryd.prog W .any base t v := hval0
  have hW' := hW
  obtain ⟨p, q, hA0, hV, rfl, hfz, hnd⟩ := hW
  have hA : DataW.TrodAll enc Tryd.prog W 0 (fun _ => true) true Tryd.f10.params.toList args.toList ds p := hA0
  rw [Tryd.params10] at hA hval
  obtain ⟨v0, vs0, d0, ds0, p0, q0, hargs, rfl, rfl, h0, r0⟩ := trodAll_cons hA
  obtain ⟨v1, vs1, d1, ds1, p1, q1, rfl, rfl, rfl, h1, r1⟩ := trodAll_cons r0
  obtain ⟨v2, vs2, d2, ds2, p2, q2, rfl, rfl, rfl, h2, r2⟩ := trodAll_cons r1
  obtain ⟨v3, vs3, d3, ds3, p3, q3, rfl, rfl, rfl, h3, r3⟩ := trodAll_cons r2
  obtain ⟨rfl, rfl, rfl⟩ := trodAll_nil r3
  obtain rfl : args = #[v0, v1, v2, v3] := by cases args; simp_all
  obtain ⟨rfl, rfl⟩ := trodVars_none hV
  have hbulk : Rows.uptoBulkAll [d0, d1, d2, d3] ≤ 1048576 := by simpa [Rows.uptoSmall] using hkb
  have k0 := h0
  have k1 := h1
  have k2 := h2
  have k3 := h3
  have lt0 : ∀ x ∈ p0, x.block < W.heap.size := by obtain ⟨m, hm⟩ := k0; exact DataW.trod_lt m _ _ _ hm
  have lt1 : ∀ x ∈ p1, x.block < W.heap.size := by obtain ⟨m, hm⟩ := k1; exact DataW.trod_lt m _ _ _ hm
  have lt2 : ∀ x ∈ p2, x.block < W.heap.size := by obtain ⟨m, hm⟩ := k2; exact DataW.trod_lt m _ _ _ hm
  have lt3 : ∀ x ∈ p3, x.block < W.heap.size := by obtain ⟨m, hm⟩ := k3; exact DataW.trod_lt m _ _ _ hm
  have hlib := libAt_of hsh hL
  obtain ⟨x0, ka0, kc0, la0, lc0, rfl, hin0, hxb0⟩ := open_value (hval 0 33 v0 rfl rfl) h0
  obtain ⟨x1, ka1, kc1, la1, lc1, rfl, hin1, hxb1⟩ := open_value (hval 1 33 v1 rfl rfl) h1
  obtain ⟨s2, rfl, rfl, rfl, ws2⟩ := open_string Tryd.underlying9 (hval 2 9 v2 rfl rfl) h2
  obtain ⟨s3, rfl, rfl, rfl, ws3⟩ := open_string Tryd.underlying9 (hval 3 9 v3 rfl rfl) h3
  simp only [Rows.uptoBulkAll, Rows.uptoBulk] at hbulk
  have hlen2 : s2.data.toList.length = s2.size := Array.length_toList
  have hlen3 : s3.data.toList.length = s3.size := Array.length_toList
  clear hA0 hval0
  refine (walk x0 ka0 kc0 la0 lc0 x1 ka1 kc1 la1 lc1 s2 s3 W hlib (by omega) (by omega) (by omega) (by omega) (all_in hin0) (all_in hin1)).mono fun e W' ⟨he, bel⟩ => ?_
  subst he
  exact ⟨_, rfl, _, _, _, [], _, [], hW', trodAll_mk1 (shut_bool Tryd.underlying4 _), (trodAll_cons_mk (Below.trod Tryd.laidOut (by kernel_rfl) (of_decide_eq_true (by kernel_rfl)) k0 bel lt0) (trodAll_cons_mk (Below.trod Tryd.laidOut (by kernel_rfl) (of_decide_eq_true (by kernel_rfl)) k1 bel lt1) (trodAll_cons_mk (Below.trod Tryd.laidOut (by kernel_rfl) (of_decide_eq_true (by kernel_rfl)) k2 bel lt2) (trodAll_cons_mk (Below.trod Tryd.laidOut (by kernel_rfl) (of_decide_eq_true (by kernel_rfl)) k3 bel lt3) trodAll_mk0)))), rfl, Below.frame bel _, fun h => by cases h⟩
theorem said : Rows.JsonPartsUptoSaid :=
  OpenClaim.holds_of_cond 10 Tryd.f10 rfl rfl rfl rfl rfl rfl rfl ⟨rfl, rfl, rfl, rfl, rfl⟩ rfl rfl rfl rfl rfl (by kernel_rfl) Tryd.func10 (by kernel_rfl)
    (of_decide_eq_true (by kernel_rfl)) (by unfold Func.isWrapper; first | (rw [if_pos (by decide +kernel)]; kernel_rfl) | (rw [if_neg (by decide +kernel)]; exact ⟨rfl, rfl⟩))
    (fun os started H enc _ F => by rw [OpenClaim.pre_eq_preRow]; exact lifted os started H enc F)
theorem plain (f : FuncId) (fn : Func) (hf : Tryd.pinned.checked.prog.funcNamed "stairwell/stairwellkeep.JsonParts" = some f) (hfn : Tryd.pinned.checked.prog.funcs[f]? = some fn) :
    true = Tryd.pinned.checked.prog.looks [] ∧ ∀ (j : Nat) t, fn.params[j]? = some t → Tryd.pinned.checked.prog.wantsStandIn t = false := by
  obtain rfl : f = 10 := Option.some.inj ((show Tryd.prog.funcNamed "stairwell/stairwellkeep.JsonParts" = some 10 by kernel_rfl).symm.trans hf) |>.symm
  obtain rfl : fn = Tryd.f10 := (Option.some.inj (Tryd.func10.symm.trans hfn)).symm
  refine ⟨by kernel_rfl, fun j t ht => ?_⟩
  rw [Tryd.params10] at ht
  have h : t = 33 ∨ t = 9 := by simpa using Array.mem_of_getElem? ht
  rcases h with rfl | rfl
  · exact (show Tryd.prog.wantsStandIn 33 = false by kernel_rfl)
  · exact (show Tryd.prog.wantsStandIn 9 = false by kernel_rfl)
theorem proved : Rows.JsonPartsUptoCardSaid :=
  Claim7.holds_tied_plain_at .later [] _ _ _ _ said (fun _ h => by cases h) (by kernel_rfl) (fun _ h => by cases h) jsonPartsUpto_row_tie rfl ⟨rfl, rfl⟩ (by kernel_rfl) rfl plain (by kernel_rfl)
end Go.Proofs.YtknnflobpjppfaaDoor.lawJsonParts
