/- The walk of the law PointUndoes. -/
import Derived.Test.YtknnflobpjppfaaDoorAdd
import Derived.Test.YtknnflobpjppfaaDoorLawK
import Derived.Test.YtknnflobpjppfaaDoorPts3
set_option linter.all false
namespace Go.Proofs.YtknnflobpjppfaaDoor.lawPointUndoes
open Go.RowKit
attribute [local go_sem ↓] Go.wp_at_zero Go.wp_at_succ

set_option maxRecDepth 100000 in
set_option maxHeartbeats 8000000 in
theorem walk (x : V) (ka : Option Addr) (kc : Nat) (la : Option Addr) (lc : Nat) (y : V) (kb : Option Addr) (kd : Nat) (lb : Option Addr) (ld : Nat) (p : ByteArray) (w : World) (hl : LibAt w) (hsx : x.size ≤ 4194304) (hsy : y.size ≤ 4194304) (hp : p.size ≤ 4194304) (hin : x.In w All ka kc la lc) (hjn : y.In w All kb kd lb ld) :
    Calls Tryd.prog 6 #[x.val ka kc la lc, y.val kb kd lb ld, .string p] w fun e w' => e = .returned (.bool true) ∧ Ext w w' := by
  have Hin := Lib.hid hin
  have Hjn := Lib.hid hjn
  have Hal := Lib.hid (add_law x y p)
  have Hun := Lib.hid (undo_law x y p)
  have hm := hl.max
  clear hin hjn
  go_enter Tryd.func6, Tryd.ntmps6
  go_upto_region 1 with fail
  refine gen_world (R := fun wx => Box wx w.heap.size #[.int .i64 x.k, .int .i64 x.n, .string x.s, .slice ka x.keys.length kc, .slice la x.l.length lc] 33 ∧ Box wx (w.heap.size + 1) #[.int .i64 y.k, .int .i64 y.n, .string y.s, .slice kb y.keys.length kd, .slice lb y.l.length ld] 33 ∧ Ext w wx) ⟨(by (with_reducible apply Box.to); (focus (with_reducible repeat (first | assumption | (apply Box.new; (focus (first | rfl | (first | (simp; done) | (simp; omega) | omega)))) | apply Box.set | (apply Box.other; rotate_left; (focus (first | (simp; done) | (simp; omega) | omega))) | apply Box.alloc | apply Box.drew | (apply Box.ext; (focus assumption))))); (first | rfl | (simp; done) | (go_light; simp [*]; done))), (by (with_reducible apply Box.to); (focus (with_reducible repeat (first | assumption | (apply Box.new; (focus (first | rfl | (first | (simp; done) | (simp; omega) | omega)))) | apply Box.set | (apply Box.other; rotate_left; (focus (first | (simp; done) | (simp; omega) | omega))) | apply Box.alloc | apply Box.drew | (apply Box.ext; (focus assumption))))); (first | rfl | (simp; done) | (go_light; simp [*]; done))), (by with_reducible repeat (first | exact Ext.refl _ | assumption | apply Ext.drew | apply Ext.drewN | apply Ext.alloc | (refine Ext.setCell ?_ ?_ _; rotate_left; (focus (first | (simp; done) | (simp; omega) | omega))) | refine Ext.trans ?_ (by assumption)))⟩ ?_
  rintro wa ⟨hB0, hB1, hxa⟩
  have hc0 := hB0.cells; have hf0 := hB0.free; have hl0 := hB0.lt
  go_wp2_with fail
  (refine (get_any x ka kc la lc All p _ (by omega) (Hin.out.ext (by with_reducible repeat (first | exact Ext.refl _ | assumption | apply Ext.drew | apply Ext.drewN | apply Ext.alloc | (refine Ext.setCell ?_ ?_ _; rotate_left; (focus (first | (simp; done) | (simp; omega) | omega))) | refine Ext.trans ?_ (by assumption)))) (by omega) (hl.ext (by with_reducible repeat (first | exact Ext.refl _ | assumption | apply Ext.drew | apply Ext.drewN | apply Ext.alloc | (refine Ext.setCell ?_ ?_ _; rotate_left; (focus (first | (simp; done) | (simp; omega) | omega))) | refine Ext.trans ?_ (by assumption))))).mono ?_)
  rintro e w1 ⟨ka1, kc1, la1, lc1, rfl, -, h1⟩
  have hB0 := Box.ext h1 hB0
  have hB1 := Box.ext h1 hB1
  have hx1 : Ext w w1 := (by with_reducible repeat (first | exact Ext.refl _ | assumption | apply Ext.drew | apply Ext.drewN | apply Ext.alloc | (refine Ext.setCell ?_ ?_ _; rotate_left; (focus (first | (simp; done) | (simp; omega) | omega))) | refine Ext.trans ?_ (by assumption)))
  clear h1 hxa hc0 hf0 hl0
  go_upto_region 2 with fail
  refine gen_world (R := fun wx => Box wx w.heap.size #[.int .i64 x.k, .int .i64 x.n, .string x.s, .slice ka x.keys.length kc, .slice la x.l.length lc] 33 ∧ Box wx (w.heap.size + 1) #[.int .i64 y.k, .int .i64 y.n, .string y.s, .slice kb y.keys.length kd, .slice lb y.l.length ld] 33 ∧ Ext w wx) ⟨(by (with_reducible apply Box.to); (focus (with_reducible repeat (first | assumption | (apply Box.new; (focus (first | rfl | (first | (simp; done) | (simp; omega) | omega)))) | apply Box.set | (apply Box.other; rotate_left; (focus (first | (simp; done) | (simp; omega) | omega))) | apply Box.alloc | apply Box.drew | (apply Box.ext; (focus assumption))))); (first | rfl | (simp; done) | (go_light; simp [*]; done))), (by (with_reducible apply Box.to); (focus (with_reducible repeat (first | assumption | (apply Box.new; (focus (first | rfl | (first | (simp; done) | (simp; omega) | omega)))) | apply Box.set | (apply Box.other; rotate_left; (focus (first | (simp; done) | (simp; omega) | omega))) | apply Box.alloc | apply Box.drew | (apply Box.ext; (focus assumption))))); (first | rfl | (simp; done) | (go_light; simp [*]; done))), (by with_reducible repeat (first | exact Ext.refl _ | assumption | apply Ext.drew | apply Ext.drewN | apply Ext.alloc | (refine Ext.setCell ?_ ?_ _; rotate_left; (focus (first | (simp; done) | (simp; omega) | omega))) | refine Ext.trans ?_ (by assumption)))⟩ ?_
  clear hB0 hB1 hx1
  rintro wb ⟨hB0, hB1, hxb⟩
  have hc0 := hB0.cells; have hf0 := hB0.free; have hl0 := hB0.lt
  have hc1 := hB1.cells; have hf1 := hB1.free; have hl1 := hB1.lt
  go_wp2_with fail
  (refine (add_any y kb kd lb ld x ka kc la lc p All _ (hl.ext (by with_reducible repeat (first | exact Ext.refl _ | assumption | apply Ext.drew | apply Ext.drewN | apply Ext.alloc | (refine Ext.setCell ?_ ?_ _; rotate_left; (focus (first | (simp; done) | (simp; omega) | omega))) | refine Ext.trans ?_ (by assumption)))) (by omega) (by omega) (by omega) (Hin.out.ext (by with_reducible repeat (first | exact Ext.refl _ | assumption | apply Ext.drew | apply Ext.drewN | apply Ext.alloc | (refine Ext.setCell ?_ ?_ _; rotate_left; (focus (first | (simp; done) | (simp; omega) | omega))) | refine Ext.trans ?_ (by assumption)))) (Hjn.out.ext (by with_reducible repeat (first | exact Ext.refl _ | assumption | apply Ext.drew | apply Ext.drewN | apply Ext.alloc | (refine Ext.setCell ?_ ?_ _; rotate_left; (focus (first | (simp; done) | (simp; omega) | omega))) | refine Ext.trans ?_ (by assumption))))).mono ?_); rintro e w2 ⟨ka2, kc2, la2, lc2, rfl, hin2, h2⟩
  have hB0 := Box.ext h2 hB0
  have hx2 : Ext w w2 := (by with_reducible repeat (first | exact Ext.refl _ | assumption | apply Ext.drew | apply Ext.drewN | apply Ext.alloc | (refine Ext.setCell ?_ ?_ _; rotate_left; (focus (first | (simp; done) | (simp; omega) | omega))) | refine Ext.trans ?_ (by assumption)))
  have Hin2 := Lib.hid (all_in hin2)
  clear h2 hxb hc0 hf0 hl0 hc1 hf1 hl1 hin2 hB1
  go_upto_region 3 with fail
  refine gen_world (R := fun wx => Box wx w.heap.size #[.int .i64 x.k, .int .i64 x.n, .string x.s, .slice ka x.keys.length kc, .slice la x.l.length lc] 33 ∧ Box wx w2.heap.size #[.int .i64 (addP x p y).1.k, .int .i64 (addP x p y).1.n, .string (addP x p y).1.s, .slice ka2 (addP x p y).1.keys.length kc2, .slice la2 (addP x p y).1.l.length lc2] 33 ∧ (addP x p y).1.In wx All ka2 kc2 la2 lc2 ∧ Ext w wx) ⟨(by (with_reducible apply Box.to); (focus (with_reducible repeat (first | assumption | (apply Box.new; (focus (first | rfl | (first | (simp; done) | (simp; omega) | omega)))) | apply Box.set | (apply Box.other; rotate_left; (focus (first | (simp; done) | (simp; omega) | omega))) | apply Box.alloc | apply Box.drew | (apply Box.ext; (focus assumption))))); (first | rfl | (simp; done) | (go_light; simp [*]; done))), (by (with_reducible apply Box.to); (focus (with_reducible repeat (first | assumption | (apply Box.new; (focus (first | rfl | (first | (simp; done) | (simp; omega) | omega)))) | apply Box.set | (apply Box.other; rotate_left; (focus (first | (simp; done) | (simp; omega) | omega))) | apply Box.alloc | apply Box.drew | (apply Box.ext; (focus assumption))))); (first | rfl | (simp; done) | (go_light; simp [*]; done))), Hin2.out.ext (by with_reducible repeat (first | exact Ext.refl _ | assumption | apply Ext.drew | apply Ext.drewN | apply Ext.alloc | (refine Ext.setCell ?_ ?_ _; rotate_left; (focus (first | (simp; done) | (simp; omega) | omega))) | refine Ext.trans ?_ (by assumption))), (by with_reducible repeat (first | exact Ext.refl _ | assumption | apply Ext.drew | apply Ext.drewN | apply Ext.alloc | (refine Ext.setCell ?_ ?_ _; rotate_left; (focus (first | (simp; done) | (simp; omega) | omega))) | refine Ext.trans ?_ (by assumption)))⟩ ?_
  clear hB0 Hin2 hx2
  rintro wc ⟨hB0, hB9, hin2, hxc⟩
  have Hin2 := Lib.hid hin2
  clear hin2
  go_wp2_with fail
  (refine (split_any p (by omega) _ (hm.ext (by with_reducible repeat (first | exact Ext.refl _ | assumption | apply Ext.drew | apply Ext.drewN | apply Ext.alloc | (refine Ext.setCell ?_ ?_ _; rotate_left; (focus (first | (simp; done) | (simp; omega) | omega))) | refine Ext.trans ?_ (by assumption))))).mono ?_)
  by_cases he : (addP x p y).2 = 0
  · have he1 : ((addP x p y).2 != 0) = false := by simpa using he
    obtain ⟨haf, ks, hks, -, -⟩ := Hal.out.2 he
    have has := fine_size haf
    have Hks := Lib.hid hks
    have Hadd := Lib.hid he
    clear he hks
    rintro e w3 (⟨l2, a2, n2, c2, ks2, e1, rfl, e2, e3, hok2, hst2, h3⟩ | ⟨e1, -, -⟩)
    rotate_left
    · exfalso
      rw [namesB_none e1] at Hks
      have := Hks.out
      cases this
    obtain rfl : ks2 = ks := by
      have h := Hks.out
      rw [namesB_of (ks := ks2) (p := p) (by rw [e1, e3])] at h
      exact Option.some.inj h
    have hB0 := Box.ext h3 hB0
    have hB9 := Box.ext h3 hB9
    have Hin2 := Lib.hid (V.In.ext (w' := w3) Hin2.out (by with_reducible repeat (first | exact Ext.refl _ | assumption | apply Ext.drew | apply Ext.drewN | apply Ext.alloc | (refine Ext.setCell ?_ ?_ _; rotate_left; (focus (first | (simp; done) | (simp; omega) | omega))) | refine Ext.trans ?_ (by assumption))))
    have hx3 : Ext w w3 := (by with_reducible repeat (first | exact Ext.refl _ | assumption | apply Ext.drew | apply Ext.drewN | apply Ext.alloc | (refine Ext.setCell ?_ ?_ _; rotate_left; (focus (first | (simp; done) | (simp; omega) | omega))) | refine Ext.trans ?_ (by assumption)))
    have Hst2 := Lib.hid hst2
    clear e1 e3 h3 hxc hst2
    have hc0 := hB0.cells; have hf0 := hB0.free; have hl0 := hB0.lt
    have hc9 := hB9.cells; have hf9 := hB9.free; have hl9 := hB9.lt
    by_cases hk0 : ks2 = []
    · subst hk0
      obtain rfl : n2 = 0 := by simpa using e2.symm
      go_wp2_with fail
      (with_reducible refine (points_keep _ (hm.ext (by with_reducible repeat (first | exact Ext.refl _ | assumption | apply Ext.drew | apply Ext.drewN | apply Ext.alloc | (refine Ext.setCell ?_ ?_ _; rotate_left; (focus (first | (simp; done) | (simp; omega) | omega))) | refine Ext.trans ?_ (by assumption))))).mono ?_); rintro e w4 ⟨rfl, h4⟩; obtain ⟨hcw4, hfw4, hzw4⟩ := ext_facts h4; (try simp at hzw4); (try have hzAw4 : w.heap.size < w4.heap.size := by omega); (try have hzBw4 : w.heap.size + 1 < w4.heap.size := by omega); (try have hzCw4 : w.heap.size + 2 < w4.heap.size := by omega)
      go_wp2_with fail
      go_ret
      exact ⟨rfl, (by with_reducible repeat (first | exact Ext.refl _ | assumption | apply Ext.drew | apply Ext.drewN | apply Ext.alloc | (refine Ext.setCell ?_ ?_ _; rotate_left; (focus (first | (simp; done) | (simp; omega) | omega))) | refine Ext.trans ?_ (by assumption)))⟩
    · obtain ⟨m, rfl⟩ : ∃ m, n2 = m + 1 := ⟨n2 - 1, by have := List.length_pos_iff.2 hk0; omega⟩
      have hm30 : m + 1 ≤ 1073741824 := by have := (namesB_small Hks.out).1; omega
      have hlast : ks2.getLast hk0 = ks2[m] := by rw [List.getLast_eq_getElem]; congr 1; omega
      obtain ⟨b, o, rfl, -, hcs⟩ := Hst2.out.resolve_left hk0
      have d0 := hcs m (by omega)
      by_cases hd : (ks2[m]).toList = [45]
      · have hdb : ((ks2[m]).toList == [45]) = true := by simpa using hd
        go_wp2_with fail
        (with_reducible refine (points_keep _ (hm.ext (by with_reducible repeat (first | exact Ext.refl _ | assumption | apply Ext.drew | apply Ext.drewN | apply Ext.alloc | (refine Ext.setCell ?_ ?_ _; rotate_left; (focus (first | (simp; done) | (simp; omega) | omega))) | refine Ext.trans ?_ (by assumption))))).mono ?_); rintro e w4 ⟨rfl, h4⟩; obtain ⟨hcw4, hfw4, hzw4⟩ := ext_facts h4; (try simp at hzw4); (try have hzAw4 : w.heap.size < w4.heap.size := by omega); (try have hzBw4 : w.heap.size + 1 < w4.heap.size := by omega); (try have hzCw4 : w.heap.size + 2 < w4.heap.size := by omega)
        go_wp2_with fail
        go_ret
        exact ⟨rfl, (by with_reducible repeat (first | exact Ext.refl _ | assumption | apply Ext.drew | apply Ext.drewN | apply Ext.alloc | (refine Ext.setCell ?_ ?_ _; rotate_left; (focus (first | (simp; done) | (simp; omega) | omega))) | refine Ext.trans ?_ (by assumption)))⟩
      · have hdb : ((ks2[m]).toList == [45]) = false := by simpa using hd
        obtain ⟨hr0, hrx⟩ := Hun.out ks2 Hks.out hk0 (by rw [hlast, ← ByteArray.toList_eq]; exact hd) Hadd.out
        have Hrx := Lib.hid hrx
        clear hrx
        go_wp2_with fail
        (with_reducible refine (points_keep _ (hm.ext (by with_reducible repeat (first | exact Ext.refl _ | assumption | apply Ext.drew | apply Ext.drewN | apply Ext.alloc | (refine Ext.setCell ?_ ?_ _; rotate_left; (focus (first | (simp; done) | (simp; omega) | omega))) | refine Ext.trans ?_ (by assumption))))).mono ?_); rintro e w4 ⟨rfl, h4⟩; obtain ⟨hcw4, hfw4, hzw4⟩ := ext_facts h4; (try simp at hzw4); (try have hzAw4 : w.heap.size < w4.heap.size := by omega); (try have hzBw4 : w.heap.size + 1 < w4.heap.size := by omega); (try have hzCw4 : w.heap.size + 2 < w4.heap.size := by omega)
        have hB0 := Box.ext h4 hB0
        have hB9 := Box.ext h4 hB9
        have Hin2 := Lib.hid (V.In.ext (w' := w4) Hin2.out (by with_reducible repeat (first | exact Ext.refl _ | assumption | apply Ext.drew | apply Ext.drewN | apply Ext.alloc | (refine Ext.setCell ?_ ?_ _; rotate_left; (focus (first | (simp; done) | (simp; omega) | omega))) | refine Ext.trans ?_ (by assumption))))
        have hx4 : Ext w w4 := (by with_reducible repeat (first | exact Ext.refl _ | assumption | apply Ext.drew | apply Ext.drewN | apply Ext.alloc | (refine Ext.setCell ?_ ?_ _; rotate_left; (focus (first | (simp; done) | (simp; omega) | omega))) | refine Ext.trans ?_ (by assumption)))
        clear h4 hcw4 hfw4 hx3 hc0 hf0 hl0 hc9 hf9 hl9
        have hc9 := hB9.cells; have hf9 := hB9.free; have hl9 := hB9.lt
        go_wp2_with fail
        (refine (rem_any (addP x p y).1 ka2 kc2 la2 lc2 p All _ (hl.ext (by with_reducible repeat (first | exact Ext.refl _ | assumption | apply Ext.drew | apply Ext.drewN | apply Ext.alloc | (refine Ext.setCell ?_ ?_ _; rotate_left; (focus (first | (simp; done) | (simp; omega) | omega))) | refine Ext.trans ?_ (by assumption)))) (by omega) (by omega) (Hin2.out.ext (by with_reducible repeat (first | exact Ext.refl _ | assumption | apply Ext.drew | apply Ext.drewN | apply Ext.alloc | (refine Ext.setCell ?_ ?_ _; rotate_left; (focus (first | (simp; done) | (simp; omega) | omega))) | refine Ext.trans ?_ (by assumption))))).mono ?_)
        rw [hr0]
        rintro e w5 ⟨ka5, kc5, la5, lc5, rfl, hin5, h5⟩
        have hB0 := Box.ext h5 hB0
        have hx5 : Ext w w5 := (by with_reducible repeat (first | exact Ext.refl _ | assumption | apply Ext.drew | apply Ext.drewN | apply Ext.alloc | (refine Ext.setCell ?_ ?_ _; rotate_left; (focus (first | (simp; done) | (simp; omega) | omega))) | refine Ext.trans ?_ (by assumption)))
        have Hin5 := Lib.hid (all_in hin5)
        clear h5 hx4 hc9 hf9 hl9 hin5 hB9 Hin2
        go_upto_region 7 with fail
        refine gen_world (R := fun wx => Box wx w.heap.size #[.int .i64 x.k, .int .i64 x.n, .string x.s, .slice ka x.keys.length kc, .slice la x.l.length lc] 33 ∧ Box wx w5.heap.size #[.int .i64 (remP (addP x p y).1 p).1.k, .int .i64 (remP (addP x p y).1 p).1.n, .string (remP (addP x p y).1 p).1.s, .slice ka5 (remP (addP x p y).1 p).1.keys.length kc5, .slice la5 (remP (addP x p y).1 p).1.l.length lc5] 33 ∧ (remP (addP x p y).1 p).1.In wx All ka5 kc5 la5 lc5 ∧ Ext w wx) ⟨(by (with_reducible apply Box.to); (focus (with_reducible repeat (first | assumption | (apply Box.new; (focus (first | rfl | (first | (simp; done) | (simp; omega) | omega)))) | apply Box.set | (apply Box.other; rotate_left; (focus (first | (simp; done) | (simp; omega) | omega))) | apply Box.alloc | apply Box.drew | (apply Box.ext; (focus assumption))))); (first | rfl | (simp; done) | (go_light; simp [*]; done))), (by (with_reducible apply Box.to); (focus (with_reducible repeat (first | assumption | (apply Box.new; (focus (first | rfl | (first | (simp; done) | (simp; omega) | omega)))) | apply Box.set | (apply Box.other; rotate_left; (focus (first | (simp; done) | (simp; omega) | omega))) | apply Box.alloc | apply Box.drew | (apply Box.ext; (focus assumption))))); (first | rfl | (simp; done) | (go_light; simp [*]; done))), Hin5.out.ext (by with_reducible repeat (first | exact Ext.refl _ | assumption | apply Ext.drew | apply Ext.drewN | apply Ext.alloc | (refine Ext.setCell ?_ ?_ _; rotate_left; (focus (first | (simp; done) | (simp; omega) | omega))) | refine Ext.trans ?_ (by assumption))), (by with_reducible repeat (first | exact Ext.refl _ | assumption | apply Ext.drew | apply Ext.drewN | apply Ext.alloc | (refine Ext.setCell ?_ ?_ _; rotate_left; (focus (first | (simp; done) | (simp; omega) | omega))) | refine Ext.trans ?_ (by assumption)))⟩ ?_
        clear hB0 Hin5 hx5
        rintro wd ⟨hB0, hB13, hin5, hxd⟩
        have Hin5 := Lib.hid hin5
        clear hin5
        have hc0 := hB0.cells; have hf0 := hB0.free; have hl0 := hB0.lt
        have hc13 := hB13.cells; have hf13 := hB13.free; have hl13 := hB13.lt
        by_cases hg : (getP x p).2 = 3
        · have hg1 : ((getP x p).2 == 3) = true := by simpa using hg
          have hex := Hrx.out hg
          have Hex := Lib.hid hex
          have hsz : (remP (addP x p y).1 p).1.size ≤ 1073741824 := by rw [hex]; omega
          clear hg hex
          go_wp2_with fail
          (refine (same_any (remP (addP x p y).1 p).1 x Hex.out.symm hsz ka5 kc5 la5 lc5 ka kc la lc All All _ (Hin5.out.ext (by with_reducible repeat (first | exact Ext.refl _ | assumption | apply Ext.drew | apply Ext.drewN | apply Ext.alloc | (refine Ext.setCell ?_ ?_ _; rotate_left; (focus (first | (simp; done) | (simp; omega) | omega))) | refine Ext.trans ?_ (by assumption)))) (Hin.out.ext (by with_reducible repeat (first | exact Ext.refl _ | assumption | apply Ext.drew | apply Ext.drewN | apply Ext.alloc | (refine Ext.setCell ?_ ?_ _; rotate_left; (focus (first | (simp; done) | (simp; omega) | omega))) | refine Ext.trans ?_ (by assumption))))).mono ?_); rintro e w6 ⟨rfl, h6⟩
          go_wp2_with fail
          go_ret
          exact ⟨rfl, (by with_reducible repeat (first | exact Ext.refl _ | assumption | apply Ext.drew | apply Ext.drewN | apply Ext.alloc | (refine Ext.setCell ?_ ?_ _; rotate_left; (focus (first | (simp; done) | (simp; omega) | omega))) | refine Ext.trans ?_ (by assumption)))⟩
        · have hg1 : ((getP x p).2 == 3) = false := by simpa using hg
          clear hg
          go_wp2_with fail
          go_ret
          exact ⟨rfl, (by with_reducible repeat (first | exact Ext.refl _ | assumption | apply Ext.drew | apply Ext.drewN | apply Ext.alloc | (refine Ext.setCell ?_ ?_ _; rotate_left; (focus (first | (simp; done) | (simp; omega) | omega))) | refine Ext.trans ?_ (by assumption)))⟩
  · have he1 : ((addP x p y).2 != 0) = true := by simpa using he
    clear he
    rintro e w3 (⟨l2, a2, n2, c2, ks2, e1, rfl, e2, e3, hok2, hst2, h3⟩ | ⟨e1, rfl, h3⟩)
    · have hx3 : Ext w w3 := (by with_reducible repeat (first | exact Ext.refl _ | assumption | apply Ext.drew | apply Ext.drewN | apply Ext.alloc | (refine Ext.setCell ?_ ?_ _; rotate_left; (focus (first | (simp; done) | (simp; omega) | omega))) | refine Ext.trans ?_ (by assumption)))
      clear h3 hst2
      go_wp2_with fail
      (with_reducible refine (points_keep _ (hm.ext (by with_reducible repeat (first | exact Ext.refl _ | assumption | apply Ext.drew | apply Ext.drewN | apply Ext.alloc | (refine Ext.setCell ?_ ?_ _; rotate_left; (focus (first | (simp; done) | (simp; omega) | omega))) | refine Ext.trans ?_ (by assumption))))).mono ?_); rintro e w4 ⟨rfl, h4⟩; obtain ⟨hcw4, hfw4, hzw4⟩ := ext_facts h4; (try simp at hzw4); (try have hzAw4 : w.heap.size < w4.heap.size := by omega); (try have hzBw4 : w.heap.size + 1 < w4.heap.size := by omega); (try have hzCw4 : w.heap.size + 2 < w4.heap.size := by omega)
      go_wp2_with fail
      go_ret
      exact ⟨rfl, (by with_reducible repeat (first | exact Ext.refl _ | assumption | apply Ext.drew | apply Ext.drewN | apply Ext.alloc | (refine Ext.setCell ?_ ?_ _; rotate_left; (focus (first | (simp; done) | (simp; omega) | omega))) | refine Ext.trans ?_ (by assumption)))⟩
    · have hx3 : Ext w w3 := (by with_reducible repeat (first | exact Ext.refl _ | assumption | apply Ext.drew | apply Ext.drewN | apply Ext.alloc | (refine Ext.setCell ?_ ?_ _; rotate_left; (focus (first | (simp; done) | (simp; omega) | omega))) | refine Ext.trans ?_ (by assumption)))
      clear h3
      go_wp2_with fail
      (with_reducible refine (points_keep _ (hm.ext (by with_reducible repeat (first | exact Ext.refl _ | assumption | apply Ext.drew | apply Ext.drewN | apply Ext.alloc | (refine Ext.setCell ?_ ?_ _; rotate_left; (focus (first | (simp; done) | (simp; omega) | omega))) | refine Ext.trans ?_ (by assumption))))).mono ?_); rintro e w4 ⟨rfl, h4⟩; obtain ⟨hcw4, hfw4, hzw4⟩ := ext_facts h4; (try simp at hzw4); (try have hzAw4 : w.heap.size < w4.heap.size := by omega); (try have hzBw4 : w.heap.size + 1 < w4.heap.size := by omega); (try have hzCw4 : w.heap.size + 2 < w4.heap.size := by omega)
      go_wp2_with fail
      go_ret
      exact ⟨rfl, (by with_reducible repeat (first | exact Ext.refl _ | assumption | apply Ext.drew | apply Ext.drewN | apply Ext.alloc | (refine Ext.setCell ?_ ?_ _; rotate_left; (focus (first | (simp; done) | (simp; omega) | omega))) | refine Ext.trans ?_ (by assumption)))⟩
end Go.Proofs.YtknnflobpjppfaaDoor.lawPointUndoes
