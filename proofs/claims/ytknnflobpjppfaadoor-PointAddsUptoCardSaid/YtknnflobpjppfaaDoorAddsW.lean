/- The walk of the law PointAdds. -/
import Derived.Test.YtknnflobpjppfaaDoorAdd
import Derived.Test.YtknnflobpjppfaaDoorLawK
import Derived.Test.YtknnflobpjppfaaDoorPts3
set_option linter.all false
namespace Go.Proofs.YtknnflobpjppfaaDoor.lawPointAdds
open Go.RowKit
attribute [local go_sem ↓] Go.wp_at_zero Go.wp_at_succ

set_option maxRecDepth 100000 in
set_option maxHeartbeats 8000000 in
theorem walk (x : V) (ka : Option Addr) (kc : Nat) (la : Option Addr) (lc : Nat) (y : V) (kb : Option Addr) (kd : Nat) (lb : Option Addr) (ld : Nat) (p : ByteArray) (w : World) (hl : LibAt w) (hsx : x.size ≤ 4194304) (hsy : y.size ≤ 4194304) (hp : p.size ≤ 4194304) (hin : x.In w All ka kc la lc) (hjn : y.In w All kb kd lb ld) :
    Calls Tryd.prog 5 #[x.val ka kc la lc, y.val kb kd lb ld, .string p] w fun e w' => e = .returned (.bool true) ∧ Ext w w' := by
  have Hin := Lib.hid hin
  have Hjn := Lib.hid hjn
  have Hpl := Lib.hid (put_law x y p)
  have Hal := Lib.hid (add_law x y p)
  have hm := hl.max
  clear hin hjn
  go_enter Tryd.func5, Tryd.ntmps5
  go_upto_region 1 with fail
  refine gen_world (R := fun wx => Box wx w.heap.size #[.int .i64 x.k, .int .i64 x.n, .string x.s, .slice ka x.keys.length kc, .slice la x.l.length lc] 33 ∧ Box wx (w.heap.size + 1) #[.int .i64 y.k, .int .i64 y.n, .string y.s, .slice kb y.keys.length kd, .slice lb y.l.length ld] 33 ∧ Ext w wx) ⟨(by (with_reducible apply Box.to); (focus (with_reducible repeat (first | assumption | (apply Box.new; (focus (first | rfl | (first | (simp; done) | (simp; omega) | omega)))) | apply Box.set | (apply Box.other; rotate_left; (focus (first | (simp; done) | (simp; omega) | omega))) | apply Box.alloc | apply Box.drew | (apply Box.ext; (focus assumption))))); (first | rfl | (simp; done) | (go_light; simp [*]; done))), (by (with_reducible apply Box.to); (focus (with_reducible repeat (first | assumption | (apply Box.new; (focus (first | rfl | (first | (simp; done) | (simp; omega) | omega)))) | apply Box.set | (apply Box.other; rotate_left; (focus (first | (simp; done) | (simp; omega) | omega))) | apply Box.alloc | apply Box.drew | (apply Box.ext; (focus assumption))))); (first | rfl | (simp; done) | (go_light; simp [*]; done))), (by with_reducible repeat (first | exact Ext.refl _ | assumption | apply Ext.drew | apply Ext.drewN | apply Ext.alloc | (refine Ext.setCell ?_ ?_ _; rotate_left; (focus (first | (simp; done) | (simp; omega) | omega))) | refine Ext.trans ?_ (by assumption)))⟩ ?_
  rintro wa ⟨hB0, hB1, hxa⟩
  have hc0 := hB0.cells; have hf0 := hB0.free; have hl0 := hB0.lt
  have hc1 := hB1.cells; have hf1 := hB1.free; have hl1 := hB1.lt
  go_wp2_with fail
  (refine (put_any y kb kd lb ld x ka kc la lc p All _ (hl.ext (by with_reducible repeat (first | exact Ext.refl _ | assumption | apply Ext.drew | apply Ext.drewN | apply Ext.alloc | (refine Ext.setCell ?_ ?_ _; rotate_left; (focus (first | (simp; done) | (simp; omega) | omega))) | refine Ext.trans ?_ (by assumption)))) (by omega) (by omega) (by omega) (Hin.out.ext (by with_reducible repeat (first | exact Ext.refl _ | assumption | apply Ext.drew | apply Ext.drewN | apply Ext.alloc | (refine Ext.setCell ?_ ?_ _; rotate_left; (focus (first | (simp; done) | (simp; omega) | omega))) | refine Ext.trans ?_ (by assumption)))) (Hjn.out.ext (by with_reducible repeat (first | exact Ext.refl _ | assumption | apply Ext.drew | apply Ext.drewN | apply Ext.alloc | (refine Ext.setCell ?_ ?_ _; rotate_left; (focus (first | (simp; done) | (simp; omega) | omega))) | refine Ext.trans ?_ (by assumption))))).mono ?_); rintro e w1 ⟨ka1, kc1, la1, lc1, rfl, hin1, h1⟩
  have hB0 := Box.ext h1 hB0
  have hB1 := Box.ext h1 hB1
  have hx1 : Ext w w1 := (by with_reducible repeat (first | exact Ext.refl _ | assumption | apply Ext.drew | apply Ext.drewN | apply Ext.alloc | (refine Ext.setCell ?_ ?_ _; rotate_left; (focus (first | (simp; done) | (simp; omega) | omega))) | refine Ext.trans ?_ (by assumption)))
  have Hin1 := Lib.hid (all_in hin1)
  clear h1 hxa hc0 hf0 hl0 hc1 hf1 hl1 hin1
  go_upto_region 2 with fail
  refine gen_world (R := fun wx => Box wx w.heap.size #[.int .i64 x.k, .int .i64 x.n, .string x.s, .slice ka x.keys.length kc, .slice la x.l.length lc] 33 ∧ Box wx (w.heap.size + 1) #[.int .i64 y.k, .int .i64 y.n, .string y.s, .slice kb y.keys.length kd, .slice lb y.l.length ld] 33 ∧ Box wx w1.heap.size #[.int .i64 (putP x p y).1.k, .int .i64 (putP x p y).1.n, .string (putP x p y).1.s, .slice ka1 (putP x p y).1.keys.length kc1, .slice la1 (putP x p y).1.l.length lc1] 33 ∧ (putP x p y).1.In wx All ka1 kc1 la1 lc1 ∧ Ext w wx) ⟨(by (with_reducible apply Box.to); (focus (with_reducible repeat (first | assumption | (apply Box.new; (focus (first | rfl | (first | (simp; done) | (simp; omega) | omega)))) | apply Box.set | (apply Box.other; rotate_left; (focus (first | (simp; done) | (simp; omega) | omega))) | apply Box.alloc | apply Box.drew | (apply Box.ext; (focus assumption))))); (first | rfl | (simp; done) | (go_light; simp [*]; done))), (by (with_reducible apply Box.to); (focus (with_reducible repeat (first | assumption | (apply Box.new; (focus (first | rfl | (first | (simp; done) | (simp; omega) | omega)))) | apply Box.set | (apply Box.other; rotate_left; (focus (first | (simp; done) | (simp; omega) | omega))) | apply Box.alloc | apply Box.drew | (apply Box.ext; (focus assumption))))); (first | rfl | (simp; done) | (go_light; simp [*]; done))), (by (with_reducible apply Box.to); (focus (with_reducible repeat (first | assumption | (apply Box.new; (focus (first | rfl | (first | (simp; done) | (simp; omega) | omega)))) | apply Box.set | (apply Box.other; rotate_left; (focus (first | (simp; done) | (simp; omega) | omega))) | apply Box.alloc | apply Box.drew | (apply Box.ext; (focus assumption))))); (first | rfl | (simp; done) | (go_light; simp [*]; done))), Hin1.out.ext (by with_reducible repeat (first | exact Ext.refl _ | assumption | apply Ext.drew | apply Ext.drewN | apply Ext.alloc | (refine Ext.setCell ?_ ?_ _; rotate_left; (focus (first | (simp; done) | (simp; omega) | omega))) | refine Ext.trans ?_ (by assumption))), (by with_reducible repeat (first | exact Ext.refl _ | assumption | apply Ext.drew | apply Ext.drewN | apply Ext.alloc | (refine Ext.setCell ?_ ?_ _; rotate_left; (focus (first | (simp; done) | (simp; omega) | omega))) | refine Ext.trans ?_ (by assumption)))⟩ ?_
  clear hB0 hB1 Hin1 hx1
  rintro wb ⟨hB0, hB1, hB7, hin1, hxb⟩
  have Hin1 := Lib.hid hin1
  clear hin1
  have hc0 := hB0.cells; have hf0 := hB0.free; have hl0 := hB0.lt
  have hc1 := hB1.cells; have hf1 := hB1.free; have hl1 := hB1.lt
  have hc7 := hB7.cells; have hf7 := hB7.free; have hl7 := hB7.lt
  by_cases he : (putP x p y).2 = 0
  · have he1 : ((putP x p y).2 == 0) = true := by simpa using he
    obtain ⟨hpf, hpg⟩ := Hpl.out.2 he
    have hps := fine_size hpf
    have Hpg := Lib.hid hpg
    clear he hpg hpf
    go_wp2_with fail
    (refine (get_any (putP x p y).1 ka1 kc1 la1 lc1 All p _ (by omega) (Hin1.out.ext (by with_reducible repeat (first | exact Ext.refl _ | assumption | apply Ext.drew | apply Ext.drewN | apply Ext.alloc | (refine Ext.setCell ?_ ?_ _; rotate_left; (focus (first | (simp; done) | (simp; omega) | omega))) | refine Ext.trans ?_ (by assumption)))) (by omega) (hl.ext (by with_reducible repeat (first | exact Ext.refl _ | assumption | apply Ext.drew | apply Ext.drewN | apply Ext.alloc | (refine Ext.setCell ?_ ?_ _; rotate_left; (focus (first | (simp; done) | (simp; omega) | omega))) | refine Ext.trans ?_ (by assumption))))).mono ?_)
    rw [Hpg.out]
    rintro e w2 ⟨ka2, kc2, la2, lc2, rfl, hin2, h2⟩
    have hB0 := Box.ext h2 hB0
    have hB1 := Box.ext h2 hB1
    have hx2 : Ext w w2 := (by with_reducible repeat (first | exact Ext.refl _ | assumption | apply Ext.drew | apply Ext.drewN | apply Ext.alloc | (refine Ext.setCell ?_ ?_ _; rotate_left; (focus (first | (simp; done) | (simp; omega) | omega))) | refine Ext.trans ?_ (by assumption)))
    have Hin2 := Lib.hid (all_in hin2)
    clear h2 hxb hc0 hf0 hl0 hc1 hf1 hl1 hin2 hc7 hf7 hl7 hB7
    go_upto_region 4 with fail
    refine gen_world (R := fun wx => Box wx w.heap.size #[.int .i64 x.k, .int .i64 x.n, .string x.s, .slice ka x.keys.length kc, .slice la x.l.length lc] 33 ∧ Box wx (w.heap.size + 1) #[.int .i64 y.k, .int .i64 y.n, .string y.s, .slice kb y.keys.length kd, .slice lb y.l.length ld] 33 ∧ Box wx w2.heap.size #[.int .i64 y.k, .int .i64 y.n, .string y.s, .slice ka2 y.keys.length kc2, .slice la2 y.l.length lc2] 33 ∧ y.In wx All ka2 kc2 la2 lc2 ∧ Ext w wx) ⟨(by (with_reducible apply Box.to); (focus (with_reducible repeat (first | assumption | (apply Box.new; (focus (first | rfl | (first | (simp; done) | (simp; omega) | omega)))) | apply Box.set | (apply Box.other; rotate_left; (focus (first | (simp; done) | (simp; omega) | omega))) | apply Box.alloc | apply Box.drew | (apply Box.ext; (focus assumption))))); (first | rfl | (simp; done) | (go_light; simp [*]; done))), (by (with_reducible apply Box.to); (focus (with_reducible repeat (first | assumption | (apply Box.new; (focus (first | rfl | (first | (simp; done) | (simp; omega) | omega)))) | apply Box.set | (apply Box.other; rotate_left; (focus (first | (simp; done) | (simp; omega) | omega))) | apply Box.alloc | apply Box.drew | (apply Box.ext; (focus assumption))))); (first | rfl | (simp; done) | (go_light; simp [*]; done))), (by (with_reducible apply Box.to); (focus (with_reducible repeat (first | assumption | (apply Box.new; (focus (first | rfl | (first | (simp; done) | (simp; omega) | omega)))) | apply Box.set | (apply Box.other; rotate_left; (focus (first | (simp; done) | (simp; omega) | omega))) | apply Box.alloc | apply Box.drew | (apply Box.ext; (focus assumption))))); (first | rfl | (simp; done) | (go_light; simp [*]; done))), Hin2.out.ext (by with_reducible repeat (first | exact Ext.refl _ | assumption | apply Ext.drew | apply Ext.drewN | apply Ext.alloc | (refine Ext.setCell ?_ ?_ _; rotate_left; (focus (first | (simp; done) | (simp; omega) | omega))) | refine Ext.trans ?_ (by assumption))), (by with_reducible repeat (first | exact Ext.refl _ | assumption | apply Ext.drew | apply Ext.drewN | apply Ext.alloc | (refine Ext.setCell ?_ ?_ _; rotate_left; (focus (first | (simp; done) | (simp; omega) | omega))) | refine Ext.trans ?_ (by assumption)))⟩ ?_
    clear hB0 hB1 Hin2 hx2
    rintro wb2 ⟨hB0, hB1, hB9, hin2, hxb⟩
    have Hin2 := Lib.hid hin2
    clear hin2
    have hc1 := hB1.cells; have hf1 := hB1.free; have hl1 := hB1.lt
    have hc9 := hB9.cells; have hf9 := hB9.free; have hl9 := hB9.lt
    go_wp2_with fail
    (refine (same_any y y rfl (by omega) kb kd lb ld ka2 kc2 la2 lc2 All All _ (Hjn.out.ext (by with_reducible repeat (first | exact Ext.refl _ | assumption | apply Ext.drew | apply Ext.drewN | apply Ext.alloc | (refine Ext.setCell ?_ ?_ _; rotate_left; (focus (first | (simp; done) | (simp; omega) | omega))) | refine Ext.trans ?_ (by assumption)))) (Hin2.out.ext (by with_reducible repeat (first | exact Ext.refl _ | assumption | apply Ext.drew | apply Ext.drewN | apply Ext.alloc | (refine Ext.setCell ?_ ?_ _; rotate_left; (focus (first | (simp; done) | (simp; omega) | omega))) | refine Ext.trans ?_ (by assumption))))).mono ?_); rintro e w3 ⟨rfl, h3⟩
    have hB0 := Box.ext h3 hB0
    have hB1 := Box.ext h3 hB1
    have hx3 : Ext w w3 := (by with_reducible repeat (first | exact Ext.refl _ | assumption | apply Ext.drew | apply Ext.drewN | apply Ext.alloc | (refine Ext.setCell ?_ ?_ _; rotate_left; (focus (first | (simp; done) | (simp; omega) | omega))) | refine Ext.trans ?_ (by assumption)))
    clear h3 hxb hc1 hf1 hl1 hc9 hf9 hl9 hB9 Hin2 Hin1 Hpl
    go_upto_region 8 with fail
    refine gen_world (R := fun wx => Box wx w.heap.size #[.int .i64 x.k, .int .i64 x.n, .string x.s, .slice ka x.keys.length kc, .slice la x.l.length lc] 33 ∧ Box wx (w.heap.size + 1) #[.int .i64 y.k, .int .i64 y.n, .string y.s, .slice kb y.keys.length kd, .slice lb y.l.length ld] 33 ∧ Ext w wx) ⟨(by (with_reducible apply Box.to); (focus (with_reducible repeat (first | assumption | (apply Box.new; (focus (first | rfl | (first | (simp; done) | (simp; omega) | omega)))) | apply Box.set | (apply Box.other; rotate_left; (focus (first | (simp; done) | (simp; omega) | omega))) | apply Box.alloc | apply Box.drew | (apply Box.ext; (focus assumption))))); (first | rfl | (simp; done) | (go_light; simp [*]; done))), (by (with_reducible apply Box.to); (focus (with_reducible repeat (first | assumption | (apply Box.new; (focus (first | rfl | (first | (simp; done) | (simp; omega) | omega)))) | apply Box.set | (apply Box.other; rotate_left; (focus (first | (simp; done) | (simp; omega) | omega))) | apply Box.alloc | apply Box.drew | (apply Box.ext; (focus assumption))))); (first | rfl | (simp; done) | (go_light; simp [*]; done))), (by with_reducible repeat (first | exact Ext.refl _ | assumption | apply Ext.drew | apply Ext.drewN | apply Ext.alloc | (refine Ext.setCell ?_ ?_ _; rotate_left; (focus (first | (simp; done) | (simp; omega) | omega))) | refine Ext.trans ?_ (by assumption)))⟩ ?_
    clear hB0 hB1 hx3
    rintro wc ⟨hB0, hB1, hxc⟩
    have hc0 := hB0.cells; have hf0 := hB0.free; have hl0 := hB0.lt
    have hc1 := hB1.cells; have hf1 := hB1.free; have hl1 := hB1.lt
    go_wp2_with fail
    (refine (add_any y kb kd lb ld x ka kc la lc p All _ (hl.ext (by with_reducible repeat (first | exact Ext.refl _ | assumption | apply Ext.drew | apply Ext.drewN | apply Ext.alloc | (refine Ext.setCell ?_ ?_ _; rotate_left; (focus (first | (simp; done) | (simp; omega) | omega))) | refine Ext.trans ?_ (by assumption)))) (by omega) (by omega) (by omega) (Hin.out.ext (by with_reducible repeat (first | exact Ext.refl _ | assumption | apply Ext.drew | apply Ext.drewN | apply Ext.alloc | (refine Ext.setCell ?_ ?_ _; rotate_left; (focus (first | (simp; done) | (simp; omega) | omega))) | refine Ext.trans ?_ (by assumption)))) (Hjn.out.ext (by with_reducible repeat (first | exact Ext.refl _ | assumption | apply Ext.drew | apply Ext.drewN | apply Ext.alloc | (refine Ext.setCell ?_ ?_ _; rotate_left; (focus (first | (simp; done) | (simp; omega) | omega))) | refine Ext.trans ?_ (by assumption))))).mono ?_); rintro e w4 ⟨ka4, kc4, la4, lc4, rfl, hin4, h4⟩
    have hB0 := Box.ext h4 hB0
    have hB1 := Box.ext h4 hB1
    have hx4 : Ext w w4 := (by with_reducible repeat (first | exact Ext.refl _ | assumption | apply Ext.drew | apply Ext.drewN | apply Ext.alloc | (refine Ext.setCell ?_ ?_ _; rotate_left; (focus (first | (simp; done) | (simp; omega) | omega))) | refine Ext.trans ?_ (by assumption)))
    have Hin4 := Lib.hid (all_in hin4)
    clear h4 hxc hc0 hf0 hl0 hc1 hf1 hl1 hin4
    go_upto_region 9 with fail
    refine gen_world (R := fun wx => Box wx w.heap.size #[.int .i64 x.k, .int .i64 x.n, .string x.s, .slice ka x.keys.length kc, .slice la x.l.length lc] 33 ∧ Box wx (w.heap.size + 1) #[.int .i64 y.k, .int .i64 y.n, .string y.s, .slice kb y.keys.length kd, .slice lb y.l.length ld] 33 ∧ Box wx w4.heap.size #[.int .i64 (addP x p y).1.k, .int .i64 (addP x p y).1.n, .string (addP x p y).1.s, .slice ka4 (addP x p y).1.keys.length kc4, .slice la4 (addP x p y).1.l.length lc4] 33 ∧ (addP x p y).1.In wx All ka4 kc4 la4 lc4 ∧ Ext w wx) ⟨(by (with_reducible apply Box.to); (focus (with_reducible repeat (first | assumption | (apply Box.new; (focus (first | rfl | (first | (simp; done) | (simp; omega) | omega)))) | apply Box.set | (apply Box.other; rotate_left; (focus (first | (simp; done) | (simp; omega) | omega))) | apply Box.alloc | apply Box.drew | (apply Box.ext; (focus assumption))))); (first | rfl | (simp; done) | (go_light; simp [*]; done))), (by (with_reducible apply Box.to); (focus (with_reducible repeat (first | assumption | (apply Box.new; (focus (first | rfl | (first | (simp; done) | (simp; omega) | omega)))) | apply Box.set | (apply Box.other; rotate_left; (focus (first | (simp; done) | (simp; omega) | omega))) | apply Box.alloc | apply Box.drew | (apply Box.ext; (focus assumption))))); (first | rfl | (simp; done) | (go_light; simp [*]; done))), (by (with_reducible apply Box.to); (focus (with_reducible repeat (first | assumption | (apply Box.new; (focus (first | rfl | (first | (simp; done) | (simp; omega) | omega)))) | apply Box.set | (apply Box.other; rotate_left; (focus (first | (simp; done) | (simp; omega) | omega))) | apply Box.alloc | apply Box.drew | (apply Box.ext; (focus assumption))))); (first | rfl | (simp; done) | (go_light; simp [*]; done))), Hin4.out.ext (by with_reducible repeat (first | exact Ext.refl _ | assumption | apply Ext.drew | apply Ext.drewN | apply Ext.alloc | (refine Ext.setCell ?_ ?_ _; rotate_left; (focus (first | (simp; done) | (simp; omega) | omega))) | refine Ext.trans ?_ (by assumption))), (by with_reducible repeat (first | exact Ext.refl _ | assumption | apply Ext.drew | apply Ext.drewN | apply Ext.alloc | (refine Ext.setCell ?_ ?_ _; rotate_left; (focus (first | (simp; done) | (simp; omega) | omega))) | refine Ext.trans ?_ (by assumption)))⟩ ?_
    clear hB0 hB1 Hin4 hx4
    rintro wd ⟨hB0, hB1, hB11, hin4, hxd⟩
    have Hin4 := Lib.hid hin4
    clear hin4
    by_cases he : (addP x p y).2 = 0
    · have he1 : ((addP x p y).2 != 0) = false := by simpa using he
      obtain ⟨haf, ks, hks, hag, hag0⟩ := Hal.out.2 he
      have has := fine_size haf
      have Hag := Lib.hid hag
      have Hag0 := Lib.hid hag0
      have Hks := Lib.hid hks
      clear he hag hag0 hks
      go_wp2_with fail
      (with_reducible refine (points_keep _ (hm.ext (by with_reducible repeat (first | exact Ext.refl _ | assumption | apply Ext.drew | apply Ext.drewN | apply Ext.alloc | (refine Ext.setCell ?_ ?_ _; rotate_left; (focus (first | (simp; done) | (simp; omega) | omega))) | refine Ext.trans ?_ (by assumption))))).mono ?_); rintro e w5 ⟨rfl, h5⟩; obtain ⟨hcw5, hfw5, hzw5⟩ := ext_facts h5; (try simp at hzw5); (try have hzAw5 : w.heap.size < w5.heap.size := by omega); (try have hzBw5 : w.heap.size + 1 < w5.heap.size := by omega); (try have hzCw5 : w.heap.size + 2 < w5.heap.size := by omega)
      have hB1 := Box.ext h5 hB1
      have hB11 := Box.ext h5 hB11
      have Hin4 := Lib.hid (V.In.ext (w' := w5) Hin4.out (by with_reducible repeat (first | exact Ext.refl _ | assumption | apply Ext.drew | apply Ext.drewN | apply Ext.alloc | (refine Ext.setCell ?_ ?_ _; rotate_left; (focus (first | (simp; done) | (simp; omega) | omega))) | refine Ext.trans ?_ (by assumption))))
      have hx5 : Ext w w5 := (by with_reducible repeat (first | exact Ext.refl _ | assumption | apply Ext.drew | apply Ext.drewN | apply Ext.alloc | (refine Ext.setCell ?_ ?_ _; rotate_left; (focus (first | (simp; done) | (simp; omega) | omega))) | refine Ext.trans ?_ (by assumption)))
      clear h5 hcw5 hfw5 hB0 hxd
      go_wp2_with fail
      (refine (split_any p (by omega) _ (hm.ext (by with_reducible repeat (first | exact Ext.refl _ | assumption | apply Ext.drew | apply Ext.drewN | apply Ext.alloc | (refine Ext.setCell ?_ ?_ _; rotate_left; (focus (first | (simp; done) | (simp; omega) | omega))) | refine Ext.trans ?_ (by assumption))))).mono ?_)
      rintro e w6 (⟨l2, a2, n2, c2, ks2, e1, rfl, e2, e3, hok2, hst2, h6⟩ | ⟨e1, -, -⟩)
      rotate_left
      · exfalso
        rw [namesB_none e1] at Hks
        have := Hks.out
        cases this
      obtain rfl : ks2 = ks := by
        have h := Hks.out
        rw [namesB_of (ks := ks2) (p := p) (by rw [e1, e3])] at h
        exact Option.some.inj h
      have hB1 := Box.ext h6 hB1
      have hB11 := Box.ext h6 hB11
      have Hin4 := Lib.hid (V.In.ext (w' := w6) Hin4.out (by with_reducible repeat (first | exact Ext.refl _ | assumption | apply Ext.drew | apply Ext.drewN | apply Ext.alloc | (refine Ext.setCell ?_ ?_ _; rotate_left; (focus (first | (simp; done) | (simp; omega) | omega))) | refine Ext.trans ?_ (by assumption))))
      have hx6 : Ext w w6 := (by with_reducible repeat (first | exact Ext.refl _ | assumption | apply Ext.drew | apply Ext.drewN | apply Ext.alloc | (refine Ext.setCell ?_ ?_ _; rotate_left; (focus (first | (simp; done) | (simp; omega) | omega))) | refine Ext.trans ?_ (by assumption)))
      have Hst2 := Lib.hid hst2
      clear e1 e3 h6 hx5 hst2
      have hc11 := hB11.cells; have hf11 := hB11.free; have hl11 := hB11.lt
      have hc1 := hB1.cells; have hf1 := hB1.free; have hl1 := hB1.lt
      by_cases hk0 : ks2 = []
      · subst hk0
        obtain rfl : n2 = 0 := by simpa using e2.symm
        have Hgp := Lib.hid (Hag0.out rfl)
        go_wp2_with fail
        (refine (get_any (addP x p y).1 ka4 kc4 la4 lc4 All p _ (by omega) (Hin4.out.ext (by with_reducible repeat (first | exact Ext.refl _ | assumption | apply Ext.drew | apply Ext.drewN | apply Ext.alloc | (refine Ext.setCell ?_ ?_ _; rotate_left; (focus (first | (simp; done) | (simp; omega) | omega))) | refine Ext.trans ?_ (by assumption)))) (by omega) (hl.ext (by with_reducible repeat (first | exact Ext.refl _ | assumption | apply Ext.drew | apply Ext.drewN | apply Ext.alloc | (refine Ext.setCell ?_ ?_ _; rotate_left; (focus (first | (simp; done) | (simp; omega) | omega))) | refine Ext.trans ?_ (by assumption))))).mono ?_)
        rw [Hgp.out]
        rintro e w7 ⟨ka7, kc7, la7, lc7, rfl, hin7, h7⟩
        have hB1 := Box.ext h7 hB1
        have hB11 := Box.ext h7 hB11
        have Hin4 := Lib.hid (V.In.ext (w' := w7) Hin4.out (by with_reducible repeat (first | exact Ext.refl _ | assumption | apply Ext.drew | apply Ext.drewN | apply Ext.alloc | (refine Ext.setCell ?_ ?_ _; rotate_left; (focus (first | (simp; done) | (simp; omega) | omega))) | refine Ext.trans ?_ (by assumption))))
        have hx7 : Ext w w7 := (by with_reducible repeat (first | exact Ext.refl _ | assumption | apply Ext.drew | apply Ext.drewN | apply Ext.alloc | (refine Ext.setCell ?_ ?_ _; rotate_left; (focus (first | (simp; done) | (simp; omega) | omega))) | refine Ext.trans ?_ (by assumption)))
        have Hin7 := Lib.hid (all_in hin7)
        clear h7 hx6 hc1 hf1 hl1 hc11 hf11 hl11 hin7
        go_upto_region 15 with fail
        refine gen_world (R := fun wx => Box wx (w.heap.size + 1) #[.int .i64 y.k, .int .i64 y.n, .string y.s, .slice kb y.keys.length kd, .slice lb y.l.length ld] 33 ∧ Box wx w4.heap.size #[.int .i64 (addP x p y).1.k, .int .i64 (addP x p y).1.n, .string (addP x p y).1.s, .slice ka4 (addP x p y).1.keys.length kc4, .slice la4 (addP x p y).1.l.length lc4] 33 ∧ Box wx w7.heap.size #[.int .i64 y.k, .int .i64 y.n, .string y.s, .slice ka7 y.keys.length kc7, .slice la7 y.l.length lc7] 33 ∧ y.In wx All ka7 kc7 la7 lc7 ∧ (addP x p y).1.In wx All ka4 kc4 la4 lc4 ∧ Ext w wx) ⟨(by (with_reducible apply Box.to); (focus (with_reducible repeat (first | assumption | (apply Box.new; (focus (first | rfl | (first | (simp; done) | (simp; omega) | omega)))) | apply Box.set | (apply Box.other; rotate_left; (focus (first | (simp; done) | (simp; omega) | omega))) | apply Box.alloc | apply Box.drew | (apply Box.ext; (focus assumption))))); (first | rfl | (simp; done) | (go_light; simp [*]; done))), (by (with_reducible apply Box.to); (focus (with_reducible repeat (first | assumption | (apply Box.new; (focus (first | rfl | (first | (simp; done) | (simp; omega) | omega)))) | apply Box.set | (apply Box.other; rotate_left; (focus (first | (simp; done) | (simp; omega) | omega))) | apply Box.alloc | apply Box.drew | (apply Box.ext; (focus assumption))))); (first | rfl | (simp; done) | (go_light; simp [*]; done))), (by (with_reducible apply Box.to); (focus (with_reducible repeat (first | assumption | (apply Box.new; (focus (first | rfl | (first | (simp; done) | (simp; omega) | omega)))) | apply Box.set | (apply Box.other; rotate_left; (focus (first | (simp; done) | (simp; omega) | omega))) | apply Box.alloc | apply Box.drew | (apply Box.ext; (focus assumption))))); (first | rfl | (simp; done) | (go_light; simp [*]; done))), Hin7.out.ext (by with_reducible repeat (first | exact Ext.refl _ | assumption | apply Ext.drew | apply Ext.drewN | apply Ext.alloc | (refine Ext.setCell ?_ ?_ _; rotate_left; (focus (first | (simp; done) | (simp; omega) | omega))) | refine Ext.trans ?_ (by assumption))), Hin4.out.ext (by with_reducible repeat (first | exact Ext.refl _ | assumption | apply Ext.drew | apply Ext.drewN | apply Ext.alloc | (refine Ext.setCell ?_ ?_ _; rotate_left; (focus (first | (simp; done) | (simp; omega) | omega))) | refine Ext.trans ?_ (by assumption))), (by with_reducible repeat (first | exact Ext.refl _ | assumption | apply Ext.drew | apply Ext.drewN | apply Ext.alloc | (refine Ext.setCell ?_ ?_ _; rotate_left; (focus (first | (simp; done) | (simp; omega) | omega))) | refine Ext.trans ?_ (by assumption)))⟩ ?_
        clear hB1 hB11 Hin7 Hin4 hx7
        rintro we ⟨hB1, hB11, hB15, hin7, hin4, hxe⟩
        have Hin4 := Lib.hid hin4
        clear hin4
        have Hin7 := Lib.hid hin7
        clear hin7
        have hc11 := hB11.cells; have hf11 := hB11.free; have hl11 := hB11.lt
        have hc1 := hB1.cells; have hf1 := hB1.free; have hl1 := hB1.lt
        have hc15 := hB15.cells; have hf15 := hB15.free; have hl15 := hB15.lt
        go_wp2_with fail
        (refine (same_any y y rfl (by omega) kb kd lb ld ka7 kc7 la7 lc7 All All _ (Hjn.out.ext (by with_reducible repeat (first | exact Ext.refl _ | assumption | apply Ext.drew | apply Ext.drewN | apply Ext.alloc | (refine Ext.setCell ?_ ?_ _; rotate_left; (focus (first | (simp; done) | (simp; omega) | omega))) | refine Ext.trans ?_ (by assumption)))) (Hin7.out.ext (by with_reducible repeat (first | exact Ext.refl _ | assumption | apply Ext.drew | apply Ext.drewN | apply Ext.alloc | (refine Ext.setCell ?_ ?_ _; rotate_left; (focus (first | (simp; done) | (simp; omega) | omega))) | refine Ext.trans ?_ (by assumption))))).mono ?_); rintro e w8 ⟨rfl, h8⟩
        have Hin4 := Lib.hid (V.In.ext (w' := w8) Hin4.out (by with_reducible repeat (first | exact Ext.refl _ | assumption | apply Ext.drew | apply Ext.drewN | apply Ext.alloc | (refine Ext.setCell ?_ ?_ _; rotate_left; (focus (first | (simp; done) | (simp; omega) | omega))) | refine Ext.trans ?_ (by assumption))))
        have hx8 : Ext w w8 := (by with_reducible repeat (first | exact Ext.refl _ | assumption | apply Ext.drew | apply Ext.drewN | apply Ext.alloc | (refine Ext.setCell ?_ ?_ _; rotate_left; (focus (first | (simp; done) | (simp; omega) | omega))) | refine Ext.trans ?_ (by assumption)))
        have hB11 := Box.ext h8 hB11
        clear h8 hc1 hf1 hl1 hc11 hf11 hl11 hc15 hf15 hl15
        have hc11 := hB11.cells; have hf11 := hB11.free; have hl11 := hB11.lt
        go_wp2_with fail
        (refine (fine_any (addP x p y).1 ka4 kc4 la4 lc4 _ _ (by omega) (Hin4.out.ext (by with_reducible repeat (first | exact Ext.refl _ | assumption | apply Ext.drew | apply Ext.drewN | apply Ext.alloc | (refine Ext.setCell ?_ ?_ _; rotate_left; (focus (first | (simp; done) | (simp; omega) | omega))) | refine Ext.trans ?_ (by assumption))))).mono ?_); rintro e w9 ⟨rfl, h9⟩
        rw [haf]
        go_wp2
        go_ret
        exact ⟨rfl, (by with_reducible repeat (first | exact Ext.refl _ | assumption | apply Ext.drew | apply Ext.drewN | apply Ext.alloc | (refine Ext.setCell ?_ ?_ _; rotate_left; (focus (first | (simp; done) | (simp; omega) | omega))) | refine Ext.trans ?_ (by assumption)))⟩
      · obtain ⟨m, rfl⟩ : ∃ m, n2 = m + 1 := ⟨n2 - 1, by have := List.length_pos_iff.2 hk0; omega⟩
        have hm30 : m + 1 ≤ 1073741824 := by have := (namesB_small Hks.out).1; omega
        have hlast : ks2.getLast hk0 = ks2[m] := by rw [List.getLast_eq_getElem]; congr 1; omega
        obtain ⟨b, o, rfl, -, hcs⟩ := Hst2.out.resolve_left hk0
        have d0 := hcs m (by omega)
        by_cases hd : (ks2[m]).toList = [45]
        · have hdb : ((ks2[m]).toList == [45]) = true := by simpa using hd
          go_wp2_with fail
          (refine (fine_any (addP x p y).1 ka4 kc4 la4 lc4 _ _ (by omega) (Hin4.out.ext (by with_reducible repeat (first | exact Ext.refl _ | assumption | apply Ext.drew | apply Ext.drewN | apply Ext.alloc | (refine Ext.setCell ?_ ?_ _; rotate_left; (focus (first | (simp; done) | (simp; omega) | omega))) | refine Ext.trans ?_ (by assumption))))).mono ?_); rintro e w9 ⟨rfl, h9⟩
          rw [haf]
          go_wp2
          go_ret
          exact ⟨rfl, (by with_reducible repeat (first | exact Ext.refl _ | assumption | apply Ext.drew | apply Ext.drewN | apply Ext.alloc | (refine Ext.setCell ?_ ?_ _; rotate_left; (focus (first | (simp; done) | (simp; omega) | omega))) | refine Ext.trans ?_ (by assumption)))⟩
        · have hdb : ((ks2[m]).toList == [45]) = false := by simpa using hd
          have Hgp := Lib.hid (Hag.out hk0 (by rw [hlast, ← ByteArray.toList_eq]; exact hd))
          go_wp2_with fail
          (refine (get_any (addP x p y).1 ka4 kc4 la4 lc4 All p _ (by omega) (Hin4.out.ext (by with_reducible repeat (first | exact Ext.refl _ | assumption | apply Ext.drew | apply Ext.drewN | apply Ext.alloc | (refine Ext.setCell ?_ ?_ _; rotate_left; (focus (first | (simp; done) | (simp; omega) | omega))) | refine Ext.trans ?_ (by assumption)))) (by omega) (hl.ext (by with_reducible repeat (first | exact Ext.refl _ | assumption | apply Ext.drew | apply Ext.drewN | apply Ext.alloc | (refine Ext.setCell ?_ ?_ _; rotate_left; (focus (first | (simp; done) | (simp; omega) | omega))) | refine Ext.trans ?_ (by assumption))))).mono ?_)
          rw [Hgp.out]
          rintro e w7 ⟨ka7, kc7, la7, lc7, rfl, hin7, h7⟩
          have hB1 := Box.ext h7 hB1
          have hB11 := Box.ext h7 hB11
          have Hin4 := Lib.hid (V.In.ext (w' := w7) Hin4.out (by with_reducible repeat (first | exact Ext.refl _ | assumption | apply Ext.drew | apply Ext.drewN | apply Ext.alloc | (refine Ext.setCell ?_ ?_ _; rotate_left; (focus (first | (simp; done) | (simp; omega) | omega))) | refine Ext.trans ?_ (by assumption))))
          have hx7 : Ext w w7 := (by with_reducible repeat (first | exact Ext.refl _ | assumption | apply Ext.drew | apply Ext.drewN | apply Ext.alloc | (refine Ext.setCell ?_ ?_ _; rotate_left; (focus (first | (simp; done) | (simp; omega) | omega))) | refine Ext.trans ?_ (by assumption)))
          have Hin7 := Lib.hid (all_in hin7)
          clear h7 hx6 hc1 hf1 hl1 hc11 hf11 hl11 hin7
          go_upto_region 15 with fail
          refine gen_world (R := fun wx => Box wx (w.heap.size + 1) #[.int .i64 y.k, .int .i64 y.n, .string y.s, .slice kb y.keys.length kd, .slice lb y.l.length ld] 33 ∧ Box wx w4.heap.size #[.int .i64 (addP x p y).1.k, .int .i64 (addP x p y).1.n, .string (addP x p y).1.s, .slice ka4 (addP x p y).1.keys.length kc4, .slice la4 (addP x p y).1.l.length lc4] 33 ∧ Box wx w7.heap.size #[.int .i64 y.k, .int .i64 y.n, .string y.s, .slice ka7 y.keys.length kc7, .slice la7 y.l.length lc7] 33 ∧ y.In wx All ka7 kc7 la7 lc7 ∧ (addP x p y).1.In wx All ka4 kc4 la4 lc4 ∧ Ext w wx) ⟨(by (with_reducible apply Box.to); (focus (with_reducible repeat (first | assumption | (apply Box.new; (focus (first | rfl | (first | (simp; done) | (simp; omega) | omega)))) | apply Box.set | (apply Box.other; rotate_left; (focus (first | (simp; done) | (simp; omega) | omega))) | apply Box.alloc | apply Box.drew | (apply Box.ext; (focus assumption))))); (first | rfl | (simp; done) | (go_light; simp [*]; done))), (by (with_reducible apply Box.to); (focus (with_reducible repeat (first | assumption | (apply Box.new; (focus (first | rfl | (first | (simp; done) | (simp; omega) | omega)))) | apply Box.set | (apply Box.other; rotate_left; (focus (first | (simp; done) | (simp; omega) | omega))) | apply Box.alloc | apply Box.drew | (apply Box.ext; (focus assumption))))); (first | rfl | (simp; done) | (go_light; simp [*]; done))), (by (with_reducible apply Box.to); (focus (with_reducible repeat (first | assumption | (apply Box.new; (focus (first | rfl | (first | (simp; done) | (simp; omega) | omega)))) | apply Box.set | (apply Box.other; rotate_left; (focus (first | (simp; done) | (simp; omega) | omega))) | apply Box.alloc | apply Box.drew | (apply Box.ext; (focus assumption))))); (first | rfl | (simp; done) | (go_light; simp [*]; done))), Hin7.out.ext (by with_reducible repeat (first | exact Ext.refl _ | assumption | apply Ext.drew | apply Ext.drewN | apply Ext.alloc | (refine Ext.setCell ?_ ?_ _; rotate_left; (focus (first | (simp; done) | (simp; omega) | omega))) | refine Ext.trans ?_ (by assumption))), Hin4.out.ext (by with_reducible repeat (first | exact Ext.refl _ | assumption | apply Ext.drew | apply Ext.drewN | apply Ext.alloc | (refine Ext.setCell ?_ ?_ _; rotate_left; (focus (first | (simp; done) | (simp; omega) | omega))) | refine Ext.trans ?_ (by assumption))), (by with_reducible repeat (first | exact Ext.refl _ | assumption | apply Ext.drew | apply Ext.drewN | apply Ext.alloc | (refine Ext.setCell ?_ ?_ _; rotate_left; (focus (first | (simp; done) | (simp; omega) | omega))) | refine Ext.trans ?_ (by assumption)))⟩ ?_
          clear hB1 hB11 Hin7 Hin4 hx7
          rintro we ⟨hB1, hB11, hB15, hin7, hin4, hxe⟩
          have Hin4 := Lib.hid hin4
          clear hin4
          have Hin7 := Lib.hid hin7
          clear hin7
          have hc11 := hB11.cells; have hf11 := hB11.free; have hl11 := hB11.lt
          have hc1 := hB1.cells; have hf1 := hB1.free; have hl1 := hB1.lt
          have hc15 := hB15.cells; have hf15 := hB15.free; have hl15 := hB15.lt
          go_wp2_with fail
          (refine (same_any y y rfl (by omega) kb kd lb ld ka7 kc7 la7 lc7 All All _ (Hjn.out.ext (by with_reducible repeat (first | exact Ext.refl _ | assumption | apply Ext.drew | apply Ext.drewN | apply Ext.alloc | (refine Ext.setCell ?_ ?_ _; rotate_left; (focus (first | (simp; done) | (simp; omega) | omega))) | refine Ext.trans ?_ (by assumption)))) (Hin7.out.ext (by with_reducible repeat (first | exact Ext.refl _ | assumption | apply Ext.drew | apply Ext.drewN | apply Ext.alloc | (refine Ext.setCell ?_ ?_ _; rotate_left; (focus (first | (simp; done) | (simp; omega) | omega))) | refine Ext.trans ?_ (by assumption))))).mono ?_); rintro e w8 ⟨rfl, h8⟩
          have Hin4 := Lib.hid (V.In.ext (w' := w8) Hin4.out (by with_reducible repeat (first | exact Ext.refl _ | assumption | apply Ext.drew | apply Ext.drewN | apply Ext.alloc | (refine Ext.setCell ?_ ?_ _; rotate_left; (focus (first | (simp; done) | (simp; omega) | omega))) | refine Ext.trans ?_ (by assumption))))
          have hx8 : Ext w w8 := (by with_reducible repeat (first | exact Ext.refl _ | assumption | apply Ext.drew | apply Ext.drewN | apply Ext.alloc | (refine Ext.setCell ?_ ?_ _; rotate_left; (focus (first | (simp; done) | (simp; omega) | omega))) | refine Ext.trans ?_ (by assumption)))
          have hB11 := Box.ext h8 hB11
          clear h8 hc1 hf1 hl1 hc11 hf11 hl11 hc15 hf15 hl15
          have hc11 := hB11.cells; have hf11 := hB11.free; have hl11 := hB11.lt
          go_wp2_with fail
          (refine (fine_any (addP x p y).1 ka4 kc4 la4 lc4 _ _ (by omega) (Hin4.out.ext (by with_reducible repeat (first | exact Ext.refl _ | assumption | apply Ext.drew | apply Ext.drewN | apply Ext.alloc | (refine Ext.setCell ?_ ?_ _; rotate_left; (focus (first | (simp; done) | (simp; omega) | omega))) | refine Ext.trans ?_ (by assumption))))).mono ?_); rintro e w9 ⟨rfl, h9⟩
          rw [haf]
          go_wp2
          go_ret
          exact ⟨rfl, (by with_reducible repeat (first | exact Ext.refl _ | assumption | apply Ext.drew | apply Ext.drewN | apply Ext.alloc | (refine Ext.setCell ?_ ?_ _; rotate_left; (focus (first | (simp; done) | (simp; omega) | omega))) | refine Ext.trans ?_ (by assumption)))⟩
    · have he1 : ((addP x p y).2 != 0) = true := by simpa using he
      have hex := Hal.out.1 he
      have Hex := Lib.hid hex
      clear he hex
      have hc0 := hB0.cells; have hf0 := hB0.free; have hl0 := hB0.lt
      have hc11 := hB11.cells; have hf11 := hB11.free; have hl11 := hB11.lt
      have hsz11 : (addP x p y).1.size ≤ 1073741824 := by rw [Hex.out]; omega
      go_wp2_with fail
      (refine (same_any (addP x p y).1 x Hex.out.symm hsz11 ka4 kc4 la4 lc4 ka kc la lc All All _ (Hin4.out.ext (by with_reducible repeat (first | exact Ext.refl _ | assumption | apply Ext.drew | apply Ext.drewN | apply Ext.alloc | (refine Ext.setCell ?_ ?_ _; rotate_left; (focus (first | (simp; done) | (simp; omega) | omega))) | refine Ext.trans ?_ (by assumption)))) (Hin.out.ext (by with_reducible repeat (first | exact Ext.refl _ | assumption | apply Ext.drew | apply Ext.drewN | apply Ext.alloc | (refine Ext.setCell ?_ ?_ _; rotate_left; (focus (first | (simp; done) | (simp; omega) | omega))) | refine Ext.trans ?_ (by assumption))))).mono ?_); rintro e w5 ⟨rfl, h5⟩
      have hx5 : Ext w w5 := (by with_reducible repeat (first | exact Ext.refl _ | assumption | apply Ext.drew | apply Ext.drewN | apply Ext.alloc | (refine Ext.setCell ?_ ?_ _; rotate_left; (focus (first | (simp; done) | (simp; omega) | omega))) | refine Ext.trans ?_ (by assumption)))
      clear h5 hc0 hf0 hl0 hc11 hf11 hl11
      go_wp2_with fail
      (with_reducible refine (points_keep _ (hm.ext (by with_reducible repeat (first | exact Ext.refl _ | assumption | apply Ext.drew | apply Ext.drewN | apply Ext.alloc | (refine Ext.setCell ?_ ?_ _; rotate_left; (focus (first | (simp; done) | (simp; omega) | omega))) | refine Ext.trans ?_ (by assumption))))).mono ?_); rintro e w6 ⟨rfl, h6⟩; obtain ⟨hcw6, hfw6, hzw6⟩ := ext_facts h6; (try simp at hzw6); (try have hzAw6 : w.heap.size < w6.heap.size := by omega); (try have hzBw6 : w.heap.size + 1 < w6.heap.size := by omega); (try have hzCw6 : w.heap.size + 2 < w6.heap.size := by omega)
      go_wp2_with fail
      go_ret
      exact ⟨rfl, (by with_reducible repeat (first | exact Ext.refl _ | assumption | apply Ext.drew | apply Ext.drewN | apply Ext.alloc | (refine Ext.setCell ?_ ?_ _; rotate_left; (focus (first | (simp; done) | (simp; omega) | omega))) | refine Ext.trans ?_ (by assumption)))⟩
  · have he1 : ((putP x p y).2 == 0) = false := by simpa using he
    have hex := Hpl.out.1 he
    have Hex := Lib.hid hex
    clear he hex
    have hsz7 : (putP x p y).1.size ≤ 1073741824 := by rw [Hex.out]; omega
    go_wp2_with fail
    (refine (same_any (putP x p y).1 x Hex.out.symm hsz7 ka1 kc1 la1 lc1 ka kc la lc All All _ (Hin1.out.ext (by with_reducible repeat (first | exact Ext.refl _ | assumption | apply Ext.drew | apply Ext.drewN | apply Ext.alloc | (refine Ext.setCell ?_ ?_ _; rotate_left; (focus (first | (simp; done) | (simp; omega) | omega))) | refine Ext.trans ?_ (by assumption)))) (Hin.out.ext (by with_reducible repeat (first | exact Ext.refl _ | assumption | apply Ext.drew | apply Ext.drewN | apply Ext.alloc | (refine Ext.setCell ?_ ?_ _; rotate_left; (focus (first | (simp; done) | (simp; omega) | omega))) | refine Ext.trans ?_ (by assumption))))).mono ?_); rintro e w3 ⟨rfl, h3⟩
    have hB0 := Box.ext h3 hB0
    have hB1 := Box.ext h3 hB1
    have hx3 : Ext w w3 := (by with_reducible repeat (first | exact Ext.refl _ | assumption | apply Ext.drew | apply Ext.drewN | apply Ext.alloc | (refine Ext.setCell ?_ ?_ _; rotate_left; (focus (first | (simp; done) | (simp; omega) | omega))) | refine Ext.trans ?_ (by assumption)))
    clear h3 hxb hc0 hf0 hl0 hc1 hf1 hl1 hc7 hf7 hl7 hB7 Hin1 Hpl Hex hsz7
    go_upto_region 8 with fail
    refine gen_world (R := fun wx => Box wx w.heap.size #[.int .i64 x.k, .int .i64 x.n, .string x.s, .slice ka x.keys.length kc, .slice la x.l.length lc] 33 ∧ Box wx (w.heap.size + 1) #[.int .i64 y.k, .int .i64 y.n, .string y.s, .slice kb y.keys.length kd, .slice lb y.l.length ld] 33 ∧ Ext w wx) ⟨(by (with_reducible apply Box.to); (focus (with_reducible repeat (first | assumption | (apply Box.new; (focus (first | rfl | (first | (simp; done) | (simp; omega) | omega)))) | apply Box.set | (apply Box.other; rotate_left; (focus (first | (simp; done) | (simp; omega) | omega))) | apply Box.alloc | apply Box.drew | (apply Box.ext; (focus assumption))))); (first | rfl | (simp; done) | (go_light; simp [*]; done))), (by (with_reducible apply Box.to); (focus (with_reducible repeat (first | assumption | (apply Box.new; (focus (first | rfl | (first | (simp; done) | (simp; omega) | omega)))) | apply Box.set | (apply Box.other; rotate_left; (focus (first | (simp; done) | (simp; omega) | omega))) | apply Box.alloc | apply Box.drew | (apply Box.ext; (focus assumption))))); (first | rfl | (simp; done) | (go_light; simp [*]; done))), (by with_reducible repeat (first | exact Ext.refl _ | assumption | apply Ext.drew | apply Ext.drewN | apply Ext.alloc | (refine Ext.setCell ?_ ?_ _; rotate_left; (focus (first | (simp; done) | (simp; omega) | omega))) | refine Ext.trans ?_ (by assumption)))⟩ ?_
    clear hB0 hB1 hx3
    rintro wc ⟨hB0, hB1, hxc⟩
    have hc0 := hB0.cells; have hf0 := hB0.free; have hl0 := hB0.lt
    have hc1 := hB1.cells; have hf1 := hB1.free; have hl1 := hB1.lt
    go_wp2_with fail
    (refine (add_any y kb kd lb ld x ka kc la lc p All _ (hl.ext (by with_reducible repeat (first | exact Ext.refl _ | assumption | apply Ext.drew | apply Ext.drewN | apply Ext.alloc | (refine Ext.setCell ?_ ?_ _; rotate_left; (focus (first | (simp; done) | (simp; omega) | omega))) | refine Ext.trans ?_ (by assumption)))) (by omega) (by omega) (by omega) (Hin.out.ext (by with_reducible repeat (first | exact Ext.refl _ | assumption | apply Ext.drew | apply Ext.drewN | apply Ext.alloc | (refine Ext.setCell ?_ ?_ _; rotate_left; (focus (first | (simp; done) | (simp; omega) | omega))) | refine Ext.trans ?_ (by assumption)))) (Hjn.out.ext (by with_reducible repeat (first | exact Ext.refl _ | assumption | apply Ext.drew | apply Ext.drewN | apply Ext.alloc | (refine Ext.setCell ?_ ?_ _; rotate_left; (focus (first | (simp; done) | (simp; omega) | omega))) | refine Ext.trans ?_ (by assumption))))).mono ?_); rintro e w4 ⟨ka4, kc4, la4, lc4, rfl, hin4, h4⟩
    have hB0 := Box.ext h4 hB0
    have hB1 := Box.ext h4 hB1
    have hx4 : Ext w w4 := (by with_reducible repeat (first | exact Ext.refl _ | assumption | apply Ext.drew | apply Ext.drewN | apply Ext.alloc | (refine Ext.setCell ?_ ?_ _; rotate_left; (focus (first | (simp; done) | (simp; omega) | omega))) | refine Ext.trans ?_ (by assumption)))
    have Hin4 := Lib.hid (all_in hin4)
    clear h4 hxc hc0 hf0 hl0 hc1 hf1 hl1 hin4
    go_upto_region 9 with fail
    refine gen_world (R := fun wx => Box wx w.heap.size #[.int .i64 x.k, .int .i64 x.n, .string x.s, .slice ka x.keys.length kc, .slice la x.l.length lc] 33 ∧ Box wx (w.heap.size + 1) #[.int .i64 y.k, .int .i64 y.n, .string y.s, .slice kb y.keys.length kd, .slice lb y.l.length ld] 33 ∧ Box wx w4.heap.size #[.int .i64 (addP x p y).1.k, .int .i64 (addP x p y).1.n, .string (addP x p y).1.s, .slice ka4 (addP x p y).1.keys.length kc4, .slice la4 (addP x p y).1.l.length lc4] 33 ∧ (addP x p y).1.In wx All ka4 kc4 la4 lc4 ∧ Ext w wx) ⟨(by (with_reducible apply Box.to); (focus (with_reducible repeat (first | assumption | (apply Box.new; (focus (first | rfl | (first | (simp; done) | (simp; omega) | omega)))) | apply Box.set | (apply Box.other; rotate_left; (focus (first | (simp; done) | (simp; omega) | omega))) | apply Box.alloc | apply Box.drew | (apply Box.ext; (focus assumption))))); (first | rfl | (simp; done) | (go_light; simp [*]; done))), (by (with_reducible apply Box.to); (focus (with_reducible repeat (first | assumption | (apply Box.new; (focus (first | rfl | (first | (simp; done) | (simp; omega) | omega)))) | apply Box.set | (apply Box.other; rotate_left; (focus (first | (simp; done) | (simp; omega) | omega))) | apply Box.alloc | apply Box.drew | (apply Box.ext; (focus assumption))))); (first | rfl | (simp; done) | (go_light; simp [*]; done))), (by (with_reducible apply Box.to); (focus (with_reducible repeat (first | assumption | (apply Box.new; (focus (first | rfl | (first | (simp; done) | (simp; omega) | omega)))) | apply Box.set | (apply Box.other; rotate_left; (focus (first | (simp; done) | (simp; omega) | omega))) | apply Box.alloc | apply Box.drew | (apply Box.ext; (focus assumption))))); (first | rfl | (simp; done) | (go_light; simp [*]; done))), Hin4.out.ext (by with_reducible repeat (first | exact Ext.refl _ | assumption | apply Ext.drew | apply Ext.drewN | apply Ext.alloc | (refine Ext.setCell ?_ ?_ _; rotate_left; (focus (first | (simp; done) | (simp; omega) | omega))) | refine Ext.trans ?_ (by assumption))), (by with_reducible repeat (first | exact Ext.refl _ | assumption | apply Ext.drew | apply Ext.drewN | apply Ext.alloc | (refine Ext.setCell ?_ ?_ _; rotate_left; (focus (first | (simp; done) | (simp; omega) | omega))) | refine Ext.trans ?_ (by assumption)))⟩ ?_
    clear hB0 hB1 Hin4 hx4
    rintro wd ⟨hB0, hB1, hB11, hin4, hxd⟩
    have Hin4 := Lib.hid hin4
    clear hin4
    by_cases he : (addP x p y).2 = 0
    · have he1 : ((addP x p y).2 != 0) = false := by simpa using he
      obtain ⟨haf, ks, hks, hag, hag0⟩ := Hal.out.2 he
      have has := fine_size haf
      have Hag := Lib.hid hag
      have Hag0 := Lib.hid hag0
      have Hks := Lib.hid hks
      clear he hag hag0 hks
      go_wp2_with fail
      (with_reducible refine (points_keep _ (hm.ext (by with_reducible repeat (first | exact Ext.refl _ | assumption | apply Ext.drew | apply Ext.drewN | apply Ext.alloc | (refine Ext.setCell ?_ ?_ _; rotate_left; (focus (first | (simp; done) | (simp; omega) | omega))) | refine Ext.trans ?_ (by assumption))))).mono ?_); rintro e w5 ⟨rfl, h5⟩; obtain ⟨hcw5, hfw5, hzw5⟩ := ext_facts h5; (try simp at hzw5); (try have hzAw5 : w.heap.size < w5.heap.size := by omega); (try have hzBw5 : w.heap.size + 1 < w5.heap.size := by omega); (try have hzCw5 : w.heap.size + 2 < w5.heap.size := by omega)
      have hB1 := Box.ext h5 hB1
      have hB11 := Box.ext h5 hB11
      have Hin4 := Lib.hid (V.In.ext (w' := w5) Hin4.out (by with_reducible repeat (first | exact Ext.refl _ | assumption | apply Ext.drew | apply Ext.drewN | apply Ext.alloc | (refine Ext.setCell ?_ ?_ _; rotate_left; (focus (first | (simp; done) | (simp; omega) | omega))) | refine Ext.trans ?_ (by assumption))))
      have hx5 : Ext w w5 := (by with_reducible repeat (first | exact Ext.refl _ | assumption | apply Ext.drew | apply Ext.drewN | apply Ext.alloc | (refine Ext.setCell ?_ ?_ _; rotate_left; (focus (first | (simp; done) | (simp; omega) | omega))) | refine Ext.trans ?_ (by assumption)))
      clear h5 hcw5 hfw5 hB0 hxd
      go_wp2_with fail
      (refine (split_any p (by omega) _ (hm.ext (by with_reducible repeat (first | exact Ext.refl _ | assumption | apply Ext.drew | apply Ext.drewN | apply Ext.alloc | (refine Ext.setCell ?_ ?_ _; rotate_left; (focus (first | (simp; done) | (simp; omega) | omega))) | refine Ext.trans ?_ (by assumption))))).mono ?_)
      rintro e w6 (⟨l2, a2, n2, c2, ks2, e1, rfl, e2, e3, hok2, hst2, h6⟩ | ⟨e1, -, -⟩)
      rotate_left
      · exfalso
        rw [namesB_none e1] at Hks
        have := Hks.out
        cases this
      obtain rfl : ks2 = ks := by
        have h := Hks.out
        rw [namesB_of (ks := ks2) (p := p) (by rw [e1, e3])] at h
        exact Option.some.inj h
      have hB1 := Box.ext h6 hB1
      have hB11 := Box.ext h6 hB11
      have Hin4 := Lib.hid (V.In.ext (w' := w6) Hin4.out (by with_reducible repeat (first | exact Ext.refl _ | assumption | apply Ext.drew | apply Ext.drewN | apply Ext.alloc | (refine Ext.setCell ?_ ?_ _; rotate_left; (focus (first | (simp; done) | (simp; omega) | omega))) | refine Ext.trans ?_ (by assumption))))
      have hx6 : Ext w w6 := (by with_reducible repeat (first | exact Ext.refl _ | assumption | apply Ext.drew | apply Ext.drewN | apply Ext.alloc | (refine Ext.setCell ?_ ?_ _; rotate_left; (focus (first | (simp; done) | (simp; omega) | omega))) | refine Ext.trans ?_ (by assumption)))
      have Hst2 := Lib.hid hst2
      clear e1 e3 h6 hx5 hst2
      have hc11 := hB11.cells; have hf11 := hB11.free; have hl11 := hB11.lt
      have hc1 := hB1.cells; have hf1 := hB1.free; have hl1 := hB1.lt
      by_cases hk0 : ks2 = []
      · subst hk0
        obtain rfl : n2 = 0 := by simpa using e2.symm
        have Hgp := Lib.hid (Hag0.out rfl)
        go_wp2_with fail
        (refine (get_any (addP x p y).1 ka4 kc4 la4 lc4 All p _ (by omega) (Hin4.out.ext (by with_reducible repeat (first | exact Ext.refl _ | assumption | apply Ext.drew | apply Ext.drewN | apply Ext.alloc | (refine Ext.setCell ?_ ?_ _; rotate_left; (focus (first | (simp; done) | (simp; omega) | omega))) | refine Ext.trans ?_ (by assumption)))) (by omega) (hl.ext (by with_reducible repeat (first | exact Ext.refl _ | assumption | apply Ext.drew | apply Ext.drewN | apply Ext.alloc | (refine Ext.setCell ?_ ?_ _; rotate_left; (focus (first | (simp; done) | (simp; omega) | omega))) | refine Ext.trans ?_ (by assumption))))).mono ?_)
        rw [Hgp.out]
        rintro e w7 ⟨ka7, kc7, la7, lc7, rfl, hin7, h7⟩
        have hB1 := Box.ext h7 hB1
        have hB11 := Box.ext h7 hB11
        have Hin4 := Lib.hid (V.In.ext (w' := w7) Hin4.out (by with_reducible repeat (first | exact Ext.refl _ | assumption | apply Ext.drew | apply Ext.drewN | apply Ext.alloc | (refine Ext.setCell ?_ ?_ _; rotate_left; (focus (first | (simp; done) | (simp; omega) | omega))) | refine Ext.trans ?_ (by assumption))))
        have hx7 : Ext w w7 := (by with_reducible repeat (first | exact Ext.refl _ | assumption | apply Ext.drew | apply Ext.drewN | apply Ext.alloc | (refine Ext.setCell ?_ ?_ _; rotate_left; (focus (first | (simp; done) | (simp; omega) | omega))) | refine Ext.trans ?_ (by assumption)))
        have Hin7 := Lib.hid (all_in hin7)
        clear h7 hx6 hc1 hf1 hl1 hc11 hf11 hl11 hin7
        go_upto_region 15 with fail
        refine gen_world (R := fun wx => Box wx (w.heap.size + 1) #[.int .i64 y.k, .int .i64 y.n, .string y.s, .slice kb y.keys.length kd, .slice lb y.l.length ld] 33 ∧ Box wx w4.heap.size #[.int .i64 (addP x p y).1.k, .int .i64 (addP x p y).1.n, .string (addP x p y).1.s, .slice ka4 (addP x p y).1.keys.length kc4, .slice la4 (addP x p y).1.l.length lc4] 33 ∧ Box wx w7.heap.size #[.int .i64 y.k, .int .i64 y.n, .string y.s, .slice ka7 y.keys.length kc7, .slice la7 y.l.length lc7] 33 ∧ y.In wx All ka7 kc7 la7 lc7 ∧ (addP x p y).1.In wx All ka4 kc4 la4 lc4 ∧ Ext w wx) ⟨(by (with_reducible apply Box.to); (focus (with_reducible repeat (first | assumption | (apply Box.new; (focus (first | rfl | (first | (simp; done) | (simp; omega) | omega)))) | apply Box.set | (apply Box.other; rotate_left; (focus (first | (simp; done) | (simp; omega) | omega))) | apply Box.alloc | apply Box.drew | (apply Box.ext; (focus assumption))))); (first | rfl | (simp; done) | (go_light; simp [*]; done))), (by (with_reducible apply Box.to); (focus (with_reducible repeat (first | assumption | (apply Box.new; (focus (first | rfl | (first | (simp; done) | (simp; omega) | omega)))) | apply Box.set | (apply Box.other; rotate_left; (focus (first | (simp; done) | (simp; omega) | omega))) | apply Box.alloc | apply Box.drew | (apply Box.ext; (focus assumption))))); (first | rfl | (simp; done) | (go_light; simp [*]; done))), (by (with_reducible apply Box.to); (focus (with_reducible repeat (first | assumption | (apply Box.new; (focus (first | rfl | (first | (simp; done) | (simp; omega) | omega)))) | apply Box.set | (apply Box.other; rotate_left; (focus (first | (simp; done) | (simp; omega) | omega))) | apply Box.alloc | apply Box.drew | (apply Box.ext; (focus assumption))))); (first | rfl | (simp; done) | (go_light; simp [*]; done))), Hin7.out.ext (by with_reducible repeat (first | exact Ext.refl _ | assumption | apply Ext.drew | apply Ext.drewN | apply Ext.alloc | (refine Ext.setCell ?_ ?_ _; rotate_left; (focus (first | (simp; done) | (simp; omega) | omega))) | refine Ext.trans ?_ (by assumption))), Hin4.out.ext (by with_reducible repeat (first | exact Ext.refl _ | assumption | apply Ext.drew | apply Ext.drewN | apply Ext.alloc | (refine Ext.setCell ?_ ?_ _; rotate_left; (focus (first | (simp; done) | (simp; omega) | omega))) | refine Ext.trans ?_ (by assumption))), (by with_reducible repeat (first | exact Ext.refl _ | assumption | apply Ext.drew | apply Ext.drewN | apply Ext.alloc | (refine Ext.setCell ?_ ?_ _; rotate_left; (focus (first | (simp; done) | (simp; omega) | omega))) | refine Ext.trans ?_ (by assumption)))⟩ ?_
        clear hB1 hB11 Hin7 Hin4 hx7
        rintro we ⟨hB1, hB11, hB15, hin7, hin4, hxe⟩
        have Hin4 := Lib.hid hin4
        clear hin4
        have Hin7 := Lib.hid hin7
        clear hin7
        have hc11 := hB11.cells; have hf11 := hB11.free; have hl11 := hB11.lt
        have hc1 := hB1.cells; have hf1 := hB1.free; have hl1 := hB1.lt
        have hc15 := hB15.cells; have hf15 := hB15.free; have hl15 := hB15.lt
        go_wp2_with fail
        (refine (same_any y y rfl (by omega) kb kd lb ld ka7 kc7 la7 lc7 All All _ (Hjn.out.ext (by with_reducible repeat (first | exact Ext.refl _ | assumption | apply Ext.drew | apply Ext.drewN | apply Ext.alloc | (refine Ext.setCell ?_ ?_ _; rotate_left; (focus (first | (simp; done) | (simp; omega) | omega))) | refine Ext.trans ?_ (by assumption)))) (Hin7.out.ext (by with_reducible repeat (first | exact Ext.refl _ | assumption | apply Ext.drew | apply Ext.drewN | apply Ext.alloc | (refine Ext.setCell ?_ ?_ _; rotate_left; (focus (first | (simp; done) | (simp; omega) | omega))) | refine Ext.trans ?_ (by assumption))))).mono ?_); rintro e w8 ⟨rfl, h8⟩
        have Hin4 := Lib.hid (V.In.ext (w' := w8) Hin4.out (by with_reducible repeat (first | exact Ext.refl _ | assumption | apply Ext.drew | apply Ext.drewN | apply Ext.alloc | (refine Ext.setCell ?_ ?_ _; rotate_left; (focus (first | (simp; done) | (simp; omega) | omega))) | refine Ext.trans ?_ (by assumption))))
        have hx8 : Ext w w8 := (by with_reducible repeat (first | exact Ext.refl _ | assumption | apply Ext.drew | apply Ext.drewN | apply Ext.alloc | (refine Ext.setCell ?_ ?_ _; rotate_left; (focus (first | (simp; done) | (simp; omega) | omega))) | refine Ext.trans ?_ (by assumption)))
        have hB11 := Box.ext h8 hB11
        clear h8 hc1 hf1 hl1 hc11 hf11 hl11 hc15 hf15 hl15
        have hc11 := hB11.cells; have hf11 := hB11.free; have hl11 := hB11.lt
        go_wp2_with fail
        (refine (fine_any (addP x p y).1 ka4 kc4 la4 lc4 _ _ (by omega) (Hin4.out.ext (by with_reducible repeat (first | exact Ext.refl _ | assumption | apply Ext.drew | apply Ext.drewN | apply Ext.alloc | (refine Ext.setCell ?_ ?_ _; rotate_left; (focus (first | (simp; done) | (simp; omega) | omega))) | refine Ext.trans ?_ (by assumption))))).mono ?_); rintro e w9 ⟨rfl, h9⟩
        rw [haf]
        go_wp2
        go_ret
        exact ⟨rfl, (by with_reducible repeat (first | exact Ext.refl _ | assumption | apply Ext.drew | apply Ext.drewN | apply Ext.alloc | (refine Ext.setCell ?_ ?_ _; rotate_left; (focus (first | (simp; done) | (simp; omega) | omega))) | refine Ext.trans ?_ (by assumption)))⟩
      · obtain ⟨m, rfl⟩ : ∃ m, n2 = m + 1 := ⟨n2 - 1, by have := List.length_pos_iff.2 hk0; omega⟩
        have hm30 : m + 1 ≤ 1073741824 := by have := (namesB_small Hks.out).1; omega
        have hlast : ks2.getLast hk0 = ks2[m] := by rw [List.getLast_eq_getElem]; congr 1; omega
        obtain ⟨b, o, rfl, -, hcs⟩ := Hst2.out.resolve_left hk0
        have d0 := hcs m (by omega)
        by_cases hd : (ks2[m]).toList = [45]
        · have hdb : ((ks2[m]).toList == [45]) = true := by simpa using hd
          go_wp2_with fail
          (refine (fine_any (addP x p y).1 ka4 kc4 la4 lc4 _ _ (by omega) (Hin4.out.ext (by with_reducible repeat (first | exact Ext.refl _ | assumption | apply Ext.drew | apply Ext.drewN | apply Ext.alloc | (refine Ext.setCell ?_ ?_ _; rotate_left; (focus (first | (simp; done) | (simp; omega) | omega))) | refine Ext.trans ?_ (by assumption))))).mono ?_); rintro e w9 ⟨rfl, h9⟩
          rw [haf]
          go_wp2
          go_ret
          exact ⟨rfl, (by with_reducible repeat (first | exact Ext.refl _ | assumption | apply Ext.drew | apply Ext.drewN | apply Ext.alloc | (refine Ext.setCell ?_ ?_ _; rotate_left; (focus (first | (simp; done) | (simp; omega) | omega))) | refine Ext.trans ?_ (by assumption)))⟩
        · have hdb : ((ks2[m]).toList == [45]) = false := by simpa using hd
          have Hgp := Lib.hid (Hag.out hk0 (by rw [hlast, ← ByteArray.toList_eq]; exact hd))
          go_wp2_with fail
          (refine (get_any (addP x p y).1 ka4 kc4 la4 lc4 All p _ (by omega) (Hin4.out.ext (by with_reducible repeat (first | exact Ext.refl _ | assumption | apply Ext.drew | apply Ext.drewN | apply Ext.alloc | (refine Ext.setCell ?_ ?_ _; rotate_left; (focus (first | (simp; done) | (simp; omega) | omega))) | refine Ext.trans ?_ (by assumption)))) (by omega) (hl.ext (by with_reducible repeat (first | exact Ext.refl _ | assumption | apply Ext.drew | apply Ext.drewN | apply Ext.alloc | (refine Ext.setCell ?_ ?_ _; rotate_left; (focus (first | (simp; done) | (simp; omega) | omega))) | refine Ext.trans ?_ (by assumption))))).mono ?_)
          rw [Hgp.out]
          rintro e w7 ⟨ka7, kc7, la7, lc7, rfl, hin7, h7⟩
          have hB1 := Box.ext h7 hB1
          have hB11 := Box.ext h7 hB11
          have Hin4 := Lib.hid (V.In.ext (w' := w7) Hin4.out (by with_reducible repeat (first | exact Ext.refl _ | assumption | apply Ext.drew | apply Ext.drewN | apply Ext.alloc | (refine Ext.setCell ?_ ?_ _; rotate_left; (focus (first | (simp; done) | (simp; omega) | omega))) | refine Ext.trans ?_ (by assumption))))
          have hx7 : Ext w w7 := (by with_reducible repeat (first | exact Ext.refl _ | assumption | apply Ext.drew | apply Ext.drewN | apply Ext.alloc | (refine Ext.setCell ?_ ?_ _; rotate_left; (focus (first | (simp; done) | (simp; omega) | omega))) | refine Ext.trans ?_ (by assumption)))
          have Hin7 := Lib.hid (all_in hin7)
          clear h7 hx6 hc1 hf1 hl1 hc11 hf11 hl11 hin7
          go_upto_region 15 with fail
          refine gen_world (R := fun wx => Box wx (w.heap.size + 1) #[.int .i64 y.k, .int .i64 y.n, .string y.s, .slice kb y.keys.length kd, .slice lb y.l.length ld] 33 ∧ Box wx w4.heap.size #[.int .i64 (addP x p y).1.k, .int .i64 (addP x p y).1.n, .string (addP x p y).1.s, .slice ka4 (addP x p y).1.keys.length kc4, .slice la4 (addP x p y).1.l.length lc4] 33 ∧ Box wx w7.heap.size #[.int .i64 y.k, .int .i64 y.n, .string y.s, .slice ka7 y.keys.length kc7, .slice la7 y.l.length lc7] 33 ∧ y.In wx All ka7 kc7 la7 lc7 ∧ (addP x p y).1.In wx All ka4 kc4 la4 lc4 ∧ Ext w wx) ⟨(by (with_reducible apply Box.to); (focus (with_reducible repeat (first | assumption | (apply Box.new; (focus (first | rfl | (first | (simp; done) | (simp; omega) | omega)))) | apply Box.set | (apply Box.other; rotate_left; (focus (first | (simp; done) | (simp; omega) | omega))) | apply Box.alloc | apply Box.drew | (apply Box.ext; (focus assumption))))); (first | rfl | (simp; done) | (go_light; simp [*]; done))), (by (with_reducible apply Box.to); (focus (with_reducible repeat (first | assumption | (apply Box.new; (focus (first | rfl | (first | (simp; done) | (simp; omega) | omega)))) | apply Box.set | (apply Box.other; rotate_left; (focus (first | (simp; done) | (simp; omega) | omega))) | apply Box.alloc | apply Box.drew | (apply Box.ext; (focus assumption))))); (first | rfl | (simp; done) | (go_light; simp [*]; done))), (by (with_reducible apply Box.to); (focus (with_reducible repeat (first | assumption | (apply Box.new; (focus (first | rfl | (first | (simp; done) | (simp; omega) | omega)))) | apply Box.set | (apply Box.other; rotate_left; (focus (first | (simp; done) | (simp; omega) | omega))) | apply Box.alloc | apply Box.drew | (apply Box.ext; (focus assumption))))); (first | rfl | (simp; done) | (go_light; simp [*]; done))), Hin7.out.ext (by with_reducible repeat (first | exact Ext.refl _ | assumption | apply Ext.drew | apply Ext.drewN | apply Ext.alloc | (refine Ext.setCell ?_ ?_ _; rotate_left; (focus (first | (simp; done) | (simp; omega) | omega))) | refine Ext.trans ?_ (by assumption))), Hin4.out.ext (by with_reducible repeat (first | exact Ext.refl _ | assumption | apply Ext.drew | apply Ext.drewN | apply Ext.alloc | (refine Ext.setCell ?_ ?_ _; rotate_left; (focus (first | (simp; done) | (simp; omega) | omega))) | refine Ext.trans ?_ (by assumption))), (by with_reducible repeat (first | exact Ext.refl _ | assumption | apply Ext.drew | apply Ext.drewN | apply Ext.alloc | (refine Ext.setCell ?_ ?_ _; rotate_left; (focus (first | (simp; done) | (simp; omega) | omega))) | refine Ext.trans ?_ (by assumption)))⟩ ?_
          clear hB1 hB11 Hin7 Hin4 hx7
          rintro we ⟨hB1, hB11, hB15, hin7, hin4, hxe⟩
          have Hin4 := Lib.hid hin4
          clear hin4
          have Hin7 := Lib.hid hin7
          clear hin7
          have hc11 := hB11.cells; have hf11 := hB11.free; have hl11 := hB11.lt
          have hc1 := hB1.cells; have hf1 := hB1.free; have hl1 := hB1.lt
          have hc15 := hB15.cells; have hf15 := hB15.free; have hl15 := hB15.lt
          go_wp2_with fail
          (refine (same_any y y rfl (by omega) kb kd lb ld ka7 kc7 la7 lc7 All All _ (Hjn.out.ext (by with_reducible repeat (first | exact Ext.refl _ | assumption | apply Ext.drew | apply Ext.drewN | apply Ext.alloc | (refine Ext.setCell ?_ ?_ _; rotate_left; (focus (first | (simp; done) | (simp; omega) | omega))) | refine Ext.trans ?_ (by assumption)))) (Hin7.out.ext (by with_reducible repeat (first | exact Ext.refl _ | assumption | apply Ext.drew | apply Ext.drewN | apply Ext.alloc | (refine Ext.setCell ?_ ?_ _; rotate_left; (focus (first | (simp; done) | (simp; omega) | omega))) | refine Ext.trans ?_ (by assumption))))).mono ?_); rintro e w8 ⟨rfl, h8⟩
          have Hin4 := Lib.hid (V.In.ext (w' := w8) Hin4.out (by with_reducible repeat (first | exact Ext.refl _ | assumption | apply Ext.drew | apply Ext.drewN | apply Ext.alloc | (refine Ext.setCell ?_ ?_ _; rotate_left; (focus (first | (simp; done) | (simp; omega) | omega))) | refine Ext.trans ?_ (by assumption))))
          have hx8 : Ext w w8 := (by with_reducible repeat (first | exact Ext.refl _ | assumption | apply Ext.drew | apply Ext.drewN | apply Ext.alloc | (refine Ext.setCell ?_ ?_ _; rotate_left; (focus (first | (simp; done) | (simp; omega) | omega))) | refine Ext.trans ?_ (by assumption)))
          have hB11 := Box.ext h8 hB11
          clear h8 hc1 hf1 hl1 hc11 hf11 hl11 hc15 hf15 hl15
          have hc11 := hB11.cells; have hf11 := hB11.free; have hl11 := hB11.lt
          go_wp2_with fail
          (refine (fine_any (addP x p y).1 ka4 kc4 la4 lc4 _ _ (by omega) (Hin4.out.ext (by with_reducible repeat (first | exact Ext.refl _ | assumption | apply Ext.drew | apply Ext.drewN | apply Ext.alloc | (refine Ext.setCell ?_ ?_ _; rotate_left; (focus (first | (simp; done) | (simp; omega) | omega))) | refine Ext.trans ?_ (by assumption))))).mono ?_); rintro e w9 ⟨rfl, h9⟩
          rw [haf]
          go_wp2
          go_ret
          exact ⟨rfl, (by with_reducible repeat (first | exact Ext.refl _ | assumption | apply Ext.drew | apply Ext.drewN | apply Ext.alloc | (refine Ext.setCell ?_ ?_ _; rotate_left; (focus (first | (simp; done) | (simp; omega) | omega))) | refine Ext.trans ?_ (by assumption)))⟩
    · have he1 : ((addP x p y).2 != 0) = true := by simpa using he
      have hex := Hal.out.1 he
      have Hex := Lib.hid hex
      clear he hex
      have hc0 := hB0.cells; have hf0 := hB0.free; have hl0 := hB0.lt
      have hc11 := hB11.cells; have hf11 := hB11.free; have hl11 := hB11.lt
      have hsz11 : (addP x p y).1.size ≤ 1073741824 := by rw [Hex.out]; omega
      go_wp2_with fail
      (refine (same_any (addP x p y).1 x Hex.out.symm hsz11 ka4 kc4 la4 lc4 ka kc la lc All All _ (Hin4.out.ext (by with_reducible repeat (first | exact Ext.refl _ | assumption | apply Ext.drew | apply Ext.drewN | apply Ext.alloc | (refine Ext.setCell ?_ ?_ _; rotate_left; (focus (first | (simp; done) | (simp; omega) | omega))) | refine Ext.trans ?_ (by assumption)))) (Hin.out.ext (by with_reducible repeat (first | exact Ext.refl _ | assumption | apply Ext.drew | apply Ext.drewN | apply Ext.alloc | (refine Ext.setCell ?_ ?_ _; rotate_left; (focus (first | (simp; done) | (simp; omega) | omega))) | refine Ext.trans ?_ (by assumption))))).mono ?_); rintro e w5 ⟨rfl, h5⟩
      have hx5 : Ext w w5 := (by with_reducible repeat (first | exact Ext.refl _ | assumption | apply Ext.drew | apply Ext.drewN | apply Ext.alloc | (refine Ext.setCell ?_ ?_ _; rotate_left; (focus (first | (simp; done) | (simp; omega) | omega))) | refine Ext.trans ?_ (by assumption)))
      clear h5 hc0 hf0 hl0 hc11 hf11 hl11
      go_wp2_with fail
      (with_reducible refine (points_keep _ (hm.ext (by with_reducible repeat (first | exact Ext.refl _ | assumption | apply Ext.drew | apply Ext.drewN | apply Ext.alloc | (refine Ext.setCell ?_ ?_ _; rotate_left; (focus (first | (simp; done) | (simp; omega) | omega))) | refine Ext.trans ?_ (by assumption))))).mono ?_); rintro e w6 ⟨rfl, h6⟩; obtain ⟨hcw6, hfw6, hzw6⟩ := ext_facts h6; (try simp at hzw6); (try have hzAw6 : w.heap.size < w6.heap.size := by omega); (try have hzBw6 : w.heap.size + 1 < w6.heap.size := by omega); (try have hzCw6 : w.heap.size + 2 < w6.heap.size := by omega)
      go_wp2_with fail
      go_ret
      exact ⟨rfl, (by with_reducible repeat (first | exact Ext.refl _ | assumption | apply Ext.drew | apply Ext.drewN | apply Ext.alloc | (refine Ext.setCell ?_ ?_ _; rotate_left; (focus (first | (simp; done) | (simp; omega) | omega))) | refine Ext.trans ?_ (by assumption)))⟩
end Go.Proofs.YtknnflobpjppfaaDoor.lawPointAdds
