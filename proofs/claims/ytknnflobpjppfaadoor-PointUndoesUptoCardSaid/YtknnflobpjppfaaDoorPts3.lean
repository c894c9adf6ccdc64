/- points: child, Get, and the look itself. -/
import Derived.Test.YtknnflobpjppfaaDoorPts2
set_option linter.all false
namespace Go.Proofs.YtknnflobpjppfaaDoor
open Go.RowKit
attribute [local go_sem ↓] Go.wp_at_zero Go.wp_at_succ

theorem bs_one (b o c : Nat) (w : World) (hc : w.cell? ⟨b, o, none⟩ = some (.string K0)) :
    Calls Tryd.prog 48 #[.slice (some ⟨b, o, none⟩) 1 c, .string K0] w fun e w' => e = .returned (.tuple #[.int .i64 0, .bool true]) ∧ Ext w w' := by
  have hb : Lib.bsGo (fun _ => Op.bytesLess K0.toList K0.toList) 1 0 1 = 0 := by
    have : (fun _ : Nat => Op.bytesLess K0.toList K0.toList) = fun _ => false := funext fun _ => bl_irrefl _
    rw [this]
    decide +kernel
  have hcs : ∀ j, j < 1 → w.cell? ⟨b, o + j, none⟩ = some (.string ((fun _ : Nat => K0) j)) := by
    intro j hj
    obtain rfl : j = 0 := by omega
    exact hc
  refine (Any2.slices_BinarySearch_string Tryd.lays2_26 b o 1 c (fun _ => K0) K0 w (by omega) hcs).mono ?_
  rintro e w' ⟨rfl, q, rfl⟩
  rw [hb]
  exact ⟨by simp, (Ext.refl w).drewN q⟩

set_option maxHeartbeats 1000000 in
theorem child_one (ka : Option Addr) (kc : Nat) (la : Option Addr) (lc : Nat) (S : Nat → Prop) (w : World) (hin : R0.In w S ka kc la lc) :
    Calls Tryd.prog 36 #[.agg #[.int .i64 5, .int .i64 0, .string ⟨#[]⟩, .slice ka 1 kc, .slice la 1 lc], .string K0] w fun e w' => e = .returned (.tuple #[.int .i64 0, .bool true]) ∧ Ext w w' := by
  obtain ⟨b, o, rfl, hS, hk⟩ := hin.key (i := 0) (by simp)
  simp only [Nat.add_zero] at hk
  go_enter Tryd.func36, Tryd.ntmps36
  go_wp2_with fail
  (refine (bs_one b o kc _ (Ext.cell (a := w) (by with_reducible repeat (first | exact Ext.refl _ | assumption | apply Ext.drew | apply Ext.drewN | apply Ext.alloc | (refine Ext.setCell ?_ ?_ _; rotate_left; (focus (first | (simp; done) | (simp; omega) | omega))) | refine Ext.trans ?_ (by assumption))) hk)).mono ?_); rintro e w1 ⟨rfl, h1⟩
  have hx1 : Ext w w1 := (by with_reducible repeat (first | exact Ext.refl _ | assumption | apply Ext.drew | apply Ext.drewN | apply Ext.alloc | (refine Ext.setCell ?_ ?_ _; rotate_left; (focus (first | (simp; done) | (simp; omega) | omega))) | refine Ext.trans ?_ (by assumption)))
  go_wp2_with fail
  go_ret2
  exact ⟨rfl, (by with_reducible repeat (first | exact Ext.refl _ | assumption | apply Ext.drew | apply Ext.drewN | apply Ext.alloc | (refine Ext.setCell ?_ ?_ _; rotate_left; (focus (first | (simp; done) | (simp; omega) | omega))) | refine Ext.trans ?_ (by assumption)))⟩

set_option maxRecDepth 100000 in
set_option maxHeartbeats 4000000 in
theorem get_ok (ka : Option Addr) (kc : Nat) (la : Option Addr) (lc : Nat) (S : Nat → Prop) (w : World) (hin0 : R0.In w S ka kc la lc) (hm : MaxAt w) :
    Calls Tryd.prog 19 #[.agg #[.int .i64 5, .int .i64 0, .string ⟨#[]⟩, .slice ka 1 kc, .slice la 1 lc], .string P0] w fun e w' => ∃ a3 c3 a4 c4, e = .returned (.tuple #[.agg #[.int .i64 2, .int .i64 3, .string ⟨#[]⟩, .slice a3 0 c3, .slice a4 0 c4], .int .i64 0]) ∧ Ext w w' := by
  have hin : R0.In w (fun b => b < w.heap.size) ka kc la lc := hin0.mono fun b _ h => h
  clear hin0
  go_enter Tryd.func19, Tryd.ntmps19
  go_upto_region 1 with fail
  refine gen_world (R := fun wx => Box wx w.heap.size #[.int .i64 5, .int .i64 0, .string ⟨#[]⟩, .slice ka 1 kc, .slice la 1 lc] 33 ∧ Box wx (w.heap.size + 1) #[.int .i64 0, .int .i64 0, .string ⟨#[]⟩, .slice none 0 0, .slice none 0 0] 33 ∧ Ext w wx) ⟨(by (with_reducible apply Box.to); (focus (with_reducible repeat (first | assumption | (apply Box.new; (focus (first | rfl | (first | (simp; done) | (simp; omega) | omega)))) | apply Box.set | (apply Box.other; rotate_left; (focus (first | (simp; done) | (simp; omega) | omega))) | apply Box.alloc | apply Box.drew | (apply Box.ext; (focus assumption))))); (first | rfl | (simp; done) | (go_light; simp [*]; done))), (by (with_reducible apply Box.to); (focus (with_reducible repeat (first | assumption | (apply Box.new; (focus (first | rfl | (first | (simp; done) | (simp; omega) | omega)))) | apply Box.set | (apply Box.other; rotate_left; (focus (first | (simp; done) | (simp; omega) | omega))) | apply Box.alloc | apply Box.drew | (apply Box.ext; (focus assumption))))); (first | rfl | (simp; done) | (go_light; simp [*]; done))), (by with_reducible repeat (first | exact Ext.refl _ | assumption | apply Ext.drew | apply Ext.drewN | apply Ext.alloc | (refine Ext.setCell ?_ ?_ _; rotate_left; (focus (first | (simp; done) | (simp; omega) | omega))) | refine Ext.trans ?_ (by assumption)))⟩ ?_
  rintro wa ⟨hB0, hB1, hxa⟩
  have hc0 := hB0.cells; have hf0 := hB0.free; have hl0 := hB0.lt
  go_wp2_with fail
  (refine (may_ok R0 ka kc la lc _ P0 _ _ (by decide +kernel) (hin.ext (by with_reducible repeat (first | exact Ext.refl _ | assumption | apply Ext.drew | apply Ext.drewN | apply Ext.alloc | (refine Ext.setCell ?_ ?_ _; rotate_left; (focus (first | (simp; done) | (simp; omega) | omega))) | refine Ext.trans ?_ (by assumption)))) R0_fine (by decide +kernel) P0_names (hm.ext (by with_reducible repeat (first | exact Ext.refl _ | assumption | apply Ext.drew | apply Ext.drewN | apply Ext.alloc | (refine Ext.setCell ?_ ?_ _; rotate_left; (focus (first | (simp; done) | (simp; omega) | omega))) | refine Ext.trans ?_ (by assumption))))).mono ?_); rintro e w2 ⟨a, n, c, ks, rfl, hn, hks, hok, hst, h2⟩
  obtain rfl := ks_one hks
  obtain rfl : n = 1 := by simpa using hn.symm
  have hB0 := Box.ext h2 hB0
  have hB1 := Box.ext h2 hB1
  have hx2 : Ext w w2 := (by with_reducible repeat (first | exact Ext.refl _ | assumption | apply Ext.drew | apply Ext.drewN | apply Ext.alloc | (refine Ext.setCell ?_ ?_ _; rotate_left; (focus (first | (simp; done) | (simp; omega) | omega))) | refine Ext.trans ?_ (by assumption)))
  clear h2 hc0 hf0 hl0 hxa
  obtain ⟨b, o, rfl, hS, hcell⟩ := hst.resolve_left (by simp)
  have hk := hcell 0 (by simp)
  simp only [Nat.add_zero, List.getElem_cons_zero] at hk
  clear hcell
  go_wp2_with fail
  go_loopg [9, 10, 11, 24] 1 (fun g _ _ _ i wr => (i = .int .i64 0 ∧ g = 1 ∧ Box wr w.heap.size #[.int .i64 5, .int .i64 0, .string ⟨#[]⟩, .slice ka 1 kc, .slice la 1 lc] 33 ∧ Box wr (w.heap.size + 1) #[.int .i64 0, .int .i64 0, .string ⟨#[]⟩, .slice none 0 0, .slice none 0 0] 33 ∧ Ext w wr ∧ wr.cell? ⟨b, o, none⟩ = some (.string K0)) ∨
    (i = .int .i64 1 ∧ g = 0 ∧ (∃ a3 c3 a4 c4, Box wr w.heap.size #[.int .i64 2, .int .i64 3, .string ⟨#[]⟩, .slice a3 0 c3, .slice a4 0 c4] 33) ∧ Box wr (w.heap.size + 1) #[.int .i64 0, .int .i64 0, .string ⟨#[]⟩, .slice none 0 0, .slice none 0 0] 33 ∧ Ext w wr))
  case atStart => exact .inl ⟨rfl, rfl, hB0, hB1, hx2, hk⟩
  case round =>
    clear hB0 hB1 hx2 hk
    rcases hrel with ⟨rfl, rfl, hB0, hB1, hx, hk⟩ | ⟨rfl, rfl, ⟨a3, c3, a4, c4, hB0⟩, hB1, hx⟩
    · have hc0 := hB0.cells; have hf0 := hB0.free; have hl0 := hB0.lt
      go_wp2_with fail
      (refine (child_one ka kc la lc _ _ (hin.ext (by with_reducible repeat (first | exact Ext.refl _ | assumption | apply Ext.drew | apply Ext.drewN | apply Ext.alloc | (refine Ext.setCell ?_ ?_ _; rotate_left; (focus (first | (simp; done) | (simp; omega) | omega))) | refine Ext.trans ?_ (by assumption))))).mono ?_); rintro e w3 ⟨rfl, h3⟩
      have hB0 := Box.ext h3 hB0
      have hB1 := Box.ext h3 hB1
      have hx3 : Ext w w3 := (by with_reducible repeat (first | exact Ext.refl _ | assumption | apply Ext.drew | apply Ext.drewN | apply Ext.alloc | (refine Ext.setCell ?_ ?_ _; rotate_left; (focus (first | (simp; done) | (simp; omega) | omega))) | refine Ext.trans ?_ (by assumption)))
      obtain ⟨b', o', rfl, hS', ka', kc', la', lc', ⟨d0, d1, d2, d3, d4⟩, hin'⟩ := hin.item (i := 0) (by simp)
      simp only [Nat.zero_mul, Nat.add_zero] at d0 d1 d2 d3 d4
      have hne : ¬ b' = w.heap.size := Nat.ne_of_lt hS'
      have hne2 : ¬ w.heap.size = b' := fun e => hne e.symm
      have d0 := hx3.cell d0; have d1 := hx3.cell d1; have d2 := hx3.cell d2; have d3 := hx3.cell d3; have d4 := hx3.cell d4
      clear h3 hc0 hf0 hl0 hx
      have hc0 := hB0.cells; have hf0 := hB0.free; have hl0 := hB0.lt
      go_wp2_with fail
      go_roundg 0
      case measure => omega
      case rel => exact .inr ⟨by go_num, rfl, ⟨ka', kc', la', lc', (by (with_reducible apply Box.to); (focus (with_reducible repeat (first | assumption | (apply Box.new; (focus (first | rfl | (first | (simp; done) | (simp; omega) | omega)))) | apply Box.set | (apply Box.other; rotate_left; (focus (first | (simp; done) | (simp; omega) | omega))) | apply Box.alloc | apply Box.drew | (apply Box.ext; (focus assumption))))); (first | rfl | (simp; done) | (go_light; simp [*]; done)))⟩, (by (with_reducible apply Box.to); (focus (with_reducible repeat (first | assumption | (apply Box.new; (focus (first | rfl | (first | (simp; done) | (simp; omega) | omega)))) | apply Box.set | (apply Box.other; rotate_left; (focus (first | (simp; done) | (simp; omega) | omega))) | apply Box.alloc | apply Box.drew | (apply Box.ext; (focus assumption))))); (first | rfl | (simp; done) | (go_light; simp [*]; done))), (by with_reducible repeat (first | exact Ext.refl _ | assumption | apply Ext.drew | apply Ext.drewN | apply Ext.alloc | (refine Ext.setCell ?_ ?_ _; rotate_left; (focus (first | (simp; done) | (simp; omega) | omega))) | refine Ext.trans ?_ (by assumption)))⟩
    · have hc0 := hB0.cells; have hf0 := hB0.free; have hl0 := hB0.lt
      have hc1 := hB1.cells; have hf1 := hB1.free; have hl1 := hB1.lt
      go_wp2_with fail
      (with_reducible apply bp_ret); (focus (go_light; simp [results, Tryd.results19, go_sem, *]; rfl))
      exact ⟨a3, c3, a4, c4, rfl, (by with_reducible repeat (first | exact Ext.refl _ | assumption | apply Ext.drew | apply Ext.drewN | apply Ext.alloc | (refine Ext.setCell ?_ ?_ _; rotate_left; (focus (first | (simp; done) | (simp; omega) | omega))) | refine Ext.trans ?_ (by assumption)))⟩

set_option maxHeartbeats 1000000 in
theorem points_keep (w : World) (hm : MaxAt w) : Calls Tryd.prog 17 #[] w fun e w' => e = .returned (.bool true) ∧ Ext w w' := by
  go_enter Tryd.func17, Tryd.ntmps17
  go_wp2_with fail
  (refine (add_ok _ (hm.ext (by with_reducible repeat (first | exact Ext.refl _ | assumption | apply Ext.drew | apply Ext.drewN | apply Ext.alloc | (refine Ext.setCell ?_ ?_ _; rotate_left; (focus (first | (simp; done) | (simp; omega) | omega))) | refine Ext.trans ?_ (by assumption))))).mono ?_); rintro e w1 ⟨ka1, kc1, la1, lc1, rfl, hin1, h1⟩
  have hx1 : Ext w w1 := (by with_reducible repeat (first | exact Ext.refl _ | assumption | apply Ext.drew | apply Ext.drewN | apply Ext.alloc | (refine Ext.setCell ?_ ?_ _; rotate_left; (focus (first | (simp; done) | (simp; omega) | omega))) | refine Ext.trans ?_ (by assumption)))
  go_wp2_with fail
  (refine (get_ok ka1 kc1 la1 lc1 _ _ (hin1.ext (by with_reducible repeat (first | exact Ext.refl _ | assumption | apply Ext.drew | apply Ext.drewN | apply Ext.alloc | (refine Ext.setCell ?_ ?_ _; rotate_left; (focus (first | (simp; done) | (simp; omega) | omega))) | refine Ext.trans ?_ (by assumption)))) (hm.ext (by with_reducible repeat (first | exact Ext.refl _ | assumption | apply Ext.drew | apply Ext.drewN | apply Ext.alloc | (refine Ext.setCell ?_ ?_ _; rotate_left; (focus (first | (simp; done) | (simp; omega) | omega))) | refine Ext.trans ?_ (by assumption))))).mono ?_); rintro e w2 ⟨a3, c3, a4, c4, rfl, h2⟩
  go_wp2_with fail
  go_ret
  exact ⟨rfl, (by with_reducible repeat (first | exact Ext.refl _ | assumption | apply Ext.drew | apply Ext.drewN | apply Ext.alloc | (refine Ext.setCell ?_ ?_ _; rotate_left; (focus (first | (simp; done) | (simp; omega) | omega))) | refine Ext.trans ?_ (by assumption)))⟩
end Go.Proofs.YtknnflobpjppfaaDoor
