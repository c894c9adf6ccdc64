/- The walk of the laws' own same: a value is alike itself, wherever its two readings lie. -/
import Derived.Test.YtknnflobpjppfaaDoorVal
import Derived.Deep.RegionHeld3
import Derived.Deep.DrawnRows
set_option linter.all false
namespace Go.Proofs.YtknnflobpjppfaaDoor
open Go.RowKit
attribute [local go_sem ↓] Go.wp_at_zero Go.wp_at_succ

set_option maxRecDepth 100000 in
set_option maxHeartbeats 8000000 in
theorem same_refl (m : Nat) : ∀ (x : V) (ka : Option Addr) (kc : Nat) (la : Option Addr) (lc : Nat) (S : Nat → Prop) (kb : Option Addr) (kd : Nat) (lb : Option Addr) (ld : Nat) (T : Nat → Prop) (w : World), x.size ≤ m → x.size ≤ 1073741824 → x.In w S ka kc la lc → x.In w T kb kd lb ld →
    Calls Tryd.prog 20 #[x.val ka kc la lc, x.val kb kd lb ld] w fun e w' => e = .returned (.bool true) ∧ Ext w w' := by
  induction m with
  | zero => intro x _ _ _ _ _ _ _ _ _ _ _ h; have := x.size_pos; omega
  | succ m ih =>
    intro x ka kc la lc S kb kd lb ld T w hm hsz hin hjn
    have hl := x.len_l
    have hlk := x.len_keys
    have Ih := Lib.hid ih
    clear ih
    go_enter Tryd.func20, Tryd.ntmps20
    go_wp2_with fail
    go_loopg [5, 47] x.keys.length (fun g _ i wr => ∃ k : Nat, k ≤ x.keys.length ∧ i = .int .i64 k ∧ g = x.keys.length - k ∧ Box wr w.heap.size #[.int .i64 x.k, .int .i64 x.n, .string x.s, .slice ka x.keys.length kc, .slice la x.l.length lc] 33 ∧ Box wr (w.heap.size + 1) #[.int .i64 x.k, .int .i64 x.n, .string x.s, .slice kb x.keys.length kd, .slice lb x.l.length ld] 33 ∧ Ext w wr)
    case atStart => exact ⟨0, by omega, rfl, rfl, (by (with_reducible apply Box.to); (focus (with_reducible repeat (first | assumption | (apply Box.new; (focus (first | rfl | (first | (simp; done) | (simp; omega) | omega)))) | apply Box.set | (apply Box.other; rotate_left; (focus (first | (simp; done) | (simp; omega) | omega))) | apply Box.alloc | apply Box.drew | (apply Box.ext; (focus assumption))))); (first | rfl | (simp; done) | (go_light; simp [*]; done))), (by (with_reducible apply Box.to); (focus (with_reducible repeat (first | assumption | (apply Box.new; (focus (first | rfl | (first | (simp; done) | (simp; omega) | omega)))) | apply Box.set | (apply Box.other; rotate_left; (focus (first | (simp; done) | (simp; omega) | omega))) | apply Box.alloc | apply Box.drew | (apply Box.ext; (focus assumption))))); (first | rfl | (simp; done) | (go_light; simp [*]; done))), (by with_reducible repeat (first | exact Ext.refl _ | assumption | apply Ext.drew | apply Ext.drewN | apply Ext.alloc | (refine Ext.setCell ?_ ?_ _; rotate_left; (focus (first | (simp; done) | (simp; omega) | omega))) | refine Ext.trans ?_ (by assumption)))⟩
    case round =>
      obtain ⟨k, hk, rfl, rfl, hB0, hB1, hx⟩ := hrel
      have hc0 := hB0.cells; have hf0 := hB0.free; have hl0 := hB0.lt
      have hc1 := hB1.cells; have hf1 := hB1.free; have hl1 := hB1.lt
      by_cases hlt : k < x.keys.length
      · obtain ⟨b1, o1, rfl, hS1, d0⟩ := hin.key hlt
        obtain ⟨b2, o2, rfl, hS2, d1⟩ := hjn.key hlt
        have d0 := hx.cell d0
        have d1 := hx.cell d1
        have hki0 : (0 : Int) ≤ (k : Int) := by omega
        have hki1 : (k : Int) < (x.keys.length : Int) := by omega
        go_wp2_with fail
        go_quiet (fail)
        go_wp2_with fail
        go_roundg (x.keys.length - (k + 1))
        case measure => omega
        case rel => exact ⟨k + 1, by omega, by go_num, rfl, hB0, hB1, (by with_reducible repeat (first | exact Ext.refl _ | assumption | apply Ext.drew | apply Ext.drewN | apply Ext.alloc | (refine Ext.setCell ?_ ?_ _; rotate_left; (focus (first | (simp; done) | (simp; omega) | omega))) | refine Ext.trans ?_ (by assumption)))⟩
      · go_wp2_with fail
        go_loopg [6, 65] x.l.length (fun g _ i wq => ∃ k : Nat, k ≤ x.l.length ∧ i = .int .i64 k ∧ g = x.l.length - k ∧ Box wq w.heap.size #[.int .i64 x.k, .int .i64 x.n, .string x.s, .slice ka x.keys.length kc, .slice la x.l.length lc] 33 ∧ Box wq (w.heap.size + 1) #[.int .i64 x.k, .int .i64 x.n, .string x.s, .slice kb x.keys.length kd, .slice lb x.l.length ld] 33 ∧ Ext w wq)
        case atStart => exact ⟨0, by omega, rfl, rfl, hB0, hB1, (by with_reducible repeat (first | exact Ext.refl _ | assumption | apply Ext.drew | apply Ext.drewN | apply Ext.alloc | (refine Ext.setCell ?_ ?_ _; rotate_left; (focus (first | (simp; done) | (simp; omega) | omega))) | refine Ext.trans ?_ (by assumption)))⟩
        case round =>
          clear hB0 hB1 hc0 hf0 hl0 hc1 hf1 hl1 hx
          obtain ⟨k, hk, rfl, rfl, hB0, hB1, hx⟩ := hrel
          by_cases hlt : k < x.l.length
          · obtain ⟨b1, o1, rfl, hS1, ka', kc', la', lc', ⟨d0, d1, d2, d3, d4⟩, hin'⟩ := hin.item hlt
            obtain ⟨b2, o2, rfl, hS2, kb', kd', lb', ld', ⟨f0, f1, f2, f3, f4⟩, hjn'⟩ := hjn.item hlt
            have hsi := V.size_item hlt
            have hki0 : (0 : Int) ≤ (k : Int) := by omega
            have hki1 : (k : Int) < (x.l.length : Int) := by omega
            have Sof : ∀ w', Ext wr w' → (w'.cell? ⟨w.heap.size, 4, none⟩ = some (.slice (some ⟨b1, o1, none⟩) x.l.length lc) ∧ w'.cell? ⟨w.heap.size + 1, 4, none⟩ = some (.slice (some ⟨b2, o2, none⟩) x.l.length ld) ∧
                w'.cell? ⟨b1, o1 + k * 5, none⟩ = some (.int .i64 x.l[k].k) ∧ w'.cell? ⟨b1, o1 + k * 5 + 1, none⟩ = some (.int .i64 x.l[k].n) ∧ w'.cell? ⟨b1, o1 + k * 5 + 2, none⟩ = some (.string x.l[k].s) ∧ w'.cell? ⟨b1, o1 + k * 5 + 3, none⟩ = some (.slice ka' x.l[k].keys.length kc') ∧ w'.cell? ⟨b1, o1 + k * 5 + 4, none⟩ = some (.slice la' x.l[k].l.length lc') ∧
                w'.cell? ⟨b2, o2 + k * 5, none⟩ = some (.int .i64 x.l[k].k) ∧ w'.cell? ⟨b2, o2 + k * 5 + 1, none⟩ = some (.int .i64 x.l[k].n) ∧ w'.cell? ⟨b2, o2 + k * 5 + 2, none⟩ = some (.string x.l[k].s) ∧ w'.cell? ⟨b2, o2 + k * 5 + 3, none⟩ = some (.slice kb' x.l[k].keys.length kd') ∧ w'.cell? ⟨b2, o2 + k * 5 + 4, none⟩ = some (.slice lb' x.l[k].l.length ld')) :=
              fun w' e => ⟨e.cell (hB0.cells 4), e.cell (hB1.cells 4), e.cell (hx.cell d0), e.cell (hx.cell d1), e.cell (hx.cell d2), e.cell (hx.cell d3), e.cell (hx.cell d4), e.cell (hx.cell f0), e.cell (hx.cell f1), e.cell (hx.cell f2), e.cell (hx.cell f3), e.cell (hx.cell f4)⟩
            have hin2 := hin'.ext hx
            have hjn2 := hjn'.ext hx
            go_wp2_with fail
            go_region_held3 (fun w' => w'.cell? ⟨w.heap.size, 4, none⟩ = some (.slice (some ⟨b1, o1, none⟩) x.l.length lc) ∧ w'.cell? ⟨w.heap.size + 1, 4, none⟩ = some (.slice (some ⟨b2, o2, none⟩) x.l.length ld) ∧
                w'.cell? ⟨b1, o1 + k * 5, none⟩ = some (.int .i64 x.l[k].k) ∧ w'.cell? ⟨b1, o1 + k * 5 + 1, none⟩ = some (.int .i64 x.l[k].n) ∧ w'.cell? ⟨b1, o1 + k * 5 + 2, none⟩ = some (.string x.l[k].s) ∧ w'.cell? ⟨b1, o1 + k * 5 + 3, none⟩ = some (.slice ka' x.l[k].keys.length kc') ∧ w'.cell? ⟨b1, o1 + k * 5 + 4, none⟩ = some (.slice la' x.l[k].l.length lc') ∧
                w'.cell? ⟨b2, o2 + k * 5, none⟩ = some (.int .i64 x.l[k].k) ∧ w'.cell? ⟨b2, o2 + k * 5 + 1, none⟩ = some (.int .i64 x.l[k].n) ∧ w'.cell? ⟨b2, o2 + k * 5 + 2, none⟩ = some (.string x.l[k].s) ∧ w'.cell? ⟨b2, o2 + k * 5 + 3, none⟩ = some (.slice kb' x.l[k].keys.length kd') ∧ w'.cell? ⟨b2, o2 + k * 5 + 4, none⟩ = some (.slice lb' x.l[k].l.length ld'))
              (first | (exact Sof _ ((Ext.refl _).drew)) | (exact Sof _ (Ext.trans ((Ext.refl _).drew) h1)))
              (first | (go_at_call 20; refine (Ih.out x.l[k] ka' kc' la' lc' S kb' kd' lb' ld' T _ (by omega) (by omega) (hin2.ext (by with_reducible repeat (first | exact Ext.refl _ | assumption | apply Ext.drew | apply Ext.drewN | apply Ext.alloc | (refine Ext.setCell ?_ ?_ _; rotate_left; (focus (first | (simp; done) | (simp; omega) | omega))) | refine Ext.trans ?_ (by assumption)))) (hjn2.ext (by with_reducible repeat (first | exact Ext.refl _ | assumption | apply Ext.drew | apply Ext.drewN | apply Ext.alloc | (refine Ext.setCell ?_ ?_ _; rotate_left; (focus (first | (simp; done) | (simp; omega) | omega))) | refine Ext.trans ?_ (by assumption))))).mono ?_; rintro e w1 ⟨rfl, h1⟩))
            all_goals
              have hB0 := Box.ext h1 (Box.drew hB0)
              have hB1 := Box.ext h1 (Box.drew hB1)
              go_wp2_with fail
              go_roundg (x.l.length - (k + 1))
              case measure => omega
              case rel => exact ⟨k + 1, by omega, by go_num, rfl, hB0, hB1, (by with_reducible repeat (first | exact Ext.refl _ | assumption | apply Ext.drew | apply Ext.drewN | apply Ext.alloc | (refine Ext.setCell ?_ ?_ _; rotate_left; (focus (first | (simp; done) | (simp; omega) | omega))) | refine Ext.trans ?_ (by assumption)))⟩
          · go_wp2_with fail
            go_ret
            exact ⟨rfl, (by with_reducible repeat (first | exact Ext.refl _ | assumption | apply Ext.drew | apply Ext.drewN | apply Ext.alloc | (refine Ext.setCell ?_ ?_ _; rotate_left; (focus (first | (simp; done) | (simp; omega) | omega))) | refine Ext.trans ?_ (by assumption)))⟩
end Go.Proofs.YtknnflobpjppfaaDoor
