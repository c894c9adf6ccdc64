/- points: the walks of point.at, change, Add, child, Get at one input. -/
import Derived.Test.YtknnflobpjppfaaDoorPts1
import Derived.Deep.RegionHeld3
set_option linter.all false
namespace Go.Proofs.YtknnflobpjppfaaDoor
open Go.RowKit
attribute [local go_sem ↓] Go.wp_at_zero Go.wp_at_succ

/-- The value's cells that Add's closure reads. -/
def XAt (bx : Nat) (w : World) : Prop := w.cell? ⟨bx, 0, none⟩ = some (.int .i64 2) ∧ w.cell? ⟨bx, 1, none⟩ = some (.int .i64 3) ∧ w.cell? ⟨bx, 2, none⟩ = some (.string ⟨#[]⟩) ∧ w.cell? ⟨bx, 3, none⟩ = some (.slice none 0 0) ∧ w.cell? ⟨bx, 4, none⟩ = some (.slice none 0 0)
theorem XAt.ext {bx : Nat} {w w' : World} (h : XAt bx w) (e : Ext w w') : XAt bx w' := ⟨e.cell h.1, e.cell h.2.1, e.cell h.2.2.1, e.cell h.2.2.2.1, e.cell h.2.2.2.2⟩
theorem add1_at (bx : Nat) (w : World) (h : XAt bx w) : Calls Tryd.prog 38 #[v0c, .string K0, .pointer (some ⟨bx, 0, none⟩)] w (RetV2 Nope R0 (.int .i64 0) w) := add1_nil bx w h.1 h.2.1 h.2.2.1 h.2.2.2.1 h.2.2.2.2

set_option maxRecDepth 100000 in
set_option maxHeartbeats 4000000 in
theorem at_nil (bx b o c : Nat) (w : World) (hX : XAt bx w) (hk : w.cell? ⟨b, o, none⟩ = some (.string K0)) :
    Calls Tryd.prog 55 #[v0c, .slice (some ⟨b, o, none⟩) 1 c, .func (Fn.func 38) #[] #[.pointer (some ⟨bx, 0, none⟩)]] w (RetV2 Nope R0 (.int .i64 0) w) := by
  have hbl := cell_lt hk
  go_enter Tryd.func55, Tryd.ntmps55
  go_upto_region 2 with fail
  refine gen_world (R := fun wx => Box wx w.heap.size #[.int .i64 5, .int .i64 0, .string ⟨#[]⟩, .slice none 0 0, .slice none 0 0] 33 ∧ Box wx (w.heap.size + 1) #[.int .i64 0, .int .i64 0, .string ⟨#[]⟩, .slice none 0 0, .slice none 0 0] 33 ∧ Ext w wx) ⟨(by (with_reducible apply Box.to); (focus (with_reducible repeat (first | assumption | (apply Box.new; (focus (first | rfl | (first | (simp; done) | (simp; omega) | omega)))) | apply Box.set | (apply Box.other; rotate_left; (focus (first | (simp; done) | (simp; omega) | omega))) | apply Box.alloc | apply Box.drew | (apply Box.ext; (focus assumption))))); (first | rfl | (simp; done) | (go_light; simp [*]; done))), (by (with_reducible apply Box.to); (focus (with_reducible repeat (first | assumption | (apply Box.new; (focus (first | rfl | (first | (simp; done) | (simp; omega) | omega)))) | apply Box.set | (apply Box.other; rotate_left; (focus (first | (simp; done) | (simp; omega) | omega))) | apply Box.alloc | apply Box.drew | (apply Box.ext; (focus assumption))))); (first | rfl | (simp; done) | (go_light; simp [*]; done))), (by with_reducible repeat (first | exact Ext.refl _ | assumption | apply Ext.drew | apply Ext.drewN | apply Ext.alloc | (refine Ext.setCell ?_ ?_ _; rotate_left; (focus (first | (simp; done) | (simp; omega) | omega))) | refine Ext.trans ?_ (by assumption)))⟩ ?_
  rintro wa ⟨hB0, hB1, hxa⟩
  have hXa := hX.ext hxa
  have hka := hxa.cell hk
  clear hX hk
  have hc0 := hB0.cells; have hf0 := hB0.free; have hl0 := hB0.lt
  have Sof : ∀ w', Ext wa w' → (w'.cell? ⟨w.heap.size, 0, none⟩ = some (.int .i64 5) ∧ w'.cell? ⟨w.heap.size, 1, none⟩ = some (.int .i64 0) ∧ w'.cell? ⟨w.heap.size, 2, none⟩ = some (.string ⟨#[]⟩) ∧ w'.cell? ⟨w.heap.size, 3, none⟩ = some (.slice none 0 0) ∧ w'.cell? ⟨w.heap.size, 4, none⟩ = some (.slice none 0 0) ∧ w'.cell? ⟨b, o, none⟩ = some (.string K0)) :=
    fun w' e => ⟨e.cell (hc0 0), e.cell (hc0 1), e.cell (hc0 2), e.cell (hc0 3), e.cell (hc0 4), e.cell hka⟩
  have hS1 := Sof wa.drew ((Ext.refl wa).drew)
  have hS0 := Ext.refl wa
  refine wp_region_till (S := fun w' => w'.cell? ⟨w.heap.size, 0, none⟩ = some (.int .i64 5) ∧ w'.cell? ⟨w.heap.size, 1, none⟩ = some (.int .i64 0) ∧ w'.cell? ⟨w.heap.size, 2, none⟩ = some (.string ⟨#[]⟩) ∧ w'.cell? ⟨w.heap.size, 3, none⟩ = some (.slice none 0 0) ∧ w'.cell? ⟨w.heap.size, 4, none⟩ = some (.slice none 0 0) ∧ w'.cell? ⟨b, o, none⟩ = some (.string K0)) (c := 8) (by kernel_rfl) ?_
  (refine wpAnyT_take (i := 0) (v := ?_) [8] (Array.getElem?_eq_getElem (by decide)) (by kernel_rfl) (by kernel_rfl) (by kernel_rfl) (by kernel_rfl) rfl rfl (by kernel_rfl) (fun _ _ _ h => h) (Or.inl ⟨by kernel_rfl, ?_⟩) (by assumption) ?_); rotate_left; (focus (intro w hSw; (try dsimp only at hSw); (try simp only [Act.put, List.setIfInBounds_toArray, List.set_cons_zero, List.set_cons_succ, List.getElem_toArray, List.getElem_cons_zero, List.getElem_cons_succ]); go_simp; (try with_reducible rfl))); (try simp only [Act.put, List.setIfInBounds_toArray, List.set_cons_zero, List.set_cons_succ, List.getElem_toArray, List.getElem_cons_zero, List.getElem_cons_succ])
  (refine wpAnyT_take (i := 1) (v := ?_) [8] (Array.getElem?_eq_getElem (by decide)) (by kernel_rfl) (by kernel_rfl) (by kernel_rfl) (by kernel_rfl) rfl rfl (by kernel_rfl) (fun _ _ _ h => h) (Or.inl ⟨by kernel_rfl, ?_⟩) (by assumption) ?_); rotate_left; (focus (intro w hSw; (try dsimp only at hSw); (try simp only [Act.put, List.setIfInBounds_toArray, List.set_cons_zero, List.set_cons_succ, List.getElem_toArray, List.getElem_cons_zero, List.getElem_cons_succ]); go_simp; (try with_reducible rfl))); (try simp only [Act.put, List.setIfInBounds_toArray, List.set_cons_zero, List.set_cons_succ, List.getElem_toArray, List.getElem_cons_zero, List.getElem_cons_succ])
  (refine wpAnyT_take (i := 2) (v := ?_) [8] (Array.getElem?_eq_getElem (by decide)) (by kernel_rfl) (by kernel_rfl) (by kernel_rfl) (by kernel_rfl) rfl rfl (by kernel_rfl) (fun _ _ _ h => h) (Or.inl ⟨by kernel_rfl, ?_⟩) (by assumption) ?_); rotate_left; (focus (intro w hSw; (try dsimp only at hSw); (try simp only [Act.put, List.setIfInBounds_toArray, List.set_cons_zero, List.set_cons_succ, List.getElem_toArray, List.getElem_cons_zero, List.getElem_cons_succ]); go_simp; (try with_reducible rfl))); (try simp only [Act.put, List.setIfInBounds_toArray, List.set_cons_zero, List.set_cons_succ, List.getElem_toArray, List.getElem_cons_zero, List.getElem_cons_succ])
  (refine wpAnyT_take (i := 3) (v := ?_) [8] (Array.getElem?_eq_getElem (by decide)) (by kernel_rfl) (by kernel_rfl) (by kernel_rfl) (by kernel_rfl) rfl rfl (by kernel_rfl) (fun _ _ _ h => h) (Or.inl ⟨by kernel_rfl, ?_⟩) (by assumption) ?_); rotate_left; (focus (intro w hSw; (try dsimp only at hSw); (try simp only [Act.put, List.setIfInBounds_toArray, List.set_cons_zero, List.set_cons_succ, List.getElem_toArray, List.getElem_cons_zero, List.getElem_cons_succ]); go_simp; (try with_reducible rfl))); (try simp only [Act.put, List.setIfInBounds_toArray, List.set_cons_zero, List.set_cons_succ, List.getElem_toArray, List.getElem_cons_zero, List.getElem_cons_succ])
  (refine wpAnyT_take (i := 4) (v := ?_) [8] (Array.getElem?_eq_getElem (by decide)) (by kernel_rfl) (by kernel_rfl) (by kernel_rfl) (by kernel_rfl) rfl rfl (by kernel_rfl) (fun _ _ _ h => h) (Or.inl ⟨by kernel_rfl, ?_⟩) (by assumption) ?_); rotate_left; (focus (intro w hSw; (try dsimp only at hSw); (try simp only [Act.put, List.setIfInBounds_toArray, List.set_cons_zero, List.set_cons_succ, List.getElem_toArray, List.getElem_cons_zero, List.getElem_cons_succ]); go_simp; (try with_reducible rfl))); (try simp only [Act.put, List.setIfInBounds_toArray, List.set_cons_zero, List.set_cons_succ, List.getElem_toArray, List.getElem_cons_zero, List.getElem_cons_succ])
  (refine wpAnyT_ready (rs := [5]) (by kernel_rfl) (by simp) ?_); (refine AllReadyT.cons (Array.getElem?_eq_getElem (by decide)) (fun K hK => ?_) AllReadyT.nil); (try simp only [Act.put, List.setIfInBounds_toArray, List.set_cons_zero, List.set_cons_succ, List.getElem_toArray, List.getElem_cons_zero, List.getElem_cons_succ])
  (try go_simp)
  (refine (add1_at bx _ (hXa.ext (by with_reducible repeat (first | exact Ext.refl _ | assumption | apply Ext.drew | apply Ext.drewN | apply Ext.alloc | (refine Ext.setCell ?_ ?_ _; rotate_left; (focus (first | (simp; done) | (simp; omega) | omega))) | refine Ext.trans ?_ (by assumption))))).mono ?_); rintro e w1 ⟨ka1, kc1, la1, lc1, rfl, hin1, h1⟩
  (try go_simp)
  refine hK.out _ _ (fun _ => Sof _ (by with_reducible repeat (first | exact Ext.refl _ | assumption | apply Ext.drew | apply Ext.drewN | apply Ext.alloc | (refine Ext.setCell ?_ ?_ _; rotate_left; (focus (first | (simp; done) | (simp; omega) | omega))) | refine Ext.trans ?_ (by assumption)))) ?_; clear hK K; (try simp only [Act.put, List.setIfInBounds_toArray, List.set_cons_zero, List.set_cons_succ, List.getElem_toArray, List.getElem_cons_zero, List.getElem_cons_succ])
  (refine wpAnyT_take (i := 6) (v := ?_) [8] (Array.getElem?_eq_getElem (by decide)) (by kernel_rfl) (by kernel_rfl) (by kernel_rfl) (by kernel_rfl) rfl rfl (by kernel_rfl) (fun _ _ _ h => h) (Or.inl ⟨by kernel_rfl, ?_⟩) (Sof _ (by with_reducible repeat (first | exact Ext.refl _ | assumption | apply Ext.drew | apply Ext.drewN | apply Ext.alloc | (refine Ext.setCell ?_ ?_ _; rotate_left; (focus (first | (simp; done) | (simp; omega) | omega))) | refine Ext.trans ?_ (by assumption)))) ?_); rotate_left; (focus (intro w hSw; (try dsimp only at hSw); (try simp only [Act.put, List.setIfInBounds_toArray, List.set_cons_zero, List.set_cons_succ, List.getElem_toArray, List.getElem_cons_zero, List.getElem_cons_succ]); go_simp; (try with_reducible rfl))); (try simp only [Act.put, List.setIfInBounds_toArray, List.set_cons_zero, List.set_cons_succ, List.getElem_toArray, List.getElem_cons_zero, List.getElem_cons_succ])
  (refine wpAnyT_take (i := 7) (v := ?_) [8] (Array.getElem?_eq_getElem (by decide)) (by kernel_rfl) (by kernel_rfl) (by kernel_rfl) (by kernel_rfl) rfl rfl (by kernel_rfl) (fun _ _ _ h => h) (Or.inl ⟨by kernel_rfl, ?_⟩) (Sof _ (by with_reducible repeat (first | exact Ext.refl _ | assumption | apply Ext.drew | apply Ext.drewN | apply Ext.alloc | (refine Ext.setCell ?_ ?_ _; rotate_left; (focus (first | (simp; done) | (simp; omega) | omega))) | refine Ext.trans ?_ (by assumption)))) ?_); rotate_left; (focus (intro w hSw; (try dsimp only at hSw); (try simp only [Act.put, List.setIfInBounds_toArray, List.set_cons_zero, List.set_cons_succ, List.getElem_toArray, List.getElem_cons_zero, List.getElem_cons_succ]); go_simp; (try with_reducible rfl))); (try simp only [Act.put, List.setIfInBounds_toArray, List.set_cons_zero, List.set_cons_succ, List.getElem_toArray, List.getElem_cons_zero, List.getElem_cons_succ])
  have hB1w : Box w1 (w.heap.size + 1) #[.int .i64 0, .int .i64 0, .string ⟨#[]⟩, .slice none 0 0, .slice none 0 0] 33 := Box.ext (w := wa) (by with_reducible repeat (first | exact Ext.refl _ | assumption | apply Ext.drew | apply Ext.drewN | apply Ext.alloc | (refine Ext.setCell ?_ ?_ _; rotate_left; (focus (first | (simp; done) | (simp; omega) | omega))) | refine Ext.trans ?_ (by assumption))) hB1
  have hx1 : Ext w w1 := (by with_reducible repeat (first | exact Ext.refl _ | assumption | apply Ext.drew | apply Ext.drewN | apply Ext.alloc | (refine Ext.setCell ?_ ?_ _; rotate_left; (focus (first | (simp; done) | (simp; omega) | omega))) | refine Ext.trans ?_ (by assumption)))
  have hl1 := hB1.lt
  have hin2 : R0.In w1 (fun b => w.heap.size + 2 ≤ b) ka1 kc1 la1 lc1 := hin1.mono (fun b h _ => by rcases h with h | h; exact h.elim; simp at h; omega)
  clear hc0 hf0 hin1 h1 hB1 hB0
  have hc1 := hB1w.cells; have hf1 := hB1w.free; have hl1 := hB1w.lt
  (refine wpAnyT_ready (rs := [8]) (by kernel_rfl) (by simp) ?_); (refine AllReadyT.cons (Array.getElem?_eq_getElem (by decide)) (fun K hK => ?_) AllReadyT.nil); (try simp only [Act.put, List.setIfInBounds_toArray, List.set_cons_zero, List.set_cons_succ, List.getElem_toArray, List.getElem_cons_zero, List.getElem_cons_succ])
  go_simp
  (refine hK.out _ _ (fun h => Bool.noConfusion (show true = false from h)) ?_); clear hK K; (try simp only [Act.put, List.setIfInBounds_toArray, List.set_cons_zero, List.set_cons_succ, List.getElem_toArray, List.getElem_cons_zero, List.getElem_cons_succ])
  (refine wpAnyT_ready (rs := [9]) (by kernel_rfl) (by simp) ?_); (refine AllReadyT.cons (Array.getElem?_eq_getElem (by decide)) (fun K hK => ?_) AllReadyT.nil); (try simp only [Act.put, List.setIfInBounds_toArray, List.set_cons_zero, List.set_cons_succ, List.getElem_toArray, List.getElem_cons_zero, List.getElem_cons_succ])
  go_simp
  (refine hK.out _ _ (fun h => Bool.noConfusion (show true = false from h)) ?_); clear hK K; (try simp only [Act.put, List.setIfInBounds_toArray, List.set_cons_zero, List.set_cons_succ, List.getElem_toArray, List.getElem_cons_zero, List.getElem_cons_succ])
  refine wpAnyT_done (by kernel_rfl) ?_ _
  go_wp2_with fail
  (with_reducible apply bp_ret); (focus (go_light; simp [results, Tryd.results55, go_sem, *]; rfl))
  exact ⟨ka1, kc1, la1, lc1, rfl, hin2.keep (Held.kept (a := w1) (T := fun b => w.heap.size + 2 ≤ b) (by with_reducible repeat (first | exact Held.refl _ _ | assumption | apply Held.drew | apply Held.drewN | apply Held.alloc | (refine Held.set ?_ ?_ _; rotate_left; (focus (first | (simp; done) | (simp; omega) | omega))) | (refine Held.ext ?_ (by assumption)) | (refine Held.grown ?_ (by assumption) (by assumption)) | (refine Held.trans ?_ (by assumption))))) (fun b h _ => .inr (by omega)), (by with_reducible repeat (first | exact Ext.refl _ | assumption | apply Ext.drew | apply Ext.drewN | apply Ext.alloc | (refine Ext.setCell ?_ ?_ _; rotate_left; (focus (first | (simp; done) | (simp; omega) | omega))) | refine Ext.trans ?_ (by assumption)))⟩

set_option maxHeartbeats 4000000 in
theorem change_ok (bx : Nat) (w : World) (hX : XAt bx w) (hm : MaxAt w) :
    Calls Tryd.prog 34 #[v0c, .string P0, .func (Fn.func 38) #[] #[.pointer (some ⟨bx, 0, none⟩)]] w (RetV2 Nope R0 (.int .i64 0) w) := by
  go_enter Tryd.func34, Tryd.ntmps34
  go_upto_region 1 with fail
  refine gen_world (R := fun wx => Box wx w.heap.size #[.int .i64 5, .int .i64 0, .string ⟨#[]⟩, .slice none 0 0, .slice none 0 0] 33 ∧ Box wx (w.heap.size + 1) #[.int .i64 0, .int .i64 0, .string ⟨#[]⟩, .slice none 0 0, .slice none 0 0] 33 ∧ Ext w wx) ⟨(by (with_reducible apply Box.to); (focus (with_reducible repeat (first | assumption | (apply Box.new; (focus (first | rfl | (first | (simp; done) | (simp; omega) | omega)))) | apply Box.set | (apply Box.other; rotate_left; (focus (first | (simp; done) | (simp; omega) | omega))) | apply Box.alloc | apply Box.drew | (apply Box.ext; (focus assumption))))); (first | rfl | (simp; done) | (go_light; simp [*]; done))), (by (with_reducible apply Box.to); (focus (with_reducible repeat (first | assumption | (apply Box.new; (focus (first | rfl | (first | (simp; done) | (simp; omega) | omega)))) | apply Box.set | (apply Box.other; rotate_left; (focus (first | (simp; done) | (simp; omega) | omega))) | apply Box.alloc | apply Box.drew | (apply Box.ext; (focus assumption))))); (first | rfl | (simp; done) | (go_light; simp [*]; done))), (by with_reducible repeat (first | exact Ext.refl _ | assumption | apply Ext.drew | apply Ext.drewN | apply Ext.alloc | (refine Ext.setCell ?_ ?_ _; rotate_left; (focus (first | (simp; done) | (simp; omega) | omega))) | refine Ext.trans ?_ (by assumption)))⟩ ?_
  rintro wa ⟨hB0, hB1, hxa⟩
  have hc0 := hB0.cells; have hf0 := hB0.free; have hl0 := hB0.lt
  go_wp2_with fail
  (refine (may_ok V0 none 0 none 0 Nope P0 _ _ (by decide +kernel) (nil_in V0 rfl rfl _ _) V0_fine (by decide +kernel) P0_names (hm.ext (by with_reducible repeat (first | exact Ext.refl _ | assumption | apply Ext.drew | apply Ext.drewN | apply Ext.alloc | (refine Ext.setCell ?_ ?_ _; rotate_left; (focus (first | (simp; done) | (simp; omega) | omega))) | refine Ext.trans ?_ (by assumption))))).mono ?_); rintro e w2 ⟨a, n, c, ks, rfl, hn, hks, hok, hst, h2⟩
  obtain rfl := ks_one hks
  obtain rfl : n = 1 := by simpa using hn.symm
  have hB0 := Box.ext h2 hB0
  have hB1 := Box.ext h2 hB1
  have hx2 : Ext w w2 := (by with_reducible repeat (first | exact Ext.refl _ | assumption | apply Ext.drew | apply Ext.drewN | apply Ext.alloc | (refine Ext.setCell ?_ ?_ _; rotate_left; (focus (first | (simp; done) | (simp; omega) | omega))) | refine Ext.trans ?_ (by assumption)))
  clear h2 hc0 hf0 hl0 hxa
  have hc0 := hB0.cells; have hf0 := hB0.free; have hl0 := hB0.lt
  obtain ⟨b, o, rfl, hS, hcell⟩ := hst.resolve_left (by simp)
  have hk := hcell 0 (by simp)
  simp only [Nat.add_zero, List.getElem_cons_zero] at hk
  clear hcell
  go_wp2_with fail
  (refine (at_nil bx b o c _ (hX.ext (by with_reducible repeat (first | exact Ext.refl _ | assumption | apply Ext.drew | apply Ext.drewN | apply Ext.alloc | (refine Ext.setCell ?_ ?_ _; rotate_left; (focus (first | (simp; done) | (simp; omega) | omega))) | refine Ext.trans ?_ (by assumption)))) (Ext.cell (a := w2) (by with_reducible repeat (first | exact Ext.refl _ | assumption | apply Ext.drew | apply Ext.drewN | apply Ext.alloc | (refine Ext.setCell ?_ ?_ _; rotate_left; (focus (first | (simp; done) | (simp; omega) | omega))) | refine Ext.trans ?_ (by assumption))) hk)).mono ?_); rintro e w3 ⟨ka1, kc1, la1, lc1, rfl, hin1, h3⟩
  have hB1 := Box.ext h3 hB1
  have hl2 : w.heap.size + 1 < w2.heap.size := Box.lt (n := w.heap.size + 1) (vs := #[.int .i64 0, .int .i64 0, .string ⟨#[]⟩, .slice none 0 0, .slice none 0 0]) (T := 33) (by assumption)
  have hx3 : Ext w w3 := (by with_reducible repeat (first | exact Ext.refl _ | assumption | apply Ext.drew | apply Ext.drewN | apply Ext.alloc | (refine Ext.setCell ?_ ?_ _; rotate_left; (focus (first | (simp; done) | (simp; omega) | omega))) | refine Ext.trans ?_ (by assumption)))
  have hin3 : R0.In w3 (fun b => w.heap.size + 2 ≤ b) ka1 kc1 la1 lc1 := hin1.mono (fun b h _ => by rcases h with h | h; exact h.elim; exact Nat.le_trans hl2 (Nat.le_trans (Ext.size (a := w2) (by with_reducible repeat (first | exact Ext.refl _ | assumption | apply Ext.drew | apply Ext.drewN | apply Ext.alloc | (refine Ext.setCell ?_ ?_ _; rotate_left; (focus (first | (simp; done) | (simp; omega) | omega))) | refine Ext.trans ?_ (by assumption)))) h))
  clear h3 hc0 hf0 hl0 hx2 hin1 hB0
  have hc1 := hB1.cells; have hf1 := hB1.free; have hl1 := hB1.lt
  go_upto_region 9 with fail
  refine gen_world (R := fun wx => Box wx (w.heap.size + 1) #[.int .i64 0, .int .i64 0, .string ⟨#[]⟩, .slice none 0 0, .slice none 0 0] 33 ∧ Box wx w3.heap.size #[.int .i64 5, .int .i64 0, .string ⟨#[]⟩, .slice ka1 1 kc1, .slice la1 1 lc1] 33 ∧ R0.In wx (fun b => w.heap.size + 2 ≤ b) ka1 kc1 la1 lc1 ∧ Ext w wx) ⟨(by (with_reducible apply Box.to); (focus (with_reducible repeat (first | assumption | (apply Box.new; (focus (first | rfl | (first | (simp; done) | (simp; omega) | omega)))) | apply Box.set | (apply Box.other; rotate_left; (focus (first | (simp; done) | (simp; omega) | omega))) | apply Box.alloc | apply Box.drew | (apply Box.ext; (focus assumption))))); (first | rfl | (simp; done) | (go_light; simp [*]; done))), (by (with_reducible apply Box.to); (focus (with_reducible repeat (first | assumption | (apply Box.new; (focus (first | rfl | (first | (simp; done) | (simp; omega) | omega)))) | apply Box.set | (apply Box.other; rotate_left; (focus (first | (simp; done) | (simp; omega) | omega))) | apply Box.alloc | apply Box.drew | (apply Box.ext; (focus assumption))))); (first | rfl | (simp; done) | (go_light; simp [*]; done))), hin3.ext (by with_reducible repeat (first | exact Ext.refl _ | assumption | apply Ext.drew | apply Ext.drewN | apply Ext.alloc | (refine Ext.setCell ?_ ?_ _; rotate_left; (focus (first | (simp; done) | (simp; omega) | omega))) | refine Ext.trans ?_ (by assumption))), (by with_reducible repeat (first | exact Ext.refl _ | assumption | apply Ext.drew | apply Ext.drewN | apply Ext.alloc | (refine Ext.setCell ?_ ?_ _; rotate_left; (focus (first | (simp; done) | (simp; omega) | omega))) | refine Ext.trans ?_ (by assumption)))⟩ ?_
  clear hB1 hc1 hf1 hx3 hin3
  rintro wb ⟨hB1, hB10, hin3, hxb⟩
  have hc10 := hB10.cells; have hf10 := hB10.free; have hl10 := hB10.lt
  go_wp2_with fail
  (refine (fine_any R0 ka1 kc1 la1 lc1 _ _ (by decide +kernel) (hin3.ext (by with_reducible repeat (first | exact Ext.refl _ | assumption | apply Ext.drew | apply Ext.drewN | apply Ext.alloc | (refine Ext.setCell ?_ ?_ _; rotate_left; (focus (first | (simp; done) | (simp; omega) | omega))) | refine Ext.trans ?_ (by assumption))))).mono ?_); rintro e w4 ⟨rfl, h4⟩
  rw [R0_fine]
  have hB1 := Box.ext h4 hB1
  have hB10 := Box.ext h4 hB10
  have hin4 := hin3.ext h4
  have hx4 : Ext w w4 := (by with_reducible repeat (first | exact Ext.refl _ | assumption | apply Ext.drew | apply Ext.drewN | apply Ext.alloc | (refine Ext.setCell ?_ ?_ _; rotate_left; (focus (first | (simp; done) | (simp; omega) | omega))) | refine Ext.trans ?_ (by assumption)))
  clear h4 hc10 hf10 hl10 hxb hin3
  have hc1 := hB1.cells; have hf1 := hB1.free; have hl1 := hB1.lt
  have hc10 := hB10.cells; have hf10 := hB10.free; have hl10 := hB10.lt
  go_wp2_with fail
  (with_reducible apply bp_ret); (focus (go_light; simp [results, Tryd.results34, go_sem, *]; rfl))
  exact ⟨ka1, kc1, la1, lc1, rfl, hin4.keep (Held.kept (a := w4) (T := fun b => w.heap.size + 2 ≤ b) (by with_reducible repeat (first | exact Held.refl _ _ | assumption | apply Held.drew | apply Held.drewN | apply Held.alloc | (refine Held.set ?_ ?_ _; rotate_left; (focus (first | (simp; done) | (simp; omega) | omega))) | (refine Held.ext ?_ (by assumption)) | (refine Held.grown ?_ (by assumption) (by assumption)) | (refine Held.trans ?_ (by assumption))))) (fun b h _ => .inr (by omega)), (by with_reducible repeat (first | exact Ext.refl _ | assumption | apply Ext.drew | apply Ext.drewN | apply Ext.alloc | (refine Ext.setCell ?_ ?_ _; rotate_left; (focus (first | (simp; done) | (simp; omega) | omega))) | refine Ext.trans ?_ (by assumption)))⟩

set_option maxHeartbeats 4000000 in
theorem add_ok (w : World) (hm : MaxAt w) :
    Calls Tryd.prog 21 #[v0c, .string P0, .agg #[.int .i64 2, .int .i64 3, .string ⟨#[]⟩, .slice none 0 0, .slice none 0 0]] w (RetV2 Nope R0 (.int .i64 0) w) := by
  go_enter Tryd.func21, Tryd.ntmps21
  go_upto_region 1 with fail
  refine gen_world (R := fun wx => Box wx w.heap.size #[.int .i64 5, .int .i64 0, .string ⟨#[]⟩, .slice none 0 0, .slice none 0 0] 33 ∧ Box wx (w.heap.size + 1) #[.int .i64 2, .int .i64 3, .string ⟨#[]⟩, .slice none 0 0, .slice none 0 0] 33 ∧ Box wx (w.heap.size + 2) #[.int .i64 0, .int .i64 0, .string ⟨#[]⟩, .slice none 0 0, .slice none 0 0] 33 ∧ Ext w wx) ⟨(by (with_reducible apply Box.to); (focus (with_reducible repeat (first | assumption | (apply Box.new; (focus (first | rfl | (first | (simp; done) | (simp; omega) | omega)))) | apply Box.set | (apply Box.other; rotate_left; (focus (first | (simp; done) | (simp; omega) | omega))) | apply Box.alloc | apply Box.drew | (apply Box.ext; (focus assumption))))); (first | rfl | (simp; done) | (go_light; simp [*]; done))), (by (with_reducible apply Box.to); (focus (with_reducible repeat (first | assumption | (apply Box.new; (focus (first | rfl | (first | (simp; done) | (simp; omega) | omega)))) | apply Box.set | (apply Box.other; rotate_left; (focus (first | (simp; done) | (simp; omega) | omega))) | apply Box.alloc | apply Box.drew | (apply Box.ext; (focus assumption))))); (first | rfl | (simp; done) | (go_light; simp [*]; done))), (by (with_reducible apply Box.to); (focus (with_reducible repeat (first | assumption | (apply Box.new; (focus (first | rfl | (first | (simp; done) | (simp; omega) | omega)))) | apply Box.set | (apply Box.other; rotate_left; (focus (first | (simp; done) | (simp; omega) | omega))) | apply Box.alloc | apply Box.drew | (apply Box.ext; (focus assumption))))); (first | rfl | (simp; done) | (go_light; simp [*]; done))), (by with_reducible repeat (first | exact Ext.refl _ | assumption | apply Ext.drew | apply Ext.drewN | apply Ext.alloc | (refine Ext.setCell ?_ ?_ _; rotate_left; (focus (first | (simp; done) | (simp; omega) | omega))) | refine Ext.trans ?_ (by assumption)))⟩ ?_
  rintro wa ⟨hB0, hB1, hB2, hxa⟩
  have hc1 := hB1.cells; have hf1 := hB1.free; have hl1 := hB1.lt
  go_wp2_with fail
  (refine (fine_any X0 none 0 none 0 Nope _ (by decide +kernel) (nil_in X0 rfl rfl _ _)).mono ?_); rintro e w1 ⟨rfl, h1⟩; obtain ⟨hcw1, hfw1, hzw1⟩ := ext_facts h1; (try simp at hzw1); (try have hzAw1 : w.heap.size < w1.heap.size := by omega); (try have hzBw1 : w.heap.size + 1 < w1.heap.size := by omega); (try have hzCw1 : w.heap.size + 2 < w1.heap.size := by omega)
  rw [X0_fine]
  have hB0 := Box.ext h1 hB0
  have hB1 := Box.ext h1 hB1
  have hB2 := Box.ext h1 hB2
  have hx1 : Ext w w1 := (by with_reducible repeat (first | exact Ext.refl _ | assumption | apply Ext.drew | apply Ext.drewN | apply Ext.alloc | (refine Ext.setCell ?_ ?_ _; rotate_left; (focus (first | (simp; done) | (simp; omega) | omega))) | refine Ext.trans ?_ (by assumption)))
  clear h1 hxa hc1 hf1 hl1 hcw1 hfw1
  have hc0 := hB0.cells; have hf0 := hB0.free; have hl0 := hB0.lt
  go_wp2_with fail
  (refine (may_ok V0 none 0 none 0 Nope P0 _ _ (by decide +kernel) (nil_in V0 rfl rfl _ _) V0_fine (by decide +kernel) P0_names (hm.ext (by with_reducible repeat (first | exact Ext.refl _ | assumption | apply Ext.drew | apply Ext.drewN | apply Ext.alloc | (refine Ext.setCell ?_ ?_ _; rotate_left; (focus (first | (simp; done) | (simp; omega) | omega))) | refine Ext.trans ?_ (by assumption))))).mono ?_); rintro e w2 ⟨a, n, c, ks, rfl, hn, hks, hok, hst, h2⟩
  have hB0 := Box.ext h2 hB0
  have hB1 := Box.ext h2 hB1
  have hB2 := Box.ext h2 hB2
  have hx2 : Ext w w2 := (by with_reducible repeat (first | exact Ext.refl _ | assumption | apply Ext.drew | apply Ext.drewN | apply Ext.alloc | (refine Ext.setCell ?_ ?_ _; rotate_left; (focus (first | (simp; done) | (simp; omega) | omega))) | refine Ext.trans ?_ (by assumption)))
  clear h2 hx1 hc0 hf0 hl0
  have hc0 := hB0.cells; have hf0 := hB0.free; have hl0 := hB0.lt
  have hXx : XAt (w.heap.size + 1) w2 := ⟨hB1.cells 0, hB1.cells 1, hB1.cells 2, hB1.cells 3, hB1.cells 4⟩
  have hl2 := hB2.lt
  go_wp2_with fail
  (refine (change_ok (w.heap.size + 1) _ (hXx.ext (by with_reducible repeat (first | exact Ext.refl _ | assumption | apply Ext.drew | apply Ext.drewN | apply Ext.alloc | (refine Ext.setCell ?_ ?_ _; rotate_left; (focus (first | (simp; done) | (simp; omega) | omega))) | refine Ext.trans ?_ (by assumption)))) (hm.ext (by with_reducible repeat (first | exact Ext.refl _ | assumption | apply Ext.drew | apply Ext.drewN | apply Ext.alloc | (refine Ext.setCell ?_ ?_ _; rotate_left; (focus (first | (simp; done) | (simp; omega) | omega))) | refine Ext.trans ?_ (by assumption))))).mono ?_); rintro e w3 ⟨ka1, kc1, la1, lc1, rfl, hin1, h3⟩
  have hB2 : Box w3 (w.heap.size + 1 + 1) #[.int .i64 0, .int .i64 0, .string ⟨#[]⟩, .slice none 0 0, .slice none 0 0] 33 := Box.ext (w := w2) (by with_reducible repeat (first | exact Ext.refl _ | assumption | apply Ext.drew | apply Ext.drewN | apply Ext.alloc | (refine Ext.setCell ?_ ?_ _; rotate_left; (focus (first | (simp; done) | (simp; omega) | omega))) | refine Ext.trans ?_ (by assumption))) hB2
  have hin3 : R0.In w3 (fun b => w.heap.size + 3 ≤ b) ka1 kc1 la1 lc1 := hin1.mono (fun b h _ => by rcases h with h | h; exact h.elim; exact Nat.le_trans hl2 (Nat.le_trans (Ext.size (a := w2) (by with_reducible repeat (first | exact Ext.refl _ | assumption | apply Ext.drew | apply Ext.drewN | apply Ext.alloc | (refine Ext.setCell ?_ ?_ _; rotate_left; (focus (first | (simp; done) | (simp; omega) | omega))) | refine Ext.trans ?_ (by assumption)))) h))
  have hx3 : Ext w w3 := (by with_reducible repeat (first | exact Ext.refl _ | assumption | apply Ext.drew | apply Ext.drewN | apply Ext.alloc | (refine Ext.setCell ?_ ?_ _; rotate_left; (focus (first | (simp; done) | (simp; omega) | omega))) | refine Ext.trans ?_ (by assumption)))
  clear h3 hc0 hf0 hl0 hx2 hin1 hB0 hB1
  have hc2 := hB2.cells; have hf2 := hB2.free; have hl2 := hB2.lt
  go_wp2_with fail
  (with_reducible apply bp_ret); (focus (go_light; simp [results, Tryd.results21, go_sem, *]; rfl))
  exact ⟨ka1, kc1, la1, lc1, rfl, hin3.keep (Held.kept (a := w3) (T := fun b => w.heap.size + 3 ≤ b) (by with_reducible repeat (first | exact Held.refl _ _ | assumption | apply Held.drew | apply Held.drewN | apply Held.alloc | (refine Held.set ?_ ?_ _; rotate_left; (focus (first | (simp; done) | (simp; omega) | omega))) | (refine Held.ext ?_ (by assumption)) | (refine Held.grown ?_ (by assumption) (by assumption)) | (refine Held.trans ?_ (by assumption))))) (fun b h _ => .inr (by omega)), (by with_reducible repeat (first | exact Ext.refl _ | assumption | apply Ext.drew | apply Ext.drewN | apply Ext.alloc | (refine Ext.setCell ?_ ?_ _; rotate_left; (focus (first | (simp; done) | (simp; omega) | omega))) | refine Ext.trans ?_ (by assumption)))⟩
end Go.Proofs.YtknnflobpjppfaaDoor
