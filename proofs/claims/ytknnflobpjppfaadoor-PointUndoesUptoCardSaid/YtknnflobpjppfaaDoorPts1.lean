/- points: the walks of point.may, of Add's closure, at, change, Add, at one input. -/
import Derived.Test.YtknnflobpjppfaaDoorWith0
import Derived.Test.YtknnflobpjppfaaDoorJson2
import Derived.Test.YtknnflobpjppfaaDoorOrder
set_option linter.all false
namespace Go.Proofs.YtknnflobpjppfaaDoor
open Go.RowKit
attribute [local go_sem ↓] Go.wp_at_zero Go.wp_at_succ

set_option maxHeartbeats 1000000 in
theorem may_ok (x : V) (ka : Option Addr) (kc : Nat) (la : Option Addr) (lc : Nat) (S : Nat → Prop) (p : ByteArray) (l : List (List UInt8)) (w : World) (hsz : x.size ≤ 1073741824) (hin : x.In w S ka kc la lc) (hf : x.fine = true) (hp : p.size ≤ 1073741824) (hl : namesL p.data.toList = some l) (hm : MaxAt w) :
    Calls Tryd.prog 33 #[x.val ka kc la lc, .string p] w fun e w' => ∃ a n c ks, e = .returned (.tuple #[.slice a n c, .int .i64 0]) ∧ ks.length = n ∧ ks.map (·.data.toList) = l ∧ SlOk a n c ∧ StrsIn w' (fun b => w.heap.size ≤ b) a ks ∧ Ext w w' := by
  have Hl := Lib.hid hl
  clear hl
  go_enter Tryd.func33, Tryd.ntmps33
  go_upto_region 1 with fail
  refine gen_world (R := fun wx => Box wx w.heap.size #[.int .i64 x.k, .int .i64 x.n, .string x.s, .slice ka x.keys.length kc, .slice la x.l.length lc] 33 ∧ Ext w wx) ⟨(by (with_reducible apply Box.to); (focus (with_reducible repeat (first | assumption | (apply Box.new; (focus (first | rfl | (first | (simp; done) | (simp; omega) | omega)))) | apply Box.set | (apply Box.other; rotate_left; (focus (first | (simp; done) | (simp; omega) | omega))) | apply Box.alloc | apply Box.drew | (apply Box.ext; (focus assumption))))); (first | rfl | (simp; done) | (go_light; simp [*]; done))), (by with_reducible repeat (first | exact Ext.refl _ | assumption | apply Ext.drew | apply Ext.drewN | apply Ext.alloc | (refine Ext.setCell ?_ ?_ _; rotate_left; (focus (first | (simp; done) | (simp; omega) | omega))) | refine Ext.trans ?_ (by assumption)))⟩ ?_
  rintro wa ⟨hB0, hxa⟩
  go_wp2_with fail
  (refine (split_any p hp _ (hm.ext (by with_reducible repeat (first | exact Ext.refl _ | assumption | apply Ext.drew | apply Ext.drewN | apply Ext.alloc | (refine Ext.setCell ?_ ?_ _; rotate_left; (focus (first | (simp; done) | (simp; omega) | omega))) | refine Ext.trans ?_ (by assumption))))).mono ?_)
  rintro e w1 (⟨l', a, n, c, ks, h1, rfl, h2, h3, h4, h5, h6⟩ | ⟨h1, -, -⟩)
  · rw [Hl.out] at h1
    obtain rfl := Option.some.inj h1
    clear h1
    have hB0 := Box.ext h6 hB0
    have hx1 : Ext w w1 := (by with_reducible repeat (first | exact Ext.refl _ | assumption | apply Ext.drew | apply Ext.drewN | apply Ext.alloc | (refine Ext.setCell ?_ ?_ _; rotate_left; (focus (first | (simp; done) | (simp; omega) | omega))) | refine Ext.trans ?_ (by assumption)))
    have h5 := h5.keep (T := fun b => w.heap.size ≤ b) (fun _ _ _ => rfl) (fun b h _ => Nat.le_trans hxa.size h)
    clear h6 hxa
    have hc0 := hB0.cells; have hf0 := hB0.free; have hl0 := hB0.lt
    go_wp2_with fail
    (with_reducible refine (fine_any x ka kc la lc S _ hsz (hin.ext (by with_reducible repeat (first | exact Ext.refl _ | assumption | apply Ext.drew | apply Ext.drewN | apply Ext.alloc | (refine Ext.setCell ?_ ?_ _; rotate_left; (focus (first | (simp; done) | (simp; omega) | omega))) | refine Ext.trans ?_ (by assumption))))).mono ?_); rintro e w2 ⟨rfl, h2'⟩; obtain ⟨hcw2, hfw2, hzw2⟩ := ext_facts h2'; (try simp at hzw2); (try have hzAw2 : w.heap.size < w2.heap.size := by omega); (try have hzBw2 : w.heap.size + 1 < w2.heap.size := by omega); (try have hzCw2 : w.heap.size + 2 < w2.heap.size := by omega)
    rw [hf]
    go_wp2
    go_ret2
    exact ⟨a, n, c, ks, rfl, h2, h3, h4, h5.ext (by with_reducible repeat (first | exact Ext.refl _ | assumption | apply Ext.drew | apply Ext.drewN | apply Ext.alloc | (refine Ext.setCell ?_ ?_ _; rotate_left; (focus (first | (simp; done) | (simp; omega) | omega))) | refine Ext.trans ?_ (by assumption))), (by with_reducible repeat (first | exact Ext.refl _ | assumption | apply Ext.drew | apply Ext.drewN | apply Ext.alloc | (refine Ext.setCell ?_ ?_ _; rotate_left; (focus (first | (simp; done) | (simp; omega) | omega))) | refine Ext.trans ?_ (by assumption)))⟩
  · rw [Hl.out] at h1; cases h1

abbrev Nope : Nat → Prop := fun _ => False
abbrev K0 : ByteArray := ⟨#[97, 47, 98]⟩
abbrev X0 : V := .mk 2 3 ⟨#[]⟩ [] []
abbrev R0 : V := .mk 5 0 ⟨#[]⟩ [K0] [X0]
abbrev P0 : ByteArray := ⟨#[47, 97, 126, 49, 98]⟩
theorem P0_names : namesL P0.data.toList = some [[97, 47, 98]] := by decide +kernel
theorem V0_fine : V0.fine = true := by decide +kernel
theorem X0_fine : X0.fine = true := by decide +kernel
theorem R0_fine : R0.fine = true := by decide +kernel
theorem ks_one {ks : List ByteArray} (h : ks.map (·.data.toList) = [[97, 47, 98]]) : ks = [K0] := by
  cases ks with
  | nil => simp at h
  | cons q r =>
    simp only [List.map_cons, List.cons.injEq, List.map_eq_nil_iff] at h
    obtain ⟨h1, rfl⟩ := h
    have : q = K0 := bytes_ext (by rw [ByteArray.toList_eq, ByteArray.toList_eq, h1])
    rw [this]
theorem nil_in (x : V) (hk : x.keys = []) (hl : x.l = []) (w : World) (S : Nat → Prop) : x.In w S none 0 none 0 := by
  rw [V.in_iff, hk, hl]; exact ⟨SlOk.nil, SlOk.nil, .inl rfl, .inl rfl⟩

abbrev v0c : Value := .agg #[.int .i64 5, .int .i64 0, .string ⟨#[]⟩, .slice none 0 0, .slice none 0 0]
set_option maxHeartbeats 1000000 in
theorem add1_nil (bx : Nat) (w : World) (d0 : w.cell? ⟨bx, 0, none⟩ = some (.int .i64 2)) (d1 : w.cell? ⟨bx, 1, none⟩ = some (.int .i64 3)) (d2 : w.cell? ⟨bx, 2, none⟩ = some (.string ⟨#[]⟩)) (d3 : w.cell? ⟨bx, 3, none⟩ = some (.slice none 0 0)) (d4 : w.cell? ⟨bx, 4, none⟩ = some (.slice none 0 0)) :
    Calls Tryd.prog 38 #[v0c, .string K0, .pointer (some ⟨bx, 0, none⟩)] w (RetV2 Nope R0 (.int .i64 0) w) := by
  have hbx := cell_lt d0
  go_enter Tryd.func38, Tryd.ntmps38
  go_wp2_with fail
  (refine (with_nil K0 X0 none 0 none 0 Nope _ (nil_in X0 rfl rfl _ _)).mono ?_); rintro e w1 ⟨ka1, kc1, la1, lc1, rfl, hin1, h1⟩; obtain ⟨hc1, hf1, hz1⟩ := ext_facts h1; (try simp at hz1); (try have hzA : w.heap.size < w1.heap.size := by omega); (try have hzB : w.heap.size + 1 < w1.heap.size := by omega); (try have hzC : w.heap.size + 2 < w1.heap.size := by omega); (try have hzD : w.heap.size + 3 < w1.heap.size := by omega)
  have hB5 : Box w1 (w.heap.size + 1) #[.int .i64 0, .int .i64 0, .string ⟨#[]⟩, .slice none 0 0, .slice none 0 0] 33 := Box.ext h1 (by (with_reducible apply Box.to); (focus (with_reducible repeat (first | assumption | (apply Box.new; (focus (first | rfl | (first | (simp; done) | (simp; omega) | omega)))) | apply Box.set | (apply Box.other; rotate_left; (focus (first | (simp; done) | (simp; omega) | omega))) | apply Box.alloc | apply Box.drew | (apply Box.ext; (focus assumption))))); (first | rfl | (simp; done) | (go_light; simp [*]; done)))
  have hx1 : Ext w w1 := (by with_reducible repeat (first | exact Ext.refl _ | assumption | apply Ext.drew | apply Ext.drewN | apply Ext.alloc | (refine Ext.setCell ?_ ?_ _; rotate_left; (focus (first | (simp; done) | (simp; omega) | omega))) | refine Ext.trans ?_ (by assumption)))
  have hin2 : R0.In w1 (fun b => w.heap.size + 2 ≤ b) ka1 kc1 la1 lc1 := hin1.mono (fun b h _ => by rcases h with h | h; exact h.elim; simp at h; omega)
  clear hc1 hf1 hin1 h1
  have hc5 := hB5.cells; have hf5 := hB5.free; have hl5 := hB5.lt
  go_wp2_with fail
  (with_reducible apply bp_ret); (focus (go_light; simp [results, Tryd.results38, go_sem, *]; rfl))
  exact ⟨ka1, kc1, la1, lc1, rfl, hin2.keep (Held.kept (a := w1) (T := fun b => w.heap.size + 2 ≤ b) (by with_reducible repeat (first | exact Held.refl _ _ | assumption | apply Held.drew | apply Held.drewN | apply Held.alloc | (refine Held.set ?_ ?_ _; rotate_left; (focus (first | (simp; done) | (simp; omega) | omega))) | (refine Held.ext ?_ (by assumption)) | (refine Held.grown ?_ (by assumption) (by assumption)) | (refine Held.trans ?_ (by assumption))))) (fun b h _ => .inr (by omega)), (by with_reducible repeat (first | exact Ext.refl _ | assumption | apply Ext.drew | apply Ext.drewN | apply Ext.alloc | (refine Ext.setCell ?_ ?_ _; rotate_left; (focus (first | (simp; done) | (simp; omega) | omega))) | refine Ext.trans ?_ (by assumption)))⟩
end Go.Proofs.YtknnflobpjppfaaDoor
