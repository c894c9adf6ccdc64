/- The walk of owner.Good: the loops. -/
import Derived.Test.YtjibdbnpkfghhaaGreatDoorPkQ
set_option linter.all false
namespace Go.Proofs.YtjibdbnpkfghhaaGreatDoor
open Go.RowKit
attribute [local go_sem ↓] Go.wp_at_zero Go.wp_at_succ
set_option maxRecDepth 100000 in
set_option maxHeartbeats 8000000 in
theorem goodO_any (l : List Ow) (a : Option Addr) (c : Nat) (S : Nat → Prop) (w : World) (hsz : owsSize l ≤ 2097152) (hin : OwsIn w S l a) (hm : MaxAt w) :
  Calls Tryz.prog 27 #[.slice a l.length c] w fun e w' => e = .returned (.bool (goodOws l)) ∧ Ext w w' := by
 have hlen := owsSize_len l
 go_enter Tryz.func27, Tryz.ntmps27
 go_wp2_with fail
 go_loopg [11] l.length (fun g i wr => ∃ k : Nat, k ≤ l.length ∧ i = .int .i64 k ∧ g = l.length - k ∧ (∀ i (h : i < l.length), i < k → OwOk l i h) ∧ Ext w wr)
 case atStart => exact ⟨0, Nat.zero_le _, rfl, rfl, fun i h h0 => absurd h0 (Nat.not_lt_zero _), Xt⟩
 case round =>
  obtain ⟨wo, rfl⟩ : ∃ x, x = wr := ⟨_, rfl⟩
  obtain ⟨k, hk, rfl, rfl, hok, hx⟩ := hrel
  have Hok := Lib.hid hok
  clear hok
  by_cases hlt : k < l.length
  ·obtain ⟨b, o, rfl, hS, hI⟩ := hin.resolve_left (by intro h; rw [h] at hlt; simp at hlt)
   obtain ⟨pa, pc, d0, d1, hsl, hst⟩ := hI k hlt
   have HI := Lib.hid hI
   have d0 := hx.cell d0
   have d1 := hx.cell d1
   have hst := hst.ext hx
   have Hst := Lib.hid hst
   have hos := owsSize_mem (List.getElem_mem hlt)
   have hnz := Ow.len_name l[k]
   have hpl := Ow.len_paths l[k]
   have Hpz := Lib.hid (fun (j : Nat) (h : j < (l[k]).paths.length) => show ((l[k]).paths[j]).size ≤ 2097152 from by have := Ow.len_path (o := l[k]) (List.getElem_mem h); omega)
   have hpr : k = 0 ∨ ∃ m, k = m + 1 ∧ ∃ (h : m < l.length), wo.cell? ⟨b, o + m * 2, none⟩ = some (.string (l[m]).name) := by
    cases k with
    | zero => exact .inl rfl
    | succ m => obtain ⟨_, _, e0, -, -, -⟩ := hI m (by omega); exact .inr ⟨m, rfl, by omega, hx.cell e0⟩
   clear hI hst hin
   go_upto_region 4 with fail
   refine gen_world (R := fun wx => Box wx wo.heap.size #[.string (l[k]).name, .slice pa (l[k]).paths.length pc] 42 ∧ Ext wo wx) ⟨Bxt, Xt⟩ ?_
   rintro wa ⟨hB, hxa⟩
   have hx1 : Ext w wa := hx.trans hxa
   have hzw := hxa.size
   cases hnm : namedB (l[k]).name with
   | false =>
    have Hnm := Lib.hid hnm
    clear hnm d0 d1 hpr
    have Sof : ∀ w', Ext wa w' → (w'.cell? ⟨wo.heap.size, 0, none⟩ = some (.string (l[k]).name) ∧ w'.cell? ⟨wo.heap.size, 1, none⟩ = some (.slice pa (l[k]).paths.length pc)) := fun w' e => ⟨e.cell (hB.cells 0), e.cell (hB.cells 1)⟩
    refine wp_region_held_drew (S := fun w' => w'.cell? ⟨wo.heap.size, 0, none⟩ = some (.string (l[k]).name) ∧ w'.cell? ⟨wo.heap.size, 1, none⟩ = some (.slice pa (l[k]).paths.length pc)) (by kernel_rfl) (Sof _ Xt) (fun hHeld => ?_)
    (refine wpAnyH_take (i := 0) (v := ?_) (Array.getElem?_eq_getElem (by decide)) (by kernel_rfl) (by kernel_rfl) (by kernel_rfl) (fun _ _ _ h => h) (Or.inl ⟨by kernel_rfl, ?_⟩) (by assumption) ?_); rotate_left; (focus (intro w hSw; (try dsimp only at hSw); (try simp only [rl]); go_simp; (try with_reducible rfl))); (try simp only [rl])
    (refine wpAnyH_take (i := 1) (v := ?_) (Array.getElem?_eq_getElem (by decide)) (by kernel_rfl) (by kernel_rfl) (by kernel_rfl) (fun _ _ _ h => h) (Or.inl ⟨by kernel_rfl, ?_⟩) (by assumption) ?_); rotate_left; (focus (intro w hSw; (try dsimp only at hSw); (try simp only [rl]); go_simp; (try with_reducible rfl))); (try simp only [rl])
    (refine wpAnyH_ready (rs := [2]) (by kernel_rfl) (by simp) ?_); (refine AllReadyH.cons (Array.getElem?_eq_getElem (by decide)) (fun K hK => ?_) AllReadyH.nil); (try simp only [rl])
    (try go_simp)
    (refine (named_any _ _ (by omega)).mono ?_)
    rw [Hnm.out]
    rintro e w4 ⟨rfl, rfl⟩
    (try go_simp)
    refine hK.out _ _ (Sof _ Xt) (fun hHeld => ?_)
    clear hK K
    (try simp only [rl])
    (refine wpAnyH_take (i := 3) (v := ?_) (Array.getElem?_eq_getElem (by decide)) (by kernel_rfl) (by kernel_rfl) (by kernel_rfl) (fun _ _ _ h => h) (Or.inl ⟨by kernel_rfl, ?_⟩) (by assumption) ?_); rotate_left; (focus (intro w hSw; (try dsimp only at hSw); (try simp only [rl]); go_simp; (try with_reducible rfl))); (try simp only [rl])
    (refine wpAnyH_take (i := 4) (v := ?_) (Array.getElem?_eq_getElem (by decide)) (by kernel_rfl) (by kernel_rfl) (by kernel_rfl) (fun _ _ _ h => h) (Or.inl ⟨by kernel_rfl, ?_⟩) (by assumption) ?_); rotate_left; (focus (intro w hSw; (try dsimp only at hSw); (try simp only [rl]); go_simp; (try with_reducible rfl))); (try simp only [rl])
    (refine wpAnyH_take (i := 5) (v := undef) (Array.getElem?_eq_getElem (by decide)) (by kernel_rfl) (by kernel_rfl) (by kernel_rfl) (fun _ _ _ h => h) (Or.inr ⟨by kernel_rfl, rfl⟩) (by assumption) ?_); (try simp only [rl])
    (refine wpAnyH_take (i := 6) (v := undef) (Array.getElem?_eq_getElem (by decide)) (by kernel_rfl) (by kernel_rfl) (by kernel_rfl) (fun _ _ _ h => h) (Or.inr ⟨by kernel_rfl, rfl⟩) (by assumption) ?_); (try simp only [rl])
    (refine wpAnyH_take (i := 7) (v := undef) (Array.getElem?_eq_getElem (by decide)) (by kernel_rfl) (by kernel_rfl) (by kernel_rfl) (fun _ _ _ h => h) (Or.inr ⟨by kernel_rfl, rfl⟩) (by assumption) ?_); (try simp only [rl])
    (refine wpAnyH_take (i := 8) (v := undef) (Array.getElem?_eq_getElem (by decide)) (by kernel_rfl) (by kernel_rfl) (by kernel_rfl) (fun _ _ _ h => h) (Or.inr ⟨by kernel_rfl, rfl⟩) (by assumption) ?_); (try simp only [rl])
    (refine wpAnyH_take (i := 9) (v := undef) (Array.getElem?_eq_getElem (by decide)) (by kernel_rfl) (by kernel_rfl) (by kernel_rfl) (fun _ _ _ h => h) (Or.inr ⟨by kernel_rfl, rfl⟩) (by assumption) ?_); (try simp only [rl])
    (refine wpAnyH_take (i := 10) (v := undef) (Array.getElem?_eq_getElem (by decide)) (by kernel_rfl) (by kernel_rfl) (by kernel_rfl) (fun _ _ _ h => h) (Or.inr ⟨by kernel_rfl, rfl⟩) (by assumption) ?_); (try simp only [rl])
    (refine wpAnyH_take (i := 11) (v := undef) (Array.getElem?_eq_getElem (by decide)) (by kernel_rfl) (by kernel_rfl) (by kernel_rfl) (fun _ _ _ h => h) (Or.inr ⟨by kernel_rfl, rfl⟩) (by assumption) ?_); (try simp only [rl])
    (refine wpAnyH_take (i := 12) (v := undef) (Array.getElem?_eq_getElem (by decide)) (by kernel_rfl) (by kernel_rfl) (by kernel_rfl) (fun _ _ _ h => h) (Or.inr ⟨by kernel_rfl, rfl⟩) (by assumption) ?_); (try simp only [rl])
    (refine wpAnyH_take (i := 13) (v := undef) (Array.getElem?_eq_getElem (by decide)) (by kernel_rfl) (by kernel_rfl) (by kernel_rfl) (fun _ _ _ h => h) (Or.inr ⟨by kernel_rfl, rfl⟩) (by assumption) ?_); (try simp only [rl])
    (refine wpAnyH_take (i := 14) (v := undef) (Array.getElem?_eq_getElem (by decide)) (by kernel_rfl) (by kernel_rfl) (by kernel_rfl) (fun _ _ _ h => h) (Or.inr ⟨by kernel_rfl, rfl⟩) (by assumption) ?_); (try simp only [rl])
    (refine wpAnyH_take (i := 15) (v := undef) (Array.getElem?_eq_getElem (by decide)) (by kernel_rfl) (by kernel_rfl) (by kernel_rfl) (fun _ _ _ h => h) (Or.inr ⟨by kernel_rfl, rfl⟩) (by assumption) ?_); (try simp only [rl])
    (refine wpAnyH_take (i := 16) (v := undef) (Array.getElem?_eq_getElem (by decide)) (by kernel_rfl) (by kernel_rfl) (by kernel_rfl) (fun _ _ _ h => h) (Or.inr ⟨by kernel_rfl, rfl⟩) (by assumption) ?_); (try simp only [rl])
    (refine wpAnyH_take (i := 17) (v := undef) (Array.getElem?_eq_getElem (by decide)) (by kernel_rfl) (by kernel_rfl) (by kernel_rfl) (fun _ _ _ h => h) (Or.inr ⟨by kernel_rfl, rfl⟩) (by assumption) ?_); (try simp only [rl])
    (refine wpAnyH_take (i := 18) (v := ?_) (Array.getElem?_eq_getElem (by decide)) (by kernel_rfl) (by kernel_rfl) (by kernel_rfl) (fun _ _ _ h => h) (Or.inl ⟨by kernel_rfl, ?_⟩) (by assumption) ?_); rotate_left; (focus (intro w hSw; (try dsimp only at hSw); (try simp only [rl]); go_simp; (try with_reducible rfl))); (try simp only [rl])
    (refine wpAnyH_take (i := 19) (v := ?_) (Array.getElem?_eq_getElem (by decide)) (by kernel_rfl) (by kernel_rfl) (by kernel_rfl) (fun _ _ _ h => h) (Or.inl ⟨by kernel_rfl, ?_⟩) (by assumption) ?_); rotate_left; (focus (intro w hSw; (try dsimp only at hSw); (try simp only [rl]); go_simp; (try with_reducible rfl))); (try simp only [rl])
    (refine wpAnyH_take (i := 20) (v := undef) (Array.getElem?_eq_getElem (by decide)) (by kernel_rfl) (by kernel_rfl) (by kernel_rfl) (fun _ _ _ h => h) (Or.inr ⟨by kernel_rfl, rfl⟩) (by assumption) ?_); (try simp only [rl])
    (refine wpAnyH_take (i := 21) (v := undef) (Array.getElem?_eq_getElem (by decide)) (by kernel_rfl) (by kernel_rfl) (by kernel_rfl) (fun _ _ _ h => h) (Or.inr ⟨by kernel_rfl, rfl⟩) (by assumption) ?_); (try simp only [rl])
    (refine wpAnyH_take (i := 22) (v := undef) (Array.getElem?_eq_getElem (by decide)) (by kernel_rfl) (by kernel_rfl) (by kernel_rfl) (fun _ _ _ h => h) (Or.inr ⟨by kernel_rfl, rfl⟩) (by assumption) ?_); (try simp only [rl])
    (refine wpAnyH_take (i := 23) (v := undef) (Array.getElem?_eq_getElem (by decide)) (by kernel_rfl) (by kernel_rfl) (by kernel_rfl) (fun _ _ _ h => h) (Or.inr ⟨by kernel_rfl, rfl⟩) (by assumption) ?_); (try simp only [rl])
    (refine wpAnyH_take (i := 24) (v := ?_) (Array.getElem?_eq_getElem (by decide)) (by kernel_rfl) (by kernel_rfl) (by kernel_rfl) (fun _ _ _ h => h) (Or.inl ⟨by kernel_rfl, ?_⟩) (by assumption) ?_); rotate_left; (focus (intro w hSw; (try dsimp only at hSw); (try simp only [rl]); go_simp; (try with_reducible rfl))); (try simp only [rl])
    refine wpAnyH_done (by kernel_rfl) ?_ _
    go_wp2_with fail
    go_ret
    exact ⟨ret_bool (goodOws_bad hlt (fun h => by have := h.1; rw [Hnm.out] at this; cases this)).symm, Xt⟩
   | true =>
    have Hnm := Lib.hid hnm
    clear hnm d0 d1
    rcases hpr with rfl | ⟨m, rfl, hml, d0⟩
    ·have Hpv := Lib.hid (show 0 < 0 → ltS (l[0 - 1]'(by omega)).name (l[0]).name = true from fun h => absurd h (Nat.lt_irrefl _))
     by_cases hpe : (l[0]).paths = []
     ·have hpi : (((l[0]).paths.length : Int) == 0) = true := by rw [hpe]; rfl
      have Hpe := Lib.hid hpe
      clear hpe
      have Sof : ∀ w', Ext wa w' → (w'.cell? ⟨wo.heap.size, 0, none⟩ = some (.string (l[0]).name) ∧ w'.cell? ⟨wo.heap.size, 1, none⟩ = some (.slice pa (l[0]).paths.length pc)) := fun w' e => ⟨e.cell (hB.cells 0), e.cell (hB.cells 1)⟩
      refine wp_region_held_drew (S := fun w' => w'.cell? ⟨wo.heap.size, 0, none⟩ = some (.string (l[0]).name) ∧ w'.cell? ⟨wo.heap.size, 1, none⟩ = some (.slice pa (l[0]).paths.length pc)) (by kernel_rfl) (Sof _ Xt) (fun hHeld => ?_)
      (refine wpAnyH_take (i := 0) (v := ?_) (Array.getElem?_eq_getElem (by decide)) (by kernel_rfl) (by kernel_rfl) (by kernel_rfl) (fun _ _ _ h => h) (Or.inl ⟨by kernel_rfl, ?_⟩) (by assumption) ?_); rotate_left; (focus (intro w hSw; (try dsimp only at hSw); (try simp only [rl]); go_simp; (try with_reducible rfl))); (try simp only [rl])
      (refine wpAnyH_take (i := 1) (v := ?_) (Array.getElem?_eq_getElem (by decide)) (by kernel_rfl) (by kernel_rfl) (by kernel_rfl) (fun _ _ _ h => h) (Or.inl ⟨by kernel_rfl, ?_⟩) (by assumption) ?_); rotate_left; (focus (intro w hSw; (try dsimp only at hSw); (try simp only [rl]); go_simp; (try with_reducible rfl))); (try simp only [rl])
      (refine wpAnyH_ready (rs := [2]) (by kernel_rfl) (by simp) ?_); (refine AllReadyH.cons (Array.getElem?_eq_getElem (by decide)) (fun K hK => ?_) AllReadyH.nil); (try simp only [rl])
      (try go_simp)
      (refine (named_any _ _ (by omega)).mono ?_)
      rw [Hnm.out]
      rintro e w4 ⟨rfl, rfl⟩
      (try go_simp)
      refine hK.out _ _ (Sof _ Xt) (fun hHeld => ?_)
      clear hK K
      (try simp only [rl])
      (refine wpAnyH_take (i := 3) (v := ?_) (Array.getElem?_eq_getElem (by decide)) (by kernel_rfl) (by kernel_rfl) (by kernel_rfl) (fun _ _ _ h => h) (Or.inl ⟨by kernel_rfl, ?_⟩) (by assumption) ?_); rotate_left; (focus (intro w hSw; (try dsimp only at hSw); (try simp only [rl]); go_simp; (try with_reducible rfl))); (try simp only [rl])
      (refine wpAnyH_take (i := 4) (v := ?_) (Array.getElem?_eq_getElem (by decide)) (by kernel_rfl) (by kernel_rfl) (by kernel_rfl) (fun _ _ _ h => h) (Or.inl ⟨by kernel_rfl, ?_⟩) (by assumption) ?_); rotate_left; (focus (intro w hSw; (try dsimp only at hSw); (try simp only [rl]); go_simp; (try with_reducible rfl))); (try simp only [rl])
      (refine wpAnyH_take (i := 5) (v := ?_) (Array.getElem?_eq_getElem (by decide)) (by kernel_rfl) (by kernel_rfl) (by kernel_rfl) (fun _ _ _ h => h) (Or.inl ⟨by kernel_rfl, ?_⟩) (by assumption) ?_); rotate_left; (focus (intro w hSw; (try dsimp only at hSw); (try simp only [rl]); go_simp; (try with_reducible rfl))); (try simp only [rl])
      (refine wpAnyH_take (i := 6) (v := ?_) (Array.getElem?_eq_getElem (by decide)) (by kernel_rfl) (by kernel_rfl) (by kernel_rfl) (fun _ _ _ h => h) (Or.inl ⟨by kernel_rfl, ?_⟩) (by assumption) ?_); rotate_left; (focus (intro w hSw; (try dsimp only at hSw); (try simp only [rl]); go_simp; (try with_reducible rfl))); (try simp only [rl])
      (refine wpAnyH_take (i := 7) (v := ?_) (Array.getElem?_eq_getElem (by decide)) (by kernel_rfl) (by kernel_rfl) (by kernel_rfl) (fun _ _ _ h => h) (Or.inl ⟨by kernel_rfl, ?_⟩) (by assumption) ?_); rotate_left; (focus (intro w hSw; (try dsimp only at hSw); (try simp only [rl]); go_simp; (try with_reducible rfl))); (try simp only [rl])
      (refine wpAnyH_take (i := 8) (v := undef) (Array.getElem?_eq_getElem (by decide)) (by kernel_rfl) (by kernel_rfl) (by kernel_rfl) (fun _ _ _ h => h) (Or.inr ⟨by kernel_rfl, rfl⟩) (by assumption) ?_); (try simp only [rl])
      (refine wpAnyH_take (i := 9) (v := undef) (Array.getElem?_eq_getElem (by decide)) (by kernel_rfl) (by kernel_rfl) (by kernel_rfl) (fun _ _ _ h => h) (Or.inr ⟨by kernel_rfl, rfl⟩) (by assumption) ?_); (try simp only [rl])
      (refine wpAnyH_take (i := 10) (v := undef) (Array.getElem?_eq_getElem (by decide)) (by kernel_rfl) (by kernel_rfl) (by kernel_rfl) (fun _ _ _ h => h) (Or.inr ⟨by kernel_rfl, rfl⟩) (by assumption) ?_); (try simp only [rl])
      (refine wpAnyH_take (i := 11) (v := undef) (Array.getElem?_eq_getElem (by decide)) (by kernel_rfl) (by kernel_rfl) (by kernel_rfl) (fun _ _ _ h => h) (Or.inr ⟨by kernel_rfl, rfl⟩) (by assumption) ?_); (try simp only [rl])
      (refine wpAnyH_take (i := 12) (v := undef) (Array.getElem?_eq_getElem (by decide)) (by kernel_rfl) (by kernel_rfl) (by kernel_rfl) (fun _ _ _ h => h) (Or.inr ⟨by kernel_rfl, rfl⟩) (by assumption) ?_); (try simp only [rl])
      (refine wpAnyH_take (i := 13) (v := undef) (Array.getElem?_eq_getElem (by decide)) (by kernel_rfl) (by kernel_rfl) (by kernel_rfl) (fun _ _ _ h => h) (Or.inr ⟨by kernel_rfl, rfl⟩) (by assumption) ?_); (try simp only [rl])
      (refine wpAnyH_take (i := 14) (v := undef) (Array.getElem?_eq_getElem (by decide)) (by kernel_rfl) (by kernel_rfl) (by kernel_rfl) (fun _ _ _ h => h) (Or.inr ⟨by kernel_rfl, rfl⟩) (by assumption) ?_); (try simp only [rl])
      (refine wpAnyH_take (i := 15) (v := undef) (Array.getElem?_eq_getElem (by decide)) (by kernel_rfl) (by kernel_rfl) (by kernel_rfl) (fun _ _ _ h => h) (Or.inr ⟨by kernel_rfl, rfl⟩) (by assumption) ?_); (try simp only [rl])
      (refine wpAnyH_take (i := 16) (v := undef) (Array.getElem?_eq_getElem (by decide)) (by kernel_rfl) (by kernel_rfl) (by kernel_rfl) (fun _ _ _ h => h) (Or.inr ⟨by kernel_rfl, rfl⟩) (by assumption) ?_); (try simp only [rl])
      (refine wpAnyH_take (i := 17) (v := ?_) (Array.getElem?_eq_getElem (by decide)) (by kernel_rfl) (by kernel_rfl) (by kernel_rfl) (fun _ _ _ h => h) (Or.inl ⟨by kernel_rfl, ?_⟩) (by assumption) ?_); rotate_left; (focus (intro w hSw; (try dsimp only at hSw); (try simp only [rl]); go_simp; (try with_reducible rfl))); (try simp only [rl])
      (refine wpAnyH_take (i := 18) (v := ?_) (Array.getElem?_eq_getElem (by decide)) (by kernel_rfl) (by kernel_rfl) (by kernel_rfl) (fun _ _ _ h => h) (Or.inl ⟨by kernel_rfl, ?_⟩) (by assumption) ?_); rotate_left; (focus (intro w hSw; (try dsimp only at hSw); (try simp only [rl]); go_simp; (try with_reducible rfl))); (try simp only [rl])
      (refine wpAnyH_take (i := 19) (v := ?_) (Array.getElem?_eq_getElem (by decide)) (by kernel_rfl) (by kernel_rfl) (by kernel_rfl) (fun _ _ _ h => h) (Or.inl ⟨by kernel_rfl, ?_⟩) (by assumption) ?_); rotate_left; (focus (intro w hSw; (try dsimp only at hSw); (try simp only [rl]); go_simp; (try with_reducible rfl))); (try simp only [rl])
      (refine wpAnyH_take (i := 20) (v := ?_) (Array.getElem?_eq_getElem (by decide)) (by kernel_rfl) (by kernel_rfl) (by kernel_rfl) (fun _ _ _ h => h) (Or.inl ⟨by kernel_rfl, ?_⟩) (by assumption) ?_); rotate_left; (focus (intro w hSw; (try dsimp only at hSw); (try simp only [rl]); go_simp; (try with_reducible rfl))); (try simp only [rl])
      (refine wpAnyH_take (i := 21) (v := ?_) (Array.getElem?_eq_getElem (by decide)) (by kernel_rfl) (by kernel_rfl) (by kernel_rfl) (fun _ _ _ h => h) (Or.inl ⟨by kernel_rfl, ?_⟩) (by assumption) ?_); rotate_left; (focus (intro w hSw; (try dsimp only at hSw); (try simp only [rl]); go_simp; (try with_reducible rfl))); (try simp only [rl])
      (refine wpAnyH_take (i := 22) (v := ?_) (Array.getElem?_eq_getElem (by decide)) (by kernel_rfl) (by kernel_rfl) (by kernel_rfl) (fun _ _ _ h => h) (Or.inl ⟨by kernel_rfl, ?_⟩) (by assumption) ?_); rotate_left; (focus (intro w hSw; (try dsimp only at hSw); (try simp only [rl]); go_simp; (try with_reducible rfl))); (try simp only [rl])
      (refine wpAnyH_take (i := 23) (v := ?_) (Array.getElem?_eq_getElem (by decide)) (by kernel_rfl) (by kernel_rfl) (by kernel_rfl) (fun _ _ _ h => h) (Or.inl ⟨by kernel_rfl, ?_⟩) (by assumption) ?_); rotate_left; (focus (intro w hSw; (try dsimp only at hSw); (try simp only [rl]); go_simp; (try with_reducible rfl))); (try simp only [rl])
      (refine wpAnyH_take (i := 24) (v := ?_) (Array.getElem?_eq_getElem (by decide)) (by kernel_rfl) (by kernel_rfl) (by kernel_rfl) (fun _ _ _ h => h) (Or.inl ⟨by kernel_rfl, ?_⟩) (by assumption) ?_); rotate_left; (focus (intro w hSw; (try dsimp only at hSw); (try simp only [rl]); go_simp; (try with_reducible rfl))); (try simp only [rl])
      refine wpAnyH_done (by kernel_rfl) ?_ _
      go_wp2_with fail
      go_ret
      exact ⟨ret_bool (goodOws_bad hlt (fun h => h.2.2.1 Hpe.out)).symm, Xt⟩
     ·have hpi : (((l[0]).paths.length : Int) == 0) = false := by have := List.length_pos_iff.2 hpe; simp; omega
      have Hpne := Lib.hid hpe
      clear hpe
      have Sof : ∀ w', Ext wa w' → (w'.cell? ⟨wo.heap.size, 0, none⟩ = some (.string (l[0]).name) ∧ w'.cell? ⟨wo.heap.size, 1, none⟩ = some (.slice pa (l[0]).paths.length pc)) := fun w' e => ⟨e.cell (hB.cells 0), e.cell (hB.cells 1)⟩
      refine wp_region_held_drew (S := fun w' => w'.cell? ⟨wo.heap.size, 0, none⟩ = some (.string (l[0]).name) ∧ w'.cell? ⟨wo.heap.size, 1, none⟩ = some (.slice pa (l[0]).paths.length pc)) (by kernel_rfl) (Sof _ Xt) (fun hHeld => ?_)
      (refine wpAnyH_take (i := 0) (v := ?_) (Array.getElem?_eq_getElem (by decide)) (by kernel_rfl) (by kernel_rfl) (by kernel_rfl) (fun _ _ _ h => h) (Or.inl ⟨by kernel_rfl, ?_⟩) (by assumption) ?_); rotate_left; (focus (intro w hSw; (try dsimp only at hSw); (try simp only [rl]); go_simp; (try with_reducible rfl))); (try simp only [rl])
      (refine wpAnyH_take (i := 1) (v := ?_) (Array.getElem?_eq_getElem (by decide)) (by kernel_rfl) (by kernel_rfl) (by kernel_rfl) (fun _ _ _ h => h) (Or.inl ⟨by kernel_rfl, ?_⟩) (by assumption) ?_); rotate_left; (focus (intro w hSw; (try dsimp only at hSw); (try simp only [rl]); go_simp; (try with_reducible rfl))); (try simp only [rl])
      (refine wpAnyH_ready (rs := [2]) (by kernel_rfl) (by simp) ?_); (refine AllReadyH.cons (Array.getElem?_eq_getElem (by decide)) (fun K hK => ?_) AllReadyH.nil); (try simp only [rl])
      (try go_simp)
      (refine (named_any _ _ (by omega)).mono ?_)
      rw [Hnm.out]
      rintro e w4 ⟨rfl, rfl⟩
      (try go_simp)
      refine hK.out _ _ (Sof _ Xt) (fun hHeld => ?_)
      clear hK K
      (try simp only [rl])
      (refine wpAnyH_take (i := 3) (v := ?_) (Array.getElem?_eq_getElem (by decide)) (by kernel_rfl) (by kernel_rfl) (by kernel_rfl) (fun _ _ _ h => h) (Or.inl ⟨by kernel_rfl, ?_⟩) (by assumption) ?_); rotate_left; (focus (intro w hSw; (try dsimp only at hSw); (try simp only [rl]); go_simp; (try with_reducible rfl))); (try simp only [rl])
      (refine wpAnyH_take (i := 4) (v := ?_) (Array.getElem?_eq_getElem (by decide)) (by kernel_rfl) (by kernel_rfl) (by kernel_rfl) (fun _ _ _ h => h) (Or.inl ⟨by kernel_rfl, ?_⟩) (by assumption) ?_); rotate_left; (focus (intro w hSw; (try dsimp only at hSw); (try simp only [rl]); go_simp; (try with_reducible rfl))); (try simp only [rl])
      (refine wpAnyH_take (i := 5) (v := ?_) (Array.getElem?_eq_getElem (by decide)) (by kernel_rfl) (by kernel_rfl) (by kernel_rfl) (fun _ _ _ h => h) (Or.inl ⟨by kernel_rfl, ?_⟩) (by assumption) ?_); rotate_left; (focus (intro w hSw; (try dsimp only at hSw); (try simp only [rl]); go_simp; (try with_reducible rfl))); (try simp only [rl])
      (refine wpAnyH_take (i := 6) (v := ?_) (Array.getElem?_eq_getElem (by decide)) (by kernel_rfl) (by kernel_rfl) (by kernel_rfl) (fun _ _ _ h => h) (Or.inl ⟨by kernel_rfl, ?_⟩) (by assumption) ?_); rotate_left; (focus (intro w hSw; (try dsimp only at hSw); (try simp only [rl]); go_simp; (try with_reducible rfl))); (try simp only [rl])
      (refine wpAnyH_take (i := 7) (v := ?_) (Array.getElem?_eq_getElem (by decide)) (by kernel_rfl) (by kernel_rfl) (by kernel_rfl) (fun _ _ _ h => h) (Or.inl ⟨by kernel_rfl, ?_⟩) (by assumption) ?_); rotate_left; (focus (intro w hSw; (try dsimp only at hSw); (try simp only [rl]); go_simp; (try with_reducible rfl))); (try simp only [rl])
      (refine wpAnyH_take (i := 8) (v := undef) (Array.getElem?_eq_getElem (by decide)) (by kernel_rfl) (by kernel_rfl) (by kernel_rfl) (fun _ _ _ h => h) (Or.inr ⟨by kernel_rfl, rfl⟩) (by assumption) ?_); (try simp only [rl])
      (refine wpAnyH_take (i := 9) (v := undef) (Array.getElem?_eq_getElem (by decide)) (by kernel_rfl) (by kernel_rfl) (by kernel_rfl) (fun _ _ _ h => h) (Or.inr ⟨by kernel_rfl, rfl⟩) (by assumption) ?_); (try simp only [rl])
      (refine wpAnyH_take (i := 10) (v := undef) (Array.getElem?_eq_getElem (by decide)) (by kernel_rfl) (by kernel_rfl) (by kernel_rfl) (fun _ _ _ h => h) (Or.inr ⟨by kernel_rfl, rfl⟩) (by assumption) ?_); (try simp only [rl])
      (refine wpAnyH_take (i := 11) (v := undef) (Array.getElem?_eq_getElem (by decide)) (by kernel_rfl) (by kernel_rfl) (by kernel_rfl) (fun _ _ _ h => h) (Or.inr ⟨by kernel_rfl, rfl⟩) (by assumption) ?_); (try simp only [rl])
      (refine wpAnyH_take (i := 12) (v := undef) (Array.getElem?_eq_getElem (by decide)) (by kernel_rfl) (by kernel_rfl) (by kernel_rfl) (fun _ _ _ h => h) (Or.inr ⟨by kernel_rfl, rfl⟩) (by assumption) ?_); (try simp only [rl])
      (refine wpAnyH_take (i := 13) (v := undef) (Array.getElem?_eq_getElem (by decide)) (by kernel_rfl) (by kernel_rfl) (by kernel_rfl) (fun _ _ _ h => h) (Or.inr ⟨by kernel_rfl, rfl⟩) (by assumption) ?_); (try simp only [rl])
      (refine wpAnyH_take (i := 14) (v := undef) (Array.getElem?_eq_getElem (by decide)) (by kernel_rfl) (by kernel_rfl) (by kernel_rfl) (fun _ _ _ h => h) (Or.inr ⟨by kernel_rfl, rfl⟩) (by assumption) ?_); (try simp only [rl])
      (refine wpAnyH_take (i := 15) (v := undef) (Array.getElem?_eq_getElem (by decide)) (by kernel_rfl) (by kernel_rfl) (by kernel_rfl) (fun _ _ _ h => h) (Or.inr ⟨by kernel_rfl, rfl⟩) (by assumption) ?_); (try simp only [rl])
      (refine wpAnyH_take (i := 16) (v := undef) (Array.getElem?_eq_getElem (by decide)) (by kernel_rfl) (by kernel_rfl) (by kernel_rfl) (fun _ _ _ h => h) (Or.inr ⟨by kernel_rfl, rfl⟩) (by assumption) ?_); (try simp only [rl])
      (refine wpAnyH_take (i := 17) (v := ?_) (Array.getElem?_eq_getElem (by decide)) (by kernel_rfl) (by kernel_rfl) (by kernel_rfl) (fun _ _ _ h => h) (Or.inl ⟨by kernel_rfl, ?_⟩) (by assumption) ?_); rotate_left; (focus (intro w hSw; (try dsimp only at hSw); (try simp only [rl]); go_simp; (try with_reducible rfl))); (try simp only [rl])
      (refine wpAnyH_take (i := 18) (v := ?_) (Array.getElem?_eq_getElem (by decide)) (by kernel_rfl) (by kernel_rfl) (by kernel_rfl) (fun _ _ _ h => h) (Or.inl ⟨by kernel_rfl, ?_⟩) (by assumption) ?_); rotate_left; (focus (intro w hSw; (try dsimp only at hSw); (try simp only [rl]); go_simp; (try with_reducible rfl))); (try simp only [rl])
      (refine wpAnyH_take (i := 19) (v := ?_) (Array.getElem?_eq_getElem (by decide)) (by kernel_rfl) (by kernel_rfl) (by kernel_rfl) (fun _ _ _ h => h) (Or.inl ⟨by kernel_rfl, ?_⟩) (by assumption) ?_); rotate_left; (focus (intro w hSw; (try dsimp only at hSw); (try simp only [rl]); go_simp; (try with_reducible rfl))); (try simp only [rl])
      (refine wpAnyH_take (i := 20) (v := ?_) (Array.getElem?_eq_getElem (by decide)) (by kernel_rfl) (by kernel_rfl) (by kernel_rfl) (fun _ _ _ h => h) (Or.inl ⟨by kernel_rfl, ?_⟩) (by assumption) ?_); rotate_left; (focus (intro w hSw; (try dsimp only at hSw); (try simp only [rl]); go_simp; (try with_reducible rfl))); (try simp only [rl])
      (refine wpAnyH_take (i := 21) (v := ?_) (Array.getElem?_eq_getElem (by decide)) (by kernel_rfl) (by kernel_rfl) (by kernel_rfl) (fun _ _ _ h => h) (Or.inl ⟨by kernel_rfl, ?_⟩) (by assumption) ?_); rotate_left; (focus (intro w hSw; (try dsimp only at hSw); (try simp only [rl]); go_simp; (try with_reducible rfl))); (try simp only [rl])
      (refine wpAnyH_take (i := 22) (v := ?_) (Array.getElem?_eq_getElem (by decide)) (by kernel_rfl) (by kernel_rfl) (by kernel_rfl) (fun _ _ _ h => h) (Or.inl ⟨by kernel_rfl, ?_⟩) (by assumption) ?_); rotate_left; (focus (intro w hSw; (try dsimp only at hSw); (try simp only [rl]); go_simp; (try with_reducible rfl))); (try simp only [rl])
      (refine wpAnyH_take (i := 23) (v := ?_) (Array.getElem?_eq_getElem (by decide)) (by kernel_rfl) (by kernel_rfl) (by kernel_rfl) (fun _ _ _ h => h) (Or.inl ⟨by kernel_rfl, ?_⟩) (by assumption) ?_); rotate_left; (focus (intro w hSw; (try dsimp only at hSw); (try simp only [rl]); go_simp; (try with_reducible rfl))); (try simp only [rl])
      (refine wpAnyH_take (i := 24) (v := ?_) (Array.getElem?_eq_getElem (by decide)) (by kernel_rfl) (by kernel_rfl) (by kernel_rfl) (fun _ _ _ h => h) (Or.inl ⟨by kernel_rfl, ?_⟩) (by assumption) ?_); rotate_left; (focus (intro w hSw; (try dsimp only at hSw); (try simp only [rl]); go_simp; (try with_reducible rfl))); (try simp only [rl])
      refine wpAnyH_done (by kernel_rfl) ?_ _
      go_wp2_with fail
      go_loopg [44] (l[0]).paths.length (fun g i wr => ∃ j : Nat, j ≤ (l[0]).paths.length ∧ i = .int .i64 j ∧ g = (l[0]).paths.length - j ∧ (∀ i (h : i < (l[0]).paths.length), i < j → PathOk (l[0]).paths i h) ∧ Box wr wo.heap.size #[.string (l[0]).name, .slice pa (l[0]).paths.length pc] 42 ∧ Ext wo wr)
      case atStart => exact ⟨0, Nat.zero_le _, rfl, rfl, fun i h h0 => absurd h0 (Nat.not_lt_zero _), Bxt, Xt⟩
      case round =>
       obtain ⟨j, hj, rfl, rfl, hokj, hBi, hxi⟩ := hrel
       have Hokj := Lib.hid hokj
       clear hokj
       have hx2 : Ext w wr := hx.trans hxi
       have hci := hBi.cells; have hfi := hBi.free; have hli := hBi.lt
       by_cases hjl : j < (l[0]).paths.length
       ·obtain ⟨pb, po, rfl, hS2, hC⟩ := Hst.out.resolve_left (by intro h; rw [h] at hjl; simp at hjl)
        have e0 := hxi.cell (hC j hjl)
        have hpp : j = 0 ∨ ∃ mj, j = mj + 1 ∧ ∃ (h : mj < (l[0]).paths.length), wr.cell? ⟨pb, po + mj, none⟩ = some (.string ((l[0]).paths[mj])) := by
         cases j with
         | zero => exact .inl rfl
         | succ mj => exact .inr ⟨mj, rfl, by omega, hxi.cell (hC mj (by omega))⟩
        have hps := Hpz.out j hjl
        clear hC
        have hbad : ¬ PathOk (l[0]).paths j hjl → goodOws l = false := fun h => goodOws_bad hlt (fun hw => by have := hw.2.2.2; rw [goodPaths_bad hjl h] at this; cases this)
        have Hbad := Lib.hid hbad
        clear hbad
        go_wp2_with fail
        (refine (splitD_any _ _ (by omega) (hm.ext Xt)).mono ?_)
        rintro e w5 ⟨na, nc, rfl, hsln, hstn, h5⟩
        have hx3 : Ext w w5 := Xt
        have hBi := Box.ext h5 hBi
        have Hstn := Lib.hid hstn
        have hns := namesD_small (l[0]).paths[j]
        have e0 := h5.cell e0
        have Hpe := Lib.hid (pathB_eq (l[0]).paths[j])
        have hxi2 : Ext wo w5 := hxi.trans h5
        clear hci hfi hli hstn
        have hpp : j = 0 ∨ ∃ mj, j = mj + 1 ∧ ∃ (h : mj < (l[0]).paths.length), w5.cell? ⟨pb, po + mj, none⟩ = some (.string ((l[0]).paths[mj])) := by
         rcases hpp with h | ⟨mj, h1, h2, h3⟩
         ·exact .inl h
         ·exact .inr ⟨mj, h1, h2, h5.cell h3⟩
        clear h5 hxi
        have hci := hBi.cells; have hfi := hBi.free; have hli := hBi.lt
        cases hsm : (namesB (l[0]).paths[j]).isSome with
        | false =>
         rw [hsm] at Hpe
         go_wp2_with fail
         go_ret
         exact ⟨ret_bool (Hbad.out (fun h => by have := h.1; rw [Hpe.out] at this; cases this)).symm, Xt⟩
        | true =>
         rw [hsm] at Hpe
         have Hjn := Lib.hid (join_namesD hsm)
         clear hsm
         by_cases h0 : (namesD (l[0]).paths[j]).length = 0
         ·rw [decide_eq_true h0] at Hpe
          have h0i : (((namesD (l[0]).paths[j]).length : Int) == 0) = true := by rw [h0]; rfl
          clear h0
          go_wp2_with fail
          go_ret
          exact ⟨ret_bool (Hbad.out (fun h => by have := h.1; rw [Hpe.out] at this; cases this)).symm, Xt⟩
         ·rw [decide_eq_false h0] at Hpe
          have h0i : (((namesD (l[0]).paths[j]).length : Int) == 0) = false := beq_eq_false_iff_ne.2 (by omega)
          clear h0
          have hbe : ((l[0]).paths[j].toList == (l[0]).paths[j].toList) = true := by simp
          rcases hpp with rfl | ⟨mj, rfl, hmj, e1⟩
          ·go_wp2_with fail
           (refine (joinB_any na nc _ _ _ (Hstn.out.ext Xt) (fun q hq => by have := hns.2 q hq; omega) (by omega) (hm.ext Xt)).mono ?_)
           rw [Hjn.out]
           rintro e w6 ⟨rfl, h6⟩
           have hBi := Box.ext (w' := w6) Xt hBi
           clear hci hfi hli
           go_wp2_with fail
           go_roundg ((l[0]).paths.length - (0 + 1))
           case measure => omega
           case rel => exact ⟨0 + 1, by omega, by go_num, rfl, fun i h hi => by
            have ei : i = 0 := by omega
            subst ei
            exact ⟨by rw [Hpe.out]; rfl, fun h => absurd h (Nat.lt_irrefl _)⟩, Bxt, Xt⟩
          ·have hkk2 : (((mj + 1 : Nat) : Int) - 1) = (mj : Int) := by omega
           have hmw2 : IntKind.i64.wrap (mj : Int) = (mj : Int) := wrap_nat (by omega)
           have hmj0 : (0 : Int) ≤ (mj : Int) := by omega
           have hmj1 : (mj : Int) < ((l[0]).paths.length : Int) := by omega
           cases hlt2 : ltS (l[0]).paths[mj] (l[0]).paths[mj + 1] with
           | false =>
            have hb := geq_of hlt2
            have Hlt2 := Lib.hid hlt2
            clear hlt2
            go_wp2_with fail
            go_ret
            exact ⟨ret_bool (Hbad.out (fun h => by have : ltS (l[0]).paths[mj] (l[0]).paths[mj + 1] = true := h.2 (by omega); rw [Hlt2.out] at this; cases this)).symm, Xt⟩
           | true =>
            have hb := geq_of hlt2
            have Hlt2 := Lib.hid hlt2
            clear hlt2
            go_wp2_with fail
            (refine (joinB_any na nc _ _ _ (Hstn.out.ext Xt) (fun q hq => by have := hns.2 q hq; omega) (by omega) (hm.ext Xt)).mono ?_)
            rw [Hjn.out]
            rintro e w6 ⟨rfl, h6⟩
            have hBi := Box.ext (w' := w6) Xt hBi
            clear hci hfi hli
            go_wp2_with fail
            go_roundg ((l[0]).paths.length - (mj + 1 + 1))
            case measure => omega
            case rel => exact ⟨mj + 1 + 1, by omega, by go_num, rfl, fun i h hi => by
             by_cases hij : i = mj + 1
             ·subst hij
              exact ⟨by rw [Hpe.out]; rfl, fun _ => Hlt2.out⟩
             ·exact Hokj.out i h (by omega), Bxt, Xt⟩
       ·have hgp : goodPaths (l[0]).paths = true := goodPaths_ok (fun i h => Hokj.out i h (by omega))
        have Hgp := Lib.hid hgp
        clear hgp
        go_wp2_with fail
        go_roundg (l.length - (0 + 1))
        case measure => omega
        case rel => exact ⟨0 + 1, by omega, by go_num, rfl, fun i h hi => by
         by_cases hik : i = 0
         ·subst hik
          exact ⟨Hnm.out, Hpv.out, Hpne.out, Hgp.out⟩
         ·exact Hok.out i h (by omega), Xt⟩
    ·have d0 := hxa.cell d0
     have hkk : (((m + 1 : Nat) : Int) - 1) = (m : Int) := by omega
     have hmw : IntKind.i64.wrap (m : Int) = (m : Int) := wrap_nat (by omega)
     have hm0 : (0 : Int) ≤ (m : Int) := by omega
     have hm1 : (m : Int) < (l.length : Int) := by omega
     cases hlt2 : ltS (l[m]).name (l[m + 1]).name with
     | false =>
      have hb := geq_of hlt2
      have Hlt2 := Lib.hid hlt2
      clear hlt2
      have Sof : ∀ w', Ext wa w' → (w'.cell? ⟨wo.heap.size, 0, none⟩ = some (.string (l[m + 1]).name) ∧ w'.cell? ⟨wo.heap.size, 1, none⟩ = some (.slice pa (l[m + 1]).paths.length pc) ∧ w'.cell? ⟨b, o + m * 2, none⟩ = some (.string (l[m]).name)) := fun w' e => ⟨e.cell (hB.cells 0), e.cell (hB.cells 1), e.cell (d0)⟩
      refine wp_region_held_drew (S := fun w' => w'.cell? ⟨wo.heap.size, 0, none⟩ = some (.string (l[m + 1]).name) ∧ w'.cell? ⟨wo.heap.size, 1, none⟩ = some (.slice pa (l[m + 1]).paths.length pc) ∧ w'.cell? ⟨b, o + m * 2, none⟩ = some (.string (l[m]).name)) (by kernel_rfl) (Sof _ Xt) (fun hHeld => ?_)
      (refine wpAnyH_take (i := 0) (v := ?_) (Array.getElem?_eq_getElem (by decide)) (by kernel_rfl) (by kernel_rfl) (by kernel_rfl) (fun _ _ _ h => h) (Or.inl ⟨by kernel_rfl, ?_⟩) (by assumption) ?_); rotate_left; (focus (intro w hSw; (try dsimp only at hSw); (try simp only [rl]); go_simp; (try with_reducible rfl))); (try simp only [rl])
      (refine wpAnyH_take (i := 1) (v := ?_) (Array.getElem?_eq_getElem (by decide)) (by kernel_rfl) (by kernel_rfl) (by kernel_rfl) (fun _ _ _ h => h) (Or.inl ⟨by kernel_rfl, ?_⟩) (by assumption) ?_); rotate_left; (focus (intro w hSw; (try dsimp only at hSw); (try simp only [rl]); go_simp; (try with_reducible rfl))); (try simp only [rl])
      (refine wpAnyH_ready (rs := [2]) (by kernel_rfl) (by simp) ?_); (refine AllReadyH.cons (Array.getElem?_eq_getElem (by decide)) (fun K hK => ?_) AllReadyH.nil); (try simp only [rl])
      (try go_simp)
      (refine (named_any _ _ (by omega)).mono ?_)
      rw [Hnm.out]
      rintro e w4 ⟨rfl, rfl⟩
      (try go_simp)
      refine hK.out _ _ (Sof _ Xt) (fun hHeld => ?_)
      clear hK K
      (try simp only [rl])
      (refine wpAnyH_take (i := 3) (v := ?_) (Array.getElem?_eq_getElem (by decide)) (by kernel_rfl) (by kernel_rfl) (by kernel_rfl) (fun _ _ _ h => h) (Or.inl ⟨by kernel_rfl, ?_⟩) (by assumption) ?_); rotate_left; (focus (intro w hSw; (try dsimp only at hSw); (try simp only [rl]); go_simp; (try with_reducible rfl))); (try simp only [rl])
      (refine wpAnyH_take (i := 4) (v := ?_) (Array.getElem?_eq_getElem (by decide)) (by kernel_rfl) (by kernel_rfl) (by kernel_rfl) (fun _ _ _ h => h) (Or.inl ⟨by kernel_rfl, ?_⟩) (by assumption) ?_); rotate_left; (focus (intro w hSw; (try dsimp only at hSw); (try simp only [rl]); go_simp; (try with_reducible rfl))); (try simp only [rl])
      (refine wpAnyH_take (i := 5) (v := ?_) (Array.getElem?_eq_getElem (by decide)) (by kernel_rfl) (by kernel_rfl) (by kernel_rfl) (fun _ _ _ h => h) (Or.inl ⟨by kernel_rfl, ?_⟩) (by assumption) ?_); rotate_left; (focus (intro w hSw; (try dsimp only at hSw); (try simp only [rl]); go_simp; (try with_reducible rfl))); (try simp only [rl])
      (refine wpAnyH_take (i := 6) (v := ?_) (Array.getElem?_eq_getElem (by decide)) (by kernel_rfl) (by kernel_rfl) (by kernel_rfl) (fun _ _ _ h => h) (Or.inl ⟨by kernel_rfl, ?_⟩) (by assumption) ?_); rotate_left; (focus (intro w hSw; (try dsimp only at hSw); (try simp only [rl]); go_simp; (try with_reducible rfl))); (try simp only [rl])
      (refine wpAnyH_take (i := 7) (v := ?_) (Array.getElem?_eq_getElem (by decide)) (by kernel_rfl) (by kernel_rfl) (by kernel_rfl) (fun _ _ _ h => h) (Or.inl ⟨by kernel_rfl, ?_⟩) (by assumption) ?_); rotate_left; (focus (intro w hSw; (try dsimp only at hSw); (try simp only [rl]); go_simp; (try with_reducible rfl))); (try simp only [rl])
      (refine wpAnyH_take (i := 8) (v := ?_) (Array.getElem?_eq_getElem (by decide)) (by kernel_rfl) (by kernel_rfl) (by kernel_rfl) (fun _ _ _ h => h) (Or.inl ⟨by kernel_rfl, ?_⟩) (by assumption) ?_); rotate_left; (focus (intro w hSw; (try dsimp only at hSw); (try simp only [rl]); go_simp; (try with_reducible rfl))); (try simp only [rl])
      (refine wpAnyH_take (i := 9) (v := ?_) (Array.getElem?_eq_getElem (by decide)) (by kernel_rfl) (by kernel_rfl) (by kernel_rfl) (fun _ _ _ h => h) (Or.inl ⟨by kernel_rfl, ?_⟩) (by assumption) ?_); rotate_left; (focus (intro w hSw; (try dsimp only at hSw); (try simp only [rl]); go_simp; (try with_reducible rfl))); (try simp only [rl])
      (refine wpAnyH_take (i := 10) (v := ?_) (Array.getElem?_eq_getElem (by decide)) (by kernel_rfl) (by kernel_rfl) (by kernel_rfl) (fun _ _ _ h => h) (Or.inl ⟨by kernel_rfl, ?_⟩) (by assumption) ?_); rotate_left; (focus (intro w hSw; (try dsimp only at hSw); (try simp only [rl]); go_simp; (try with_reducible rfl))); (try simp only [rl])
      (refine wpAnyH_take (i := 11) (v := ?_) (Array.getElem?_eq_getElem (by decide)) (by kernel_rfl) (by kernel_rfl) (by kernel_rfl) (fun _ _ _ h => h) (Or.inl ⟨by kernel_rfl, ?_⟩) (by assumption) ?_); rotate_left; (focus (intro w hSw; (try dsimp only at hSw); (try simp only [rl]); go_simp; (try with_reducible rfl))); (try simp only [rl])
      (refine wpAnyH_take (i := 12) (v := ?_) (Array.getElem?_eq_getElem (by decide)) (by kernel_rfl) (by kernel_rfl) (by kernel_rfl) (fun _ _ _ h => h) (Or.inl ⟨by kernel_rfl, ?_⟩) (by assumption) ?_); rotate_left; (focus (intro w hSw; (try dsimp only at hSw); (try simp only [rl]); go_simp; (try with_reducible rfl))); (try simp only [rl])
      (refine wpAnyH_take (i := 13) (v := ?_) (Array.getElem?_eq_getElem (by decide)) (by kernel_rfl) (by kernel_rfl) (by kernel_rfl) (fun _ _ _ h => h) (Or.inl ⟨by kernel_rfl, ?_⟩) (by assumption) ?_); rotate_left; (focus (intro w hSw; (try dsimp only at hSw); (try simp only [rl]); go_simp; (try with_reducible rfl))); (try simp only [rl])
      (refine wpAnyH_take (i := 14) (v := ?_) (Array.getElem?_eq_getElem (by decide)) (by kernel_rfl) (by kernel_rfl) (by kernel_rfl) (fun _ _ _ h => h) (Or.inl ⟨by kernel_rfl, ?_⟩) (by assumption) ?_); rotate_left; (focus (intro w hSw; (try dsimp only at hSw); (try simp only [rl]); go_simp; (try with_reducible rfl))); (try simp only [rl])
      (refine wpAnyH_take (i := 15) (v := ?_) (Array.getElem?_eq_getElem (by decide)) (by kernel_rfl) (by kernel_rfl) (by kernel_rfl) (fun _ _ _ h => h) (Or.inl ⟨by kernel_rfl, ?_⟩) (by assumption) ?_); rotate_left; (focus (intro w hSw; (try dsimp only at hSw); (try simp only [rl]); go_simp; (try with_reducible rfl))); (try simp only [rl])
      (refine wpAnyH_take (i := 16) (v := ?_) (Array.getElem?_eq_getElem (by decide)) (by kernel_rfl) (by kernel_rfl) (by kernel_rfl) (fun _ _ _ h => h) (Or.inl ⟨by kernel_rfl, ?_⟩) (by assumption) ?_); rotate_left; (focus (intro w hSw; (try dsimp only at hSw); (try simp only [rl]); go_simp; (try with_reducible rfl))); (try simp only [rl])
      (refine wpAnyH_take (i := 17) (v := ?_) (Array.getElem?_eq_getElem (by decide)) (by kernel_rfl) (by kernel_rfl) (by kernel_rfl) (fun _ _ _ h => h) (Or.inl ⟨by kernel_rfl, ?_⟩) (by assumption) ?_); rotate_left; (focus (intro w hSw; (try dsimp only at hSw); (try simp only [rl]); go_simp; (try with_reducible rfl))); (try simp only [rl])
      (refine wpAnyH_take (i := 18) (v := ?_) (Array.getElem?_eq_getElem (by decide)) (by kernel_rfl) (by kernel_rfl) (by kernel_rfl) (fun _ _ _ h => h) (Or.inl ⟨by kernel_rfl, ?_⟩) (by assumption) ?_); rotate_left; (focus (intro w hSw; (try dsimp only at hSw); (try simp only [rl]); go_simp; (try with_reducible rfl))); (try simp only [rl])
      (refine wpAnyH_take (i := 19) (v := ?_) (Array.getElem?_eq_getElem (by decide)) (by kernel_rfl) (by kernel_rfl) (by kernel_rfl) (fun _ _ _ h => h) (Or.inl ⟨by kernel_rfl, ?_⟩) (by assumption) ?_); rotate_left; (focus (intro w hSw; (try dsimp only at hSw); (try simp only [rl]); go_simp; (try with_reducible rfl))); (try simp only [rl])
      (refine wpAnyH_take (i := 20) (v := undef) (Array.getElem?_eq_getElem (by decide)) (by kernel_rfl) (by kernel_rfl) (by kernel_rfl) (fun _ _ _ h => h) (Or.inr ⟨by kernel_rfl, rfl⟩) (by assumption) ?_); (try simp only [rl])
      (refine wpAnyH_take (i := 21) (v := undef) (Array.getElem?_eq_getElem (by decide)) (by kernel_rfl) (by kernel_rfl) (by kernel_rfl) (fun _ _ _ h => h) (Or.inr ⟨by kernel_rfl, rfl⟩) (by assumption) ?_); (try simp only [rl])
      (refine wpAnyH_take (i := 22) (v := undef) (Array.getElem?_eq_getElem (by decide)) (by kernel_rfl) (by kernel_rfl) (by kernel_rfl) (fun _ _ _ h => h) (Or.inr ⟨by kernel_rfl, rfl⟩) (by assumption) ?_); (try simp only [rl])
      (refine wpAnyH_take (i := 23) (v := undef) (Array.getElem?_eq_getElem (by decide)) (by kernel_rfl) (by kernel_rfl) (by kernel_rfl) (fun _ _ _ h => h) (Or.inr ⟨by kernel_rfl, rfl⟩) (by assumption) ?_); (try simp only [rl])
      (refine wpAnyH_take (i := 24) (v := ?_) (Array.getElem?_eq_getElem (by decide)) (by kernel_rfl) (by kernel_rfl) (by kernel_rfl) (fun _ _ _ h => h) (Or.inl ⟨by kernel_rfl, ?_⟩) (by assumption) ?_); rotate_left; (focus (intro w hSw; (try dsimp only at hSw); (try simp only [rl]); go_simp; (try with_reducible rfl))); (try simp only [rl])
      refine wpAnyH_done (by kernel_rfl) ?_ _
      go_wp2_with fail
      go_ret
      exact ⟨ret_bool (goodOws_bad hlt (fun h => by have : ltS (l[m]).name (l[m + 1]).name = true := h.2.1 (by omega); rw [Hlt2.out] at this; cases this)).symm, Xt⟩
     | true =>
      have hb := geq_of hlt2
      have Hpv := Lib.hid (show 0 < m + 1 → ltS (l[m + 1 - 1]'(by omega)).name (l[m + 1]).name = true from fun _ => hlt2)
      clear hlt2
      by_cases hpe : (l[m + 1]).paths = []
      ·have hpi : (((l[m + 1]).paths.length : Int) == 0) = true := by rw [hpe]; rfl
       have Hpe := Lib.hid hpe
       clear hpe
       have Sof : ∀ w', Ext wa w' → (w'.cell? ⟨wo.heap.size, 0, none⟩ = some (.string (l[m + 1]).name) ∧ w'.cell? ⟨wo.heap.size, 1, none⟩ = some (.slice pa (l[m + 1]).paths.length pc) ∧ w'.cell? ⟨b, o + m * 2, none⟩ = some (.string (l[m]).name)) := fun w' e => ⟨e.cell (hB.cells 0), e.cell (hB.cells 1), e.cell (d0)⟩
       refine wp_region_held_drew (S := fun w' => w'.cell? ⟨wo.heap.size, 0, none⟩ = some (.string (l[m + 1]).name) ∧ w'.cell? ⟨wo.heap.size, 1, none⟩ = some (.slice pa (l[m + 1]).paths.length pc) ∧ w'.cell? ⟨b, o + m * 2, none⟩ = some (.string (l[m]).name)) (by kernel_rfl) (Sof _ Xt) (fun hHeld => ?_)
       (refine wpAnyH_take (i := 0) (v := ?_) (Array.getElem?_eq_getElem (by decide)) (by kernel_rfl) (by kernel_rfl) (by kernel_rfl) (fun _ _ _ h => h) (Or.inl ⟨by kernel_rfl, ?_⟩) (by assumption) ?_); rotate_left; (focus (intro w hSw; (try dsimp only at hSw); (try simp only [rl]); go_simp; (try with_reducible rfl))); (try simp only [rl])
       (refine wpAnyH_take (i := 1) (v := ?_) (Array.getElem?_eq_getElem (by decide)) (by kernel_rfl) (by kernel_rfl) (by kernel_rfl) (fun _ _ _ h => h) (Or.inl ⟨by kernel_rfl, ?_⟩) (by assumption) ?_); rotate_left; (focus (intro w hSw; (try dsimp only at hSw); (try simp only [rl]); go_simp; (try with_reducible rfl))); (try simp only [rl])
       (refine wpAnyH_ready (rs := [2]) (by kernel_rfl) (by simp) ?_); (refine AllReadyH.cons (Array.getElem?_eq_getElem (by decide)) (fun K hK => ?_) AllReadyH.nil); (try simp only [rl])
       (try go_simp)
       (refine (named_any _ _ (by omega)).mono ?_)
       rw [Hnm.out]
       rintro e w4 ⟨rfl, rfl⟩
       (try go_simp)
       refine hK.out _ _ (Sof _ Xt) (fun hHeld => ?_)
       clear hK K
       (try simp only [rl])
       (refine wpAnyH_take (i := 3) (v := ?_) (Array.getElem?_eq_getElem (by decide)) (by kernel_rfl) (by kernel_rfl) (by kernel_rfl) (fun _ _ _ h => h) (Or.inl ⟨by kernel_rfl, ?_⟩) (by assumption) ?_); rotate_left; (focus (intro w hSw; (try dsimp only at hSw); (try simp only [rl]); go_simp; (try with_reducible rfl))); (try simp only [rl])
       (refine wpAnyH_take (i := 4) (v := ?_) (Array.getElem?_eq_getElem (by decide)) (by kernel_rfl) (by kernel_rfl) (by kernel_rfl) (fun _ _ _ h => h) (Or.inl ⟨by kernel_rfl, ?_⟩) (by assumption) ?_); rotate_left; (focus (intro w hSw; (try dsimp only at hSw); (try simp only [rl]); go_simp; (try with_reducible rfl))); (try simp only [rl])
       (refine wpAnyH_take (i := 5) (v := ?_) (Array.getElem?_eq_getElem (by decide)) (by kernel_rfl) (by kernel_rfl) (by kernel_rfl) (fun _ _ _ h => h) (Or.inl ⟨by kernel_rfl, ?_⟩) (by assumption) ?_); rotate_left; (focus (intro w hSw; (try dsimp only at hSw); (try simp only [rl]); go_simp; (try with_reducible rfl))); (try simp only [rl])
       (refine wpAnyH_take (i := 6) (v := ?_) (Array.getElem?_eq_getElem (by decide)) (by kernel_rfl) (by kernel_rfl) (by kernel_rfl) (fun _ _ _ h => h) (Or.inl ⟨by kernel_rfl, ?_⟩) (by assumption) ?_); rotate_left; (focus (intro w hSw; (try dsimp only at hSw); (try simp only [rl]); go_simp; (try with_reducible rfl))); (try simp only [rl])
       (refine wpAnyH_take (i := 7) (v := ?_) (Array.getElem?_eq_getElem (by decide)) (by kernel_rfl) (by kernel_rfl) (by kernel_rfl) (fun _ _ _ h => h) (Or.inl ⟨by kernel_rfl, ?_⟩) (by assumption) ?_); rotate_left; (focus (intro w hSw; (try dsimp only at hSw); (try simp only [rl]); go_simp; (try with_reducible rfl))); (try simp only [rl])
       (refine wpAnyH_take (i := 8) (v := ?_) (Array.getElem?_eq_getElem (by decide)) (by kernel_rfl) (by kernel_rfl) (by kernel_rfl) (fun _ _ _ h => h) (Or.inl ⟨by kernel_rfl, ?_⟩) (by assumption) ?_); rotate_left; (focus (intro w hSw; (try dsimp only at hSw); (try simp only [rl]); go_simp; (try with_reducible rfl))); (try simp only [rl])
       (refine wpAnyH_take (i := 9) (v := ?_) (Array.getElem?_eq_getElem (by decide)) (by kernel_rfl) (by kernel_rfl) (by kernel_rfl) (fun _ _ _ h => h) (Or.inl ⟨by kernel_rfl, ?_⟩) (by assumption) ?_); rotate_left; (focus (intro w hSw; (try dsimp only at hSw); (try simp only [rl]); go_simp; (try with_reducible rfl))); (try simp only [rl])
       (refine wpAnyH_take (i := 10) (v := ?_) (Array.getElem?_eq_getElem (by decide)) (by kernel_rfl) (by kernel_rfl) (by kernel_rfl) (fun _ _ _ h => h) (Or.inl ⟨by kernel_rfl, ?_⟩) (by assumption) ?_); rotate_left; (focus (intro w hSw; (try dsimp only at hSw); (try simp only [rl]); go_simp; (try with_reducible rfl))); (try simp only [rl])
       (refine wpAnyH_take (i := 11) (v := ?_) (Array.getElem?_eq_getElem (by decide)) (by kernel_rfl) (by kernel_rfl) (by kernel_rfl) (fun _ _ _ h => h) (Or.inl ⟨by kernel_rfl, ?_⟩) (by assumption) ?_); rotate_left; (focus (intro w hSw; (try dsimp only at hSw); (try simp only [rl]); go_simp; (try with_reducible rfl))); (try simp only [rl])
       (refine wpAnyH_take (i := 12) (v := ?_) (Array.getElem?_eq_getElem (by decide)) (by kernel_rfl) (by kernel_rfl) (by kernel_rfl) (fun _ _ _ h => h) (Or.inl ⟨by kernel_rfl, ?_⟩) (by assumption) ?_); rotate_left; (focus (intro w hSw; (try dsimp only at hSw); (try simp only [rl]); go_simp; (try with_reducible rfl))); (try simp only [rl])
       (refine wpAnyH_take (i := 13) (v := ?_) (Array.getElem?_eq_getElem (by decide)) (by kernel_rfl) (by kernel_rfl) (by kernel_rfl) (fun _ _ _ h => h) (Or.inl ⟨by kernel_rfl, ?_⟩) (by assumption) ?_); rotate_left; (focus (intro w hSw; (try dsimp only at hSw); (try simp only [rl]); go_simp; (try with_reducible rfl))); (try simp only [rl])
       (refine wpAnyH_take (i := 14) (v := ?_) (Array.getElem?_eq_getElem (by decide)) (by kernel_rfl) (by kernel_rfl) (by kernel_rfl) (fun _ _ _ h => h) (Or.inl ⟨by kernel_rfl, ?_⟩) (by assumption) ?_); rotate_left; (focus (intro w hSw; (try dsimp only at hSw); (try simp only [rl]); go_simp; (try with_reducible rfl))); (try simp only [rl])
       (refine wpAnyH_take (i := 15) (v := ?_) (Array.getElem?_eq_getElem (by decide)) (by kernel_rfl) (by kernel_rfl) (by kernel_rfl) (fun _ _ _ h => h) (Or.inl ⟨by kernel_rfl, ?_⟩) (by assumption) ?_); rotate_left; (focus (intro w hSw; (try dsimp only at hSw); (try simp only [rl]); go_simp; (try with_reducible rfl))); (try simp only [rl])
       (refine wpAnyH_take (i := 16) (v := ?_) (Array.getElem?_eq_getElem (by decide)) (by kernel_rfl) (by kernel_rfl) (by kernel_rfl) (fun _ _ _ h => h) (Or.inl ⟨by kernel_rfl, ?_⟩) (by assumption) ?_); rotate_left; (focus (intro w hSw; (try dsimp only at hSw); (try simp only [rl]); go_simp; (try with_reducible rfl))); (try simp only [rl])
       (refine wpAnyH_take (i := 17) (v := ?_) (Array.getElem?_eq_getElem (by decide)) (by kernel_rfl) (by kernel_rfl) (by kernel_rfl) (fun _ _ _ h => h) (Or.inl ⟨by kernel_rfl, ?_⟩) (by assumption) ?_); rotate_left; (focus (intro w hSw; (try dsimp only at hSw); (try simp only [rl]); go_simp; (try with_reducible rfl))); (try simp only [rl])
       (refine wpAnyH_take (i := 18) (v := ?_) (Array.getElem?_eq_getElem (by decide)) (by kernel_rfl) (by kernel_rfl) (by kernel_rfl) (fun _ _ _ h => h) (Or.inl ⟨by kernel_rfl, ?_⟩) (by assumption) ?_); rotate_left; (focus (intro w hSw; (try dsimp only at hSw); (try simp only [rl]); go_simp; (try with_reducible rfl))); (try simp only [rl])
       (refine wpAnyH_take (i := 19) (v := ?_) (Array.getElem?_eq_getElem (by decide)) (by kernel_rfl) (by kernel_rfl) (by kernel_rfl) (fun _ _ _ h => h) (Or.inl ⟨by kernel_rfl, ?_⟩) (by assumption) ?_); rotate_left; (focus (intro w hSw; (try dsimp only at hSw); (try simp only [rl]); go_simp; (try with_reducible rfl))); (try simp only [rl])
       (refine wpAnyH_take (i := 20) (v := ?_) (Array.getElem?_eq_getElem (by decide)) (by kernel_rfl) (by kernel_rfl) (by kernel_rfl) (fun _ _ _ h => h) (Or.inl ⟨by kernel_rfl, ?_⟩) (by assumption) ?_); rotate_left; (focus (intro w hSw; (try dsimp only at hSw); (try simp only [rl]); go_simp; (try with_reducible rfl))); (try simp only [rl])
       (refine wpAnyH_take (i := 21) (v := ?_) (Array.getElem?_eq_getElem (by decide)) (by kernel_rfl) (by kernel_rfl) (by kernel_rfl) (fun _ _ _ h => h) (Or.inl ⟨by kernel_rfl, ?_⟩) (by assumption) ?_); rotate_left; (focus (intro w hSw; (try dsimp only at hSw); (try simp only [rl]); go_simp; (try with_reducible rfl))); (try simp only [rl])
       (refine wpAnyH_take (i := 22) (v := ?_) (Array.getElem?_eq_getElem (by decide)) (by kernel_rfl) (by kernel_rfl) (by kernel_rfl) (fun _ _ _ h => h) (Or.inl ⟨by kernel_rfl, ?_⟩) (by assumption) ?_); rotate_left; (focus (intro w hSw; (try dsimp only at hSw); (try simp only [rl]); go_simp; (try with_reducible rfl))); (try simp only [rl])
       (refine wpAnyH_take (i := 23) (v := ?_) (Array.getElem?_eq_getElem (by decide)) (by kernel_rfl) (by kernel_rfl) (by kernel_rfl) (fun _ _ _ h => h) (Or.inl ⟨by kernel_rfl, ?_⟩) (by assumption) ?_); rotate_left; (focus (intro w hSw; (try dsimp only at hSw); (try simp only [rl]); go_simp; (try with_reducible rfl))); (try simp only [rl])
       (refine wpAnyH_take (i := 24) (v := ?_) (Array.getElem?_eq_getElem (by decide)) (by kernel_rfl) (by kernel_rfl) (by kernel_rfl) (fun _ _ _ h => h) (Or.inl ⟨by kernel_rfl, ?_⟩) (by assumption) ?_); rotate_left; (focus (intro w hSw; (try dsimp only at hSw); (try simp only [rl]); go_simp; (try with_reducible rfl))); (try simp only [rl])
       refine wpAnyH_done (by kernel_rfl) ?_ _
       go_wp2_with fail
       go_ret
       exact ⟨ret_bool (goodOws_bad hlt (fun h => h.2.2.1 Hpe.out)).symm, Xt⟩
      ·have hpi : (((l[m + 1]).paths.length : Int) == 0) = false := by have := List.length_pos_iff.2 hpe; simp; omega
       have Hpne := Lib.hid hpe
       clear hpe
       have Sof : ∀ w', Ext wa w' → (w'.cell? ⟨wo.heap.size, 0, none⟩ = some (.string (l[m + 1]).name) ∧ w'.cell? ⟨wo.heap.size, 1, none⟩ = some (.slice pa (l[m + 1]).paths.length pc) ∧ w'.cell? ⟨b, o + m * 2, none⟩ = some (.string (l[m]).name)) := fun w' e => ⟨e.cell (hB.cells 0), e.cell (hB.cells 1), e.cell (d0)⟩
       refine wp_region_held_drew (S := fun w' => w'.cell? ⟨wo.heap.size, 0, none⟩ = some (.string (l[m + 1]).name) ∧ w'.cell? ⟨wo.heap.size, 1, none⟩ = some (.slice pa (l[m + 1]).paths.length pc) ∧ w'.cell? ⟨b, o + m * 2, none⟩ = some (.string (l[m]).name)) (by kernel_rfl) (Sof _ Xt) (fun hHeld => ?_)
       (refine wpAnyH_take (i := 0) (v := ?_) (Array.getElem?_eq_getElem (by decide)) (by kernel_rfl) (by kernel_rfl) (by kernel_rfl) (fun _ _ _ h => h) (Or.inl ⟨by kernel_rfl, ?_⟩) (by assumption) ?_); rotate_left; (focus (intro w hSw; (try dsimp only at hSw); (try simp only [rl]); go_simp; (try with_reducible rfl))); (try simp only [rl])
       (refine wpAnyH_take (i := 1) (v := ?_) (Array.getElem?_eq_getElem (by decide)) (by kernel_rfl) (by kernel_rfl) (by kernel_rfl) (fun _ _ _ h => h) (Or.inl ⟨by kernel_rfl, ?_⟩) (by assumption) ?_); rotate_left; (focus (intro w hSw; (try dsimp only at hSw); (try simp only [rl]); go_simp; (try with_reducible rfl))); (try simp only [rl])
       (refine wpAnyH_ready (rs := [2]) (by kernel_rfl) (by simp) ?_); (refine AllReadyH.cons (Array.getElem?_eq_getElem (by decide)) (fun K hK => ?_) AllReadyH.nil); (try simp only [rl])
       (try go_simp)
       (refine (named_any _ _ (by omega)).mono ?_)
       rw [Hnm.out]
       rintro e w4 ⟨rfl, rfl⟩
       (try go_simp)
       refine hK.out _ _ (Sof _ Xt) (fun hHeld => ?_)
       clear hK K
       (try simp only [rl])
       (refine wpAnyH_take (i := 3) (v := ?_) (Array.getElem?_eq_getElem (by decide)) (by kernel_rfl) (by kernel_rfl) (by kernel_rfl) (fun _ _ _ h => h) (Or.inl ⟨by kernel_rfl, ?_⟩) (by assumption) ?_); rotate_left; (focus (intro w hSw; (try dsimp only at hSw); (try simp only [rl]); go_simp; (try with_reducible rfl))); (try simp only [rl])
       (refine wpAnyH_take (i := 4) (v := ?_) (Array.getElem?_eq_getElem (by decide)) (by kernel_rfl) (by kernel_rfl) (by kernel_rfl) (fun _ _ _ h => h) (Or.inl ⟨by kernel_rfl, ?_⟩) (by assumption) ?_); rotate_left; (focus (intro w hSw; (try dsimp only at hSw); (try simp only [rl]); go_simp; (try with_reducible rfl))); (try simp only [rl])
       (refine wpAnyH_take (i := 5) (v := ?_) (Array.getElem?_eq_getElem (by decide)) (by kernel_rfl) (by kernel_rfl) (by kernel_rfl) (fun _ _ _ h => h) (Or.inl ⟨by kernel_rfl, ?_⟩) (by assumption) ?_); rotate_left; (focus (intro w hSw; (try dsimp only at hSw); (try simp only [rl]); go_simp; (try with_reducible rfl))); (try simp only [rl])
       (refine wpAnyH_take (i := 6) (v := ?_) (Array.getElem?_eq_getElem (by decide)) (by kernel_rfl) (by kernel_rfl) (by kernel_rfl) (fun _ _ _ h => h) (Or.inl ⟨by kernel_rfl, ?_⟩) (by assumption) ?_); rotate_left; (focus (intro w hSw; (try dsimp only at hSw); (try simp only [rl]); go_simp; (try with_reducible rfl))); (try simp only [rl])
       (refine wpAnyH_take (i := 7) (v := ?_) (Array.getElem?_eq_getElem (by decide)) (by kernel_rfl) (by kernel_rfl) (by kernel_rfl) (fun _ _ _ h => h) (Or.inl ⟨by kernel_rfl, ?_⟩) (by assumption) ?_); rotate_left; (focus (intro w hSw; (try dsimp only at hSw); (try simp only [rl]); go_simp; (try with_reducible rfl))); (try simp only [rl])
       (refine wpAnyH_take (i := 8) (v := ?_) (Array.getElem?_eq_getElem (by decide)) (by kernel_rfl) (by kernel_rfl) (by kernel_rfl) (fun _ _ _ h => h) (Or.inl ⟨by kernel_rfl, ?_⟩) (by assumption) ?_); rotate_left; (focus (intro w hSw; (try dsimp only at hSw); (try simp only [rl]); go_simp; (try with_reducible rfl))); (try simp only [rl])
       (refine wpAnyH_take (i := 9) (v := ?_) (Array.getElem?_eq_getElem (by decide)) (by kernel_rfl) (by kernel_rfl) (by kernel_rfl) (fun _ _ _ h => h) (Or.inl ⟨by kernel_rfl, ?_⟩) (by assumption) ?_); rotate_left; (focus (intro w hSw; (try dsimp only at hSw); (try simp only [rl]); go_simp; (try with_reducible rfl))); (try simp only [rl])
       (refine wpAnyH_take (i := 10) (v := ?_) (Array.getElem?_eq_getElem (by decide)) (by kernel_rfl) (by kernel_rfl) (by kernel_rfl) (fun _ _ _ h => h) (Or.inl ⟨by kernel_rfl, ?_⟩) (by assumption) ?_); rotate_left; (focus (intro w hSw; (try dsimp only at hSw); (try simp only [rl]); go_simp; (try with_reducible rfl))); (try simp only [rl])
       (refine wpAnyH_take (i := 11) (v := ?_) (Array.getElem?_eq_getElem (by decide)) (by kernel_rfl) (by kernel_rfl) (by kernel_rfl) (fun _ _ _ h => h) (Or.inl ⟨by kernel_rfl, ?_⟩) (by assumption) ?_); rotate_left; (focus (intro w hSw; (try dsimp only at hSw); (try simp only [rl]); go_simp; (try with_reducible rfl))); (try simp only [rl])
       (refine wpAnyH_take (i := 12) (v := ?_) (Array.getElem?_eq_getElem (by decide)) (by kernel_rfl) (by kernel_rfl) (by kernel_rfl) (fun _ _ _ h => h) (Or.inl ⟨by kernel_rfl, ?_⟩) (by assumption) ?_); rotate_left; (focus (intro w hSw; (try dsimp only at hSw); (try simp only [rl]); go_simp; (try with_reducible rfl))); (try simp only [rl])
       (refine wpAnyH_take (i := 13) (v := ?_) (Array.getElem?_eq_getElem (by decide)) (by kernel_rfl) (by kernel_rfl) (by kernel_rfl) (fun _ _ _ h => h) (Or.inl ⟨by kernel_rfl, ?_⟩) (by assumption) ?_); rotate_left; (focus (intro w hSw; (try dsimp only at hSw); (try simp only [rl]); go_simp; (try with_reducible rfl))); (try simp only [rl])
       (refine wpAnyH_take (i := 14) (v := ?_) (Array.getElem?_eq_getElem (by decide)) (by kernel_rfl) (by kernel_rfl) (by kernel_rfl) (fun _ _ _ h => h) (Or.inl ⟨by kernel_rfl, ?_⟩) (by assumption) ?_); rotate_left; (focus (intro w hSw; (try dsimp only at hSw); (try simp only [rl]); go_simp; (try with_reducible rfl))); (try simp only [rl])
       (refine wpAnyH_take (i := 15) (v := ?_) (Array.getElem?_eq_getElem (by decide)) (by kernel_rfl) (by kernel_rfl) (by kernel_rfl) (fun _ _ _ h => h) (Or.inl ⟨by kernel_rfl, ?_⟩) (by assumption) ?_); rotate_left; (focus (intro w hSw; (try dsimp only at hSw); (try simp only [rl]); go_simp; (try with_reducible rfl))); (try simp only [rl])
       (refine wpAnyH_take (i := 16) (v := ?_) (Array.getElem?_eq_getElem (by decide)) (by kernel_rfl) (by kernel_rfl) (by kernel_rfl) (fun _ _ _ h => h) (Or.inl ⟨by kernel_rfl, ?_⟩) (by assumption) ?_); rotate_left; (focus (intro w hSw; (try dsimp only at hSw); (try simp only [rl]); go_simp; (try with_reducible rfl))); (try simp only [rl])
       (refine wpAnyH_take (i := 17) (v := ?_) (Array.getElem?_eq_getElem (by decide)) (by kernel_rfl) (by kernel_rfl) (by kernel_rfl) (fun _ _ _ h => h) (Or.inl ⟨by kernel_rfl, ?_⟩) (by assumption) ?_); rotate_left; (focus (intro w hSw; (try dsimp only at hSw); (try simp only [rl]); go_simp; (try with_reducible rfl))); (try simp only [rl])
       (refine wpAnyH_take (i := 18) (v := ?_) (Array.getElem?_eq_getElem (by decide)) (by kernel_rfl) (by kernel_rfl) (by kernel_rfl) (fun _ _ _ h => h) (Or.inl ⟨by kernel_rfl, ?_⟩) (by assumption) ?_); rotate_left; (focus (intro w hSw; (try dsimp only at hSw); (try simp only [rl]); go_simp; (try with_reducible rfl))); (try simp only [rl])
       (refine wpAnyH_take (i := 19) (v := ?_) (Array.getElem?_eq_getElem (by decide)) (by kernel_rfl) (by kernel_rfl) (by kernel_rfl) (fun _ _ _ h => h) (Or.inl ⟨by kernel_rfl, ?_⟩) (by assumption) ?_); rotate_left; (focus (intro w hSw; (try dsimp only at hSw); (try simp only [rl]); go_simp; (try with_reducible rfl))); (try simp only [rl])
       (refine wpAnyH_take (i := 20) (v := ?_) (Array.getElem?_eq_getElem (by decide)) (by kernel_rfl) (by kernel_rfl) (by kernel_rfl) (fun _ _ _ h => h) (Or.inl ⟨by kernel_rfl, ?_⟩) (by assumption) ?_); rotate_left; (focus (intro w hSw; (try dsimp only at hSw); (try simp only [rl]); go_simp; (try with_reducible rfl))); (try simp only [rl])
       (refine wpAnyH_take (i := 21) (v := ?_) (Array.getElem?_eq_getElem (by decide)) (by kernel_rfl) (by kernel_rfl) (by kernel_rfl) (fun _ _ _ h => h) (Or.inl ⟨by kernel_rfl, ?_⟩) (by assumption) ?_); rotate_left; (focus (intro w hSw; (try dsimp only at hSw); (try simp only [rl]); go_simp; (try with_reducible rfl))); (try simp only [rl])
       (refine wpAnyH_take (i := 22) (v := ?_) (Array.getElem?_eq_getElem (by decide)) (by kernel_rfl) (by kernel_rfl) (by kernel_rfl) (fun _ _ _ h => h) (Or.inl ⟨by kernel_rfl, ?_⟩) (by assumption) ?_); rotate_left; (focus (intro w hSw; (try dsimp only at hSw); (try simp only [rl]); go_simp; (try with_reducible rfl))); (try simp only [rl])
       (refine wpAnyH_take (i := 23) (v := ?_) (Array.getElem?_eq_getElem (by decide)) (by kernel_rfl) (by kernel_rfl) (by kernel_rfl) (fun _ _ _ h => h) (Or.inl ⟨by kernel_rfl, ?_⟩) (by assumption) ?_); rotate_left; (focus (intro w hSw; (try dsimp only at hSw); (try simp only [rl]); go_simp; (try with_reducible rfl))); (try simp only [rl])
       (refine wpAnyH_take (i := 24) (v := ?_) (Array.getElem?_eq_getElem (by decide)) (by kernel_rfl) (by kernel_rfl) (by kernel_rfl) (fun _ _ _ h => h) (Or.inl ⟨by kernel_rfl, ?_⟩) (by assumption) ?_); rotate_left; (focus (intro w hSw; (try dsimp only at hSw); (try simp only [rl]); go_simp; (try with_reducible rfl))); (try simp only [rl])
       refine wpAnyH_done (by kernel_rfl) ?_ _
       go_wp2_with fail
       go_loopg [44] (l[m + 1]).paths.length (fun g i wr => ∃ j : Nat, j ≤ (l[m + 1]).paths.length ∧ i = .int .i64 j ∧ g = (l[m + 1]).paths.length - j ∧ (∀ i (h : i < (l[m + 1]).paths.length), i < j → PathOk (l[m + 1]).paths i h) ∧ Box wr wo.heap.size #[.string (l[m + 1]).name, .slice pa (l[m + 1]).paths.length pc] 42 ∧ Ext wo wr)
       case atStart => exact ⟨0, Nat.zero_le _, rfl, rfl, fun i h h0 => absurd h0 (Nat.not_lt_zero _), Bxt, Xt⟩
       case round =>
        obtain ⟨j, hj, rfl, rfl, hokj, hBi, hxi⟩ := hrel
        have Hokj := Lib.hid hokj
        clear hokj
        have hx2 : Ext w wr := hx.trans hxi
        have hci := hBi.cells; have hfi := hBi.free; have hli := hBi.lt
        by_cases hjl : j < (l[m + 1]).paths.length
        ·obtain ⟨pb, po, rfl, hS2, hC⟩ := Hst.out.resolve_left (by intro h; rw [h] at hjl; simp at hjl)
         have e0 := hxi.cell (hC j hjl)
         have hpp : j = 0 ∨ ∃ mj, j = mj + 1 ∧ ∃ (h : mj < (l[m + 1]).paths.length), wr.cell? ⟨pb, po + mj, none⟩ = some (.string ((l[m + 1]).paths[mj])) := by
          cases j with
          | zero => exact .inl rfl
          | succ mj => exact .inr ⟨mj, rfl, by omega, hxi.cell (hC mj (by omega))⟩
         have hps := Hpz.out j hjl
         clear hC
         have hbad : ¬ PathOk (l[m + 1]).paths j hjl → goodOws l = false := fun h => goodOws_bad hlt (fun hw => by have := hw.2.2.2; rw [goodPaths_bad hjl h] at this; cases this)
         have Hbad := Lib.hid hbad
         clear hbad
         go_wp2_with fail
         (refine (splitD_any _ _ (by omega) (hm.ext Xt)).mono ?_)
         rintro e w5 ⟨na, nc, rfl, hsln, hstn, h5⟩
         have hx3 : Ext w w5 := Xt
         have hBi := Box.ext h5 hBi
         have Hstn := Lib.hid hstn
         have hns := namesD_small (l[m + 1]).paths[j]
         have e0 := h5.cell e0
         have Hpe := Lib.hid (pathB_eq (l[m + 1]).paths[j])
         have hxi2 : Ext wo w5 := hxi.trans h5
         clear hci hfi hli hstn
         have hpp : j = 0 ∨ ∃ mj, j = mj + 1 ∧ ∃ (h : mj < (l[m + 1]).paths.length), w5.cell? ⟨pb, po + mj, none⟩ = some (.string ((l[m + 1]).paths[mj])) := by
          rcases hpp with h | ⟨mj, h1, h2, h3⟩
          ·exact .inl h
          ·exact .inr ⟨mj, h1, h2, h5.cell h3⟩
         clear h5 hxi
         have hci := hBi.cells; have hfi := hBi.free; have hli := hBi.lt
         cases hsm : (namesB (l[m + 1]).paths[j]).isSome with
         | false =>
          rw [hsm] at Hpe
          go_wp2_with fail
          go_ret
          exact ⟨ret_bool (Hbad.out (fun h => by have := h.1; rw [Hpe.out] at this; cases this)).symm, Xt⟩
         | true =>
          rw [hsm] at Hpe
          have Hjn := Lib.hid (join_namesD hsm)
          clear hsm
          by_cases h0 : (namesD (l[m + 1]).paths[j]).length = 0
          ·rw [decide_eq_true h0] at Hpe
           have h0i : (((namesD (l[m + 1]).paths[j]).length : Int) == 0) = true := by rw [h0]; rfl
           clear h0
           go_wp2_with fail
           go_ret
           exact ⟨ret_bool (Hbad.out (fun h => by have := h.1; rw [Hpe.out] at this; cases this)).symm, Xt⟩
          ·rw [decide_eq_false h0] at Hpe
           have h0i : (((namesD (l[m + 1]).paths[j]).length : Int) == 0) = false := beq_eq_false_iff_ne.2 (by omega)
           clear h0
           have hbe : ((l[m + 1]).paths[j].toList == (l[m + 1]).paths[j].toList) = true := by simp
           rcases hpp with rfl | ⟨mj, rfl, hmj, e1⟩
           ·go_wp2_with fail
            (refine (joinB_any na nc _ _ _ (Hstn.out.ext Xt) (fun q hq => by have := hns.2 q hq; omega) (by omega) (hm.ext Xt)).mono ?_)
            rw [Hjn.out]
            rintro e w6 ⟨rfl, h6⟩
            have hBi := Box.ext (w' := w6) Xt hBi
            clear hci hfi hli
            go_wp2_with fail
            go_roundg ((l[m + 1]).paths.length - (0 + 1))
            case measure => omega
            case rel => exact ⟨0 + 1, by omega, by go_num, rfl, fun i h hi => by
             have ei : i = 0 := by omega
             subst ei
             exact ⟨by rw [Hpe.out]; rfl, fun h => absurd h (Nat.lt_irrefl _)⟩, Bxt, Xt⟩
           ·have hkk2 : (((mj + 1 : Nat) : Int) - 1) = (mj : Int) := by omega
            have hmw2 : IntKind.i64.wrap (mj : Int) = (mj : Int) := wrap_nat (by omega)
            have hmj0 : (0 : Int) ≤ (mj : Int) := by omega
            have hmj1 : (mj : Int) < ((l[m + 1]).paths.length : Int) := by omega
            cases hlt2 : ltS (l[m + 1]).paths[mj] (l[m + 1]).paths[mj + 1] with
            | false =>
             have hb := geq_of hlt2
             have Hlt2 := Lib.hid hlt2
             clear hlt2
             go_wp2_with fail
             go_ret
             exact ⟨ret_bool (Hbad.out (fun h => by have : ltS (l[m + 1]).paths[mj] (l[m + 1]).paths[mj + 1] = true := h.2 (by omega); rw [Hlt2.out] at this; cases this)).symm, Xt⟩
            | true =>
             have hb := geq_of hlt2
             have Hlt2 := Lib.hid hlt2
             clear hlt2
             go_wp2_with fail
             (refine (joinB_any na nc _ _ _ (Hstn.out.ext Xt) (fun q hq => by have := hns.2 q hq; omega) (by omega) (hm.ext Xt)).mono ?_)
             rw [Hjn.out]
             rintro e w6 ⟨rfl, h6⟩
             have hBi := Box.ext (w' := w6) Xt hBi
             clear hci hfi hli
             go_wp2_with fail
             go_roundg ((l[m + 1]).paths.length - (mj + 1 + 1))
             case measure => omega
             case rel => exact ⟨mj + 1 + 1, by omega, by go_num, rfl, fun i h hi => by
              by_cases hij : i = mj + 1
              ·subst hij
               exact ⟨by rw [Hpe.out]; rfl, fun _ => Hlt2.out⟩
              ·exact Hokj.out i h (by omega), Bxt, Xt⟩
        ·have hgp : goodPaths (l[m + 1]).paths = true := goodPaths_ok (fun i h => Hokj.out i h (by omega))
         have Hgp := Lib.hid hgp
         clear hgp
         go_wp2_with fail
         go_roundg (l.length - (m + 1 + 1))
         case measure => omega
         case rel => exact ⟨m + 1 + 1, by omega, by go_num, rfl, fun i h hi => by
          by_cases hik : i = m + 1
          ·subst hik
           exact ⟨Hnm.out, Hpv.out, Hpne.out, Hgp.out⟩
          ·exact Hok.out i h (by omega), Xt⟩
  ·have He := Lib.hid (goodOws_end (l := l) (fun i h => Hok.out i h (by omega)))
   go_wp2_with fail
   go_ret
   refine ⟨ret_bool ?_, Xt⟩
   rw [He.out]
   exact decide_eq_decide.2 (by omega)
end Go.Proofs.YtjibdbnpkfghhaaGreatDoor
