/- The laws' points (package stairwelllaw). -/
import Derived.Test.YtnbappeiebameaaGreatDoorAdd
import Derived.Test.YtnbappeiebameaaGreatDoorGet
import Derived.Test.YtnbappeiebameaaGreatDoorPkC
set_option linter.all false
namespace Go.Proofs.YtnbappeiebameaaGreatDoor
open Go.RowKit
attribute [local go_sem ↓] Go.wp_at_zero Go.wp_at_succ

abbrev K0l : ByteArray := ⟨#[97, 47, 98]⟩
abbrev X0l : V := .mk 2 3 ⟨#[]⟩ [] []
abbrev V0l : V := .mk 5 0 ⟨#[]⟩ [] []
abbrev R0l : V := .mk 5 0 ⟨#[]⟩ [K0l] [X0l]
abbrev P0l : ByteArray := ⟨#[47, 97, 126, 49, 98]⟩
theorem P0l_names : namesB P0l = some [K0l] := by
  have h : namesL P0l.data.toList = some [[97, 47, 98]] := by decide +kernel
  exact namesB_of h
theorem points_add : addP V0l P0l X0l = (R0l, 0) := by
  have hx : X0l.fine = true := by decide +kernel
  have hv : V0l.fine = true := by decide +kernel
  have hr : R0l.fine = true := by decide +kernel
  have ha : atV (addF X0l) [K0l] V0l = (R0l, 0) := by rw [atV_one]; rfl
  unfold addP
  rw [if_neg (by rw [hx]; decide), if_neg (by intro h; exact absurd h.1 (by decide))]
  unfold changeV
  rw [P0l_names]
  simp only
  rw [if_neg (by rw [hv]; decide), if_neg (by simp), ha]
  simp only
  rw [if_pos trivial, if_pos hr]
theorem points_get : getP R0l P0l = (X0l, 0) := by
  have hr : R0l.fine = true := by decide +kernel
  have hc : R0l.child K0l = some 0 := by decide +kernel
  unfold getP
  rw [P0l_names]
  simp only
  rw [if_neg (by rw [hr]; decide)]
  simp [getV, hc]
set_option maxRecDepth 100000 in
set_option maxHeartbeats 4000000 in
theorem points_law (w : World) (hl : LibAt w) : Calls Tryz.prog 23 #[] w fun e w' => e = .returned (.bool true) ∧ Ext w w' := by
  go_enter Tryz.func23, Tryz.ntmps23
  go_wp2_with fail
  (refine (add_any X0l none 0 none 0 V0l none 0 none 0 P0l All _ (hl.ext Xt) (by rw [V.size_eq]; decide) (by rw [V.size_eq]; decide) (by decide) ((V.in_iff ..).2 ⟨SlOk.nil, SlOk.nil, .inl rfl, .inl rfl⟩) ((V.in_iff ..).2 ⟨SlOk.nil, SlOk.nil, .inl rfl, .inl rfl⟩)).mono ?_)
  rw [points_add]
  rintro e w1 ⟨ka1, kc1, la1, lc1, rfl, hin1, h1⟩
  have hx1 : Ext w w1 := Xt
  have Hin1 := Lib.hid (all_in hin1)
  clear h1 hin1
  go_wp2_with fail
  (refine (get_any R0l ka1 kc1 la1 lc1 All P0l _ (by rw [V.size_eq]; decide) (Hin1.out.ext Xt) (by decide) (hl.ext Xt)).mono ?_)
  rw [points_get]
  rintro e w2 ⟨ka2, kc2, la2, lc2, rfl, hin2, h2⟩
  have hx2 : Ext w w2 := Xt
  clear h2 hin2 hx1
  go_wp2_with fail
  go_ret
  exact ⟨rfl, Xt⟩
end Go.Proofs.YtnbappeiebameaaGreatDoor
