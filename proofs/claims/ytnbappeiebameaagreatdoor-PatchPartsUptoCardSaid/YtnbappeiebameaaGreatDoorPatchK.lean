/- The law's own example of a patch. -/
import Derived.Test.YtnbappeiebameaaGreatDoorPatchA
import Derived.Test.YtnbappeiebameaaGreatDoorPkC
set_option linter.all false
namespace Go.Proofs.YtnbappeiebameaaGreatDoor
open Go.RowKit
attribute [local go_sem ↓] Go.wp_at_zero Go.wp_at_succ

theorem ops_len : ∀ l : List OpV, l.length ≤ (l.map OpV.size).sum
  | [] => Nat.le_refl _
  | o :: r => by
    have h1 := ops_len r
    have h2 : OpV.size o = 1 + o.p.size + o.f.size + o.v.size := rfl
    simp only [List.length_cons, List.map_cons, List.sum_cons]
    omega
theorem all_size (x : V) (l : List OpV) : (allV x l).1.size ≤ max x.size 14640 := by
  by_cases h : (allV x l).2 = 0
  · unfold allV at h ⊢
    by_cases h20 : 20 < l.length
    · rw [if_pos h20] at h; simp at h
    · rw [if_neg h20] at h ⊢
      by_cases hg : (goV l x).2 = 0
      · rw [if_neg (by simpa using hg)]; exact go_size l x hg
      · rw [if_pos hg] at h; exact absurd h hg
  · rw [(all_whole x l).1 h]; omega
theorem names_dash : namesB ⟨#[47, 45]⟩ = some [⟨#[45]⟩] := namesB_of (by
  have h := names_join [[45]] (by rw [joinL, List.flatMap_cons, escN_eq]; decide)
  simpa [joinL, escN_eq, escB] using h)
theorem names_nul : namesB ⟨#[47, 48]⟩ = some [⟨#[48]⟩] := namesB_of (by
  have h := names_join [[48]] (by rw [joinL, List.flatMap_cons, escN_eq]; decide)
  simpa [joinL, escN_eq, escB] using h)
abbrev one_ : V := .mk 1 0 ⟨#[]⟩ [] []
abbrev ops2 : List OpV := [⟨1, ⟨#[47, 45]⟩, ⟨#[]⟩, one_⟩, ⟨5, ⟨#[47, 48]⟩, ⟨#[47, 48]⟩, V.zero⟩]
abbrev arr0 : V := .mk 4 0 ⟨#[]⟩ [] []
abbrev arr1 : V := .mk 4 0 ⟨#[]⟩ [] [one_]
abbrev arr2 : V := .mk 4 0 ⟨#[]⟩ [] [one_, one_]
theorem arr_add : addP arr0 ⟨#[47, 45]⟩ one_ = (arr1, 0) := by
  unfold addP
  rw [if_neg (by decide +kernel), if_neg (by decide), change_mk names_dash (by decide) (by decide +kernel) (by decide +kernel) (by decide +kernel)]
  kernel_rfl
theorem arr_get : getP arr1 ⟨#[47, 48]⟩ = (one_, 0) := by
  unfold getP
  rw [names_nul]
  simp only
  rw [if_neg (by decide +kernel)]
  kernel_rfl
theorem arr_copy : addP arr1 ⟨#[47, 48]⟩ one_ = (arr2, 0) := by
  unfold addP
  rw [if_neg (by decide +kernel), if_neg (by decide), change_mk names_nul (by decide) (by decide +kernel) (by decide +kernel) (by decide +kernel)]
  kernel_rfl
theorem arr_all : allV arr0 ops2 = (arr2, 0) := by
  have h1 : oneV arr0 ⟨1, ⟨#[47, 45]⟩, ⟨#[]⟩, one_⟩ = (arr1, 0) := by unfold oneV; rw [if_pos rfl]; exact arr_add
  have h2 : oneV arr1 ⟨5, ⟨#[47, 48]⟩, ⟨#[47, 48]⟩, V.zero⟩ = (arr2, 0) := by
    unfold oneV
    simp only
    rw [if_neg (by decide), if_neg (by decide), if_neg (by decide), if_pos (by decide), arr_get, if_neg (by decide), if_pos trivial]; exact arr_copy
  have h3 : goV ops2 arr0 = (arr2, 0) := by
    rw [goV, h1, if_neg (by simp), goV, h2, if_neg (by simp), goV]
  exact all_ok (by simp) h3
theorem nil_in (w : World) (S : Nat → Prop) {k n : Int} {s : ByteArray} : (V.mk k n s [] []).In w S none 0 none 0 := (V.in_iff ..).2 ⟨SlOk.nil, SlOk.nil, .inl rfl, .inl rfl⟩
theorem ops2_in {w : World} {n : Nat} (h : Box w n #[.int .i64 1, .string ⟨#[47, 45]⟩, .string ⟨#[]⟩, .int .i64 1, .int .i64 0, .string ⟨#[]⟩, .slice none 0 0, .slice none 0 0, .int .i64 5, .string ⟨#[47, 48]⟩, .string ⟨#[47, 48]⟩, .int .i64 0, .int .i64 0, .string ⟨#[]⟩, .slice none 0 0, .slice none 0 0] 49) : OpsIn w All (some ⟨n, 0, none⟩) ops2 := by
  refine .inr ⟨n, 0, rfl, trivial, fun i hi => ?_⟩
  match i, hi with
  | 0, _ => exact ⟨h.cells 0, h.cells 1, h.cells 2, none, 0, none, 0, ⟨h.cells 3, h.cells 4, h.cells 5, h.cells 6, h.cells 7⟩, nil_in w All⟩
  | 1, _ => exact ⟨h.cells 8, h.cells 9, h.cells 10, none, 0, none, 0, ⟨h.cells 11, h.cells 12, h.cells 13, h.cells 14, h.cells 15⟩, nil_in w All⟩
set_option maxRecDepth 100000 in
set_option maxHeartbeats 4000000 in
theorem patches_keep (w : World) (hl : LibAt w) : Calls Tryz.prog 45 #[] w fun e w' => e = .returned (.bool true) ∧ Ext w w' := by
  obtain ⟨a2, ha2⟩ : ∃ a, arr2 = a := ⟨_, rfl⟩
  have Hall := Lib.hid (show allV arr0 ops2 = (a2, 0) by rw [← ha2]; exact arr_all)
  have hlen : a2.l.length = 2 := by rw [← ha2]; rfl
  clear ha2
  go_enter Tryz.func45, Tryz.ntmps45
  go_wp2_with fail
  refine (all_any arr0 none 0 none 0 _ 2 ops2 2 _ (Lib.hid rfl) (hl.ext Xt) ?_ ?_ (by omega) All ?_ ?_).mono ?_
  · rw [V.size_eq]; decide
  · show (List.map OpV.size ops2).sum ≤ _
    unfold ops2 OpV.size
    simp only [List.map_cons, List.map_nil, V.size_eq]
    decide
  · exact nil_in _ _
  · exact ops2_in Bxt
  rw [Hall.out]
  rintro e w1 ⟨ka1, kc1, la1, lc1, rfl, hin1, h1⟩
  have hx1 : Ext w w1 := Xt
  clear h1 hin1
  go_wp2_with fail
  go_ret
  exact ⟨rfl, Xt⟩
end Go.Proofs.YtnbappeiebameaaGreatDoor
