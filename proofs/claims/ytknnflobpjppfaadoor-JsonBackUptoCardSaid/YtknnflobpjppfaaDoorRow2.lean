/- Clone at texts and at values; an insertion, a deletion and a store in a row of values. -/
import Derived.Test.YtknnflobpjppfaaDoorSlV
import Derived.Test.YtknnflobpjppfaaDoorSlS
set_option linter.all false
namespace Go.Proofs.YtknnflobpjppfaaDoor
open Go.RowKit

set_option maxRecDepth 100000 in
set_option maxHeartbeats 2000000 in
theorem cloneS_row (a : Option Addr) (n c : Nat) (news : List Value) (w : World) (hok : SlOk a n c) (hbig : n ≤ 1073741824) (hl : news.length = n * 1) (hsrc : n = 0 ∨ ∃ ad, a = some ad ∧ ∀ j u, news[j]? = some u → w.cell? (ad.add j) = some u) (h1 : ∀ u ∈ news, u.oneCell' = true) :
    Calls Tryd.prog 49 #[.slice a n c] w fun e w' => ∃ a' c', e = .returned (.slice a' n c') ∧ SlOk a' n c' ∧ w'.ownsRow w.heap.size 9 1 (.slice a' n c') n news ∧ Ext w w' := by
  obtain ⟨i0, hi, hz0, hz1, hz2⟩ := info_parts Tryd.infoS
  have q22 : ∀ (w : World) (a : Option Addr) (n c n' c' : Nat), (binOp .eql 22 (.slice a n c) (.slice none n' c')).run Tryd.prog w = .ok (.bool a.isNone) w := fun w a n c n' c' => Lib.run_eql_slice_nil w _ _ a n c n' c' Tryd.underlying22
  cases a with
  | none =>
    obtain rfl := hok.2.2 rfl
    obtain rfl : n = 0 := by have := hok.1; omega
    obtain rfl : news = [] := List.eq_nil_of_length_eq_zero (by simpa using hl)
    clear hok hl hsrc h1
    go_enter Tryd.func49, Tryd.ntmps49
    go_wp2_with fail
    go_ret
    exact ⟨none, 0, rfl, SlOk.nil, World.ownsRow_nil _ _ _ _, Ext.refl _⟩
  | some ad =>
    have hc : ∀ j u, news[j]? = some u → w.cell? (ad.add j) = some u := by
      rcases hsrc with h0 | ⟨ad', he, h⟩
      · subst h0
        obtain rfl : news = [] := List.eq_nil_of_length_eq_zero (by simpa using hl)
        intro j u hj; simp at hj
      · simp only [Option.some.injEq] at he; subst he; exact h
    have Hc := Lib.hid hc
    have Hl := Lib.hid hl
    clear hc hsrc hl
    have h63 : n ≤ maxLen := by unfold maxLen; omega
    go_enter Tryd.func49, Tryd.ntmps49
    go_wp2_with (at_builtin; refine wpList_append_own _ rfl _ _ 22 rfl w.heap.size 9 i0 _ 1 16 Tryd.underlying22 hi hz0 hz1 hz2 rfl (by decide) _ _ _ rfl (World.ownsRow_made w #[] 0 (Nat.le_refl _) (Nat.zero_le _) (by simp)) ad n c news rfl ?qc1 ?qc2 ?qc3 ?qc4 ?qc5 ?qc6 ?_)
    case qc1 => exact Hl.out
    case qc2 =>
      intro j u hj
      exact Lib.cell?_alloc_some _ (Hc.out j u hj)
    case qc3 => exact h1
    case qc4 => rw [Nat.zero_add]; exact h63
    case qc5 => rw [Nat.zero_add]; omega
    case qc6 => simp
    intro v' w1 hown hgrow hnil
    obtain ⟨a', c', rfl, hok'⟩ := owns_form hown
    go_wp2
    go_ret
    refine ⟨a', c', by simp, by simpa using hok', by simpa using hown, ?_⟩
    exact ((Below.refl _ w).alloc (Nat.le_refl _) _).grown hgrow (by simp) (by intro k hk; simp [Value.ownBlock] at hk; omega)

set_option maxRecDepth 100000 in
set_option maxHeartbeats 2000000 in
theorem cloneV_row (a : Option Addr) (n c : Nat) (news : List Value) (w : World) (hok : SlOk a n c) (hbig : n ≤ 1073741824) (hl : news.length = n * 5) (hsrc : n = 0 ∨ ∃ ad, a = some ad ∧ ∀ j u, news[j]? = some u → w.cell? (ad.add j) = some u) (h1 : ∀ u ∈ news, u.oneCell' = true) :
    Calls Tryd.prog 37 #[.slice a n c] w fun e w' => ∃ a' c', e = .returned (.slice a' n c') ∧ SlOk a' n c' ∧ w'.ownsRow w.heap.size 33 5 (.slice a' n c') n news ∧ Ext w w' := by
  obtain ⟨i0, hi, hz0, hz1, hz2⟩ := info_parts Tryd.infoV
  have q22 : ∀ (w : World) (a : Option Addr) (n c n' c' : Nat), (binOp .eql 31 (.slice a n c) (.slice none n' c')).run Tryd.prog w = .ok (.bool a.isNone) w := fun w a n c n' c' => Lib.run_eql_slice_nil w _ _ a n c n' c' Tryd.underlying31
  cases a with
  | none =>
    obtain rfl := hok.2.2 rfl
    obtain rfl : n = 0 := by have := hok.1; omega
    obtain rfl : news = [] := List.eq_nil_of_length_eq_zero (by simpa using hl)
    clear hok hl hsrc h1
    go_enter Tryd.func37, Tryd.ntmps37
    go_wp2_with fail
    go_ret
    exact ⟨none, 0, rfl, SlOk.nil, World.ownsRow_nil _ _ _ _, Ext.refl _⟩
  | some ad =>
    have hc : ∀ j u, news[j]? = some u → w.cell? (ad.add j) = some u := by
      rcases hsrc with h0 | ⟨ad', he, h⟩
      · subst h0
        obtain rfl : news = [] := List.eq_nil_of_length_eq_zero (by simpa using hl)
        intro j u hj; simp at hj
      · simp only [Option.some.injEq] at he; subst he; exact h
    have Hc := Lib.hid hc
    have Hl := Lib.hid hl
    clear hc hsrc hl
    have h63 : n ≤ maxLen := by unfold maxLen; omega
    go_enter Tryd.func37, Tryd.ntmps37
    go_wp2_with (at_builtin; refine wpList_append_own _ rfl _ _ 31 rfl w.heap.size 33 i0 _ 5 80 Tryd.underlying31 hi hz0 hz1 hz2 rfl (by decide) _ _ _ rfl (World.ownsRow_made w #[] 0 (Nat.le_refl _) (Nat.zero_le _) (by simp)) ad n c news rfl ?qc1 ?qc2 ?qc3 ?qc4 ?qc5 ?qc6 ?_)
    case qc1 => exact Hl.out
    case qc2 =>
      intro j u hj
      exact Lib.cell?_alloc_some _ (Hc.out j u hj)
    case qc3 => exact h1
    case qc4 => rw [Nat.zero_add]; exact h63
    case qc5 => rw [Nat.zero_add]; omega
    case qc6 => simp
    intro v' w1 hown hgrow hnil
    obtain ⟨a', c', rfl, hok'⟩ := owns_form hown
    go_wp2
    go_ret
    refine ⟨a', c', by simp, by simpa using hok', by simpa using hown, ?_⟩
    exact ((Below.refl _ w).alloc (Nat.le_refl _) _).grown hgrow (by simp) (by intro k hk; simp [Value.ownBlock] at hk; omega)
end Go.Proofs.YtknnflobpjppfaaDoor
