/- The walk of point.Join. -/
import Derived.Test.YtknnflobpjppfaaDoorPoint2
import Derived.Laws.Concat
set_option linter.all false
namespace Go.Proofs.YtknnflobpjppfaaDoor
open Go.RowKit

theorem join_take (ks : List ByteArray) {k : Nat} (h : k < ks.length) : joinL ((ks.take (k + 1)).map (·.data.toList)) = joinL ((ks.take k).map (·.data.toList)) ++ 47 :: escN (ks[k]).data.toList := by
  unfold joinL
  rw [List.take_succ_eq_append_getElem h, List.map_append, List.flatMap_append]
  simp only [List.map_cons, List.map_nil, List.flatMap_cons, List.flatMap_nil, List.append_nil]

set_option maxHeartbeats 4000000 in
theorem join_any (a : Option Addr) (n c : Nat) (ks : List ByteArray) (S : Nat → Prop) (w : World) (hks : StrsIn w S a ks) (hn : ks.length = n) (hz : ∀ i (h : i < ks.length), (ks[i]).size ≤ 2000000) (hn2 : n ≤ 2000000) (hm : MaxAt w) :
    Calls Tryd.prog 14 #[.slice a n c] w fun e w' => ∃ s : ByteArray, e = .returned (.string s) ∧ s.data.toList = joinL (ks.map (·.data.toList)) ∧ Ext w w' := by
  subst hn
  go_enter Tryd.func14, Tryd.ntmps14
  go_wp2_with fail
  go_loopg [3, 5, 8] ks.length (fun g t3 _ i wr => ∃ (k : Nat) (s : ByteArray), k ≤ ks.length ∧ i = .int .i64 k ∧ g = ks.length - k ∧ t3 = .string s ∧ s.data.toList = joinL ((ks.take k).map (·.data.toList)) ∧ s.size ≤ k * 4000001 ∧ Ext w wr)
  case atStart => exact ⟨0, ⟨#[]⟩, by omega, rfl, rfl, rfl, rfl, by decide, Ext.refl _⟩
  case round =>
    obtain ⟨k, s, hk, rfl, rfl, rfl, hs, hss, hx⟩ := hrel
    have Hs := Lib.hid hs
    clear hs
    by_cases hlt : k < ks.length
    · obtain ⟨b, o, rfl, hS, hc⟩ := hks.resolve_left (by intro h; rw [h] at hlt; simp at hlt)
      have d0 := hx.cell (hc k hlt)
      have hz1 := hz k hlt
      have Hj := Lib.hid (join_take ks hlt)
      clear hc hz
      obtain ⟨q, hq⟩ : ∃ q, ks[k] = q := ⟨_, rfl⟩
      rw [hq] at d0 hz1 Hj
      clear hq
      have h5 := esc_len q.data.toList
      have h6 : q.data.toList.length = q.size := Array.length_toList
      go_wp2_with fail
      (refine (replace_at q [126] [126, 48] (by simp) (by decide) (by simp) (by omega) _ (hm.ext (by with_reducible repeat (first | exact Ext.refl _ | assumption | apply Ext.drew | apply Ext.drewN | apply Ext.alloc | (refine Ext.setCell ?_ ?_ _; rotate_left; (focus (first | (simp; done) | (simp; omega) | omega))) | refine Ext.trans ?_ (by assumption))))).mono ?_); rintro e w1 ⟨rfl, h1⟩
      go_wp2_with fail
      (refine (replace_at ⟨(Lib.replaceAll q.data.toList [126] [126, 48]).toArray⟩ [47] [126, 49] (by simp) (by decide) (by simp) (by rw [size_arr]; omega) _ (hm.ext (by with_reducible repeat (first | exact Ext.refl _ | assumption | apply Ext.drew | apply Ext.drewN | apply Ext.alloc | (refine Ext.setCell ?_ ?_ _; rotate_left; (focus (first | (simp; done) | (simp; omega) | omega))) | refine Ext.trans ?_ (by assumption))))).mono ?_); rintro e w2 ⟨rfl, h2⟩
      obtain ⟨nm, hnm⟩ : ∃ nm : ByteArray, (⟨(Lib.replaceAll (⟨(Lib.replaceAll q.data.toList [126] [126, 48]).toArray⟩ : ByteArray).data.toList [47] [126, 49]).toArray⟩ : ByteArray) = nm := ⟨_, rfl⟩
      have hnu : nm.data.toList = escN q.data.toList := by rw [← hnm]; rfl
      rw [hnm]
      have hnz : nm.size ≤ 4000000 := by
        have e1 := escN_len q.data.toList
        have e2 : nm.size = nm.data.toList.length := Array.length_toList.symm
        rw [hnu] at e2
        omega
      have hk2 : k * 4000001 ≤ 2000000 * 4000001 := Nat.mul_le_mul_right _ (by omega)
      have c1 : ¬ (⟨#[47]⟩ : ByteArray).size + nm.size > 9223372036854775807 := by
        have : (⟨#[47]⟩ : ByteArray).size = 1 := rfl
        omega
      have e3 : ((⟨#[47]⟩ : ByteArray) ++ nm).size = 1 + nm.size := by rw [ByteArray.size_append]; rfl
      have c2 : ¬ s.size + ((⟨#[47]⟩ : ByteArray) ++ nm).size > 9223372036854775807 := by rw [e3]; omega
      go_wp2_with fail
      go_roundg (ks.length - (k + 1))
      case measure => omega
      case rel => exact ⟨k + 1, _, by omega, by go_num, rfl, rfl, by rw [Hj.out, ← Hs.out, ← hnu]; simp, by rw [ByteArray.size_append, e3, Nat.succ_mul]; omega, (by with_reducible repeat (first | exact Ext.refl _ | assumption | apply Ext.drew | apply Ext.drewN | apply Ext.alloc | (refine Ext.setCell ?_ ?_ _; rotate_left; (focus (first | (simp; done) | (simp; omega) | omega))) | refine Ext.trans ?_ (by assumption)))⟩
    · obtain rfl : k = ks.length := by omega
      go_wp2_with fail
      go_ret
      exact ⟨s, rfl, by rw [Hs.out, List.take_length], (by with_reducible repeat (first | exact Ext.refl _ | assumption | apply Ext.drew | apply Ext.drewN | apply Ext.alloc | (refine Ext.setCell ?_ ?_ _; rotate_left; (focus (first | (simp; done) | (simp; omega) | omega))) | refine Ext.trans ?_ (by assumption)))⟩
end Go.Proofs.YtknnflobpjppfaaDoor
