/- The walks of package json: plain, Count, Good. -/
import Derived.Test.YtknnflobpjppfaaDoorJsonP
import Derived.Deep.DeepCutAuto
set_option linter.all false
namespace Go.Proofs.YtknnflobpjppfaaDoor
open Go.RowKit

theorem byte_at {s : ByteArray} {k : Nat} (h : k < s.size) : s.data.toList[k]'(by simpa using h) = s[k] := by rw [Array.getElem_toList]; rfl
theorem plain_take {s : ByteArray} {k : Nat} (h : k < s.size) (h0 : ((s.data.toList.take k).all fun c => decide ((c.toNat : Int) < 128)) = true) (h1 : (s[k].toNat : Int) < 128) : ((s.data.toList.take (k + 1)).all fun c => decide ((c.toNat : Int) < 128)) = true :=
  all_take _ _ (by simpa using h) h0 (by rw [byte_at h]; simpa using h1)
theorem plain_bad {s : ByteArray} {k : Nat} (h : k < s.size) (h1 : (128 : Int) ≤ (s[k].toNat : Int)) : plainB s = false := by
  have := all_bad (fun c : UInt8 => decide ((c.toNat : Int) < 128)) s.data.toList (k := k) (by simpa using h) (by rw [byte_at h]; simpa using h1)
  unfold plainB; rw [this]; rfl

theorem plain_any (s : ByteArray) (w : World) (hs : s.size ≤ 1073741824) : Calls Tryd.prog 60 #[.string s] w fun e w' => e = .returned (.bool (plainB s)) ∧ w = w' := by
  go_enter Tryd.func60, Tryd.ntmps60
  go_wp2
  go_loop [6] (fun i => ∃ k : Nat, k ≤ s.size ∧ i = .int .i64 k ∧ ((s.data.toList.take k).all fun c => decide ((c.toNat : Int) < 128)) = true) (fun i => s.size - (intOf i).toNat)
  case atStart => exact ⟨0, Nat.zero_le _, rfl, rfl⟩
  case round =>
    obtain ⟨k, hk, rfl, ht⟩ := hrel
    have Ht := Lib.hid ht
    clear ht
    by_cases hlt : k < s.size
    · by_cases h1 : (128 : Int) ≤ (s[k].toNat : Int)
      · go_wp2
        go_ret
        exact ⟨ret_bool (plain_bad hlt h1).symm, rfl⟩
      · go_wp2
        go_round
        case rel => exact ⟨k + 1, by omega, by go_num, plain_take hlt Ht.out (by omega)⟩
        case measure => simp [intOf]; omega
    · go_wp2
      go_ret
      refine ⟨ret_bool ?_, rfl⟩
      have := Ht.out
      rw [List.take_of_length_le (by simp; omega)] at this
      unfold plainB
      rw [this]
      simp
      omega

set_option maxHeartbeats 1000000 in
theorem count_any (m : Nat) : ∀ (x : V) (ka : Option Addr) (kc : Nat) (la : Option Addr) (lc : Nat) (S : Nat → Prop) (w : World), x.size ≤ m → x.size ≤ 1073741824 → x.In w S ka kc la lc →
    Calls Tryd.prog 42 #[x.val ka kc la lc] w fun e w' => e = .returned (.int .i64 x.count) ∧ Ext w w' := by
  induction m with
  | zero => intro x _ _ _ _ _ _ h; have := x.size_pos; omega
  | succ m ih =>
    intro x ka kc la lc S w hm hsz hin
    have hl := x.len_l
    have hcs := x.count_le
    have Hce := Lib.hid x.count_eq
    go_enter Tryd.func42, Tryd.ntmps42
    go_wp2_with fail
    go_loopg [3, 9] x.l.length (fun g t i wr => ∃ k c : Nat, k ≤ x.l.length ∧ i = .int .i64 k ∧ g = x.l.length - k ∧ t = .int .i64 c ∧ c ≤ x.size ∧ c = 1 + ((x.l.take k).map V.count).sum ∧
      Box wr w.heap.size #[.int .i64 x.k, .int .i64 x.n, .string x.s, .slice ka x.keys.length kc, .slice la x.l.length lc] 33 ∧ Ext w wr)
    case atStart => exact ⟨0, 1, by omega, rfl, rfl, rfl, by omega, by simp, (by (with_reducible apply Box.to); (focus (with_reducible repeat (first | assumption | (apply Box.new; (focus (first | rfl | (first | (simp; done) | (simp; omega) | omega)))) | apply Box.set | (apply Box.other; rotate_left; (focus (first | (simp; done) | (simp; omega) | omega))) | apply Box.alloc | apply Box.drew | (apply Box.ext; (focus assumption))))); (first | rfl | (simp; done) | (go_light; simp [*]; done))), (by with_reducible repeat (first | exact Ext.refl _ | assumption | apply Ext.drew | apply Ext.drewN | apply Ext.alloc | (refine Ext.setCell ?_ ?_ _; rotate_left; (focus (first | (simp; done) | (simp; omega) | omega))) | refine Ext.trans ?_ (by assumption)))⟩
    case round =>
      obtain ⟨k, c, hk, rfl, rfl, rfl, hcz, hc, hB0, hx⟩ := hrel
      have Hc := Lib.hid hc
      clear hc
      have hc0 := hB0.cells
      have hf0 := hB0.free
      have hl0 := hB0.lt
      by_cases hlt : k < x.l.length
      · obtain ⟨b, o, rfl, hS, ka', kc', la', lc', ⟨d0, d1, d2, d3, d4⟩, hin'⟩ := (hin.ext hx).item hlt
        have hsi := V.size_item hlt
        have hci := (x.l[k]).count_le
        have Hst := Lib.hid (sum_take V.count x.l hlt)
        have hle := sum_take_le V.count x.l (k + 1)
        have Hsz := Lib.hid (show c + (x.l[k]).count ≤ x.size by have h1 := Hst.out; have h2 := Hc.out; have h3 := Hce.out; omega)
        have hsz2 := Hsz.out
        clear hle
        go_wp2_with (go_at_call 42; (with_reducible refine (ih _ _ _ _ _ _ _ (by omega) (by omega) (hin'.ext (by with_reducible repeat (first | exact Ext.refl _ | assumption | apply Ext.drew | apply Ext.drewN | apply Ext.alloc | (refine Ext.setCell ?_ ?_ _; rotate_left; (focus (first | (simp; done) | (simp; omega) | omega))) | refine Ext.trans ?_ (by assumption))))).mono ?_); rintro e w1 ⟨rfl, h1⟩; obtain ⟨hc1, hf1, hz1⟩ := ext_facts h1; (try simp at hz1); (try have hzA : w.heap.size < w1.heap.size := by omega); (try have hzB : w.heap.size + 1 < w1.heap.size := by omega); (try have hzC : w.heap.size + 2 < w1.heap.size := by omega); (try have hzD : w.heap.size + 3 < w1.heap.size := by omega))
        go_roundg (x.l.length - (k + 1))
        case measure => omega
        case rel => exact ⟨k + 1, c + (x.l[k]).count, by omega, by go_num, rfl, by go_num, Hsz.out, by have h1 := Hst.out; have h2 := Hc.out; omega, (by (with_reducible apply Box.to); (focus (with_reducible repeat (first | assumption | (apply Box.new; (focus (first | rfl | (first | (simp; done) | (simp; omega) | omega)))) | apply Box.set | (apply Box.other; rotate_left; (focus (first | (simp; done) | (simp; omega) | omega))) | apply Box.alloc | apply Box.drew | (apply Box.ext; (focus assumption))))); (first | rfl | (simp; done) | (go_light; simp [*]; done))), (by with_reducible repeat (first | exact Ext.refl _ | assumption | apply Ext.drew | apply Ext.drewN | apply Ext.alloc | (refine Ext.setCell ?_ ?_ _; rotate_left; (focus (first | (simp; done) | (simp; omega) | omega))) | refine Ext.trans ?_ (by assumption)))⟩
      · go_wp2_with fail
        go_ret
        refine ⟨ret_int ?_, (by with_reducible repeat (first | exact Ext.refl _ | assumption | apply Ext.drew | apply Ext.drewN | apply Ext.alloc | (refine Ext.setCell ?_ ?_ _; rotate_left; (focus (first | (simp; done) | (simp; omega) | omega))) | refine Ext.trans ?_ (by assumption)))⟩
        have h1 := Hc.out
        rw [List.take_of_length_le (by omega)] at h1
        have h2 := Hce.out
        omega
end Go.Proofs.YtknnflobpjppfaaDoor
