/- The walk of the reference's skip; plain laws of reading from a place on. -/
import Derived.Test.YtjibdbnpkfghhaaGreatDoorPkB
import Derived.Deep.DrawnRows
set_option linter.all false
namespace Go.Proofs.YtjibdbnpkfghhaaGreatDoor
open Go.RowKit
attribute [local go_sem ↓] Go.wp_at_zero Go.wp_at_succ

/-- What stands from a place on. -/
abbrev fromB (s : ByteArray) (i : Nat) : Bytes := s.data.toList.drop i
theorem from_at {s : ByteArray} {i : Nat} (h : i < s.size) : fromB s i = s[i] :: fromB s (i + 1) := List.drop_eq_getElem_cons (by simpa using h)
theorem from_end {s : ByteArray} {i : Nat} (h : s.size ≤ i) : fromB s i = [] := List.drop_of_length_le (by simpa using h)
theorem from_len (s : ByteArray) (i : Nat) : (fromB s i).length = s.size - i := by simp [fromB]
theorem space_skip {c : UInt8} {t : Bytes} (h : isSp c = true) : spaceL (c :: t) = spaceL t := by simp [spaceL, h]
theorem space_stop {c : UInt8} {t : Bytes} (h : isSp c = false) : spaceL (c :: t) = c :: t := by simp [spaceL, h]

theorem byte_is {c : UInt8} {n : Nat} (hn : n < 256) (h : (c.toNat : Int) = n) : c = UInt8.ofNat n := UInt8.toNat_inj.1 (by simp; omega)

set_option maxRecDepth 100000 in
set_option maxHeartbeats 4000000 in
theorem skip_any (s : ByteArray) (i : Nat) (w : World) (hs : s.size ≤ 1073741824) (hi : i ≤ s.size) : Calls Tryz.prog 45 #[.string s, .int .i64 i] w fun e w' => ∃ j : Nat, e = .returned (.int .i64 j) ∧ i ≤ j ∧ j ≤ s.size ∧ fromB s j = spaceL (fromB s i) ∧ Ext w w' := by
  go_enter Tryz.func45, Tryz.ntmps45
  go_wp2_with fail
  go_loopg [1] (s.size - i) (fun g t1 wr => ∃ k : Nat, t1 = .int .i64 k ∧ i ≤ k ∧ k ≤ s.size ∧ g = s.size - k ∧ Hid (spaceL (fromB s k) = spaceL (fromB s i)) ∧ Ext w wr)
  case atStart => exact ⟨i, rfl, by omega, hi, rfl, Lib.hid rfl, Xt⟩
  case round =>
    obtain ⟨k, rfl, hik, hk, rfl, Hk, hx⟩ := hrel
    by_cases hlt : k < s.size
    · have hki : (k : Int) < (s.size : Int) := by omega
      have hk0 : (0 : Int) ≤ (k : Int) := by omega
      obtain ⟨c, hc⟩ : ∃ c, s[k] = c := ⟨_, rfl⟩
      have Hat := Lib.hid (show fromB s k = c :: fromB s (k + 1) by rw [← hc]; exact from_at hlt)
      have hcn : (s[k].toNat : Int) = (c.toNat : Int) := by rw [hc]
      have heq : ∀ n : Nat, n < 256 → (c.toNat : Int) ≠ n → c ≠ UInt8.ofNat n := fun n hn h h' => h (by rw [h']; simp; omega)
      by_cases h32 : (c.toNat : Int) = 32
      · have b32 : ((c.toNat : Int) == 32) = true := by simpa using h32
        have Hn := Lib.hid (show spaceL (fromB s (k + 1)) = spaceL (fromB s i) by rw [← Hk.out, Hat.out, space_skip (by rw [show c = UInt8.ofNat 32 from byte_is (by omega) (by omega)]; rfl)])
        clear heq
        go_wp2_with fail
        go_roundg (s.size - (k + 1))
        case measure => omega
        case rel => exact ⟨k + 1, by go_num, by omega, by omega, rfl, Hn, Xt⟩
      have b32 : ((c.toNat : Int) == 32) = false := by simpa using h32
      by_cases h9 : (c.toNat : Int) = 9
      · have b9 : ((c.toNat : Int) == 9) = true := by simpa using h9
        have Hn := Lib.hid (show spaceL (fromB s (k + 1)) = spaceL (fromB s i) by rw [← Hk.out, Hat.out, space_skip (by rw [show c = UInt8.ofNat 9 from byte_is (by omega) (by omega)]; rfl)])
        clear heq
        go_wp2_with fail
        go_roundg (s.size - (k + 1))
        case measure => omega
        case rel => exact ⟨k + 1, by go_num, by omega, by omega, rfl, Hn, Xt⟩
      have b9 : ((c.toNat : Int) == 9) = false := by simpa using h9
      by_cases h10 : (c.toNat : Int) = 10
      · have b10 : ((c.toNat : Int) == 10) = true := by simpa using h10
        have Hn := Lib.hid (show spaceL (fromB s (k + 1)) = spaceL (fromB s i) by rw [← Hk.out, Hat.out, space_skip (by rw [show c = UInt8.ofNat 10 from byte_is (by omega) (by omega)]; rfl)])
        clear heq
        go_wp2_with fail
        go_roundg (s.size - (k + 1))
        case measure => omega
        case rel => exact ⟨k + 1, by go_num, by omega, by omega, rfl, Hn, Xt⟩
      have b10 : ((c.toNat : Int) == 10) = false := by simpa using h10
      by_cases h13 : (c.toNat : Int) = 13
      · have b13 : ((c.toNat : Int) == 13) = true := by simpa using h13
        have Hn := Lib.hid (show spaceL (fromB s (k + 1)) = spaceL (fromB s i) by rw [← Hk.out, Hat.out, space_skip (by rw [show c = UInt8.ofNat 13 from byte_is (by omega) (by omega)]; rfl)])
        clear heq
        go_wp2_with fail
        go_roundg (s.size - (k + 1))
        case measure => omega
        case rel => exact ⟨k + 1, by go_num, by omega, by omega, rfl, Hn, Xt⟩
      have b13 : ((c.toNat : Int) == 13) = false := by simpa using h13
      have Hend := Lib.hid (show fromB s k = spaceL (fromB s i) by
        rw [← Hk.out, Hat.out, space_stop]
        have e32 := heq 32 (by omega) (by omega)
        have e9 := heq 9 (by omega) (by omega)
        have e10 := heq 10 (by omega) (by omega)
        have e13 := heq 13 (by omega) (by omega)
        simp only [isSp, Bool.or_eq_false_iff, beq_eq_false_iff_ne]
        exact ⟨⟨⟨e32, e9⟩, e10⟩, e13⟩)
      clear heq
      go_wp2_with fail
      go_ret
      exact ⟨k, rfl, hik, hk, Hend.out, Xt⟩
    · have Hend := Lib.hid (show fromB s k = spaceL (fromB s i) by rw [← Hk.out, from_end (by omega)]; rfl)
      have hki : ¬ (k : Int) < (s.size : Int) := by omega
      go_wp2_with fail
      go_ret
      exact ⟨k, rfl, hik, hk, Hend.out, Xt⟩
end Go.Proofs.YtjibdbnpkfghhaaGreatDoor
