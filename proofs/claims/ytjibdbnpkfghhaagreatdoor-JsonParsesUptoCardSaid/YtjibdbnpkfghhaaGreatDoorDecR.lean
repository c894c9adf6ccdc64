/- The walk of the reference's decimal. -/
import Derived.Test.YtjibdbnpkfghhaaGreatDoorIdx
import Derived.Laws.IdiomStrings
import Derived.Lib.ItoaLen
set_option linter.all false
namespace Go.Proofs.YtjibdbnpkfghhaaGreatDoor
open Go.RowKit
attribute [local go_sem ↓] Go.wp_at_zero Go.wp_at_succ

theorem decR_len {q : ByteArray} {u : Nat} (hu : u ≤ 9223372036854775807) (h : q.data.toList = Lib.decDigits u) : q.size ≤ 21 := by
  have h1 := Lib.itoa_length_le (u : Int) (by omega) (by omega)
  rw [Lib.itoa_nonneg, ← h] at h1
  have h2 : q.data.toList.length = q.size := Array.length_toList
  omega
/-- One byte, as a text. -/
theorem run_one (w : World) (c : UInt8) (T : TypeId) : (convert 86 9 (.slice (some ⟨w.heap.size, 0, none⟩) 1 1)).run Tryz.prog (w.alloc (.cells #[.int .u8 c.toNat] T)) = .ok (.string ⟨#[c]⟩) (w.alloc (.cells #[.int .u8 c.toNat] T)) := by
  have := run_convert_bytes_back (P := Tryz.prog) (w.alloc (.cells #[.int .u8 c.toNat] T)) 86 9 5 ⟨w.heap.size, 0, none⟩ 1 [c] Tryz.underlying86 Tryz.underlying5 Tryz.underlying9 (fun j hj => by
    have hj0 : j = 0 := by simpa using hj
    subst hj0
    have := (Box.new w #[.int .u8 c.toNat] T rfl).cells 0
    simpa [Addr.add] using this)
  simpa using this
/-- What decimal answers: the numeral's digits. -/
def DecC (m : Nat) : Prop := ∀ (u : Nat) (w : World), u ≤ m → u ≤ 9223372036854775807 → Calls Tryz.prog 105 #[.int .i64 u] w fun e w' => ∃ q : ByteArray, e = .returned (.string q) ∧ q.data.toList = Lib.decDigits u ∧ Ext w w'
set_option maxRecDepth 100000 in
theorem dec_small (u : Nat) (w : World) (h : u < 10) : Calls Tryz.prog 105 #[.int .i64 u] w fun e w' => ∃ q : ByteArray, e = .returned (.string q) ∧ q.data.toList = Lib.decDigits u ∧ Ext w w' := by
  have h0 : ¬ (u : Int) < 0 := by omega
  have h1 : (u : Int) < 10 := by omega
  obtain ⟨c, hc⟩ : ∃ c : UInt8, UInt8.ofNat (48 + u) = c := ⟨_, rfl⟩
  have hcn : c.toNat = 48 + u := by rw [← hc]; simp; omega
  have hz : (c.toNat : Int) = 48 + (u : Int) := by omega
  have hcv := fun w => run_one w c 5
  rw [hz] at hcv
  have hd := Lib.hid (show Lib.decDigits u = [c] by rw [Lib.decDigits, dif_pos h, hc])
  clear hc h
  go_enter Tryz.func105, Tryz.ntmps105
  go_wp2_with fail
  go_ret
  exact ⟨_, rfl, by rw [hd.out], Xt⟩
set_option maxRecDepth 100000 in
theorem dec_nat (m : Nat) : DecC m := by
  induction m with
  | zero =>
    intro u w hu _
    exact dec_small u w (by omega)
  | succ m ih =>
    intro u w hu hu2
    by_cases h : u < 10
    · exact dec_small u w h
    · have h0 : ¬ (u : Int) < 0 := by omega
      have h1 : ¬ (u : Int) < 10 := by omega
      have hq : Int.tdiv (u : Int) 10 = ((u / 10 : Nat) : Int) := rfl
      have hr : Int.tmod (u : Int) 10 = ((u % 10 : Nat) : Int) := rfl
      have hd := Lib.hid (show Lib.decDigits u = Lib.decDigits (u / 10) ++ Lib.decDigits (u % 10) by
        rw [Lib.decDigits, dif_neg h]
        congr 1
        rw [Lib.decDigits, dif_pos (by omega)])
      have Ih1 := Lib.hid (fun w => ih (u / 10) w (by omega) (by omega))
      have Ih2 := Lib.hid (fun w => ih (u % 10) w (by omega) (by omega))
      clear ih h
      go_enter Tryz.func105, Tryz.ntmps105
      go_wp2_with fail
      (refine (Ih1.out _).mono ?_)
      rintro e w1 ⟨q1, rfl, hq1, h1x⟩
      have Hq1 := Lib.hid hq1
      have hl1 := decR_len (by omega) hq1
      have hx1 : Ext w w1 := Xt
      clear hq1 h1x
      go_wp2_with fail
      (refine (Ih2.out _).mono ?_)
      rintro e w2 ⟨q2, rfl, hq2, h2x⟩
      have Hq2 := Lib.hid hq2
      have hl2 := decR_len (by omega) hq2
      have hlt : ¬ 9223372036854775807 < q1.size + q2.size := by omega
      have hx2 : Ext w w2 := Xt
      clear hq2 h2x
      go_wp2_with fail
      go_ret
      exact ⟨_, rfl, by rw [hd.out, ← Hq1.out, ← Hq2.out]; simp, Xt⟩
set_option maxRecDepth 100000 in
theorem decimal_any (n : Int) (h0 : -9223372036854775807 ≤ n) (h1 : n ≤ 9223372036854775807) (w : World) : Calls Tryz.prog 105 #[.int .i64 n] w fun e w' => ∃ q : ByteArray, e = .returned (.string q) ∧ q.data.toList = Lib.itoa n ∧ Ext w w' := by
  by_cases hn : n < 0
  · obtain ⟨u, rfl⟩ : ∃ u : Nat, n = -(u : Int) := ⟨n.natAbs, by omega⟩
    have hd := Lib.hid (Lib.itoa_neg u (by omega))
    have Ih := Lib.hid (fun w => dec_nat u u w (Nat.le_refl _) (by omega))
    have hu1 : u ≤ 9223372036854775807 := by omega
    go_enter Tryz.func105, Tryz.ntmps105
    go_wp2_with fail
    (refine (Ih.out _).mono ?_)
    rintro e w1 ⟨q1, rfl, hq1, h1x⟩
    have Hq1 := Lib.hid hq1
    have hl1 := decR_len hu1 hq1
    have hlt : ¬ 9223372036854775807 < 1 + q1.size := by omega
    have hx1 : Ext w w1 := Xt
    clear hq1 h1x
    go_wp2_with fail
    go_ret
    exact ⟨_, rfl, by rw [hd.out, ← Hq1.out]; simp, Xt⟩
  · obtain ⟨u, rfl⟩ : ∃ u : Nat, n = (u : Int) := ⟨n.toNat, by omega⟩
    rw [Lib.itoa_nonneg]
    exact dec_nat u u w (Nat.le_refl _) (by omega)
end Go.Proofs.YtjibdbnpkfghhaaGreatDoor
