/- The walk of the laws' pick: a number below another one. -/
import Derived.Test.YtnbappeiebameaaGreatDoorPkC
set_option linter.all false
namespace Go.Proofs.YtnbappeiebameaaGreatDoor
open Go.RowKit
attribute [local go_sem ↓] Go.wp_at_zero Go.wp_at_succ
set_option maxRecDepth 100000 in
set_option maxHeartbeats 2000000 in
theorem pick_any (k n : Int) (h0 : 0 < n) (h1 : n ≤ 4611686018427387904) (w : World) :
    Calls Tryz.prog 46 #[.int .i64 k, .int .i64 n] w fun e w' => (∃ j : Nat, (j : Int) < n ∧ e = .returned (.int .i64 j)) ∧ w' = w := by
  have hn0 : ¬ n = 0 := by omega
  have hn1 : (n == 0) = false := by simpa using hn0
  have hr1 : -n < k.tmod n := by
    have := Int.lt_tmod_of_pos k h0
    omega
  have hr2 : k.tmod n < n := Int.tmod_lt_of_pos k h0
  obtain ⟨r, hr⟩ : ∃ r, k.tmod n = r := ⟨_, rfl⟩
  rw [hr] at hr1 hr2
  by_cases hlt : r < 0
  · go_enter Tryz.func46, Tryz.ntmps46
    go_wp2_with fail
    go_ret
    have e1 : ((r + n).toNat : Int) = r + n := by omega
    refine ⟨⟨(r + n).toNat, by omega, ?_⟩, rfl⟩
    rw [e1]; rfl
  · go_enter Tryz.func46, Tryz.ntmps46
    go_wp2_with fail
    go_ret
    have e1 : (r.toNat : Int) = r := by omega
    refine ⟨⟨r.toNat, by omega, ?_⟩, rfl⟩
    rw [e1]; rfl
end Go.Proofs.YtnbappeiebameaaGreatDoor
