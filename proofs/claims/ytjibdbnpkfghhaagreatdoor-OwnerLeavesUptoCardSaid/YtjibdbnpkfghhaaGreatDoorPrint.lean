/- The walks of json.put and json.Print. -/
import Derived.Test.YtjibdbnpkfghhaaGreatDoorQuote
import Derived.Test.YtjibdbnpkfghhaaGreatDoorPkB
import Derived.Test.YtjibdbnpkfghhaaGreatDoorPkD
import Derived.Lib.BufferRead
set_option linter.all false
namespace Go.Proofs.YtjibdbnpkfghhaaGreatDoor
open Go.RowKit
attribute [local go_sem ↓] Go.wp_at_zero Go.wp_at_succ
theorem run_str {w : World} {B : Nat} {v : Value} {l : Bytes} (h : OwnB w B v l) : (convert 86 9 v).run Tryz.prog w = .ok (.string ⟨l.toArray⟩) w := by
 rcases h.2 with ⟨rfl, hn⟩ | ⟨g, cap, cur, rfl, -, hg, -, -, -, ht⟩
 ·obtain rfl := List.length_eq_zero_iff.1 hn
  exact Lib.run_convert_nil_bytes w _ _ 5 0 (by kernel_rfl) (by kernel_rfl) (by kernel_rfl)
 ·exact run_convert_bytes_back w _ _ 5 _ cap l (by kernel_rfl) (by kernel_rfl) (by kernel_rfl) (Lib.bytes_of_row hg (by rw [Nat.mul_one] at ht; exact ht))
end Go.Proofs.YtjibdbnpkfghhaaGreatDoor
