/- Several texts in one. -/
import Derived.Test.YtjibdbnpkfghhaaGreatDoorPkE
import Derived.Test.YtjibdbnpkfghhaaGreatDoorPkC
set_option linter.all false
/- The library's Delete of one element at []string: its walk on a row of the call's own. (Written by slgen.py from one text for texts and for values.) -/
namespace Go.Proofs.YtjibdbnpkfghhaaGreatDoor
open Go.RowKit
set_option maxRecDepth 100000 in
set_option maxHeartbeats 4000000 in
theorem delS_at (base g m cap k : Nat) (cur : Array Value) (w : World) (hb : base ≤ g) (hg : w.heap[g]? = some (.cells cur 9 (0, 0))) (hnc : m < cap) (hm : cap ≤ maxLen) (hcs : cur.size = cap * 1)
  (hk : k ≤ m) (h1c : ∀ u ∈ cur.toList.take (m + 1), u.oneCell' = true) :
  Calls Tryz.prog 149 #[.slice (some ⟨g, 0, none⟩) (m + 1) cap, .int .i64 k, .int .i64 ((k : Int) + 1)] w fun e w' => e = .returned (.slice (some ⟨g, 0, none⟩) m cap) ∧
   w'.ownsRow base 9 1 (.slice (some ⟨g, 0, none⟩) m cap) m ((cur.toList.take (m + 1)).take (k) ++ (cur.toList.take (m + 1)).drop (k + 1)) ∧ w.grownBy w' (some g) := by
 obtain ⟨i0, hi, hz0, hz1, hz2⟩ := info_parts Tryz.infoS
 have hm2 : cap ≤ 9223372036854775807 := hm
 have hck : (m + 1) * 1 ≤ cap * 1 := Nat.mul_le_mul_right _ hnc
 obtain ⟨cs, hcsd⟩ : ∃ cs, cs = (cur.toList.take (m + 1)).drop (k + 1) := ⟨_, rfl⟩
 have hcl : cs.length = (m - k) * 1 := by rw [hcsd]; simp; omega
 have hdel := list_deleted cur.toList ([Value.string ⟨#[]⟩] : List Value) (k) 1 (m + 1) (by omega) (by rw [Array.length_toList, hcs]; omega) rfl cs (by rw [hcsd]; first | done | (congr 1 <;> omega))
 simp only at hdel
 rw [show m + 1 - 1 = m by omega] at hdel
 obtain ⟨hl1, hl2, hl3⟩ := hdel
 obtain ⟨c1, hc1⟩ : ∃ c1, c1 = cur.toList.take (k) ++ cs ++ cur.toList.drop (k + cs.length) := ⟨_, rfl⟩
 rw [← hc1] at hl1 hl2 hl3
 obtain ⟨W1, hW1⟩ : ∃ W1, W1 = w.drew.setRow g c1.toArray := ⟨_, rfl⟩
 have hg1 : W1.heap[g]? = some (.cells c1.toArray 9 (0, 0)) := by rw [hW1]; exact setRow_heap w.drew g cur _ 9 _ hg
 have hap : ∀ (ad : Addr) ty, (cap = k + 1 ∨ ad = ⟨g, k + 1, none⟩) → (Builtin.append_ #[22, 22] ty #[.slice (some ⟨g, 0, none⟩) k cap, .slice (some ad) (m + 1 - (k + 1)) (cap - (k + 1))]).run Tryz.prog w.drew = .ok (.slice (some ⟨g, 0, none⟩) m cap) W1 := fun ad ty had => by
  have hsrc : ∀ j u, cs[j]? = some u → w.drew.cell? (ad.add j) = some u := by
   rcases had with h | rfl
   ·have h0 : m - k = 0 := by omega
    have : cs.length = 0 := by rw [hcl, h0, Nat.zero_mul]
    obtain rfl := List.eq_nil_of_length_eq_zero this
    intro j u hj; simp at hj
   ·intro j v hj
    rw [Addr.add_lit, hcsd, List.getElem?_drop, List.getElem?_take] at *
    split at hj
    ·show w.cell? _ = _
     rw [cell_of_row w g _ cur _ _ hg]
     simpa using hj
    ·cases hj
  have h := run_append_room (P := Tryz.prog) w.drew 22 ty 9 i0 Tryz.underlying22 hi g k cap cur hg ad (m + 1 - (k + 1)) (cap - (k + 1)) cs (by rw [hz1, hcl]; first | done | (congr 1; omega)) hsrc (fun u hu => h1c u (List.mem_of_mem_drop (by rw [← hcsd]; exact hu))) (by omega) (by rw [hz1, hcl, hcs]; omega)
  rw [h, hW1, hc1, hz1]
  rw [show k + (m + 1 - (k + 1)) = m by omega]
  first | done | simp only [Nat.mul_one]
 obtain ⟨W2, hW2⟩ : ∃ W2, W2 = W1.setRow g (c1.take (m) ++ ([Value.string ⟨#[]⟩] : List Value) ++ c1.drop (m + 1)).toArray := ⟨_, rfl⟩
 have hsz1 : c1.toArray.size = cap * 1 := by rw [List.size_toArray, hl3, Array.length_toList, hcs]
 have hcl2 : ∀ ty, (Builtin.clear_ #[22] ty #[.slice (some ⟨g, m, none⟩) 1 (cap - m)]).run Tryz.prog W1 = .ok (.tuple #[]) W2 := fun ty => by
  have hz : (Value.string ⟨#[]⟩ : Value).cells.size = 1 := rfl
  have h := run_clear_k (P := Tryz.prog) W1 22 9 ty (Value.string ⟨#[]⟩) Tryz.underlying22 (fun w => by simp [Go.zeroValue, typeInfo, hi, hz0]) (by decide) g (m) (cap - m) c1.toArray 9 hg1 (by rw [hsz1, hz]; omega)
  rw [h, hW2]
  rfl
 have hfin1 : W2.ownsRow base 9 1 (.slice (some ⟨g, 0, none⟩) m cap) m ((cur.toList.take (m + 1)).take (k) ++ (cur.toList.take (m + 1)).drop (k + 1)) := by
  rw [hW2]
  refine ownsRow_mk hb (setRow_heap W1 g _ _ 9 _ hg1) (by omega) hm ?_ ?_
  ·rw [List.size_toArray, hl2, Array.length_toList, hcs]
  ·rw [show m * 1 = m by omega]
   rw [List.toList_toArray, hl1]
   try (congr 2 <;> omega)
 have hfin2 : w.grownBy W2 (some g) := by
  rw [hW2, hW1]
  exact grown_trans (grown_drew (grown_setRow w.drew g _)) (grown_setRow _ g _)
 have mixed : Tryz.prog.follows Departure.mixedOrders = true := by kernel_rfl
 have hz3 : ¬ ((k : Int) = (k : Int) + 1) := by omega
 have hb1 : (0 : Int) ≤ (k : Int) + 1 := by omega
 have htn : ((k : Int) + 1).toNat = k + 1 := by omega
 have hin : k ≤ cap := by omega
 have hin2 : k + 1 ≤ cap := by omega
 have hin3 : k ≤ k + 1 := by omega
 have hin4 : k + 1 ≤ m + 1 := by omega
 have hin5 : m + 1 ≤ cap := by omega
 have hin6 : m ≤ m + 1 := by omega
 have hb3 : ((k : Int) + 1) ≤ ((m : Int) + 1) := by omega
 have hcm : ¬ (cap = m) := by omega
 have hcm2 : m + 1 - m = 1 := by omega
 have Hf1 := Lib.hid hfin1
 have Hf2 := Lib.hid hfin2
 clear hfin1 hfin2 hW2 hsz1 hW1 hg1 hl1 hl2 hl3 hc1 hcsd hcl hg h1c hcs hi hz0 hz1 hz2
 by_cases hck1 : cap = k + 1
 ·obtain rfl : m = k := by omega
  subst hck1
  have hap' := fun ty => hap ⟨g, 0, none⟩ ty (.inl rfl)
  clear hap
  have hi7 : (m : Int) ≤ (m : Int) + 1 := by omega
  rw [show m + 1 - m = 1 by omega] at hcl2
  go_enter Tryz.func149, Tryz.ntmps149
  go_wp2_with fail
  go_region_law_o (refine step_append_runI rfl _ _ 22 22 rfl _ _ (by simp [Act.eval, Act.put]) (by simp [Act.eval, Act.put]) (hap' _) ?_)
  go_wp2
  go_ret
  exact ⟨rfl, Hf1.out, Hf2.out⟩
 ·have hap' := fun ty => hap ⟨g, k + 1, none⟩ ty (.inr rfl)
  clear hap
  go_enter Tryz.func149, Tryz.ntmps149
  go_wp2_with fail
  go_region_law_o (refine step_append_runI rfl _ _ 22 22 rfl _ _ (by simp [Act.eval, Act.put]) (by simp [Act.eval, Act.put, hck1]) (hap' _) ?_)
  go_wp2
  go_ret
  exact ⟨rfl, Hf1.out, Hf2.out⟩
end Go.Proofs.YtjibdbnpkfghhaaGreatDoor
/- The library's Delete of one element at []api.Value: its walk on a row of the call's own. (Written by slgen.py from one text for texts and for values.) -/
namespace Go.Proofs.YtjibdbnpkfghhaaGreatDoor
open Go.RowKit
set_option maxRecDepth 100000 in
set_option maxHeartbeats 4000000 in
theorem delV_at (base g m cap k : Nat) (cur : Array Value) (w : World) (hb : base ≤ g) (hg : w.heap[g]? = some (.cells cur 25 (0, 0))) (hnc : m < cap) (hm : cap ≤ maxLen) (hcs : cur.size = cap * 5)
  (hk : k ≤ m) (h1c : ∀ u ∈ cur.toList.take ((m + 1) * 5), u.oneCell' = true) :
  Calls Tryz.prog 150 #[.slice (some ⟨g, 0, none⟩) (m + 1) cap, .int .i64 k, .int .i64 ((k : Int) + 1)] w fun e w' => e = .returned (.slice (some ⟨g, 0, none⟩) m cap) ∧
   w'.ownsRow base 25 5 (.slice (some ⟨g, 0, none⟩) m cap) m ((cur.toList.take ((m + 1) * 5)).take (k * 5) ++ (cur.toList.take ((m + 1) * 5)).drop ((k + 1) * 5)) ∧ w.grownBy w' (some g) := by
 obtain ⟨i0, hi, hz0, hz1, hz2⟩ := info_parts Tryz.infoV
 have hm2 : cap ≤ 9223372036854775807 := hm
 have hck : (m + 1) * 5 ≤ cap * 5 := Nat.mul_le_mul_right _ hnc
 obtain ⟨cs, hcsd⟩ : ∃ cs, cs = (cur.toList.take ((m + 1) * 5)).drop ((k + 1) * 5) := ⟨_, rfl⟩
 have hcl : cs.length = (m - k) * 5 := by rw [hcsd]; simp; omega
 have hdel := list_deleted cur.toList ([Value.int .i64 0, .int .i64 0, .string ⟨#[]⟩, .slice none 0 0, .slice none 0 0] : List Value) (k * 5) 5 ((m + 1) * 5) (by omega) (by rw [Array.length_toList, hcs]; omega) rfl cs (by rw [hcsd]; first | done | (congr 1 <;> omega))
 simp only at hdel
 rw [show (m + 1) * 5 - 5 = m * 5 by omega] at hdel
 obtain ⟨hl1, hl2, hl3⟩ := hdel
 obtain ⟨c1, hc1⟩ : ∃ c1, c1 = cur.toList.take (k * 5) ++ cs ++ cur.toList.drop (k * 5 + cs.length) := ⟨_, rfl⟩
 rw [← hc1] at hl1 hl2 hl3
 obtain ⟨W1, hW1⟩ : ∃ W1, W1 = w.drew.setRow g c1.toArray := ⟨_, rfl⟩
 have hg1 : W1.heap[g]? = some (.cells c1.toArray 25 (0, 0)) := by rw [hW1]; exact setRow_heap w.drew g cur _ 25 _ hg
 have hap : ∀ (ad : Addr) ty, (cap = k + 1 ∨ ad = ⟨g, (k + 1) * 5, none⟩) → (Builtin.append_ #[23, 23] ty #[.slice (some ⟨g, 0, none⟩) k cap, .slice (some ad) (m + 1 - (k + 1)) (cap - (k + 1))]).run Tryz.prog w.drew = .ok (.slice (some ⟨g, 0, none⟩) m cap) W1 := fun ad ty had => by
  have hsrc : ∀ j u, cs[j]? = some u → w.drew.cell? (ad.add j) = some u := by
   rcases had with h | rfl
   ·have h0 : m - k = 0 := by omega
    have : cs.length = 0 := by rw [hcl, h0, Nat.zero_mul]
    obtain rfl := List.eq_nil_of_length_eq_zero this
    intro j u hj; simp at hj
   ·intro j v hj
    rw [Addr.add_lit, hcsd, List.getElem?_drop, List.getElem?_take] at *
    split at hj
    ·show w.cell? _ = _
     rw [cell_of_row w g _ cur _ _ hg]
     simpa using hj
    ·cases hj
  have h := run_append_room (P := Tryz.prog) w.drew 23 ty 25 i0 Tryz.underlying23 hi g k cap cur hg ad (m + 1 - (k + 1)) (cap - (k + 1)) cs (by rw [hz1, hcl]; first | done | (congr 1; omega)) hsrc (fun u hu => h1c u (List.mem_of_mem_drop (by rw [← hcsd]; exact hu))) (by omega) (by rw [hz1, hcl, hcs]; omega)
  rw [h, hW1, hc1, hz1]
  rw [show k + (m + 1 - (k + 1)) = m by omega]
  first | done | simp only [Nat.mul_one]
 obtain ⟨W2, hW2⟩ : ∃ W2, W2 = W1.setRow g (c1.take (m * 5) ++ ([Value.int .i64 0, .int .i64 0, .string ⟨#[]⟩, .slice none 0 0, .slice none 0 0] : List Value) ++ c1.drop (m * 5 + 5)).toArray := ⟨_, rfl⟩
 have hsz1 : c1.toArray.size = cap * 5 := by rw [List.size_toArray, hl3, Array.length_toList, hcs]
 have hcl2 : ∀ ty, (Builtin.clear_ #[23] ty #[.slice (some ⟨g, m * 5, none⟩) 1 (cap - m)]).run Tryz.prog W1 = .ok (.tuple #[]) W2 := fun ty => by
  have hz : (.agg #[.int .i64 0, .int .i64 0, .string ⟨#[]⟩, .slice none 0 0, .slice none 0 0] : Value).cells.size = 5 := rfl
  have h := run_clear_k (P := Tryz.prog) W1 23 25 ty (.agg #[.int .i64 0, .int .i64 0, .string ⟨#[]⟩, .slice none 0 0, .slice none 0 0]) Tryz.underlying23 (fun w => by simp [Go.zeroValue, typeInfo, hi, hz0]) (by decide) g (m * 5) (cap - m) c1.toArray 25 hg1 (by rw [hsz1, hz]; omega)
  rw [h, hW2]
  rfl
 have hfin1 : W2.ownsRow base 25 5 (.slice (some ⟨g, 0, none⟩) m cap) m ((cur.toList.take ((m + 1) * 5)).take (k * 5) ++ (cur.toList.take ((m + 1) * 5)).drop ((k + 1) * 5)) := by
  rw [hW2]
  refine ownsRow_mk hb (setRow_heap W1 g _ _ 25 _ hg1) (by omega) hm ?_ ?_
  ·rw [List.size_toArray, hl2, Array.length_toList, hcs]
  ·rw [show m * 5 = m * 5 by omega]
   rw [List.toList_toArray, hl1]
   try (congr 2 <;> omega)
 have hfin2 : w.grownBy W2 (some g) := by
  rw [hW2, hW1]
  exact grown_trans (grown_drew (grown_setRow w.drew g _)) (grown_setRow _ g _)
 have mixed : Tryz.prog.follows Departure.mixedOrders = true := by kernel_rfl
 have hz3 : ¬ ((k : Int) = (k : Int) + 1) := by omega
 have hb1 : (0 : Int) ≤ (k : Int) + 1 := by omega
 have htn : ((k : Int) + 1).toNat = k + 1 := by omega
 have hin : k ≤ cap := by omega
 have hin2 : k + 1 ≤ cap := by omega
 have hin3 : k ≤ k + 1 := by omega
 have hin4 : k + 1 ≤ m + 1 := by omega
 have hin5 : m + 1 ≤ cap := by omega
 have hin6 : m ≤ m + 1 := by omega
 have hb3 : ((k : Int) + 1) ≤ ((m : Int) + 1) := by omega
 have hcm : ¬ (cap = m) := by omega
 have hcm2 : m + 1 - m = 1 := by omega
 have Hf1 := Lib.hid hfin1
 have Hf2 := Lib.hid hfin2
 clear hfin1 hfin2 hW2 hsz1 hW1 hg1 hl1 hl2 hl3 hc1 hcsd hcl hg h1c hcs hi hz0 hz1 hz2
 by_cases hck1 : cap = k + 1
 ·obtain rfl : m = k := by omega
  subst hck1
  have hap' := fun ty => hap ⟨g, 0, none⟩ ty (.inl rfl)
  clear hap
  have hi7 : (m : Int) ≤ (m : Int) + 1 := by omega
  rw [show m + 1 - m = 1 by omega] at hcl2
  go_enter Tryz.func150, Tryz.ntmps150
  go_wp2_with fail
  go_region_law_o (refine step_append_runI rfl _ _ 23 23 rfl _ _ (by simp [Act.eval, Act.put]) (by simp [Act.eval, Act.put]) (hap' _) ?_)
  go_wp2
  go_ret
  exact ⟨rfl, Hf1.out, Hf2.out⟩
 ·have hap' := fun ty => hap ⟨g, (k + 1) * 5, none⟩ ty (.inr rfl)
  clear hap
  go_enter Tryz.func150, Tryz.ntmps150
  go_wp2_with fail
  go_region_law_o (refine step_append_runI rfl _ _ 23 23 rfl _ _ (by simp [Act.eval, Act.put]) (by simp [Act.eval, Act.put, hck1]) (hap' _) ?_)
  go_wp2
  go_ret
  exact ⟨rfl, Hf1.out, Hf2.out⟩
end Go.Proofs.YtjibdbnpkfghhaaGreatDoor
