/- The library's Clone, Insert, Delete at []api.Owner: walks on rows of the call's own. (Written by slgen.py from one text for texts and for values.) -/
import Derived.Test.YtjibdbnpkfghhaaGreatDoorPkE
import Derived.Test.YtjibdbnpkfghhaaGreatDoorPkC
import Derived.Test.YtjibdbnpkfghhaaGreatDoorPkQ
set_option linter.all false
namespace Go.Proofs.YtjibdbnpkfghhaaGreatDoor
open Go.RowKit
set_option maxRecDepth 100000 in
set_option maxHeartbeats 4000000 in
theorem insOw_shift (base g n cap k vb vc : Nat) (cur : Array Value) (new : List Value) (w : World) (TB : TypeId) (hb : base ≤ g) (hg : w.heap[g]? = some (.cells cur 42 (0, 0))) (hnc : n < cap) (hm : cap ≤ maxLen) (hcs : cur.size = cap * 2)
  (hk : k < n) (hB : Box w vb new.toArray TB) (hvb : vb ≠ g) (hnew : new.length = 2) (h1c : ∀ u ∈ cur.toList.take (n * 2), u.oneCell' = true) (h1 : ∀ u ∈ new, u.oneCell' = true) :
  Calls Tryz.prog 63 #[.slice (some ⟨g, 0, none⟩) n cap, .int .i64 k, .slice (some ⟨vb, 0, none⟩) 1 vc] w fun e w' => e = .returned (.slice (some ⟨g, 0, none⟩) (n + 1) cap) ∧
   w'.ownsRow base 42 2 (.slice (some ⟨g, 0, none⟩) (n + 1) cap) (n + 1) ((cur.toList.take (n * 2)).take (k * 2) ++ new ++ (cur.toList.take (n * 2)).drop (k * 2)) ∧ w.grownBy w' (some g) := by
 obtain ⟨i0, hi, hz0, hz1, hz2⟩ := info_parts Tryz.infoOw
 have hsz : (Tryz.prog.info? 42).map (·.size) = some 2 := by rw [hi]; simp [hz1]
 have hm2 : cap ≤ 9223372036854775807 := hm
 have hck : (n + 1) * 2 ≤ cap * 2 := Nat.mul_le_mul_right _ hnc
 have hB' : w.heap[vb]? = some (.cells new.toArray TB (0, 0)) := hB
 have hov : ∀ lb cb, (callFunc 114 #[.slice (some ⟨vb, 0, none⟩) 1 vc, .slice (some ⟨g, (k + 1) * 2, none⟩) lb cb]).run Tryz.prog w = .ok (.value (.bool false)) w := fun lb cb => by
  rw [run_callFunc_extern Tryz.func114 (by kernel_rfl) (by kernel_rfl) (by kernel_rfl) (e := Extern.SlicesOverlaps.overlaps #[32, 32] #[4]) (by kernel_rfl),
   Lib.run_overlaps_apart w 32 4 42 Tryz.underlying32 2 (by intro w; simp [Go.sizeOf, typeInfo, hi, hz1]) ⟨vb, 0, none⟩ ⟨g, (k + 1) * 2, none⟩ 1 vc lb cb hvb TB 42 new.length cur.size (by simp [World.shape?, hB']) (by simp [World.shape?, hg]) (by rw [hcs]; omega) (hB.free 0) (hB.free new.length)]
  rfl
 obtain ⟨cs, hcsd⟩ : ∃ cs, cs = (cur.toList.take (n * 2)).drop (k * 2) := ⟨_, rfl⟩
 have hcl : cs.length = (n - k) * 2 := by rw [hcsd]; simp; omega
 have hcell : ∀ j v, cs[j]? = some v → w.drew.cell? ((⟨g, k * 2, none⟩ : Addr).add j) = some v := fun j v hj => by
  rw [Addr.add_lit, hcsd, List.getElem?_drop, List.getElem?_take] at *
  split at hj
  ·show w.cell? _ = _
   rw [cell_of_row w g _ cur _ _ hg]
   simpa using hj
  ·cases hj
 have hlist := list_shift cur.toList new (k * 2) (n * 2) (by omega) (by rw [hnew, Array.length_toList, hcs]; omega) cs hcsd
 simp only at hlist
 obtain ⟨hl1, hl2, hl3⟩ := hlist
 have hcp1 : ∀ ty, (Builtin.copy_ #[32, 32] ty #[.slice (some ⟨g, (k + 1) * 2, none⟩) (n - k) (cap - (k + 1)), .slice (some ⟨g, k * 2, none⟩) (n + 1 - k) (cap - k)]).run Tryz.prog w.drew = .ok (goInt (n - k : Nat)) (w.drew.setRow g (cur.toList.take ((k + 1) * 2) ++ cs ++ cur.toList.drop ((k + 1) * 2 + cs.length)).toArray) := fun ty =>
  run_copy_k w.drew _ _ ty 42 2 g ((k + 1) * 2) _ _ ⟨g, k * 2, none⟩ _ _ cur 42 cs (n - k) Tryz.underlying32 hsz (by simp only [Nat.min_def]; split <;> omega) hg hcl hcell (by rw [hcl, hcs]; omega) (fun v hv => h1c v (List.mem_of_mem_drop (by rw [← hcsd]; exact hv)))
 have hea : (k + 1) * 2 = k * 2 + new.length := by omega
 obtain ⟨c1, hc1⟩ : ∃ c1, c1 = cur.toList.take ((k + 1) * 2) ++ cs ++ cur.toList.drop ((k + 1) * 2 + cs.length) := ⟨_, rfl⟩
 rw [← hc1] at hcp1
 rw [← hea, ← hc1] at hl1 hl2 hl3
 obtain ⟨W1, hW1⟩ : ∃ W1, W1 = w.drew.setRow g c1.toArray := ⟨_, rfl⟩
 rw [← hW1] at hcp1
 have hg1 : W1.heap[g]? = some (.cells c1.toArray 42 (0, 0)) := by rw [hW1]; exact setRow_heap w.drew g cur _ 42 _ hg
 have hcp2 : ∀ ty, (Builtin.copy_ #[32, 32] ty #[.slice (some ⟨g, k * 2, none⟩) (n + 1 - k) (cap - k), .slice (some ⟨vb, 0, none⟩) 1 vc]).run Tryz.prog W1 = .ok (goInt (1 : Nat)) (W1.setRow g (c1.toArray.toList.take (k * 2) ++ new ++ c1.toArray.toList.drop (k * 2 + new.length)).toArray) := fun ty =>
  run_copy_k W1 _ _ ty 42 2 g (k * 2) _ _ ⟨vb, 0, none⟩ _ _ c1.toArray 42 new 1 Tryz.underlying32 hsz (by simp only [Nat.min_def]; split <;> omega) hg1 (by omega) (fun j v hj => by
   rw [Addr.add_lit, hW1, cell_setRow_other _ _ _ _ (by exact hvb)]
   show w.cell? _ = _
   rw [cell_of_row w vb _ _ _ _ hB']; first | done | simpa using hj) (by simp only [List.size_toArray, hl3, Array.length_toList, hcs, hnew]; omega) h1
 rw [← hea] at hcp2
 simp only [List.toList_toArray] at hcp2
 have mixed : Tryz.prog.follows Departure.mixedOrders = true := by kernel_rfl
 have hw1 : IntKind.i64.wrap ((k : Int) + 1) = (k : Int) + 1 := by rw [IntKind.wrap_i64]; omega
 have hz3 : ¬ ((k : Int) = (n : Int)) := by omega
 have hb1 : (0 : Int) ≤ (k : Int) + 1 := by omega
 have htn : ((k : Int) + 1).toNat = k + 1 := by omega
 have hb2 : ¬ (cap = k + 1) := by omega
 have hb3 : (k : Int) ≤ (n : Int) + 1 := by omega
 have hin : k ≤ n := by omega
 have hb4 : ¬ (cap = k) := by omega
 have hfin1 : (W1.setRow g (c1.take (k * 2) ++ new ++ c1.drop ((k + 1) * 2)).toArray).ownsRow base 42 2 (.slice (some ⟨g, 0, none⟩) (n + 1) cap) (n + 1) ((cur.toList.take (n * 2)).take (k * 2) ++ new ++ (cur.toList.take (n * 2)).drop (k * 2)) := by
  refine ownsRow_mk hb (setRow_heap W1 g _ _ 42 _ hg1) hnc hm ?_ ?_
  ·rw [List.size_toArray, hl2, Array.length_toList, hcs]
  ·rw [← hl1, hnew]
   rw [show (n + 1) * 2 = n * 2 + 2 from by omega]
 have hfin2 : w.grownBy (W1.setRow g (c1.take (k * 2) ++ new ++ c1.drop ((k + 1) * 2)).toArray) (some g) := by
  rw [hW1]
  exact grown_trans (grown_drew (grown_setRow w.drew g _)) (grown_setRow _ g _)
 obtain ⟨W2, hW2⟩ : ∃ W2, W2 = W1.setRow g (c1.take (k * 2) ++ new ++ c1.drop ((k + 1) * 2)).toArray := ⟨_, rfl⟩
 rw [← hW2] at hcp2 hfin1 hfin2
 have Hf1 := Lib.hid hfin1
 have Hf2 := Lib.hid hfin2
 clear hfin1 hfin2 hea hW2 hW1 hg1 hl1 hl2 hl3 hc1 hcell hcsd hcl hg h1c h1 hcs hB hB'
 go_enter Tryz.func63, Tryz.ntmps63
 go_wp2_with (simp only [hov])
 go_region_law_o (refine step_copy_runI rfl _ _ 32 32 rfl _ _ (by simp [Act.eval, Act.put]) (by simp [Act.eval, Act.put]) (hcp1 _) ?_)
 go_wp2_with (at_builtin; refine wpList_copy_runI _ rfl _ _ 32 32 rfl _ _ rfl rfl (hcp2 _) ?_)
 go_ret
 exact ⟨rfl, Hf1.out, Hf2.out⟩
set_option maxRecDepth 100000 in
set_option maxHeartbeats 4000000 in
theorem insOw_grow (base g n cap k vb vc : Nat) (cur : Array Value) (new : List Value) (w : World) (TB : TypeId) (hbw : base ≤ w.heap.size) (hg : w.heap[g]? = some (.cells cur 42 (0, 0))) (hnc : n ≤ cap) (hfull : cap < n + 1) (hn30 : n ≤ 1073741824) (hcs : cur.size = cap * 2)
  (hk : k < n) (hB : Box w vb new.toArray TB) (hnew : new.length = 2) (h1c : ∀ u ∈ cur.toList.take (n * 2), u.oneCell' = true) (h1 : ∀ u ∈ new, u.oneCell' = true) :
  Calls Tryz.prog 63 #[.slice (some ⟨g, 0, none⟩) n cap, .int .i64 k, .slice (some ⟨vb, 0, none⟩) 1 vc] w fun e w' => ∃ G, e = .returned (.slice (some ⟨w.heap.size, 0, none⟩) (n + 1) G) ∧
   w'.ownsRow base 42 2 (.slice (some ⟨w.heap.size, 0, none⟩) (n + 1) G) (n + 1) ((cur.toList.take (n * 2)).take (k * 2) ++ new ++ (cur.toList.take (n * 2)).drop (k * 2)) ∧ Ext w w' := by
 obtain ⟨i0, hi, hz0, hz1, hz2⟩ := info_parts Tryz.infoOw
 have hsz : (Tryz.prog.info? 42).map (·.size) = some 2 := by rw [hi]; simp [hz1]
 obtain ⟨cs, hcsd⟩ : ∃ cs, cs = cur.toList.take (n * 2) := ⟨_, rfl⟩
 rw [← hcsd] at h1c ⊢
 have hnk : n * 2 ≤ cap * 2 := Nat.mul_le_mul_right _ hnc
 have hcl : cs.length = n * 2 := by rw [hcsd]; simp; omega
 have hgw : g < w.heap.size := lt_of_block hg
 have hvw : vb < w.heap.size := hB.lt
 have hB' : w.heap[vb]? = some (.cells new.toArray TB (0, 0)) := hB
 have hcell : ∀ j v, cs[j]? = some v → w.cell? ⟨g, j, none⟩ = some v := fun j v hj => by
  rw [cell_of_row w g j cur _ _ hg]
  rw [hcsd, List.getElem?_take] at hj
  split at hj
  ·simpa using hj
  ·cases hj
 have hold : (Builtin.firstCells i0.size k (.slice (some ⟨g, 0, none⟩) k cap)).run Tryz.prog w.drew = .ok (cs.take (k * 2)).toArray w.drew := by
  rw [hz1]
  exact run_firstCells_some w.drew 2 k ⟨g, 0, none⟩ k cap (cs.take (k * 2)) (by rw [List.length_take]; omega) (fun j v hj => by
   rw [Addr.add_lit]
   rw [List.getElem?_take] at hj
   split at hj
   ·rw [Nat.zero_add]; exact hcell j v hj
   ·cases hj)
 have hkk : (n : Int) + 1 - (k : Int) = ((n + 1 - k : Nat) : Int) := by omega
 have hik : k + (n + 1 - k) = n + 1 := by omega
 have hrz : ∀ ty, (Builtin.append_ #[32, 3] ty #[.slice (some ⟨g, 0, none⟩) k cap, .int .i64 ((n : Int) + 1 - (k : Int))]).run Tryz.prog w =
   .ok (.slice (some ⟨w.heap.size, 0, none⟩) (n + 1) (grownCap w (n + 1) cap 42)) (w.drew.alloc (.cells ((cs.take (k * 2)).toArray ++ Builtin.zeroCells (Value.cells (.agg #[.string ⟨#[]⟩, .slice none 0 0])) (n + 1 - k) ++ Builtin.zeroCells (Value.cells (.agg #[.string ⟨#[]⟩, .slice none 0 0])) (grownCap w (n + 1) cap 42 - (n + 1))) 42)) := fun ty => by
  have h := Lib.run_append_grow_zeros w 32 3 ty 42 i0 _ .i64 .i64 Tryz.underlying32 Tryz.underlying3 hi hz0 (some ⟨g, 0, none⟩) k cap (cs.take (k * 2)) hold (n + 1 - k) (by omega) (by omega) (by omega) (by omega) (by rw [hz2]; omega) (by rw [hz2, hik]; exact growslice_fits (by omega) (by omega))
  rw [hik] at h
  rw [hkk]
  exact h
 obtain ⟨G, hG⟩ : ∃ G, G = grownCap w (n + 1) cap 42 := ⟨_, rfl⟩
 have hGn : n + 1 ≤ G := by rw [hG]; exact grownCap_ge w _ _ _
 have hGm : G ≤ maxLen := by rw [hG]; exact grownCap_le_maxLen w (n + 1) cap 42 (by unfold maxLen; omega)
 have hG63 : G ≤ 9223372036854775807 := hGm
 rw [← hG] at hrz
 obtain ⟨z1, hz1d⟩ : ∃ z1, z1 = (Builtin.zeroCells (Value.cells (.agg #[.string ⟨#[]⟩, .slice none 0 0])) (n + 1 - k)).toList := ⟨_, rfl⟩
 obtain ⟨z2, hz2d⟩ : ∃ z2, z2 = (Builtin.zeroCells (Value.cells (.agg #[.string ⟨#[]⟩, .slice none 0 0])) (G - (n + 1))).toList := ⟨_, rfl⟩
 have hz1l : z1.length = (n + 1 - k) * 2 := by rw [hz1d, Array.length_toList, size_zeroCells]; simp [Value.cells]
 have hz2l : z2.length = (G - (n + 1)) * 2 := by rw [hz2d, Array.length_toList, size_zeroCells]; simp [Value.cells]
 obtain ⟨c0, hc0⟩ : ∃ c0 : List Value, c0 = cs.take (k * 2) ++ z1 ++ z2 := ⟨_, rfl⟩
 have hrow : (cs.take (k * 2)).toArray ++ Builtin.zeroCells (Value.cells (.agg #[.string ⟨#[]⟩, .slice none 0 0])) (n + 1 - k) ++ Builtin.zeroCells (Value.cells (.agg #[.string ⟨#[]⟩, .slice none 0 0])) (G - (n + 1)) = c0.toArray := by
  apply Array.toList_inj.1
  rw [hc0, hz1d, hz2d]
  simp
 rw [hrow] at hrz
 have hlist := list_grown cs new z1 z2 (k * 2) (by omega) (by rw [hz1l, hnew, hcl]; omega)
 simp only at hlist
 rw [← hc0] at hlist
 obtain ⟨hl1, hl2, hl3⟩ := hlist
 have hl0 : c0.length = G * 2 := by rw [hc0, List.length_append, List.length_append, hz1l, hz2l, List.length_take, hcl]; omega
 obtain ⟨c1, hc1⟩ : ∃ c1, c1 = c0.take (k * 2) ++ new ++ c0.drop (k * 2 + new.length) := ⟨_, rfl⟩
 rw [← hc1] at hl1 hl2 hl3
 have hea : k * 2 + new.length = (k + 1) * 2 := by omega
 have hgA : ∀ W : World, (∀ b, W.heap[b]? = (w.drew.alloc (.cells c0.toArray 42)).heap[b]?) → W.heap[w.heap.size]? = some (.cells c0.toArray 42 (0, 0)) := fun W h => by
  rw [h]; show (w.heap.push _)[w.heap.size]? = _; simp
 have hcpA : ∀ (W : World), (∀ b, W.heap[b]? = (w.drew.alloc (.cells c0.toArray 42)).heap[b]?) → ∀ ty dc, (Builtin.copy_ #[32, 32] ty #[.slice (some ⟨w.heap.size, k * 2, none⟩) (n + 1 - k) dc, .slice (some ⟨vb, 0, none⟩) 1 vc]).run Tryz.prog W = .ok (goInt (1 : Nat)) (W.setRow w.heap.size c1.toArray) := fun W hW ty dc => by
  have h := run_copy_k W 32 32 ty 42 2 w.heap.size (k * 2) (n + 1 - k) dc ⟨vb, 0, none⟩ 1 vc c0.toArray 42 new 1 Tryz.underlying32 hsz (by simp only [Nat.min_def]; split <;> omega) (hgA W hW) (by omega) (fun j v hj => by
   have hbv : W.heap[vb]? = some (.cells new.toArray TB (0, 0)) := by
    rw [hW]
    show (w.heap.push _)[vb]? = _
    rw [Array.getElem?_push, if_neg (by omega)]; exact hB'
   rw [Addr.add_lit, cell_of_row W vb _ _ _ _ hbv]; simpa using hj) (by rw [List.size_toArray, hl0, hnew]; omega) h1
  simp only [List.toList_toArray] at h
  rw [← hc1] at h
  exact h
 have hgne : g ≠ w.heap.size := by omega
 have hcpB : ∀ (W : World), W.heap[w.heap.size]? = some (.cells c1.toArray 42 (0, 0)) → (∀ b, b < w.heap.size → W.heap[b]? = w.heap[b]?) → ∀ ty dc sc, (Builtin.copy_ #[32, 32] ty #[.slice (some ⟨w.heap.size, (k + 1) * 2, none⟩) (n - k) dc, .slice (some ⟨g, k * 2, none⟩) (n - k) sc]).run Tryz.prog W = .ok (goInt (n - k : Nat)) (W.setRow w.heap.size (c1.take (k * 2 + new.length) ++ cs.drop (k * 2) ++ c1.drop (k * 2 + new.length + (cs.drop (k * 2)).length)).toArray) := fun W hW hO ty dc sc => by
  have h := run_copy_k W 32 32 ty 42 2 w.heap.size ((k + 1) * 2) (n - k) dc ⟨g, k * 2, none⟩ (n - k) sc c1.toArray 42 (cs.drop (k * 2)) (n - k) Tryz.underlying32 hsz (by simp) hW (by rw [List.length_drop, hcl]; omega) (fun j v hj => by
   have hbg : W.heap[g]? = some (.cells cur 42 (0, 0)) := by rw [hO g hgw]; exact hg
   rw [List.getElem?_drop] at hj
   rw [Addr.add_lit, cell_of_row W g _ _ _ _ hbg, ← cell_of_row w g _ _ _ _ hg]
   exact hcell _ v hj) (by rw [List.size_toArray, hl3, hl0, List.length_drop, hcl]; omega) (fun v hv => h1c v (List.mem_of_mem_drop hv))
  simp only [List.toList_toArray] at h
  rw [hea]
  exact h
 obtain ⟨c2, hc2⟩ : ∃ c2, c2 = c1.take (k * 2 + new.length) ++ cs.drop (k * 2) ++ c1.drop (k * 2 + new.length + (cs.drop (k * 2)).length) := ⟨_, rfl⟩
 rw [← hc2] at hcpB hl1 hl2
 have hfin : ∀ W : World, W.heap[w.heap.size]? = some (.cells c1.toArray 42 (0, 0)) → (W.setRow w.heap.size c2.toArray).ownsRow base 42 2 (.slice (some ⟨w.heap.size, 0, none⟩) (n + 1) G) (n + 1) (cs.take (k * 2) ++ new ++ cs.drop (k * 2)) := fun W hW => by
  refine ownsRow_mk hbw (setRow_heap W w.heap.size _ _ 42 _ hW) hGn hGm ?_ ?_
  ·rw [List.size_toArray, hl2, hl0]
  ·rw [← hl1, hcl, hnew]
   rw [show (n + 1) * 2 = n * 2 + 2 from by omega]
 have hgB : ∀ W : World, W.heap[w.heap.size]? = some (.cells c0.toArray 42 (0, 0)) → (W.setRow w.heap.size c1.toArray).heap[w.heap.size]? = some (.cells c1.toArray 42 (0, 0)) := fun W hW => setRow_heap W w.heap.size _ _ 42 _ hW
 have mixed : Tryz.prog.follows Departure.mixedOrders = true := by kernel_rfl
 have hw1 : IntKind.i64.wrap ((k : Int) + 1) = (k : Int) + 1 := by rw [IntKind.wrap_i64]; omega
 have hz3 : ¬ ((k : Int) = (n : Int)) := by omega
 have hz4 : (cap : Int) < (n : Int) + 1 := by omega
 have hb1 : (0 : Int) ≤ (k : Int) + 1 := by omega
 have hin : k ≤ n := by omega
 have htn : ((k : Int) + 1).toNat = k + 1 := by omega
 have hb3 : (k : Int) ≤ (n : Int) := by omega
 have hGi : ¬ (G = k) := by omega
 have hGim : ¬ (G = k + 1) := by omega
 have hci : ¬ (cap = k) := by omega
 have hE : ∀ b : Nat, ((w.alloc (.cells c0.toArray 42)).drew).heap[b]? = (w.drew.alloc (.cells c0.toArray 42)).heap[b]? := fun _ => rfl
 have hG3 : (((w.alloc (.cells c0.toArray 42)).drew.setRow w.heap.size c1.toArray).drew).heap[w.heap.size]? = some (.cells c1.toArray 42 (0, 0)) := hgB _ (hgA _ hE)
 have hO3 : ∀ b, b < w.heap.size → (((w.alloc (.cells c0.toArray 42)).drew.setRow w.heap.size c1.toArray).drew).heap[b]? = w.heap[b]? := fun b hb => by
  show ((w.drew.alloc (.cells c0.toArray 42)).setRow w.heap.size c1.toArray).heap[b]? = _
  rw [setRow_other _ _ _ _ (by omega)]
  show (w.heap.push _)[b]? = _
  rw [Array.getElem?_push, if_neg (by omega)]
 have hB3 := hcpB _ hG3 hO3
 have hfin3 := hfin _ hG3
 have hext3 : Ext w ((((w.alloc (.cells c0.toArray 42)).drew.setRow w.heap.size c1.toArray).drew).setRow w.heap.size c2.toArray) := by
  refine Ext.grown (row := some w.heap.size) (b := w.alloc (.cells c0.toArray 42)) ((Ext.refl w).alloc _) ?_ (by simp)
  exact grown_trans (b := (w.alloc (.cells c0.toArray 42)).drew.setRow w.heap.size c1.toArray) (grown_drew (grown_setRow (w.alloc (.cells c0.toArray 42)).drew w.heap.size c1.toArray)) (grown_drew (grown_setRow (((w.alloc (.cells c0.toArray 42)).drew.setRow w.heap.size c1.toArray).drew) w.heap.size c2.toArray))
 have Hfin := Lib.hid hfin3
 have Hext := Lib.hid hext3
 clear hfin hfin3 hext3 hcpB hG3 hO3 hl1 hl2 hl3 hc1 hc2 hcell hcsd hcl hg h1c h1 hcs hB hB' hea hold hkk hik hz1d hz2d hz1l hz2l hc0 hrow hl0 hG hnk hgA hgB hi hz0 hz1 hz2 hsz
 go_enter Tryz.func63, Tryz.ntmps63
 go_wp2_with (first
  | (at_builtin; refine Lib.wpList_append_run _ rfl _ _ _ _ rfl _ _ rfl rfl _ _ (hrz _) ?_)
  | (at_builtin; refine wpList_copy_runI _ rfl _ _ 32 32 rfl _ _ rfl rfl (hcpA _ hE _ _) ?_))
 go_region_law_o (refine step_copy_runI rfl _ _ 32 32 rfl (.slice (some ⟨w.heap.size, (k + 1) * 2, none⟩) (n - k) (G - (k + 1))) (.slice (some ⟨g, k * 2, none⟩) (n - k) (cap - k)) (by simp [Act.eval, Act.put]) (by simp [Act.eval, Act.put]) (hB3 _ _ _) ?_)
 go_wp2
 go_ret
 exact ⟨G, rfl, Hfin.out, Hext.out⟩
set_option maxRecDepth 100000 in
set_option maxHeartbeats 4000000 in
theorem insOw_end (base n vb vc : Nat) (v : Value) (xs new : List Value) (w : World) (TB : TypeId) (hbw : base ≤ w.heap.size) (hown : w.ownsRow base 42 2 v n xs) (hn30 : n ≤ 1073741824)
  (hB : Box w vb new.toArray TB) (hnew : new.length = 2) (h1 : ∀ u ∈ new, u.oneCell' = true) :
  Calls Tryz.prog 63 #[v, .int .i64 n, .slice (some ⟨vb, 0, none⟩) 1 vc] w fun e w' => ∃ g cap, e = .returned (.slice (some ⟨g, 0, none⟩) (n + 1) cap) ∧
   w'.ownsRow base 42 2 (.slice (some ⟨g, 0, none⟩) (n + 1) cap) (n + 1) (xs ++ new) ∧ w.grownBy w' v.ownBlock ∧ (v.ownBlock = some g ∨ g = w.heap.size) := by
 obtain ⟨i0, hi, hz0, hz1, hz2⟩ := info_parts Tryz.infoOw
 obtain ⟨a, c, rfl, hok⟩ := owns_form hown
 have hB' : w.heap[vb]? = some (.cells new.toArray TB (0, 0)) := hB
 have hsl : (a = none ∧ n = 0 ∧ c = 0) ∨ ∃ g, a = some ⟨g, 0, none⟩ := by
  rcases hown.2 with ⟨h, h0⟩ | ⟨g, cap, cur, h, -⟩
  ·simp only [Value.slice.injEq] at h; exact .inl ⟨h.1, h.2.1, h.2.2⟩
  ·simp only [Value.slice.injEq] at h; exact .inr ⟨g, h.1⟩
 have hcell : ∀ (j : Nat) (u : Value), new[j]? = some u → w.cell? ((⟨vb, 0, none⟩ : Addr).add j) = some u := fun j u hj => by
  rw [Addr.add_lit, cell_of_row w vb _ _ _ _ hB']; simpa using hj
 have Hcell := Lib.hid hcell
 have Hown := Lib.hid hown
 have hnc := hok.1
 have hc63 : c ≤ 9223372036854775807 := hok.2.1
 have hsk : (1 : Nat) * 2 = new.length := by omega
 clear hcell hown hB' hB hok
 rcases hsl with ⟨rfl, rfl, rfl⟩ | ⟨g0, rfl⟩
 ·go_enter Tryz.func63, Tryz.ntmps63
  go_wp2_with ((at_builtin; refine wpList_append_lies _ (by rfl) _ _ 32 (by rfl) base 42 i0 _ 2 40 Tryz.underlying32 hi hz0 hz1 hz2 rfl (by decide) _ _ xs (by rfl) Hown.out ⟨vb, 0, none⟩ 1 vc new (by rfl) hsk.symm Hcell.out h1 (by omega) (by unfold maxLen; omega) (by omega) hbw _ rfl ?_; intro g6 cap6 w6 hown6 hgrow6 hat6 hlt6; have Hown6 := Lib.hid hown6; have Hgrow := Lib.hid hgrow6; have Hat := Lib.hid hat6; clear hown6 hgrow6 hat6))
  go_ret
  exact ⟨g6, cap6, rfl, Hown6.out, Hgrow.out, Hat.out⟩
 ·go_enter Tryz.func63, Tryz.ntmps63
  go_wp2_with ((at_builtin; refine wpList_append_lies _ (by rfl) _ _ 32 (by rfl) base 42 i0 _ 2 40 Tryz.underlying32 hi hz0 hz1 hz2 rfl (by decide) _ _ xs (by rfl) Hown.out ⟨vb, 0, none⟩ 1 vc new (by rfl) hsk.symm Hcell.out h1 (by omega) (by unfold maxLen; omega) (by omega) hbw _ rfl ?_; intro g6 cap6 w6 hown6 hgrow6 hat6 hlt6; have Hown6 := Lib.hid hown6; have Hgrow := Lib.hid hgrow6; have Hat := Lib.hid hat6; clear hown6 hgrow6 hat6))
  all_goals (go_ret; exact ⟨g6, cap6, rfl, Hown6.out, Hgrow.out, Hat.out⟩)
theorem insOw_any (base n k vb vc : Nat) (v : Value) (xs new : List Value) (w : World) (TB : TypeId) (hbw : base ≤ w.heap.size) (hown : w.ownsRow base 42 2 v n xs) (hn30 : n ≤ 1073741824) (hk : k ≤ n)
  (hB : Box w vb new.toArray TB) (hvb : v.ownBlock ≠ some vb) (hnew : new.length = 2) (h1c : ∀ u ∈ xs, u.oneCell' = true) (h1 : ∀ u ∈ new, u.oneCell' = true) :
  Calls Tryz.prog 63 #[v, .int .i64 k, .slice (some ⟨vb, 0, none⟩) 1 vc] w fun e w' => ∃ g cap, e = .returned (.slice (some ⟨g, 0, none⟩) (n + 1) cap) ∧
   w'.ownsRow base 42 2 (.slice (some ⟨g, 0, none⟩) (n + 1) cap) (n + 1) (xs.take (k * 2) ++ new ++ xs.drop (k * 2)) ∧ w.grownBy w' v.ownBlock ∧ (v.ownBlock = some g ∨ g = w.heap.size) := by
 by_cases hkn : k = n
 ·subst hkn
  have hl := hown.1
  refine (insOw_end base k vb vc v xs new w TB hbw hown hn30 hB hnew h1).mono ?_
  rintro e w' ⟨g, cap, he, h2, h3, h4⟩
  refine ⟨g, cap, he, ?_, h3, h4⟩
  rw [List.take_of_length_le (by omega), List.drop_of_length_le (by omega), List.append_nil]
  exact h2
 ·obtain ⟨g, cap, cur, rfl, hb, hg, hnc, hm, hcs, ht⟩ := ownsRow_at hown (by omega)
  have ht' : cur.toList.take (n * 2) = xs := by simpa using ht
  by_cases hroom : n < cap
  ·refine (insOw_shift base g n cap k vb vc cur new w TB hb hg hroom hm hcs (by omega) hB (fun e => hvb (by rw [e]; rfl)) hnew (by rw [ht']; exact h1c) h1).mono ?_
   rintro e w' ⟨he, h2, h3⟩
   rw [ht'] at h2
   exact ⟨g, cap, he, h2, h3, .inl rfl⟩
  ·refine (insOw_grow base g n cap k vb vc cur new w TB hbw hg hnc (by omega) hn30 hcs (by omega) hB hnew (by rw [ht']; exact h1c) h1).mono ?_
   rintro e w' ⟨G, he, h2, h3⟩
   rw [ht'] at h2
   exact ⟨w.heap.size, G, he, h2, ⟨h3.os, h3.tape, h3.output, h3.size, fun k hk _ => h3.block k hk⟩, .inr rfl⟩
end Go.Proofs.YtjibdbnpkfghhaaGreatDoor
