/- The library's Clone and Insert at nil: at texts and at values; BinarySearch at nil. -/
import Derived.Test.YtknnflobpjppfaaDoorPoint3
import Derived.Test.YtknnflobpjppfaaDoorTill
import Derived.Test.YtknnflobpjppfaaDoorMember
import Derived.Lib.SliceRun
set_option linter.all false
namespace Go.Proofs.YtknnflobpjppfaaDoor
open Go.RowKit

theorem bs_nil (x : ByteArray) (w : World) : Calls Tryd.prog 48 #[.slice none 0 0, .string x] w fun e w' => e = .returned (.tuple #[.int .i64 0, .bool false]) ∧ w = w' :=
  (Any2.slices_BinarySearch_string_empty Tryd.lays2_26 none 0 x w).mono fun e w' h => ⟨h.1, h.2.symm⟩
theorem cloneS_nil (w : World) : Calls Tryd.prog 49 #[.slice none 0 0] w fun e w' => e = .returned (.slice none 0 0) ∧ w = w' :=
  (Tryd.slices_Clone_string_nil 0 0 w).mono fun e w' h => ⟨h.1, h.2.symm⟩
set_option maxRecDepth 100000 in
theorem cloneV_nil (w : World) : Calls Tryd.prog 37 #[.slice none 0 0] w fun e w' => e = .returned (.slice none 0 0) ∧ w = w' := by
  have q31 : ∀ (w : World) (a : Option Addr) (n c n' c' : Nat), (binOp .eql 31 (.slice a n c) (.slice none n' c')).run Tryd.prog w = .ok (.bool a.isNone) w := fun w a n c n' c' => Lib.run_eql_slice_nil w _ _ a n c n' c' Tryd.underlying31
  go_enter Tryd.func37, Tryd.ntmps37
  go_wp2_with fail
  go_ret
  exact ⟨rfl, rfl⟩
set_option maxRecDepth 100000 in
set_option maxHeartbeats 1000000 in
theorem insS_nil (vb vo : Nat) (key : ByteArray) (w : World) (hc : w.cell? ⟨vb, vo, none⟩ = some (.string key)) :
    Calls Tryd.prog 50 #[.slice none 0 0, .int .i64 0, .slice (some ⟨vb, vo, none⟩) 1 1] w fun e w' => ∃ a c, e = .returned (.slice a 1 c) ∧ SlOk a 1 c ∧ StrsIn w' (fun b => w.heap.size ≤ b) a [key] ∧ Ext w w' := by
  obtain ⟨i0, hi, hz0, hz1, hz2⟩ := info_parts Tryd.infoS
  go_enter Tryd.func50, Tryd.ntmps50
  go_wp2_with ((at_builtin; refine wpList_append_lies _ (by rfl) _ _ 22 (by rfl) w.heap.size 9 i0 _ 1 16 Tryd.underlying22 hi hz0 hz1 hz2 rfl (by decide) (.slice none 0 0) 0 [] (by rfl) (World.ownsRow_nil _ _ _ _) ⟨vb, vo, none⟩ 1 1 [.string key] (by rfl) (by rfl) (by intro j u hj; cases j with | zero => simp at hj; subst hj; simpa [Addr.add] using hc | succ j => simp at hj) (by simp [Value.oneCell']) (by omega) (by unfold maxLen; omega) (by omega) (by omega) _ rfl ?_; intro g6 cap6 w6 hown6 hgrow6 hat6 hlt6; have Hown6 := Lib.hid hown6; have Hgrow := Lib.hid hgrow6; clear hown6 hgrow6 hat6))
  go_ret
  obtain ⟨a4, c4, he4, hok4, -, hst⟩ := OwnS.strs (base := w.heap.size) (ks := [key]) ⟨rfl, Hown6.out⟩
  exact ⟨a4, c4, congrArg Ending.returned he4, hok4, hst, Ext.grown (Ext.refl _) Hgrow.out (fun g hg => by simp [Value.ownBlock] at hg)⟩
set_option maxRecDepth 100000 in
set_option maxHeartbeats 1000000 in
theorem insV_nil (vb vo : Nat) (x : V) (ka : Option Addr) (kc : Nat) (la : Option Addr) (lc : Nat) (S : Nat → Prop) (w : World) (hin : x.In w S ka kc la lc)
    (d0 : w.cell? ⟨vb, vo, none⟩ = some (.int .i64 x.k)) (d1 : w.cell? ⟨vb, vo + 1, none⟩ = some (.int .i64 x.n)) (d2 : w.cell? ⟨vb, vo + 2, none⟩ = some (.string x.s)) (d3 : w.cell? ⟨vb, vo + 3, none⟩ = some (.slice ka x.keys.length kc)) (d4 : w.cell? ⟨vb, vo + 4, none⟩ = some (.slice la x.l.length lc)) :
    Calls Tryd.prog 40 #[.slice none 0 0, .int .i64 0, .slice (some ⟨vb, vo, none⟩) 1 1] w fun e w' => ∃ a c, e = .returned (.slice a 1 c) ∧ SlOk a 1 c ∧ Rows w' (Plus S w) [x] a ∧ Ext w w' := by
  obtain ⟨j0, hj, hy0, hy1, hy2⟩ := info_parts Tryd.infoV
  go_enter Tryd.func40, Tryd.ntmps40
  go_wp2_with ((at_builtin; refine wpList_append_lies _ (by rfl) _ _ 31 (by rfl) w.heap.size 33 j0 _ 5 80 Tryd.underlying31 hj hy0 hy1 hy2 rfl (by decide) (.slice none 0 0) 0 [] (by rfl) (World.ownsRow_nil _ _ _ _) ⟨vb, vo, none⟩ 1 1 [.int .i64 x.k, .int .i64 x.n, .string x.s, .slice ka x.keys.length kc, .slice la x.l.length lc] (by rfl) (by rfl) (by intro j u hj; match j with | 0 => simp at hj; subst hj; simpa [Addr.add] using d0 | 1 => simp at hj; subst hj; simpa [Addr.add] using d1 | 2 => simp at hj; subst hj; simpa [Addr.add] using d2 | 3 => simp at hj; subst hj; simpa [Addr.add] using d3 | 4 => simp at hj; subst hj; simpa [Addr.add] using d4 | j + 5 => simp at hj) (by simp [Value.oneCell']) (by omega) (by unfold maxLen; omega) (by omega) (by omega) _ rfl ?_; intro g6 cap6 w6 hown6 hgrow6 hat6 hlt6; have Hown6 := Lib.hid hown6; have Hgrow := Lib.hid hgrow6; clear hown6 hgrow6 hat6))
  go_ret
  have hx6 : Ext w w6 := Ext.grown (Ext.refl _) Hgrow.out (fun g hg => by simp [Value.ownBlock] at hg)
  obtain ⟨-, h⟩ := Hown6.out
  rcases h with ⟨-, h0⟩ | ⟨g, cap, cur, hv, hb, hg, hnc, hcm, hcs, ht⟩
  · omega
  · simp only [Value.slice.injEq, Option.some.injEq, Addr.mk.injEq, true_and, and_true] at hv
    obtain ⟨rfl, rfl⟩ := hv
    have hcell : ∀ j u, ([.int .i64 x.k, .int .i64 x.n, .string x.s, .slice ka x.keys.length kc, .slice la x.l.length lc] : List Value)[j]? = some u → w6.cell? ⟨g6, j, none⟩ = some u := by
      intro j u hj
      rw [cell_of_row w6 g6 j cur _ _ hg]
      simp only [List.nil_append] at ht
      rw [← ht, List.getElem?_take] at hj
      split at hj
      · simpa using hj
      · cases hj
    refine ⟨some ⟨g6, 0, none⟩, cap6, rfl, ⟨by omega, hcm, by simp⟩, .inr ⟨g6, 0, rfl, .inr hb, fun i hi => ?_⟩, hx6⟩
    obtain rfl : i = 0 := by simpa using hi
    exact ⟨ka, kc, la, lc, ⟨hcell 0 _ rfl, hcell 1 _ rfl, hcell 2 _ rfl, hcell 3 _ rfl, hcell 4 _ rfl⟩, (hin.ext hx6).mono (fun b h _ => .inl h)⟩
end Go.Proofs.YtknnflobpjppfaaDoor
