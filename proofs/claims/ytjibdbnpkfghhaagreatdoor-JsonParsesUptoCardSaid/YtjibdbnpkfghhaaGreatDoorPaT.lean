/- The walk of the reference's ParseText. -/
import Derived.Test.YtjibdbnpkfghhaaGreatDoorMaA
set_option linter.all false
namespace Go.Proofs.YtjibdbnpkfghhaaGreatDoor
open Go.RowKit
attribute [local go_sem ↓] Go.wp_at_zero Go.wp_at_succ

set_option maxRecDepth 100000 in
set_option maxHeartbeats 8000000 in
theorem parseText_any (s : ByteArray) (w : World) (hs : s.size ≤ 1048576) :
    Calls Tryz.prog 10 #[.string s] w (RetV2 NoB (parseV s.data.toList).1 (.int .i64 (parseV s.data.toList).2) w) := by
  have hl : s.data.toList.length = s.size := Array.length_toList
  by_cases hlong : 2000 < s.size
  · have hli : (2000 : Int) < (s.size : Int) := by omega
    have HR := Lib.hid (show parseV s.data.toList = (V.zero, 2) by unfold parseV; rw [if_pos (by omega)])
    clear hlong hl
    go_enter Tryz.func10, Tryz.ntmps10
    go_wp2_with fail
    (with_reducible apply bp_ret); (focus (go_light; simp [results, Tryz.results10, go_sem, *]; rfl))
    rw [HR.out]
    exact ⟨none, 0, none, 0, rfl, V.zero_in _ _, Xt⟩
  · have hli : ¬ (2000 : Int) < (s.size : Int) := by omega
    obtain ⟨r, hr⟩ : ∃ r, valL 12 (fromB s 0) = r := ⟨_, rfl⟩
    have Hr := Lib.hid hr
    have HP := Lib.hid (show parseV s.data.toList = match r.bind (fun p => if spaceL p.2 = [] ∧ p.1.fine = true then some p.1 else none) with | some v => (v, 0) | none => (V.zero, 1) by
      unfold parseV parseL; rw [if_neg (by omega), ← hr]; rfl)
    clear hlong hl hr
    go_enter Tryz.func10, Tryz.ntmps10
    go_wp2_with fail
    (refine (valueR_any 12 s 0 1 _ rfl hs (by omega)).mono ?_)
    rw [Hr.out]
    rintro e w1 ⟨h1, v, ka, kc, la, lc, y, rfl, hcase⟩
    have hB0 : Box w1 w.heap.size #[.int .i64 0, .int .i64 0, .string ⟨#[]⟩, .slice none 0 0, .slice none 0 0] 25 := Box.ext h1 (Box.new w _ 25 rfl)
    have hx1 : Ext w w1 := Xt
    clear h1
    cases r with
    | none =>
      obtain rfl : y = -1 := hcase
      have HPn := Lib.hid (show parseV s.data.toList = (V.zero, 1) by rw [HP.out]; rfl)
      go_upto_region 4 with fail
      refine gen_world (R := fun wx => Box wx w.heap.size #[.int .i64 0, .int .i64 0, .string ⟨#[]⟩, .slice none 0 0, .slice none 0 0] 25 ∧ Box wx w1.heap.size #[.int .i64 v.k, .int .i64 v.n, .string v.s, .slice ka v.keys.length kc, .slice la v.l.length lc] 25 ∧ Ext w1 wx) ⟨Bxt, Bxt, Xt⟩ ?_
      rintro wa ⟨hB0, hB4, hxa⟩
      have hx2 : Ext w wa := hx1.trans hxa
      have hc4 := hB4.cells; have hf4 := hB4.free; have hl4 := hB4.lt
      have hc0 := hB0.cells; have hf0 := hB0.free; have hl0 := hB0.lt
      go_wp2_with fail
      (with_reducible apply bp_ret); (focus (go_light; simp [results, Tryz.results10, go_sem, *]; rfl))
      rw [HPn.out]
      exact ⟨none, 0, none, 0, rfl, V.zero_in _ _, Xt⟩
    | some p =>
      obtain ⟨v0, t0⟩ := p
      obtain ⟨k, rfl, hk, hkf, rfl, hin⟩ := hcase
      have hkf : fromB s k = t0 := hkf
      have hk0 : ¬ (k : Int) < 0 := by omega
      have hvz := valL_size 12 _ _ Hr.out
      simp only [from_len] at hvz
      have Hin := Lib.hid hin
      have Hkf := Lib.hid hkf
      clear hin hkf
      go_upto_region 4 with fail
      refine gen_world (R := fun wx => Box wx w.heap.size #[.int .i64 0, .int .i64 0, .string ⟨#[]⟩, .slice none 0 0, .slice none 0 0] 25 ∧ Box wx w1.heap.size #[.int .i64 v.k, .int .i64 v.n, .string v.s, .slice ka v.keys.length kc, .slice la v.l.length lc] 25 ∧ Ext w1 wx) ⟨Bxt, Bxt, Xt⟩ ?_
      rintro wa ⟨hB0, hB4, hxa⟩
      have hx2 : Ext w wa := hx1.trans hxa
      go_wp2_with fail
      (refine (skip_any s k _ (by omega) hk).mono ?_)
      rintro e w3 ⟨j, rfl, hkj, hj, hsp, h3⟩
      have hB0 := Box.ext (w' := w3) Xt hB0
      have hB4 := Box.ext (w' := w3) Xt hB4
      have hx3 : Ext w1 w3 := hxa.trans Xt
      have hx4 : Ext w w3 := hx1.trans hx3
      have Hsp := Lib.hid hsp
      clear h3 hsp
      by_cases hend : j = s.size
      · have hje : ((j : Int) != (s.size : Int)) = false := by simp [hend]
        have Hend := Lib.hid (show spaceL t0 = [] by rw [← Hkf.out, ← Hsp.out]; exact from_end (by omega))
        clear hend
        have hc4 := hB4.cells; have hf4 := hB4.free; have hl4 := hB4.lt
        go_wp2_with fail
        (refine (goodValue_any v ka kc la lc _ _ (by omega) (Hin.out.ext Xt)).mono ?_)
        rintro e w4 ⟨rfl, h4⟩
        have hB0 := Box.ext (w' := w4) Xt hB0
        have hB4 := Box.ext (w' := w4) Xt hB4
        have hx5 : Ext w1 w4 := hx3.trans Xt
        have hx6 : Ext w w4 := hx1.trans hx5
        have hzw := hx1.size
        have hz0 := hB0.lt
        clear h4 hc4 hf4 hl4
        have hc0 := hB0.cells; have hf0 := hB0.free; have hl0 := hB0.lt
        have hc4 := hB4.cells; have hf4 := hB4.free; have hl4 := hB4.lt
        cases hfv : v.fine with
        | true =>
          have HPn := Lib.hid (show parseV s.data.toList = (v, 0) by
            rw [HP.out, Option.bind_some]
            simp only
            rw [if_pos ⟨Hend.out, hfv⟩])
          clear hfv
          go_wp2_with fail
          (with_reducible apply bp_ret); (focus (go_light; simp [results, Tryz.results10, go_sem, *]; rfl))
          rw [HPn.out]
          exact ⟨ka, kc, la, lc, rfl, (Hin.out.ext hx5).keep (fun b hb hl => by simp at hb; rw [Below.heap_setCell _ _ _ _ (by simp; omega), Below.heap_setCell _ _ _ _ (by simp; omega), Below.heap_setCell _ _ _ _ (by simp; omega), Below.heap_setCell _ _ _ _ (by simp; omega), Below.heap_setCell _ _ _ _ (by simp; omega)]) (fun b hb _ => .inr (by simp at hb; omega)), Xt⟩
        | false =>
          have HPn := Lib.hid (show parseV s.data.toList = (V.zero, 1) by
            rw [HP.out, Option.bind_some]
            simp only
            rw [if_neg (fun h => by rw [hfv] at h; exact Bool.noConfusion h.2)])
          clear hfv
          go_wp2_with fail
          (with_reducible apply bp_ret); (focus (go_light; simp [results, Tryz.results10, go_sem, *]; rfl))
          rw [HPn.out]
          exact ⟨none, 0, none, 0, rfl, V.zero_in _ _, Xt⟩
      · have hje : ((j : Int) != (s.size : Int)) = true := by simp; omega
        have HPn := Lib.hid (show parseV s.data.toList = (V.zero, 1) by
          rw [HP.out, Option.bind_some]
          simp only
          rw [if_neg (fun h => hend (by have h2 := h.1; rw [← Hkf.out, ← Hsp.out] at h2; have h3 := congrArg List.length h2; rw [from_len, List.length_nil] at h3; omega))])
        clear hend
        have hc0 := hB0.cells; have hf0 := hB0.free; have hl0 := hB0.lt
        have hc4 := hB4.cells; have hf4 := hB4.free; have hl4 := hB4.lt
        go_wp2_with fail
        (with_reducible apply bp_ret); (focus (go_light; simp [results, Tryz.results10, go_sem, *]; rfl))
        rw [HPn.out]
        exact ⟨none, 0, none, 0, rfl, V.zero_in _ _, Xt⟩
end Go.Proofs.YtjibdbnpkfghhaaGreatDoor
