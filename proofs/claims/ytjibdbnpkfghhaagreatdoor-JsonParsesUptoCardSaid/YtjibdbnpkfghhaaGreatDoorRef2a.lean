/- The walk of the reference's shaped: kinds 0 to 2, and none of them. -/
import Derived.Test.YtjibdbnpkfghhaaGreatDoorRef2
import Derived.Deep.CutBlock
import Derived.Deep.RegionHeld3
import Derived.Deep.DrawnRows
set_option linter.all false
namespace Go.Proofs.YtjibdbnpkfghhaaGreatDoor
open Go.RowKit
attribute [local go_sem ↓] Go.wp_at_zero Go.wp_at_succ

set_option maxRecDepth 100000 in
set_option maxHeartbeats 8000000 in
theorem shaped_a (m : Nat) (ih : ∀ (x : V) (ka : Option Addr) (kc : Nat) (la : Option Addr) (lc : Nat) (S : Nat → Prop) (w : World), x.size ≤ m → x.size ≤ 1073741824 → x.In w S ka kc la lc → Calls Tryz.prog 79 #[x.val ka kc la lc] w fun e w' => e = .returned (.bool x.shaped) ∧ Ext w w')
    (x : V) (ka : Option Addr) (kc : Nat) (la : Option Addr) (lc : Nat) (S : Nat → Prop) (w : World) (hm : x.size ≤ m + 1) (hsz : x.size ≤ 1073741824) (hin : x.In w S ka kc la lc) (hg : x.k = 0 ∨ x.k = 1 ∨ x.k = 2) :
    Calls Tryz.prog 79 #[x.val ka kc la lc] w fun e w' => e = .returned (.bool x.shaped) ∧ Ext w w' := by
  have hl := x.len_l
  have hlk := x.len_keys
  have hls := x.len_s
  have Hsh := Lib.hid x.shaped_eq
  have Ih := Lib.hid ih
  have Hg := Lib.hid hg
  clear ih hg
  go_enter Tryz.func79, Tryz.ntmps79
  go_upto_block 0 with fail
  go_cut [3] (fun s wx => s = .bool x.form ∧ Box wx w.heap.size #[.int .i64 x.k, .int .i64 x.n, .string x.s, .slice ka x.keys.length kc, .slice la x.l.length lc] 25 ∧ Ext w wx)
  case first =>
    by_cases k0 : x.k = 0
    · have Hf := Lib.hid (show x.form = f0 x.n x.s x.keys.length x.l.length by simp [V.form, k0])
      have b0 : (x.k == 0) = true := by simpa using k0
      have K0 := Lib.hid k0
      clear k0
      go_wp2_with fail
      all_goals
        go_meet
        first
          | (refine ⟨vb ?_, Bxt, Xt⟩; rw [Hf.out]; go_light; clear Hsh Ih Hf hin; simp only [f0]; grind)
          | (exfalso; go_light; clear Hsh Ih Hf hin; grind)
    have b0 : (x.k == 0) = false := by simpa using k0
    by_cases k1 : x.k = 1
    · have Hf := Lib.hid (show x.form = f1 x.n x.s x.keys.length x.l.length by simp [V.form, k1])
      have b1 : (x.k == 1) = true := by simpa using k1
      have K1 := Lib.hid k1
      clear k1 k0
      go_wp2_with fail
      all_goals
        go_meet
        first
          | (refine ⟨vb ?_, Bxt, Xt⟩; rw [Hf.out]; go_light; clear Hsh Ih Hf hin; simp only [f1]; grind)
          | (exfalso; go_light; clear Hsh Ih Hf hin; grind)
    have b1 : (x.k == 1) = false := by simpa using k1
    by_cases k2 : x.k = 2
    · have Hf := Lib.hid (show x.form = f2 x.n x.s x.keys.length x.l.length by simp [V.form, k2])
      have b2 : (x.k == 2) = true := by simpa using k2
      have K2 := Lib.hid k2
      clear k2 k1 k0
      go_wp2_with fail
      all_goals
        go_meet
        first
          | (refine ⟨vb ?_, Bxt, Xt⟩; rw [Hf.out]; go_light; clear Hsh Ih Hf hin; simp only [f2]; grind)
          | (exfalso; go_light; clear Hsh Ih Hf hin; grind)
    have b2 : (x.k == 2) = false := by simpa using k2
    exact absurd Hg.out (by simp [k0, k1, k2])
  case rest =>
    obtain ⟨rfl, hB0, hx⟩ := hcut
    have hc0 := hB0.cells; have hf0 := hB0.free; have hl0 := hB0.lt
    go_wp2_with fail
    go_loopg [3, 6, 179] x.l.length (fun g ok _ i wr => ∃ (k : Nat) (b : Bool), k ≤ x.l.length ∧ i = .int .i64 k ∧ g = x.l.length - k ∧ ok = .bool b ∧ b = (x.form && (x.l.take k).all V.shaped) ∧ Box wr w.heap.size #[.int .i64 x.k, .int .i64 x.n, .string x.s, .slice ka x.keys.length kc, .slice la x.l.length lc] 25 ∧ Ext w wr)
    case atStart => exact ⟨0, x.form, by omega, rfl, rfl, rfl, by simp, hB0, hx⟩
    case round =>
      clear hB0 hc0 hf0 hl0 hx
      obtain ⟨k, b, hk, rfl, rfl, rfl, hb, hB0, hx⟩ := hrel
      have Hb := Lib.hid hb
      clear hb
      have hc0 := hB0.cells; have hf0 := hB0.free; have hl0 := hB0.lt
      by_cases hlt : k < x.l.length
      · obtain ⟨bb, o, rfl, hS, ka', kc', la', lc', ⟨d0, d1, d2, d3, d4⟩, hin'⟩ := (hin.ext hx).item hlt
        have hsi := V.size_item hlt
        have Htk := Lib.hid (show (x.l.take (k + 1)).all V.shaped = ((x.l.take k).all V.shaped && (x.l[k]).shaped) by rw [List.take_succ_eq_append_getElem hlt]; simp only [List.all_append, List.all_cons, List.all_nil, Bool.and_true])
        cases b
        · go_wp2_with fail
          go_roundg (x.l.length - (k + 1))
          case measure => omega
          case rel => exact ⟨k + 1, false, by omega, by go_num, rfl, rfl, by rw [Htk.out, ← Bool.and_assoc, ← Hb.out]; rfl, Bxt, Xt⟩
        · go_wp2_with (go_at_call 79; (with_reducible refine (Ih.out _ _ _ _ _ _ _ (by omega) (by omega) (hin'.ext Xt)).mono ?_); rintro e w1 ⟨rfl, h1⟩; obtain ⟨hc1, hf1, hz1⟩ := ext_facts h1; (try simp at hz1); (try have hzA : w.heap.size < w1.heap.size := by omega); (try have hzB : w.heap.size + 1 < w1.heap.size := by omega); (try have hzC : w.heap.size + 2 < w1.heap.size := by omega); (try have hzD : w.heap.size + 3 < w1.heap.size := by omega))
          go_roundg (x.l.length - (k + 1))
          case measure => omega
          case rel => exact ⟨k + 1, (x.l[k]).shaped, by omega, by go_num, rfl, rfl, by rw [Htk.out, ← Bool.and_assoc, ← Hb.out]; rfl, Bxt, Xt⟩
      · go_wp2_with fail
        go_ret
        refine ⟨ret_bool ?_, Xt⟩
        rw [Hsh.out, Hb.out, List.take_of_length_le (by omega)]
set_option maxRecDepth 100000 in
set_option maxHeartbeats 8000000 in
theorem shaped_d (m : Nat) (ih : ∀ (x : V) (ka : Option Addr) (kc : Nat) (la : Option Addr) (lc : Nat) (S : Nat → Prop) (w : World), x.size ≤ m → x.size ≤ 1073741824 → x.In w S ka kc la lc → Calls Tryz.prog 79 #[x.val ka kc la lc] w fun e w' => e = .returned (.bool x.shaped) ∧ Ext w w')
    (x : V) (ka : Option Addr) (kc : Nat) (la : Option Addr) (lc : Nat) (S : Nat → Prop) (w : World) (hm : x.size ≤ m + 1) (hsz : x.size ≤ 1073741824) (hin : x.In w S ka kc la lc) (hg : ¬ x.k = 0 ∧ ¬ x.k = 1 ∧ ¬ x.k = 2 ∧ ¬ x.k = 3 ∧ ¬ x.k = 4 ∧ ¬ x.k = 5) :
    Calls Tryz.prog 79 #[x.val ka kc la lc] w fun e w' => e = .returned (.bool x.shaped) ∧ Ext w w' := by
  have hl := x.len_l
  have hlk := x.len_keys
  have hls := x.len_s
  have Hsh := Lib.hid x.shaped_eq
  have Ih := Lib.hid ih
  have Hg := Lib.hid hg
  clear ih hg
  go_enter Tryz.func79, Tryz.ntmps79
  go_upto_block 0 with fail
  go_cut [3] (fun s wx => s = .bool x.form ∧ Box wx w.heap.size #[.int .i64 x.k, .int .i64 x.n, .string x.s, .slice ka x.keys.length kc, .slice la x.l.length lc] 25 ∧ Ext w wx)
  case first =>
    obtain ⟨k0, k1, k2, k3, k4, k5⟩ := Hg.out
    have b0 : (x.k == 0) = false := by simpa using k0
    have b1 : (x.k == 1) = false := by simpa using k1
    have b2 : (x.k == 2) = false := by simpa using k2
    have b3 : (x.k == 3) = false := by simpa using k3
    have b4 : (x.k == 4) = false := by simpa using k4
    have b5 : (x.k == 5) = false := by simpa using k5
    have Hf := Lib.hid (show x.form = false by simp [V.form, k0, k1, k2, k3, k4, k5])
    clear k5 k4 k3 k2 k1 k0
    go_wp2_with fail
    go_meet
    exact ⟨vb Hf.out.symm, Bxt, Xt⟩
  case rest =>
    obtain ⟨rfl, hB0, hx⟩ := hcut
    have hc0 := hB0.cells; have hf0 := hB0.free; have hl0 := hB0.lt
    go_wp2_with fail
    go_loopg [3, 6, 179] x.l.length (fun g ok _ i wr => ∃ (k : Nat) (b : Bool), k ≤ x.l.length ∧ i = .int .i64 k ∧ g = x.l.length - k ∧ ok = .bool b ∧ b = (x.form && (x.l.take k).all V.shaped) ∧ Box wr w.heap.size #[.int .i64 x.k, .int .i64 x.n, .string x.s, .slice ka x.keys.length kc, .slice la x.l.length lc] 25 ∧ Ext w wr)
    case atStart => exact ⟨0, x.form, by omega, rfl, rfl, rfl, by simp, hB0, hx⟩
    case round =>
      clear hB0 hc0 hf0 hl0 hx
      obtain ⟨k, b, hk, rfl, rfl, rfl, hb, hB0, hx⟩ := hrel
      have Hb := Lib.hid hb
      clear hb
      have hc0 := hB0.cells; have hf0 := hB0.free; have hl0 := hB0.lt
      by_cases hlt : k < x.l.length
      · obtain ⟨bb, o, rfl, hS, ka', kc', la', lc', ⟨d0, d1, d2, d3, d4⟩, hin'⟩ := (hin.ext hx).item hlt
        have hsi := V.size_item hlt
        have Htk := Lib.hid (show (x.l.take (k + 1)).all V.shaped = ((x.l.take k).all V.shaped && (x.l[k]).shaped) by rw [List.take_succ_eq_append_getElem hlt]; simp only [List.all_append, List.all_cons, List.all_nil, Bool.and_true])
        cases b
        · go_wp2_with fail
          go_roundg (x.l.length - (k + 1))
          case measure => omega
          case rel => exact ⟨k + 1, false, by omega, by go_num, rfl, rfl, by rw [Htk.out, ← Bool.and_assoc, ← Hb.out]; rfl, Bxt, Xt⟩
        · go_wp2_with (go_at_call 79; (with_reducible refine (Ih.out _ _ _ _ _ _ _ (by omega) (by omega) (hin'.ext Xt)).mono ?_); rintro e w1 ⟨rfl, h1⟩; obtain ⟨hc1, hf1, hz1⟩ := ext_facts h1; (try simp at hz1); (try have hzA : w.heap.size < w1.heap.size := by omega); (try have hzB : w.heap.size + 1 < w1.heap.size := by omega); (try have hzC : w.heap.size + 2 < w1.heap.size := by omega); (try have hzD : w.heap.size + 3 < w1.heap.size := by omega))
          go_roundg (x.l.length - (k + 1))
          case measure => omega
          case rel => exact ⟨k + 1, (x.l[k]).shaped, by omega, by go_num, rfl, rfl, by rw [Htk.out, ← Bool.and_assoc, ← Hb.out]; rfl, Bxt, Xt⟩
      · go_wp2_with fail
        go_ret
        refine ⟨ret_bool ?_, Xt⟩
        rw [Hsh.out, Hb.out, List.take_of_length_le (by omega)]
end Go.Proofs.YtjibdbnpkfghhaaGreatDoor
