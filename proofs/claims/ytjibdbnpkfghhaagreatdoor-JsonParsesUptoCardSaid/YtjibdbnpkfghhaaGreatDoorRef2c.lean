/- The walk of the reference's shaped: kind 5. -/
import Derived.Test.YtjibdbnpkfghhaaGreatDoorRef2
import Derived.Deep.CutBlock
import Derived.Deep.RegionHeld3
import Derived.Deep.DrawnRows
set_option linter.all false
namespace Go.Proofs.YtjibdbnpkfghhaaGreatDoor
open Go.RowKit
attribute [local go_sem ↓] Go.wp_at_zero Go.wp_at_succ

set_option maxRecDepth 100000 in
set_option maxHeartbeats 8000000 in
theorem shaped_c (m : Nat) (ih : ∀ (x : V) (ka : Option Addr) (kc : Nat) (la : Option Addr) (lc : Nat) (S : Nat → Prop) (w : World), x.size ≤ m → x.size ≤ 1073741824 → x.In w S ka kc la lc → Calls Tryz.prog 79 #[x.val ka kc la lc] w fun e w' => e = .returned (.bool x.shaped) ∧ Ext w w')
    (x : V) (ka : Option Addr) (kc : Nat) (la : Option Addr) (lc : Nat) (S : Nat → Prop) (w : World) (hm : x.size ≤ m + 1) (hsz : x.size ≤ 1073741824) (hin : x.In w S ka kc la lc) (hg : x.k = 5) :
    Calls Tryz.prog 79 #[x.val ka kc la lc] w fun e w' => e = .returned (.bool x.shaped) ∧ Ext w w' := by
  have hl := x.len_l
  have hlk := x.len_keys
  have hls := x.len_s
  have Hsh := Lib.hid x.shaped_eq
  have Ih := Lib.hid ih
  have Hg := Lib.hid hg
  clear ih hg
  go_enter Tryz.func79, Tryz.ntmps79
  go_upto_block 0 with fail
  go_cut [3] (fun s wx => s = .bool x.form ∧ Box wx w.heap.size #[.int .i64 x.k, .int .i64 x.n, .string x.s, .slice ka x.keys.length kc, .slice la x.l.length lc] 25 ∧ Ext w wx)
  case first =>
    have b0 : (x.k == 0) = false := by have := Hg.out; simp; omega
    have k0 : ¬ x.k = 0 := by have := Hg.out; omega
    have b1 : (x.k == 1) = false := by have := Hg.out; simp; omega
    have k1 : ¬ x.k = 1 := by have := Hg.out; omega
    have b2 : (x.k == 2) = false := by have := Hg.out; simp; omega
    have k2 : ¬ x.k = 2 := by have := Hg.out; omega
    have b3 : (x.k == 3) = false := by have := Hg.out; simp; omega
    have k3 : ¬ x.k = 3 := by have := Hg.out; omega
    have b4 : (x.k == 4) = false := by have := Hg.out; simp; omega
    have k4 : ¬ x.k = 4 := by have := Hg.out; omega
    by_cases k5 : x.k = 5
    · have Hf := Lib.hid (show x.form = (f5 x.n x.s x.keys.length x.l.length && keysB x.keys) by simp [V.form, k5])
      have b5 : (x.k == 5) = true := by simpa using k5
      have K5 := Lib.hid k5
      clear k5 k4 k3 k2 k1 k0
      go_upto_region 14 with fail
      refine gen_world (R := fun wx => Box wx w.heap.size #[.int .i64 x.k, .int .i64 x.n, .string x.s, .slice ka x.keys.length kc, .slice la x.l.length lc] 25 ∧ Ext w wx) ⟨Bxt, Xt⟩ ?_
      rintro wx ⟨hB0, hx⟩
      have hc0 := hB0.cells; have hf0 := hB0.free; have hl0 := hB0.lt
      go_cut [3] (fun s wy => s = .bool (f5 x.n x.s x.keys.length x.l.length) ∧ wy = wx)
      case first =>
        by_cases F : x.n = 0 ∧ x.s.toList.isEmpty = true ∧ x.keys.length = x.l.length
        · have Hf5 := Lib.hid (show f5 x.n x.s x.keys.length x.l.length = true by simpa [f5] using F)
          obtain ⟨n0, s0, l0⟩ := F
          have l1 : ((x.keys.length : Int) == (x.l.length : Int)) = true := by rw [l0]; simp
          go_wp2_with fail
          go_meet
          exact ⟨vb Hf5.out.symm, rfl⟩
        · have Hf5 := Lib.hid (show f5 x.n x.s x.keys.length x.l.length = false by simpa [f5] using F)
          have F := Lib.hid F
          go_wp2_with fail
          all_goals
            go_meet
            refine ⟨vb ?_, rfl⟩
            first
              | exact Hf5.out.symm
              | (rw [Hf5.out]; simp only [beq_eq_false_iff_ne]; intro e; exact F.out ⟨by assumption, by rename_i h; rw [h]; rfl, by omega⟩)
      case rest =>
        obtain ⟨rfl, rfl⟩ := hcut
        go_wp2_with fail
        go_loopg [3, 4, 145] x.keys.length (fun g ok _ i wr => ∃ (k : Nat) (b : Bool), k ≤ x.keys.length ∧ i = .int .i64 k ∧ g = x.keys.length - k ∧ ok = .bool b ∧ b = (f5 x.n x.s x.keys.length x.l.length && keysTo x.keys k) ∧ Box wr w.heap.size #[.int .i64 x.k, .int .i64 x.n, .string x.s, .slice ka x.keys.length kc, .slice la x.l.length lc] 25 ∧ Ext w wr)
        case atStart => exact ⟨0, _, by omega, rfl, rfl, rfl, by rw [keysTo_zero]; simp, hB0, hx⟩
        case round =>
          clear hB0 hc0 hf0 hl0 hx
          obtain ⟨k, b, hk, rfl, rfl, rfl, hb, hB0, hx⟩ := hrel
          have Hb := Lib.hid hb
          clear hb
          have hc0 := hB0.cells; have hf0 := hB0.free; have hl0 := hB0.lt
          by_cases hlt : k < x.keys.length
          · have hp := V.len_key hlt
            have Hks := Lib.hid (keysTo_succ x.keys hlt)
            have hki0 : (0 : Int) ≤ (k : Int) := by omega
            have hki1 : (k : Int) < (x.keys.length : Int) := by omega
            obtain ⟨bb, o, rfl, hS, d0⟩ := hin.key hlt
            have D0 := d0
            have d0 := hx.cell d0
            have dv : wr.cell? ⟨w.heap.size, 3, none⟩ = some (.slice (some ⟨bb, o, none⟩) x.keys.length kc) := hc0 3
            clear hc0
            cases b
            · go_wp2_with fail
              go_quiet (fail)
              go_wp2_with fail
              go_roundg (x.keys.length - (k + 1))
              case measure => omega
              case rel => exact ⟨k + 1, false, by omega, by go_num, rfl, rfl, by rw [Hks.out, ← Bool.and_assoc, ← Hb.out]; rfl, hB0, Xt⟩
            · cases p1 : plainB x.keys[k]
              · have Asc : ∀ w, Calls Tryz.prog 123 #[.string x.keys[k]] w (fun e w' => e = .returned (.bool false) ∧ Ext w w') := fun w => by rw [← p1]; exact ascii_any _ _ (by omega)
                go_wp2_with fail
                refine wp_region_held_drew (S := (fun w' => w'.cell? ⟨w.heap.size, 3, none⟩ = some (.slice (some ⟨bb, o, none⟩) x.keys.length kc) ∧ w'.cell? ⟨bb, o + k, none⟩ = some (.string (x.keys[k])))) (by kernel_rfl) ?_ (fun hHeld => ?_)
                · (first | go_keep | (constructor <;> assumption))
                (refine wpAnyH_take (i := 0) (v := ?_) (Array.getElem?_eq_getElem (by decide)) (by kernel_rfl) (by kernel_rfl) (by kernel_rfl) (fun _ _ _ h => h) (Or.inl ⟨by kernel_rfl, ?_⟩) (by assumption) ?_); rotate_left; (focus (intro w hSw; (try dsimp only at hSw); (try simp only [rl]); go_simp; (try with_reducible rfl))); (try simp only [rl])
                (refine wpAnyH_take (i := 1) (v := ?_) (Array.getElem?_eq_getElem (by decide)) (by kernel_rfl) (by kernel_rfl) (by kernel_rfl) (fun _ _ _ h => h) (Or.inl ⟨by kernel_rfl, ?_⟩) (by assumption) ?_); rotate_left; (focus (intro w hSw; (try dsimp only at hSw); (try simp only [rl]); go_simp; (try with_reducible rfl))); (try simp only [rl])
                (refine wpAnyH_take (i := 2) (v := ?_) (Array.getElem?_eq_getElem (by decide)) (by kernel_rfl) (by kernel_rfl) (by kernel_rfl) (fun _ _ _ h => h) (Or.inl ⟨by kernel_rfl, ?_⟩) (by assumption) ?_); rotate_left; (focus (intro w hSw; (try dsimp only at hSw); (try simp only [rl]); go_simp; (try with_reducible rfl))); (try simp only [rl])
                (refine wpAnyH_take (i := 3) (v := ?_) (Array.getElem?_eq_getElem (by decide)) (by kernel_rfl) (by kernel_rfl) (by kernel_rfl) (fun _ _ _ h => h) (Or.inl ⟨by kernel_rfl, ?_⟩) (by assumption) ?_); rotate_left; (focus (intro w hSw; (try dsimp only at hSw); (try simp only [rl]); go_simp; (try with_reducible rfl))); (try simp only [rl])
                (refine wpAnyH_take (i := 4) (v := ?_) (Array.getElem?_eq_getElem (by decide)) (by kernel_rfl) (by kernel_rfl) (by kernel_rfl) (fun _ _ _ h => h) (Or.inl ⟨by kernel_rfl, ?_⟩) (by assumption) ?_); rotate_left; (focus (intro w hSw; (try dsimp only at hSw); (try simp only [rl]); go_simp; (try with_reducible rfl))); (try simp only [rl])
                (refine wpAnyH_take (i := 5) (v := ?_) (Array.getElem?_eq_getElem (by decide)) (by kernel_rfl) (by kernel_rfl) (by kernel_rfl) (fun _ _ _ h => h) (Or.inl ⟨by kernel_rfl, ?_⟩) (by assumption) ?_); rotate_left; (focus (intro w hSw; (try dsimp only at hSw); (try simp only [rl]); go_simp; (try with_reducible rfl))); (try simp only [rl])
                (refine wpAnyH_take (i := 6) (v := ?_) (Array.getElem?_eq_getElem (by decide)) (by kernel_rfl) (by kernel_rfl) (by kernel_rfl) (fun _ _ _ h => h) (Or.inl ⟨by kernel_rfl, ?_⟩) (by assumption) ?_); rotate_left; (focus (intro w hSw; (try dsimp only at hSw); (try simp only [rl]); go_simp; (try with_reducible rfl))); (try simp only [rl])
                (refine wpAnyH_ready (rs := [7]) (by kernel_rfl) (by simp) ?_); (refine AllReadyH.cons (Array.getElem?_eq_getElem (by decide)) (fun K hK => ?_) AllReadyH.nil); (try simp only [rl])
                (try go_simp)
                go_at_call 123
                refine (Asc _).mono ?_
                rintro e w1 ⟨rfl, h1⟩
                obtain ⟨hc1, hf1, hz1⟩ := ext_facts h1; (try simp at hz1); (try have hzA : w.heap.size < w1.heap.size := by omega); (try have hzB : w.heap.size + 1 < w1.heap.size := by omega); (try have hzC : w.heap.size + 2 < w1.heap.size := by omega); (try have hzD : w.heap.size + 3 < w1.heap.size := by omega)
                (try go_simp)
                refine hK.out _ _ ?_ (fun hHeld => ?_)
                · exact ⟨Ext.cell h1 hHeld.1, Ext.cell h1 hHeld.2⟩
                clear hK K
                (try simp only [Act.put, List.setIfInBounds_toArray, List.set_cons_zero, List.set_cons_succ])
                (refine wpAnyH_take (i := 8) (v := ?_) (Array.getElem?_eq_getElem (by decide)) (by kernel_rfl) (by kernel_rfl) (by kernel_rfl) (fun _ _ _ h => h) (Or.inl ⟨by kernel_rfl, ?_⟩) (by assumption) ?_); rotate_left; (focus (intro w hSw; (try dsimp only at hSw); (try simp only [rl]); go_simp; (try with_reducible rfl))); (try simp only [rl])
                (refine wpAnyH_take (i := 9) (v := ?_) (Array.getElem?_eq_getElem (by decide)) (by kernel_rfl) (by kernel_rfl) (by kernel_rfl) (fun _ _ _ h => h) (Or.inl ⟨by kernel_rfl, ?_⟩) (by assumption) ?_); rotate_left; (focus (intro w hSw; (try dsimp only at hSw); (try simp only [rl]); go_simp; (try with_reducible rfl))); (try simp only [rl])
                (refine wpAnyH_take (i := 10) (v := undef) (Array.getElem?_eq_getElem (by decide)) (by kernel_rfl) (by kernel_rfl) (by kernel_rfl) (fun _ _ _ h => h) (Or.inr ⟨by kernel_rfl, rfl⟩) (by assumption) ?_); (try simp only [rl])
                (refine wpAnyH_take (i := 11) (v := undef) (Array.getElem?_eq_getElem (by decide)) (by kernel_rfl) (by kernel_rfl) (by kernel_rfl) (fun _ _ _ h => h) (Or.inr ⟨by kernel_rfl, rfl⟩) (by assumption) ?_); (try simp only [rl])
                (refine wpAnyH_take (i := 12) (v := undef) (Array.getElem?_eq_getElem (by decide)) (by kernel_rfl) (by kernel_rfl) (by kernel_rfl) (fun _ _ _ h => h) (Or.inr ⟨by kernel_rfl, rfl⟩) (by assumption) ?_); (try simp only [rl])
                (refine wpAnyH_take (i := 13) (v := undef) (Array.getElem?_eq_getElem (by decide)) (by kernel_rfl) (by kernel_rfl) (by kernel_rfl) (fun _ _ _ h => h) (Or.inr ⟨by kernel_rfl, rfl⟩) (by assumption) ?_); (try simp only [rl])
                (refine wpAnyH_take (i := 14) (v := undef) (Array.getElem?_eq_getElem (by decide)) (by kernel_rfl) (by kernel_rfl) (by kernel_rfl) (fun _ _ _ h => h) (Or.inr ⟨by kernel_rfl, rfl⟩) (by assumption) ?_); (try simp only [rl])
                (refine wpAnyH_take (i := 15) (v := undef) (Array.getElem?_eq_getElem (by decide)) (by kernel_rfl) (by kernel_rfl) (by kernel_rfl) (fun _ _ _ h => h) (Or.inr ⟨by kernel_rfl, rfl⟩) (by assumption) ?_); (try simp only [rl])
                (refine wpAnyH_take (i := 16) (v := undef) (Array.getElem?_eq_getElem (by decide)) (by kernel_rfl) (by kernel_rfl) (by kernel_rfl) (fun _ _ _ h => h) (Or.inr ⟨by kernel_rfl, rfl⟩) (by assumption) ?_); (try simp only [rl])
                (refine wpAnyH_take (i := 17) (v := undef) (Array.getElem?_eq_getElem (by decide)) (by kernel_rfl) (by kernel_rfl) (by kernel_rfl) (fun _ _ _ h => h) (Or.inr ⟨by kernel_rfl, rfl⟩) (by assumption) ?_); (try simp only [rl])
                (refine wpAnyH_take (i := 18) (v := undef) (Array.getElem?_eq_getElem (by decide)) (by kernel_rfl) (by kernel_rfl) (by kernel_rfl) (fun _ _ _ h => h) (Or.inr ⟨by kernel_rfl, rfl⟩) (by assumption) ?_); (try simp only [rl])
                (refine wpAnyH_take (i := 19) (v := undef) (Array.getElem?_eq_getElem (by decide)) (by kernel_rfl) (by kernel_rfl) (by kernel_rfl) (fun _ _ _ h => h) (Or.inr ⟨by kernel_rfl, rfl⟩) (by assumption) ?_); (try simp only [rl])
                (refine wpAnyH_take (i := 20) (v := undef) (Array.getElem?_eq_getElem (by decide)) (by kernel_rfl) (by kernel_rfl) (by kernel_rfl) (fun _ _ _ h => h) (Or.inr ⟨by kernel_rfl, rfl⟩) (by assumption) ?_); (try simp only [rl])
                (refine wpAnyH_take (i := 21) (v := undef) (Array.getElem?_eq_getElem (by decide)) (by kernel_rfl) (by kernel_rfl) (by kernel_rfl) (fun _ _ _ h => h) (Or.inr ⟨by kernel_rfl, rfl⟩) (by assumption) ?_); (try simp only [rl])
                (refine wpAnyH_take (i := 22) (v := undef) (Array.getElem?_eq_getElem (by decide)) (by kernel_rfl) (by kernel_rfl) (by kernel_rfl) (fun _ _ _ h => h) (Or.inr ⟨by kernel_rfl, rfl⟩) (by assumption) ?_); (try simp only [rl])
                (refine wpAnyH_take (i := 23) (v := undef) (Array.getElem?_eq_getElem (by decide)) (by kernel_rfl) (by kernel_rfl) (by kernel_rfl) (fun _ _ _ h => h) (Or.inr ⟨by kernel_rfl, rfl⟩) (by assumption) ?_); (try simp only [rl])
                (refine wpAnyH_take (i := 24) (v := undef) (Array.getElem?_eq_getElem (by decide)) (by kernel_rfl) (by kernel_rfl) (by kernel_rfl) (fun _ _ _ h => h) (Or.inr ⟨by kernel_rfl, rfl⟩) (by assumption) ?_); (try simp only [rl])
                (refine wpAnyH_take (i := 25) (v := undef) (Array.getElem?_eq_getElem (by decide)) (by kernel_rfl) (by kernel_rfl) (by kernel_rfl) (fun _ _ _ h => h) (Or.inr ⟨by kernel_rfl, rfl⟩) (by assumption) ?_); (try simp only [rl])
                (refine wpAnyH_take (i := 26) (v := ?_) (Array.getElem?_eq_getElem (by decide)) (by kernel_rfl) (by kernel_rfl) (by kernel_rfl) (fun _ _ _ h => h) (Or.inl ⟨by kernel_rfl, ?_⟩) (by assumption) ?_); rotate_left; (focus (intro w hSw; (try dsimp only at hSw); (try simp only [rl]); go_simp; (try with_reducible rfl))); (try simp only [rl])
                (refine wpAnyH_take (i := 27) (v := ?_) (Array.getElem?_eq_getElem (by decide)) (by kernel_rfl) (by kernel_rfl) (by kernel_rfl) (fun _ _ _ h => h) (Or.inl ⟨by kernel_rfl, ?_⟩) (by assumption) ?_); rotate_left; (focus (intro w hSw; (try dsimp only at hSw); (try simp only [rl]); go_simp; (try with_reducible rfl))); (try simp only [rl])
                refine wpAnyH_done (by kernel_rfl) ?_ _
                all_goals
                  go_wp2_with fail
                  go_roundg (x.keys.length - (k + 1))
                  case measure => omega
                  case rel => exact ⟨k + 1, false, by omega, by go_num, rfl, rfl, by rw [Hks.out, ← Bool.and_assoc, ← Hb.out, p1]; rfl, Bxt, Xt⟩
              · by_cases k0 : k = 0
                · subst k0
                  simp only [Nat.add_zero] at d0
                  have Asc : ∀ w, Calls Tryz.prog 123 #[.string x.keys[0]] w (fun e w' => e = .returned (.bool true) ∧ Ext w w') := fun w => by rw [← p1]; exact ascii_any _ _ (by omega)
                  go_wp2_with fail
                  refine wp_region_held_drew (S := (fun w' => w'.cell? ⟨w.heap.size, 3, none⟩ = some (.slice (some ⟨bb, o, none⟩) x.keys.length kc) ∧ w'.cell? ⟨bb, o, none⟩ = some (.string (x.keys[0])))) (by kernel_rfl) ?_ (fun hHeld => ?_)
                  · (first | go_keep | (constructor <;> assumption))
                  (refine wpAnyH_take (i := 0) (v := ?_) (Array.getElem?_eq_getElem (by decide)) (by kernel_rfl) (by kernel_rfl) (by kernel_rfl) (fun _ _ _ h => h) (Or.inl ⟨by kernel_rfl, ?_⟩) (by assumption) ?_); rotate_left; (focus (intro w hSw; (try dsimp only at hSw); (try simp only [rl]); go_simp; (try with_reducible rfl))); (try simp only [rl])
                  (refine wpAnyH_take (i := 1) (v := ?_) (Array.getElem?_eq_getElem (by decide)) (by kernel_rfl) (by kernel_rfl) (by kernel_rfl) (fun _ _ _ h => h) (Or.inl ⟨by kernel_rfl, ?_⟩) (by assumption) ?_); rotate_left; (focus (intro w hSw; (try dsimp only at hSw); (try simp only [rl]); go_simp; (try with_reducible rfl))); (try simp only [rl])
                  (refine wpAnyH_take (i := 2) (v := ?_) (Array.getElem?_eq_getElem (by decide)) (by kernel_rfl) (by kernel_rfl) (by kernel_rfl) (fun _ _ _ h => h) (Or.inl ⟨by kernel_rfl, ?_⟩) (by assumption) ?_); rotate_left; (focus (intro w hSw; (try dsimp only at hSw); (try simp only [rl]); go_simp; (try with_reducible rfl))); (try simp only [rl])
                  (refine wpAnyH_take (i := 3) (v := ?_) (Array.getElem?_eq_getElem (by decide)) (by kernel_rfl) (by kernel_rfl) (by kernel_rfl) (fun _ _ _ h => h) (Or.inl ⟨by kernel_rfl, ?_⟩) (by assumption) ?_); rotate_left; (focus (intro w hSw; (try dsimp only at hSw); (try simp only [rl]); go_simp; (try with_reducible rfl))); (try simp only [rl])
                  (refine wpAnyH_take (i := 4) (v := ?_) (Array.getElem?_eq_getElem (by decide)) (by kernel_rfl) (by kernel_rfl) (by kernel_rfl) (fun _ _ _ h => h) (Or.inl ⟨by kernel_rfl, ?_⟩) (by assumption) ?_); rotate_left; (focus (intro w hSw; (try dsimp only at hSw); (try simp only [rl]); go_simp; (try with_reducible rfl))); (try simp only [rl])
                  (refine wpAnyH_take (i := 5) (v := ?_) (Array.getElem?_eq_getElem (by decide)) (by kernel_rfl) (by kernel_rfl) (by kernel_rfl) (fun _ _ _ h => h) (Or.inl ⟨by kernel_rfl, ?_⟩) (by assumption) ?_); rotate_left; (focus (intro w hSw; (try dsimp only at hSw); (try simp only [rl]); go_simp; (try with_reducible rfl))); (try simp only [rl])
                  (refine wpAnyH_take (i := 6) (v := ?_) (Array.getElem?_eq_getElem (by decide)) (by kernel_rfl) (by kernel_rfl) (by kernel_rfl) (fun _ _ _ h => h) (Or.inl ⟨by kernel_rfl, ?_⟩) (by assumption) ?_); rotate_left; (focus (intro w hSw; (try dsimp only at hSw); (try simp only [rl]); go_simp; (try with_reducible rfl))); (try simp only [rl])
                  (refine wpAnyH_ready (rs := [7]) (by kernel_rfl) (by simp) ?_); (refine AllReadyH.cons (Array.getElem?_eq_getElem (by decide)) (fun K hK => ?_) AllReadyH.nil); (try simp only [rl])
                  (try go_simp)
                  go_at_call 123
                  refine (Asc _).mono ?_
                  rintro e w1 ⟨rfl, h1⟩
                  obtain ⟨hc1, hf1, hz1⟩ := ext_facts h1; (try simp at hz1); (try have hzA : w.heap.size < w1.heap.size := by omega); (try have hzB : w.heap.size + 1 < w1.heap.size := by omega); (try have hzC : w.heap.size + 2 < w1.heap.size := by omega); (try have hzD : w.heap.size + 3 < w1.heap.size := by omega)
                  (try go_simp)
                  refine hK.out _ _ ?_ (fun hHeld => ?_)
                  · exact ⟨Ext.cell h1 hHeld.1, Ext.cell h1 hHeld.2⟩
                  clear hK K
                  (try simp only [Act.put, List.setIfInBounds_toArray, List.set_cons_zero, List.set_cons_succ])
                  (refine wpAnyH_take (i := 8) (v := ?_) (Array.getElem?_eq_getElem (by decide)) (by kernel_rfl) (by kernel_rfl) (by kernel_rfl) (fun _ _ _ h => h) (Or.inl ⟨by kernel_rfl, ?_⟩) (by assumption) ?_); rotate_left; (focus (intro w hSw; (try dsimp only at hSw); (try simp only [rl]); go_simp; (try with_reducible rfl))); (try simp only [rl])
                  (refine wpAnyH_take (i := 9) (v := ?_) (Array.getElem?_eq_getElem (by decide)) (by kernel_rfl) (by kernel_rfl) (by kernel_rfl) (fun _ _ _ h => h) (Or.inl ⟨by kernel_rfl, ?_⟩) (by assumption) ?_); rotate_left; (focus (intro w hSw; (try dsimp only at hSw); (try simp only [rl]); go_simp; (try with_reducible rfl))); (try simp only [rl])
                  (refine wpAnyH_take (i := 10) (v := ?_) (Array.getElem?_eq_getElem (by decide)) (by kernel_rfl) (by kernel_rfl) (by kernel_rfl) (fun _ _ _ h => h) (Or.inl ⟨by kernel_rfl, ?_⟩) (by assumption) ?_); rotate_left; (focus (intro w hSw; (try dsimp only at hSw); (try simp only [rl]); go_simp; (try with_reducible rfl))); (try simp only [rl])
                  (refine wpAnyH_take (i := 11) (v := ?_) (Array.getElem?_eq_getElem (by decide)) (by kernel_rfl) (by kernel_rfl) (by kernel_rfl) (fun _ _ _ h => h) (Or.inl ⟨by kernel_rfl, ?_⟩) (by assumption) ?_); rotate_left; (focus (intro w hSw; (try dsimp only at hSw); (try simp only [rl]); go_simp; (try with_reducible rfl))); (try simp only [rl])
                  (refine wpAnyH_take (i := 12) (v := ?_) (Array.getElem?_eq_getElem (by decide)) (by kernel_rfl) (by kernel_rfl) (by kernel_rfl) (fun _ _ _ h => h) (Or.inl ⟨by kernel_rfl, ?_⟩) (by assumption) ?_); rotate_left; (focus (intro w hSw; (try dsimp only at hSw); (try simp only [rl]); go_simp; (try with_reducible rfl))); (try simp only [rl])
                  (refine wpAnyH_take (i := 13) (v := undef) (Array.getElem?_eq_getElem (by decide)) (by kernel_rfl) (by kernel_rfl) (by kernel_rfl) (fun _ _ _ h => h) (Or.inr ⟨by kernel_rfl, rfl⟩) (by assumption) ?_); (try simp only [rl])
                  (refine wpAnyH_take (i := 14) (v := undef) (Array.getElem?_eq_getElem (by decide)) (by kernel_rfl) (by kernel_rfl) (by kernel_rfl) (fun _ _ _ h => h) (Or.inr ⟨by kernel_rfl, rfl⟩) (by assumption) ?_); (try simp only [rl])
                  (refine wpAnyH_take (i := 15) (v := undef) (Array.getElem?_eq_getElem (by decide)) (by kernel_rfl) (by kernel_rfl) (by kernel_rfl) (fun _ _ _ h => h) (Or.inr ⟨by kernel_rfl, rfl⟩) (by assumption) ?_); (try simp only [rl])
                  (refine wpAnyH_take (i := 16) (v := undef) (Array.getElem?_eq_getElem (by decide)) (by kernel_rfl) (by kernel_rfl) (by kernel_rfl) (fun _ _ _ h => h) (Or.inr ⟨by kernel_rfl, rfl⟩) (by assumption) ?_); (try simp only [rl])
                  (refine wpAnyH_take (i := 17) (v := undef) (Array.getElem?_eq_getElem (by decide)) (by kernel_rfl) (by kernel_rfl) (by kernel_rfl) (fun _ _ _ h => h) (Or.inr ⟨by kernel_rfl, rfl⟩) (by assumption) ?_); (try simp only [rl])
                  (refine wpAnyH_take (i := 18) (v := undef) (Array.getElem?_eq_getElem (by decide)) (by kernel_rfl) (by kernel_rfl) (by kernel_rfl) (fun _ _ _ h => h) (Or.inr ⟨by kernel_rfl, rfl⟩) (by assumption) ?_); (try simp only [rl])
                  (refine wpAnyH_take (i := 19) (v := undef) (Array.getElem?_eq_getElem (by decide)) (by kernel_rfl) (by kernel_rfl) (by kernel_rfl) (fun _ _ _ h => h) (Or.inr ⟨by kernel_rfl, rfl⟩) (by assumption) ?_); (try simp only [rl])
                  (refine wpAnyH_take (i := 20) (v := undef) (Array.getElem?_eq_getElem (by decide)) (by kernel_rfl) (by kernel_rfl) (by kernel_rfl) (fun _ _ _ h => h) (Or.inr ⟨by kernel_rfl, rfl⟩) (by assumption) ?_); (try simp only [rl])
                  (refine wpAnyH_take (i := 21) (v := undef) (Array.getElem?_eq_getElem (by decide)) (by kernel_rfl) (by kernel_rfl) (by kernel_rfl) (fun _ _ _ h => h) (Or.inr ⟨by kernel_rfl, rfl⟩) (by assumption) ?_); (try simp only [rl])
                  (refine wpAnyH_take (i := 22) (v := undef) (Array.getElem?_eq_getElem (by decide)) (by kernel_rfl) (by kernel_rfl) (by kernel_rfl) (fun _ _ _ h => h) (Or.inr ⟨by kernel_rfl, rfl⟩) (by assumption) ?_); (try simp only [rl])
                  (refine wpAnyH_take (i := 23) (v := undef) (Array.getElem?_eq_getElem (by decide)) (by kernel_rfl) (by kernel_rfl) (by kernel_rfl) (fun _ _ _ h => h) (Or.inr ⟨by kernel_rfl, rfl⟩) (by assumption) ?_); (try simp only [rl])
                  (refine wpAnyH_take (i := 24) (v := undef) (Array.getElem?_eq_getElem (by decide)) (by kernel_rfl) (by kernel_rfl) (by kernel_rfl) (fun _ _ _ h => h) (Or.inr ⟨by kernel_rfl, rfl⟩) (by assumption) ?_); (try simp only [rl])
                  (refine wpAnyH_take (i := 25) (v := ?_) (Array.getElem?_eq_getElem (by decide)) (by kernel_rfl) (by kernel_rfl) (by kernel_rfl) (fun _ _ _ h => h) (Or.inl ⟨by kernel_rfl, ?_⟩) (by assumption) ?_); rotate_left; (focus (intro w hSw; (try dsimp only at hSw); (try simp only [rl]); go_simp; (try with_reducible rfl))); (try simp only [rl])
                  (refine wpAnyH_take (i := 26) (v := ?_) (Array.getElem?_eq_getElem (by decide)) (by kernel_rfl) (by kernel_rfl) (by kernel_rfl) (fun _ _ _ h => h) (Or.inl ⟨by kernel_rfl, ?_⟩) (by assumption) ?_); rotate_left; (focus (intro w hSw; (try dsimp only at hSw); (try simp only [rl]); go_simp; (try with_reducible rfl))); (try simp only [rl])
                  (refine wpAnyH_take (i := 27) (v := ?_) (Array.getElem?_eq_getElem (by decide)) (by kernel_rfl) (by kernel_rfl) (by kernel_rfl) (fun _ _ _ h => h) (Or.inl ⟨by kernel_rfl, ?_⟩) (by assumption) ?_); rotate_left; (focus (intro w hSw; (try dsimp only at hSw); (try simp only [rl]); go_simp; (try with_reducible rfl))); (try simp only [rl])
                  refine wpAnyH_done (by kernel_rfl) ?_ _
                  all_goals
                    go_wp2_with fail
                    go_roundg (x.keys.length - (0 + 1))
                    case measure => omega
                    case rel => exact ⟨0 + 1, true, by omega, by go_num, rfl, rfl, by rw [Hks.out, ← Bool.and_assoc, ← Hb.out, p1]; rfl, Bxt, Xt⟩
                · obtain ⟨m, hkm⟩ : ∃ m, k = m + 1 := ⟨k - 1, by omega⟩
                  have hk1 : k - 1 = m := by omega
                  have q1 : IntKind.i64.wrap ((k : Int) - 1) = (m : Int) := by rw [show (k : Int) - 1 = (m : Int) from by omega]; simp [IntKind.wrap, IntKind.bits, IntKind.signed]; omega
                  have q2 : (0 : Int) ≤ (m : Int) := by omega
                  have q3 : (m : Int) < (x.keys.length : Int) := by omega
                  have q0 : ((k : Int) == 0) = false := by simp; omega
                  have hlt' : m < x.keys.length := by omega
                  obtain ⟨b2, o2, he2, hS2, dm⟩ := hin.key hlt'
                  simp only [Option.some.injEq, Addr.mk.injEq, and_true] at he2
                  obtain ⟨rfl, rfl⟩ := he2
                  have dm := hx.cell dm
                  clear hkm
                  cases p2 : ltS x.keys[m] x.keys[k]
                  · have p3 : Op.bytesLess x.keys[m].toList x.keys[k].toList = false := p2
                    have Asc : ∀ w, Calls Tryz.prog 123 #[.string x.keys[k]] w (fun e w' => e = .returned (.bool true) ∧ Ext w w') := fun w => by rw [← p1]; exact ascii_any _ _ (by omega)
                    go_wp2_with fail
                    go_region_held3 (fun w' => w'.cell? ⟨w.heap.size, 3, none⟩ = some (.slice (some ⟨bb, o, none⟩) x.keys.length kc) ∧ w'.cell? ⟨bb, o + k, none⟩ = some (.string (x.keys[k])) ∧ w'.cell? ⟨bb, o + m, none⟩ = some (.string (x.keys[m])))
                      (first | go_keep | (refine ⟨Ext.cell h1 ?_, Ext.cell h1 ?_, Ext.cell h1 ?_⟩ <;> assumption))
                      (first | (go_at_call 123; refine (Asc _).mono ?_; rintro e w1 ⟨rfl, h1⟩; obtain ⟨hc1, hf1, hz1⟩ := ext_facts h1; (try simp at hz1); (try have hzA : w.heap.size < w1.heap.size := by omega); (try have hzB : w.heap.size + 1 < w1.heap.size := by omega); (try have hzC : w.heap.size + 2 < w1.heap.size := by omega); (try have hzD : w.heap.size + 3 < w1.heap.size := by omega)))
                    all_goals
                      go_wp2_with fail
                      go_roundg (x.keys.length - (k + 1))
                      case measure => omega
                      case rel => exact ⟨k + 1, false, by omega, by go_num, rfl, rfl, by rw [Hks.out, ← Bool.and_assoc, ← Hb.out, p1]; simp only [hk1, p2, Bool.or_false, Bool.or_true, Bool.true_and, Bool.and_true, k0, decide_false, Bool.false_or], Bxt, Xt⟩
                  · have p3 : Op.bytesLess x.keys[m].toList x.keys[k].toList = true := p2
                    have Asc : ∀ w, Calls Tryz.prog 123 #[.string x.keys[k]] w (fun e w' => e = .returned (.bool true) ∧ Ext w w') := fun w => by rw [← p1]; exact ascii_any _ _ (by omega)
                    go_wp2_with fail
                    go_region_held3 (fun w' => w'.cell? ⟨w.heap.size, 3, none⟩ = some (.slice (some ⟨bb, o, none⟩) x.keys.length kc) ∧ w'.cell? ⟨bb, o + k, none⟩ = some (.string (x.keys[k])) ∧ w'.cell? ⟨bb, o + m, none⟩ = some (.string (x.keys[m])))
                      (first | go_keep | (refine ⟨Ext.cell h1 ?_, Ext.cell h1 ?_, Ext.cell h1 ?_⟩ <;> assumption))
                      (first | (go_at_call 123; refine (Asc _).mono ?_; rintro e w1 ⟨rfl, h1⟩; obtain ⟨hc1, hf1, hz1⟩ := ext_facts h1; (try simp at hz1); (try have hzA : w.heap.size < w1.heap.size := by omega); (try have hzB : w.heap.size + 1 < w1.heap.size := by omega); (try have hzC : w.heap.size + 2 < w1.heap.size := by omega); (try have hzD : w.heap.size + 3 < w1.heap.size := by omega)))
                    all_goals
                      go_wp2_with fail
                      go_roundg (x.keys.length - (k + 1))
                      case measure => omega
                      case rel => exact ⟨k + 1, true, by omega, by go_num, rfl, rfl, by rw [Hks.out, ← Bool.and_assoc, ← Hb.out, p1]; simp only [hk1, p2, Bool.or_false, Bool.or_true, Bool.true_and, Bool.and_true, k0, decide_false, Bool.false_or], Bxt, Xt⟩
          · go_wp2_with fail
            go_meet
            refine ⟨vb ?_, Bxt, Xt⟩
            rw [Hf.out, Hb.out, keysTo_all _ (by omega)]
    have b5 : (x.k == 5) = false := by simpa using k5
    exact absurd Hg.out (by simp [k5])
  case rest =>
    obtain ⟨rfl, hB0, hx⟩ := hcut
    have hc0 := hB0.cells; have hf0 := hB0.free; have hl0 := hB0.lt
    go_wp2_with fail
    go_loopg [3, 6, 179] x.l.length (fun g ok _ i wr => ∃ (k : Nat) (b : Bool), k ≤ x.l.length ∧ i = .int .i64 k ∧ g = x.l.length - k ∧ ok = .bool b ∧ b = (x.form && (x.l.take k).all V.shaped) ∧ Box wr w.heap.size #[.int .i64 x.k, .int .i64 x.n, .string x.s, .slice ka x.keys.length kc, .slice la x.l.length lc] 25 ∧ Ext w wr)
    case atStart => exact ⟨0, x.form, by omega, rfl, rfl, rfl, by simp, hB0, hx⟩
    case round =>
      clear hB0 hc0 hf0 hl0 hx
      obtain ⟨k, b, hk, rfl, rfl, rfl, hb, hB0, hx⟩ := hrel
      have Hb := Lib.hid hb
      clear hb
      have hc0 := hB0.cells; have hf0 := hB0.free; have hl0 := hB0.lt
      by_cases hlt : k < x.l.length
      · obtain ⟨bb, o, rfl, hS, ka', kc', la', lc', ⟨d0, d1, d2, d3, d4⟩, hin'⟩ := (hin.ext hx).item hlt
        have hsi := V.size_item hlt
        have Htk := Lib.hid (show (x.l.take (k + 1)).all V.shaped = ((x.l.take k).all V.shaped && (x.l[k]).shaped) by rw [List.take_succ_eq_append_getElem hlt]; simp only [List.all_append, List.all_cons, List.all_nil, Bool.and_true])
        cases b
        · go_wp2_with fail
          go_roundg (x.l.length - (k + 1))
          case measure => omega
          case rel => exact ⟨k + 1, false, by omega, by go_num, rfl, rfl, by rw [Htk.out, ← Bool.and_assoc, ← Hb.out]; rfl, Bxt, Xt⟩
        · go_wp2_with (go_at_call 79; (with_reducible refine (Ih.out _ _ _ _ _ _ _ (by omega) (by omega) (hin'.ext Xt)).mono ?_); rintro e w1 ⟨rfl, h1⟩; obtain ⟨hc1, hf1, hz1⟩ := ext_facts h1; (try simp at hz1); (try have hzA : w.heap.size < w1.heap.size := by omega); (try have hzB : w.heap.size + 1 < w1.heap.size := by omega); (try have hzC : w.heap.size + 2 < w1.heap.size := by omega); (try have hzD : w.heap.size + 3 < w1.heap.size := by omega))
          go_roundg (x.l.length - (k + 1))
          case measure => omega
          case rel => exact ⟨k + 1, (x.l[k]).shaped, by omega, by go_num, rfl, rfl, by rw [Htk.out, ← Bool.and_assoc, ← Hb.out]; rfl, Bxt, Xt⟩
      · go_wp2_with fail
        go_ret
        refine ⟨ret_bool ?_, Xt⟩
        rw [Hsh.out, Hb.out, List.take_of_length_le (by omega)]
end Go.Proofs.YtjibdbnpkfghhaaGreatDoor
