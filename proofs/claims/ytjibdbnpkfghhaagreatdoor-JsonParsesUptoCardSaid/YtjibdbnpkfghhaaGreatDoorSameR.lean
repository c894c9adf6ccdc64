/- The walk of the reference's SameValue: two values are alike, or not. -/
import Derived.Test.YtjibdbnpkfghhaaGreatDoorSameJ
import Derived.Deep.RegionHeld3
import Derived.Deep.DrawnRows
set_option linter.all false
namespace Go.Proofs.YtjibdbnpkfghhaaGreatDoor
open Go.RowKit
attribute [local go_sem ↓] Go.wp_at_zero Go.wp_at_succ

set_option maxRecDepth 100000 in
set_option maxHeartbeats 8000000 in
theorem sameR_val (m : Nat) : ∀ (x y : V) (ka : Option Addr) (kc : Nat) (la : Option Addr) (lc : Nat) (S : Nat → Prop) (kb : Option Addr) (kd : Nat) (lb : Option Addr) (ld : Nat) (T : Nat → Prop) (w : World), x.size ≤ m → x.size ≤ 1073741824 → y.size ≤ 1073741824 → x.In w S ka kc la lc → y.In w T kb kd lb ld →
    Calls Tryz.prog 11 #[x.val ka kc la lc, y.val kb kd lb ld] w (RetEq (x = y) w) := by
  induction m with
  | zero => intro x _ _ _ _ _ _ _ _ _ _ _ _ h; have := x.size_pos; omega
  | succ m ih =>
    intro x y ka kc la lc S kb kd lb ld T w hm hsz hsy hin hjn
    have hl := x.len_l
    have hlk := x.len_keys
    have Ih := Lib.hid ih
    clear ih
    by_cases hk : x.k = y.k
    · have hkb : (x.k != y.k) = false := by simpa using hk
      have hkb2 : (x.k == y.k) = true := by simpa using hk
      by_cases hn : x.n = y.n
      · have hnb : (x.n != y.n) = false := by simpa using hn
        have hnb2 : (x.n == y.n) = true := by simpa using hn
        by_cases hs : x.s = y.s
        · have hsb : (x.s.toList != y.s.toList) = false := by rw [hs]; simp
          have hsb2 : (x.s.toList == y.s.toList) = true := by rw [hs]; simp
          by_cases hlk2 : x.keys.length = y.keys.length
          · have hkl : ((x.keys.length : Int) != (y.keys.length : Int)) = false := by simp; omega
            have hkl2 : ((x.keys.length : Int) == (y.keys.length : Int)) = true := by simp; omega
            by_cases hll2 : x.l.length = y.l.length
            · have hll : ((x.l.length : Int) != (y.l.length : Int)) = false := by simp; omega
              have hll3 : ((x.l.length : Int) == (y.l.length : Int)) = true := by simp; omega
              have Hk := Lib.hid hk
              have Hn := Lib.hid hn
              have Hs := Lib.hid hs
              have Hlk := Lib.hid hlk2
              have Hll := Lib.hid hll2
              clear hk hn hs hlk2 hll2
              go_enter Tryz.func11, Tryz.ntmps11
              go_wp2_with fail
              go_loopg [5, 47] x.keys.length (fun g _ i wr => ∃ k : Nat, k ≤ x.keys.length ∧ i = .int .i64 k ∧ g = x.keys.length - k ∧ Hid (x.keys.take k = y.keys.take k) ∧ Box wr w.heap.size #[.int .i64 x.k, .int .i64 x.n, .string x.s, .slice ka x.keys.length kc, .slice la x.l.length lc] 25 ∧ Box wr (w.heap.size + 1) #[.int .i64 y.k, .int .i64 y.n, .string y.s, .slice kb y.keys.length kd, .slice lb y.l.length ld] 25 ∧ Ext w wr)
              case atStart => exact ⟨0, by omega, rfl, rfl, Lib.hid (by simp), Bxt, Bxt, Xt⟩
              case round =>
                obtain ⟨k, hk, rfl, rfl, Ht, hB0, hB1, hx⟩ := hrel
                have hc0 := hB0.cells; have hf0 := hB0.free; have hl0 := hB0.lt
                have hc1 := hB1.cells; have hf1 := hB1.free; have hl1 := hB1.lt
                by_cases hlt : k < x.keys.length
                · have hlt2 : k < y.keys.length := by have := Hlk.out; omega
                  obtain ⟨b1, o1, rfl, hS1, d0⟩ := hin.key hlt
                  obtain ⟨b2, o2, rfl, hS2, d1⟩ := hjn.key hlt2
                  have d0 := hx.cell d0
                  have d1 := hx.cell d1
                  have hki0 : (0 : Int) ≤ (k : Int) := by omega
                  have hki1 : (k : Int) < (x.keys.length : Int) := by omega
                  have hki2 : (k : Int) < (y.keys.length : Int) := by omega
                  by_cases he : x.keys[k] = y.keys[k]
                  · have heb : (x.keys[k].toList != y.keys[k].toList) = false := by rw [he]; simp
                    have heb2 : (x.keys[k].toList == y.keys[k].toList) = true := by rw [he]; simp
                    have Ht2 := Lib.hid (take_eq hlt hlt2 Ht.out he)
                    clear he
                    go_wp2_with fail
                    go_quiet (fail)
                    go_wp2_with fail
                    go_roundg (x.keys.length - (k + 1))
                    case measure => omega
                    case rel => exact ⟨k + 1, by omega, by go_num, rfl, Ht2, hB0, hB1, Xt⟩
                  · have heb : (x.keys[k].toList != y.keys[k].toList) = true := by simpa using fun h => he (bytes_ext h)
                    have heb2 : (x.keys[k].toList == y.keys[k].toList) = false := by simpa using fun h => he (bytes_ext h)
                    have Hne := Lib.hid (show x ≠ y from fun h => he (by simp only [h]))
                    clear he
                    go_wp2_with fail
                    go_quiet (fail)
                    go_wp2_with fail
                    go_ret
                    exact ⟨_, rfl, ⟨fun h => by (first | cases h | simp at h), fun h => absurd h Hne.out⟩, Xt⟩
                · have Hke := Lib.hid (show x.keys = y.keys by
                    have := Ht.out
                    rwa [List.take_of_length_le (by omega), List.take_of_length_le (by have := Hlk.out; omega)] at this)
                  clear Ht
                  go_wp2_with fail
                  go_loopg [6, 65] x.l.length (fun g _ i wq => ∃ k : Nat, k ≤ x.l.length ∧ i = .int .i64 k ∧ g = x.l.length - k ∧ Hid (x.l.take k = y.l.take k) ∧ Box wq w.heap.size #[.int .i64 x.k, .int .i64 x.n, .string x.s, .slice ka x.keys.length kc, .slice la x.l.length lc] 25 ∧ Box wq (w.heap.size + 1) #[.int .i64 y.k, .int .i64 y.n, .string y.s, .slice kb y.keys.length kd, .slice lb y.l.length ld] 25 ∧ Ext w wq)
                  case atStart => exact ⟨0, by omega, rfl, rfl, Lib.hid (by simp), hB0, hB1, Xt⟩
                  case round =>
                    clear hB0 hB1 hc0 hf0 hl0 hc1 hf1 hl1 hx
                    obtain ⟨k, hk, rfl, rfl, Ht, hB0, hB1, hx⟩ := hrel
                    by_cases hlt : k < x.l.length
                    · have hlt2 : k < y.l.length := by have := Hll.out; omega
                      obtain ⟨b1, o1, rfl, hS1, ka', kc', la', lc', ⟨d0, d1, d2, d3, d4⟩, hin'⟩ := hin.item hlt
                      obtain ⟨b2, o2, rfl, hS2, kb', kd', lb', ld', ⟨f0, f1, f2, f3, f4⟩, hjn'⟩ := hjn.item hlt2
                      have hsi := V.size_item hlt
                      have hsj := V.size_item hlt2
                      have hki0 : (0 : Int) ≤ (k : Int) := by omega
                      have hki1 : (k : Int) < (x.l.length : Int) := by omega
                      have hki2 : (k : Int) < (y.l.length : Int) := by omega
                      have Sof : ∀ w', Ext wr w' → (w'.cell? ⟨w.heap.size, 4, none⟩ = some (.slice (some ⟨b1, o1, none⟩) x.l.length lc) ∧ w'.cell? ⟨w.heap.size + 1, 4, none⟩ = some (.slice (some ⟨b2, o2, none⟩) y.l.length ld) ∧
                          w'.cell? ⟨b1, o1 + k * 5, none⟩ = some (.int .i64 x.l[k].k) ∧ w'.cell? ⟨b1, o1 + k * 5 + 1, none⟩ = some (.int .i64 x.l[k].n) ∧ w'.cell? ⟨b1, o1 + k * 5 + 2, none⟩ = some (.string x.l[k].s) ∧ w'.cell? ⟨b1, o1 + k * 5 + 3, none⟩ = some (.slice ka' x.l[k].keys.length kc') ∧ w'.cell? ⟨b1, o1 + k * 5 + 4, none⟩ = some (.slice la' x.l[k].l.length lc') ∧
                          w'.cell? ⟨b2, o2 + k * 5, none⟩ = some (.int .i64 y.l[k].k) ∧ w'.cell? ⟨b2, o2 + k * 5 + 1, none⟩ = some (.int .i64 y.l[k].n) ∧ w'.cell? ⟨b2, o2 + k * 5 + 2, none⟩ = some (.string y.l[k].s) ∧ w'.cell? ⟨b2, o2 + k * 5 + 3, none⟩ = some (.slice kb' y.l[k].keys.length kd') ∧ w'.cell? ⟨b2, o2 + k * 5 + 4, none⟩ = some (.slice lb' y.l[k].l.length ld')) :=
                        fun w' e => ⟨e.cell (hB0.cells 4), e.cell (hB1.cells 4), e.cell (hx.cell d0), e.cell (hx.cell d1), e.cell (hx.cell d2), e.cell (hx.cell d3), e.cell (hx.cell d4), e.cell (hx.cell f0), e.cell (hx.cell f1), e.cell (hx.cell f2), e.cell (hx.cell f3), e.cell (hx.cell f4)⟩
                      have hin2 := hin'.ext hx
                      have hjn2 := hjn'.ext hx
                      go_wp2_with fail
                      go_region_held3 (fun w' => w'.cell? ⟨w.heap.size, 4, none⟩ = some (.slice (some ⟨b1, o1, none⟩) x.l.length lc) ∧ w'.cell? ⟨w.heap.size + 1, 4, none⟩ = some (.slice (some ⟨b2, o2, none⟩) y.l.length ld) ∧
                          w'.cell? ⟨b1, o1 + k * 5, none⟩ = some (.int .i64 x.l[k].k) ∧ w'.cell? ⟨b1, o1 + k * 5 + 1, none⟩ = some (.int .i64 x.l[k].n) ∧ w'.cell? ⟨b1, o1 + k * 5 + 2, none⟩ = some (.string x.l[k].s) ∧ w'.cell? ⟨b1, o1 + k * 5 + 3, none⟩ = some (.slice ka' x.l[k].keys.length kc') ∧ w'.cell? ⟨b1, o1 + k * 5 + 4, none⟩ = some (.slice la' x.l[k].l.length lc') ∧
                          w'.cell? ⟨b2, o2 + k * 5, none⟩ = some (.int .i64 y.l[k].k) ∧ w'.cell? ⟨b2, o2 + k * 5 + 1, none⟩ = some (.int .i64 y.l[k].n) ∧ w'.cell? ⟨b2, o2 + k * 5 + 2, none⟩ = some (.string y.l[k].s) ∧ w'.cell? ⟨b2, o2 + k * 5 + 3, none⟩ = some (.slice kb' y.l[k].keys.length kd') ∧ w'.cell? ⟨b2, o2 + k * 5 + 4, none⟩ = some (.slice lb' y.l[k].l.length ld'))
                        (first | (exact Sof _ ((Ext.refl _).drew)) | (exact Sof _ (Ext.trans ((Ext.refl _).drew) h1)))
                        (first | (go_at_call 11; refine (Ih.out x.l[k] y.l[k] ka' kc' la' lc' S kb' kd' lb' ld' T _ (by omega) (by omega) (by omega) (hin2.ext Xt) (hjn2.ext Xt)).mono ?_; rintro e w1 ⟨r, rfl, hr, h1⟩))
                      all_goals
                        have hB0 := Box.ext h1 (Box.drew hB0)
                        have hB1 := Box.ext h1 (Box.drew hB1)
                        have Hr := Lib.hid hr
                        clear hr
                        cases r with
                        | true =>
                          have Ht2 := Lib.hid (take_eq hlt hlt2 Ht.out (Hr.out.1 (by trivial)))
                          go_wp2_with fail
                          go_roundg (x.l.length - (k + 1))
                          case measure => omega
                          case rel => exact ⟨k + 1, by omega, by go_num, rfl, Ht2, hB0, hB1, Xt⟩
                        | false =>
                          have He := Lib.hid (show x ≠ y from fun h => by have := Hr.out.2 (by simp only [h]); cases this)
                          go_wp2_with fail
                          go_ret
                          exact ⟨_, rfl, ⟨fun h => by (first | cases h | simp at h), fun h => absurd h He.out⟩, Xt⟩
                    · have Hend := Lib.hid (show x = y by
                        have := Ht.out
                        rw [List.take_of_length_le (by omega), List.take_of_length_le (by have := Hll.out; omega)] at this
                        exact V.ext' Hk.out Hn.out Hs.out Hke.out this)
                      go_wp2_with fail
                      go_ret
                      exact ⟨_, rfl, ⟨fun _ => Hend.out, fun _ => rfl⟩, Xt⟩
            · have hll : ((x.l.length : Int) != (y.l.length : Int)) = true := by simp; omega
              have hll3 : ((x.l.length : Int) == (y.l.length : Int)) = false := by simp; omega
              have He := Lib.hid (show x ≠ y from fun h => hll2 (by rw [h]))
              clear hll2 hk hn hs hlk2
              go_enter Tryz.func11, Tryz.ntmps11
              go_wp2_with fail
              go_ret
              exact ⟨_, rfl, ⟨fun h => by (first | cases h | simp at h), fun h => absurd h He.out⟩, Xt⟩
          · have hkl : ((x.keys.length : Int) != (y.keys.length : Int)) = true := by simp; omega
            have hkl2 : ((x.keys.length : Int) == (y.keys.length : Int)) = false := by simp; omega
            have He := Lib.hid (show x ≠ y from fun h => hlk2 (by rw [h]))
            clear hk hn hs hlk2
            go_enter Tryz.func11, Tryz.ntmps11
            go_wp2_with fail
            go_ret
            exact ⟨_, rfl, ⟨fun h => by (first | cases h | simp at h), fun h => absurd h He.out⟩, Xt⟩
        · have hsb : (x.s.toList != y.s.toList) = true := by simpa using fun h => hs (bytes_ext h)
          have hsb2 : (x.s.toList == y.s.toList) = false := by simpa using fun h => hs (bytes_ext h)
          have He := Lib.hid (show x ≠ y from fun h => hs (by rw [h]))
          clear hk hn hs
          go_enter Tryz.func11, Tryz.ntmps11
          go_wp2_with fail
          go_ret
          exact ⟨_, rfl, ⟨fun h => by (first | cases h | simp at h), fun h => absurd h He.out⟩, Xt⟩
      · have hnb : (x.n != y.n) = true := by simpa using hn
        have hnb2 : (x.n == y.n) = false := by simpa using hn
        have He := Lib.hid (show x ≠ y from fun h => hn (by rw [h]))
        clear hk hn
        go_enter Tryz.func11, Tryz.ntmps11
        go_wp2_with fail
        go_ret
        exact ⟨_, rfl, ⟨fun h => by (first | cases h | simp at h), fun h => absurd h He.out⟩, Xt⟩
    · have hkb : (x.k != y.k) = true := by simpa using hk
      have hkb2 : (x.k == y.k) = false := by simpa using hk
      have He := Lib.hid (show x ≠ y from fun h => hk (by rw [h]))
      clear hk
      go_enter Tryz.func11, Tryz.ntmps11
      go_wp2_with fail
      go_ret
      exact ⟨_, rfl, ⟨fun h => by (first | cases h | simp at h), fun h => absurd h He.out⟩, Xt⟩
/-- The reference's SameValue, as it is used. -/
theorem sameR_any (x y : V) (ka : Option Addr) (kc : Nat) (la : Option Addr) (lc : Nat) (S : Nat → Prop) (kb : Option Addr) (kd : Nat) (lb : Option Addr) (ld : Nat) (T : Nat → Prop) (w : World) (hsz : x.size ≤ 1073741824) (hsy : y.size ≤ 1073741824) (hin : x.In w S ka kc la lc) (hjn : y.In w T kb kd lb ld) :
    Calls Tryz.prog 11 #[x.val ka kc la lc, y.val kb kd lb ld] w fun e w' => e = .returned (.bool (x.same y)) ∧ Ext w w' := by
  refine (sameR_val x.size x y ka kc la lc S kb kd lb ld T w (Nat.le_refl _) hsz hsy hin hjn).mono ?_
  rintro e w' ⟨b, rfl, hb, hx⟩
  refine ⟨?_, hx⟩
  have : b = x.same y := by rw [Bool.eq_iff_iff, hb, same_iff]
  rw [this]
/-- Two that are the same. -/
theorem sameR_yes (x z : V) (hz : z = x) (hsz : x.size ≤ 1073741824) (ka : Option Addr) (kc : Nat) (la : Option Addr) (lc : Nat) (kb : Option Addr) (kd : Nat) (lb : Option Addr) (ld : Nat) (S T : Nat → Prop) (w : World) (hin : x.In w S ka kc la lc) (hjn : z.In w T kb kd lb ld) :
    Calls Tryz.prog 11 #[x.val ka kc la lc, z.val kb kd lb ld] w fun e w' => e = .returned (.bool true) ∧ Ext w w' := by
  subst hz
  refine (sameR_val _ z z ka kc la lc S kb kd lb ld T w (Nat.le_refl _) hsz hsz hin hjn).mono ?_
  rintro e w' ⟨b, rfl, hb, hx⟩
  rw [hb.2 rfl]
  exact ⟨rfl, hx⟩
end Go.Proofs.YtjibdbnpkfghhaaGreatDoor
