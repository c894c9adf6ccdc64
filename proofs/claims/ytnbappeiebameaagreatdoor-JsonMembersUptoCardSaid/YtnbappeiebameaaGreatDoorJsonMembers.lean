/- JsonMembers: for all values and keys the law returns true (Member, Same, With and Without answer what the reference answers); the arguments hold together at most 1048576 values and letters; the library's listed variables as its text lays them. -/
import Derived.Test.YtnbappeiebameaaGreatDoorPkC
import Derived.Test.YtnbappeiebameaaGreatDoorLibAt
import Derived.Test.YtnbappeiebameaaGreatDoorPkL
import Derived.Test.YtnbappeiebameaaGreatDoorRef3
import Derived.Test.YtnbappeiebameaaGreatDoorCopy
import Derived.Test.YtnbappeiebameaaGreatDoorSameR
import Derived.Test.YtnbappeiebameaaGreatDoorWithR
import Derived.Test.YtnbappeiebameaaGreatDoorWith
import Derived.Test.YtnbappeiebameaaGreatDoorWout
import Derived.Test.YtnbappeiebameaaGreatDoorReadsL
import Derived.Deep.RegionHeld3
import Derived.HandedShaped
import Derived.SevenTiedAt
set_option linter.all false
namespace Go.Proofs.YtnbappeiebameaaGreatDoor.lawJsonMembers
open Go.ChangeShapes Go.WideShapes Go.ChangeAt Go.RowKit
open Go.ChangeMaps (open_string shut_string)
section
attribute [local go_sem ↓] Go.wp_at_zero Go.wp_at_succ

theorem memberR_any (x : V) (key : ByteArray) (ka : Option Addr) (kc : Nat) (la : Option Addr) (lc : Nat) (S : Nat → Prop) (w : World) (hsz : x.size ≤ 1073741824) (hin : x.In w S ka kc la lc) :
    Calls Tryz.prog 34 #[x.val ka kc la lc, .string key] w (RetV2 S (x.memD key) (.bool (x.member key).isSome) w) := by
  unfold V.memD
  cases h : x.member key with
  | some y => exact memberOf_some h ka kc la lc S w hsz hin
  | none =>
    refine (memberOf_none h ka kc la lc S w hsz hin).mono ?_
    rintro e w' ⟨rfl, hx⟩
    exact ⟨none, 0, none, 0, rfl, V.zero_in _ _, hx⟩
set_option maxRecDepth 100000 in
set_option maxHeartbeats 16000000 in
theorem walk (x : V) (ka0 : Option Addr) (kc0 : Nat) (la0 : Option Addr) (lc0 : Nat) (y : V) (ka1 : Option Addr) (kc1 : Nat) (la1 : Option Addr) (lc1 : Nat) (key : ByteArray) (w : World) (hl : LibAt w) (hs0 : x.size ≤ 4194304) (hs1 : y.size ≤ 4194304) (hks : key.size ≤ 4194304) (hin0 : x.In w All ka0 kc0 la0 lc0) (hin1 : y.In w All ka1 kc1 la1 lc1) :
    Calls Tryz.prog 6 #[x.val ka0 kc0 la0 lc0, y.val ka1 kc1 la1 lc1, .string key] w fun e w' => e = .returned (.bool true) ∧ Ext w w' := by
  have Hin0 := Lib.hid hin0
  have Hin1 := Lib.hid hin1
  clear hin0 hin1
  obtain ⟨z, hz⟩ : ∃ z, x.memD key = z := ⟨_, rfl⟩
  have hzs : z.size ≤ 4194304 := by rcases memD_size x key with h | h; rw [← hz, h]; decide +kernel; rw [← hz]; omega
  obtain ⟨mb, hmb⟩ : ∃ b, (x.member key).isSome = b := ⟨_, rfl⟩
  have Hm := Lib.hid (show x.memD key = z ∧ (x.member key).isSome = mb from ⟨hz, hmb⟩)
  obtain ⟨r, hr⟩ : ∃ r, x.same y = r := ⟨_, rfl⟩
  have Hr := Lib.hid hr
  obtain ⟨p, hp⟩ : ∃ p, x.put key y = p := ⟨_, rfl⟩
  have hps : p.size ≤ 1073741824 := by have := put_size x key y; rw [← hp]; omega
  have Hp := Lib.hid hp
  obtain ⟨q, hq⟩ : ∃ q, x.del key = q := ⟨_, rfl⟩
  have hqs : q.size ≤ 1073741824 := by have := del_size x key; rw [← hq]; omega
  have Hq := Lib.hid hq
  obtain ⟨fb, hfb⟩ : ∃ fb, x.fine = fb := ⟨_, rfl⟩
  have Hf := Lib.hid hfb
  have Hob := Lib.hid (show fb = true → x.k = 5 → VObj x from fun h h5 => by
    rw [← hfb] at h
    unfold V.fine at h
    rw [Bool.and_eq_true] at h
    exact sound_obj (good_sound h.1) h5)
  clear hz hmb hr hp hq hfb
  go_enter Tryz.func6, Tryz.ntmps6
  go_upto_region 1 with fail
  refine gen_world (R := fun wx => Box wx w.heap.size #[.int .i64 x.k, .int .i64 x.n, .string x.s, .slice ka0 x.keys.length kc0, .slice la0 x.l.length lc0] 25 ∧ x.In wx All ka0 kc0 la0 lc0 ∧ Box wx (w.heap.size + 1) #[.int .i64 y.k, .int .i64 y.n, .string y.s, .slice ka1 y.keys.length kc1, .slice la1 y.l.length lc1] 25 ∧ y.In wx All ka1 kc1 la1 lc1 ∧ Ext w wx) ⟨Bxt, Hin0.out.ext Xt, Bxt, Hin1.out.ext Xt, Xt⟩ ?_
  clear Hin0 Hin1
  rintro wa ⟨hB0, hin0, hB1, hin1, hx_wa⟩
  have Hin0 := Lib.hid hin0
  have Hin1 := Lib.hid hin1
  clear hin0 hin1
  have hc0 := hB0.cells; have hf0 := hB0.free; have hl0 := hB0.lt
  go_wp2_with fail
  (refine (copy_any _ x ka0 kc0 la0 lc0 All _ (Nat.le_refl _) (by omega) (Hin0.out.ext Xt)).mono ?_)
  rintro e w1 ⟨ka2, kc2, la2, lc2, rfl, hin_, h_w1⟩
  have hB0 := Box.ext h_w1 hB0
  have Hin0 := Lib.hid (V.In.ext (w' := w1) Hin0.out h_w1)
  have hB1 := Box.ext h_w1 hB1
  have Hin1 := Lib.hid (V.In.ext (w' := w1) Hin1.out h_w1)
  have hx_w1 := hx_wa.trans h_w1
  clear hc0 hf0 hl0
  clear h_w1 hx_wa
  have Hin2 := Lib.hid (all_in hin_)
  clear hin_
  go_upto_region 2 with fail
  refine gen_world (R := fun wx => Box wx w.heap.size #[.int .i64 x.k, .int .i64 x.n, .string x.s, .slice ka0 x.keys.length kc0, .slice la0 x.l.length lc0] 25 ∧ x.In wx All ka0 kc0 la0 lc0 ∧ Box wx (w.heap.size + 1) #[.int .i64 y.k, .int .i64 y.n, .string y.s, .slice ka1 y.keys.length kc1, .slice la1 y.l.length lc1] 25 ∧ y.In wx All ka1 kc1 la1 lc1 ∧ Box wx w1.heap.size #[.int .i64 x.k, .int .i64 x.n, .string x.s, .slice ka2 x.keys.length kc2, .slice la2 x.l.length lc2] 25 ∧ x.In wx All ka2 kc2 la2 lc2 ∧ Ext w wx) ⟨Bxt, Hin0.out.ext Xt, Bxt, Hin1.out.ext Xt, Bxt, Hin2.out.ext Xt, Xt⟩ ?_
  clear hB0 Hin0 hB1 Hin1 Hin2 hx_w1
  rintro wvw1 ⟨hB0, hin0, hB1, hin1, hB2, hin2, hx_wvw1⟩
  have Hin0 := Lib.hid hin0
  have Hin1 := Lib.hid hin1
  have Hin2 := Lib.hid hin2
  clear hin0 hin1 hin2
  have hc2 := hB2.cells; have hf2 := hB2.free; have hl2 := hB2.lt
  go_wp2_with fail
  (refine (member_any x key ka2 kc2 la2 lc2 All _ (by omega) (Hin2.out.ext Xt)).mono ?_)
  rw [Hm.out.1, Hm.out.2]
  rintro e w2 ⟨ka3, kc3, la3, lc3, rfl, hin_, h_w2⟩
  have hB0 := Box.ext h_w2 hB0
  have Hin0 := Lib.hid (V.In.ext (w' := w2) Hin0.out h_w2)
  have hB1 := Box.ext h_w2 hB1
  have Hin1 := Lib.hid (V.In.ext (w' := w2) Hin1.out h_w2)
  have hB2 := Box.ext h_w2 hB2
  have Hin2 := Lib.hid (V.In.ext (w' := w2) Hin2.out h_w2)
  have hx_w2 := hx_wvw1.trans h_w2
  clear hc2 hf2 hl2
  clear h_w2 hx_wvw1
  have Hin3 := Lib.hid (all_in hin_)
  clear hin_
  go_upto_region 3 with fail
  refine gen_world (R := fun wx => Box wx w.heap.size #[.int .i64 x.k, .int .i64 x.n, .string x.s, .slice ka0 x.keys.length kc0, .slice la0 x.l.length lc0] 25 ∧ x.In wx All ka0 kc0 la0 lc0 ∧ Box wx (w.heap.size + 1) #[.int .i64 y.k, .int .i64 y.n, .string y.s, .slice ka1 y.keys.length kc1, .slice la1 y.l.length lc1] 25 ∧ y.In wx All ka1 kc1 la1 lc1 ∧ Box wx w1.heap.size #[.int .i64 x.k, .int .i64 x.n, .string x.s, .slice ka2 x.keys.length kc2, .slice la2 x.l.length lc2] 25 ∧ x.In wx All ka2 kc2 la2 lc2 ∧ Box wx w2.heap.size #[.int .i64 z.k, .int .i64 z.n, .string z.s, .slice ka3 z.keys.length kc3, .slice la3 z.l.length lc3] 25 ∧ z.In wx All ka3 kc3 la3 lc3 ∧ Ext w wx) ⟨Bxt, Hin0.out.ext Xt, Bxt, Hin1.out.ext Xt, Bxt, Hin2.out.ext Xt, Bxt, Hin3.out.ext Xt, Xt⟩ ?_
  clear hB0 Hin0 hB1 Hin1 hB2 Hin2 Hin3 hx_w2
  rintro wvw2 ⟨hB0, hin0, hB1, hin1, hB2, hin2, hB3, hin3, hx_wvw2⟩
  have Hin0 := Lib.hid hin0
  have Hin1 := Lib.hid hin1
  have Hin2 := Lib.hid hin2
  have Hin3 := Lib.hid hin3
  clear hin0 hin1 hin2 hin3
  have hc0 := hB0.cells; have hf0 := hB0.free; have hl0 := hB0.lt
  go_wp2_with fail
  (refine (memberR_any x key ka0 kc0 la0 lc0 All _ (by omega) (Hin0.out.ext Xt)).mono ?_)
  rw [Hm.out.1, Hm.out.2]
  rintro e w3 ⟨ka4, kc4, la4, lc4, rfl, hin_, h_w3⟩
  have hB0 := Box.ext h_w3 hB0
  have Hin0 := Lib.hid (V.In.ext (w' := w3) Hin0.out h_w3)
  have hB1 := Box.ext h_w3 hB1
  have Hin1 := Lib.hid (V.In.ext (w' := w3) Hin1.out h_w3)
  have hB2 := Box.ext h_w3 hB2
  have Hin2 := Lib.hid (V.In.ext (w' := w3) Hin2.out h_w3)
  have hB3 := Box.ext h_w3 hB3
  have Hin3 := Lib.hid (V.In.ext (w' := w3) Hin3.out h_w3)
  have hx_w3 := hx_wvw2.trans h_w3
  clear hc0 hf0 hl0
  clear h_w3 hx_wvw2
  have Hin4 := Lib.hid (all_in hin_)
  clear hin_
  go_upto_region 4 with fail
  refine gen_world (R := fun wx => Box wx w.heap.size #[.int .i64 x.k, .int .i64 x.n, .string x.s, .slice ka0 x.keys.length kc0, .slice la0 x.l.length lc0] 25 ∧ x.In wx All ka0 kc0 la0 lc0 ∧ Box wx (w.heap.size + 1) #[.int .i64 y.k, .int .i64 y.n, .string y.s, .slice ka1 y.keys.length kc1, .slice la1 y.l.length lc1] 25 ∧ y.In wx All ka1 kc1 la1 lc1 ∧ Box wx w1.heap.size #[.int .i64 x.k, .int .i64 x.n, .string x.s, .slice ka2 x.keys.length kc2, .slice la2 x.l.length lc2] 25 ∧ x.In wx All ka2 kc2 la2 lc2 ∧ Box wx w2.heap.size #[.int .i64 z.k, .int .i64 z.n, .string z.s, .slice ka3 z.keys.length kc3, .slice la3 z.l.length lc3] 25 ∧ z.In wx All ka3 kc3 la3 lc3 ∧ Box wx w3.heap.size #[.int .i64 z.k, .int .i64 z.n, .string z.s, .slice ka4 z.keys.length kc4, .slice la4 z.l.length lc4] 25 ∧ z.In wx All ka4 kc4 la4 lc4 ∧ Ext w wx) ⟨Bxt, Hin0.out.ext Xt, Bxt, Hin1.out.ext Xt, Bxt, Hin2.out.ext Xt, Bxt, Hin3.out.ext Xt, Bxt, Hin4.out.ext Xt, Xt⟩ ?_
  clear hB0 Hin0 hB1 Hin1 hB2 Hin2 hB3 Hin3 Hin4 hx_w3
  rintro wvw3 ⟨hB0, hin0, hB1, hin1, hB2, hin2, hB3, hin3, hB4, hin4, hx_wvw3⟩
  have Hin0 := Lib.hid hin0
  have Hin1 := Lib.hid hin1
  have Hin2 := Lib.hid hin2
  have Hin3 := Lib.hid hin3
  have Hin4 := Lib.hid hin4
  clear hin0 hin1 hin2 hin3 hin4
  have Sof : ∀ w', Ext wvw3 w' → (w'.cell? ⟨w.heap.size, 0, none⟩ = some (.int .i64 x.k) ∧ w'.cell? ⟨w.heap.size, 1, none⟩ = some (.int .i64 x.n) ∧ w'.cell? ⟨w.heap.size, 2, none⟩ = some (.string x.s) ∧ w'.cell? ⟨w.heap.size, 3, none⟩ = some (.slice ka0 x.keys.length kc0) ∧ w'.cell? ⟨w.heap.size, 4, none⟩ = some (.slice la0 x.l.length lc0) ∧ w'.cell? ⟨(w.heap.size + 1), 0, none⟩ = some (.int .i64 y.k) ∧ w'.cell? ⟨(w.heap.size + 1), 1, none⟩ = some (.int .i64 y.n) ∧ w'.cell? ⟨(w.heap.size + 1), 2, none⟩ = some (.string y.s) ∧ w'.cell? ⟨(w.heap.size + 1), 3, none⟩ = some (.slice ka1 y.keys.length kc1) ∧ w'.cell? ⟨(w.heap.size + 1), 4, none⟩ = some (.slice la1 y.l.length lc1) ∧ w'.cell? ⟨w2.heap.size, 0, none⟩ = some (.int .i64 z.k) ∧ w'.cell? ⟨w2.heap.size, 1, none⟩ = some (.int .i64 z.n) ∧ w'.cell? ⟨w2.heap.size, 2, none⟩ = some (.string z.s) ∧ w'.cell? ⟨w2.heap.size, 3, none⟩ = some (.slice ka3 z.keys.length kc3) ∧ w'.cell? ⟨w2.heap.size, 4, none⟩ = some (.slice la3 z.l.length lc3) ∧ w'.cell? ⟨w3.heap.size, 0, none⟩ = some (.int .i64 z.k) ∧ w'.cell? ⟨w3.heap.size, 1, none⟩ = some (.int .i64 z.n) ∧ w'.cell? ⟨w3.heap.size, 2, none⟩ = some (.string z.s) ∧ w'.cell? ⟨w3.heap.size, 3, none⟩ = some (.slice ka4 z.keys.length kc4) ∧ w'.cell? ⟨w3.heap.size, 4, none⟩ = some (.slice la4 z.l.length lc4)) := fun w' e => ⟨e.cell (hB0.cells 0), e.cell (hB0.cells 1), e.cell (hB0.cells 2), e.cell (hB0.cells 3), e.cell (hB0.cells 4), e.cell (hB1.cells 0), e.cell (hB1.cells 1), e.cell (hB1.cells 2), e.cell (hB1.cells 3), e.cell (hB1.cells 4), e.cell (hB3.cells 0), e.cell (hB3.cells 1), e.cell (hB3.cells 2), e.cell (hB3.cells 3), e.cell (hB3.cells 4), e.cell (hB4.cells 0), e.cell (hB4.cells 1), e.cell (hB4.cells 2), e.cell (hB4.cells 3), e.cell (hB4.cells 4)⟩
  refine wp_region_held_drew (S := fun w' => w'.cell? ⟨w.heap.size, 0, none⟩ = some (.int .i64 x.k) ∧ w'.cell? ⟨w.heap.size, 1, none⟩ = some (.int .i64 x.n) ∧ w'.cell? ⟨w.heap.size, 2, none⟩ = some (.string x.s) ∧ w'.cell? ⟨w.heap.size, 3, none⟩ = some (.slice ka0 x.keys.length kc0) ∧ w'.cell? ⟨w.heap.size, 4, none⟩ = some (.slice la0 x.l.length lc0) ∧ w'.cell? ⟨(w.heap.size + 1), 0, none⟩ = some (.int .i64 y.k) ∧ w'.cell? ⟨(w.heap.size + 1), 1, none⟩ = some (.int .i64 y.n) ∧ w'.cell? ⟨(w.heap.size + 1), 2, none⟩ = some (.string y.s) ∧ w'.cell? ⟨(w.heap.size + 1), 3, none⟩ = some (.slice ka1 y.keys.length kc1) ∧ w'.cell? ⟨(w.heap.size + 1), 4, none⟩ = some (.slice la1 y.l.length lc1) ∧ w'.cell? ⟨w2.heap.size, 0, none⟩ = some (.int .i64 z.k) ∧ w'.cell? ⟨w2.heap.size, 1, none⟩ = some (.int .i64 z.n) ∧ w'.cell? ⟨w2.heap.size, 2, none⟩ = some (.string z.s) ∧ w'.cell? ⟨w2.heap.size, 3, none⟩ = some (.slice ka3 z.keys.length kc3) ∧ w'.cell? ⟨w2.heap.size, 4, none⟩ = some (.slice la3 z.l.length lc3) ∧ w'.cell? ⟨w3.heap.size, 0, none⟩ = some (.int .i64 z.k) ∧ w'.cell? ⟨w3.heap.size, 1, none⟩ = some (.int .i64 z.n) ∧ w'.cell? ⟨w3.heap.size, 2, none⟩ = some (.string z.s) ∧ w'.cell? ⟨w3.heap.size, 3, none⟩ = some (.slice ka4 z.keys.length kc4) ∧ w'.cell? ⟨w3.heap.size, 4, none⟩ = some (.slice la4 z.l.length lc4)) (by kernel_rfl) (Sof _ Xt) (fun hHeld => ?_)
  (refine wpAnyH_take (i := 0) (v := ?_) (Array.getElem?_eq_getElem (by decide)) (by kernel_rfl) (by kernel_rfl) (by kernel_rfl) (fun _ _ _ h => h) (Or.inl ⟨by kernel_rfl, ?_⟩) (by assumption) ?_); rotate_left; (focus (intro w hSw; (try dsimp only at hSw); (try simp only [Act.put, List.setIfInBounds_toArray, List.set_cons_zero, List.set_cons_succ, List.getElem_toArray, List.getElem_cons_zero, List.getElem_cons_succ]); go_simp; (try with_reducible rfl))); (try simp only [Act.put, List.setIfInBounds_toArray, List.set_cons_zero, List.set_cons_succ, List.getElem_toArray, List.getElem_cons_zero, List.getElem_cons_succ])
  (refine wpAnyH_take (i := 1) (v := ?_) (Array.getElem?_eq_getElem (by decide)) (by kernel_rfl) (by kernel_rfl) (by kernel_rfl) (fun _ _ _ h => h) (Or.inl ⟨by kernel_rfl, ?_⟩) (by assumption) ?_); rotate_left; (focus (intro w hSw; (try dsimp only at hSw); (try simp only [Act.put, List.setIfInBounds_toArray, List.set_cons_zero, List.set_cons_succ, List.getElem_toArray, List.getElem_cons_zero, List.getElem_cons_succ]); go_simp; (try with_reducible rfl))); (try simp only [Act.put, List.setIfInBounds_toArray, List.set_cons_zero, List.set_cons_succ, List.getElem_toArray, List.getElem_cons_zero, List.getElem_cons_succ])
  (refine wpAnyH_take (i := 2) (v := ?_) (Array.getElem?_eq_getElem (by decide)) (by kernel_rfl) (by kernel_rfl) (by kernel_rfl) (fun _ _ _ h => h) (Or.inl ⟨by kernel_rfl, ?_⟩) (by assumption) ?_); rotate_left; (focus (intro w hSw; (try dsimp only at hSw); (try simp only [Act.put, List.setIfInBounds_toArray, List.set_cons_zero, List.set_cons_succ, List.getElem_toArray, List.getElem_cons_zero, List.getElem_cons_succ]); go_simp; (try with_reducible rfl))); (try simp only [Act.put, List.setIfInBounds_toArray, List.set_cons_zero, List.set_cons_succ, List.getElem_toArray, List.getElem_cons_zero, List.getElem_cons_succ])
  (refine wpAnyH_take (i := 3) (v := ?_) (Array.getElem?_eq_getElem (by decide)) (by kernel_rfl) (by kernel_rfl) (by kernel_rfl) (fun _ _ _ h => h) (Or.inl ⟨by kernel_rfl, ?_⟩) (by assumption) ?_); rotate_left; (focus (intro w hSw; (try dsimp only at hSw); (try simp only [Act.put, List.setIfInBounds_toArray, List.set_cons_zero, List.set_cons_succ, List.getElem_toArray, List.getElem_cons_zero, List.getElem_cons_succ]); go_simp; (try with_reducible rfl))); (try simp only [Act.put, List.setIfInBounds_toArray, List.set_cons_zero, List.set_cons_succ, List.getElem_toArray, List.getElem_cons_zero, List.getElem_cons_succ])
  (refine wpAnyH_take (i := 4) (v := ?_) (Array.getElem?_eq_getElem (by decide)) (by kernel_rfl) (by kernel_rfl) (by kernel_rfl) (fun _ _ _ h => h) (Or.inl ⟨by kernel_rfl, ?_⟩) (by assumption) ?_); rotate_left; (focus (intro w hSw; (try dsimp only at hSw); (try simp only [Act.put, List.setIfInBounds_toArray, List.set_cons_zero, List.set_cons_succ, List.getElem_toArray, List.getElem_cons_zero, List.getElem_cons_succ]); go_simp; (try with_reducible rfl))); (try simp only [Act.put, List.setIfInBounds_toArray, List.set_cons_zero, List.set_cons_succ, List.getElem_toArray, List.getElem_cons_zero, List.getElem_cons_succ])
  (refine wpAnyH_take (i := 5) (v := ?_) (Array.getElem?_eq_getElem (by decide)) (by kernel_rfl) (by kernel_rfl) (by kernel_rfl) (fun _ _ _ h => h) (Or.inl ⟨by kernel_rfl, ?_⟩) (by assumption) ?_); rotate_left; (focus (intro w hSw; (try dsimp only at hSw); (try simp only [Act.put, List.setIfInBounds_toArray, List.set_cons_zero, List.set_cons_succ, List.getElem_toArray, List.getElem_cons_zero, List.getElem_cons_succ]); go_simp; (try with_reducible rfl))); (try simp only [Act.put, List.setIfInBounds_toArray, List.set_cons_zero, List.set_cons_succ, List.getElem_toArray, List.getElem_cons_zero, List.getElem_cons_succ])
  (refine wpAnyH_ready (rs := [6]) (by kernel_rfl) (by simp) ?_); (refine AllReadyH.cons (Array.getElem?_eq_getElem (by decide)) (fun K hK => ?_) AllReadyH.nil); (try simp only [Act.put, List.setIfInBounds_toArray, List.set_cons_zero, List.set_cons_succ, List.getElem_toArray, List.getElem_cons_zero, List.getElem_cons_succ])
  (try go_simp)
  (refine (sameR_yes z z rfl (by omega) ka3 kc3 la3 lc3 ka4 kc4 la4 lc4 All All _ (Hin3.out.ext Xt) (Hin4.out.ext Xt)).mono ?_)
  rintro e w4 ⟨rfl, hx4⟩
  (try go_simp)
  refine hK.out _ _ (Sof _ Xt) (fun hHeld => ?_)
  clear hK K
  (try simp only [Act.put, List.setIfInBounds_toArray, List.set_cons_zero, List.set_cons_succ, List.getElem_toArray, List.getElem_cons_zero, List.getElem_cons_succ])
  (refine wpAnyH_take (i := 7) (v := ?_) (Array.getElem?_eq_getElem (by decide)) (by kernel_rfl) (by kernel_rfl) (by kernel_rfl) (fun _ _ _ h => h) (Or.inl ⟨by kernel_rfl, ?_⟩) (by assumption) ?_); rotate_left; (focus (intro w hSw; (try dsimp only at hSw); (try simp only [Act.put, List.setIfInBounds_toArray, List.set_cons_zero, List.set_cons_succ, List.getElem_toArray, List.getElem_cons_zero, List.getElem_cons_succ]); go_simp; (try with_reducible rfl))); (try simp only [Act.put, List.setIfInBounds_toArray, List.set_cons_zero, List.set_cons_succ, List.getElem_toArray, List.getElem_cons_zero, List.getElem_cons_succ])
  (refine wpAnyH_take (i := 8) (v := ?_) (Array.getElem?_eq_getElem (by decide)) (by kernel_rfl) (by kernel_rfl) (by kernel_rfl) (fun _ _ _ h => h) (Or.inl ⟨by kernel_rfl, ?_⟩) (by assumption) ?_); rotate_left; (focus (intro w hSw; (try dsimp only at hSw); (try simp only [Act.put, List.setIfInBounds_toArray, List.set_cons_zero, List.set_cons_succ, List.getElem_toArray, List.getElem_cons_zero, List.getElem_cons_succ]); go_simp; (try with_reducible rfl))); (try simp only [Act.put, List.setIfInBounds_toArray, List.set_cons_zero, List.set_cons_succ, List.getElem_toArray, List.getElem_cons_zero, List.getElem_cons_succ])
  (refine wpAnyH_take (i := 9) (v := ?_) (Array.getElem?_eq_getElem (by decide)) (by kernel_rfl) (by kernel_rfl) (by kernel_rfl) (fun _ _ _ h => h) (Or.inl ⟨by kernel_rfl, ?_⟩) (by assumption) ?_); rotate_left; (focus (intro w hSw; (try dsimp only at hSw); (try simp only [Act.put, List.setIfInBounds_toArray, List.set_cons_zero, List.set_cons_succ, List.getElem_toArray, List.getElem_cons_zero, List.getElem_cons_succ]); go_simp; (try with_reducible rfl))); (try simp only [Act.put, List.setIfInBounds_toArray, List.set_cons_zero, List.set_cons_succ, List.getElem_toArray, List.getElem_cons_zero, List.getElem_cons_succ])
  (refine wpAnyH_take (i := 10) (v := ?_) (Array.getElem?_eq_getElem (by decide)) (by kernel_rfl) (by kernel_rfl) (by kernel_rfl) (fun _ _ _ h => h) (Or.inl ⟨by kernel_rfl, ?_⟩) (by assumption) ?_); rotate_left; (focus (intro w hSw; (try dsimp only at hSw); (try simp only [Act.put, List.setIfInBounds_toArray, List.set_cons_zero, List.set_cons_succ, List.getElem_toArray, List.getElem_cons_zero, List.getElem_cons_succ]); go_simp; (try with_reducible rfl))); (try simp only [Act.put, List.setIfInBounds_toArray, List.set_cons_zero, List.set_cons_succ, List.getElem_toArray, List.getElem_cons_zero, List.getElem_cons_succ])
  (refine wpAnyH_take (i := 11) (v := ?_) (Array.getElem?_eq_getElem (by decide)) (by kernel_rfl) (by kernel_rfl) (by kernel_rfl) (fun _ _ _ h => h) (Or.inl ⟨by kernel_rfl, ?_⟩) (by assumption) ?_); rotate_left; (focus (intro w hSw; (try dsimp only at hSw); (try simp only [Act.put, List.setIfInBounds_toArray, List.set_cons_zero, List.set_cons_succ, List.getElem_toArray, List.getElem_cons_zero, List.getElem_cons_succ]); go_simp; (try with_reducible rfl))); (try simp only [Act.put, List.setIfInBounds_toArray, List.set_cons_zero, List.set_cons_succ, List.getElem_toArray, List.getElem_cons_zero, List.getElem_cons_succ])
  (refine wpAnyH_take (i := 13) (v := ?_) (Array.getElem?_eq_getElem (by decide)) (by kernel_rfl) (by kernel_rfl) (by kernel_rfl) (fun _ _ _ h => h) (Or.inl ⟨by kernel_rfl, ?_⟩) (by assumption) ?_); rotate_left; (focus (intro w hSw; (try dsimp only at hSw); (try simp only [Act.put, List.setIfInBounds_toArray, List.set_cons_zero, List.set_cons_succ, List.getElem_toArray, List.getElem_cons_zero, List.getElem_cons_succ]); go_simp; (try with_reducible rfl))); (try simp only [Act.put, List.setIfInBounds_toArray, List.set_cons_zero, List.set_cons_succ, List.getElem_toArray, List.getElem_cons_zero, List.getElem_cons_succ])
  (refine wpAnyH_take (i := 14) (v := ?_) (Array.getElem?_eq_getElem (by decide)) (by kernel_rfl) (by kernel_rfl) (by kernel_rfl) (fun _ _ _ h => h) (Or.inl ⟨by kernel_rfl, ?_⟩) (by assumption) ?_); rotate_left; (focus (intro w hSw; (try dsimp only at hSw); (try simp only [Act.put, List.setIfInBounds_toArray, List.set_cons_zero, List.set_cons_succ, List.getElem_toArray, List.getElem_cons_zero, List.getElem_cons_succ]); go_simp; (try with_reducible rfl))); (try simp only [Act.put, List.setIfInBounds_toArray, List.set_cons_zero, List.set_cons_succ, List.getElem_toArray, List.getElem_cons_zero, List.getElem_cons_succ])
  (refine wpAnyH_ready (rs := [12]) (by kernel_rfl) (by simp) ?_); (refine AllReadyH.cons (Array.getElem?_eq_getElem (by decide)) (fun K hK => ?_) AllReadyH.nil); (try simp only [Act.put, List.setIfInBounds_toArray, List.set_cons_zero, List.set_cons_succ, List.getElem_toArray, List.getElem_cons_zero, List.getElem_cons_succ])
  (try go_simp)
  (refine (sameJ_any x y ka0 kc0 la0 lc0 All ka1 kc1 la1 lc1 All _ (by omega) (by omega) (Hin0.out.ext Xt) (Hin1.out.ext Xt)).mono ?_)
  rw [Hr.out]
  rintro e w5 ⟨rfl, hx5⟩
  (try go_simp)
  refine hK.out _ _ (Sof _ Xt) (fun hHeld => ?_)
  clear hK K
  (try simp only [Act.put, List.setIfInBounds_toArray, List.set_cons_zero, List.set_cons_succ, List.getElem_toArray, List.getElem_cons_zero, List.getElem_cons_succ])
  (refine wpAnyH_ready (rs := [15]) (by kernel_rfl) (by simp) ?_); (refine AllReadyH.cons (Array.getElem?_eq_getElem (by decide)) (fun K hK => ?_) AllReadyH.nil); (try simp only [Act.put, List.setIfInBounds_toArray, List.set_cons_zero, List.set_cons_succ, List.getElem_toArray, List.getElem_cons_zero, List.getElem_cons_succ])
  (try go_simp)
  (refine (sameR_any x y ka0 kc0 la0 lc0 All ka1 kc1 la1 lc1 All _ (by omega) (by omega) (Hin0.out.ext Xt) (Hin1.out.ext Xt)).mono ?_)
  rw [Hr.out]
  rintro e w6 ⟨rfl, hx6⟩
  (try go_simp)
  refine hK.out _ _ (Sof _ Xt) (fun hHeld => ?_)
  clear hK K
  (try simp only [Act.put, List.setIfInBounds_toArray, List.set_cons_zero, List.set_cons_succ, List.getElem_toArray, List.getElem_cons_zero, List.getElem_cons_succ])
  (refine wpAnyH_take (i := 16) (v := ?_) (Array.getElem?_eq_getElem (by decide)) (by kernel_rfl) (by kernel_rfl) (by kernel_rfl) (fun _ _ _ h => h) (Or.inl ⟨by kernel_rfl, ?_⟩) (by assumption) ?_); rotate_left; (focus (intro w hSw; (try dsimp only at hSw); (try simp only [Act.put, List.setIfInBounds_toArray, List.set_cons_zero, List.set_cons_succ, List.getElem_toArray, List.getElem_cons_zero, List.getElem_cons_succ]); go_simp; (try with_reducible rfl))); (try simp only [Act.put, List.setIfInBounds_toArray, List.set_cons_zero, List.set_cons_succ, List.getElem_toArray, List.getElem_cons_zero, List.getElem_cons_succ])
  (refine wpAnyH_take (i := 17) (v := ?_) (Array.getElem?_eq_getElem (by decide)) (by kernel_rfl) (by kernel_rfl) (by kernel_rfl) (fun _ _ _ h => h) (Or.inl ⟨by kernel_rfl, ?_⟩) (by assumption) ?_); rotate_left; (focus (intro w hSw; (try dsimp only at hSw); (try simp only [Act.put, List.setIfInBounds_toArray, List.set_cons_zero, List.set_cons_succ, List.getElem_toArray, List.getElem_cons_zero, List.getElem_cons_succ]); go_simp; (try with_reducible rfl))); (try simp only [Act.put, List.setIfInBounds_toArray, List.set_cons_zero, List.set_cons_succ, List.getElem_toArray, List.getElem_cons_zero, List.getElem_cons_succ])
  (refine wpAnyH_take (i := 18) (v := ?_) (Array.getElem?_eq_getElem (by decide)) (by kernel_rfl) (by kernel_rfl) (by kernel_rfl) (fun _ _ _ h => h) (Or.inl ⟨by kernel_rfl, ?_⟩) (by assumption) ?_); rotate_left; (focus (intro w hSw; (try dsimp only at hSw); (try simp only [Act.put, List.setIfInBounds_toArray, List.set_cons_zero, List.set_cons_succ, List.getElem_toArray, List.getElem_cons_zero, List.getElem_cons_succ]); go_simp; (try with_reducible rfl))); (try simp only [Act.put, List.setIfInBounds_toArray, List.set_cons_zero, List.set_cons_succ, List.getElem_toArray, List.getElem_cons_zero, List.getElem_cons_succ])
  (refine wpAnyH_ready (rs := [19]) (by kernel_rfl) (by simp) ?_); (refine AllReadyH.cons (Array.getElem?_eq_getElem (by decide)) (fun K hK => ?_) AllReadyH.nil); (try simp only [Act.put, List.setIfInBounds_toArray, List.set_cons_zero, List.set_cons_succ, List.getElem_toArray, List.getElem_cons_zero, List.getElem_cons_succ])
  (try go_simp)
  (refine (reads_law _ (hl.ext Xt)).mono ?_)
  rintro e w7 ⟨rfl, hx7⟩
  (try go_simp)
  refine hK.out _ _ (Sof _ Xt) (fun hHeld => ?_)
  clear hK K
  (try simp only [Act.put, List.setIfInBounds_toArray, List.set_cons_zero, List.set_cons_succ, List.getElem_toArray, List.getElem_cons_zero, List.getElem_cons_succ])
  (refine wpAnyH_take (i := 20) (v := ?_) (Array.getElem?_eq_getElem (by decide)) (by kernel_rfl) (by kernel_rfl) (by kernel_rfl) (fun _ _ _ h => h) (Or.inl ⟨by kernel_rfl, ?_⟩) (by assumption) ?_); rotate_left; (focus (intro w hSw; (try dsimp only at hSw); (try simp only [Act.put, List.setIfInBounds_toArray, List.set_cons_zero, List.set_cons_succ, List.getElem_toArray, List.getElem_cons_zero, List.getElem_cons_succ]); go_simp; (try with_reducible rfl))); (try simp only [Act.put, List.setIfInBounds_toArray, List.set_cons_zero, List.set_cons_succ, List.getElem_toArray, List.getElem_cons_zero, List.getElem_cons_succ])
  (refine wpAnyH_take (i := 21) (v := ?_) (Array.getElem?_eq_getElem (by decide)) (by kernel_rfl) (by kernel_rfl) (by kernel_rfl) (fun _ _ _ h => h) (Or.inl ⟨by kernel_rfl, ?_⟩) (by assumption) ?_); rotate_left; (focus (intro w hSw; (try dsimp only at hSw); (try simp only [Act.put, List.setIfInBounds_toArray, List.set_cons_zero, List.set_cons_succ, List.getElem_toArray, List.getElem_cons_zero, List.getElem_cons_succ]); go_simp; (try with_reducible rfl))); (try simp only [Act.put, List.setIfInBounds_toArray, List.set_cons_zero, List.set_cons_succ, List.getElem_toArray, List.getElem_cons_zero, List.getElem_cons_succ])
  refine wpAnyH_done (by kernel_rfl) ?_ _
  go_upto_region 6 with fail
  refine gen_world (R := fun wx => Box wx w.heap.size #[.int .i64 x.k, .int .i64 x.n, .string x.s, .slice ka0 x.keys.length kc0, .slice la0 x.l.length lc0] 25 ∧ x.In wx All ka0 kc0 la0 lc0 ∧ Box wx (w.heap.size + 1) #[.int .i64 y.k, .int .i64 y.n, .string y.s, .slice ka1 y.keys.length kc1, .slice la1 y.l.length lc1] 25 ∧ y.In wx All ka1 kc1 la1 lc1 ∧ Box wx w1.heap.size #[.int .i64 x.k, .int .i64 x.n, .string x.s, .slice ka2 x.keys.length kc2, .slice la2 x.l.length lc2] 25 ∧ x.In wx All ka2 kc2 la2 lc2 ∧ Box wx w2.heap.size #[.int .i64 z.k, .int .i64 z.n, .string z.s, .slice ka3 z.keys.length kc3, .slice la3 z.l.length lc3] 25 ∧ z.In wx All ka3 kc3 la3 lc3 ∧ Box wx w3.heap.size #[.int .i64 z.k, .int .i64 z.n, .string z.s, .slice ka4 z.keys.length kc4, .slice la4 z.l.length lc4] 25 ∧ z.In wx All ka4 kc4 la4 lc4 ∧ Ext w wx) ⟨Bxt, Hin0.out.ext Xt, Bxt, Hin1.out.ext Xt, Bxt, Hin2.out.ext Xt, Bxt, Hin3.out.ext Xt, Bxt, Hin4.out.ext Xt, Xt⟩ ?_
  clear hB0 Hin0 hB1 Hin1 hB2 Hin2 hB3 Hin3 hB4 Hin4 hx_wvw3
  rintro wa6 ⟨hB0, hin0, hB1, hin1, hB2, hin2, hB3, hin3, hB4, hin4, hx_wa6⟩
  have Hin0 := Lib.hid hin0
  have Hin1 := Lib.hid hin1
  have Hin2 := Lib.hid hin2
  have Hin3 := Lib.hid hin3
  have Hin4 := Lib.hid hin4
  clear hin0 hin1 hin2 hin3 hin4
  have hc0 := hB0.cells; have hf0 := hB0.free; have hl0 := hB0.lt
  go_wp2_with fail
  (refine (goodValue_any x ka0 kc0 la0 lc0 All _ (by omega) (Hin0.out.ext Xt)).mono ?_)
  rw [Hf.out]
  rintro e w8 ⟨rfl, h_w8⟩
  have hB0 := Box.ext h_w8 hB0
  have Hin0 := Lib.hid (V.In.ext (w' := w8) Hin0.out h_w8)
  have hB1 := Box.ext h_w8 hB1
  have Hin1 := Lib.hid (V.In.ext (w' := w8) Hin1.out h_w8)
  have hB2 := Box.ext h_w8 hB2
  have Hin2 := Lib.hid (V.In.ext (w' := w8) Hin2.out h_w8)
  have hB3 := Box.ext h_w8 hB3
  have Hin3 := Lib.hid (V.In.ext (w' := w8) Hin3.out h_w8)
  have hB4 := Box.ext h_w8 hB4
  have Hin4 := Lib.hid (V.In.ext (w' := w8) Hin4.out h_w8)
  have hx_w8 := hx_wa6.trans h_w8
  clear hc0 hf0 hl0
  clear h_w8 hx_wa6
  cases fb with
  | false =>
    have hc0 := hB0.cells; have hf0 := hB0.free; have hl0 := hB0.lt
    have hc2 := hB2.cells; have hf2 := hB2.free; have hl2 := hB2.lt
    go_wp2_with fail
    (refine (sameR_yes x x rfl (by omega) ka2 kc2 la2 lc2 ka0 kc0 la0 lc0 All All _ (Hin2.out.ext Xt) (Hin0.out.ext Xt)).mono ?_)
    rintro e w9 ⟨rfl, h_w9⟩
    have hx_w9 : Ext w w9 := Xt
    go_wp2_with fail
    go_ret
    exact ⟨rfl, Xt⟩
  | true =>
    by_cases h5 : x.k = 5
    · have Ho := Lib.hid (Hob.out rfl h5)
      have hk5 : (x.k == 5) = true := by simpa using h5
      have hk6 : (x.k != 5) = false := by simpa using h5
      clear h5
      have hc0 := hB0.cells; have hf0 := hB0.free; have hl0 := hB0.lt
      go_upto_region 8 with fail
      clear hc0 hf0 hl0
      refine gen_world (R := fun wx => Box wx w.heap.size #[.int .i64 x.k, .int .i64 x.n, .string x.s, .slice ka0 x.keys.length kc0, .slice la0 x.l.length lc0] 25 ∧ x.In wx All ka0 kc0 la0 lc0 ∧ Box wx (w.heap.size + 1) #[.int .i64 y.k, .int .i64 y.n, .string y.s, .slice ka1 y.keys.length kc1, .slice la1 y.l.length lc1] 25 ∧ y.In wx All ka1 kc1 la1 lc1 ∧ Box wx w1.heap.size #[.int .i64 x.k, .int .i64 x.n, .string x.s, .slice ka2 x.keys.length kc2, .slice la2 x.l.length lc2] 25 ∧ x.In wx All ka2 kc2 la2 lc2 ∧ Box wx w2.heap.size #[.int .i64 z.k, .int .i64 z.n, .string z.s, .slice ka3 z.keys.length kc3, .slice la3 z.l.length lc3] 25 ∧ z.In wx All ka3 kc3 la3 lc3 ∧ Box wx w3.heap.size #[.int .i64 z.k, .int .i64 z.n, .string z.s, .slice ka4 z.keys.length kc4, .slice la4 z.l.length lc4] 25 ∧ z.In wx All ka4 kc4 la4 lc4 ∧ Ext w wx) ⟨Bxt, Hin0.out.ext Xt, Bxt, Hin1.out.ext Xt, Bxt, Hin2.out.ext Xt, Bxt, Hin3.out.ext Xt, Bxt, Hin4.out.ext Xt, Xt⟩ ?_
      clear hB0 Hin0 hB1 Hin1 hB2 Hin2 hB3 Hin3 hB4 Hin4 hx_w8
      rintro wb8 ⟨hB0, hin0, hB1, hin1, hB2, hin2, hB3, hin3, hB4, hin4, hx_wb8⟩
      have Hin0 := Lib.hid hin0
      have Hin1 := Lib.hid hin1
      have Hin2 := Lib.hid hin2
      have Hin3 := Lib.hid hin3
      have Hin4 := Lib.hid hin4
      clear hin0 hin1 hin2 hin3 hin4
      have Sof : ∀ w', Ext wb8 w' → (w'.cell? ⟨w.heap.size, 0, none⟩ = some (.int .i64 x.k) ∧ w'.cell? ⟨w.heap.size, 1, none⟩ = some (.int .i64 x.n) ∧ w'.cell? ⟨w.heap.size, 2, none⟩ = some (.string x.s) ∧ w'.cell? ⟨w.heap.size, 3, none⟩ = some (.slice ka0 x.keys.length kc0) ∧ w'.cell? ⟨w.heap.size, 4, none⟩ = some (.slice la0 x.l.length lc0) ∧ w'.cell? ⟨(w.heap.size + 1), 0, none⟩ = some (.int .i64 y.k) ∧ w'.cell? ⟨(w.heap.size + 1), 1, none⟩ = some (.int .i64 y.n) ∧ w'.cell? ⟨(w.heap.size + 1), 2, none⟩ = some (.string y.s) ∧ w'.cell? ⟨(w.heap.size + 1), 3, none⟩ = some (.slice ka1 y.keys.length kc1) ∧ w'.cell? ⟨(w.heap.size + 1), 4, none⟩ = some (.slice la1 y.l.length lc1) ∧ w'.cell? ⟨w1.heap.size, 0, none⟩ = some (.int .i64 x.k) ∧ w'.cell? ⟨w1.heap.size, 1, none⟩ = some (.int .i64 x.n) ∧ w'.cell? ⟨w1.heap.size, 2, none⟩ = some (.string x.s) ∧ w'.cell? ⟨w1.heap.size, 3, none⟩ = some (.slice ka2 x.keys.length kc2) ∧ w'.cell? ⟨w1.heap.size, 4, none⟩ = some (.slice la2 x.l.length lc2)) := fun w' e => ⟨e.cell (hB0.cells 0), e.cell (hB0.cells 1), e.cell (hB0.cells 2), e.cell (hB0.cells 3), e.cell (hB0.cells 4), e.cell (hB1.cells 0), e.cell (hB1.cells 1), e.cell (hB1.cells 2), e.cell (hB1.cells 3), e.cell (hB1.cells 4), e.cell (hB2.cells 0), e.cell (hB2.cells 1), e.cell (hB2.cells 2), e.cell (hB2.cells 3), e.cell (hB2.cells 4)⟩
      refine wp_region_held_drew (S := fun w' => w'.cell? ⟨w.heap.size, 0, none⟩ = some (.int .i64 x.k) ∧ w'.cell? ⟨w.heap.size, 1, none⟩ = some (.int .i64 x.n) ∧ w'.cell? ⟨w.heap.size, 2, none⟩ = some (.string x.s) ∧ w'.cell? ⟨w.heap.size, 3, none⟩ = some (.slice ka0 x.keys.length kc0) ∧ w'.cell? ⟨w.heap.size, 4, none⟩ = some (.slice la0 x.l.length lc0) ∧ w'.cell? ⟨(w.heap.size + 1), 0, none⟩ = some (.int .i64 y.k) ∧ w'.cell? ⟨(w.heap.size + 1), 1, none⟩ = some (.int .i64 y.n) ∧ w'.cell? ⟨(w.heap.size + 1), 2, none⟩ = some (.string y.s) ∧ w'.cell? ⟨(w.heap.size + 1), 3, none⟩ = some (.slice ka1 y.keys.length kc1) ∧ w'.cell? ⟨(w.heap.size + 1), 4, none⟩ = some (.slice la1 y.l.length lc1) ∧ w'.cell? ⟨w1.heap.size, 0, none⟩ = some (.int .i64 x.k) ∧ w'.cell? ⟨w1.heap.size, 1, none⟩ = some (.int .i64 x.n) ∧ w'.cell? ⟨w1.heap.size, 2, none⟩ = some (.string x.s) ∧ w'.cell? ⟨w1.heap.size, 3, none⟩ = some (.slice ka2 x.keys.length kc2) ∧ w'.cell? ⟨w1.heap.size, 4, none⟩ = some (.slice la2 x.l.length lc2)) (by kernel_rfl) (Sof _ Xt) (fun hHeld => ?_)
      (refine wpAnyH_take (i := 0) (v := ?_) (Array.getElem?_eq_getElem (by decide)) (by kernel_rfl) (by kernel_rfl) (by kernel_rfl) (fun _ _ _ h => h) (Or.inl ⟨by kernel_rfl, ?_⟩) (by assumption) ?_); rotate_left; (focus (intro w hSw; (try dsimp only at hSw); (try simp only [Act.put, List.setIfInBounds_toArray, List.set_cons_zero, List.set_cons_succ, List.getElem_toArray, List.getElem_cons_zero, List.getElem_cons_succ]); go_simp; (try with_reducible rfl))); (try simp only [Act.put, List.setIfInBounds_toArray, List.set_cons_zero, List.set_cons_succ, List.getElem_toArray, List.getElem_cons_zero, List.getElem_cons_succ])
      (refine wpAnyH_take (i := 1) (v := ?_) (Array.getElem?_eq_getElem (by decide)) (by kernel_rfl) (by kernel_rfl) (by kernel_rfl) (fun _ _ _ h => h) (Or.inl ⟨by kernel_rfl, ?_⟩) (by assumption) ?_); rotate_left; (focus (intro w hSw; (try dsimp only at hSw); (try simp only [Act.put, List.setIfInBounds_toArray, List.set_cons_zero, List.set_cons_succ, List.getElem_toArray, List.getElem_cons_zero, List.getElem_cons_succ]); go_simp; (try with_reducible rfl))); (try simp only [Act.put, List.setIfInBounds_toArray, List.set_cons_zero, List.set_cons_succ, List.getElem_toArray, List.getElem_cons_zero, List.getElem_cons_succ])
      (refine wpAnyH_take (i := 2) (v := ?_) (Array.getElem?_eq_getElem (by decide)) (by kernel_rfl) (by kernel_rfl) (by kernel_rfl) (fun _ _ _ h => h) (Or.inl ⟨by kernel_rfl, ?_⟩) (by assumption) ?_); rotate_left; (focus (intro w hSw; (try dsimp only at hSw); (try simp only [Act.put, List.setIfInBounds_toArray, List.set_cons_zero, List.set_cons_succ, List.getElem_toArray, List.getElem_cons_zero, List.getElem_cons_succ]); go_simp; (try with_reducible rfl))); (try simp only [Act.put, List.setIfInBounds_toArray, List.set_cons_zero, List.set_cons_succ, List.getElem_toArray, List.getElem_cons_zero, List.getElem_cons_succ])
      (refine wpAnyH_take (i := 4) (v := ?_) (Array.getElem?_eq_getElem (by decide)) (by kernel_rfl) (by kernel_rfl) (by kernel_rfl) (fun _ _ _ h => h) (Or.inl ⟨by kernel_rfl, ?_⟩) (by assumption) ?_); rotate_left; (focus (intro w hSw; (try dsimp only at hSw); (try simp only [Act.put, List.setIfInBounds_toArray, List.set_cons_zero, List.set_cons_succ, List.getElem_toArray, List.getElem_cons_zero, List.getElem_cons_succ]); go_simp; (try with_reducible rfl))); (try simp only [Act.put, List.setIfInBounds_toArray, List.set_cons_zero, List.set_cons_succ, List.getElem_toArray, List.getElem_cons_zero, List.getElem_cons_succ])
      (refine wpAnyH_take (i := 5) (v := ?_) (Array.getElem?_eq_getElem (by decide)) (by kernel_rfl) (by kernel_rfl) (by kernel_rfl) (fun _ _ _ h => h) (Or.inl ⟨by kernel_rfl, ?_⟩) (by assumption) ?_); rotate_left; (focus (intro w hSw; (try dsimp only at hSw); (try simp only [Act.put, List.setIfInBounds_toArray, List.set_cons_zero, List.set_cons_succ, List.getElem_toArray, List.getElem_cons_zero, List.getElem_cons_succ]); go_simp; (try with_reducible rfl))); (try simp only [Act.put, List.setIfInBounds_toArray, List.set_cons_zero, List.set_cons_succ, List.getElem_toArray, List.getElem_cons_zero, List.getElem_cons_succ])
      (refine wpAnyH_take (i := 6) (v := ?_) (Array.getElem?_eq_getElem (by decide)) (by kernel_rfl) (by kernel_rfl) (by kernel_rfl) (fun _ _ _ h => h) (Or.inl ⟨by kernel_rfl, ?_⟩) (by assumption) ?_); rotate_left; (focus (intro w hSw; (try dsimp only at hSw); (try simp only [Act.put, List.setIfInBounds_toArray, List.set_cons_zero, List.set_cons_succ, List.getElem_toArray, List.getElem_cons_zero, List.getElem_cons_succ]); go_simp; (try with_reducible rfl))); (try simp only [Act.put, List.setIfInBounds_toArray, List.set_cons_zero, List.set_cons_succ, List.getElem_toArray, List.getElem_cons_zero, List.getElem_cons_succ])
      (refine wpAnyH_ready (rs := [3]) (by kernel_rfl) (by simp) ?_); (refine AllReadyH.cons (Array.getElem?_eq_getElem (by decide)) (fun K hK => ?_) AllReadyH.nil); (try simp only [Act.put, List.setIfInBounds_toArray, List.set_cons_zero, List.set_cons_succ, List.getElem_toArray, List.getElem_cons_zero, List.getElem_cons_succ])
      (try go_simp)
      (refine (with_any x ka2 kc2 la2 lc2 key y ka1 kc1 la1 lc1 All _ (by omega) Ho.out.rise (Hin2.out.ext Xt) (Hin1.out.ext Xt)).mono ?_)
      rw [Hp.out]
      rintro e w10 ⟨ka5, kc5, la5, lc5, rfl, hin5, hx10⟩
      have Hin5 := Lib.hid (all_in hin5)
      clear hin5
      (try go_simp)
      refine hK.out _ _ (Sof _ Xt) (fun hHeld => ?_)
      clear hK K
      (try simp only [Act.put, List.setIfInBounds_toArray, List.set_cons_zero, List.set_cons_succ, List.getElem_toArray, List.getElem_cons_zero, List.getElem_cons_succ])
      (refine wpAnyH_ready (rs := [7]) (by kernel_rfl) (by simp) ?_); (refine AllReadyH.cons (Array.getElem?_eq_getElem (by decide)) (fun K hK => ?_) AllReadyH.nil); (try simp only [Act.put, List.setIfInBounds_toArray, List.set_cons_zero, List.set_cons_succ, List.getElem_toArray, List.getElem_cons_zero, List.getElem_cons_succ])
      (try go_simp)
      (refine (withR_any x ka0 kc0 la0 lc0 key y ka1 kc1 la1 lc1 All _ (by omega) Ho.out.k5 Ho.out.len Ho.out.n0 Ho.out.s0 Ho.out.rise (Hin0.out.ext Xt) (Hin1.out.ext Xt)).mono ?_)
      rw [Hp.out]
      rintro e w11 ⟨ka6, kc6, la6, lc6, rfl, hin6, hx11⟩
      have Hin6 := Lib.hid (all_in hin6)
      clear hin6
      (try go_simp)
      refine hK.out _ _ (Sof _ Xt) (fun hHeld => ?_)
      clear hK K
      (try simp only [Act.put, List.setIfInBounds_toArray, List.set_cons_zero, List.set_cons_succ, List.getElem_toArray, List.getElem_cons_zero, List.getElem_cons_succ])
      (refine wpAnyH_ready (rs := [8]) (by kernel_rfl) (by simp) ?_); (refine AllReadyH.cons (Array.getElem?_eq_getElem (by decide)) (fun K hK => ?_) AllReadyH.nil); (try simp only [Act.put, List.setIfInBounds_toArray, List.set_cons_zero, List.set_cons_succ, List.getElem_toArray, List.getElem_cons_zero, List.getElem_cons_succ])
      (try go_simp)
      (refine (sameR_yes p p rfl (by omega) ka5 kc5 la5 lc5 ka6 kc6 la6 lc6 All All _ (Hin5.out.ext Xt) (Hin6.out.ext Xt)).mono ?_)
      rintro e w12 ⟨rfl, hx12⟩
      (try go_simp)
      refine hK.out _ _ (Sof _ Xt) (fun hHeld => ?_)
      clear hK K
      (try simp only [Act.put, List.setIfInBounds_toArray, List.set_cons_zero, List.set_cons_succ, List.getElem_toArray, List.getElem_cons_zero, List.getElem_cons_succ])
      (refine wpAnyH_take (i := 9) (v := ?_) (Array.getElem?_eq_getElem (by decide)) (by kernel_rfl) (by kernel_rfl) (by kernel_rfl) (fun _ _ _ h => h) (Or.inl ⟨by kernel_rfl, ?_⟩) (by assumption) ?_); rotate_left; (focus (intro w hSw; (try dsimp only at hSw); (try simp only [Act.put, List.setIfInBounds_toArray, List.set_cons_zero, List.set_cons_succ, List.getElem_toArray, List.getElem_cons_zero, List.getElem_cons_succ]); go_simp; (try with_reducible rfl))); (try simp only [Act.put, List.setIfInBounds_toArray, List.set_cons_zero, List.set_cons_succ, List.getElem_toArray, List.getElem_cons_zero, List.getElem_cons_succ])
      (refine wpAnyH_take (i := 10) (v := ?_) (Array.getElem?_eq_getElem (by decide)) (by kernel_rfl) (by kernel_rfl) (by kernel_rfl) (fun _ _ _ h => h) (Or.inl ⟨by kernel_rfl, ?_⟩) (by assumption) ?_); rotate_left; (focus (intro w hSw; (try dsimp only at hSw); (try simp only [Act.put, List.setIfInBounds_toArray, List.set_cons_zero, List.set_cons_succ, List.getElem_toArray, List.getElem_cons_zero, List.getElem_cons_succ]); go_simp; (try with_reducible rfl))); (try simp only [Act.put, List.setIfInBounds_toArray, List.set_cons_zero, List.set_cons_succ, List.getElem_toArray, List.getElem_cons_zero, List.getElem_cons_succ])
      (refine wpAnyH_take (i := 11) (v := ?_) (Array.getElem?_eq_getElem (by decide)) (by kernel_rfl) (by kernel_rfl) (by kernel_rfl) (fun _ _ _ h => h) (Or.inl ⟨by kernel_rfl, ?_⟩) (by assumption) ?_); rotate_left; (focus (intro w hSw; (try dsimp only at hSw); (try simp only [Act.put, List.setIfInBounds_toArray, List.set_cons_zero, List.set_cons_succ, List.getElem_toArray, List.getElem_cons_zero, List.getElem_cons_succ]); go_simp; (try with_reducible rfl))); (try simp only [Act.put, List.setIfInBounds_toArray, List.set_cons_zero, List.set_cons_succ, List.getElem_toArray, List.getElem_cons_zero, List.getElem_cons_succ])
      (refine wpAnyH_take (i := 13) (v := ?_) (Array.getElem?_eq_getElem (by decide)) (by kernel_rfl) (by kernel_rfl) (by kernel_rfl) (fun _ _ _ h => h) (Or.inl ⟨by kernel_rfl, ?_⟩) (by assumption) ?_); rotate_left; (focus (intro w hSw; (try dsimp only at hSw); (try simp only [Act.put, List.setIfInBounds_toArray, List.set_cons_zero, List.set_cons_succ, List.getElem_toArray, List.getElem_cons_zero, List.getElem_cons_succ]); go_simp; (try with_reducible rfl))); (try simp only [Act.put, List.setIfInBounds_toArray, List.set_cons_zero, List.set_cons_succ, List.getElem_toArray, List.getElem_cons_zero, List.getElem_cons_succ])
      (refine wpAnyH_take (i := 14) (v := ?_) (Array.getElem?_eq_getElem (by decide)) (by kernel_rfl) (by kernel_rfl) (by kernel_rfl) (fun _ _ _ h => h) (Or.inl ⟨by kernel_rfl, ?_⟩) (by assumption) ?_); rotate_left; (focus (intro w hSw; (try dsimp only at hSw); (try simp only [Act.put, List.setIfInBounds_toArray, List.set_cons_zero, List.set_cons_succ, List.getElem_toArray, List.getElem_cons_zero, List.getElem_cons_succ]); go_simp; (try with_reducible rfl))); (try simp only [Act.put, List.setIfInBounds_toArray, List.set_cons_zero, List.set_cons_succ, List.getElem_toArray, List.getElem_cons_zero, List.getElem_cons_succ])
      (refine wpAnyH_ready (rs := [12]) (by kernel_rfl) (by simp) ?_); (refine AllReadyH.cons (Array.getElem?_eq_getElem (by decide)) (fun K hK => ?_) AllReadyH.nil); (try simp only [Act.put, List.setIfInBounds_toArray, List.set_cons_zero, List.set_cons_succ, List.getElem_toArray, List.getElem_cons_zero, List.getElem_cons_succ])
      (try go_simp)
      (refine (without_any x ka2 kc2 la2 lc2 key All _ (by omega) Ho.out.rise (Hin2.out.ext Xt)).mono ?_)
      rw [Hq.out]
      rintro e w13 ⟨ka7, kc7, la7, lc7, rfl, hin7, hx13⟩
      have Hin7 := Lib.hid (all_in hin7)
      clear hin7
      (try go_simp)
      refine hK.out _ _ (Sof _ Xt) (fun hHeld => ?_)
      clear hK K
      (try simp only [Act.put, List.setIfInBounds_toArray, List.set_cons_zero, List.set_cons_succ, List.getElem_toArray, List.getElem_cons_zero, List.getElem_cons_succ])
      (refine wpAnyH_ready (rs := [15]) (by kernel_rfl) (by simp) ?_); (refine AllReadyH.cons (Array.getElem?_eq_getElem (by decide)) (fun K hK => ?_) AllReadyH.nil); (try simp only [Act.put, List.setIfInBounds_toArray, List.set_cons_zero, List.set_cons_succ, List.getElem_toArray, List.getElem_cons_zero, List.getElem_cons_succ])
      (try go_simp)
      (refine (withoutR_any x ka0 kc0 la0 lc0 key All _ (by omega) Ho.out.k5 Ho.out.len Ho.out.n0 Ho.out.s0 Ho.out.rise (Hin0.out.ext Xt)).mono ?_)
      rw [Hq.out]
      rintro e w14 ⟨ka8, kc8, la8, lc8, rfl, hin8, hx14⟩
      have Hin8 := Lib.hid (all_in hin8)
      clear hin8
      (try go_simp)
      refine hK.out _ _ (Sof _ Xt) (fun hHeld => ?_)
      clear hK K
      (try simp only [Act.put, List.setIfInBounds_toArray, List.set_cons_zero, List.set_cons_succ, List.getElem_toArray, List.getElem_cons_zero, List.getElem_cons_succ])
      (refine wpAnyH_ready (rs := [16]) (by kernel_rfl) (by simp) ?_); (refine AllReadyH.cons (Array.getElem?_eq_getElem (by decide)) (fun K hK => ?_) AllReadyH.nil); (try simp only [Act.put, List.setIfInBounds_toArray, List.set_cons_zero, List.set_cons_succ, List.getElem_toArray, List.getElem_cons_zero, List.getElem_cons_succ])
      (try go_simp)
      (refine (sameR_yes q q rfl (by omega) ka7 kc7 la7 lc7 ka8 kc8 la8 lc8 All All _ (Hin7.out.ext Xt) (Hin8.out.ext Xt)).mono ?_)
      rintro e w15 ⟨rfl, hx15⟩
      (try go_simp)
      refine hK.out _ _ (Sof _ Xt) (fun hHeld => ?_)
      clear hK K
      (try simp only [Act.put, List.setIfInBounds_toArray, List.set_cons_zero, List.set_cons_succ, List.getElem_toArray, List.getElem_cons_zero, List.getElem_cons_succ])
      (refine wpAnyH_take (i := 17) (v := ?_) (Array.getElem?_eq_getElem (by decide)) (by kernel_rfl) (by kernel_rfl) (by kernel_rfl) (fun _ _ _ h => h) (Or.inl ⟨by kernel_rfl, ?_⟩) (by assumption) ?_); rotate_left; (focus (intro w hSw; (try dsimp only at hSw); (try simp only [Act.put, List.setIfInBounds_toArray, List.set_cons_zero, List.set_cons_succ, List.getElem_toArray, List.getElem_cons_zero, List.getElem_cons_succ]); go_simp; (try with_reducible rfl))); (try simp only [Act.put, List.setIfInBounds_toArray, List.set_cons_zero, List.set_cons_succ, List.getElem_toArray, List.getElem_cons_zero, List.getElem_cons_succ])
      (refine wpAnyH_take (i := 18) (v := ?_) (Array.getElem?_eq_getElem (by decide)) (by kernel_rfl) (by kernel_rfl) (by kernel_rfl) (fun _ _ _ h => h) (Or.inl ⟨by kernel_rfl, ?_⟩) (by assumption) ?_); rotate_left; (focus (intro w hSw; (try dsimp only at hSw); (try simp only [Act.put, List.setIfInBounds_toArray, List.set_cons_zero, List.set_cons_succ, List.getElem_toArray, List.getElem_cons_zero, List.getElem_cons_succ]); go_simp; (try with_reducible rfl))); (try simp only [Act.put, List.setIfInBounds_toArray, List.set_cons_zero, List.set_cons_succ, List.getElem_toArray, List.getElem_cons_zero, List.getElem_cons_succ])
      (refine wpAnyH_take (i := 19) (v := ?_) (Array.getElem?_eq_getElem (by decide)) (by kernel_rfl) (by kernel_rfl) (by kernel_rfl) (fun _ _ _ h => h) (Or.inl ⟨by kernel_rfl, ?_⟩) (by assumption) ?_); rotate_left; (focus (intro w hSw; (try dsimp only at hSw); (try simp only [Act.put, List.setIfInBounds_toArray, List.set_cons_zero, List.set_cons_succ, List.getElem_toArray, List.getElem_cons_zero, List.getElem_cons_succ]); go_simp; (try with_reducible rfl))); (try simp only [Act.put, List.setIfInBounds_toArray, List.set_cons_zero, List.set_cons_succ, List.getElem_toArray, List.getElem_cons_zero, List.getElem_cons_succ])
      (refine wpAnyH_take (i := 20) (v := ?_) (Array.getElem?_eq_getElem (by decide)) (by kernel_rfl) (by kernel_rfl) (by kernel_rfl) (fun _ _ _ h => h) (Or.inl ⟨by kernel_rfl, ?_⟩) (by assumption) ?_); rotate_left; (focus (intro w hSw; (try dsimp only at hSw); (try simp only [Act.put, List.setIfInBounds_toArray, List.set_cons_zero, List.set_cons_succ, List.getElem_toArray, List.getElem_cons_zero, List.getElem_cons_succ]); go_simp; (try with_reducible rfl))); (try simp only [Act.put, List.setIfInBounds_toArray, List.set_cons_zero, List.set_cons_succ, List.getElem_toArray, List.getElem_cons_zero, List.getElem_cons_succ])
      (refine wpAnyH_ready (rs := [21]) (by kernel_rfl) (by simp) ?_); (refine AllReadyH.cons (Array.getElem?_eq_getElem (by decide)) (fun K hK => ?_) AllReadyH.nil); (try simp only [Act.put, List.setIfInBounds_toArray, List.set_cons_zero, List.set_cons_succ, List.getElem_toArray, List.getElem_cons_zero, List.getElem_cons_succ])
      (try go_simp)
      (refine (sameR_yes x x rfl (by omega) ka2 kc2 la2 lc2 ka0 kc0 la0 lc0 All All _ (Hin2.out.ext Xt) (Hin0.out.ext Xt)).mono ?_)
      rintro e w16 ⟨rfl, hx16⟩
      (try go_simp)
      refine hK.out _ _ (Sof _ Xt) (fun hHeld => ?_)
      clear hK K
      (try simp only [Act.put, List.setIfInBounds_toArray, List.set_cons_zero, List.set_cons_succ, List.getElem_toArray, List.getElem_cons_zero, List.getElem_cons_succ])
      (refine wpAnyH_take (i := 22) (v := ?_) (Array.getElem?_eq_getElem (by decide)) (by kernel_rfl) (by kernel_rfl) (by kernel_rfl) (fun _ _ _ h => h) (Or.inl ⟨by kernel_rfl, ?_⟩) (by assumption) ?_); rotate_left; (focus (intro w hSw; (try dsimp only at hSw); (try simp only [Act.put, List.setIfInBounds_toArray, List.set_cons_zero, List.set_cons_succ, List.getElem_toArray, List.getElem_cons_zero, List.getElem_cons_succ]); go_simp; (try with_reducible rfl))); (try simp only [Act.put, List.setIfInBounds_toArray, List.set_cons_zero, List.set_cons_succ, List.getElem_toArray, List.getElem_cons_zero, List.getElem_cons_succ])
      (refine wpAnyH_take (i := 23) (v := ?_) (Array.getElem?_eq_getElem (by decide)) (by kernel_rfl) (by kernel_rfl) (by kernel_rfl) (fun _ _ _ h => h) (Or.inl ⟨by kernel_rfl, ?_⟩) (by assumption) ?_); rotate_left; (focus (intro w hSw; (try dsimp only at hSw); (try simp only [Act.put, List.setIfInBounds_toArray, List.set_cons_zero, List.set_cons_succ, List.getElem_toArray, List.getElem_cons_zero, List.getElem_cons_succ]); go_simp; (try with_reducible rfl))); (try simp only [Act.put, List.setIfInBounds_toArray, List.set_cons_zero, List.set_cons_succ, List.getElem_toArray, List.getElem_cons_zero, List.getElem_cons_succ])
      refine wpAnyH_done (by kernel_rfl) ?_ _
      go_wp2_with fail
      go_ret
      exact ⟨rfl, Xt⟩
    · have hk5 : (x.k == 5) = false := by simpa using h5
      have hk6 : (x.k != 5) = true := by simpa using h5
      clear h5
      have hc0 := hB0.cells; have hf0 := hB0.free; have hl0 := hB0.lt
      have hc2 := hB2.cells; have hf2 := hB2.free; have hl2 := hB2.lt
      go_wp2_with fail
      (refine (sameR_yes x x rfl (by omega) ka2 kc2 la2 lc2 ka0 kc0 la0 lc0 All All _ (Hin2.out.ext Xt) (Hin0.out.ext Xt)).mono ?_)
      rintro e w9 ⟨rfl, h_w9⟩
      have hx_w9 : Ext w w9 := Xt
      go_wp2_with fail
      go_ret
      exact ⟨rfl, Xt⟩
end
set_option maxRecDepth 100000 in
theorem lifted (os : Os) (started : os.Started) (H : Type) (enc : TypeId × Value → H) (Fi : Stop.Interp) :
    ReturnsInHanded {} Tryz.checked os 6 .any ((Rows.OpenSpec.upto Rows.jsonMembersSpec).preRow enc Tryz.prog Tryz.f6 Rows.jsonMembersUptoRow.domain false Rows.jsonMembersUptoRow.laid) (((Rows.OpenSpec.upto Rows.jsonMembersSpec).at Fi).post enc Tryz.prog Tryz.f6 false true false false) := by
  obtain ⟨places, hx⟩ : ∃ places, DataW.whole enc Tryz.prog ((start.laidWorld os).forCall (fun _ _ => 0) ⟨#[], #[.agg #[.int .i64 0, .int .i64 0, .string ⟨#[]⟩, .slice none 0 0, .slice none 0 0], .agg #[.int .i64 0, .int .i64 0, .string ⟨#[]⟩, .slice none 0 0, .slice none 0 0], .string ⟨#[]⟩], []⟩).memory Tryz.f6.params.toList Rows.jsonMembersSpec.vars false (#[.agg #[.int .i64 0, .int .i64 0, .string ⟨#[]⟩, .slice none 0 0, .slice none 0 0], .agg #[.int .i64 0, .int .i64 0, .string ⟨#[]⟩, .slice none 0 0, .slice none 0 0], .string ⟨#[]⟩]).toList 8 = some ([.agg [.lit (.int .i64 0), .lit (.int .i64 0), .lit (.string []), .nil, .nil], .agg [.lit (.int .i64 0), .lit (.int .i64 0), .lit (.string []), .nil, .nil], .lit (.string [])], [], places) := ⟨[], by kernel_rfl⟩
  refine returnsInHanded_of_row (C := Tryz.checked) (s := Rows.OpenSpec.upto Rows.jsonMembersSpec) Tryz.own started (by kernel_rfl) Tryz.func6
    (witness_row_atRef (enc := enc) (C := Tryz.checked) false (start.laidWorld os) #[.agg #[.int .i64 0, .int .i64 0, .string ⟨#[]⟩, .slice none 0 0, .slice none 0 0], .agg #[.int .i64 0, .int .i64 0, .string ⟨#[]⟩, .slice none 0 0, .slice none 0 0], .string ⟨#[]⟩] rfl (by kernel_rfl) (by kernel_rfl) (by kernel_rfl)
      (OpenSpec.preRow_of_cond 8 hx (by kernel_rfl) (fun k hk => by cases hk; kernel_rfl) (by kernel_rfl) (start.laid_met os _))) ?_
  intro W base args ds gs before hval0 hW _ hk _ hL hsh _
  have hkb := hk _ rfl
  have hval : ∀ (j : Nat) t v, Tryz.f6.params[j]? = some t → args[j]? = some v → Value.okWide Tryz.prog W .any base t v := hval0
  have hW' := hW
  obtain ⟨p, q, hA0, hV, rfl, hfz, hnd⟩ := hW
  have hA : DataW.TrodAll enc Tryz.prog W 0 (fun _ => true) true Tryz.f6.params.toList args.toList ds p := hA0
  rw [Tryz.params6] at hA hval
  obtain ⟨v0, vs0, d0, ds0, p0, q0, hargs, rfl, rfl, h0, r0⟩ := trodAll_cons hA
  obtain ⟨v1, vs1, d1, ds1, p1, q1, rfl, rfl, rfl, h1, r1⟩ := trodAll_cons r0
  obtain ⟨v2, vs2, d2, ds2, p2, q2, rfl, rfl, rfl, h2, r2⟩ := trodAll_cons r1
  obtain ⟨rfl, rfl, rfl⟩ := trodAll_nil r2
  obtain rfl : args = #[v0, v1, v2] := by cases args; simp_all
  obtain ⟨rfl, rfl⟩ := trodVars_none hV
  have hbulk : Rows.uptoBulkAll [d0, d1, d2] ≤ 1048576 := by simpa [Rows.uptoSmall] using hkb
  have k0 := h0
  have k1 := h1
  have k2 := h2
  have lt0 : ∀ x ∈ p0, x.block < W.heap.size := by obtain ⟨m, hm⟩ := k0; exact DataW.trod_lt m _ _ _ hm
  have lt1 : ∀ x ∈ p1, x.block < W.heap.size := by obtain ⟨m, hm⟩ := k1; exact DataW.trod_lt m _ _ _ hm
  have lt2 : ∀ x ∈ p2, x.block < W.heap.size := by obtain ⟨m, hm⟩ := k2; exact DataW.trod_lt m _ _ _ hm
  have hlib := libAt_of hsh hL
  obtain ⟨x0, ka0, kc0, la0, lc0, rfl, hin0, hxb0⟩ := open_value (hval 0 25 v0 rfl rfl) h0
  obtain ⟨x1, ka1, kc1, la1, lc1, rfl, hin1, hxb1⟩ := open_value (hval 1 25 v1 rfl rfl) h1
  obtain ⟨s2, rfl, rfl, rfl, ws2⟩ := open_string Tryz.underlying9 (hval 2 9 v2 rfl rfl) h2
  simp only [Rows.uptoBulkAll, Rows.uptoBulk] at hbulk
  have hlen2 : s2.data.toList.length = s2.size := Array.length_toList
  clear hA0 hval0
  refine (walk x0 ka0 kc0 la0 lc0 x1 ka1 kc1 la1 lc1 s2 W hlib (by omega) (by omega) (by omega) (all_in hin0) (all_in hin1)).mono fun e W' ⟨he, bel⟩ => ?_
  subst he
  exact ⟨_, rfl, _, _, _, [], _, [], hW', trodAll_mk1 (shut_bool Tryz.underlying4 _), (trodAll_cons_mk (Below.trod Tryz.laidOut (by kernel_rfl) (of_decide_eq_true (by kernel_rfl)) k0 bel lt0) (trodAll_cons_mk (Below.trod Tryz.laidOut (by kernel_rfl) (of_decide_eq_true (by kernel_rfl)) k1 bel lt1) (trodAll_cons_mk (Below.trod Tryz.laidOut (by kernel_rfl) (of_decide_eq_true (by kernel_rfl)) k2 bel lt2) trodAll_mk0))), rfl, Below.frame bel _, fun h => by cases h⟩
theorem cA : (Rows.jsonMembersUptoRow.inPlace == Tryz.pinned.checked.prog.inPlace 6) = true := by kernel_rfl
theorem cB : (Rows.jsonMembersUptoRow.unfollowed == Tryz.pinned.checked.prog.unfollowed 6) = true := by kernel_rfl
theorem cC : (Rows.jsonMembersUptoRow.recurses == Tryz.pinned.checked.prog.recurses 6) = true := by kernel_rfl
theorem cD : (Rows.jsonMembersUptoRow.named == Tryz.pinned.checked.prog.varsNamed 6) = true := by kernel_rfl
theorem closed : joinedFacts Tryz.pinned.checked.prog 6 Tryz.f6 (Rows.OpenSpec.upto Rows.jsonMembersSpec).bare Rows.jsonMembersUptoRow = true := by
  unfold joinedFacts
  rw [cA, cB, cC, cD]
  kernel_rfl
theorem said : Rows.JsonMembersUptoSaid :=
  OpenClaim.holds_of_cond 6 Tryz.f6 rfl rfl rfl rfl rfl rfl rfl ⟨rfl, rfl, rfl, rfl, rfl⟩ rfl rfl rfl rfl rfl (by kernel_rfl) Tryz.func6 closed
    (of_decide_eq_true (by kernel_rfl)) (by unfold Func.isWrapper; first | (rw [if_pos (by decide +kernel)]; kernel_rfl) | (rw [if_neg (by decide +kernel)]; exact ⟨rfl, rfl⟩))
    (fun os started H enc _ F => by rw [OpenClaim.pre_eq_preRow]; exact lifted os started H enc F)
theorem plain (f : FuncId) (fn : Func) (hf : Tryz.pinned.checked.prog.funcNamed "stairwell/stairwelllaw.JsonMembers" = some f) (hfn : Tryz.pinned.checked.prog.funcs[f]? = some fn) :
    true = Tryz.pinned.checked.prog.looks [] ∧ ∀ (j : Nat) t, fn.params[j]? = some t → Tryz.pinned.checked.prog.wantsStandIn t = false := by
  obtain rfl : f = 6 := Option.some.inj ((show Tryz.prog.funcNamed "stairwell/stairwelllaw.JsonMembers" = some 6 by kernel_rfl).symm.trans hf) |>.symm
  obtain rfl : fn = Tryz.f6 := (Option.some.inj (Tryz.func6.symm.trans hfn)).symm
  refine ⟨by kernel_rfl, fun j t ht => ?_⟩
  rw [Tryz.params6] at ht
  have h : t = 25 ∨ t = 9 := by simpa using Array.mem_of_getElem? ht
  rcases h with rfl | rfl
  · exact (show Tryz.prog.wantsStandIn 25 = false by kernel_rfl)
  · exact (show Tryz.prog.wantsStandIn 9 = false by kernel_rfl)
theorem proved : Rows.JsonMembersUptoCardSaid :=
  Claim7.holds_tied_plain_at .later [] _ _ _ _ said (fun _ h => by cases h) (by kernel_rfl) (fun _ h => by cases h) jsonMembersUpto_row_tie rfl ⟨rfl, rfl⟩ (by kernel_rfl) rfl plain (by kernel_rfl)
end Go.Proofs.YtnbappeiebameaaGreatDoor.lawJsonMembers
