/- JsonPrints: for every value the law returns true (Good, Count and Print answer what the reference answers); the arguments hold together at most 1048576 values and letters; the library's listed variables as its text lays them. -/
import Derived.Test.YtnbappeiebameaaGreatDoorPkC
import Derived.Test.YtnbappeiebameaaGreatDoorLibAt
import Derived.Test.YtnbappeiebameaaGreatDoorPkL
import Derived.Test.YtnbappeiebameaaGreatDoorTextR
import Derived.Test.YtnbappeiebameaaGreatDoorRef3
import Derived.Test.YtnbappeiebameaaGreatDoorCopy
import Derived.Test.YtnbappeiebameaaGreatDoorSameR
import Derived.Test.YtnbappeiebameaaGreatDoorReadsL
import Derived.Deep.RegionHeld3
import Derived.HandedShaped
import Derived.SevenTiedAt
set_option linter.all false
namespace Go.Proofs.YtnbappeiebameaaGreatDoor.lawJsonPrints
open Go.ChangeShapes Go.WideShapes Go.ChangeAt Go.RowKit
open Go.ChangeMaps (open_string shut_string)
section
attribute [local go_sem ↓] Go.wp_at_zero Go.wp_at_succ

set_option maxHeartbeats 1000000 in
theorem countOf_any (x : V) (ka : Option Addr) (kc : Nat) (la : Option Addr) (lc : Nat) (S : Nat → Prop) (w : World) (hsz : x.size ≤ 1073741824) (hin : x.In w S ka kc la lc) :
    Calls Tryz.prog 32 #[x.val ka kc la lc] w fun e w' => e = .returned (.int .i64 x.count) ∧ Ext w w' := by
  go_enter Tryz.func32, Tryz.ntmps32
  go_wp2_with (first | (go_at_call 90; (with_reducible refine (depth_any _ x ka kc la lc S _ (Nat.le_refl _) hsz (hin.ext Xt)).mono ?_); rintro e w1 ⟨rfl, h1⟩; obtain ⟨hc1, hf1, hz1⟩ := ext_facts h1; (try simp at hz1); (try have hzA : w.heap.size < w1.heap.size := by omega); (try have hzB : w.heap.size + 1 < w1.heap.size := by omega); (try have hzC : w.heap.size + 2 < w1.heap.size := by omega); (try have hzD : w.heap.size + 3 < w1.heap.size := by omega)))
  go_ret
  exact ⟨rfl, Xt⟩
set_option maxRecDepth 100000 in
set_option maxHeartbeats 16000000 in
theorem walk (x : V) (ka0 : Option Addr) (kc0 : Nat) (la0 : Option Addr) (lc0 : Nat) (w : World) (hl : LibAt w) (hs0 : x.size ≤ 4194304) (hin0 : x.In w All ka0 kc0 la0 lc0) :
    Calls Tryz.prog 5 #[x.val ka0 kc0 la0 lc0] w fun e w' => e = .returned (.bool true) ∧ Ext w w' := by
  have Hin0 := Lib.hid hin0
  clear hin0
  obtain ⟨t, ht⟩ : ∃ t : ByteArray, (⟨(printV x).1.toArray⟩ : ByteArray) = t := ⟨_, rfl⟩
  obtain ⟨e1, he1⟩ : ∃ e, (printV x).2 = e := ⟨_, rfl⟩
  have Ht := Lib.hid ht
  have He1 := Lib.hid he1
  have Htl := Lib.hid (show t.data.toList = (printV x).1 by rw [← ht])
  have hbe : (e1 == e1) = true := by simp
  obtain ⟨fb, hfb⟩ : ∃ fb, x.fine = fb := ⟨_, rfl⟩
  have Hf := Lib.hid hfb
  have hbf : (fb == fb) = true := by simp
  obtain ⟨cn, hcn⟩ : ∃ c, x.count = c := ⟨_, rfl⟩
  have Hc := Lib.hid hcn
  have hbc : ((cn : Int) == (cn : Int)) = true := by simp
  clear ht he1 hfb hcn
  go_enter Tryz.func5, Tryz.ntmps5
  go_upto_region 1 with fail
  refine gen_world (R := fun wx => Box wx w.heap.size #[.int .i64 x.k, .int .i64 x.n, .string x.s, .slice ka0 x.keys.length kc0, .slice la0 x.l.length lc0] 25 ∧ x.In wx All ka0 kc0 la0 lc0 ∧ Ext w wx) ⟨Bxt, Hin0.out.ext Xt, Xt⟩ ?_
  clear Hin0
  rintro wa ⟨hB0, hin0, hx_wa⟩
  have Hin0 := Lib.hid hin0
  clear hin0
  have hc0 := hB0.cells; have hf0 := hB0.free; have hl0 := hB0.lt
  go_wp2_with fail
  (refine (copy_any _ x ka0 kc0 la0 lc0 All _ (Nat.le_refl _) (by omega) (Hin0.out.ext Xt)).mono ?_)
  rintro e w1 ⟨ka2, kc2, la2, lc2, rfl, hin_, h_w1⟩
  have hB0 := Box.ext h_w1 hB0
  have Hin0 := Lib.hid (V.In.ext (w' := w1) Hin0.out h_w1)
  have hx_w1 := hx_wa.trans h_w1
  clear hc0 hf0 hl0
  clear h_w1 hx_wa
  have Hin2 := Lib.hid (all_in hin_)
  clear hin_
  go_upto_region 2 with fail
  refine gen_world (R := fun wx => Box wx w.heap.size #[.int .i64 x.k, .int .i64 x.n, .string x.s, .slice ka0 x.keys.length kc0, .slice la0 x.l.length lc0] 25 ∧ x.In wx All ka0 kc0 la0 lc0 ∧ Box wx w1.heap.size #[.int .i64 x.k, .int .i64 x.n, .string x.s, .slice ka2 x.keys.length kc2, .slice la2 x.l.length lc2] 25 ∧ x.In wx All ka2 kc2 la2 lc2 ∧ Ext w wx) ⟨Bxt, Hin0.out.ext Xt, Bxt, Hin2.out.ext Xt, Xt⟩ ?_
  clear hB0 Hin0 Hin2 hx_w1
  rintro wvw1 ⟨hB0, hin0, hB2, hin2, hx_wvw1⟩
  have Hin0 := Lib.hid hin0
  have Hin2 := Lib.hid hin2
  clear hin0 hin2
  have hc2 := hB2.cells; have hf2 := hB2.free; have hl2 := hB2.lt
  go_wp2_with fail
  (refine (print_any x ka2 kc2 la2 lc2 All _ (by omega) (Hin2.out.ext Xt) (hl.ext Xt)).mono ?_)
  rw [Ht.out, He1.out]
  rintro e w2 ⟨rfl, h_w2⟩
  have hB0 := Box.ext h_w2 hB0
  have Hin0 := Lib.hid (V.In.ext (w' := w2) Hin0.out h_w2)
  have hB2 := Box.ext h_w2 hB2
  have Hin2 := Lib.hid (V.In.ext (w' := w2) Hin2.out h_w2)
  have hx_w2 := hx_wvw1.trans h_w2
  clear hc2 hf2 hl2
  clear h_w2 hx_wvw1
  have hc0 := hB0.cells; have hf0 := hB0.free; have hl0 := hB0.lt
  go_wp2_with fail
  (refine (printR_any x ka0 kc0 la0 lc0 All _ (by omega) (Hin0.out.ext Xt)).mono ?_)
  rw [He1.out]
  rintro e w3 ⟨q, rfl, hq, h_w3⟩
  have hB0 := Box.ext h_w3 hB0
  have Hin0 := Lib.hid (V.In.ext (w' := w3) Hin0.out h_w3)
  have hB2 := Box.ext h_w3 hB2
  have Hin2 := Lib.hid (V.In.ext (w' := w3) Hin2.out h_w3)
  have hx_w3 := hx_w2.trans h_w3
  clear hc0 hf0 hl0
  clear h_w3 hx_w2
  have Hq := Lib.hid (show q.data.toList = t.data.toList from hq.trans Htl.out.symm)
  have hbq : (t.toList == q.toList) = true := by rw [ByteArray.toList_eq, ByteArray.toList_eq, Hq.out]; simp
  clear hq
  go_upto_region 4 with fail
  refine gen_world (R := fun wx => Box wx w.heap.size #[.int .i64 x.k, .int .i64 x.n, .string x.s, .slice ka0 x.keys.length kc0, .slice la0 x.l.length lc0] 25 ∧ x.In wx All ka0 kc0 la0 lc0 ∧ Box wx w1.heap.size #[.int .i64 x.k, .int .i64 x.n, .string x.s, .slice ka2 x.keys.length kc2, .slice la2 x.l.length lc2] 25 ∧ x.In wx All ka2 kc2 la2 lc2 ∧ Ext w wx) ⟨Bxt, Hin0.out.ext Xt, Bxt, Hin2.out.ext Xt, Xt⟩ ?_
  clear hB0 Hin0 hB2 Hin2 hx_w3
  rintro wvw3 ⟨hB0, hin0, hB2, hin2, hx_wvw3⟩
  have Hin0 := Lib.hid hin0
  have Hin2 := Lib.hid hin2
  clear hin0 hin2
  have Sof : ∀ w', Ext wvw3 w' → (w'.cell? ⟨w.heap.size, 0, none⟩ = some (.int .i64 x.k) ∧ w'.cell? ⟨w.heap.size, 1, none⟩ = some (.int .i64 x.n) ∧ w'.cell? ⟨w.heap.size, 2, none⟩ = some (.string x.s) ∧ w'.cell? ⟨w.heap.size, 3, none⟩ = some (.slice ka0 x.keys.length kc0) ∧ w'.cell? ⟨w.heap.size, 4, none⟩ = some (.slice la0 x.l.length lc0) ∧ w'.cell? ⟨w1.heap.size, 0, none⟩ = some (.int .i64 x.k) ∧ w'.cell? ⟨w1.heap.size, 1, none⟩ = some (.int .i64 x.n) ∧ w'.cell? ⟨w1.heap.size, 2, none⟩ = some (.string x.s) ∧ w'.cell? ⟨w1.heap.size, 3, none⟩ = some (.slice ka2 x.keys.length kc2) ∧ w'.cell? ⟨w1.heap.size, 4, none⟩ = some (.slice la2 x.l.length lc2)) := fun w' e => ⟨e.cell (hB0.cells 0), e.cell (hB0.cells 1), e.cell (hB0.cells 2), e.cell (hB0.cells 3), e.cell (hB0.cells 4), e.cell (hB2.cells 0), e.cell (hB2.cells 1), e.cell (hB2.cells 2), e.cell (hB2.cells 3), e.cell (hB2.cells 4)⟩
  refine wp_region_held_drew (S := fun w' => w'.cell? ⟨w.heap.size, 0, none⟩ = some (.int .i64 x.k) ∧ w'.cell? ⟨w.heap.size, 1, none⟩ = some (.int .i64 x.n) ∧ w'.cell? ⟨w.heap.size, 2, none⟩ = some (.string x.s) ∧ w'.cell? ⟨w.heap.size, 3, none⟩ = some (.slice ka0 x.keys.length kc0) ∧ w'.cell? ⟨w.heap.size, 4, none⟩ = some (.slice la0 x.l.length lc0) ∧ w'.cell? ⟨w1.heap.size, 0, none⟩ = some (.int .i64 x.k) ∧ w'.cell? ⟨w1.heap.size, 1, none⟩ = some (.int .i64 x.n) ∧ w'.cell? ⟨w1.heap.size, 2, none⟩ = some (.string x.s) ∧ w'.cell? ⟨w1.heap.size, 3, none⟩ = some (.slice ka2 x.keys.length kc2) ∧ w'.cell? ⟨w1.heap.size, 4, none⟩ = some (.slice la2 x.l.length lc2)) (by kernel_rfl) (Sof _ Xt) (fun hHeld => ?_)
  (refine wpAnyH_take (i := 0) (v := ?_) (Array.getElem?_eq_getElem (by decide)) (by kernel_rfl) (by kernel_rfl) (by kernel_rfl) (fun _ _ _ h => h) (Or.inl ⟨by kernel_rfl, ?_⟩) (by assumption) ?_); rotate_left; (focus (intro w hSw; (try dsimp only at hSw); (try simp only [rl]); go_simp; (try with_reducible rfl))); (try simp only [rl])
  (refine wpAnyH_take (i := 1) (v := ?_) (Array.getElem?_eq_getElem (by decide)) (by kernel_rfl) (by kernel_rfl) (by kernel_rfl) (fun _ _ _ h => h) (Or.inl ⟨by kernel_rfl, ?_⟩) (by assumption) ?_); rotate_left; (focus (intro w hSw; (try dsimp only at hSw); (try simp only [rl]); go_simp; (try with_reducible rfl))); (try simp only [rl])
  (refine wpAnyH_take (i := 2) (v := ?_) (Array.getElem?_eq_getElem (by decide)) (by kernel_rfl) (by kernel_rfl) (by kernel_rfl) (fun _ _ _ h => h) (Or.inl ⟨by kernel_rfl, ?_⟩) (by assumption) ?_); rotate_left; (focus (intro w hSw; (try dsimp only at hSw); (try simp only [rl]); go_simp; (try with_reducible rfl))); (try simp only [rl])
  (refine wpAnyH_take (i := 3) (v := ?_) (Array.getElem?_eq_getElem (by decide)) (by kernel_rfl) (by kernel_rfl) (by kernel_rfl) (fun _ _ _ h => h) (Or.inl ⟨by kernel_rfl, ?_⟩) (by assumption) ?_); rotate_left; (focus (intro w hSw; (try dsimp only at hSw); (try simp only [rl]); go_simp; (try with_reducible rfl))); (try simp only [rl])
  (refine wpAnyH_take (i := 4) (v := ?_) (Array.getElem?_eq_getElem (by decide)) (by kernel_rfl) (by kernel_rfl) (by kernel_rfl) (fun _ _ _ h => h) (Or.inl ⟨by kernel_rfl, ?_⟩) (by assumption) ?_); rotate_left; (focus (intro w hSw; (try dsimp only at hSw); (try simp only [rl]); go_simp; (try with_reducible rfl))); (try simp only [rl])
  (refine wpAnyH_take (i := 5) (v := ?_) (Array.getElem?_eq_getElem (by decide)) (by kernel_rfl) (by kernel_rfl) (by kernel_rfl) (fun _ _ _ h => h) (Or.inl ⟨by kernel_rfl, ?_⟩) (by assumption) ?_); rotate_left; (focus (intro w hSw; (try dsimp only at hSw); (try simp only [rl]); go_simp; (try with_reducible rfl))); (try simp only [rl])
  (refine wpAnyH_take (i := 6) (v := ?_) (Array.getElem?_eq_getElem (by decide)) (by kernel_rfl) (by kernel_rfl) (by kernel_rfl) (fun _ _ _ h => h) (Or.inl ⟨by kernel_rfl, ?_⟩) (by assumption) ?_); rotate_left; (focus (intro w hSw; (try dsimp only at hSw); (try simp only [rl]); go_simp; (try with_reducible rfl))); (try simp only [rl])
  (refine wpAnyH_take (i := 7) (v := ?_) (Array.getElem?_eq_getElem (by decide)) (by kernel_rfl) (by kernel_rfl) (by kernel_rfl) (fun _ _ _ h => h) (Or.inl ⟨by kernel_rfl, ?_⟩) (by assumption) ?_); rotate_left; (focus (intro w hSw; (try dsimp only at hSw); (try simp only [rl]); go_simp; (try with_reducible rfl))); (try simp only [rl])
  (refine wpAnyH_take (i := 8) (v := ?_) (Array.getElem?_eq_getElem (by decide)) (by kernel_rfl) (by kernel_rfl) (by kernel_rfl) (fun _ _ _ h => h) (Or.inl ⟨by kernel_rfl, ?_⟩) (by assumption) ?_); rotate_left; (focus (intro w hSw; (try dsimp only at hSw); (try simp only [rl]); go_simp; (try with_reducible rfl))); (try simp only [rl])
  (refine wpAnyH_take (i := 9) (v := ?_) (Array.getElem?_eq_getElem (by decide)) (by kernel_rfl) (by kernel_rfl) (by kernel_rfl) (fun _ _ _ h => h) (Or.inl ⟨by kernel_rfl, ?_⟩) (by assumption) ?_); rotate_left; (focus (intro w hSw; (try dsimp only at hSw); (try simp only [rl]); go_simp; (try with_reducible rfl))); (try simp only [rl])
  (refine wpAnyH_take (i := 11) (v := ?_) (Array.getElem?_eq_getElem (by decide)) (by kernel_rfl) (by kernel_rfl) (by kernel_rfl) (fun _ _ _ h => h) (Or.inl ⟨by kernel_rfl, ?_⟩) (by assumption) ?_); rotate_left; (focus (intro w hSw; (try dsimp only at hSw); (try simp only [rl]); go_simp; (try with_reducible rfl))); (try simp only [rl])
  (refine wpAnyH_ready (rs := [10]) (by kernel_rfl) (by simp) ?_); (refine AllReadyH.cons (Array.getElem?_eq_getElem (by decide)) (fun K hK => ?_) AllReadyH.nil); (try simp only [rl])
  (try go_simp)
  (refine (fine_any x ka2 kc2 la2 lc2 All _ (by omega) (Hin2.out.ext Xt)).mono ?_)
  rw [Hf.out]
  rintro e w4 ⟨rfl, hx4⟩
  (try go_simp)
  refine hK.out _ _ (Sof _ Xt) (fun hHeld => ?_)
  clear hK K
  (try simp only [rl])
  (refine wpAnyH_ready (rs := [12]) (by kernel_rfl) (by simp) ?_); (refine AllReadyH.cons (Array.getElem?_eq_getElem (by decide)) (fun K hK => ?_) AllReadyH.nil); (try simp only [rl])
  (try go_simp)
  (refine (goodValue_any x ka0 kc0 la0 lc0 All _ (by omega) (Hin0.out.ext Xt)).mono ?_)
  rw [Hf.out]
  rintro e w5 ⟨rfl, hx5⟩
  (try go_simp)
  refine hK.out _ _ (Sof _ Xt) (fun hHeld => ?_)
  clear hK K
  (try simp only [rl])
  (refine wpAnyH_take (i := 13) (v := ?_) (Array.getElem?_eq_getElem (by decide)) (by kernel_rfl) (by kernel_rfl) (by kernel_rfl) (fun _ _ _ h => h) (Or.inl ⟨by kernel_rfl, ?_⟩) (by assumption) ?_); rotate_left; (focus (intro w hSw; (try dsimp only at hSw); (try simp only [rl]); go_simp; (try with_reducible rfl))); (try simp only [rl])
  (refine wpAnyH_take (i := 14) (v := ?_) (Array.getElem?_eq_getElem (by decide)) (by kernel_rfl) (by kernel_rfl) (by kernel_rfl) (fun _ _ _ h => h) (Or.inl ⟨by kernel_rfl, ?_⟩) (by assumption) ?_); rotate_left; (focus (intro w hSw; (try dsimp only at hSw); (try simp only [rl]); go_simp; (try with_reducible rfl))); (try simp only [rl])
  (refine wpAnyH_take (i := 15) (v := ?_) (Array.getElem?_eq_getElem (by decide)) (by kernel_rfl) (by kernel_rfl) (by kernel_rfl) (fun _ _ _ h => h) (Or.inl ⟨by kernel_rfl, ?_⟩) (by assumption) ?_); rotate_left; (focus (intro w hSw; (try dsimp only at hSw); (try simp only [rl]); go_simp; (try with_reducible rfl))); (try simp only [rl])
  (refine wpAnyH_take (i := 16) (v := ?_) (Array.getElem?_eq_getElem (by decide)) (by kernel_rfl) (by kernel_rfl) (by kernel_rfl) (fun _ _ _ h => h) (Or.inl ⟨by kernel_rfl, ?_⟩) (by assumption) ?_); rotate_left; (focus (intro w hSw; (try dsimp only at hSw); (try simp only [rl]); go_simp; (try with_reducible rfl))); (try simp only [rl])
  (refine wpAnyH_take (i := 18) (v := ?_) (Array.getElem?_eq_getElem (by decide)) (by kernel_rfl) (by kernel_rfl) (by kernel_rfl) (fun _ _ _ h => h) (Or.inl ⟨by kernel_rfl, ?_⟩) (by assumption) ?_); rotate_left; (focus (intro w hSw; (try dsimp only at hSw); (try simp only [rl]); go_simp; (try with_reducible rfl))); (try simp only [rl])
  (refine wpAnyH_ready (rs := [17]) (by kernel_rfl) (by simp) ?_); (refine AllReadyH.cons (Array.getElem?_eq_getElem (by decide)) (fun K hK => ?_) AllReadyH.nil); (try simp only [rl])
  (try go_simp)
  (refine (count_any _ x ka2 kc2 la2 lc2 All _ (Nat.le_refl _) (by omega) (Hin2.out.ext Xt)).mono ?_)
  rw [Hc.out]
  rintro e w6 ⟨rfl, hx6⟩
  (try go_simp)
  refine hK.out _ _ (Sof _ Xt) (fun hHeld => ?_)
  clear hK K
  (try simp only [rl])
  (refine wpAnyH_ready (rs := [19]) (by kernel_rfl) (by simp) ?_); (refine AllReadyH.cons (Array.getElem?_eq_getElem (by decide)) (fun K hK => ?_) AllReadyH.nil); (try simp only [rl])
  (try go_simp)
  (refine (countOf_any x ka0 kc0 la0 lc0 All _ (by omega) (Hin0.out.ext Xt)).mono ?_)
  rw [Hc.out]
  rintro e w7 ⟨rfl, hx7⟩
  (try go_simp)
  refine hK.out _ _ (Sof _ Xt) (fun hHeld => ?_)
  clear hK K
  (try simp only [rl])
  (refine wpAnyH_take (i := 20) (v := ?_) (Array.getElem?_eq_getElem (by decide)) (by kernel_rfl) (by kernel_rfl) (by kernel_rfl) (fun _ _ _ h => h) (Or.inl ⟨by kernel_rfl, ?_⟩) (by assumption) ?_); rotate_left; (focus (intro w hSw; (try dsimp only at hSw); (try simp only [rl]); go_simp; (try with_reducible rfl))); (try simp only [rl])
  (refine wpAnyH_take (i := 21) (v := ?_) (Array.getElem?_eq_getElem (by decide)) (by kernel_rfl) (by kernel_rfl) (by kernel_rfl) (fun _ _ _ h => h) (Or.inl ⟨by kernel_rfl, ?_⟩) (by assumption) ?_); rotate_left; (focus (intro w hSw; (try dsimp only at hSw); (try simp only [rl]); go_simp; (try with_reducible rfl))); (try simp only [rl])
  (refine wpAnyH_take (i := 22) (v := ?_) (Array.getElem?_eq_getElem (by decide)) (by kernel_rfl) (by kernel_rfl) (by kernel_rfl) (fun _ _ _ h => h) (Or.inl ⟨by kernel_rfl, ?_⟩) (by assumption) ?_); rotate_left; (focus (intro w hSw; (try dsimp only at hSw); (try simp only [rl]); go_simp; (try with_reducible rfl))); (try simp only [rl])
  (refine wpAnyH_take (i := 23) (v := ?_) (Array.getElem?_eq_getElem (by decide)) (by kernel_rfl) (by kernel_rfl) (by kernel_rfl) (fun _ _ _ h => h) (Or.inl ⟨by kernel_rfl, ?_⟩) (by assumption) ?_); rotate_left; (focus (intro w hSw; (try dsimp only at hSw); (try simp only [rl]); go_simp; (try with_reducible rfl))); (try simp only [rl])
  (refine wpAnyH_take (i := 24) (v := ?_) (Array.getElem?_eq_getElem (by decide)) (by kernel_rfl) (by kernel_rfl) (by kernel_rfl) (fun _ _ _ h => h) (Or.inl ⟨by kernel_rfl, ?_⟩) (by assumption) ?_); rotate_left; (focus (intro w hSw; (try dsimp only at hSw); (try simp only [rl]); go_simp; (try with_reducible rfl))); (try simp only [rl])
  (refine wpAnyH_ready (rs := [25]) (by kernel_rfl) (by simp) ?_); (refine AllReadyH.cons (Array.getElem?_eq_getElem (by decide)) (fun K hK => ?_) AllReadyH.nil); (try simp only [rl])
  (try go_simp)
  (refine (sameR_yes x x rfl (by omega) ka2 kc2 la2 lc2 ka0 kc0 la0 lc0 All All _ (Hin2.out.ext Xt) (Hin0.out.ext Xt)).mono ?_)
  rintro e w8 ⟨rfl, hx8⟩
  (try go_simp)
  refine hK.out _ _ (Sof _ Xt) (fun hHeld => ?_)
  clear hK K
  (try simp only [rl])
  (refine wpAnyH_take (i := 26) (v := ?_) (Array.getElem?_eq_getElem (by decide)) (by kernel_rfl) (by kernel_rfl) (by kernel_rfl) (fun _ _ _ h => h) (Or.inl ⟨by kernel_rfl, ?_⟩) (by assumption) ?_); rotate_left; (focus (intro w hSw; (try dsimp only at hSw); (try simp only [rl]); go_simp; (try with_reducible rfl))); (try simp only [rl])
  (refine wpAnyH_take (i := 27) (v := ?_) (Array.getElem?_eq_getElem (by decide)) (by kernel_rfl) (by kernel_rfl) (by kernel_rfl) (fun _ _ _ h => h) (Or.inl ⟨by kernel_rfl, ?_⟩) (by assumption) ?_); rotate_left; (focus (intro w hSw; (try dsimp only at hSw); (try simp only [rl]); go_simp; (try with_reducible rfl))); (try simp only [rl])
  (refine wpAnyH_ready (rs := [28]) (by kernel_rfl) (by simp) ?_); (refine AllReadyH.cons (Array.getElem?_eq_getElem (by decide)) (fun K hK => ?_) AllReadyH.nil); (try simp only [rl])
  (try go_simp)
  (refine (reads_law _ (hl.ext Xt)).mono ?_)
  rintro e w9 ⟨rfl, hx9⟩
  (try go_simp)
  refine hK.out _ _ (Sof _ Xt) (fun hHeld => ?_)
  clear hK K
  (try simp only [rl])
  (refine wpAnyH_take (i := 29) (v := ?_) (Array.getElem?_eq_getElem (by decide)) (by kernel_rfl) (by kernel_rfl) (by kernel_rfl) (fun _ _ _ h => h) (Or.inl ⟨by kernel_rfl, ?_⟩) (by assumption) ?_); rotate_left; (focus (intro w hSw; (try dsimp only at hSw); (try simp only [rl]); go_simp; (try with_reducible rfl))); (try simp only [rl])
  (refine wpAnyH_take (i := 30) (v := ?_) (Array.getElem?_eq_getElem (by decide)) (by kernel_rfl) (by kernel_rfl) (by kernel_rfl) (fun _ _ _ h => h) (Or.inl ⟨by kernel_rfl, ?_⟩) (by assumption) ?_); rotate_left; (focus (intro w hSw; (try dsimp only at hSw); (try simp only [rl]); go_simp; (try with_reducible rfl))); (try simp only [rl])
  refine wpAnyH_done (by kernel_rfl) ?_ _
  go_wp2_with fail
  go_ret
  exact ⟨rfl, Xt⟩
end
set_option maxRecDepth 100000 in
theorem lifted (os : Os) (started : os.Started) (H : Type) (enc : TypeId × Value → H) (Fi : Stop.Interp) :
    ReturnsInHanded {} Tryz.checked os 5 .any ((Rows.OpenSpec.upto Rows.jsonPrintsSpec).preRow enc Tryz.prog Tryz.f5 Rows.jsonPrintsUptoRow.domain false Rows.jsonPrintsUptoRow.laid) (((Rows.OpenSpec.upto Rows.jsonPrintsSpec).at Fi).post enc Tryz.prog Tryz.f5 false true false false) := by
  obtain ⟨places, hx⟩ : ∃ places, DataW.whole enc Tryz.prog ((start.laidWorld os).forCall (fun _ _ => 0) ⟨#[], #[.agg #[.int .i64 0, .int .i64 0, .string ⟨#[]⟩, .slice none 0 0, .slice none 0 0]], []⟩).memory Tryz.f5.params.toList Rows.jsonPrintsSpec.vars false (#[.agg #[.int .i64 0, .int .i64 0, .string ⟨#[]⟩, .slice none 0 0, .slice none 0 0]]).toList 8 = some ([.agg [.lit (.int .i64 0), .lit (.int .i64 0), .lit (.string []), .nil, .nil]], [], places) := ⟨[], by kernel_rfl⟩
  refine returnsInHanded_of_row (C := Tryz.checked) (s := Rows.OpenSpec.upto Rows.jsonPrintsSpec) Tryz.own started (by kernel_rfl) Tryz.func5
    (witness_row_atRef (enc := enc) (C := Tryz.checked) false (start.laidWorld os) #[.agg #[.int .i64 0, .int .i64 0, .string ⟨#[]⟩, .slice none 0 0, .slice none 0 0]] rfl (by kernel_rfl) (by kernel_rfl) (by kernel_rfl)
      (OpenSpec.preRow_of_cond 8 hx (by kernel_rfl) (fun k hk => by cases hk; kernel_rfl) (by kernel_rfl) (start.laid_met os _))) ?_
  intro W base args ds gs before hval0 hW _ hk _ hL hsh _
  have hkb := hk _ rfl
  have hval : ∀ (j : Nat) t v, Tryz.f5.params[j]? = some t → args[j]? = some v → Value.okWide Tryz.prog W .any base t v := hval0
  have hW' := hW
  obtain ⟨p, q, hA0, hV, rfl, hfz, hnd⟩ := hW
  have hA : DataW.TrodAll enc Tryz.prog W 0 (fun _ => true) true Tryz.f5.params.toList args.toList ds p := hA0
  rw [Tryz.params5] at hA hval
  obtain ⟨v0, vs0, d0, ds0, p0, q0, hargs, rfl, rfl, h0, r0⟩ := trodAll_cons hA
  obtain ⟨rfl, rfl, rfl⟩ := trodAll_nil r0
  obtain rfl : args = #[v0] := by cases args; simp_all
  obtain ⟨rfl, rfl⟩ := trodVars_none hV
  have hbulk : Rows.uptoBulkAll [d0] ≤ 1048576 := by simpa [Rows.uptoSmall] using hkb
  have k0 := h0
  have lt0 : ∀ x ∈ p0, x.block < W.heap.size := by obtain ⟨m, hm⟩ := k0; exact DataW.trod_lt m _ _ _ hm
  have hlib := libAt_of hsh hL
  obtain ⟨x0, ka0, kc0, la0, lc0, rfl, hin0, hxb0⟩ := open_value (hval 0 25 v0 rfl rfl) h0
  simp only [Rows.uptoBulkAll, Rows.uptoBulk] at hbulk
  clear hA0 hval0
  refine (walk x0 ka0 kc0 la0 lc0 W hlib (by omega) (all_in hin0)).mono fun e W' ⟨he, bel⟩ => ?_
  subst he
  exact ⟨_, rfl, _, _, _, [], _, [], hW', trodAll_mk1 (shut_bool Tryz.underlying4 _), (trodAll_cons_mk (Below.trod Tryz.laidOut (by kernel_rfl) (of_decide_eq_true (by kernel_rfl)) k0 bel lt0) trodAll_mk0), rfl, Below.frame bel _, fun h => by cases h⟩
theorem cA : (Rows.jsonPrintsUptoRow.inPlace == Tryz.pinned.checked.prog.inPlace 5) = true := by kernel_rfl
theorem cB : (Rows.jsonPrintsUptoRow.unfollowed == Tryz.pinned.checked.prog.unfollowed 5) = true := by kernel_rfl
theorem cC : (Rows.jsonPrintsUptoRow.recurses == Tryz.pinned.checked.prog.recurses 5) = true := by kernel_rfl
theorem cD : (Rows.jsonPrintsUptoRow.named == Tryz.pinned.checked.prog.varsNamed 5) = true := by kernel_rfl
theorem closed : joinedFacts Tryz.pinned.checked.prog 5 Tryz.f5 (Rows.OpenSpec.upto Rows.jsonPrintsSpec).bare Rows.jsonPrintsUptoRow = true := by
  unfold joinedFacts
  rw [cA, cB, cC, cD]
  kernel_rfl
theorem said : Rows.JsonPrintsUptoSaid :=
  OpenClaim.holds_of_cond 5 Tryz.f5 rfl rfl rfl rfl rfl rfl rfl ⟨rfl, rfl, rfl, rfl, rfl⟩ rfl rfl rfl rfl rfl (by kernel_rfl) Tryz.func5 closed
    (of_decide_eq_true (by kernel_rfl)) (by unfold Func.isWrapper; first | (rw [if_pos (by decide +kernel)]; kernel_rfl) | (rw [if_neg (by decide +kernel)]; exact ⟨rfl, rfl⟩))
    (fun os started H enc _ F => by rw [OpenClaim.pre_eq_preRow]; exact lifted os started H enc F)
theorem plain (f : FuncId) (fn : Func) (hf : Tryz.pinned.checked.prog.funcNamed "stairwell/stairwelllaw.JsonPrints" = some f) (hfn : Tryz.pinned.checked.prog.funcs[f]? = some fn) :
    true = Tryz.pinned.checked.prog.looks [] ∧ ∀ (j : Nat) t, fn.params[j]? = some t → Tryz.pinned.checked.prog.wantsStandIn t = false := by
  obtain rfl : f = 5 := Option.some.inj ((show Tryz.prog.funcNamed "stairwell/stairwelllaw.JsonPrints" = some 5 by kernel_rfl).symm.trans hf) |>.symm
  obtain rfl : fn = Tryz.f5 := (Option.some.inj (Tryz.func5.symm.trans hfn)).symm
  refine ⟨by kernel_rfl, fun j t ht => ?_⟩
  rw [Tryz.params5] at ht
  have h : t = 25 := by simpa using Array.mem_of_getElem? ht
  rcases h with rfl
  · exact (show Tryz.prog.wantsStandIn 25 = false by kernel_rfl)
theorem proved : Rows.JsonPrintsUptoCardSaid :=
  Claim7.holds_tied_plain_at .later [] _ _ _ _ said (fun _ h => by cases h) (by kernel_rfl) (fun _ h => by cases h) jsonPrintsUpto_row_tie rfl ⟨rfl, rfl⟩ (by kernel_rfl) rfl plain (by kernel_rfl)
end Go.Proofs.YtnbappeiebameaaGreatDoor.lawJsonPrints
