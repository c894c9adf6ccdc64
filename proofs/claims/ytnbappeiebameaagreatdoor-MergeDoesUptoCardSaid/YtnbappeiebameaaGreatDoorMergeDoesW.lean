/- MergeDoes: for all values the law returns true (Merge, Clean and Diff answer what the reference answers); the arguments hold together at most 1048576 values and letters; the library's listed variables as its text lays them. -/
import Derived.Test.YtnbappeiebameaaGreatDoorPkC
import Derived.Test.YtnbappeiebameaaGreatDoorLibAt
import Derived.Test.YtnbappeiebameaaGreatDoorMergeS
import Derived.Test.YtnbappeiebameaaGreatDoorMergeV
import Derived.Test.YtnbappeiebameaaGreatDoorDiffV
import Derived.Test.YtnbappeiebameaaGreatDoorCopy
import Derived.Test.YtnbappeiebameaaGreatDoorMergesL
import Derived.Deep.RegionHeld3
import Derived.Test.YtnbappeiebameaaGreatDoorPkA
set_option linter.all false
namespace Go.Proofs.YtnbappeiebameaaGreatDoor.lawMergeDoes
open Go.ChangeShapes Go.WideShapes Go.ChangeAt Go.RowKit
open Go.ChangeMaps (open_string shut_string)
section
attribute [local go_sem ↓] Go.wp_at_zero Go.wp_at_succ

theorem meet2 {P : Prop} (G : Nat → Option Addr → Nat → Option Addr → Nat → Option Addr → Nat → Option Addr → Nat → Option Addr → Nat → Option Addr → Nat → World → Prop) (H : Nat → Option Addr → Nat → Option Addr → Nat → World → Prop)
    (reg : (∀ b5 a1 c1 a2 c2 a3 c3 a4 c4 a5 c5 a6 c6 w, H b5 a5 c5 a6 c6 w → G b5 a1 c1 a2 c2 a3 c3 a4 c4 a5 c5 a6 c6 w) → P)
    (rest : ∀ b5 a1 c1 a2 c2 a3 c3 a4 c4 a5 c5 a6 c6 w, H b5 a5 c5 a6 c6 w → G b5 a1 c1 a2 c2 a3 c3 a4 c4 a5 c5 a6 c6 w) : P := reg rest
theorem in_old {w : World} {S : Nat → Prop} {x : V} {ka : Option Addr} {kc : Nat} {la : Option Addr} {lc : Nat} (h : x.In w S ka kc la lc) : x.In w (fun q => q < w.heap.size) ka kc la lc := h.mono fun _ _ hl => hl
theorem merge_size (x y : V) (hx : x.size ≤ 4194304) : (mergeV x y).1.size ≤ 4194304 := by
  by_cases h : (mergeV x y).2 = 0
  · obtain ⟨h1, h2, -, h4⟩ := merge_ok h
    have := mrg_size h2 h1
    rw [h4]; simp only; omega
  · rw [merge_bad h]; exact hx
theorem diff_size (x y : V) : (diffV x y).1.size ≤ 4194304 := by
  by_cases h : (diffV x y).2 = 0
  · obtain ⟨h1, h2, -, -, h4⟩ := diff_ok h
    have := dif_size h2 h1
    rw [h4]; simp only; omega
  · rw [diff_bad h]; decide +kernel
set_option maxRecDepth 100000 in
set_option maxHeartbeats 16000000 in
theorem walk (x : V) (ka0 : Option Addr) (kc0 : Nat) (la0 : Option Addr) (lc0 : Nat) (y : V) (ka1 : Option Addr) (kc1 : Nat) (la1 : Option Addr) (lc1 : Nat) (w : World) (hl : LibAt w) (hs0 : x.size ≤ 4194304) (hs1 : y.size ≤ 4194304) (hin0 : x.In w All ka0 kc0 la0 lc0) (hin1 : y.In w All ka1 kc1 la1 lc1) :
    Calls Tryz.prog 10 #[x.val ka0 kc0 la0 lc0, y.val ka1 kc1 la1 lc1] w fun e w' => e = .returned (.bool true) ∧ Ext w w' := by
  have Hin0 := Lib.hid (in_old hin0)
  have Hin1 := Lib.hid (in_old hin1)
  clear hin0 hin1
  have hus := merge_size x y hs0
  have hds := diff_size x y
  obtain ⟨u, hu⟩ : ∃ u, (mergeV x y).1 = u := ⟨_, rfl⟩
  obtain ⟨e1, he1⟩ : ∃ e, (mergeV x y).2 = e := ⟨_, rfl⟩
  obtain ⟨d, hd⟩ : ∃ d, (diffV x y).1 = d := ⟨_, rfl⟩
  obtain ⟨e2, he2⟩ : ∃ e, (diffV x y).2 = e := ⟨_, rfl⟩
  obtain ⟨cl, hcl⟩ : ∃ c, x.clean = c := ⟨_, rfl⟩
  rw [hu] at hus
  rw [hd] at hds
  have Hm := Lib.hid (show (mergeV x y).1 = u ∧ (mergeV x y).2 = e1 from ⟨hu, he1⟩)
  have Hd := Lib.hid (show (diffV x y).1 = d ∧ (diffV x y).2 = e2 from ⟨hd, he2⟩)
  have Hcl := Lib.hid hcl
  clear hu he1 hd he2 hcl
  go_enter Tryz.func10, Tryz.ntmps10
  go_upto_region 1 with fail
  refine gen_world (R := fun wx => Box wx w.heap.size #[.int .i64 x.k, .int .i64 x.n, .string x.s, .slice ka0 x.keys.length kc0, .slice la0 x.l.length lc0] 25 ∧ Box wx (w.heap.size + 1) #[.int .i64 y.k, .int .i64 y.n, .string y.s, .slice ka1 y.keys.length kc1, .slice la1 y.l.length lc1] 25 ∧ Ext w wx) ⟨Bxt, Bxt, Xt⟩ ?_
  rintro wa ⟨hB0, hB1, hxa⟩
  have hz1 := hB1.lt
  refine meet2 ?G (fun b5 a5 c5 a6 c6 wy => Box wy b5 #[.int .i64 u.k, .int .i64 u.n, .string u.s, .slice a5 u.keys.length c5, .slice a6 u.l.length c6] 25 ∧ u.In wy All a5 c5 a6 c6 ∧ Box wy w.heap.size #[.int .i64 x.k, .int .i64 x.n, .string x.s, .slice ka0 x.keys.length kc0, .slice la0 x.l.length lc0] 25 ∧ Box wy (w.heap.size + 1) #[.int .i64 y.k, .int .i64 y.n, .string y.s, .slice ka1 y.keys.length kc1, .slice la1 y.l.length lc1] 25 ∧ Ext w wy ∧ w.heap.size + 2 ≤ b5) (fun cont => ?reg) ?rest
  case reg =>
    have Sof : ∀ w', Ext wa w' → (w'.cell? ⟨w.heap.size, 0, none⟩ = some (.int .i64 x.k) ∧ w'.cell? ⟨w.heap.size, 1, none⟩ = some (.int .i64 x.n) ∧ w'.cell? ⟨w.heap.size, 2, none⟩ = some (.string x.s) ∧ w'.cell? ⟨w.heap.size, 3, none⟩ = some (.slice ka0 x.keys.length kc0) ∧ w'.cell? ⟨w.heap.size, 4, none⟩ = some (.slice la0 x.l.length lc0) ∧ w'.cell? ⟨w.heap.size + 1, 0, none⟩ = some (.int .i64 y.k) ∧ w'.cell? ⟨w.heap.size + 1, 1, none⟩ = some (.int .i64 y.n) ∧ w'.cell? ⟨w.heap.size + 1, 2, none⟩ = some (.string y.s) ∧ w'.cell? ⟨w.heap.size + 1, 3, none⟩ = some (.slice ka1 y.keys.length kc1) ∧ w'.cell? ⟨w.heap.size + 1, 4, none⟩ = some (.slice la1 y.l.length lc1)) := fun w' e => ⟨e.cell (hB0.cells 0), e.cell (hB0.cells 1), e.cell (hB0.cells 2), e.cell (hB0.cells 3), e.cell (hB0.cells 4), e.cell (hB1.cells 0), e.cell (hB1.cells 1), e.cell (hB1.cells 2), e.cell (hB1.cells 3), e.cell (hB1.cells 4)⟩
    refine wp_region_till (S := fun w' => w'.cell? ⟨w.heap.size, 0, none⟩ = some (.int .i64 x.k) ∧ w'.cell? ⟨w.heap.size, 1, none⟩ = some (.int .i64 x.n) ∧ w'.cell? ⟨w.heap.size, 2, none⟩ = some (.string x.s) ∧ w'.cell? ⟨w.heap.size, 3, none⟩ = some (.slice ka0 x.keys.length kc0) ∧ w'.cell? ⟨w.heap.size, 4, none⟩ = some (.slice la0 x.l.length lc0) ∧ w'.cell? ⟨w.heap.size + 1, 0, none⟩ = some (.int .i64 y.k) ∧ w'.cell? ⟨w.heap.size + 1, 1, none⟩ = some (.int .i64 y.n) ∧ w'.cell? ⟨w.heap.size + 1, 2, none⟩ = some (.string y.s) ∧ w'.cell? ⟨w.heap.size + 1, 3, none⟩ = some (.slice ka1 y.keys.length kc1) ∧ w'.cell? ⟨w.heap.size + 1, 4, none⟩ = some (.slice la1 y.l.length lc1)) (c := 10) (by kernel_rfl) ?_
    (refine wpAnyT_take (i := 0) (v := ?_) [10] (Array.getElem?_eq_getElem (by decide)) (by kernel_rfl) (by kernel_rfl) (by kernel_rfl) (by kernel_rfl) rfl rfl (by kernel_rfl) (fun _ _ _ h => h) (Or.inl ⟨by kernel_rfl, ?_⟩) (Sof _ Xt) ?_); rotate_left; (focus (intro w hSw; (try dsimp only at hSw); (try simp only [rl]); go_simp; (try with_reducible rfl))); (try simp only [rl])
    (refine wpAnyT_take (i := 2) (v := ?_) [10] (Array.getElem?_eq_getElem (by decide)) (by kernel_rfl) (by kernel_rfl) (by kernel_rfl) (by kernel_rfl) rfl rfl (by kernel_rfl) (fun _ _ _ h => h) (Or.inl ⟨by kernel_rfl, ?_⟩) (Sof _ Xt) ?_); rotate_left; (focus (intro w hSw; (try dsimp only at hSw); (try simp only [rl]); go_simp; (try with_reducible rfl))); (try simp only [rl])
    refine wpAnyT_ready (rs := [1, 8]) (by kernel_rfl) (by simp) ?_
    refine AllReadyT.cons (Array.getElem?_eq_getElem (by decide)) (fun K hK => ?_) (AllReadyT.cons (Array.getElem?_eq_getElem (by decide)) (fun K hK => ?_) AllReadyT.nil)
    rotate_left
    · (try simp only [rl])
      (try go_simp)
      refine hK.out _ _ (fun _ => Sof _ Xt) ?_; clear hK K; (try simp only [rl])
      (refine wpAnyT_one (i := 1) (by kernel_rfl) (Array.getElem?_eq_getElem (by decide)) fun K hK => ?_); (try simp only [rl])
      (try go_simp)
      (refine (copy_any _ x ka0 kc0 la0 lc0 (fun q => q < w.heap.size) _ (Nat.le_refl _) (by omega) (Hin0.out.ext Xt)).mono ?_)
      rintro e w1 ⟨ka2, kc2, la2, lc2, rfl, hin_, h_⟩
      have hBu := Box.ext h_ (show Box _ (wa.heap.size) #[.int .i64 0, .int .i64 0, .string ⟨#[]⟩, .slice none 0 0, .slice none 0 0] 25 from Bxt)
      have hbul := hBu.lt
      have Hin2 := Lib.hid (show x.In w1 (fun q => q ≠ wa.heap.size) ka2 kc2 la2 lc2 from hin_.mono fun q h _ => by rcases h with h | h; exact h.elim; (try simp at h); omega)
      have hy2 : Ext wa w1 := Xt
      have hzz2 := hy2.size
      clear hin_ h_
      (try go_simp)
      refine hK.out _ _ (fun _ => Sof _ Xt) ?_; clear hK K; (try simp only [rl])
      (refine wpAnyT_one (i := 3) (by kernel_rfl) (Array.getElem?_eq_getElem (by decide)) fun K hK => ?_); (try simp only [rl])
      (try go_simp)
      (refine (copy_any _ y ka1 kc1 la1 lc1 (fun q => q < w.heap.size) _ (Nat.le_refl _) (by omega) (Hin1.out.ext Xt)).mono ?_)
      rintro e w2 ⟨ka3, kc3, la3, lc3, rfl, hin_, h_⟩
      have hBu := Box.ext h_ (show Box _ (wa.heap.size) #[.int .i64 0, .int .i64 0, .string ⟨#[]⟩, .slice none 0 0, .slice none 0 0] 25 from Bxt)
      have hbul := hBu.lt
      have Hin3 := Lib.hid (show y.In w2 (fun q => q ≠ wa.heap.size) ka3 kc3 la3 lc3 from hin_.mono fun q h _ => by rcases h with h | h; exact h.elim; (try simp at h); omega)
      have Hin2 := Lib.hid (Hin2.out.ext (show Ext w1 w2 from Xt))
      have hy3 : Ext wa w2 := Xt
      have hzz3 := hy3.size
      clear hin_ h_
      (try go_simp)
      refine hK.out _ _ (fun _ => Sof _ Xt) ?_; clear hK K; (try simp only [rl])
      (refine wpAnyT_one (i := 4) (by kernel_rfl) (Array.getElem?_eq_getElem (by decide)) fun K hK => ?_); (try simp only [rl])
      (try go_simp)
      (refine (mergeS_any x ka2 kc2 la2 lc2 y ka3 kc3 la3 lc3 (fun q => q ≠ wa.heap.size) _ (by omega) (by omega) (Hin2.out.ext Xt) (Hin3.out.ext Xt)).mono ?_)
      rw [Hm.out.1, Hm.out.2]
      rintro e w3 ⟨ka5, kc5, la5, lc5, rfl, hin_, h_⟩
      have hBu := Box.ext h_ (show Box _ (wa.heap.size) #[.int .i64 0, .int .i64 0, .string ⟨#[]⟩, .slice none 0 0, .slice none 0 0] 25 from Bxt)
      have hbul := hBu.lt
      have Hin5 := Lib.hid (show u.In w3 (fun q => q ≠ wa.heap.size) ka5 kc5 la5 lc5 from hin_.mono fun q h _ => by rcases h with h | h; exact h; (try simp at h); omega)
      have hy5 : Ext wa w3 := Xt
      have hzz5 := hy5.size
      have hB0 := Box.ext hy5 hB0
      have hB1 := Box.ext hy5 hB1
      have hx3 := hxa.trans hy5
      clear hin_ h_
      (try go_simp)
      refine hK.out _ _ (fun _ => Sof _ Xt) ?_; clear hK K; (try simp only [rl])
      (refine wpAnyT_take (i := 5) (v := ?_) [10] (Array.getElem?_eq_getElem (by decide)) (by kernel_rfl) (by kernel_rfl) (by kernel_rfl) (by kernel_rfl) rfl rfl (by kernel_rfl) (fun _ _ _ h => h) (Or.inl ⟨by kernel_rfl, ?_⟩) (Sof _ Xt) ?_); rotate_left; (focus (intro w hSw; (try dsimp only at hSw); (try simp only [rl]); go_simp; (try with_reducible rfl))); (try simp only [rl])
      (refine wpAnyT_take (i := 6) (v := ?_) [10] (Array.getElem?_eq_getElem (by decide)) (by kernel_rfl) (by kernel_rfl) (by kernel_rfl) (by kernel_rfl) rfl rfl (by kernel_rfl) (fun _ _ _ h => h) (Or.inl ⟨by kernel_rfl, ?_⟩) (Sof _ Xt) ?_); rotate_left; (focus (intro w hSw; (try dsimp only at hSw); (try simp only [rl]); go_simp; (try with_reducible rfl))); (try simp only [rl])
      (refine wpAnyT_take (i := 7) (v := ?_) [10] (Array.getElem?_eq_getElem (by decide)) (by kernel_rfl) (by kernel_rfl) (by kernel_rfl) (by kernel_rfl) rfl rfl (by kernel_rfl) (fun _ _ _ h => h) (Or.inl ⟨by kernel_rfl, ?_⟩) (Sof _ Xt) ?_); rotate_left; (focus (intro w hSw; (try dsimp only at hSw); (try simp only [rl]); go_simp; (try with_reducible rfl))); (try simp only [rl])
      have hcu := hBu.cells; have hfu := hBu.free; have hlu := hBu.lt
      (refine wpAnyT_one (i := 9) (by kernel_rfl) (Array.getElem?_eq_getElem (by decide)) fun K hK => ?_); (try simp only [rl])
      go_simp
      refine hK.out _ _ (fun _ => Sof _ Xt) ?_; clear hK K; (try simp only [rl])
      (refine wpAnyT_one (i := 10) (by kernel_rfl) (Array.getElem?_eq_getElem (by decide)) fun K hK => ?_); (try simp only [rl])
      go_simp
      (refine hK.out _ _ (fun h => Bool.noConfusion (show true = false from h)) ?_); clear hK K; (try simp only [rl])
      refine wpAnyT_done (by kernel_rfl) ?_ _
      obtain ⟨wy, hwy⟩ : ∃ wy, (((((w3.setCell ⟨wa.heap.size, 0, none⟩ (Value.int .i64 u.k)).setCell ⟨wa.heap.size, 1, none⟩ (Value.int .i64 u.n)).setCell ⟨wa.heap.size, 2, none⟩ (Value.string u.s)).setCell ⟨wa.heap.size, 3, none⟩ (Value.slice ka5 u.keys.length kc5)).setCell ⟨wa.heap.size, 4, none⟩ (Value.slice la5 u.l.length lc5)) = wy := ⟨_, rfl⟩
      have HP := Lib.hid (show Box wy (wa.heap.size) #[.int .i64 u.k, .int .i64 u.n, .string u.s, .slice ka5 u.keys.length kc5, .slice la5 u.l.length lc5] 25 ∧ u.In wy All ka5 kc5 la5 lc5 ∧ Box wy w.heap.size #[.int .i64 x.k, .int .i64 x.n, .string x.s, .slice ka0 x.keys.length kc0, .slice la0 x.l.length lc0] 25 ∧ Box wy (w.heap.size + 1) #[.int .i64 y.k, .int .i64 y.n, .string y.s, .slice ka1 y.keys.length kc1, .slice la1 y.l.length lc1] 25 ∧ Ext w wy ∧ w.heap.size + 2 ≤ wa.heap.size by
        rw [← hwy]
        exact ⟨Box.to (((((hBu.set 0 (.int .i64 u.k)).set 1 (.int .i64 u.n)).set 2 (.string u.s)).set 3 (.slice ka5 u.keys.length kc5)).set 4 (.slice la5 u.l.length lc5)) (by simp), Hin5.out.keep (Held.kept (Held.mono (a := w3) (S := fun q => q ≠ wa.heap.size) Hxt (fun q h => h))) (fun _ _ _ => trivial), Bxt, Bxt, Xt, by omega⟩)
      rw [hwy]
      clear hwy
      have HP2 := HP.out
      clear HP
      generalize wa.heap.size = b5 at HP2 ⊢
      exact cont b5 ka2 kc2 la2 lc2 ka3 kc3 la3 lc3 ka5 kc5 la5 lc5 wy HP2
    · (try simp only [rl])
      (try go_simp)
      (refine (copy_any _ x ka0 kc0 la0 lc0 (fun q => q < w.heap.size) _ (Nat.le_refl _) (by omega) (Hin0.out.ext Xt)).mono ?_)
      rintro e w1 ⟨ka2, kc2, la2, lc2, rfl, hin_, h_⟩
      have Hin2 := Lib.hid (in_old hin_)
      have hy2 : Ext wa w1 := Xt
      have hzz2 := hy2.size
      clear hin_ h_
      (try go_simp)
      refine hK.out _ _ (fun _ => Sof _ Xt) ?_; clear hK K; (try simp only [rl])
      refine wpAnyT_ready (rs := [3, 8]) (by kernel_rfl) (by simp) ?_
      refine AllReadyT.cons (Array.getElem?_eq_getElem (by decide)) (fun K hK => ?_) (AllReadyT.cons (Array.getElem?_eq_getElem (by decide)) (fun K hK => ?_) AllReadyT.nil)
      rotate_left
      · (try simp only [rl])
        (try go_simp)
        refine hK.out _ _ (fun _ => Sof _ Xt) ?_; clear hK K; (try simp only [rl])
        have Hin2 := Lib.hid (Hin2.out.mono (T := fun q => q ≠ w1.heap.size) fun q _ hl => Nat.ne_of_lt hl)
        (refine wpAnyT_one (i := 3) (by kernel_rfl) (Array.getElem?_eq_getElem (by decide)) fun K hK => ?_); (try simp only [rl])
        (try go_simp)
        (refine (copy_any _ y ka1 kc1 la1 lc1 (fun q => q < w.heap.size) _ (Nat.le_refl _) (by omega) (Hin1.out.ext Xt)).mono ?_)
        rintro e w2 ⟨ka3, kc3, la3, lc3, rfl, hin_, h_⟩
        have hBu := Box.ext h_ (show Box _ (w1.heap.size) #[.int .i64 0, .int .i64 0, .string ⟨#[]⟩, .slice none 0 0, .slice none 0 0] 25 from Bxt)
        have hbul := hBu.lt
        have Hin3 := Lib.hid (show y.In w2 (fun q => q ≠ w1.heap.size) ka3 kc3 la3 lc3 from hin_.mono fun q h _ => by rcases h with h | h; exact h.elim; (try simp at h); omega)
        have Hin2 := Lib.hid (Hin2.out.ext (show Ext w1 w2 from Xt))
        have hy3 : Ext wa w2 := Xt
        have hzz3 := hy3.size
        clear hin_ h_
        (try go_simp)
        refine hK.out _ _ (fun _ => Sof _ Xt) ?_; clear hK K; (try simp only [rl])
        (refine wpAnyT_one (i := 4) (by kernel_rfl) (Array.getElem?_eq_getElem (by decide)) fun K hK => ?_); (try simp only [rl])
        (try go_simp)
        (refine (mergeS_any x ka2 kc2 la2 lc2 y ka3 kc3 la3 lc3 (fun q => q ≠ w1.heap.size) _ (by omega) (by omega) (Hin2.out.ext Xt) (Hin3.out.ext Xt)).mono ?_)
        rw [Hm.out.1, Hm.out.2]
        rintro e w3 ⟨ka5, kc5, la5, lc5, rfl, hin_, h_⟩
        have hBu := Box.ext h_ (show Box _ (w1.heap.size) #[.int .i64 0, .int .i64 0, .string ⟨#[]⟩, .slice none 0 0, .slice none 0 0] 25 from Bxt)
        have hbul := hBu.lt
        have Hin5 := Lib.hid (show u.In w3 (fun q => q ≠ w1.heap.size) ka5 kc5 la5 lc5 from hin_.mono fun q h _ => by rcases h with h | h; exact h; (try simp at h); omega)
        have hy5 : Ext wa w3 := Xt
        have hzz5 := hy5.size
        have hB0 := Box.ext hy5 hB0
        have hB1 := Box.ext hy5 hB1
        have hx3 := hxa.trans hy5
        clear hin_ h_
        (try go_simp)
        refine hK.out _ _ (fun _ => Sof _ Xt) ?_; clear hK K; (try simp only [rl])
        (refine wpAnyT_take (i := 5) (v := ?_) [10] (Array.getElem?_eq_getElem (by decide)) (by kernel_rfl) (by kernel_rfl) (by kernel_rfl) (by kernel_rfl) rfl rfl (by kernel_rfl) (fun _ _ _ h => h) (Or.inl ⟨by kernel_rfl, ?_⟩) (Sof _ Xt) ?_); rotate_left; (focus (intro w hSw; (try dsimp only at hSw); (try simp only [rl]); go_simp; (try with_reducible rfl))); (try simp only [rl])
        (refine wpAnyT_take (i := 6) (v := ?_) [10] (Array.getElem?_eq_getElem (by decide)) (by kernel_rfl) (by kernel_rfl) (by kernel_rfl) (by kernel_rfl) rfl rfl (by kernel_rfl) (fun _ _ _ h => h) (Or.inl ⟨by kernel_rfl, ?_⟩) (Sof _ Xt) ?_); rotate_left; (focus (intro w hSw; (try dsimp only at hSw); (try simp only [rl]); go_simp; (try with_reducible rfl))); (try simp only [rl])
        (refine wpAnyT_take (i := 7) (v := ?_) [10] (Array.getElem?_eq_getElem (by decide)) (by kernel_rfl) (by kernel_rfl) (by kernel_rfl) (by kernel_rfl) rfl rfl (by kernel_rfl) (fun _ _ _ h => h) (Or.inl ⟨by kernel_rfl, ?_⟩) (Sof _ Xt) ?_); rotate_left; (focus (intro w hSw; (try dsimp only at hSw); (try simp only [rl]); go_simp; (try with_reducible rfl))); (try simp only [rl])
        have hcu := hBu.cells; have hfu := hBu.free; have hlu := hBu.lt
        (refine wpAnyT_one (i := 9) (by kernel_rfl) (Array.getElem?_eq_getElem (by decide)) fun K hK => ?_); (try simp only [rl])
        go_simp
        refine hK.out _ _ (fun _ => Sof _ Xt) ?_; clear hK K; (try simp only [rl])
        (refine wpAnyT_one (i := 10) (by kernel_rfl) (Array.getElem?_eq_getElem (by decide)) fun K hK => ?_); (try simp only [rl])
        go_simp
        (refine hK.out _ _ (fun h => Bool.noConfusion (show true = false from h)) ?_); clear hK K; (try simp only [rl])
        refine wpAnyT_done (by kernel_rfl) ?_ _
        refine cont (w1.heap.size) ka2 kc2 la2 lc2 ka3 kc3 la3 lc3 ka5 kc5 la5 lc5 _ ⟨Box.to (((((hBu.set 0 (.int .i64 u.k)).set 1 (.int .i64 u.n)).set 2 (.string u.s)).set 3 (.slice ka5 u.keys.length kc5)).set 4 (.slice la5 u.l.length lc5)) (by simp), Hin5.out.keep (Held.kept (Held.mono (a := w3) (S := fun q => q ≠ w1.heap.size) Hxt (fun q h => h))) (fun _ _ _ => trivial), Bxt, Bxt, Xt, by (try simp); omega⟩
      · (try simp only [rl])
        (try go_simp)
        (refine (copy_any _ y ka1 kc1 la1 lc1 (fun q => q < w.heap.size) _ (Nat.le_refl _) (by omega) (Hin1.out.ext Xt)).mono ?_)
        rintro e w2 ⟨ka3, kc3, la3, lc3, rfl, hin_, h_⟩
        have Hin3 := Lib.hid (in_old hin_)
        have Hin2 := Lib.hid (Hin2.out.ext (show Ext w1 w2 from Xt))
        have hy3 : Ext wa w2 := Xt
        have hzz3 := hy3.size
        clear hin_ h_
        (try go_simp)
        refine hK.out _ _ (fun _ => Sof _ Xt) ?_; clear hK K; (try simp only [rl])
        refine wpAnyT_ready (rs := [4, 8]) (by kernel_rfl) (by simp) ?_
        refine AllReadyT.cons (Array.getElem?_eq_getElem (by decide)) (fun K hK => ?_) (AllReadyT.cons (Array.getElem?_eq_getElem (by decide)) (fun K hK => ?_) AllReadyT.nil)
        rotate_left
        · (try simp only [rl])
          (try go_simp)
          refine hK.out _ _ (fun _ => Sof _ Xt) ?_; clear hK K; (try simp only [rl])
          have Hin2 := Lib.hid (Hin2.out.mono (T := fun q => q ≠ w2.heap.size) fun q _ hl => Nat.ne_of_lt hl)
          have Hin3 := Lib.hid (Hin3.out.mono (T := fun q => q ≠ w2.heap.size) fun q _ hl => Nat.ne_of_lt hl)
          (refine wpAnyT_one (i := 4) (by kernel_rfl) (Array.getElem?_eq_getElem (by decide)) fun K hK => ?_); (try simp only [rl])
          (try go_simp)
          (refine (mergeS_any x ka2 kc2 la2 lc2 y ka3 kc3 la3 lc3 (fun q => q ≠ w2.heap.size) _ (by omega) (by omega) (Hin2.out.ext Xt) (Hin3.out.ext Xt)).mono ?_)
          rw [Hm.out.1, Hm.out.2]
          rintro e w3 ⟨ka5, kc5, la5, lc5, rfl, hin_, h_⟩
          have hBu := Box.ext h_ (show Box _ (w2.heap.size) #[.int .i64 0, .int .i64 0, .string ⟨#[]⟩, .slice none 0 0, .slice none 0 0] 25 from Bxt)
          have hbul := hBu.lt
          have Hin5 := Lib.hid (show u.In w3 (fun q => q ≠ w2.heap.size) ka5 kc5 la5 lc5 from hin_.mono fun q h _ => by rcases h with h | h; exact h; (try simp at h); omega)
          have hy5 : Ext wa w3 := Xt
          have hzz5 := hy5.size
          have hB0 := Box.ext hy5 hB0
          have hB1 := Box.ext hy5 hB1
          have hx3 := hxa.trans hy5
          clear hin_ h_
          (try go_simp)
          refine hK.out _ _ (fun _ => Sof _ Xt) ?_; clear hK K; (try simp only [rl])
          (refine wpAnyT_take (i := 5) (v := ?_) [10] (Array.getElem?_eq_getElem (by decide)) (by kernel_rfl) (by kernel_rfl) (by kernel_rfl) (by kernel_rfl) rfl rfl (by kernel_rfl) (fun _ _ _ h => h) (Or.inl ⟨by kernel_rfl, ?_⟩) (Sof _ Xt) ?_); rotate_left; (focus (intro w hSw; (try dsimp only at hSw); (try simp only [rl]); go_simp; (try with_reducible rfl))); (try simp only [rl])
          (refine wpAnyT_take (i := 6) (v := ?_) [10] (Array.getElem?_eq_getElem (by decide)) (by kernel_rfl) (by kernel_rfl) (by kernel_rfl) (by kernel_rfl) rfl rfl (by kernel_rfl) (fun _ _ _ h => h) (Or.inl ⟨by kernel_rfl, ?_⟩) (Sof _ Xt) ?_); rotate_left; (focus (intro w hSw; (try dsimp only at hSw); (try simp only [rl]); go_simp; (try with_reducible rfl))); (try simp only [rl])
          (refine wpAnyT_take (i := 7) (v := ?_) [10] (Array.getElem?_eq_getElem (by decide)) (by kernel_rfl) (by kernel_rfl) (by kernel_rfl) (by kernel_rfl) rfl rfl (by kernel_rfl) (fun _ _ _ h => h) (Or.inl ⟨by kernel_rfl, ?_⟩) (Sof _ Xt) ?_); rotate_left; (focus (intro w hSw; (try dsimp only at hSw); (try simp only [rl]); go_simp; (try with_reducible rfl))); (try simp only [rl])
          have hcu := hBu.cells; have hfu := hBu.free; have hlu := hBu.lt
          (refine wpAnyT_one (i := 9) (by kernel_rfl) (Array.getElem?_eq_getElem (by decide)) fun K hK => ?_); (try simp only [rl])
          go_simp
          refine hK.out _ _ (fun _ => Sof _ Xt) ?_; clear hK K; (try simp only [rl])
          (refine wpAnyT_one (i := 10) (by kernel_rfl) (Array.getElem?_eq_getElem (by decide)) fun K hK => ?_); (try simp only [rl])
          go_simp
          (refine hK.out _ _ (fun h => Bool.noConfusion (show true = false from h)) ?_); clear hK K; (try simp only [rl])
          refine wpAnyT_done (by kernel_rfl) ?_ _
          refine cont (w2.heap.size) ka2 kc2 la2 lc2 ka3 kc3 la3 lc3 ka5 kc5 la5 lc5 _ ⟨Box.to (((((hBu.set 0 (.int .i64 u.k)).set 1 (.int .i64 u.n)).set 2 (.string u.s)).set 3 (.slice ka5 u.keys.length kc5)).set 4 (.slice la5 u.l.length lc5)) (by simp), Hin5.out.keep (Held.kept (Held.mono (a := w3) (S := fun q => q ≠ w2.heap.size) Hxt (fun q h => h))) (fun _ _ _ => trivial), Bxt, Bxt, Xt, by (try simp); omega⟩
        · (try simp only [rl])
          (try go_simp)
          (refine (mergeS_any x ka2 kc2 la2 lc2 y ka3 kc3 la3 lc3 All _ (by omega) (by omega) ((all_in Hin2.out).ext Xt) ((all_in Hin3.out).ext Xt)).mono ?_)
          rw [Hm.out.1, Hm.out.2]
          rintro e w3 ⟨ka5, kc5, la5, lc5, rfl, hin_, h_⟩
          have Hin5 := Lib.hid (in_old hin_)
          have hy5 : Ext wa w3 := Xt
          have hzz5 := hy5.size
          have hB0 := Box.ext hy5 hB0
          have hB1 := Box.ext hy5 hB1
          have hx3 := hxa.trans hy5
          clear hin_ h_
          (try go_simp)
          refine hK.out _ _ (fun _ => Sof _ Xt) ?_; clear hK K; (try simp only [rl])
          (refine wpAnyT_take (i := 5) (v := ?_) [10] (Array.getElem?_eq_getElem (by decide)) (by kernel_rfl) (by kernel_rfl) (by kernel_rfl) (by kernel_rfl) rfl rfl (by kernel_rfl) (fun _ _ _ h => h) (Or.inl ⟨by kernel_rfl, ?_⟩) (Sof _ Xt) ?_); rotate_left; (focus (intro w hSw; (try dsimp only at hSw); (try simp only [rl]); go_simp; (try with_reducible rfl))); (try simp only [rl])
          (refine wpAnyT_take (i := 6) (v := ?_) [10] (Array.getElem?_eq_getElem (by decide)) (by kernel_rfl) (by kernel_rfl) (by kernel_rfl) (by kernel_rfl) rfl rfl (by kernel_rfl) (fun _ _ _ h => h) (Or.inl ⟨by kernel_rfl, ?_⟩) (Sof _ Xt) ?_); rotate_left; (focus (intro w hSw; (try dsimp only at hSw); (try simp only [rl]); go_simp; (try with_reducible rfl))); (try simp only [rl])
          (refine wpAnyT_take (i := 7) (v := ?_) [10] (Array.getElem?_eq_getElem (by decide)) (by kernel_rfl) (by kernel_rfl) (by kernel_rfl) (by kernel_rfl) rfl rfl (by kernel_rfl) (fun _ _ _ h => h) (Or.inl ⟨by kernel_rfl, ?_⟩) (Sof _ Xt) ?_); rotate_left; (focus (intro w hSw; (try dsimp only at hSw); (try simp only [rl]); go_simp; (try with_reducible rfl))); (try simp only [rl])
          (refine wpAnyT_one (i := 8) (by kernel_rfl) (Array.getElem?_eq_getElem (by decide)) fun K hK => ?_); (try simp only [rl])
          (try go_simp)
          refine hK.out _ _ (fun _ => Sof _ Xt) ?_; clear hK K; (try simp only [rl])
          (refine wpAnyT_one (i := 9) (by kernel_rfl) (Array.getElem?_eq_getElem (by decide)) fun K hK => ?_); (try simp only [rl])
          go_simp
          refine hK.out _ _ (fun _ => Sof _ Xt) ?_; clear hK K; (try simp only [rl])
          (refine wpAnyT_one (i := 10) (by kernel_rfl) (Array.getElem?_eq_getElem (by decide)) fun K hK => ?_); (try simp only [rl])
          go_simp
          (refine hK.out _ _ (fun h => Bool.noConfusion (show true = false from h)) ?_); clear hK K; (try simp only [rl])
          refine wpAnyT_done (by kernel_rfl) ?_ _
          refine cont (w3.heap.size) ka2 kc2 la2 lc2 ka3 kc3 la3 lc3 ka5 kc5 la5 lc5 _ ⟨Bxt, Hin5.out.keep (Held.kept (Held.mono (a := w3) (S := fun q => q ≠ w3.heap.size) Hxt (fun q h => Nat.ne_of_lt h))) (fun _ _ _ => trivial), Bxt, Bxt, Xt, by (try simp); omega⟩
  case rest =>
    rintro b5 a1 c1 a2 c2 a3 c3 a4 c4 ka5 kc5 la5 lc5 wy ⟨hB5, hin5, hB0, hB1, hxy, hb5⟩
    have Hin5 := Lib.hid hin5
    clear hin5
    have hb5l := hB5.lt
    have hc0 := hB0.cells; have hf0 := hB0.free; have hl0 := hB0.lt
    have hc1 := hB1.cells; have hf1 := hB1.free; have hl1 := hB1.lt
    go_wp2_with fail
    (refine (mergeValues_any x ka0 kc0 la0 lc0 y ka1 kc1 la1 lc1 All _ (by omega) (by omega) (all_in (Hin0.out.ext Xt)) (all_in (Hin1.out.ext Xt))).mono ?_)
    rw [Hm.out.1, Hm.out.2]
    rintro e w4 ⟨ka7, kc7, la7, lc7, rfl, hin7, h4⟩
    have hB0 := Box.ext h4 hB0
    have hB1 := Box.ext h4 hB1
    have hB5 := Box.ext h4 hB5
    have Hin5 := Lib.hid (Hin5.out.ext h4)
    have Hin7 := Lib.hid (all_in hin7)
    have hx4 := hxy.trans h4
    have hz4 := h4.size
    clear hin7 h4 hxy hc0 hf0 hl0 hc1 hf1 hl1
    go_upto_region 3 with fail
    refine gen_world (R := fun wx => Box wx w.heap.size #[.int .i64 x.k, .int .i64 x.n, .string x.s, .slice ka0 x.keys.length kc0, .slice la0 x.l.length lc0] 25 ∧ Box wx (w.heap.size + 1) #[.int .i64 y.k, .int .i64 y.n, .string y.s, .slice ka1 y.keys.length kc1, .slice la1 y.l.length lc1] 25 ∧ Box wx b5 #[.int .i64 u.k, .int .i64 u.n, .string u.s, .slice ka5 u.keys.length kc5, .slice la5 u.l.length lc5] 25 ∧ Box wx w4.heap.size #[.int .i64 u.k, .int .i64 u.n, .string u.s, .slice ka7 u.keys.length kc7, .slice la7 u.l.length lc7] 25 ∧ u.In wx All ka5 kc5 la5 lc5 ∧ u.In wx All ka7 kc7 la7 lc7 ∧ Ext w wx) ⟨Bxt, Bxt, Bxt, Bxt, Hin5.out.ext Xt, Hin7.out.ext Xt, Xt⟩ ?_
    clear hB0 hB1 hB5 Hin5 Hin7 hx4
    have hb7 : b5 < w4.heap.size := by omega
    rintro wb ⟨hB0, hB1, hB5, hB7, hin5, hin7, hxb⟩
    have Hin5 := Lib.hid hin5
    have Hin7 := Lib.hid hin7
    clear hin5 hin7
    have Sof : ∀ w', Ext wb w' → (w'.cell? ⟨b5, 0, none⟩ = some (.int .i64 u.k) ∧ w'.cell? ⟨b5, 1, none⟩ = some (.int .i64 u.n) ∧ w'.cell? ⟨b5, 2, none⟩ = some (.string u.s) ∧ w'.cell? ⟨b5, 3, none⟩ = some (.slice ka5 u.keys.length kc5) ∧ w'.cell? ⟨b5, 4, none⟩ = some (.slice la5 u.l.length lc5) ∧ w'.cell? ⟨w4.heap.size, 0, none⟩ = some (.int .i64 u.k) ∧ w'.cell? ⟨w4.heap.size, 1, none⟩ = some (.int .i64 u.n) ∧ w'.cell? ⟨w4.heap.size, 2, none⟩ = some (.string u.s) ∧ w'.cell? ⟨w4.heap.size, 3, none⟩ = some (.slice ka7 u.keys.length kc7) ∧ w'.cell? ⟨w4.heap.size, 4, none⟩ = some (.slice la7 u.l.length lc7) ∧ w'.cell? ⟨w.heap.size, 0, none⟩ = some (.int .i64 x.k) ∧ w'.cell? ⟨w.heap.size, 1, none⟩ = some (.int .i64 x.n) ∧ w'.cell? ⟨w.heap.size, 2, none⟩ = some (.string x.s) ∧ w'.cell? ⟨w.heap.size, 3, none⟩ = some (.slice ka0 x.keys.length kc0) ∧ w'.cell? ⟨w.heap.size, 4, none⟩ = some (.slice la0 x.l.length lc0)) := fun w' e => ⟨e.cell (hB5.cells 0), e.cell (hB5.cells 1), e.cell (hB5.cells 2), e.cell (hB5.cells 3), e.cell (hB5.cells 4), e.cell (hB7.cells 0), e.cell (hB7.cells 1), e.cell (hB7.cells 2), e.cell (hB7.cells 3), e.cell (hB7.cells 4), e.cell (hB0.cells 0), e.cell (hB0.cells 1), e.cell (hB0.cells 2), e.cell (hB0.cells 3), e.cell (hB0.cells 4)⟩
    refine wp_region_held_drew (S := fun w' => w'.cell? ⟨b5, 0, none⟩ = some (.int .i64 u.k) ∧ w'.cell? ⟨b5, 1, none⟩ = some (.int .i64 u.n) ∧ w'.cell? ⟨b5, 2, none⟩ = some (.string u.s) ∧ w'.cell? ⟨b5, 3, none⟩ = some (.slice ka5 u.keys.length kc5) ∧ w'.cell? ⟨b5, 4, none⟩ = some (.slice la5 u.l.length lc5) ∧ w'.cell? ⟨w4.heap.size, 0, none⟩ = some (.int .i64 u.k) ∧ w'.cell? ⟨w4.heap.size, 1, none⟩ = some (.int .i64 u.n) ∧ w'.cell? ⟨w4.heap.size, 2, none⟩ = some (.string u.s) ∧ w'.cell? ⟨w4.heap.size, 3, none⟩ = some (.slice ka7 u.keys.length kc7) ∧ w'.cell? ⟨w4.heap.size, 4, none⟩ = some (.slice la7 u.l.length lc7) ∧ w'.cell? ⟨w.heap.size, 0, none⟩ = some (.int .i64 x.k) ∧ w'.cell? ⟨w.heap.size, 1, none⟩ = some (.int .i64 x.n) ∧ w'.cell? ⟨w.heap.size, 2, none⟩ = some (.string x.s) ∧ w'.cell? ⟨w.heap.size, 3, none⟩ = some (.slice ka0 x.keys.length kc0) ∧ w'.cell? ⟨w.heap.size, 4, none⟩ = some (.slice la0 x.l.length lc0)) (by kernel_rfl) (Sof _ Xt) (fun hHeld => ?_)
    (refine wpAnyH_take (i := 0) (v := ?_) (Array.getElem?_eq_getElem (by decide)) (by kernel_rfl) (by kernel_rfl) (by kernel_rfl) (fun _ _ _ h => h) (Or.inl ⟨by kernel_rfl, ?_⟩) (by assumption) ?_); rotate_left; (focus (intro w hSw; (try dsimp only at hSw); (try simp only [rl]); go_simp; (try with_reducible rfl))); (try simp only [rl])
    (refine wpAnyH_take (i := 1) (v := ?_) (Array.getElem?_eq_getElem (by decide)) (by kernel_rfl) (by kernel_rfl) (by kernel_rfl) (fun _ _ _ h => h) (Or.inl ⟨by kernel_rfl, ?_⟩) (by assumption) ?_); rotate_left; (focus (intro w hSw; (try dsimp only at hSw); (try simp only [rl]); go_simp; (try with_reducible rfl))); (try simp only [rl])
    (refine wpAnyH_ready (rs := [2]) (by kernel_rfl) (by simp) ?_); (refine AllReadyH.cons (Array.getElem?_eq_getElem (by decide)) (fun K hK => ?_) AllReadyH.nil); (try simp only [rl])
    (try go_simp)
    (refine (sameR_yes u u rfl (by omega) ka5 kc5 la5 lc5 ka7 kc7 la7 lc7 All All _ (Hin5.out.ext Xt) (Hin7.out.ext Xt)).mono ?_)
    rintro e w5 ⟨rfl, hx5⟩
    (try go_simp)
    refine hK.out _ _ (Sof _ Xt) (fun hHeld => ?_)
    clear hK K
    (try simp only [rl])
    (refine wpAnyH_take (i := 3) (v := ?_) (Array.getElem?_eq_getElem (by decide)) (by kernel_rfl) (by kernel_rfl) (by kernel_rfl) (fun _ _ _ h => h) (Or.inl ⟨by kernel_rfl, ?_⟩) (by assumption) ?_); rotate_left; (focus (intro w hSw; (try dsimp only at hSw); (try simp only [rl]); go_simp; (try with_reducible rfl))); (try simp only [rl])
    (refine wpAnyH_take (i := 4) (v := ?_) (Array.getElem?_eq_getElem (by decide)) (by kernel_rfl) (by kernel_rfl) (by kernel_rfl) (fun _ _ _ h => h) (Or.inl ⟨by kernel_rfl, ?_⟩) (by assumption) ?_); rotate_left; (focus (intro w hSw; (try dsimp only at hSw); (try simp only [rl]); go_simp; (try with_reducible rfl))); (try simp only [rl])
    (refine wpAnyH_take (i := 5) (v := ?_) (Array.getElem?_eq_getElem (by decide)) (by kernel_rfl) (by kernel_rfl) (by kernel_rfl) (fun _ _ _ h => h) (Or.inl ⟨by kernel_rfl, ?_⟩) (by assumption) ?_); rotate_left; (focus (intro w hSw; (try dsimp only at hSw); (try simp only [rl]); go_simp; (try with_reducible rfl))); (try simp only [rl])
    (refine wpAnyH_take (i := 6) (v := ?_) (Array.getElem?_eq_getElem (by decide)) (by kernel_rfl) (by kernel_rfl) (by kernel_rfl) (fun _ _ _ h => h) (Or.inl ⟨by kernel_rfl, ?_⟩) (by assumption) ?_); rotate_left; (focus (intro w hSw; (try dsimp only at hSw); (try simp only [rl]); go_simp; (try with_reducible rfl))); (try simp only [rl])
    (refine wpAnyH_take (i := 7) (v := ?_) (Array.getElem?_eq_getElem (by decide)) (by kernel_rfl) (by kernel_rfl) (by kernel_rfl) (fun _ _ _ h => h) (Or.inl ⟨by kernel_rfl, ?_⟩) (by assumption) ?_); rotate_left; (focus (intro w hSw; (try dsimp only at hSw); (try simp only [rl]); go_simp; (try with_reducible rfl))); (try simp only [rl])
    (refine wpAnyH_take (i := 8) (v := ?_) (Array.getElem?_eq_getElem (by decide)) (by kernel_rfl) (by kernel_rfl) (by kernel_rfl) (fun _ _ _ h => h) (Or.inl ⟨by kernel_rfl, ?_⟩) (by assumption) ?_); rotate_left; (focus (intro w hSw; (try dsimp only at hSw); (try simp only [rl]); go_simp; (try with_reducible rfl))); (try simp only [rl])
    (refine wpAnyH_take (i := 9) (v := ?_) (Array.getElem?_eq_getElem (by decide)) (by kernel_rfl) (by kernel_rfl) (by kernel_rfl) (fun _ _ _ h => h) (Or.inl ⟨by kernel_rfl, ?_⟩) (by assumption) ?_); rotate_left; (focus (intro w hSw; (try dsimp only at hSw); (try simp only [rl]); go_simp; (try with_reducible rfl))); (try simp only [rl])
    (refine wpAnyH_take (i := 10) (v := ?_) (Array.getElem?_eq_getElem (by decide)) (by kernel_rfl) (by kernel_rfl) (by kernel_rfl) (fun _ _ _ h => h) (Or.inl ⟨by kernel_rfl, ?_⟩) (by assumption) ?_); rotate_left; (focus (intro w hSw; (try dsimp only at hSw); (try simp only [rl]); go_simp; (try with_reducible rfl))); (try simp only [rl])
    (refine wpAnyH_take (i := 12) (v := ?_) (Array.getElem?_eq_getElem (by decide)) (by kernel_rfl) (by kernel_rfl) (by kernel_rfl) (fun _ _ _ h => h) (Or.inl ⟨by kernel_rfl, ?_⟩) (by assumption) ?_); rotate_left; (focus (intro w hSw; (try dsimp only at hSw); (try simp only [rl]); go_simp; (try with_reducible rfl))); (try simp only [rl])
    (refine wpAnyH_ready (rs := [11]) (by kernel_rfl) (by simp) ?_); (refine AllReadyH.cons (Array.getElem?_eq_getElem (by decide)) (fun K hK => ?_) AllReadyH.nil); (try simp only [rl])
    (try go_simp)
    (refine (clean_any _ x ka0 kc0 la0 lc0 All _ (Nat.le_refl _) (by omega) (all_in (Hin0.out.ext Xt))).mono ?_)
    rw [Hcl.out]
    rintro e w6 ⟨rfl, hx6⟩
    (try go_simp)
    refine hK.out _ _ (Sof _ Xt) (fun hHeld => ?_)
    clear hK K
    (try simp only [rl])
    (refine wpAnyH_ready (rs := [13]) (by kernel_rfl) (by simp) ?_); (refine AllReadyH.cons (Array.getElem?_eq_getElem (by decide)) (fun K hK => ?_) AllReadyH.nil); (try simp only [rl])
    (try go_simp)
    (refine (isClean_any _ x ka0 kc0 la0 lc0 All _ (Nat.le_refl _) (by omega) (all_in (Hin0.out.ext Xt))).mono ?_)
    rw [Hcl.out]
    rintro e w7 ⟨rfl, hx7⟩
    (try go_simp)
    refine hK.out _ _ (Sof _ Xt) (fun hHeld => ?_)
    clear hK K
    (try simp only [rl])
    (refine wpAnyH_take (i := 14) (v := ?_) (Array.getElem?_eq_getElem (by decide)) (by kernel_rfl) (by kernel_rfl) (by kernel_rfl) (fun _ _ _ h => h) (Or.inl ⟨by kernel_rfl, ?_⟩) (by assumption) ?_); rotate_left; (focus (intro w hSw; (try dsimp only at hSw); (try simp only [rl]); go_simp; (try with_reducible rfl))); (try simp only [rl])
    (refine wpAnyH_take (i := 15) (v := ?_) (Array.getElem?_eq_getElem (by decide)) (by kernel_rfl) (by kernel_rfl) (by kernel_rfl) (fun _ _ _ h => h) (Or.inl ⟨by kernel_rfl, ?_⟩) (by assumption) ?_); rotate_left; (focus (intro w hSw; (try dsimp only at hSw); (try simp only [rl]); go_simp; (try with_reducible rfl))); (try simp only [rl])
    refine wpAnyH_done (by kernel_rfl) ?_ _
    go_upto_region 5 with fail
    refine gen_world (R := fun wx => Box wx w.heap.size #[.int .i64 x.k, .int .i64 x.n, .string x.s, .slice ka0 x.keys.length kc0, .slice la0 x.l.length lc0] 25 ∧ Box wx (w.heap.size + 1) #[.int .i64 y.k, .int .i64 y.n, .string y.s, .slice ka1 y.keys.length kc1, .slice la1 y.l.length lc1] 25 ∧ Box wx b5 #[.int .i64 u.k, .int .i64 u.n, .string u.s, .slice ka5 u.keys.length kc5, .slice la5 u.l.length lc5] 25 ∧ Box wx w4.heap.size #[.int .i64 u.k, .int .i64 u.n, .string u.s, .slice ka7 u.keys.length kc7, .slice la7 u.l.length lc7] 25 ∧ Ext w wx) ⟨Bxt, Bxt, Bxt, Bxt, Xt⟩ ?_
    clear hB0 hB1 hB5 hB7 Hin5 Hin7 hxb hx5 hx6 hx7 Sof hHeld
    rintro wc ⟨hB0, hB1, hB5, hB7, hxc⟩
    have hz7 := hB7.lt
    have Sof : ∀ w', Ext wc w' → (w'.cell? ⟨w.heap.size, 0, none⟩ = some (.int .i64 x.k) ∧ w'.cell? ⟨w.heap.size, 1, none⟩ = some (.int .i64 x.n) ∧ w'.cell? ⟨w.heap.size, 2, none⟩ = some (.string x.s) ∧ w'.cell? ⟨w.heap.size, 3, none⟩ = some (.slice ka0 x.keys.length kc0) ∧ w'.cell? ⟨w.heap.size, 4, none⟩ = some (.slice la0 x.l.length lc0) ∧ w'.cell? ⟨w.heap.size + 1, 0, none⟩ = some (.int .i64 y.k) ∧ w'.cell? ⟨w.heap.size + 1, 1, none⟩ = some (.int .i64 y.n) ∧ w'.cell? ⟨w.heap.size + 1, 2, none⟩ = some (.string y.s) ∧ w'.cell? ⟨w.heap.size + 1, 3, none⟩ = some (.slice ka1 y.keys.length kc1) ∧ w'.cell? ⟨w.heap.size + 1, 4, none⟩ = some (.slice la1 y.l.length lc1)) := fun w' e => ⟨e.cell (hB0.cells 0), e.cell (hB0.cells 1), e.cell (hB0.cells 2), e.cell (hB0.cells 3), e.cell (hB0.cells 4), e.cell (hB1.cells 0), e.cell (hB1.cells 1), e.cell (hB1.cells 2), e.cell (hB1.cells 3), e.cell (hB1.cells 4)⟩
    skip
    have Sof : ∀ w', Held (fun q => q < w.heap.size + 2) wc w' → (w'.cell? ⟨w.heap.size, 0, none⟩ = some (.int .i64 x.k) ∧ w'.cell? ⟨w.heap.size, 1, none⟩ = some (.int .i64 x.n) ∧ w'.cell? ⟨w.heap.size, 2, none⟩ = some (.string x.s) ∧ w'.cell? ⟨w.heap.size, 3, none⟩ = some (.slice ka0 x.keys.length kc0) ∧ w'.cell? ⟨w.heap.size, 4, none⟩ = some (.slice la0 x.l.length lc0) ∧ w'.cell? ⟨w.heap.size + 1, 0, none⟩ = some (.int .i64 y.k) ∧ w'.cell? ⟨w.heap.size + 1, 1, none⟩ = some (.int .i64 y.n) ∧ w'.cell? ⟨w.heap.size + 1, 2, none⟩ = some (.string y.s) ∧ w'.cell? ⟨w.heap.size + 1, 3, none⟩ = some (.slice ka1 y.keys.length kc1) ∧ w'.cell? ⟨w.heap.size + 1, 4, none⟩ = some (.slice la1 y.l.length lc1)) := fun w' e => ⟨e.kept.cell (by dsimp only; omega) (hB0.cells 0), e.kept.cell (by dsimp only; omega) (hB0.cells 1), e.kept.cell (by dsimp only; omega) (hB0.cells 2), e.kept.cell (by dsimp only; omega) (hB0.cells 3), e.kept.cell (by dsimp only; omega) (hB0.cells 4), e.kept.cell (by dsimp only; omega) (hB1.cells 0), e.kept.cell (by dsimp only; omega) (hB1.cells 1), e.kept.cell (by dsimp only; omega) (hB1.cells 2), e.kept.cell (by dsimp only; omega) (hB1.cells 3), e.kept.cell (by dsimp only; omega) (hB1.cells 4)⟩
    refine wp_region_till (S := fun w' => w'.cell? ⟨w.heap.size, 0, none⟩ = some (.int .i64 x.k) ∧ w'.cell? ⟨w.heap.size, 1, none⟩ = some (.int .i64 x.n) ∧ w'.cell? ⟨w.heap.size, 2, none⟩ = some (.string x.s) ∧ w'.cell? ⟨w.heap.size, 3, none⟩ = some (.slice ka0 x.keys.length kc0) ∧ w'.cell? ⟨w.heap.size, 4, none⟩ = some (.slice la0 x.l.length lc0) ∧ w'.cell? ⟨w.heap.size + 1, 0, none⟩ = some (.int .i64 y.k) ∧ w'.cell? ⟨w.heap.size + 1, 1, none⟩ = some (.int .i64 y.n) ∧ w'.cell? ⟨w.heap.size + 1, 2, none⟩ = some (.string y.s) ∧ w'.cell? ⟨w.heap.size + 1, 3, none⟩ = some (.slice ka1 y.keys.length kc1) ∧ w'.cell? ⟨w.heap.size + 1, 4, none⟩ = some (.slice la1 y.l.length lc1)) (c := 9) (by kernel_rfl) ?_
    (refine wpAnyT_take (i := 0) (v := ?_) [9] (Array.getElem?_eq_getElem (by decide)) (by kernel_rfl) (by kernel_rfl) (by kernel_rfl) (by kernel_rfl) rfl rfl (by kernel_rfl) (fun _ _ _ h => h) (Or.inl ⟨by kernel_rfl, ?_⟩) (Sof _ Hxt) ?_); rotate_left; (focus (intro w hSw; (try dsimp only at hSw); (try simp only [rl]); go_simp; (try with_reducible rfl))); (try simp only [rl])
    (refine wpAnyT_take (i := 2) (v := ?_) [9] (Array.getElem?_eq_getElem (by decide)) (by kernel_rfl) (by kernel_rfl) (by kernel_rfl) (by kernel_rfl) rfl rfl (by kernel_rfl) (fun _ _ _ h => h) (Or.inl ⟨by kernel_rfl, ?_⟩) (Sof _ Hxt) ?_); rotate_left; (focus (intro w hSw; (try dsimp only at hSw); (try simp only [rl]); go_simp; (try with_reducible rfl))); (try simp only [rl])
    (refine wpAnyT_one (i := 1) (by kernel_rfl) (Array.getElem?_eq_getElem (by decide)) fun K hK => ?_); (try simp only [rl])
    (try go_simp)
    (refine (copy_any _ x ka0 kc0 la0 lc0 (fun q => q < w.heap.size) _ (Nat.le_refl _) (by omega) (Hin0.out.ext Xt)).mono ?_)
    rintro e w8 ⟨ka2, kc2, la2, lc2, rfl, hin_, h_⟩
    have hy2 : Ext wc w8 := Xt
    have hh2 : Held (fun q => q < w.heap.size + 2) wc w8 := hy2.held _
    have hzz2 := hy2.size
    have Hin2 := Lib.hid (show x.In w8 (fun q => q ≠ b5 ∧ q ≠ w4.heap.size) ka2 kc2 la2 lc2 from hin_.mono fun q h _ => by rcases h with h | h; exact h.elim; (try simp at h); constructor <;> omega)
    clear hin_ h_
    (try go_simp)
    refine hK.out _ _ (fun _ => Sof _ Hxt) ?_; clear hK K; (try simp only [rl])
    (refine wpAnyT_one (i := 3) (by kernel_rfl) (Array.getElem?_eq_getElem (by decide)) fun K hK => ?_); (try simp only [rl])
    (try go_simp)
    (refine (copy_any _ y ka1 kc1 la1 lc1 (fun q => q < w.heap.size) _ (Nat.le_refl _) (by omega) (Hin1.out.ext Xt)).mono ?_)
    rintro e w9 ⟨ka3, kc3, la3, lc3, rfl, hin_, h_⟩
    have hy3 : Ext wc w9 := Xt
    have Hin2 := Lib.hid (Hin2.out.ext (show Ext w8 w9 from Xt))
    have hh3 : Held (fun q => q < w.heap.size + 2) wc w9 := hy3.held _
    have hzz3 := hy3.size
    have Hin3 := Lib.hid (show y.In w9 (fun q => q ≠ b5 ∧ q ≠ w4.heap.size) ka3 kc3 la3 lc3 from hin_.mono fun q h _ => by rcases h with h | h; exact h.elim; (try simp at h); constructor <;> omega)
    clear hin_ h_
    (try go_simp)
    refine hK.out _ _ (fun _ => Sof _ Hxt) ?_; clear hK K; (try simp only [rl])
    skip
    (refine wpAnyT_one (i := 4) (by kernel_rfl) (Array.getElem?_eq_getElem (by decide)) fun K hK => ?_); (try simp only [rl])
    (try go_simp)
    (refine (diffS_any x ka2 kc2 la2 lc2 y ka3 kc3 la3 lc3 (fun q => q ≠ b5 ∧ q ≠ w4.heap.size) _ (by omega) (by omega) (Hin2.out.ext Xt) (Hin3.out.ext Xt)).mono ?_)
    rw [Hd.out.1, Hd.out.2]
    rintro e w10 ⟨ka8, kc8, la8, lc8, rfl, hin_, h_⟩
    have hy8 : Ext wc w10 := Xt
    have hh8 : Held (fun q => q < w.heap.size + 2) wc w10 := hy8.held _
    have hzz8 := hy8.size
    have Hin8 := Lib.hid (show d.In w10 (fun q => q ≠ b5 ∧ q ≠ w4.heap.size) ka8 kc8 la8 lc8 from hin_.mono fun q h _ => by rcases h with h | h; exact h; (try simp at h); constructor <;> omega)
    clear hin_ h_
    have hB0 := Box.ext hy8 hB0
    have hB1 := Box.ext hy8 hB1
    have hB5 := Box.ext hy8 hB5
    have hB7 := Box.ext hy8 hB7
    have hx10 := hxc.trans hy8
    have hc5 := hB5.cells; have hf5 := hB5.free; have hl5 := hB5.lt
    (try go_simp)
    refine hK.out _ _ (fun _ => Sof _ Hxt) ?_; clear hK K; (try simp only [rl])
    (refine wpAnyT_take (i := 5) (v := ?_) [9] (Array.getElem?_eq_getElem (by decide)) (by kernel_rfl) (by kernel_rfl) (by kernel_rfl) (by kernel_rfl) rfl rfl (by kernel_rfl) (fun _ _ _ h => h) (Or.inl ⟨by kernel_rfl, ?_⟩) (Sof _ Hxt) ?_); rotate_left; (focus (intro w hSw; (try dsimp only at hSw); (try simp only [rl]); go_simp; (try with_reducible rfl))); (try simp only [rl])
    (refine wpAnyT_take (i := 6) (v := ?_) [9] (Array.getElem?_eq_getElem (by decide)) (by kernel_rfl) (by kernel_rfl) (by kernel_rfl) (by kernel_rfl) rfl rfl (by kernel_rfl) (fun _ _ _ h => h) (Or.inl ⟨by kernel_rfl, ?_⟩) (Sof _ Hxt) ?_); rotate_left; (focus (intro w hSw; (try dsimp only at hSw); (try simp only [rl]); go_simp; (try with_reducible rfl))); (try simp only [rl])
    (refine wpAnyT_take (i := 7) (v := ?_) [9] (Array.getElem?_eq_getElem (by decide)) (by kernel_rfl) (by kernel_rfl) (by kernel_rfl) (by kernel_rfl) rfl rfl (by kernel_rfl) (fun _ _ _ h => h) (Or.inl ⟨by kernel_rfl, ?_⟩) (Sof _ Hxt) ?_); rotate_left; (focus (intro w hSw; (try dsimp only at hSw); (try simp only [rl]); go_simp; (try with_reducible rfl))); (try simp only [rl])
    skip
    (refine wpAnyT_one (i := 8) (by kernel_rfl) (Array.getElem?_eq_getElem (by decide)) fun K hK => ?_); (try simp only [rl])
    go_simp
    refine hK.out _ _ (fun _ => Sof _ Hxt) ?_; clear hK K; (try simp only [rl])
    (refine wpAnyT_one (i := 9) (by kernel_rfl) (Array.getElem?_eq_getElem (by decide)) fun K hK => ?_); (try simp only [rl])
    go_simp
    (refine hK.out _ _ (fun h => Bool.noConfusion (show true = false from h)) ?_); clear hK K; (try simp only [rl])
    refine wpAnyT_done (by kernel_rfl) ?_ _
    go_upto_region 6 with fail
    refine gen_world (R := fun wx => Box wx w.heap.size #[.int .i64 x.k, .int .i64 x.n, .string x.s, .slice ka0 x.keys.length kc0, .slice la0 x.l.length lc0] 25 ∧ Box wx (w.heap.size + 1) #[.int .i64 y.k, .int .i64 y.n, .string y.s, .slice ka1 y.keys.length kc1, .slice la1 y.l.length lc1] 25 ∧ Box wx b5 #[.int .i64 d.k, .int .i64 d.n, .string d.s, .slice ka8 d.keys.length kc8, .slice la8 d.l.length lc8] 25 ∧ Box wx w4.heap.size #[.int .i64 u.k, .int .i64 u.n, .string u.s, .slice ka7 u.keys.length kc7, .slice la7 u.l.length lc7] 25 ∧ d.In wx (fun q => q ≠ b5 ∧ q ≠ w4.heap.size) ka8 kc8 la8 lc8 ∧ Ext w wx) ⟨Bxt, Bxt, Box.to (((((hB5.set 0 (.int .i64 d.k)).set 1 (.int .i64 d.n)).set 2 (.string d.s)).set 3 (.slice ka8 d.keys.length kc8)).set 4 (.slice la8 d.l.length lc8)) (by simp), Bxt, Hin8.out.keep (Held.kept (Held.mono (a := w10) (S := fun q => q ≠ b5) Hxt (fun q h => h.1))) (fun _ h _ => h), Xt⟩ ?_
    clear hB0 hB1 hB5 hB7 Hin8 hx10 hc5 hf5 hl5 Sof Hin2 Hin3 hy2 hy3 hy8 hh2 hh3 hh8 hxc
    rintro wd ⟨hB0, hB1, hB5, hB7, hin8, hxd⟩
    have Hin8 := Lib.hid hin8
    have hz7 := hB7.lt
    clear hin8
    have hc0 := hB0.cells; have hf0 := hB0.free; have hl0 := hB0.lt
    have hc1 := hB1.cells; have hf1 := hB1.free; have hl1 := hB1.lt
    go_wp2_with fail
    (refine (diffOf_any x ka0 kc0 la0 lc0 y ka1 kc1 la1 lc1 (fun q => q ≠ w4.heap.size) _ (by omega) (by omega) ((Hin0.out.mono (T := fun q => q ≠ w4.heap.size) (fun q h _ => by omega)).ext Xt) ((Hin1.out.mono (T := fun q => q ≠ w4.heap.size) (fun q h _ => by omega)).ext Xt)).mono ?_)
    rw [Hd.out.1, Hd.out.2]
    rintro e w11 ⟨ka9, kc9, la9, lc9, rfl, hin9, h11⟩
    have Hin9 := Lib.hid (show d.In w11 (fun q => q ≠ w4.heap.size) ka9 kc9 la9 lc9 from hin9.mono fun q h _ => by rcases h with h | h; exact h; (try simp at h); omega)
    have hB5 := Box.ext h11 hB5
    have hB7 := Box.ext h11 hB7
    have Hin8 := Lib.hid (Hin8.out.ext h11)
    have hx11 := hxd.trans h11
    clear hin9 h11 hxd hc0 hf0 hl0 hc1 hf1 hl1 hB0 hB1
    have hc7 := hB7.cells; have hf7 := hB7.free; have hl7 := hB7.lt
    go_upto_region 7 with fail
    refine gen_world (R := fun wx => Box wx b5 #[.int .i64 d.k, .int .i64 d.n, .string d.s, .slice ka8 d.keys.length kc8, .slice la8 d.l.length lc8] 25 ∧ Box wx w4.heap.size #[.int .i64 d.k, .int .i64 d.n, .string d.s, .slice ka9 d.keys.length kc9, .slice la9 d.l.length lc9] 25 ∧ d.In wx All ka8 kc8 la8 lc8 ∧ d.In wx All ka9 kc9 la9 lc9 ∧ Ext w wx) ⟨Bxt, Box.to (((((hB7.set 0 (.int .i64 d.k)).set 1 (.int .i64 d.n)).set 2 (.string d.s)).set 3 (.slice ka9 d.keys.length kc9)).set 4 (.slice la9 d.l.length lc9)) (by simp), Hin8.out.keep (Held.kept (Held.mono (a := w11) (S := fun q => q ≠ w4.heap.size) Hxt (fun q h => h.2))) (fun _ _ _ => trivial), Hin9.out.keep (Held.kept (Held.mono (a := w11) (S := fun q => q ≠ w4.heap.size) Hxt (fun q h => h))) (fun _ _ _ => trivial), Xt⟩ ?_
    clear hB5 hB7 Hin8 Hin9 hx11 hc7 hf7 hl7
    rintro we ⟨hB5, hB7, hin8, hin9, hxe⟩
    have Hin8 := Lib.hid hin8
    have Hin9 := Lib.hid hin9
    clear hin8 hin9
    have hc5 := hB5.cells; have hf5 := hB5.free; have hl5 := hB5.lt
    have hc7 := hB7.cells; have hf7 := hB7.free; have hl7 := hB7.lt
    go_wp2_with fail
    (refine (sameR_yes d d rfl (by omega) ka8 kc8 la8 lc8 ka9 kc9 la9 lc9 All All _ (Hin8.out.ext Xt) (Hin9.out.ext Xt)).mono ?_)
    rintro e w12 ⟨rfl, h12⟩
    have hx12 := hxe.trans h12
    clear h12 hxe
    go_wp2_with fail
    (refine (merges_law _ (hl.ext Xt)).mono ?_)
    rintro e w13 ⟨rfl, h13⟩
    have hx13 : Ext w w13 := Xt
    go_wp2_with fail
    go_ret
    exact ⟨rfl, Xt⟩
end
end Go.Proofs.YtnbappeiebameaaGreatDoor.lawMergeDoes
