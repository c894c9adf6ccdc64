/- PatchDoes: for all values and operations the law returns true (All and One answer what the reference answers); the arguments hold together at most 1048576 values and letters; the library's listed variables as its text lays them. -/
import Derived.Test.YtnbappeiebameaaGreatDoorPkC
import Derived.Test.YtnbappeiebameaaGreatDoorLibAt
import Derived.Test.YtnbappeiebameaaGreatDoorPkO
import Derived.Test.YtnbappeiebameaaGreatDoorOpsC
import Derived.Test.YtnbappeiebameaaGreatDoorCopy
import Derived.Test.YtnbappeiebameaaGreatDoorSameR
import Derived.Test.YtnbappeiebameaaGreatDoorPkP
import Derived.Deep.RegionHeld3
import Derived.Test.YtnbappeiebameaaGreatDoorPkA
set_option linter.all false
namespace Go.Proofs.YtnbappeiebameaaGreatDoor.lawPatchDoes
open Go.ChangeShapes Go.WideShapes Go.ChangeAt Go.RowKit
open Go.ChangeMaps (open_string shut_string)
section
attribute [local go_sem ↓] Go.wp_at_zero Go.wp_at_succ

theorem meet3 {P : Prop} (G : Nat → Option Addr → Nat → Option Addr → Nat → Option Addr → Nat → World → Prop) (H : Nat → Option Addr → Nat → Option Addr → Nat → World → Prop)
    (reg : (∀ b a4 c4 a5 c5 a6 c6 w, H b a5 c5 a6 c6 w → G b a4 c4 a5 c5 a6 c6 w) → P) (rest : ∀ b a4 c4 a5 c5 a6 c6 w, H b a5 c5 a6 c6 w → G b a4 c4 a5 c5 a6 c6 w) : P := reg rest
theorem in_old {w : World} {S : Nat → Prop} {x : V} {ka : Option Addr} {kc : Nat} {la : Option Addr} {lc : Nat} (h : x.In w S ka kc la lc) : x.In w (fun q => q < w.heap.size) ka kc la lc := h.mono fun _ _ hl => hl
theorem ops_old {w : World} {S : Nat → Prop} {a : Option Addr} {l : List OpV} (h : OpsIn w S a l) : OpsIn w (fun b => b < w.heap.size) a l := by
  rcases h with h | ⟨b, o, rfl, -, hr⟩
  · exact .inl h
  · by_cases h0 : l = []
    · exact .inl h0
    · refine .inr ⟨b, o, rfl, cell_lt (hr 0 (List.length_pos_iff.2 h0)).1, fun i hi => ⟨(hr i hi).1, (hr i hi).2.1, (hr i hi).2.2.1, ?_⟩⟩
      obtain ⟨ka, kc, la, lc, hc, hin⟩ := (hr i hi).2.2.2
      exact ⟨ka, kc, la, lc, hc, hin.mono fun _ _ hl => hl⟩
set_option maxRecDepth 100000 in
set_option maxHeartbeats 16000000 in
theorem walk (x : V) (ka0 : Option Addr) (kc0 : Nat) (la0 : Option Addr) (lc0 : Nat) (a : Option Addr) (cap : Nat) (l : List OpV) (w : World) (hl : LibAt w) (hs0 : x.size ≤ 4194304) (hs1 : (l.map OpV.size).sum ≤ 4194304) (hin0 : x.In w All ka0 kc0 la0 lc0) (hok : SlOk a l.length cap) (hops : OpsIn w All a l) :
    Calls Tryz.prog 7 #[x.val ka0 kc0 la0 lc0, .slice a l.length cap] w fun e w' => e = .returned (.bool true) ∧ Ext w w' := by
  have hn2 := Nat.le_trans (ops_len l) hs1
  obtain ⟨n, hn⟩ : ∃ n, l.length = n := ⟨_, rfl⟩
  obtain ⟨xs, hxl, hsrc, hcs⟩ := ops_cells hops
  rw [hn] at hn2 hok hxl hsrc ⊢
  obtain ⟨i0, hi, hz0, hz1, hz2⟩ := info_parts Tryz.infoO
  have Hin0 := Lib.hid (in_old hin0)
  have Hops := Lib.hid (ops_old hops)
  have Hs1 := Lib.hid hs1
  have Hok := Lib.hid hok
  have Hn := Lib.hid hn
  have Hxl := Lib.hid hxl
  have Hsrc := Lib.hid hsrc
  have Hcs := Lib.hid (show OpCells w (fun q => q < w.heap.size) l xs from by have := hcs; exact (opcells_old this))
  obtain ⟨u, hu⟩ : ∃ u, (allV x l).1 = u := ⟨_, rfl⟩
  obtain ⟨e1, he1⟩ : ∃ e, (allV x l).2 = e := ⟨_, rfl⟩
  have Hm := Lib.hid (show allV x l = (u, e1) from Prod.ext hu he1)
  have hus := all_size x l
  rw [hu] at hus
  have hbe1 : (e1 != e1) = false := by simp
  have hbe1b : (e1 == e1) = true := by simp
  clear hin0 hops hs1 hok hn hxl hsrc hcs hu he1
  go_enter Tryz.func7, Tryz.ntmps7
  go_upto_region 1 with fail
  refine gen_world (R := fun wx => Box wx w.heap.size #[.int .i64 x.k, .int .i64 x.n, .string x.s, .slice ka0 x.keys.length kc0, .slice la0 x.l.length lc0] 25 ∧ Ext w wx) ⟨Bxt, Xt⟩ ?_
  rintro wa ⟨hB0, hxa⟩
  have hc0 := hB0.cells; have hf0 := hB0.free; have hl0 := hB0.lt
  go_wp2_with fail
  (refine (copy_any _ x ka0 kc0 la0 lc0 (fun q => q < w.heap.size) _ (Nat.le_refl _) (by omega) (Hin0.out.ext Xt)).mono ?_)
  rintro e w1 ⟨ka2, kc2, la2, lc2, rfl, hin_, h1⟩
  have Hin2 := Lib.hid (in_old hin_)
  have hB0 := Box.ext h1 hB0
  have hx1 := hxa.trans h1
  have hz3 := hB0.lt
  clear hin_ h1 hxa hc0 hf0 hl0
  go_upto_region 2 with fail
  refine gen_world (R := fun wx => Box wx w.heap.size #[.int .i64 x.k, .int .i64 x.n, .string x.s, .slice ka0 x.keys.length kc0, .slice la0 x.l.length lc0] 25 ∧ Box wx w1.heap.size #[.int .i64 x.k, .int .i64 x.n, .string x.s, .slice ka2 x.keys.length kc2, .slice la2 x.l.length lc2] 25 ∧ x.In wx (fun q => q < w1.heap.size) ka2 kc2 la2 lc2 ∧ Ext w wx) ⟨Bxt, Bxt, Hin2.out.ext Xt, Xt⟩ ?_
  clear hB0 Hin2 hx1
  rintro wb ⟨hB0, hB2, hin2, hxb⟩
  have Hin2 := Lib.hid hin2
  have hz4 := hB2.lt
  clear hin2
  refine meet3 ?G (fun b5 a5 c5 a6 c6 wy => Box wy b5 #[.int .i64 u.k, .int .i64 u.n, .string u.s, .slice a5 u.keys.length c5, .slice a6 u.l.length c6] 25 ∧ u.In wy (fun q => q ≠ b5) a5 c5 a6 c6 ∧ Box wy w.heap.size #[.int .i64 x.k, .int .i64 x.n, .string x.s, .slice ka0 x.keys.length kc0, .slice la0 x.l.length lc0] 25 ∧ Box wy w1.heap.size #[.int .i64 x.k, .int .i64 x.n, .string x.s, .slice ka2 x.keys.length kc2, .slice la2 x.l.length lc2] 25 ∧ Ext w wy ∧ x.In wy (fun q => q ≠ b5) ka2 kc2 la2 lc2 ∧ w1.heap.size < b5) (fun cont => ?reg) ?rest
  case reg =>
    have Sof : ∀ w', Ext wb w' → (w'.cell? ⟨w1.heap.size, 0, none⟩ = some (.int .i64 x.k) ∧ w'.cell? ⟨w1.heap.size, 1, none⟩ = some (.int .i64 x.n) ∧ w'.cell? ⟨w1.heap.size, 2, none⟩ = some (.string x.s) ∧ w'.cell? ⟨w1.heap.size, 3, none⟩ = some (.slice ka2 x.keys.length kc2) ∧ w'.cell? ⟨w1.heap.size, 4, none⟩ = some (.slice la2 x.l.length lc2)) := fun w' e => ⟨e.cell (hB2.cells 0), e.cell (hB2.cells 1), e.cell (hB2.cells 2), e.cell (hB2.cells 3), e.cell (hB2.cells 4)⟩
    refine wp_region_till (S := fun w' => w'.cell? ⟨w1.heap.size, 0, none⟩ = some (.int .i64 x.k) ∧ w'.cell? ⟨w1.heap.size, 1, none⟩ = some (.int .i64 x.n) ∧ w'.cell? ⟨w1.heap.size, 2, none⟩ = some (.string x.s) ∧ w'.cell? ⟨w1.heap.size, 3, none⟩ = some (.slice ka2 x.keys.length kc2) ∧ w'.cell? ⟨w1.heap.size, 4, none⟩ = some (.slice la2 x.l.length lc2)) (c := 9) (by kernel_rfl) ?_
    (refine wpAnyT_take (i := 0) (v := ?_) [9] (Array.getElem?_eq_getElem (by decide)) (by kernel_rfl) (by kernel_rfl) (by kernel_rfl) (by kernel_rfl) rfl rfl (by kernel_rfl) (fun _ _ _ h => h) (Or.inl ⟨by kernel_rfl, ?_⟩) (Sof _ Xt) ?_); rotate_left; (focus (intro w hSw; (try dsimp only at hSw); (try simp only [rl]); go_simp; (try with_reducible rfl))); (try simp only [rl])
    (refine wpAnyT_take (i := 1) (v := ?_) [9] (Array.getElem?_eq_getElem (by decide)) (by kernel_rfl) (by kernel_rfl) (by kernel_rfl) (by kernel_rfl) rfl rfl (by kernel_rfl) (fun _ _ _ h => h) (Or.inl ⟨by kernel_rfl, ?_⟩) (Sof _ Xt) ?_); rotate_left; (focus (intro w hSw; (try dsimp only at hSw); (try simp only [rl]); go_simp; (try with_reducible rfl))); (try simp only [rl])
    refine wpAnyT_ready (rs := [2, 7]) (by kernel_rfl) (by simp) ?_
    refine AllReadyT.cons (Array.getElem?_eq_getElem (by decide)) (fun K hK => ?_) (AllReadyT.cons (Array.getElem?_eq_getElem (by decide)) (fun K hK => ?_) AllReadyT.nil)
    rotate_left
    · (try simp only [rl])
      (try go_simp)
      refine hK.out _ _ (fun _ => Sof _ Xt) ?_; clear hK K; (try simp only [rl])
      (refine wpAnyT_one (i := 2) (by kernel_rfl) (Array.getElem?_eq_getElem (by decide)) fun K hK => ?_); (try simp only [rl])
      rw [if_pos (by simp [Region.wanted])]
      refine wp_copy_nil _ _ 45 (by rfl) (wb.alloc (.cells #[.int .i64 0, .int .i64 0, .string ⟨#[]⟩, .slice none 0 0, .slice none 0 0] 25)).heap.size 49 i0 _ 8 120 Tryz.underlying45 hi hz0 hz1 hz2 rfl (by decide) (by rfl) a n cap xs (by rfl) Hok.out Hxl.out ?_ Hcs.out.one (by omega) (Nat.le_refl _) ?_
      · rcases Hsrc.out with h | ⟨ad, h0, h⟩
        · exact .inl h
        · exact .inr ⟨ad, h0, fun j u hj => Ext.cell (a := w) Xt (h j u hj)⟩
      intro a4 c4 w4 hown4 hok4 hgrow4
      have h4 := grown_ext hgrow4
      have hBw := Box.ext h4 (show Box _ (wb.heap.size) #[.int .i64 0, .int .i64 0, .string ⟨#[]⟩, .slice none 0 0, .slice none 0 0] 25 from Bxt)
      have hbwl := hBw.lt
      have hy4 : Ext wb w4 := Xt
      have hy4z := hy4.size
      have hx4 := hxb.trans hy4
      have Hops4 := Lib.hid (show OpsIn w4 (fun q => q < w.heap.size ∨ (wb.alloc (.cells #[.int .i64 0, .int .i64 0, .string ⟨#[]⟩, .slice none 0 0, .slice none 0 0] 25)).heap.size ≤ q) a4 l from ops_own Hn.out hown4 (Hcs.out.keep (hx4.kept _) (fun _ h _ => h)))
      refine hK.out _ _ (fun _ => Sof _ Xt) ?_; clear hK K; (try simp only [rl])
      (refine wpAnyT_one (i := 3) (by kernel_rfl) (Array.getElem?_eq_getElem (by decide)) fun K hK => ?_); (try simp only [rl])
      (try go_simp)
      (refine (all_any x ka2 kc2 la2 lc2 a4 c4 l n _ Hn (hl.ext Xt) hs0 Hs1.out hn2 (fun q => q ≠ wb.heap.size) ((Hin2.out.ext Xt).mono fun q h _ => by omega) ((Hops4.out.mono (T := (fun q => q ≠ wb.heap.size)) fun q h => by rcases h with h | h; omega; (simp at h; omega)).ext Xt)).mono ?_)
      rw [Hm.out]
      rintro e w5 ⟨ka5, kc5, la5, lc5, rfl, hin_, h5⟩
      have hBu := Box.ext h5 (show Box _ (wb.heap.size) #[.int .i64 0, .int .i64 0, .string ⟨#[]⟩, .slice none 0 0, .slice none 0 0] 25 from Bxt)
      have hbul := hBu.lt
      have Hin5 := Lib.hid (show u.In w5 (fun q => q ≠ wb.heap.size) ka5 kc5 la5 lc5 from hin_.mono fun q h _ => by rcases h with h | h; exact h; (try simp at h); omega)
      have hy5 : Ext wb w5 := Xt
      have hzz5 := hy5.size
      have hB0 := Box.ext hy5 hB0
      have hB2 := Box.ext hy5 hB2
      have hx5 := hxb.trans hy5
      have Hin2c := Lib.hid (show x.In w5 (fun q => q ≠ wb.heap.size) ka2 kc2 la2 lc2 from (Hin2.out.ext hy5).mono fun q h _ => by omega)
      clear hin_ h5
      (try go_simp)
      refine hK.out _ _ (fun _ => Sof _ Xt) ?_; clear hK K; (try simp only [rl])
      (refine wpAnyT_take (i := 4) (v := ?_) [9] (Array.getElem?_eq_getElem (by decide)) (by kernel_rfl) (by kernel_rfl) (by kernel_rfl) (by kernel_rfl) rfl rfl (by kernel_rfl) (fun _ _ _ h => h) (Or.inl ⟨by kernel_rfl, ?_⟩) (Sof _ Xt) ?_); rotate_left; (focus (intro w hSw; (try dsimp only at hSw); (try simp only [rl]); go_simp; (try with_reducible rfl))); (try simp only [rl])
      (refine wpAnyT_take (i := 5) (v := ?_) [9] (Array.getElem?_eq_getElem (by decide)) (by kernel_rfl) (by kernel_rfl) (by kernel_rfl) (by kernel_rfl) rfl rfl (by kernel_rfl) (fun _ _ _ h => h) (Or.inl ⟨by kernel_rfl, ?_⟩) (Sof _ Xt) ?_); rotate_left; (focus (intro w hSw; (try dsimp only at hSw); (try simp only [rl]); go_simp; (try with_reducible rfl))); (try simp only [rl])
      (refine wpAnyT_take (i := 6) (v := ?_) [9] (Array.getElem?_eq_getElem (by decide)) (by kernel_rfl) (by kernel_rfl) (by kernel_rfl) (by kernel_rfl) rfl rfl (by kernel_rfl) (fun _ _ _ h => h) (Or.inl ⟨by kernel_rfl, ?_⟩) (Sof _ Xt) ?_); rotate_left; (focus (intro w hSw; (try dsimp only at hSw); (try simp only [rl]); go_simp; (try with_reducible rfl))); (try simp only [rl])
      have hcu := hBu.cells; have hfu := hBu.free; have hlu := hBu.lt
      (refine wpAnyT_one (i := 8) (by kernel_rfl) (Array.getElem?_eq_getElem (by decide)) fun K hK => ?_); (try simp only [rl])
      go_simp
      refine hK.out _ _ (fun _ => Sof _ Xt) ?_; clear hK K; (try simp only [rl])
      (refine wpAnyT_one (i := 9) (by kernel_rfl) (Array.getElem?_eq_getElem (by decide)) fun K hK => ?_); (try simp only [rl])
      go_simp
      (refine hK.out _ _ (fun h => Bool.noConfusion (show true = false from h)) ?_); clear hK K; (try simp only [rl])
      refine wpAnyT_done (by kernel_rfl) ?_ _
      obtain ⟨wy, hwy⟩ : ∃ wy, (((((w5.setCell ⟨wb.heap.size, 0, none⟩ (Value.int .i64 u.k)).setCell ⟨wb.heap.size, 1, none⟩ (Value.int .i64 u.n)).setCell ⟨wb.heap.size, 2, none⟩ (Value.string u.s)).setCell ⟨wb.heap.size, 3, none⟩ (Value.slice ka5 u.keys.length kc5)).setCell ⟨wb.heap.size, 4, none⟩ (Value.slice la5 u.l.length lc5)) = wy := ⟨_, rfl⟩
      have HP := Lib.hid (show Box wy (wb.heap.size) #[.int .i64 u.k, .int .i64 u.n, .string u.s, .slice ka5 u.keys.length kc5, .slice la5 u.l.length lc5] 25 ∧ u.In wy (fun q => q ≠ wb.heap.size) ka5 kc5 la5 lc5 ∧ Box wy w.heap.size #[.int .i64 x.k, .int .i64 x.n, .string x.s, .slice ka0 x.keys.length kc0, .slice la0 x.l.length lc0] 25 ∧ Box wy w1.heap.size #[.int .i64 x.k, .int .i64 x.n, .string x.s, .slice ka2 x.keys.length kc2, .slice la2 x.l.length lc2] 25 ∧ Ext w wy ∧ x.In wy (fun q => q ≠ wb.heap.size) ka2 kc2 la2 lc2 ∧ w1.heap.size < wb.heap.size by
        rw [← hwy]
        exact ⟨Box.to (((((hBu.set 0 (.int .i64 u.k)).set 1 (.int .i64 u.n)).set 2 (.string u.s)).set 3 (.slice ka5 u.keys.length kc5)).set 4 (.slice la5 u.l.length lc5)) (by simp), Hin5.out.keep (Held.kept (Held.mono (a := w5) (S := fun q => q ≠ wb.heap.size) Hxt (fun q h => h))) (fun _ h _ => h), Bxt, Bxt, Xt, Hin2c.out.keep (Held.kept (Held.mono (a := w5) (S := fun q => q ≠ wb.heap.size) Hxt (fun q h => h))) (fun _ h _ => h), by omega⟩)
      rw [hwy]
      clear hwy
      have HP2 := HP.out
      clear HP
      generalize wb.heap.size = b5 at HP2 ⊢
      exact cont b5 a4 c4 ka5 kc5 la5 lc5 wy HP2
    · (try simp only [rl])
      rw [if_pos (by simp [Region.wanted])]
      refine wp_copy_nil _ _ 45 (by rfl) (wb).heap.size 49 i0 _ 8 120 Tryz.underlying45 hi hz0 hz1 hz2 rfl (by decide) (by rfl) a n cap xs (by rfl) Hok.out Hxl.out ?_ Hcs.out.one (by omega) (Nat.le_refl _) ?_
      · rcases Hsrc.out with h | ⟨ad, h0, h⟩
        · exact .inl h
        · exact .inr ⟨ad, h0, fun j u hj => Ext.cell (a := w) Xt (h j u hj)⟩
      intro a4 c4 w4 hown4 hok4 hgrow4
      have h4 := grown_ext hgrow4
      have hy4 : Ext wb w4 := Xt
      have hy4z := hy4.size
      have hx4 := hxb.trans hy4
      have Hops4 := Lib.hid (show OpsIn w4 (fun q => q < w.heap.size ∨ (wb).heap.size ≤ q) a4 l from ops_own Hn.out hown4 (Hcs.out.keep (hx4.kept _) (fun _ h _ => h)))
      refine hK.out _ _ (fun _ => Sof _ Xt) ?_; clear hK K; (try simp only [rl])
      refine wpAnyT_ready (rs := [3, 7]) (by kernel_rfl) (by simp) ?_
      refine AllReadyT.cons (Array.getElem?_eq_getElem (by decide)) (fun K hK => ?_) (AllReadyT.cons (Array.getElem?_eq_getElem (by decide)) (fun K hK => ?_) AllReadyT.nil)
      rotate_left
      · (try simp only [rl])
        (try go_simp)
        refine hK.out _ _ (fun _ => Sof _ Xt) ?_; clear hK K; (try simp only [rl])
        (refine wpAnyT_one (i := 3) (by kernel_rfl) (Array.getElem?_eq_getElem (by decide)) fun K hK => ?_); (try simp only [rl])
        (try go_simp)
        (refine (all_any x ka2 kc2 la2 lc2 a4 c4 l n _ Hn (hl.ext Xt) hs0 Hs1.out hn2 (fun q => q ≠ w4.heap.size) ((Hin2.out.ext Xt).mono fun q h _ => by omega) (((ops_old Hops4.out).mono (T := (fun q => q ≠ w4.heap.size)) fun q h => Nat.ne_of_lt h).ext Xt)).mono ?_)
        rw [Hm.out]
        rintro e w5 ⟨ka5, kc5, la5, lc5, rfl, hin_, h5⟩
        have hBu := Box.ext h5 (show Box _ (w4.heap.size) #[.int .i64 0, .int .i64 0, .string ⟨#[]⟩, .slice none 0 0, .slice none 0 0] 25 from Bxt)
        have hbul := hBu.lt
        have Hin5 := Lib.hid (show u.In w5 (fun q => q ≠ w4.heap.size) ka5 kc5 la5 lc5 from hin_.mono fun q h _ => by rcases h with h | h; exact h; (try simp at h); omega)
        have hy5 : Ext wb w5 := Xt
        have hzz5 := hy5.size
        have hB0 := Box.ext hy5 hB0
        have hB2 := Box.ext hy5 hB2
        have hx5 := hxb.trans hy5
        have Hin2c := Lib.hid (show x.In w5 (fun q => q ≠ w4.heap.size) ka2 kc2 la2 lc2 from (Hin2.out.ext hy5).mono fun q h _ => by omega)
        clear hin_ h5
        (try go_simp)
        refine hK.out _ _ (fun _ => Sof _ Xt) ?_; clear hK K; (try simp only [rl])
        (refine wpAnyT_take (i := 4) (v := ?_) [9] (Array.getElem?_eq_getElem (by decide)) (by kernel_rfl) (by kernel_rfl) (by kernel_rfl) (by kernel_rfl) rfl rfl (by kernel_rfl) (fun _ _ _ h => h) (Or.inl ⟨by kernel_rfl, ?_⟩) (Sof _ Xt) ?_); rotate_left; (focus (intro w hSw; (try dsimp only at hSw); (try simp only [rl]); go_simp; (try with_reducible rfl))); (try simp only [rl])
        (refine wpAnyT_take (i := 5) (v := ?_) [9] (Array.getElem?_eq_getElem (by decide)) (by kernel_rfl) (by kernel_rfl) (by kernel_rfl) (by kernel_rfl) rfl rfl (by kernel_rfl) (fun _ _ _ h => h) (Or.inl ⟨by kernel_rfl, ?_⟩) (Sof _ Xt) ?_); rotate_left; (focus (intro w hSw; (try dsimp only at hSw); (try simp only [rl]); go_simp; (try with_reducible rfl))); (try simp only [rl])
        (refine wpAnyT_take (i := 6) (v := ?_) [9] (Array.getElem?_eq_getElem (by decide)) (by kernel_rfl) (by kernel_rfl) (by kernel_rfl) (by kernel_rfl) rfl rfl (by kernel_rfl) (fun _ _ _ h => h) (Or.inl ⟨by kernel_rfl, ?_⟩) (Sof _ Xt) ?_); rotate_left; (focus (intro w hSw; (try dsimp only at hSw); (try simp only [rl]); go_simp; (try with_reducible rfl))); (try simp only [rl])
        have hcu := hBu.cells; have hfu := hBu.free; have hlu := hBu.lt
        (refine wpAnyT_one (i := 8) (by kernel_rfl) (Array.getElem?_eq_getElem (by decide)) fun K hK => ?_); (try simp only [rl])
        go_simp
        refine hK.out _ _ (fun _ => Sof _ Xt) ?_; clear hK K; (try simp only [rl])
        (refine wpAnyT_one (i := 9) (by kernel_rfl) (Array.getElem?_eq_getElem (by decide)) fun K hK => ?_); (try simp only [rl])
        go_simp
        (refine hK.out _ _ (fun h => Bool.noConfusion (show true = false from h)) ?_); clear hK K; (try simp only [rl])
        refine wpAnyT_done (by kernel_rfl) ?_ _
        refine cont (w4.heap.size) a4 c4 ka5 kc5 la5 lc5 _ ⟨Box.to (((((hBu.set 0 (.int .i64 u.k)).set 1 (.int .i64 u.n)).set 2 (.string u.s)).set 3 (.slice ka5 u.keys.length kc5)).set 4 (.slice la5 u.l.length lc5)) (by simp), Hin5.out.keep (Held.kept (Held.mono (a := w5) (S := fun q => q ≠ w4.heap.size) Hxt (fun q h => h))) (fun _ h _ => h), Bxt, Bxt, Xt, Hin2c.out.keep (Held.kept (Held.mono (a := w5) (S := fun q => q ≠ w4.heap.size) Hxt (fun q h => h))) (fun _ h _ => h), by omega⟩
      · (try simp only [rl])
        (try go_simp)
        (refine (all_any x ka2 kc2 la2 lc2 a4 c4 l n _ Hn (hl.ext Xt) hs0 Hs1.out hn2 All (all_in (Hin2.out.ext Xt)) ((Hops4.out.mono (T := All) fun _ _ => trivial).ext Xt)).mono ?_)
        rw [Hm.out]
        rintro e w5 ⟨ka5, kc5, la5, lc5, rfl, hin_, h5⟩
        have Hin5 := Lib.hid (show u.In w5 (fun q => q ≠ w5.heap.size) ka5 kc5 la5 lc5 from hin_.mono fun q h hl => Nat.ne_of_lt hl)
        have hy5 : Ext wb w5 := Xt
        have hzz5 := hy5.size
        have hB0 := Box.ext hy5 hB0
        have hB2 := Box.ext hy5 hB2
        have hx5 := hxb.trans hy5
        have Hin2c := Lib.hid (show x.In w5 (fun q => q ≠ w5.heap.size) ka2 kc2 la2 lc2 from (Hin2.out.ext hy5).mono fun q h _ => by omega)
        clear hin_ h5
        (try go_simp)
        refine hK.out _ _ (fun _ => Sof _ Xt) ?_; clear hK K; (try simp only [rl])
        (refine wpAnyT_take (i := 4) (v := ?_) [9] (Array.getElem?_eq_getElem (by decide)) (by kernel_rfl) (by kernel_rfl) (by kernel_rfl) (by kernel_rfl) rfl rfl (by kernel_rfl) (fun _ _ _ h => h) (Or.inl ⟨by kernel_rfl, ?_⟩) (Sof _ Xt) ?_); rotate_left; (focus (intro w hSw; (try dsimp only at hSw); (try simp only [rl]); go_simp; (try with_reducible rfl))); (try simp only [rl])
        (refine wpAnyT_take (i := 5) (v := ?_) [9] (Array.getElem?_eq_getElem (by decide)) (by kernel_rfl) (by kernel_rfl) (by kernel_rfl) (by kernel_rfl) rfl rfl (by kernel_rfl) (fun _ _ _ h => h) (Or.inl ⟨by kernel_rfl, ?_⟩) (Sof _ Xt) ?_); rotate_left; (focus (intro w hSw; (try dsimp only at hSw); (try simp only [rl]); go_simp; (try with_reducible rfl))); (try simp only [rl])
        (refine wpAnyT_take (i := 6) (v := ?_) [9] (Array.getElem?_eq_getElem (by decide)) (by kernel_rfl) (by kernel_rfl) (by kernel_rfl) (by kernel_rfl) rfl rfl (by kernel_rfl) (fun _ _ _ h => h) (Or.inl ⟨by kernel_rfl, ?_⟩) (Sof _ Xt) ?_); rotate_left; (focus (intro w hSw; (try dsimp only at hSw); (try simp only [rl]); go_simp; (try with_reducible rfl))); (try simp only [rl])
        (refine wpAnyT_one (i := 7) (by kernel_rfl) (Array.getElem?_eq_getElem (by decide)) fun K hK => ?_); (try simp only [rl])
        (try go_simp)
        refine hK.out _ _ (fun _ => Sof _ Xt) ?_; clear hK K; (try simp only [rl])
        (refine wpAnyT_one (i := 8) (by kernel_rfl) (Array.getElem?_eq_getElem (by decide)) fun K hK => ?_); (try simp only [rl])
        go_simp
        refine hK.out _ _ (fun _ => Sof _ Xt) ?_; clear hK K; (try simp only [rl])
        (refine wpAnyT_one (i := 9) (by kernel_rfl) (Array.getElem?_eq_getElem (by decide)) fun K hK => ?_); (try simp only [rl])
        go_simp
        (refine hK.out _ _ (fun h => Bool.noConfusion (show true = false from h)) ?_); clear hK K; (try simp only [rl])
        refine wpAnyT_done (by kernel_rfl) ?_ _
        refine cont (w5.heap.size) a4 c4 ka5 kc5 la5 lc5 _ ⟨Bxt, Hin5.out.keep (Held.kept (Held.mono (a := w5) (S := fun q => q ≠ w5.heap.size) Hxt (fun q h => h))) (fun _ h _ => h), Bxt, Bxt, Xt, Hin2c.out.keep (Held.kept (Held.mono (a := w5) (S := fun q => q ≠ w5.heap.size) Hxt (fun q h => h))) (fun _ h _ => h), by omega⟩
  case rest =>
    rintro b5 a4 c4 ka5 kc5 la5 lc5 wy ⟨hB5, hin5, hB0, hB2, hxy, hin2, hb5⟩
    have Hin5 := Lib.hid hin5
    have Hin2 := Lib.hid hin2
    clear hin5 hin2
    have hb5l := hB5.lt
    have hc0 := hB0.cells; have hf0 := hB0.free; have hl0 := hB0.lt
    go_wp2_with fail
    (refine (doOps_any x ka0 kc0 la0 lc0 a cap l n _ Hn (hl.ext Xt) hs0 Hs1.out hn2 (fun q => q < w.heap.size) (Hin0.out.ext Xt) (Hops.out.ext Xt)).mono ?_)
    rw [Hm.out]
    rintro e w6 ⟨ka7, kc7, la7, lc7, rfl, hin7, h6⟩
    have hz6 : b5 < w6.heap.size := Nat.lt_of_lt_of_le hb5l (Ext.size (a := wy) Xt)
    have Hin7 := Lib.hid (show u.In w6 (fun q => q ≠ b5 ∧ q ≠ w6.heap.size) ka7 kc7 la7 lc7 from hin7.mono fun q h hl => ⟨by rcases h with h | h; omega; (try simp at h); omega, Nat.ne_of_lt hl⟩)
    have hy6 : Ext wy w6 := Xt
    have Hin5 := Lib.hid (show u.In w6 (fun q => q ≠ b5 ∧ q ≠ w6.heap.size) ka5 kc5 la5 lc5 from (Hin5.out.ext hy6).mono fun q h hl => ⟨h, Nat.ne_of_lt hl⟩)
    have Hin2 := Lib.hid (show x.In w6 (fun q => q ≠ b5 ∧ q ≠ w6.heap.size) ka2 kc2 la2 lc2 from (Hin2.out.ext hy6).mono fun q h hl => ⟨h, Nat.ne_of_lt hl⟩)
    have hB0 := Box.ext hy6 hB0
    have hB2 := Box.ext hy6 hB2
    have hB5 := Box.ext hy6 hB5
    have hx6 := hxy.trans hy6
    clear hin7 h6 hy6 hxy hc0 hf0 hl0
    go_upto_region 4 with fail
    refine gen_world (R := fun wx => Box wx w.heap.size #[.int .i64 x.k, .int .i64 x.n, .string x.s, .slice ka0 x.keys.length kc0, .slice la0 x.l.length lc0] 25 ∧ Box wx w1.heap.size #[.int .i64 x.k, .int .i64 x.n, .string x.s, .slice ka2 x.keys.length kc2, .slice la2 x.l.length lc2] 25 ∧ Box wx b5 #[.int .i64 u.k, .int .i64 u.n, .string u.s, .slice ka5 u.keys.length kc5, .slice la5 u.l.length lc5] 25 ∧ Box wx w6.heap.size #[.int .i64 u.k, .int .i64 u.n, .string u.s, .slice ka7 u.keys.length kc7, .slice la7 u.l.length lc7] 25 ∧ x.In wx (fun q => q ≠ b5 ∧ q ≠ w6.heap.size) ka2 kc2 la2 lc2 ∧ u.In wx (fun q => q ≠ b5 ∧ q ≠ w6.heap.size) ka5 kc5 la5 lc5 ∧ u.In wx (fun q => q ≠ b5 ∧ q ≠ w6.heap.size) ka7 kc7 la7 lc7 ∧ Ext w wx) ⟨Bxt, Bxt, Bxt, Bxt, Hin2.out.ext Xt, Hin5.out.ext Xt, Hin7.out.ext Xt, Xt⟩ ?_
    clear hB0 hB2 hB5 Hin2 Hin5 Hin7 hx6
    rintro wc ⟨hB0, hB2, hB5, hB7, hin2, hin5, hin7, hxc⟩
    have Hin2 := Lib.hid hin2
    have Hin5 := Lib.hid hin5
    have Hin7 := Lib.hid hin7
    clear hin2 hin5 hin7
    have hc5 := hB5.cells; have hf5 := hB5.free; have hl5 := hB5.lt
    have hc7 := hB7.cells; have hf7 := hB7.free; have hl7 := hB7.lt
    go_wp2_with fail
    (refine (sameR_yes u u rfl (by omega) ka5 kc5 la5 lc5 ka7 kc7 la7 lc7 (fun q => q ≠ b5 ∧ q ≠ w6.heap.size) (fun q => q ≠ b5 ∧ q ≠ w6.heap.size) _ (Hin5.out.ext Xt) (Hin7.out.ext Xt)).mono ?_)
    rintro e w7 ⟨rfl, h_⟩
    clear hc5 hf5 hl5 hc7 hf7 hl7
    have hy_ : Ext wc w7 := Xt
    have hB0 := Box.ext hy_ hB0
    have hB2 := Box.ext hy_ hB2
    have hB5 := Box.ext hy_ hB5
    have hB7 := Box.ext hy_ hB7
    have Hin2 := Lib.hid (Hin2.out.ext hy_)
    have Hin5 := Lib.hid (Hin5.out.ext hy_)
    have Hin7 := Lib.hid (Hin7.out.ext hy_)
    have hx_w7 := hxc.trans hy_
    clear h_ hy_ hxc
    have hc2 := hB2.cells; have hf2 := hB2.free; have hl2 := hB2.lt
    have hc0 := hB0.cells; have hf0 := hB0.free; have hl0 := hB0.lt
    go_wp2_with fail
    (refine (sameR_yes x x rfl (by omega) ka2 kc2 la2 lc2 ka0 kc0 la0 lc0 (fun q => q ≠ b5 ∧ q ≠ w6.heap.size) (fun q => q < w.heap.size) _ (Hin2.out.ext Xt) (Hin0.out.ext Xt)).mono ?_)
    rintro e w8 ⟨rfl, h_⟩
    clear hc2 hf2 hl2 hc0 hf0 hl0
    have hy_ : Ext w7 w8 := Xt
    have hB0 := Box.ext hy_ hB0
    have hB2 := Box.ext hy_ hB2
    have hB5 := Box.ext hy_ hB5
    have hB7 := Box.ext hy_ hB7
    have Hin2 := Lib.hid (Hin2.out.ext hy_)
    have Hin5 := Lib.hid (Hin5.out.ext hy_)
    have Hin7 := Lib.hid (Hin7.out.ext hy_)
    have hx_w8 := hx_w7.trans hy_
    clear h_ hy_ hx_w7
    by_cases hn0 : n = 0
    · have hnb : ¬ (0 : Int) < (n : Int) := by omega
      clear hn0
      have hc5 := hB5.cells; have hf5 := hB5.free; have hl5 := hB5.lt
      have hc7 := hB7.cells; have hf7 := hB7.free; have hl7 := hB7.lt
      go_wp2_with fail
      (refine (sameR_yes u u rfl (by omega) ka5 kc5 la5 lc5 ka7 kc7 la7 lc7 (fun q => q ≠ b5 ∧ q ≠ w6.heap.size) (fun q => q ≠ b5 ∧ q ≠ w6.heap.size) _ (Hin5.out.ext Xt) (Hin7.out.ext Xt)).mono ?_)
      rintro e wz ⟨rfl, h_⟩
      clear hc5 hf5 hl5 hc7 hf7 hl7
      have hx_z : Ext w wz := Xt
      go_wp2_with fail
      (refine (patches_law _ (hl.ext Xt)).mono ?_)
      rintro e wz2 ⟨rfl, h_z2⟩
      go_wp2_with fail
      go_ret
      exact ⟨rfl, Xt⟩
    · have hnb : (0 : Int) < (n : Int) := by omega
      have hnb2 : 0 < n := by omega
      have hnb3 : ¬ n = 0 := hn0
      have hlt2 : 0 < l.length := by rw [Hn.out]; exact hnb2
      obtain ⟨b, o, rfl, hSb, hit⟩ := Hops.out.resolve_left (by intro e; rw [e] at hlt2; simp at hlt2)
      obtain ⟨d0, d1, d2, ka3, kc3, la3, lc3, ⟨d3, d4, d5, d6, d7⟩, hin3⟩ := hit 0 hlt2
      obtain ⟨hq1, hq2, hq3⟩ := ops_item hlt2 Hs1.out
      obtain ⟨⟨qk, qp, qf, qv⟩, hq⟩ : ∃ q, l[0] = q := ⟨_, rfl⟩
      rw [hq] at d0 d1 d2 d3 d4 d5 d6 d7 hin3 hq1 hq2 hq3
      simp only [Nat.zero_mul, Nat.add_zero] at d0 d1 d2 d3 d4 d5 d6 d7 hin3 hq1 hq2 hq3
      have Hin3 := Lib.hid hin3
      obtain ⟨r, hr⟩ : ∃ r, (oneV x ⟨qk, qp, qf, qv⟩).1 = r := ⟨_, rfl⟩
      obtain ⟨e2, he2⟩ : ∃ e, (oneV x ⟨qk, qp, qf, qv⟩).2 = e := ⟨_, rfl⟩
      have Hone := Lib.hid (show oneV x ⟨qk, qp, qf, qv⟩ = (r, e2) from Prod.ext hr he2)
      have hrs := one_size x ⟨qk, qp, qf, qv⟩
      rw [hr] at hrs
      have hbe2 : (e2 == e2) = true := by simp
      clear hin3 hit hq hr he2 hn0
      go_upto_region 7 with fail
      refine gen_world (R := fun wx => Box wx w.heap.size #[.int .i64 x.k, .int .i64 x.n, .string x.s, .slice ka0 x.keys.length kc0, .slice la0 x.l.length lc0] 25 ∧ Box wx w1.heap.size #[.int .i64 x.k, .int .i64 x.n, .string x.s, .slice ka2 x.keys.length kc2, .slice la2 x.l.length lc2] 25 ∧ Box wx b5 #[.int .i64 u.k, .int .i64 u.n, .string u.s, .slice ka5 u.keys.length kc5, .slice la5 u.l.length lc5] 25 ∧ Box wx w6.heap.size #[.int .i64 u.k, .int .i64 u.n, .string u.s, .slice ka7 u.keys.length kc7, .slice la7 u.l.length lc7] 25 ∧ x.In wx (fun q => q ≠ b5 ∧ q ≠ w6.heap.size) ka2 kc2 la2 lc2 ∧ Ext w wx) ⟨Bxt, Bxt, Bxt, Bxt, Hin2.out.ext Xt, Xt⟩ ?_
      clear hB0 hB2 hB5 hB7 Hin2 Hin5 Hin7 hx_w8
      rintro wd ⟨hB0, hB2, hB5, hB7, hin2, hxd⟩
      have Hin2 := Lib.hid hin2
      clear hin2
      have D0 := Lib.hid d0
      have D1 := Lib.hid d1
      have D2 := Lib.hid d2
      have D3 := Lib.hid d3
      have D4 := Lib.hid d4
      have D5 := Lib.hid d5
      have D6 := Lib.hid d6
      have D7 := Lib.hid d7
      have d0 := hxd.cell d0
      have d1 := hxd.cell d1
      have d2 := hxd.cell d2
      have d3 := hxd.cell d3
      have d4 := hxd.cell d4
      have d5 := hxd.cell d5
      have d6 := hxd.cell d6
      have d7 := hxd.cell d7
      have Sof : ∀ w', Held (fun q => q ≠ b5) wd w' → (w'.cell? ⟨w1.heap.size, 0, none⟩ = some (.int .i64 x.k) ∧ w'.cell? ⟨w1.heap.size, 1, none⟩ = some (.int .i64 x.n) ∧ w'.cell? ⟨w1.heap.size, 2, none⟩ = some (.string x.s) ∧ w'.cell? ⟨w1.heap.size, 3, none⟩ = some (.slice ka2 x.keys.length kc2) ∧ w'.cell? ⟨w1.heap.size, 4, none⟩ = some (.slice la2 x.l.length lc2) ∧ w'.cell? ⟨b, o, none⟩ = some (.int .i64 qk) ∧ w'.cell? ⟨b, o + 1, none⟩ = some (.string qp) ∧ w'.cell? ⟨b, o + 2, none⟩ = some (.string qf) ∧ w'.cell? ⟨b, o + 3, none⟩ = some (.int .i64 qv.k) ∧ w'.cell? ⟨b, o + 4, none⟩ = some (.int .i64 qv.n) ∧ w'.cell? ⟨b, o + 5, none⟩ = some (.string qv.s) ∧ w'.cell? ⟨b, o + 6, none⟩ = some (.slice ka3 qv.keys.length kc3) ∧ w'.cell? ⟨b, o + 7, none⟩ = some (.slice la3 qv.l.length lc3)) := fun w' e => ⟨e.kept.cell (by dsimp only; omega) (hB2.cells 0), e.kept.cell (by dsimp only; omega) (hB2.cells 1), e.kept.cell (by dsimp only; omega) (hB2.cells 2), e.kept.cell (by dsimp only; omega) (hB2.cells 3), e.kept.cell (by dsimp only; omega) (hB2.cells 4), e.kept.cell (by dsimp only; omega) d0, e.kept.cell (by dsimp only; omega) d1, e.kept.cell (by dsimp only; omega) d2, e.kept.cell (by dsimp only; omega) d3, e.kept.cell (by dsimp only; omega) d4, e.kept.cell (by dsimp only; omega) d5, e.kept.cell (by dsimp only; omega) d6, e.kept.cell (by dsimp only; omega) d7⟩
      refine wp_region_till (S := fun w' => w'.cell? ⟨w1.heap.size, 0, none⟩ = some (.int .i64 x.k) ∧ w'.cell? ⟨w1.heap.size, 1, none⟩ = some (.int .i64 x.n) ∧ w'.cell? ⟨w1.heap.size, 2, none⟩ = some (.string x.s) ∧ w'.cell? ⟨w1.heap.size, 3, none⟩ = some (.slice ka2 x.keys.length kc2) ∧ w'.cell? ⟨w1.heap.size, 4, none⟩ = some (.slice la2 x.l.length lc2) ∧ w'.cell? ⟨b, o, none⟩ = some (.int .i64 qk) ∧ w'.cell? ⟨b, o + 1, none⟩ = some (.string qp) ∧ w'.cell? ⟨b, o + 2, none⟩ = some (.string qf) ∧ w'.cell? ⟨b, o + 3, none⟩ = some (.int .i64 qv.k) ∧ w'.cell? ⟨b, o + 4, none⟩ = some (.int .i64 qv.n) ∧ w'.cell? ⟨b, o + 5, none⟩ = some (.string qv.s) ∧ w'.cell? ⟨b, o + 6, none⟩ = some (.slice ka3 qv.keys.length kc3) ∧ w'.cell? ⟨b, o + 7, none⟩ = some (.slice la3 qv.l.length lc3)) (c := 9) (by kernel_rfl) ?_
      (refine wpAnyT_take (i := 0) (v := ?_) [9] (Array.getElem?_eq_getElem (by decide)) (by kernel_rfl) (by kernel_rfl) (by kernel_rfl) (by kernel_rfl) rfl rfl (by kernel_rfl) (fun _ _ _ h => h) (Or.inl ⟨by kernel_rfl, ?_⟩) (Sof _ Hxt) ?_); rotate_left; (focus (intro w hSw; (try dsimp only at hSw); (try simp only [rl]); go_simp; (try with_reducible rfl))); (try simp only [rl])
      (refine wpAnyT_take (i := 1) (v := ?_) [9] (Array.getElem?_eq_getElem (by decide)) (by kernel_rfl) (by kernel_rfl) (by kernel_rfl) (by kernel_rfl) rfl rfl (by kernel_rfl) (fun _ _ _ h => h) (Or.inl ⟨by kernel_rfl, ?_⟩) (Sof _ Hxt) ?_); rotate_left; (focus (intro w hSw; (try dsimp only at hSw); (try simp only [rl]); go_simp; (try with_reducible rfl))); (try simp only [rl])
      (refine wpAnyT_take (i := 2) (v := ?_) [9] (Array.getElem?_eq_getElem (by decide)) (by kernel_rfl) (by kernel_rfl) (by kernel_rfl) (by kernel_rfl) rfl rfl (by kernel_rfl) (fun _ _ _ h => h) (Or.inl ⟨by kernel_rfl, ?_⟩) (Sof _ Hxt) ?_); rotate_left; (focus (intro w hSw; (try dsimp only at hSw); (try simp only [rl]); go_simp; (try with_reducible rfl))); (try simp only [rl])
      (refine wpAnyT_take (i := 3) (v := ?_) [9] (Array.getElem?_eq_getElem (by decide)) (by kernel_rfl) (by kernel_rfl) (by kernel_rfl) (by kernel_rfl) rfl rfl (by kernel_rfl) (fun _ _ _ h => h) (Or.inl ⟨by kernel_rfl, ?_⟩) (Sof _ Hxt) ?_); rotate_left; (focus (intro w hSw; (try dsimp only at hSw); (try simp only [rl]); go_simp; (try with_reducible rfl))); (try simp only [rl])
      (refine wpAnyT_one (i := 4) (by kernel_rfl) (Array.getElem?_eq_getElem (by decide)) fun K hK => ?_); (try simp only [rl])
      (try go_simp)
      (refine (one_any x ka2 kc2 la2 lc2 qk qp qf qv ka3 kc3 la3 lc3 _ (hl.ext Xt) hs0 hq3 hq1 hq2 (fun q => q ≠ b5 ∧ q ≠ w6.heap.size) (Hin2.out.ext Xt) ((Hin3.out.ext Xt).mono fun q h _ => by exact ⟨by omega, by omega⟩)).mono ?_)
      rw [Hone.out]
      rintro e w9 ⟨ka9, kc9, la9, lc9, rfl, hin_, h_⟩
      (try go_simp)
      have hy_ : Ext wd w9 := Xt
      have hz7 := hB7.lt
      have Hin9 := Lib.hid (show r.In w9 (fun q => q ≠ b5 ∧ q ≠ w6.heap.size) ka9 kc9 la9 lc9 from hin_.mono fun q h hl => by rcases h with h | h; exact h; (try simp at h); exact ⟨by omega, by omega⟩)
      have hB0 := Box.ext hy_ hB0
      have hB2 := Box.ext hy_ hB2
      have hB5 := Box.ext hy_ hB5
      have hB7 := Box.ext hy_ hB7
      have hx_ := hxd.trans hy_
      have hhw_ : Held (fun q => q ≠ b5) wd w9 := hy_.held _
      have hhn_ : Held (fun q => q ≠ b5 ∧ q ≠ w6.heap.size) wd w9 := hy_.held _
      clear hin_ h_
      refine hK.out _ _ (fun _ => Sof _ Hxt) ?_; clear hK K; (try simp only [rl])
      (refine wpAnyT_take (i := 5) (v := ?_) [9] (Array.getElem?_eq_getElem (by decide)) (by kernel_rfl) (by kernel_rfl) (by kernel_rfl) (by kernel_rfl) rfl rfl (by kernel_rfl) (fun _ _ _ h => h) (Or.inl ⟨by kernel_rfl, ?_⟩) (Sof _ Hxt) ?_); rotate_left; (focus (intro w hSw; (try dsimp only at hSw); (try simp only [rl]); go_simp; (try with_reducible rfl))); (try simp only [rl])
      (refine wpAnyT_take (i := 6) (v := ?_) [9] (Array.getElem?_eq_getElem (by decide)) (by kernel_rfl) (by kernel_rfl) (by kernel_rfl) (by kernel_rfl) rfl rfl (by kernel_rfl) (fun _ _ _ h => h) (Or.inl ⟨by kernel_rfl, ?_⟩) (Sof _ Hxt) ?_); rotate_left; (focus (intro w hSw; (try dsimp only at hSw); (try simp only [rl]); go_simp; (try with_reducible rfl))); (try simp only [rl])
      (refine wpAnyT_take (i := 7) (v := ?_) [9] (Array.getElem?_eq_getElem (by decide)) (by kernel_rfl) (by kernel_rfl) (by kernel_rfl) (by kernel_rfl) rfl rfl (by kernel_rfl) (fun _ _ _ h => h) (Or.inl ⟨by kernel_rfl, ?_⟩) (Sof _ Hxt) ?_); rotate_left; (focus (intro w hSw; (try dsimp only at hSw); (try simp only [rl]); go_simp; (try with_reducible rfl))); (try simp only [rl])
      have hc5 := hB5.cells; have hf5 := hB5.free; have hl5 := hB5.lt
      (refine wpAnyT_one (i := 8) (by kernel_rfl) (Array.getElem?_eq_getElem (by decide)) fun K hK => ?_); (try simp only [rl])
      go_simp
      refine hK.out _ _ (fun _ => Sof _ Hxt) ?_; clear hK K; (try simp only [rl])
      (refine wpAnyT_one (i := 9) (by kernel_rfl) (Array.getElem?_eq_getElem (by decide)) fun K hK => ?_); (try simp only [rl])
      go_simp
      (refine hK.out _ _ (fun h => Bool.noConfusion (show true = false from h)) ?_); clear hK K; (try simp only [rl])
      refine wpAnyT_done (by kernel_rfl) ?_ _
      go_upto_region 8 with fail
      refine gen_world (R := fun wx => Box wx w.heap.size #[.int .i64 x.k, .int .i64 x.n, .string x.s, .slice ka0 x.keys.length kc0, .slice la0 x.l.length lc0] 25 ∧ Box wx b5 #[.int .i64 r.k, .int .i64 r.n, .string r.s, .slice ka9 r.keys.length kc9, .slice la9 r.l.length lc9] 25 ∧ Box wx w6.heap.size #[.int .i64 u.k, .int .i64 u.n, .string u.s, .slice ka7 u.keys.length kc7, .slice la7 u.l.length lc7] 25 ∧ r.In wx (fun q => q ≠ b5 ∧ q ≠ w6.heap.size) ka9 kc9 la9 lc9 ∧ Ext w wx) ⟨Bxt, Bxt, Bxt, Hin9.out.keep (Held.kept (T := (fun q => q ≠ b5 ∧ q ≠ w6.heap.size)) (a := w9) Hxt) (fun _ h _ => h), Xt⟩ ?_
      clear hB0 hB2 hB5 hB7 Hin2 Hin9 hx_ hxd hy_ hhw_ hhn_ Sof hc5 hf5 hl5
      rintro we ⟨hB0, hB9, hB7, hin9, hxe⟩
      have Hin9 := Lib.hid hin9
      clear hin9
      have d0 := hxe.cell (show w.cell? _ = some _ from D0.out)
      have d1 := hxe.cell (show w.cell? _ = some _ from D1.out)
      have d2 := hxe.cell (show w.cell? _ = some _ from D2.out)
      have d3 := hxe.cell (show w.cell? _ = some _ from D3.out)
      have d4 := hxe.cell (show w.cell? _ = some _ from D4.out)
      have d5 := hxe.cell (show w.cell? _ = some _ from D5.out)
      have d6 := hxe.cell (show w.cell? _ = some _ from D6.out)
      have d7 := hxe.cell (show w.cell? _ = some _ from D7.out)
      have Sof : ∀ w', Held (fun q => q ≠ w6.heap.size) we w' → (w'.cell? ⟨w.heap.size, 0, none⟩ = some (.int .i64 x.k) ∧ w'.cell? ⟨w.heap.size, 1, none⟩ = some (.int .i64 x.n) ∧ w'.cell? ⟨w.heap.size, 2, none⟩ = some (.string x.s) ∧ w'.cell? ⟨w.heap.size, 3, none⟩ = some (.slice ka0 x.keys.length kc0) ∧ w'.cell? ⟨w.heap.size, 4, none⟩ = some (.slice la0 x.l.length lc0) ∧ w'.cell? ⟨b, o, none⟩ = some (.int .i64 qk) ∧ w'.cell? ⟨b, o + 1, none⟩ = some (.string qp) ∧ w'.cell? ⟨b, o + 2, none⟩ = some (.string qf) ∧ w'.cell? ⟨b, o + 3, none⟩ = some (.int .i64 qv.k) ∧ w'.cell? ⟨b, o + 4, none⟩ = some (.int .i64 qv.n) ∧ w'.cell? ⟨b, o + 5, none⟩ = some (.string qv.s) ∧ w'.cell? ⟨b, o + 6, none⟩ = some (.slice ka3 qv.keys.length kc3) ∧ w'.cell? ⟨b, o + 7, none⟩ = some (.slice la3 qv.l.length lc3)) := fun w' e => ⟨e.kept.cell (by dsimp only; omega) (hB0.cells 0), e.kept.cell (by dsimp only; omega) (hB0.cells 1), e.kept.cell (by dsimp only; omega) (hB0.cells 2), e.kept.cell (by dsimp only; omega) (hB0.cells 3), e.kept.cell (by dsimp only; omega) (hB0.cells 4), e.kept.cell (by dsimp only; omega) d0, e.kept.cell (by dsimp only; omega) d1, e.kept.cell (by dsimp only; omega) d2, e.kept.cell (by dsimp only; omega) d3, e.kept.cell (by dsimp only; omega) d4, e.kept.cell (by dsimp only; omega) d5, e.kept.cell (by dsimp only; omega) d6, e.kept.cell (by dsimp only; omega) d7⟩
      refine wp_region_till (S := fun w' => w'.cell? ⟨w.heap.size, 0, none⟩ = some (.int .i64 x.k) ∧ w'.cell? ⟨w.heap.size, 1, none⟩ = some (.int .i64 x.n) ∧ w'.cell? ⟨w.heap.size, 2, none⟩ = some (.string x.s) ∧ w'.cell? ⟨w.heap.size, 3, none⟩ = some (.slice ka0 x.keys.length kc0) ∧ w'.cell? ⟨w.heap.size, 4, none⟩ = some (.slice la0 x.l.length lc0) ∧ w'.cell? ⟨b, o, none⟩ = some (.int .i64 qk) ∧ w'.cell? ⟨b, o + 1, none⟩ = some (.string qp) ∧ w'.cell? ⟨b, o + 2, none⟩ = some (.string qf) ∧ w'.cell? ⟨b, o + 3, none⟩ = some (.int .i64 qv.k) ∧ w'.cell? ⟨b, o + 4, none⟩ = some (.int .i64 qv.n) ∧ w'.cell? ⟨b, o + 5, none⟩ = some (.string qv.s) ∧ w'.cell? ⟨b, o + 6, none⟩ = some (.slice ka3 qv.keys.length kc3) ∧ w'.cell? ⟨b, o + 7, none⟩ = some (.slice la3 qv.l.length lc3)) (c := 9) (by kernel_rfl) ?_
      (refine wpAnyT_take (i := 0) (v := ?_) [9] (Array.getElem?_eq_getElem (by decide)) (by kernel_rfl) (by kernel_rfl) (by kernel_rfl) (by kernel_rfl) rfl rfl (by kernel_rfl) (fun _ _ _ h => h) (Or.inl ⟨by kernel_rfl, ?_⟩) (Sof _ Hxt) ?_); rotate_left; (focus (intro w hSw; (try dsimp only at hSw); (try simp only [rl]); go_simp; (try with_reducible rfl))); (try simp only [rl])
      (refine wpAnyT_take (i := 1) (v := ?_) [9] (Array.getElem?_eq_getElem (by decide)) (by kernel_rfl) (by kernel_rfl) (by kernel_rfl) (by kernel_rfl) rfl rfl (by kernel_rfl) (fun _ _ _ h => h) (Or.inl ⟨by kernel_rfl, ?_⟩) (Sof _ Hxt) ?_); rotate_left; (focus (intro w hSw; (try dsimp only at hSw); (try simp only [rl]); go_simp; (try with_reducible rfl))); (try simp only [rl])
      (refine wpAnyT_take (i := 2) (v := ?_) [9] (Array.getElem?_eq_getElem (by decide)) (by kernel_rfl) (by kernel_rfl) (by kernel_rfl) (by kernel_rfl) rfl rfl (by kernel_rfl) (fun _ _ _ h => h) (Or.inl ⟨by kernel_rfl, ?_⟩) (Sof _ Hxt) ?_); rotate_left; (focus (intro w hSw; (try dsimp only at hSw); (try simp only [rl]); go_simp; (try with_reducible rfl))); (try simp only [rl])
      (refine wpAnyT_take (i := 3) (v := ?_) [9] (Array.getElem?_eq_getElem (by decide)) (by kernel_rfl) (by kernel_rfl) (by kernel_rfl) (by kernel_rfl) rfl rfl (by kernel_rfl) (fun _ _ _ h => h) (Or.inl ⟨by kernel_rfl, ?_⟩) (Sof _ Hxt) ?_); rotate_left; (focus (intro w hSw; (try dsimp only at hSw); (try simp only [rl]); go_simp; (try with_reducible rfl))); (try simp only [rl])
      (refine wpAnyT_one (i := 4) (by kernel_rfl) (Array.getElem?_eq_getElem (by decide)) fun K hK => ?_); (try simp only [rl])
      (try go_simp)
      (refine (doOp_any x ka0 kc0 la0 lc0 qk qp qf qv ka3 kc3 la3 lc3 _ (hl.ext Xt) hs0 hq3 hq1 hq2 (fun q => q ≠ b5 ∧ q ≠ w6.heap.size) ((Hin0.out.ext Xt).mono fun q h _ => ⟨by omega, by omega⟩) ((Hin3.out.ext Xt).mono fun q h _ => by exact ⟨by omega, by omega⟩)).mono ?_)
      rw [Hone.out]
      rintro e w10 ⟨ka10, kc10, la10, lc10, rfl, hin_, h_⟩
      (try go_simp)
      have hy_ : Ext we w10 := Xt
      have hz7 := hB7.lt
      have Hin10 := Lib.hid (show r.In w10 (fun q => q ≠ b5 ∧ q ≠ w6.heap.size) ka10 kc10 la10 lc10 from hin_.mono fun q h hl => by rcases h with h | h; exact h; (try simp at h); exact ⟨by omega, by omega⟩)
      have hB9 := Box.ext hy_ hB9
      have hB7 := Box.ext hy_ hB7
      have hx_ := hxe.trans hy_
      have hhw_ : Held (fun q => q ≠ w6.heap.size) we w10 := hy_.held _
      have hhn_ : Held (fun q => q ≠ b5 ∧ q ≠ w6.heap.size) we w10 := hy_.held _
      clear hin_ h_
      refine hK.out _ _ (fun _ => Sof _ Hxt) ?_; clear hK K; (try simp only [rl])
      (refine wpAnyT_take (i := 5) (v := ?_) [9] (Array.getElem?_eq_getElem (by decide)) (by kernel_rfl) (by kernel_rfl) (by kernel_rfl) (by kernel_rfl) rfl rfl (by kernel_rfl) (fun _ _ _ h => h) (Or.inl ⟨by kernel_rfl, ?_⟩) (Sof _ Hxt) ?_); rotate_left; (focus (intro w hSw; (try dsimp only at hSw); (try simp only [rl]); go_simp; (try with_reducible rfl))); (try simp only [rl])
      (refine wpAnyT_take (i := 6) (v := ?_) [9] (Array.getElem?_eq_getElem (by decide)) (by kernel_rfl) (by kernel_rfl) (by kernel_rfl) (by kernel_rfl) rfl rfl (by kernel_rfl) (fun _ _ _ h => h) (Or.inl ⟨by kernel_rfl, ?_⟩) (Sof _ Hxt) ?_); rotate_left; (focus (intro w hSw; (try dsimp only at hSw); (try simp only [rl]); go_simp; (try with_reducible rfl))); (try simp only [rl])
      (refine wpAnyT_take (i := 7) (v := ?_) [9] (Array.getElem?_eq_getElem (by decide)) (by kernel_rfl) (by kernel_rfl) (by kernel_rfl) (by kernel_rfl) rfl rfl (by kernel_rfl) (fun _ _ _ h => h) (Or.inl ⟨by kernel_rfl, ?_⟩) (Sof _ Hxt) ?_); rotate_left; (focus (intro w hSw; (try dsimp only at hSw); (try simp only [rl]); go_simp; (try with_reducible rfl))); (try simp only [rl])
      have hc7 := hB7.cells; have hf7 := hB7.free; have hl7 := hB7.lt
      (refine wpAnyT_one (i := 8) (by kernel_rfl) (Array.getElem?_eq_getElem (by decide)) fun K hK => ?_); (try simp only [rl])
      go_simp
      refine hK.out _ _ (fun _ => Sof _ Hxt) ?_; clear hK K; (try simp only [rl])
      (refine wpAnyT_one (i := 9) (by kernel_rfl) (Array.getElem?_eq_getElem (by decide)) fun K hK => ?_); (try simp only [rl])
      go_simp
      (refine hK.out _ _ (fun h => Bool.noConfusion (show true = false from h)) ?_); clear hK K; (try simp only [rl])
      refine wpAnyT_done (by kernel_rfl) ?_ _
      go_upto_region 9 with fail
      refine gen_world (R := fun wx => Box wx b5 #[.int .i64 r.k, .int .i64 r.n, .string r.s, .slice ka9 r.keys.length kc9, .slice la9 r.l.length lc9] 25 ∧ Box wx w6.heap.size #[.int .i64 r.k, .int .i64 r.n, .string r.s, .slice ka10 r.keys.length kc10, .slice la10 r.l.length lc10] 25 ∧ r.In wx (fun q => q ≠ b5 ∧ q ≠ w6.heap.size) ka9 kc9 la9 lc9 ∧ r.In wx (fun q => q ≠ b5 ∧ q ≠ w6.heap.size) ka10 kc10 la10 lc10 ∧ Ext w wx) ⟨Bxt, Bxt, Hin9.out.keep (Held.kept (T := (fun q => q ≠ b5 ∧ q ≠ w6.heap.size)) (a := we) Hxt) (fun _ h _ => h), Hin10.out.keep (Held.kept (T := (fun q => q ≠ b5 ∧ q ≠ w6.heap.size)) (a := w10) Hxt) (fun _ h _ => h), Xt⟩ ?_
      clear hB9 hB7 Hin9 Hin10 hx_ hxe hy_ hhw_ hhn_ Sof hc7 hf7 hl7
      rintro wf ⟨hB9, hB10, hin9, hin10, hxf⟩
      have Hin9 := Lib.hid hin9
      have Hin10 := Lib.hid hin10
      clear hin9 hin10
      have hc9 := hB9.cells; have hf9 := hB9.free; have hl9 := hB9.lt
      have hc10 := hB10.cells; have hf10 := hB10.free; have hl10 := hB10.lt
      go_wp2_with fail
      (refine (sameR_yes r r rfl (by omega) ka9 kc9 la9 lc9 ka10 kc10 la10 lc10 (fun q => q ≠ b5 ∧ q ≠ w6.heap.size) (fun q => q ≠ b5 ∧ q ≠ w6.heap.size) _ (Hin9.out.ext Xt) (Hin10.out.ext Xt)).mono ?_)
      rintro e wz ⟨rfl, h_⟩
      clear hc9 hf9 hl9 hc10 hf10 hl10
      have hx_z : Ext w wz := Xt
      go_wp2_with fail
      (refine (patches_law _ (hl.ext Xt)).mono ?_)
      rintro e wz2 ⟨rfl, h_z2⟩
      go_wp2_with fail
      go_ret
      exact ⟨rfl, Xt⟩
end
end Go.Proofs.YtnbappeiebameaaGreatDoor.lawPatchDoes
