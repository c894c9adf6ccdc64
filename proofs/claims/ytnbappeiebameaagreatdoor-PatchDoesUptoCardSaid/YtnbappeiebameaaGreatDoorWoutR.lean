/- The walk of the reference's WithoutMember. -/
import Derived.Test.YtnbappeiebameaaGreatDoorWithR
import Derived.Test.YtnbappeiebameaaGreatDoorOwnP
import Derived.Test.YtnbappeiebameaaGreatDoorPkA
import Derived.Deep.RegionLaw
set_option linter.all false
namespace Go.Proofs.YtnbappeiebameaaGreatDoor
open Go.RowKit
attribute [local go_sem ↓] Go.wp_at_zero Go.wp_at_succ

set_option maxRecDepth 100000 in
set_option maxHeartbeats 16000000 in
theorem withoutR_any (x : V) (ka : Option Addr) (kc : Nat) (la : Option Addr) (lc : Nat) (key : ByteArray) (S : Nat → Prop) (w : World) (hsz : x.size ≤ 1073741824) (h5 : x.k = 5) (hln : x.keys.length = x.l.length) (h0 : x.n = 0) (hs0 : x.s = ⟨#[]⟩) (hr : Rises x.keys) (hin : x.In w S ka kc la lc) :
    Calls Tryz.prog 39 #[x.val ka kc la lc, .string key] w (RetV S (x.del key) w) := by
  have hl := x.len_l
  have hlk := x.len_keys
  obtain ⟨i0, hi, hz0, hz1, hz2⟩ := info_parts Tryz.infoS
  obtain ⟨j0, hj, hy0, hy1, hy2⟩ := info_parts Tryz.infoV
  rw [← del_lists h5 hln h0 hs0]
  obtain ⟨p, hp⟩ : ∃ p, posOf x.keys key = p := ⟨_, rfl⟩
  obtain ⟨hs, hhs⟩ : ∃ hs, hasB x.keys key = hs := ⟨_, rfl⟩
  have Hf := Lib.hid (fun k (h : k < x.keys.length) => with_facts hr hp hhs h)
  have hpl : p ≤ x.keys.length := hp ▸ posOf_le _ _
  have Hhp := Lib.hid (show hs = true → p < x.keys.length from fun h => hp ▸ hasB_lt (hhs.trans h))
  rw [hp, hhs]
  clear hp hhs hr h0 hs0 h5
  obtain ⟨S0, hS0⟩ : ∃ S0 : Nat → Prop, S0 = fun b => b < w.heap.size ∧ S b := ⟨_, rfl⟩
  have HS0 : Hid (∀ b, S0 b → b < w.heap.size) := by rw [hS0]; exact fun b h => h.1
  have HS1 : Hid (∀ b, S0 b → S b) := by rw [hS0]; exact fun b h => h.2
  have hin2 : x.In w S0 ka kc la lc := by rw [hS0]; exact hin.mono fun b h hl => ⟨hl, h⟩
  clear hS0 hin
  go_enter Tryz.func39, Tryz.ntmps39
  go_upto_region 2 with fail
  refine gen_world (R := fun wx => Box wx (w.heap.size) #[.int .i64 x.k, .int .i64 x.n, .string x.s, .slice ka x.keys.length kc, .slice la x.l.length lc] 25 ∧ Box wx (w.heap.size + 1) #[.int .i64 0, .int .i64 0, .string ⟨#[]⟩, .slice none 0 0, .slice none 0 0] 25 ∧ Box wx (w.heap.size + 2) #[.int .i64 5, .int .i64 0, .string ⟨#[]⟩, .slice none 0 0, .slice none 0 0] 25 ∧ Ext w wx) ⟨Bxt, Bxt, Bxt, Xt⟩ ?_
  rintro wb ⟨hC0, hC1, hC2, hxb⟩
  have hzb := hC2.lt
  have hc0 := hC0.cells; have hf0 := hC0.free; have hl0 := hC0.lt
  go_wp2_with fail
  clear hc0 hf0 hl0
  go_loopg [6, 7, 12] x.keys.length (fun g _ _ i wr => ∃ (k n : Nat) (a2 : Option Addr) (c2 : Nat) (a3 : Option Addr) (c3 : Nat), k ≤ x.keys.length ∧ i = .int .i64 k ∧ g = x.keys.length - k ∧ n ≤ k ∧ Hid (OwnS wr wb.heap.size (.slice a2 n c2) n (delTo p hs x.keys k)) ∧ Hid (OwnI wr wb.heap.size S0 (.slice a3 n c3) n (delTo p hs x.l k)) ∧ Box wr (w.heap.size + 2) #[.int .i64 5, .int .i64 0, .string ⟨#[]⟩, .slice a2 n c2, .slice a3 n c3] 25 ∧ Ext w wr ∧ Held (fun b => b < wb.heap.size ∧ b ≠ w.heap.size + 2) wb wr)
  case atStart => exact ⟨0, 0, none, 0, none, 0, by omega, rfl, rfl, by omega, Lib.hid (by rw [delTo_zero]; exact OwnS.nil _ _), Lib.hid (by rw [delTo_zero]; exact OwnI.nil _ _ _), hC2, hxb, Held.refl _ _⟩
  case round =>
    obtain ⟨k, n, a2, c2, a3, c3, hk, rfl, rfl, hn, HS, HI, hB, hx, hh⟩ := hrel
    have hszr := hh.size
    have hB0 := Box.held hh hC0 (by constructor <;> omega)
    have hc0 := hB0.cells; have hf0 := hB0.free; have hl0 := hB0.lt
    have hc3 := hB.cells; have hf3 := hB.free; have hl3 := hB.lt
    by_cases hlt : k < x.keys.length
    · have hlt2 : k < x.l.length := by omega
      obtain ⟨kb0, ko0, rfl, hSk, e0⟩ := hin2.key hlt
      have e0 := hx.cell e0
      obtain ⟨b, o, rfl, hSb, ka', kc', la', lc', ⟨d0, d1, d2, d3, d4⟩, hin'⟩ := hin2.item hlt2
      have hbw := HS0.out _ hSb
      have d0 := hx.cell d0; have d1 := hx.cell d1; have d2 := hx.cell d2; have d3 := hx.cell d3; have d4 := hx.cell d4
      have hki0 : (0 : Int) ≤ (k : Int) := by omega
      have hki1 : (k : Int) < (x.l.length : Int) := by omega
      have hki2 : (k : Int) < (x.keys.length : Int) := by omega
      have Hval : Hid (x.l[k].In wr (fun b => b < wb.heap.size ∧ S0 b) ka' kc' la' lc') := Lib.hid ((hin'.mono (fun b h hl => ⟨by omega, h⟩)).ext hx)
      have hf := Hf.out k hlt
      by_cases hsk : k = p ∧ hs = true
      · obtain ⟨f2, f3⟩ := hf.2.2.1 hsk.1 hsk.2
        have Hsk := Lib.hid hsk
        clear hf hsk
        go_wp2_with fail
        go_roundg (x.keys.length - (k + 1))
        case measure => omega
        case rel => exact ⟨k + 1, n, _, _, _, _, by omega, by go_num, rfl, by omega, Lib.hid (by rw [delTo_skip hlt Hsk.out.1 Hsk.out.2]; exact HS.out), Lib.hid (by rw [delTo_skip hlt2 Hsk.out.1 Hsk.out.2]; exact HI.out), hB, hx, hh⟩
      · have hsk2 : k ≠ p ∨ hs = false := by by_cases h : k = p; exact .inr (by cases hs with | true => exact absurd ⟨h, rfl⟩ hsk | false => rfl); exact .inl h
        obtain ⟨f2, f3⟩ := hf.2.2.2 hsk2
        clear hf hsk
        go_upto_region 6 with fail
        refine meet ?G7 (fun g4 cap4 g9 cap9 wy => OwnS wy wb.heap.size (.slice (some ⟨g4, 0, none⟩) (n + 1) cap4) (n + 1) ((delTo p hs x.keys k) ++ [x.keys[k]]) ∧ OwnI wy wb.heap.size S0 (.slice (some ⟨g9, 0, none⟩) (n + 1) cap9) (n + 1) ((delTo p hs x.l k) ++ [x.l[k]]) ∧
            Box wy (w.heap.size + 2) #[.int .i64 5, .int .i64 0, .string ⟨#[]⟩, .slice (some ⟨g4, 0, none⟩) (n + 1) cap4, .slice (some ⟨g9, 0, none⟩) (n + 1) cap9] 25 ∧ Ext w wy ∧ Held (fun b => b < wb.heap.size ∧ b ≠ w.heap.size + 2) wb wy) (fun cont => ?reg7) ?rest7
        case reg7 =>
          have Sof : ∀ w', Held (fun b => b < wb.heap.size) wr w' → (w'.cell? ⟨w.heap.size + 2, 3, none⟩ = some (.slice a2 n c2) ∧ w'.cell? ⟨w.heap.size + 2, 4, none⟩ = some (.slice a3 n c3) ∧ w'.cell? ⟨w.heap.size, 4, none⟩ = some (.slice (some ⟨b, o, none⟩) x.l.length lc) ∧ w'.cell? ⟨b, o + k * 5, none⟩ = some (.int .i64 x.l[k].k) ∧ w'.cell? ⟨b, o + k * 5 + 1, none⟩ = some (.int .i64 x.l[k].n) ∧ w'.cell? ⟨b, o + k * 5 + 2, none⟩ = some (.string x.l[k].s) ∧ w'.cell? ⟨b, o + k * 5 + 3, none⟩ = some (.slice ka' x.l[k].keys.length kc') ∧ w'.cell? ⟨b, o + k * 5 + 4, none⟩ = some (.slice la' x.l[k].l.length lc')) := fun w' e => ⟨e.kept.cell (by dsimp only; omega) (hB.cells 3), e.kept.cell (by dsimp only; omega) (hB.cells 4), e.kept.cell (by dsimp only; omega) (hB0.cells 4), e.kept.cell (by dsimp only; omega) d0, e.kept.cell (by dsimp only; omega) d1, e.kept.cell (by dsimp only; omega) d2, e.kept.cell (by dsimp only; omega) d3, e.kept.cell (by dsimp only; omega) d4⟩
          refine wp_region_till (S := fun w' => w'.cell? ⟨w.heap.size + 2, 3, none⟩ = some (.slice a2 n c2) ∧ w'.cell? ⟨w.heap.size + 2, 4, none⟩ = some (.slice a3 n c3) ∧ w'.cell? ⟨w.heap.size, 4, none⟩ = some (.slice (some ⟨b, o, none⟩) x.l.length lc) ∧ w'.cell? ⟨b, o + k * 5, none⟩ = some (.int .i64 x.l[k].k) ∧ w'.cell? ⟨b, o + k * 5 + 1, none⟩ = some (.int .i64 x.l[k].n) ∧ w'.cell? ⟨b, o + k * 5 + 2, none⟩ = some (.string x.l[k].s) ∧ w'.cell? ⟨b, o + k * 5 + 3, none⟩ = some (.slice ka' x.l[k].keys.length kc') ∧ w'.cell? ⟨b, o + k * 5 + 4, none⟩ = some (.slice la' x.l[k].l.length lc')) (c := 15) (by kernel_rfl) ?_
          (refine wpAnyT_take (i := 0) (v := ?_) [15] (Array.getElem?_eq_getElem (by decide)) (by kernel_rfl) (by kernel_rfl) (by kernel_rfl) (by kernel_rfl) rfl rfl (by kernel_rfl) (fun _ _ _ h => h) (Or.inl ⟨by kernel_rfl, ?_⟩) (Sof _ Hxt) ?_); rotate_left; (focus (intro w hSw; (try dsimp only at hSw); (try simp only [rl]); go_simp; (try with_reducible rfl))); (try simp only [rl])
          (refine wpAnyT_take (i := 1) (v := ?_) [15] (Array.getElem?_eq_getElem (by decide)) (by kernel_rfl) (by kernel_rfl) (by kernel_rfl) (by kernel_rfl) rfl rfl (by kernel_rfl) (fun _ _ _ h => h) (Or.inl ⟨by kernel_rfl, ?_⟩) (Sof _ Hxt) ?_); rotate_left; (focus (intro w hSw; (try dsimp only at hSw); (try simp only [rl]); go_simp; (try with_reducible rfl))); (try simp only [rl])
          (refine wpAnyT_take (i := 2) (v := ?_) [15] (Array.getElem?_eq_getElem (by decide)) (by kernel_rfl) (by kernel_rfl) (by kernel_rfl) (by kernel_rfl) rfl rfl (by kernel_rfl) (fun _ _ _ h => h) (Or.inl ⟨by kernel_rfl, ?_⟩) (Sof _ Hxt) ?_); rotate_left; (focus (intro w hSw; (try dsimp only at hSw); (try simp only [rl]); go_simp; (try with_reducible rfl))); (try simp only [rl])
          (refine wpAnyT_take (i := 5) (v := ?_) [15] (Array.getElem?_eq_getElem (by decide)) (by kernel_rfl) (by kernel_rfl) (by kernel_rfl) (by kernel_rfl) rfl rfl (by kernel_rfl) (fun _ _ _ h => h) (Or.inl ⟨by kernel_rfl, ?_⟩) (Sof _ Hxt) ?_); rotate_left; (focus (intro w hSw; (try dsimp only at hSw); (try simp only [rl]); go_simp; (try with_reducible rfl))); (try simp only [rl])
          (refine wpAnyT_take (i := 6) (v := ?_) [15] (Array.getElem?_eq_getElem (by decide)) (by kernel_rfl) (by kernel_rfl) (by kernel_rfl) (by kernel_rfl) rfl rfl (by kernel_rfl) (fun _ _ _ h => h) (Or.inl ⟨by kernel_rfl, ?_⟩) (Sof _ Hxt) ?_); rotate_left; (focus (intro w hSw; (try dsimp only at hSw); (try simp only [rl]); go_simp; (try with_reducible rfl))); (try simp only [rl])
          (refine wpAnyT_take (i := 7) (v := ?_) [8, 10, 11, 12, 13, 15] (Array.getElem?_eq_getElem (by decide)) (by kernel_rfl) (by kernel_rfl) (by kernel_rfl) (by kernel_rfl) rfl rfl (by kernel_rfl) (fun _ _ _ h => h) (Or.inl ⟨by kernel_rfl, ?_⟩) (Sof _ Hxt) ?_); rotate_left; (focus (intro w hSw; (try dsimp only at hSw); (try simp only [rl]); go_simp; (try with_reducible rfl))); (try simp only [rl])
          (refine wpAnyT_take (i := 8) (v := ?_) [10, 11, 12, 13, 15] (Array.getElem?_eq_getElem (by decide)) (by kernel_rfl) (by kernel_rfl) (by kernel_rfl) (by kernel_rfl) rfl rfl (by kernel_rfl) (fun _ _ _ h => h) (Or.inl ⟨by kernel_rfl, ?_⟩) (Sof _ Hxt) ?_); rotate_left; (focus (intro w hSw; (try dsimp only at hSw); (try simp only [rl]); go_simp; (try with_reducible rfl))); (try simp only [rl])
          (refine wpAnyT_take (i := 9) (v := ?_) [10, 11, 12, 13, 15] (Array.getElem?_eq_getElem (by decide)) (by kernel_rfl) (by kernel_rfl) (by kernel_rfl) (by kernel_rfl) rfl rfl (by kernel_rfl) (fun _ _ _ h => h) (Or.inl ⟨by kernel_rfl, ?_⟩) (Sof _ Hxt) ?_); rotate_left; (focus (intro w hSw; (try dsimp only at hSw); (try simp only [rl]); go_simp; (try with_reducible rfl))); (try simp only [rl])
          (refine wpAnyT_take (i := 10) (v := ?_) [11, 12, 13, 15] (Array.getElem?_eq_getElem (by decide)) (by kernel_rfl) (by kernel_rfl) (by kernel_rfl) (by kernel_rfl) rfl rfl (by kernel_rfl) (fun _ _ _ h => h) (Or.inl ⟨by kernel_rfl, ?_⟩) (Sof _ Hxt) ?_); rotate_left; (focus (intro w hSw; (try dsimp only at hSw); (try simp only [rl]); go_simp; (try with_reducible rfl))); (try simp only [rl])
          (refine wpAnyT_take (i := 11) (v := ?_) [12, 13, 15] (Array.getElem?_eq_getElem (by decide)) (by kernel_rfl) (by kernel_rfl) (by kernel_rfl) (by kernel_rfl) rfl rfl (by kernel_rfl) (fun _ _ _ h => h) (Or.inl ⟨by kernel_rfl, ?_⟩) (Sof _ Hxt) ?_); rotate_left; (focus (intro w hSw; (try dsimp only at hSw); (try simp only [rl]); go_simp; (try with_reducible rfl))); (try simp only [rl])
          refine wpAnyT_ready (rs := [3, 12]) (by kernel_rfl) (by simp) ?_
          refine AllReadyT.cons (Array.getElem?_eq_getElem (by decide)) (fun K hK => ?_) (AllReadyT.cons (Array.getElem?_eq_getElem (by decide)) (fun K hK => ?_) AllReadyT.nil)
          · (try simp only [rl])
            go_simp
            refine hK.out _ _ (fun _ => Sof _ Hxt) ?_; clear hK K; (try simp only [rl])
            refine wpAnyT_ready (rs := [4, 12]) (by kernel_rfl) (by simp) ?_
            refine AllReadyT.cons (Array.getElem?_eq_getElem (by decide)) (fun K hK => ?_) (AllReadyT.cons (Array.getElem?_eq_getElem (by decide)) (fun K hK => ?_) AllReadyT.nil)
            · (try simp only [rl])
              rw [if_pos (by simp [Region.wanted])]
              refine app_key (x.keys[k]) (wr.heap.size) (by rfl) (by rfl) (by rfl) HS.out HI.out Xt Hxt Bxt (by omega) (by omega) ?_
              intro g4 cap4 w4 HS4 HI4 hh4 hxf hgrow4
              have hx4 := hxf w hx (by omega)
              have hz4 := hh4.size
              clear hxf
              refine hK.out _ _ (fun _ => Sof _ Hxt) ?_; clear hK K; (try simp only [rl])
              (refine wpAnyT_take (i := 14) (v := ?_) [15] (Array.getElem?_eq_getElem (by decide)) (by kernel_rfl) (by kernel_rfl) (by kernel_rfl) (by kernel_rfl) rfl rfl (by kernel_rfl) (fun _ _ _ h => h) (Or.inl ⟨by kernel_rfl, ?_⟩) (Sof _ Hxt) ?_); rotate_left; (focus (intro w hSw; (try dsimp only at hSw); (try simp only [rl]); go_simp; (try with_reducible rfl))); (try simp only [rl])
              (refine wpAnyT_one (i := 12) (by kernel_rfl) (Array.getElem?_eq_getElem (by decide)) fun K hK => ?_); (try simp only [rl])
              go_simp
              refine hK.out _ _ (fun _ => Sof _ Hxt) ?_; clear hK K; (try simp only [rl])
              (refine wpAnyT_one (i := 13) (by kernel_rfl) (Array.getElem?_eq_getElem (by decide)) fun K hK => ?_); (try simp only [rl])
              rw [if_pos (by simp [Region.wanted])]
              refine app_val (w4.heap.size) (by rfl) (by rfl) (by rfl) HS4 HI4 Hval.out Xt Hxt Bxt (by omega) (by omega) ?_
              intro g9 cap9 w9 HS9 HI9 hh9 hxf
              have hx9 := hxf w hx4 (by omega)
              have hB9 := Box.held hh9 hB (by omega)
              clear hgrow4 hxf HS4 HI4
              have hc9 := hB9.cells; have hf9 := hB9.free; have hl9 := hB9.lt
              refine hK.out _ _ (fun _ => Sof _ Hxt) ?_; clear hK K; (try simp only [rl])
              (refine wpAnyT_one (i := 15) (by kernel_rfl) (Array.getElem?_eq_getElem (by decide)) fun K hK => ?_); (try simp only [rl])
              go_simp
              (refine hK.out _ _ (fun h => Bool.noConfusion (show true = false from h)) ?_); clear hK K; (try simp only [rl])
              (refine wpAnyT_one (i := 16) (by kernel_rfl) (Array.getElem?_eq_getElem (by decide)) fun K hK => ?_); (try simp only [rl])
              go_simp
              (refine hK.out _ _ (fun h => Bool.noConfusion (show true = false from h)) ?_); clear hK K; (try simp only [rl])
              (refine wpAnyT_one (i := 17) (by kernel_rfl) (Array.getElem?_eq_getElem (by decide)) fun K hK => ?_); (try simp only [rl])
              go_simp
              (refine hK.out _ _ (fun h => Bool.noConfusion (show true = false from h)) ?_); clear hK K; (try simp only [rl])
              refine wpAnyT_done (by kernel_rfl) ?_ _
              have HP := with_end HS9 HI9 hB9 hh hh9 hx9 HS0.out (by omega) (by omega)
              obtain ⟨wy, hwy⟩ : ∃ wy, (w9.setCell ⟨w.heap.size + 2, 3, none⟩ (Value.slice (some ⟨g4, 0, none⟩) (n + 1) cap4)).setCell ⟨w.heap.size + 2, 4, none⟩ (Value.slice (some ⟨g9, 0, none⟩) (n + 1) cap9) = wy := ⟨_, rfl⟩
              rw [hwy] at HP ⊢
              clear hwy
              generalize wr.heap.size = b3
              generalize w4.heap.size = b8
              exact cont g4 cap4 g9 cap9 b3 b8 wy HP
            · (try simp only [rl])
              go_simp
              refine hK.out _ _ (fun _ => Sof _ Hxt) ?_; clear hK K; (try simp only [rl])
              (refine wpAnyT_one (i := 4) (by kernel_rfl) (Array.getElem?_eq_getElem (by decide)) fun K hK => ?_); (try simp only [rl])
              rw [if_pos (by simp [Region.wanted])]
              refine app_key (x.keys[k]) (wr.heap.size) (by rfl) (by rfl) (by rfl) HS.out HI.out Xt Hxt Bxt (by omega) (by omega) ?_
              intro g4 cap4 w4 HS4 HI4 hh4 hxf hgrow4
              have hx4 := hxf w hx (by omega)
              have hz4 := hh4.size
              clear hxf
              have hX4 : Box w4 (wr.heap.size + 1) #[.int .i64 x.l[k].k, .int .i64 x.l[k].n, .string x.l[k].s, .slice ka' x.l[k].keys.length kc', .slice la' x.l[k].l.length lc'] 25 := Box.grown (w' := w4) Bxt hgrow4 (fun e => by have h' := (OwnS.lt HS.out _ e.symm).2; omega)
              refine hK.out _ _ (fun _ => Sof _ Hxt) ?_; clear hK K; (try simp only [rl])
              (refine wpAnyT_take (i := 14) (v := ?_) [15] (Array.getElem?_eq_getElem (by decide)) (by kernel_rfl) (by kernel_rfl) (by kernel_rfl) (by kernel_rfl) rfl rfl (by kernel_rfl) (fun _ _ _ h => h) (Or.inl ⟨by kernel_rfl, ?_⟩) (Sof _ Hxt) ?_); rotate_left; (focus (intro w hSw; (try dsimp only at hSw); (try simp only [rl]); go_simp; (try with_reducible rfl))); (try simp only [rl])
              (refine wpAnyT_one (i := 13) (by kernel_rfl) (Array.getElem?_eq_getElem (by decide)) fun K hK => ?_); (try simp only [rl])
              rw [if_pos (by simp [Region.wanted])]
              refine app_val (wr.heap.size + 1) (by rfl) (by rfl) (by rfl) HS4 HI4 Hval.out Xt Hxt Bxt (by omega) (by omega) ?_
              intro g9 cap9 w9 HS9 HI9 hh9 hxf
              have hx9 := hxf w hx4 (by omega)
              have hB9 := Box.held hh9 hB (by omega)
              clear hgrow4 hxf HS4 HI4
              have hc9 := hB9.cells; have hf9 := hB9.free; have hl9 := hB9.lt
              refine hK.out _ _ (fun _ => Sof _ Hxt) ?_; clear hK K; (try simp only [rl])
              (refine wpAnyT_one (i := 15) (by kernel_rfl) (Array.getElem?_eq_getElem (by decide)) fun K hK => ?_); (try simp only [rl])
              go_simp
              (refine hK.out _ _ (fun h => Bool.noConfusion (show true = false from h)) ?_); clear hK K; (try simp only [rl])
              (refine wpAnyT_one (i := 16) (by kernel_rfl) (Array.getElem?_eq_getElem (by decide)) fun K hK => ?_); (try simp only [rl])
              go_simp
              (refine hK.out _ _ (fun h => Bool.noConfusion (show true = false from h)) ?_); clear hK K; (try simp only [rl])
              (refine wpAnyT_one (i := 17) (by kernel_rfl) (Array.getElem?_eq_getElem (by decide)) fun K hK => ?_); (try simp only [rl])
              go_simp
              (refine hK.out _ _ (fun h => Bool.noConfusion (show true = false from h)) ?_); clear hK K; (try simp only [rl])
              refine wpAnyT_done (by kernel_rfl) ?_ _
              have HP := with_end HS9 HI9 hB9 hh hh9 hx9 HS0.out (by omega) (by omega)
              exact cont g4 cap4 g9 cap9 _ _ _ HP
          · (try simp only [rl])
            go_simp
            refine hK.out _ _ (fun _ => Sof _ Hxt) ?_; clear hK K; (try simp only [rl])
            (refine wpAnyT_one (i := 3) (by kernel_rfl) (Array.getElem?_eq_getElem (by decide)) fun K hK => ?_); (try simp only [rl])
            go_simp
            refine hK.out _ _ (fun _ => Sof _ Hxt) ?_; clear hK K; (try simp only [rl])
            (refine wpAnyT_one (i := 4) (by kernel_rfl) (Array.getElem?_eq_getElem (by decide)) fun K hK => ?_); (try simp only [rl])
            rw [if_pos (by simp [Region.wanted])]
            refine app_key (x.keys[k]) (wr.heap.size + 1) (by rfl) (by rfl) (by rfl) HS.out HI.out Xt Hxt Bxt (by omega) (by omega) ?_
            intro g4 cap4 w4 HS4 HI4 hh4 hxf hgrow4
            have hx4 := hxf w hx (by omega)
            have hz4 := hh4.size
            clear hxf
            have hX4 : Box w4 (wr.heap.size) #[.int .i64 x.l[k].k, .int .i64 x.l[k].n, .string x.l[k].s, .slice ka' x.l[k].keys.length kc', .slice la' x.l[k].l.length lc'] 25 := Box.grown (w' := w4) Bxt hgrow4 (fun e => by have h' := (OwnS.lt HS.out _ e.symm).2; omega)
            refine hK.out _ _ (fun _ => Sof _ Hxt) ?_; clear hK K; (try simp only [rl])
            (refine wpAnyT_take (i := 14) (v := ?_) [15] (Array.getElem?_eq_getElem (by decide)) (by kernel_rfl) (by kernel_rfl) (by kernel_rfl) (by kernel_rfl) rfl rfl (by kernel_rfl) (fun _ _ _ h => h) (Or.inl ⟨by kernel_rfl, ?_⟩) (Sof _ Hxt) ?_); rotate_left; (focus (intro w hSw; (try dsimp only at hSw); (try simp only [rl]); go_simp; (try with_reducible rfl))); (try simp only [rl])
            (refine wpAnyT_one (i := 13) (by kernel_rfl) (Array.getElem?_eq_getElem (by decide)) fun K hK => ?_); (try simp only [rl])
            rw [if_pos (by simp [Region.wanted])]
            refine app_val (wr.heap.size) (by rfl) (by rfl) (by rfl) HS4 HI4 Hval.out Xt Hxt Bxt (by omega) (by omega) ?_
            intro g9 cap9 w9 HS9 HI9 hh9 hxf
            have hx9 := hxf w hx4 (by omega)
            have hB9 := Box.held hh9 hB (by omega)
            clear hgrow4 hxf HS4 HI4
            have hc9 := hB9.cells; have hf9 := hB9.free; have hl9 := hB9.lt
            refine hK.out _ _ (fun _ => Sof _ Hxt) ?_; clear hK K; (try simp only [rl])
            (refine wpAnyT_one (i := 15) (by kernel_rfl) (Array.getElem?_eq_getElem (by decide)) fun K hK => ?_); (try simp only [rl])
            go_simp
            (refine hK.out _ _ (fun h => Bool.noConfusion (show true = false from h)) ?_); clear hK K; (try simp only [rl])
            (refine wpAnyT_one (i := 16) (by kernel_rfl) (Array.getElem?_eq_getElem (by decide)) fun K hK => ?_); (try simp only [rl])
            go_simp
            (refine hK.out _ _ (fun h => Bool.noConfusion (show true = false from h)) ?_); clear hK K; (try simp only [rl])
            (refine wpAnyT_one (i := 17) (by kernel_rfl) (Array.getElem?_eq_getElem (by decide)) fun K hK => ?_); (try simp only [rl])
            go_simp
            (refine hK.out _ _ (fun h => Bool.noConfusion (show true = false from h)) ?_); clear hK K; (try simp only [rl])
            refine wpAnyT_done (by kernel_rfl) ?_ _
            have HP := with_end HS9 HI9 hB9 hh hh9 hx9 HS0.out (by omega) (by omega)
            exact cont g4 cap4 g9 cap9 _ _ _ HP
        case rest7 =>
          rintro g4 cap4 g9 cap9 b3 b8 wy ⟨hSy, hIy, hBy, hxy, hhy⟩
          go_wp2_with fail
          go_roundg (x.keys.length - (k + 1))
          case measure => omega
          case rel => exact ⟨k + 1, n + 1, _, _, _, _, by omega, by go_num, rfl, by omega, Lib.hid (by rw [delTo_keep hlt hsk2]; exact hSy), Lib.hid (by rw [delTo_keep hlt2 hsk2]; exact hIy), hBy, hxy, hhy⟩
    · obtain rfl : k = x.keys.length := by omega
      have hB2 := Box.held hh hC1 (by constructor <;> omega)
      have hc2 := hB2.cells; have hf2 := hB2.free; have hl2 := hB2.lt
      go_wp2_with fail
      (with_reducible apply bp_ret); (focus (go_light; simp [results, Tryz.results39, go_sem, *]; rfl))
      have hobj := own_obj HS.out HI.out
      have e1 := (HS.out).1
      have e2 := (HI.out).1
      refine ⟨a2, c2, a3, c3, by first | (simp [V.val, e1, e2]; done) | (simp [V.val, e1, e2]; have q1 := e1; simp at q1; omega), hobj.keep (Held.kept (Held.mono (a := wr) (S := fun b => b ≠ w.heap.size + 1) Hxt (fun b h => by rcases h with h | h; have := HS0.out b h.2; omega; omega))) (fun b h hl => by rcases h with h | h; exact .inl (HS1.out b h.2); exact .inr (by omega)), Xt⟩
end Go.Proofs.YtnbappeiebameaaGreatDoor
