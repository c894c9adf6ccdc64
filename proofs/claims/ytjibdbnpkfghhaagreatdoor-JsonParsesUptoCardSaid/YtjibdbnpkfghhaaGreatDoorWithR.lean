/- The walks of the reference's WithMember and WithoutMember. -/
import Derived.Test.YtjibdbnpkfghhaaGreatDoorWithP
import Derived.Test.YtjibdbnpkfghhaaGreatDoorOwnP
import Derived.Test.YtjibdbnpkfghhaaGreatDoorPkA
import Derived.Deep.RegionLaw
set_option linter.all false
namespace Go.Proofs.YtjibdbnpkfghhaaGreatDoor
open Go.RowKit
attribute [local go_sem ↓] Go.wp_at_zero Go.wp_at_succ

/-- Many ways meet: what is behind them is shown once. -/
theorem meet {P : Prop} (G : Nat → Nat → Nat → Nat → Nat → Nat → World → Prop) (H : Nat → Nat → Nat → Nat → World → Prop) (reg : (∀ a b c d e f w, H a b c d w → G a b c d e f w) → P) (rest : ∀ a b c d e f w, H a b c d w → G a b c d e f w) : P := reg rest
theorem with_facts {ks : List ByteArray} (hr : Rises ks) {key : ByteArray} {p : Nat} {hs : Bool} (hp : posOf ks key = p) (hh : hasB ks key = hs) {k : Nat} (h : k < ks.length) :
    (k < p → Op.bytesLess ks[k].toList key.toList = true) ∧ (k = p → Op.bytesLess ks[k].toList key.toList = false) ∧ (k = p → hs = true → (ks[k].toList != key.toList) = false ∧ (ks[k].toList == key.toList) = true) ∧ (k ≠ p ∨ hs = false → (ks[k].toList != key.toList) = true ∧ (ks[k].toList == key.toList) = false) := by
  subst hp; subst hh
  refine ⟨fun hk => ?_, fun hk => ?_, fun hk hb => ?_, fun hk => ?_⟩
  · simpa using (round_below h hk).1
  · simpa using round_at h hk
  · have := round_has h hk hb; exact ⟨by simpa using this, by simpa using this⟩
  · have := round_not hr h hk; exact ⟨by simpa using this, by simpa using this⟩
set_option maxRecDepth 100000 in
set_option maxHeartbeats 16000000 in
theorem withR_any (x : V) (ka : Option Addr) (kc : Nat) (la : Option Addr) (lc : Nat) (key : ByteArray) (y : V) (kb : Option Addr) (kd : Nat) (lb : Option Addr) (ld : Nat) (S : Nat → Prop) (w : World) (hsz : x.size ≤ 1073741824) (h5 : x.k = 5) (hln : x.keys.length = x.l.length) (h0 : x.n = 0) (hs0 : x.s = ⟨#[]⟩) (hr : Rises x.keys) (hin : x.In w S ka kc la lc) (hjn : y.In w S kb kd lb ld) :
    Calls Tryz.prog 118 #[x.val ka kc la lc, .string key, y.val kb kd lb ld] w (RetV S (x.put key y) w) := by
  have hl := x.len_l
  have hlk := x.len_keys
  obtain ⟨i0, hi, hz0, hz1, hz2⟩ := info_parts Tryz.infoS
  obtain ⟨j0, hj, hy0, hy1, hy2⟩ := info_parts Tryz.infoV
  rw [← put_lists h5 hln h0 hs0]
  obtain ⟨p, hp⟩ : ∃ p, posOf x.keys key = p := ⟨_, rfl⟩
  obtain ⟨hs, hhs⟩ : ∃ hs, hasB x.keys key = hs := ⟨_, rfl⟩
  have Hf := Lib.hid (fun k (h : k < x.keys.length) => with_facts hr hp hhs h)
  have hpl : p ≤ x.keys.length := hp ▸ posOf_le _ _
  have Hhp := Lib.hid (show hs = true → p < x.keys.length from fun h => hp ▸ hasB_lt (hhs.trans h))
  rw [hp, hhs]
  clear hp hhs hr h0 hs0 h5
  obtain ⟨S0, hS0⟩ : ∃ S0 : Nat → Prop, S0 = fun b => b < w.heap.size ∧ S b := ⟨_, rfl⟩
  have HS0 : Hid (∀ b, S0 b → b < w.heap.size) := by rw [hS0]; exact fun b h => h.1
  have HS1 : Hid (∀ b, S0 b → S b) := by rw [hS0]; exact fun b h => h.2
  have hin2 : x.In w S0 ka kc la lc := by rw [hS0]; exact hin.mono fun b h hl => ⟨hl, h⟩
  have hjn2 : y.In w S0 kb kd lb ld := by rw [hS0]; exact hjn.mono fun b h hl => ⟨hl, h⟩
  clear hjn
  clear hS0 hin
  go_enter Tryz.func118, Tryz.ntmps118
  go_upto_region 3 with fail
  refine gen_world (R := fun wx => Box wx (w.heap.size) #[.int .i64 x.k, .int .i64 x.n, .string x.s, .slice ka x.keys.length kc, .slice la x.l.length lc] 25 ∧ Box wx (w.heap.size + 1) #[.int .i64 y.k, .int .i64 y.n, .string y.s, .slice kb y.keys.length kd, .slice lb y.l.length ld] 25 ∧ Box wx (w.heap.size + 2) #[.int .i64 0, .int .i64 0, .string ⟨#[]⟩, .slice none 0 0, .slice none 0 0] 25 ∧ Box wx (w.heap.size + 3) #[.int .i64 5, .int .i64 0, .string ⟨#[]⟩, .slice none 0 0, .slice none 0 0] 25 ∧ Ext w wx) ⟨Bxt, Bxt, Bxt, Bxt, Xt⟩ ?_
  rintro wb ⟨hC0, hC1, hC2, hC3, hxb⟩
  have hzb := hC3.lt
  have hc0 := hC0.cells; have hf0 := hC0.free; have hl0 := hC0.lt
  go_wp2_with fail
  clear hc0 hf0 hl0
  go_loopg [8, 9, 10, 15] x.keys.length (fun g pv _ _ i wr => ∃ (k n : Nat) (a2 : Option Addr) (c2 : Nat) (a3 : Option Addr) (c3 : Nat) (pb : Bool), k ≤ x.keys.length ∧ i = .int .i64 k ∧ g = x.keys.length - k ∧ pv = .bool pb ∧ Hid (pb = decide (p < k)) ∧ n ≤ 2 * k ∧ Hid (OwnS wr wb.heap.size (.slice a2 n c2) n (putTo p hs key x.keys k)) ∧ Hid (OwnI wr wb.heap.size S0 (.slice a3 n c3) n (putTo p hs y x.l k)) ∧ Box wr (w.heap.size + 3) #[.int .i64 5, .int .i64 0, .string ⟨#[]⟩, .slice a2 n c2, .slice a3 n c3] 25 ∧ Ext w wr ∧ Held (fun b => b < wb.heap.size ∧ b ≠ w.heap.size + 3) wb wr)
  case atStart => exact ⟨0, 0, none, 0, none, 0, false, by omega, rfl, rfl, rfl, Lib.hid (by simp), by omega, Lib.hid (by rw [putTo_zero]; exact OwnS.nil _ _), Lib.hid (by rw [putTo_zero]; exact OwnI.nil _ _ _), hC3, hxb, Held.refl _ _⟩
  case round =>
    obtain ⟨k, n, a2, c2, a3, c3, pb, hk, rfl, rfl, rfl, Hpb, hn, HS, HI, hB, hx, hh⟩ := hrel
    have hszr := hh.size
    have hB0 := Box.held hh hC0 (by constructor <;> omega)
    have hB1 := Box.held hh hC1 (by constructor <;> omega)
    have hc0 := hB0.cells; have hf0 := hB0.free; have hl0 := hB0.lt
    have hc1 := hB1.cells; have hf1 := hB1.free; have hl1 := hB1.lt
    have hc3 := hB.cells; have hf3 := hB.free; have hl3 := hB.lt
    by_cases hlt : k < x.keys.length
    · have hlt2 : k < x.l.length := by omega
      obtain ⟨kb0, ko0, rfl, hSk, e0⟩ := hin2.key hlt
      have e0 := hx.cell e0
      obtain ⟨b, o, rfl, hSb, ka', kc', la', lc', ⟨d0, d1, d2, d3, d4⟩, hin'⟩ := hin2.item hlt2
      have hbw := HS0.out _ hSb
      have o0 := d0
      have o1 := d1
      have o2 := d2
      have o3 := d3
      have o4 := d4
      have d0 := hx.cell d0; have d1 := hx.cell d1; have d2 := hx.cell d2; have d3 := hx.cell d3; have d4 := hx.cell d4
      have hki0 : (0 : Int) ≤ (k : Int) := by omega
      have hki1 : (k : Int) < (x.l.length : Int) := by omega
      have hki2 : (k : Int) < (x.keys.length : Int) := by omega
      have HvalY : Hid (y.In wr (fun b => b < wb.heap.size ∧ S0 b) kb kd lb ld) := Lib.hid ((hjn2.mono (fun b h hl => ⟨by omega, h⟩)).ext hx)
      have HvalI : Hid (x.l[k].In wr (fun b => b < wb.heap.size ∧ S0 b) ka' kc' la' lc') := Lib.hid ((hin'.mono (fun b h hl => ⟨by omega, h⟩)).ext hx)
      have hf := Hf.out k hlt
      by_cases hkp : k < p
      · obtain rfl : pb = false := by rw [Hpb.out]; simp; omega
        have f1 := hf.1 hkp
        obtain ⟨f2, f3⟩ := hf.2.2.2 (.inl (by omega))
        clear hf
        have Hval := HvalI
        go_upto_region 10 with fail
        refine meet ?G1 (fun g4 cap4 g9 cap9 wy => OwnS wy wb.heap.size (.slice (some ⟨g4, 0, none⟩) (n + 1) cap4) (n + 1) ((putTo p hs key x.keys k) ++ [x.keys[k]]) ∧ OwnI wy wb.heap.size S0 (.slice (some ⟨g9, 0, none⟩) (n + 1) cap9) (n + 1) ((putTo p hs y x.l k) ++ [x.l[k]]) ∧
            Box wy (w.heap.size + 3) #[.int .i64 5, .int .i64 0, .string ⟨#[]⟩, .slice (some ⟨g4, 0, none⟩) (n + 1) cap4, .slice (some ⟨g9, 0, none⟩) (n + 1) cap9] 25 ∧ Ext w wy ∧ Held (fun b => b < wb.heap.size ∧ b ≠ w.heap.size + 3) wb wy) (fun cont => ?reg1) ?rest1
        case reg1 =>
          have Sof : ∀ w', Held (fun b => b < wb.heap.size) wr w' → (w'.cell? ⟨w.heap.size + 3, 3, none⟩ = some (.slice a2 n c2) ∧ w'.cell? ⟨w.heap.size + 3, 4, none⟩ = some (.slice a3 n c3) ∧ w'.cell? ⟨w.heap.size, 4, none⟩ = some (.slice (some ⟨b, o, none⟩) x.l.length lc) ∧ w'.cell? ⟨b, o + k * 5, none⟩ = some (.int .i64 x.l[k].k) ∧ w'.cell? ⟨b, o + k * 5 + 1, none⟩ = some (.int .i64 x.l[k].n) ∧ w'.cell? ⟨b, o + k * 5 + 2, none⟩ = some (.string x.l[k].s) ∧ w'.cell? ⟨b, o + k * 5 + 3, none⟩ = some (.slice ka' x.l[k].keys.length kc') ∧ w'.cell? ⟨b, o + k * 5 + 4, none⟩ = some (.slice la' x.l[k].l.length lc')) := fun w' e => ⟨e.kept.cell (by dsimp only; omega) (hB.cells 3), e.kept.cell (by dsimp only; omega) (hB.cells 4), e.kept.cell (by dsimp only; omega) (hB0.cells 4), e.kept.cell (by dsimp only; omega) d0, e.kept.cell (by dsimp only; omega) d1, e.kept.cell (by dsimp only; omega) d2, e.kept.cell (by dsimp only; omega) d3, e.kept.cell (by dsimp only; omega) d4⟩
          refine wp_region_till (S := fun w' => w'.cell? ⟨w.heap.size + 3, 3, none⟩ = some (.slice a2 n c2) ∧ w'.cell? ⟨w.heap.size + 3, 4, none⟩ = some (.slice a3 n c3) ∧ w'.cell? ⟨w.heap.size, 4, none⟩ = some (.slice (some ⟨b, o, none⟩) x.l.length lc) ∧ w'.cell? ⟨b, o + k * 5, none⟩ = some (.int .i64 x.l[k].k) ∧ w'.cell? ⟨b, o + k * 5 + 1, none⟩ = some (.int .i64 x.l[k].n) ∧ w'.cell? ⟨b, o + k * 5 + 2, none⟩ = some (.string x.l[k].s) ∧ w'.cell? ⟨b, o + k * 5 + 3, none⟩ = some (.slice ka' x.l[k].keys.length kc') ∧ w'.cell? ⟨b, o + k * 5 + 4, none⟩ = some (.slice la' x.l[k].l.length lc')) (c := 15) (by kernel_rfl) ?_
          (refine wpAnyT_take (i := 0) (v := ?_) [15] (Array.getElem?_eq_getElem (by decide)) (by kernel_rfl) (by kernel_rfl) (by kernel_rfl) (by kernel_rfl) rfl rfl (by kernel_rfl) (fun _ _ _ h => h) (Or.inl ⟨by kernel_rfl, ?_⟩) (Sof _ Hxt) ?_); rotate_left; (focus (intro w hSw; (try dsimp only at hSw); (try simp only [rl]); go_simp; (try with_reducible rfl))); (try simp only [rl])
          (refine wpAnyT_take (i := 1) (v := ?_) [15] (Array.getElem?_eq_getElem (by decide)) (by kernel_rfl) (by kernel_rfl) (by kernel_rfl) (by kernel_rfl) rfl rfl (by kernel_rfl) (fun _ _ _ h => h) (Or.inl ⟨by kernel_rfl, ?_⟩) (Sof _ Hxt) ?_); rotate_left; (focus (intro w hSw; (try dsimp only at hSw); (try simp only [rl]); go_simp; (try with_reducible rfl))); (try simp only [rl])
          (refine wpAnyT_take (i := 2) (v := ?_) [15] (Array.getElem?_eq_getElem (by decide)) (by kernel_rfl) (by kernel_rfl) (by kernel_rfl) (by kernel_rfl) rfl rfl (by kernel_rfl) (fun _ _ _ h => h) (Or.inl ⟨by kernel_rfl, ?_⟩) (Sof _ Hxt) ?_); rotate_left; (focus (intro w hSw; (try dsimp only at hSw); (try simp only [rl]); go_simp; (try with_reducible rfl))); (try simp only [rl])
          (refine wpAnyT_take (i := 5) (v := ?_) [15] (Array.getElem?_eq_getElem (by decide)) (by kernel_rfl) (by kernel_rfl) (by kernel_rfl) (by kernel_rfl) rfl rfl (by kernel_rfl) (fun _ _ _ h => h) (Or.inl ⟨by kernel_rfl, ?_⟩) (Sof _ Hxt) ?_); rotate_left; (focus (intro w hSw; (try dsimp only at hSw); (try simp only [rl]); go_simp; (try with_reducible rfl))); (try simp only [rl])
          (refine wpAnyT_take (i := 6) (v := ?_) [15] (Array.getElem?_eq_getElem (by decide)) (by kernel_rfl) (by kernel_rfl) (by kernel_rfl) (by kernel_rfl) rfl rfl (by kernel_rfl) (fun _ _ _ h => h) (Or.inl ⟨by kernel_rfl, ?_⟩) (Sof _ Hxt) ?_); rotate_left; (focus (intro w hSw; (try dsimp only at hSw); (try simp only [rl]); go_simp; (try with_reducible rfl))); (try simp only [rl])
          (refine wpAnyT_take (i := 7) (v := ?_) [8, 10, 11, 12, 13, 15] (Array.getElem?_eq_getElem (by decide)) (by kernel_rfl) (by kernel_rfl) (by kernel_rfl) (by kernel_rfl) rfl rfl (by kernel_rfl) (fun _ _ _ h => h) (Or.inl ⟨by kernel_rfl, ?_⟩) (Sof _ Hxt) ?_); rotate_left; (focus (intro w hSw; (try dsimp only at hSw); (try simp only [rl]); go_simp; (try with_reducible rfl))); (try simp only [rl])
          (refine wpAnyT_take (i := 8) (v := ?_) [10, 11, 12, 13, 15] (Array.getElem?_eq_getElem (by decide)) (by kernel_rfl) (by kernel_rfl) (by kernel_rfl) (by kernel_rfl) rfl rfl (by kernel_rfl) (fun _ _ _ h => h) (Or.inl ⟨by kernel_rfl, ?_⟩) (Sof _ Hxt) ?_); rotate_left; (focus (intro w hSw; (try dsimp only at hSw); (try simp only [rl]); go_simp; (try with_reducible rfl))); (try simp only [rl])
          (refine wpAnyT_take (i := 9) (v := ?_) [10, 11, 12, 13, 15] (Array.getElem?_eq_getElem (by decide)) (by kernel_rfl) (by kernel_rfl) (by kernel_rfl) (by kernel_rfl) rfl rfl (by kernel_rfl) (fun _ _ _ h => h) (Or.inl ⟨by kernel_rfl, ?_⟩) (Sof _ Hxt) ?_); rotate_left; (focus (intro w hSw; (try dsimp only at hSw); (try simp only [rl]); go_simp; (try with_reducible rfl))); (try simp only [rl])
          (refine wpAnyT_take (i := 10) (v := ?_) [11, 12, 13, 15] (Array.getElem?_eq_getElem (by decide)) (by kernel_rfl) (by kernel_rfl) (by kernel_rfl) (by kernel_rfl) rfl rfl (by kernel_rfl) (fun _ _ _ h => h) (Or.inl ⟨by kernel_rfl, ?_⟩) (Sof _ Hxt) ?_); rotate_left; (focus (intro w hSw; (try dsimp only at hSw); (try simp only [rl]); go_simp; (try with_reducible rfl))); (try simp only [rl])
          (refine wpAnyT_take (i := 11) (v := ?_) [12, 13, 15] (Array.getElem?_eq_getElem (by decide)) (by kernel_rfl) (by kernel_rfl) (by kernel_rfl) (by kernel_rfl) rfl rfl (by kernel_rfl) (fun _ _ _ h => h) (Or.inl ⟨by kernel_rfl, ?_⟩) (Sof _ Hxt) ?_); rotate_left; (focus (intro w hSw; (try dsimp only at hSw); (try simp only [rl]); go_simp; (try with_reducible rfl))); (try simp only [rl])
          refine wpAnyT_ready (rs := [3, 12]) (by kernel_rfl) (by simp) ?_
          refine AllReadyT.cons (Array.getElem?_eq_getElem (by decide)) (fun K hK => ?_) (AllReadyT.cons (Array.getElem?_eq_getElem (by decide)) (fun K hK => ?_) AllReadyT.nil)
          · (try simp only [rl])
            go_simp
            refine hK.out _ _ (fun _ => Sof _ Hxt) ?_; clear hK K; (try simp only [rl])
            refine wpAnyT_ready (rs := [4, 12]) (by kernel_rfl) (by simp) ?_
            refine AllReadyT.cons (Array.getElem?_eq_getElem (by decide)) (fun K hK => ?_) (AllReadyT.cons (Array.getElem?_eq_getElem (by decide)) (fun K hK => ?_) AllReadyT.nil)
            · (try simp only [rl])
              rw [if_pos (by simp [Region.wanted])]
              refine app_key (x.keys[k]) (wr.heap.size) (by rfl) (by rfl) (by rfl) HS.out HI.out Xt Hxt Bxt (by omega) (by omega) ?_
              intro g4 cap4 w4 HS4 HI4 hh4 hxf hgrow4
              have hx4 := hxf w hx (by omega)
              have hz4 := hh4.size
              clear hxf
              refine hK.out _ _ (fun _ => Sof _ Hxt) ?_; clear hK K; (try simp only [rl])
              (refine wpAnyT_take (i := 14) (v := ?_) [15] (Array.getElem?_eq_getElem (by decide)) (by kernel_rfl) (by kernel_rfl) (by kernel_rfl) (by kernel_rfl) rfl rfl (by kernel_rfl) (fun _ _ _ h => h) (Or.inl ⟨by kernel_rfl, ?_⟩) (Sof _ Hxt) ?_); rotate_left; (focus (intro w hSw; (try dsimp only at hSw); (try simp only [rl]); go_simp; (try with_reducible rfl))); (try simp only [rl])
              (refine wpAnyT_one (i := 12) (by kernel_rfl) (Array.getElem?_eq_getElem (by decide)) fun K hK => ?_); (try simp only [rl])
              go_simp
              refine hK.out _ _ (fun _ => Sof _ Hxt) ?_; clear hK K; (try simp only [rl])
              (refine wpAnyT_one (i := 13) (by kernel_rfl) (Array.getElem?_eq_getElem (by decide)) fun K hK => ?_); (try simp only [rl])
              rw [if_pos (by simp [Region.wanted])]
              refine app_val (w4.heap.size) (by rfl) (by rfl) (by rfl) HS4 HI4 Hval.out Xt Hxt Bxt (by omega) (by omega) ?_
              intro g9 cap9 w9 HS9 HI9 hh9 hxf
              have hx9 := hxf w hx4 (by omega)
              have hB9 := Box.held hh9 hB (by omega)
              clear hgrow4 hxf HS4 HI4
              have hc9 := hB9.cells; have hf9 := hB9.free; have hl9 := hB9.lt
              refine hK.out _ _ (fun _ => Sof _ Hxt) ?_; clear hK K; (try simp only [rl])
              (refine wpAnyT_one (i := 15) (by kernel_rfl) (Array.getElem?_eq_getElem (by decide)) fun K hK => ?_); (try simp only [rl])
              go_simp
              (refine hK.out _ _ (fun h => Bool.noConfusion (show true = false from h)) ?_); clear hK K; (try simp only [rl])
              (refine wpAnyT_one (i := 16) (by kernel_rfl) (Array.getElem?_eq_getElem (by decide)) fun K hK => ?_); (try simp only [rl])
              go_simp
              (refine hK.out _ _ (fun h => Bool.noConfusion (show true = false from h)) ?_); clear hK K; (try simp only [rl])
              (refine wpAnyT_one (i := 17) (by kernel_rfl) (Array.getElem?_eq_getElem (by decide)) fun K hK => ?_); (try simp only [rl])
              go_simp
              (refine hK.out _ _ (fun h => Bool.noConfusion (show true = false from h)) ?_); clear hK K; (try simp only [rl])
              refine wpAnyT_done (by kernel_rfl) ?_ _
              have HP := with_end HS9 HI9 hB9 hh hh9 hx9 HS0.out (by omega) (by omega)
              obtain ⟨wy, hwy⟩ : ∃ wy, (w9.setCell ⟨w.heap.size + 3, 3, none⟩ (Value.slice (some ⟨g4, 0, none⟩) (n + 1) cap4)).setCell ⟨w.heap.size + 3, 4, none⟩ (Value.slice (some ⟨g9, 0, none⟩) (n + 1) cap9) = wy := ⟨_, rfl⟩
              rw [hwy] at HP ⊢
              clear hwy
              generalize wr.heap.size = b3
              generalize w4.heap.size = b8
              exact cont g4 cap4 g9 cap9 b3 b8 wy HP
            · (try simp only [rl])
              go_simp
              refine hK.out _ _ (fun _ => Sof _ Hxt) ?_; clear hK K; (try simp only [rl])
              (refine wpAnyT_one (i := 4) (by kernel_rfl) (Array.getElem?_eq_getElem (by decide)) fun K hK => ?_); (try simp only [rl])
              rw [if_pos (by simp [Region.wanted])]
              refine app_key (x.keys[k]) (wr.heap.size) (by rfl) (by rfl) (by rfl) HS.out HI.out Xt Hxt Bxt (by omega) (by omega) ?_
              intro g4 cap4 w4 HS4 HI4 hh4 hxf hgrow4
              have hx4 := hxf w hx (by omega)
              have hz4 := hh4.size
              clear hxf
              have hX4 : Box w4 (wr.heap.size + 1) #[.int .i64 x.l[k].k, .int .i64 x.l[k].n, .string x.l[k].s, .slice ka' x.l[k].keys.length kc', .slice la' x.l[k].l.length lc'] 25 := Box.grown (w' := w4) Bxt hgrow4 (fun e => by have h' := (OwnS.lt HS.out _ e.symm).2; omega)
              refine hK.out _ _ (fun _ => Sof _ Hxt) ?_; clear hK K; (try simp only [rl])
              (refine wpAnyT_take (i := 14) (v := ?_) [15] (Array.getElem?_eq_getElem (by decide)) (by kernel_rfl) (by kernel_rfl) (by kernel_rfl) (by kernel_rfl) rfl rfl (by kernel_rfl) (fun _ _ _ h => h) (Or.inl ⟨by kernel_rfl, ?_⟩) (Sof _ Hxt) ?_); rotate_left; (focus (intro w hSw; (try dsimp only at hSw); (try simp only [rl]); go_simp; (try with_reducible rfl))); (try simp only [rl])
              (refine wpAnyT_one (i := 13) (by kernel_rfl) (Array.getElem?_eq_getElem (by decide)) fun K hK => ?_); (try simp only [rl])
              rw [if_pos (by simp [Region.wanted])]
              refine app_val (wr.heap.size + 1) (by rfl) (by rfl) (by rfl) HS4 HI4 Hval.out Xt Hxt Bxt (by omega) (by omega) ?_
              intro g9 cap9 w9 HS9 HI9 hh9 hxf
              have hx9 := hxf w hx4 (by omega)
              have hB9 := Box.held hh9 hB (by omega)
              clear hgrow4 hxf HS4 HI4
              have hc9 := hB9.cells; have hf9 := hB9.free; have hl9 := hB9.lt
              refine hK.out _ _ (fun _ => Sof _ Hxt) ?_; clear hK K; (try simp only [rl])
              (refine wpAnyT_one (i := 15) (by kernel_rfl) (Array.getElem?_eq_getElem (by decide)) fun K hK => ?_); (try simp only [rl])
              go_simp
              (refine hK.out _ _ (fun h => Bool.noConfusion (show true = false from h)) ?_); clear hK K; (try simp only [rl])
              (refine wpAnyT_one (i := 16) (by kernel_rfl) (Array.getElem?_eq_getElem (by decide)) fun K hK => ?_); (try simp only [rl])
              go_simp
              (refine hK.out _ _ (fun h => Bool.noConfusion (show true = false from h)) ?_); clear hK K; (try simp only [rl])
              (refine wpAnyT_one (i := 17) (by kernel_rfl) (Array.getElem?_eq_getElem (by decide)) fun K hK => ?_); (try simp only [rl])
              go_simp
              (refine hK.out _ _ (fun h => Bool.noConfusion (show true = false from h)) ?_); clear hK K; (try simp only [rl])
              refine wpAnyT_done (by kernel_rfl) ?_ _
              have HP := with_end HS9 HI9 hB9 hh hh9 hx9 HS0.out (by omega) (by omega)
              exact cont g4 cap4 g9 cap9 _ _ _ HP
          · (try simp only [rl])
            go_simp
            refine hK.out _ _ (fun _ => Sof _ Hxt) ?_; clear hK K; (try simp only [rl])
            (refine wpAnyT_one (i := 3) (by kernel_rfl) (Array.getElem?_eq_getElem (by decide)) fun K hK => ?_); (try simp only [rl])
            go_simp
            refine hK.out _ _ (fun _ => Sof _ Hxt) ?_; clear hK K; (try simp only [rl])
            (refine wpAnyT_one (i := 4) (by kernel_rfl) (Array.getElem?_eq_getElem (by decide)) fun K hK => ?_); (try simp only [rl])
            rw [if_pos (by simp [Region.wanted])]
            refine app_key (x.keys[k]) (wr.heap.size + 1) (by rfl) (by rfl) (by rfl) HS.out HI.out Xt Hxt Bxt (by omega) (by omega) ?_
            intro g4 cap4 w4 HS4 HI4 hh4 hxf hgrow4
            have hx4 := hxf w hx (by omega)
            have hz4 := hh4.size
            clear hxf
            have hX4 : Box w4 (wr.heap.size) #[.int .i64 x.l[k].k, .int .i64 x.l[k].n, .string x.l[k].s, .slice ka' x.l[k].keys.length kc', .slice la' x.l[k].l.length lc'] 25 := Box.grown (w' := w4) Bxt hgrow4 (fun e => by have h' := (OwnS.lt HS.out _ e.symm).2; omega)
            refine hK.out _ _ (fun _ => Sof _ Hxt) ?_; clear hK K; (try simp only [rl])
            (refine wpAnyT_take (i := 14) (v := ?_) [15] (Array.getElem?_eq_getElem (by decide)) (by kernel_rfl) (by kernel_rfl) (by kernel_rfl) (by kernel_rfl) rfl rfl (by kernel_rfl) (fun _ _ _ h => h) (Or.inl ⟨by kernel_rfl, ?_⟩) (Sof _ Hxt) ?_); rotate_left; (focus (intro w hSw; (try dsimp only at hSw); (try simp only [rl]); go_simp; (try with_reducible rfl))); (try simp only [rl])
            (refine wpAnyT_one (i := 13) (by kernel_rfl) (Array.getElem?_eq_getElem (by decide)) fun K hK => ?_); (try simp only [rl])
            rw [if_pos (by simp [Region.wanted])]
            refine app_val (wr.heap.size) (by rfl) (by rfl) (by rfl) HS4 HI4 Hval.out Xt Hxt Bxt (by omega) (by omega) ?_
            intro g9 cap9 w9 HS9 HI9 hh9 hxf
            have hx9 := hxf w hx4 (by omega)
            have hB9 := Box.held hh9 hB (by omega)
            clear hgrow4 hxf HS4 HI4
            have hc9 := hB9.cells; have hf9 := hB9.free; have hl9 := hB9.lt
            refine hK.out _ _ (fun _ => Sof _ Hxt) ?_; clear hK K; (try simp only [rl])
            (refine wpAnyT_one (i := 15) (by kernel_rfl) (Array.getElem?_eq_getElem (by decide)) fun K hK => ?_); (try simp only [rl])
            go_simp
            (refine hK.out _ _ (fun h => Bool.noConfusion (show true = false from h)) ?_); clear hK K; (try simp only [rl])
            (refine wpAnyT_one (i := 16) (by kernel_rfl) (Array.getElem?_eq_getElem (by decide)) fun K hK => ?_); (try simp only [rl])
            go_simp
            (refine hK.out _ _ (fun h => Bool.noConfusion (show true = false from h)) ?_); clear hK K; (try simp only [rl])
            (refine wpAnyT_one (i := 17) (by kernel_rfl) (Array.getElem?_eq_getElem (by decide)) fun K hK => ?_); (try simp only [rl])
            go_simp
            (refine hK.out _ _ (fun h => Bool.noConfusion (show true = false from h)) ?_); clear hK K; (try simp only [rl])
            refine wpAnyT_done (by kernel_rfl) ?_ _
            have HP := with_end HS9 HI9 hB9 hh hh9 hx9 HS0.out (by omega) (by omega)
            exact cont g4 cap4 g9 cap9 _ _ _ HP
        case rest1 =>
          rintro g4 cap4 g9 cap9 b3 b8 wy ⟨hSy, hIy, hBy, hxy, hhy⟩
          go_wp2_with fail
          go_roundg (x.keys.length - (k + 1))
          case measure => omega
          case rel => exact ⟨k + 1, n + 1, _, _, _, _, false, by omega, by go_num, rfl, rfl, Lib.hid (by simp; omega), by omega, Lib.hid (by rw [putTo_below hlt hkp]; exact hSy), Lib.hid (by rw [putTo_below hlt2 hkp]; exact hIy), hBy, hxy, hhy⟩
      · by_cases hkq : k = p
        · obtain rfl : pb = false := by rw [Hpb.out]; simp; omega
          have f1 := hf.2.1 hkq
          have Hval := HvalY
          have Hkq := Lib.hid hkq
          cases hs with
          | true =>
            obtain ⟨f2, f3⟩ := hf.2.2.1 hkq rfl
            clear hf hkq
            go_upto_region 7 with fail
            refine meet ?G2 (fun g4 cap4 g9 cap9 wy => OwnS wy wb.heap.size (.slice (some ⟨g4, 0, none⟩) (n + 1) cap4) (n + 1) ((putTo p true key x.keys k) ++ [key]) ∧ OwnI wy wb.heap.size S0 (.slice (some ⟨g9, 0, none⟩) (n + 1) cap9) (n + 1) ((putTo p true y x.l k) ++ [y]) ∧
                Box wy (w.heap.size + 3) #[.int .i64 5, .int .i64 0, .string ⟨#[]⟩, .slice (some ⟨g4, 0, none⟩) (n + 1) cap4, .slice (some ⟨g9, 0, none⟩) (n + 1) cap9] 25 ∧ Ext w wy ∧ Held (fun b => b < wb.heap.size ∧ b ≠ w.heap.size + 3) wb wy) (fun cont => ?reg2) ?rest2
            case reg2 =>
              have Sof : ∀ w', Held (fun b => b < wb.heap.size) wr w' → (w'.cell? ⟨w.heap.size + 3, 3, none⟩ = some (.slice a2 n c2) ∧ w'.cell? ⟨w.heap.size + 3, 4, none⟩ = some (.slice a3 n c3) ∧ w'.cell? ⟨w.heap.size + 1, 0, none⟩ = some (.int .i64 y.k) ∧ w'.cell? ⟨w.heap.size + 1, 1, none⟩ = some (.int .i64 y.n) ∧ w'.cell? ⟨w.heap.size + 1, 2, none⟩ = some (.string y.s) ∧ w'.cell? ⟨w.heap.size + 1, 3, none⟩ = some (.slice kb y.keys.length kd) ∧ w'.cell? ⟨w.heap.size + 1, 4, none⟩ = some (.slice lb y.l.length ld)) := fun w' e => ⟨e.kept.cell (by dsimp only; omega) (hB.cells 3), e.kept.cell (by dsimp only; omega) (hB.cells 4), e.kept.cell (by dsimp only; omega) (hB1.cells 0), e.kept.cell (by dsimp only; omega) (hB1.cells 1), e.kept.cell (by dsimp only; omega) (hB1.cells 2), e.kept.cell (by dsimp only; omega) (hB1.cells 3), e.kept.cell (by dsimp only; omega) (hB1.cells 4)⟩
              refine wp_region_till (S := fun w' => w'.cell? ⟨w.heap.size + 3, 3, none⟩ = some (.slice a2 n c2) ∧ w'.cell? ⟨w.heap.size + 3, 4, none⟩ = some (.slice a3 n c3) ∧ w'.cell? ⟨w.heap.size + 1, 0, none⟩ = some (.int .i64 y.k) ∧ w'.cell? ⟨w.heap.size + 1, 1, none⟩ = some (.int .i64 y.n) ∧ w'.cell? ⟨w.heap.size + 1, 2, none⟩ = some (.string y.s) ∧ w'.cell? ⟨w.heap.size + 1, 3, none⟩ = some (.slice kb y.keys.length kd) ∧ w'.cell? ⟨w.heap.size + 1, 4, none⟩ = some (.slice lb y.l.length ld)) (c := 11) (by kernel_rfl) ?_
              (refine wpAnyT_take (i := 0) (v := ?_) [11] (Array.getElem?_eq_getElem (by decide)) (by kernel_rfl) (by kernel_rfl) (by kernel_rfl) (by kernel_rfl) rfl rfl (by kernel_rfl) (fun _ _ _ h => h) (Or.inl ⟨by kernel_rfl, ?_⟩) (Sof _ Hxt) ?_); rotate_left; (focus (intro w hSw; (try dsimp only at hSw); (try simp only [rl]); go_simp; (try with_reducible rfl))); (try simp only [rl])
              (refine wpAnyT_take (i := 1) (v := ?_) [11] (Array.getElem?_eq_getElem (by decide)) (by kernel_rfl) (by kernel_rfl) (by kernel_rfl) (by kernel_rfl) rfl rfl (by kernel_rfl) (fun _ _ _ h => h) (Or.inl ⟨by kernel_rfl, ?_⟩) (Sof _ Hxt) ?_); rotate_left; (focus (intro w hSw; (try dsimp only at hSw); (try simp only [rl]); go_simp; (try with_reducible rfl))); (try simp only [rl])
              (refine wpAnyT_take (i := 2) (v := ?_) [11] (Array.getElem?_eq_getElem (by decide)) (by kernel_rfl) (by kernel_rfl) (by kernel_rfl) (by kernel_rfl) rfl rfl (by kernel_rfl) (fun _ _ _ h => h) (Or.inl ⟨by kernel_rfl, ?_⟩) (Sof _ Hxt) ?_); rotate_left; (focus (intro w hSw; (try dsimp only at hSw); (try simp only [rl]); go_simp; (try with_reducible rfl))); (try simp only [rl])
              (refine wpAnyT_take (i := 5) (v := ?_) [11] (Array.getElem?_eq_getElem (by decide)) (by kernel_rfl) (by kernel_rfl) (by kernel_rfl) (by kernel_rfl) rfl rfl (by kernel_rfl) (fun _ _ _ h => h) (Or.inl ⟨by kernel_rfl, ?_⟩) (Sof _ Hxt) ?_); rotate_left; (focus (intro w hSw; (try dsimp only at hSw); (try simp only [rl]); go_simp; (try with_reducible rfl))); (try simp only [rl])
              (refine wpAnyT_take (i := 6) (v := ?_) [11] (Array.getElem?_eq_getElem (by decide)) (by kernel_rfl) (by kernel_rfl) (by kernel_rfl) (by kernel_rfl) rfl rfl (by kernel_rfl) (fun _ _ _ h => h) (Or.inl ⟨by kernel_rfl, ?_⟩) (Sof _ Hxt) ?_); rotate_left; (focus (intro w hSw; (try dsimp only at hSw); (try simp only [rl]); go_simp; (try with_reducible rfl))); (try simp only [rl])
              (refine wpAnyT_take (i := 7) (v := ?_) [8, 9, 11] (Array.getElem?_eq_getElem (by decide)) (by kernel_rfl) (by kernel_rfl) (by kernel_rfl) (by kernel_rfl) rfl rfl (by kernel_rfl) (fun _ _ _ h => h) (Or.inl ⟨by kernel_rfl, ?_⟩) (Sof _ Hxt) ?_); rotate_left; (focus (intro w hSw; (try dsimp only at hSw); (try simp only [rl]); go_simp; (try with_reducible rfl))); (try simp only [rl])
              refine wpAnyT_ready (rs := [3, 8]) (by kernel_rfl) (by simp) ?_
              refine AllReadyT.cons (Array.getElem?_eq_getElem (by decide)) (fun K hK => ?_) (AllReadyT.cons (Array.getElem?_eq_getElem (by decide)) (fun K hK => ?_) AllReadyT.nil)
              · (try simp only [rl])
                go_simp
                refine hK.out _ _ (fun _ => Sof _ Hxt) ?_; clear hK K; (try simp only [rl])
                refine wpAnyT_ready (rs := [4, 8]) (by kernel_rfl) (by simp) ?_
                refine AllReadyT.cons (Array.getElem?_eq_getElem (by decide)) (fun K hK => ?_) (AllReadyT.cons (Array.getElem?_eq_getElem (by decide)) (fun K hK => ?_) AllReadyT.nil)
                · (try simp only [rl])
                  rw [if_pos (by simp [Region.wanted])]
                  refine app_key (key) (wr.heap.size) (by rfl) (by rfl) (by rfl) HS.out HI.out Xt Hxt Bxt (by omega) (by omega) ?_
                  intro g4 cap4 w4 HS4 HI4 hh4 hxf hgrow4
                  have hx4 := hxf w hx (by omega)
                  have hz4 := hh4.size
                  clear hxf
                  refine hK.out _ _ (fun _ => Sof _ Hxt) ?_; clear hK K; (try simp only [rl])
                  (refine wpAnyT_take (i := 10) (v := ?_) [11] (Array.getElem?_eq_getElem (by decide)) (by kernel_rfl) (by kernel_rfl) (by kernel_rfl) (by kernel_rfl) rfl rfl (by kernel_rfl) (fun _ _ _ h => h) (Or.inl ⟨by kernel_rfl, ?_⟩) (Sof _ Hxt) ?_); rotate_left; (focus (intro w hSw; (try dsimp only at hSw); (try simp only [rl]); go_simp; (try with_reducible rfl))); (try simp only [rl])
                  (refine wpAnyT_one (i := 8) (by kernel_rfl) (Array.getElem?_eq_getElem (by decide)) fun K hK => ?_); (try simp only [rl])
                  go_simp
                  refine hK.out _ _ (fun _ => Sof _ Hxt) ?_; clear hK K; (try simp only [rl])
                  (refine wpAnyT_one (i := 9) (by kernel_rfl) (Array.getElem?_eq_getElem (by decide)) fun K hK => ?_); (try simp only [rl])
                  rw [if_pos (by simp [Region.wanted])]
                  refine app_val (w4.heap.size) (by rfl) (by rfl) (by rfl) HS4 HI4 Hval.out Xt Hxt Bxt (by omega) (by omega) ?_
                  intro g9 cap9 w9 HS9 HI9 hh9 hxf
                  have hx9 := hxf w hx4 (by omega)
                  have hB9 := Box.held hh9 hB (by omega)
                  clear hgrow4 hxf HS4 HI4
                  have hc9 := hB9.cells; have hf9 := hB9.free; have hl9 := hB9.lt
                  refine hK.out _ _ (fun _ => Sof _ Hxt) ?_; clear hK K; (try simp only [rl])
                  (refine wpAnyT_one (i := 11) (by kernel_rfl) (Array.getElem?_eq_getElem (by decide)) fun K hK => ?_); (try simp only [rl])
                  go_simp
                  (refine hK.out _ _ (fun h => Bool.noConfusion (show true = false from h)) ?_); clear hK K; (try simp only [rl])
                  (refine wpAnyT_one (i := 12) (by kernel_rfl) (Array.getElem?_eq_getElem (by decide)) fun K hK => ?_); (try simp only [rl])
                  go_simp
                  (refine hK.out _ _ (fun h => Bool.noConfusion (show true = false from h)) ?_); clear hK K; (try simp only [rl])
                  (refine wpAnyT_one (i := 13) (by kernel_rfl) (Array.getElem?_eq_getElem (by decide)) fun K hK => ?_); (try simp only [rl])
                  go_simp
                  (refine hK.out _ _ (fun h => Bool.noConfusion (show true = false from h)) ?_); clear hK K; (try simp only [rl])
                  refine wpAnyT_done (by kernel_rfl) ?_ _
                  have HP := with_end HS9 HI9 hB9 hh hh9 hx9 HS0.out (by omega) (by omega)
                  obtain ⟨wy, hwy⟩ : ∃ wy, (w9.setCell ⟨w.heap.size + 3, 3, none⟩ (Value.slice (some ⟨g4, 0, none⟩) (n + 1) cap4)).setCell ⟨w.heap.size + 3, 4, none⟩ (Value.slice (some ⟨g9, 0, none⟩) (n + 1) cap9) = wy := ⟨_, rfl⟩
                  rw [hwy] at HP ⊢
                  clear hwy
                  generalize wr.heap.size = b3
                  generalize w4.heap.size = b8
                  exact cont g4 cap4 g9 cap9 b3 b8 wy HP
                · (try simp only [rl])
                  go_simp
                  refine hK.out _ _ (fun _ => Sof _ Hxt) ?_; clear hK K; (try simp only [rl])
                  (refine wpAnyT_one (i := 4) (by kernel_rfl) (Array.getElem?_eq_getElem (by decide)) fun K hK => ?_); (try simp only [rl])
                  rw [if_pos (by simp [Region.wanted])]
                  refine app_key (key) (wr.heap.size) (by rfl) (by rfl) (by rfl) HS.out HI.out Xt Hxt Bxt (by omega) (by omega) ?_
                  intro g4 cap4 w4 HS4 HI4 hh4 hxf hgrow4
                  have hx4 := hxf w hx (by omega)
                  have hz4 := hh4.size
                  clear hxf
                  have hX4 : Box w4 (wr.heap.size + 1) #[.int .i64 y.k, .int .i64 y.n, .string y.s, .slice kb y.keys.length kd, .slice lb y.l.length ld] 25 := Box.grown (w' := w4) Bxt hgrow4 (fun e => by have h' := (OwnS.lt HS.out _ e.symm).2; omega)
                  refine hK.out _ _ (fun _ => Sof _ Hxt) ?_; clear hK K; (try simp only [rl])
                  (refine wpAnyT_take (i := 10) (v := ?_) [11] (Array.getElem?_eq_getElem (by decide)) (by kernel_rfl) (by kernel_rfl) (by kernel_rfl) (by kernel_rfl) rfl rfl (by kernel_rfl) (fun _ _ _ h => h) (Or.inl ⟨by kernel_rfl, ?_⟩) (Sof _ Hxt) ?_); rotate_left; (focus (intro w hSw; (try dsimp only at hSw); (try simp only [rl]); go_simp; (try with_reducible rfl))); (try simp only [rl])
                  (refine wpAnyT_one (i := 9) (by kernel_rfl) (Array.getElem?_eq_getElem (by decide)) fun K hK => ?_); (try simp only [rl])
                  rw [if_pos (by simp [Region.wanted])]
                  refine app_val (wr.heap.size + 1) (by rfl) (by rfl) (by rfl) HS4 HI4 Hval.out Xt Hxt Bxt (by omega) (by omega) ?_
                  intro g9 cap9 w9 HS9 HI9 hh9 hxf
                  have hx9 := hxf w hx4 (by omega)
                  have hB9 := Box.held hh9 hB (by omega)
                  clear hgrow4 hxf HS4 HI4
                  have hc9 := hB9.cells; have hf9 := hB9.free; have hl9 := hB9.lt
                  refine hK.out _ _ (fun _ => Sof _ Hxt) ?_; clear hK K; (try simp only [rl])
                  (refine wpAnyT_one (i := 11) (by kernel_rfl) (Array.getElem?_eq_getElem (by decide)) fun K hK => ?_); (try simp only [rl])
                  go_simp
                  (refine hK.out _ _ (fun h => Bool.noConfusion (show true = false from h)) ?_); clear hK K; (try simp only [rl])
                  (refine wpAnyT_one (i := 12) (by kernel_rfl) (Array.getElem?_eq_getElem (by decide)) fun K hK => ?_); (try simp only [rl])
                  go_simp
                  (refine hK.out _ _ (fun h => Bool.noConfusion (show true = false from h)) ?_); clear hK K; (try simp only [rl])
                  (refine wpAnyT_one (i := 13) (by kernel_rfl) (Array.getElem?_eq_getElem (by decide)) fun K hK => ?_); (try simp only [rl])
                  go_simp
                  (refine hK.out _ _ (fun h => Bool.noConfusion (show true = false from h)) ?_); clear hK K; (try simp only [rl])
                  refine wpAnyT_done (by kernel_rfl) ?_ _
                  have HP := with_end HS9 HI9 hB9 hh hh9 hx9 HS0.out (by omega) (by omega)
                  exact cont g4 cap4 g9 cap9 _ _ _ HP
              · (try simp only [rl])
                go_simp
                refine hK.out _ _ (fun _ => Sof _ Hxt) ?_; clear hK K; (try simp only [rl])
                (refine wpAnyT_one (i := 3) (by kernel_rfl) (Array.getElem?_eq_getElem (by decide)) fun K hK => ?_); (try simp only [rl])
                go_simp
                refine hK.out _ _ (fun _ => Sof _ Hxt) ?_; clear hK K; (try simp only [rl])
                (refine wpAnyT_one (i := 4) (by kernel_rfl) (Array.getElem?_eq_getElem (by decide)) fun K hK => ?_); (try simp only [rl])
                rw [if_pos (by simp [Region.wanted])]
                refine app_key (key) (wr.heap.size + 1) (by rfl) (by rfl) (by rfl) HS.out HI.out Xt Hxt Bxt (by omega) (by omega) ?_
                intro g4 cap4 w4 HS4 HI4 hh4 hxf hgrow4
                have hx4 := hxf w hx (by omega)
                have hz4 := hh4.size
                clear hxf
                have hX4 : Box w4 (wr.heap.size) #[.int .i64 y.k, .int .i64 y.n, .string y.s, .slice kb y.keys.length kd, .slice lb y.l.length ld] 25 := Box.grown (w' := w4) Bxt hgrow4 (fun e => by have h' := (OwnS.lt HS.out _ e.symm).2; omega)
                refine hK.out _ _ (fun _ => Sof _ Hxt) ?_; clear hK K; (try simp only [rl])
                (refine wpAnyT_take (i := 10) (v := ?_) [11] (Array.getElem?_eq_getElem (by decide)) (by kernel_rfl) (by kernel_rfl) (by kernel_rfl) (by kernel_rfl) rfl rfl (by kernel_rfl) (fun _ _ _ h => h) (Or.inl ⟨by kernel_rfl, ?_⟩) (Sof _ Hxt) ?_); rotate_left; (focus (intro w hSw; (try dsimp only at hSw); (try simp only [rl]); go_simp; (try with_reducible rfl))); (try simp only [rl])
                (refine wpAnyT_one (i := 9) (by kernel_rfl) (Array.getElem?_eq_getElem (by decide)) fun K hK => ?_); (try simp only [rl])
                rw [if_pos (by simp [Region.wanted])]
                refine app_val (wr.heap.size) (by rfl) (by rfl) (by rfl) HS4 HI4 Hval.out Xt Hxt Bxt (by omega) (by omega) ?_
                intro g9 cap9 w9 HS9 HI9 hh9 hxf
                have hx9 := hxf w hx4 (by omega)
                have hB9 := Box.held hh9 hB (by omega)
                clear hgrow4 hxf HS4 HI4
                have hc9 := hB9.cells; have hf9 := hB9.free; have hl9 := hB9.lt
                refine hK.out _ _ (fun _ => Sof _ Hxt) ?_; clear hK K; (try simp only [rl])
                (refine wpAnyT_one (i := 11) (by kernel_rfl) (Array.getElem?_eq_getElem (by decide)) fun K hK => ?_); (try simp only [rl])
                go_simp
                (refine hK.out _ _ (fun h => Bool.noConfusion (show true = false from h)) ?_); clear hK K; (try simp only [rl])
                (refine wpAnyT_one (i := 12) (by kernel_rfl) (Array.getElem?_eq_getElem (by decide)) fun K hK => ?_); (try simp only [rl])
                go_simp
                (refine hK.out _ _ (fun h => Bool.noConfusion (show true = false from h)) ?_); clear hK K; (try simp only [rl])
                (refine wpAnyT_one (i := 13) (by kernel_rfl) (Array.getElem?_eq_getElem (by decide)) fun K hK => ?_); (try simp only [rl])
                go_simp
                (refine hK.out _ _ (fun h => Bool.noConfusion (show true = false from h)) ?_); clear hK K; (try simp only [rl])
                refine wpAnyT_done (by kernel_rfl) ?_ _
                have HP := with_end HS9 HI9 hB9 hh hh9 hx9 HS0.out (by omega) (by omega)
                exact cont g4 cap4 g9 cap9 _ _ _ HP
            case rest2 =>
              rintro g4 cap4 g9 cap9 b3 b8 wy ⟨hSy, hIy, hBy, hxy, hhy⟩
              go_wp2_with fail
              go_roundg (x.keys.length - (k + 1))
              case measure => omega
              case rel => exact ⟨k + 1, n + 1, _, _, _, _, true, by omega, by go_num, rfl, rfl, Lib.hid (by simp; omega), by omega, Lib.hid (by rw [putTo_has hlt Hkq.out rfl]; exact hSy), Lib.hid (by rw [putTo_has hlt2 Hkq.out rfl]; exact hIy), hBy, hxy, hhy⟩
          | false =>
            obtain ⟨f2, f3⟩ := hf.2.2.2 (.inr rfl)
            clear hf hkq
            go_upto_region 7 with fail
            refine meet ?G3 (fun g4 cap4 g9 cap9 wy => OwnS wy wb.heap.size (.slice (some ⟨g4, 0, none⟩) (n + 1) cap4) (n + 1) ((putTo p false key x.keys k) ++ [key]) ∧ OwnI wy wb.heap.size S0 (.slice (some ⟨g9, 0, none⟩) (n + 1) cap9) (n + 1) ((putTo p false y x.l k) ++ [y]) ∧
                Box wy (w.heap.size + 3) #[.int .i64 5, .int .i64 0, .string ⟨#[]⟩, .slice (some ⟨g4, 0, none⟩) (n + 1) cap4, .slice (some ⟨g9, 0, none⟩) (n + 1) cap9] 25 ∧ Ext w wy ∧ Held (fun b => b < wb.heap.size ∧ b ≠ w.heap.size + 3) wb wy) (fun cont => ?reg3) ?rest3
            case reg3 =>
              have Sof : ∀ w', Held (fun b => b < wb.heap.size) wr w' → (w'.cell? ⟨w.heap.size + 3, 3, none⟩ = some (.slice a2 n c2) ∧ w'.cell? ⟨w.heap.size + 3, 4, none⟩ = some (.slice a3 n c3) ∧ w'.cell? ⟨w.heap.size + 1, 0, none⟩ = some (.int .i64 y.k) ∧ w'.cell? ⟨w.heap.size + 1, 1, none⟩ = some (.int .i64 y.n) ∧ w'.cell? ⟨w.heap.size + 1, 2, none⟩ = some (.string y.s) ∧ w'.cell? ⟨w.heap.size + 1, 3, none⟩ = some (.slice kb y.keys.length kd) ∧ w'.cell? ⟨w.heap.size + 1, 4, none⟩ = some (.slice lb y.l.length ld)) := fun w' e => ⟨e.kept.cell (by dsimp only; omega) (hB.cells 3), e.kept.cell (by dsimp only; omega) (hB.cells 4), e.kept.cell (by dsimp only; omega) (hB1.cells 0), e.kept.cell (by dsimp only; omega) (hB1.cells 1), e.kept.cell (by dsimp only; omega) (hB1.cells 2), e.kept.cell (by dsimp only; omega) (hB1.cells 3), e.kept.cell (by dsimp only; omega) (hB1.cells 4)⟩
              refine wp_region_till (S := fun w' => w'.cell? ⟨w.heap.size + 3, 3, none⟩ = some (.slice a2 n c2) ∧ w'.cell? ⟨w.heap.size + 3, 4, none⟩ = some (.slice a3 n c3) ∧ w'.cell? ⟨w.heap.size + 1, 0, none⟩ = some (.int .i64 y.k) ∧ w'.cell? ⟨w.heap.size + 1, 1, none⟩ = some (.int .i64 y.n) ∧ w'.cell? ⟨w.heap.size + 1, 2, none⟩ = some (.string y.s) ∧ w'.cell? ⟨w.heap.size + 1, 3, none⟩ = some (.slice kb y.keys.length kd) ∧ w'.cell? ⟨w.heap.size + 1, 4, none⟩ = some (.slice lb y.l.length ld)) (c := 11) (by kernel_rfl) ?_
              (refine wpAnyT_take (i := 0) (v := ?_) [11] (Array.getElem?_eq_getElem (by decide)) (by kernel_rfl) (by kernel_rfl) (by kernel_rfl) (by kernel_rfl) rfl rfl (by kernel_rfl) (fun _ _ _ h => h) (Or.inl ⟨by kernel_rfl, ?_⟩) (Sof _ Hxt) ?_); rotate_left; (focus (intro w hSw; (try dsimp only at hSw); (try simp only [rl]); go_simp; (try with_reducible rfl))); (try simp only [rl])
              (refine wpAnyT_take (i := 1) (v := ?_) [11] (Array.getElem?_eq_getElem (by decide)) (by kernel_rfl) (by kernel_rfl) (by kernel_rfl) (by kernel_rfl) rfl rfl (by kernel_rfl) (fun _ _ _ h => h) (Or.inl ⟨by kernel_rfl, ?_⟩) (Sof _ Hxt) ?_); rotate_left; (focus (intro w hSw; (try dsimp only at hSw); (try simp only [rl]); go_simp; (try with_reducible rfl))); (try simp only [rl])
              (refine wpAnyT_take (i := 2) (v := ?_) [11] (Array.getElem?_eq_getElem (by decide)) (by kernel_rfl) (by kernel_rfl) (by kernel_rfl) (by kernel_rfl) rfl rfl (by kernel_rfl) (fun _ _ _ h => h) (Or.inl ⟨by kernel_rfl, ?_⟩) (Sof _ Hxt) ?_); rotate_left; (focus (intro w hSw; (try dsimp only at hSw); (try simp only [rl]); go_simp; (try with_reducible rfl))); (try simp only [rl])
              (refine wpAnyT_take (i := 5) (v := ?_) [11] (Array.getElem?_eq_getElem (by decide)) (by kernel_rfl) (by kernel_rfl) (by kernel_rfl) (by kernel_rfl) rfl rfl (by kernel_rfl) (fun _ _ _ h => h) (Or.inl ⟨by kernel_rfl, ?_⟩) (Sof _ Hxt) ?_); rotate_left; (focus (intro w hSw; (try dsimp only at hSw); (try simp only [rl]); go_simp; (try with_reducible rfl))); (try simp only [rl])
              (refine wpAnyT_take (i := 6) (v := ?_) [11] (Array.getElem?_eq_getElem (by decide)) (by kernel_rfl) (by kernel_rfl) (by kernel_rfl) (by kernel_rfl) rfl rfl (by kernel_rfl) (fun _ _ _ h => h) (Or.inl ⟨by kernel_rfl, ?_⟩) (Sof _ Hxt) ?_); rotate_left; (focus (intro w hSw; (try dsimp only at hSw); (try simp only [rl]); go_simp; (try with_reducible rfl))); (try simp only [rl])
              (refine wpAnyT_take (i := 7) (v := ?_) [8, 9, 11] (Array.getElem?_eq_getElem (by decide)) (by kernel_rfl) (by kernel_rfl) (by kernel_rfl) (by kernel_rfl) rfl rfl (by kernel_rfl) (fun _ _ _ h => h) (Or.inl ⟨by kernel_rfl, ?_⟩) (Sof _ Hxt) ?_); rotate_left; (focus (intro w hSw; (try dsimp only at hSw); (try simp only [rl]); go_simp; (try with_reducible rfl))); (try simp only [rl])
              refine wpAnyT_ready (rs := [3, 8]) (by kernel_rfl) (by simp) ?_
              refine AllReadyT.cons (Array.getElem?_eq_getElem (by decide)) (fun K hK => ?_) (AllReadyT.cons (Array.getElem?_eq_getElem (by decide)) (fun K hK => ?_) AllReadyT.nil)
              · (try simp only [rl])
                go_simp
                refine hK.out _ _ (fun _ => Sof _ Hxt) ?_; clear hK K; (try simp only [rl])
                refine wpAnyT_ready (rs := [4, 8]) (by kernel_rfl) (by simp) ?_
                refine AllReadyT.cons (Array.getElem?_eq_getElem (by decide)) (fun K hK => ?_) (AllReadyT.cons (Array.getElem?_eq_getElem (by decide)) (fun K hK => ?_) AllReadyT.nil)
                · (try simp only [rl])
                  rw [if_pos (by simp [Region.wanted])]
                  refine app_key (key) (wr.heap.size) (by rfl) (by rfl) (by rfl) HS.out HI.out Xt Hxt Bxt (by omega) (by omega) ?_
                  intro g4 cap4 w4 HS4 HI4 hh4 hxf hgrow4
                  have hx4 := hxf w hx (by omega)
                  have hz4 := hh4.size
                  clear hxf
                  refine hK.out _ _ (fun _ => Sof _ Hxt) ?_; clear hK K; (try simp only [rl])
                  (refine wpAnyT_take (i := 10) (v := ?_) [11] (Array.getElem?_eq_getElem (by decide)) (by kernel_rfl) (by kernel_rfl) (by kernel_rfl) (by kernel_rfl) rfl rfl (by kernel_rfl) (fun _ _ _ h => h) (Or.inl ⟨by kernel_rfl, ?_⟩) (Sof _ Hxt) ?_); rotate_left; (focus (intro w hSw; (try dsimp only at hSw); (try simp only [rl]); go_simp; (try with_reducible rfl))); (try simp only [rl])
                  (refine wpAnyT_one (i := 8) (by kernel_rfl) (Array.getElem?_eq_getElem (by decide)) fun K hK => ?_); (try simp only [rl])
                  go_simp
                  refine hK.out _ _ (fun _ => Sof _ Hxt) ?_; clear hK K; (try simp only [rl])
                  (refine wpAnyT_one (i := 9) (by kernel_rfl) (Array.getElem?_eq_getElem (by decide)) fun K hK => ?_); (try simp only [rl])
                  rw [if_pos (by simp [Region.wanted])]
                  refine app_val (w4.heap.size) (by rfl) (by rfl) (by rfl) HS4 HI4 Hval.out Xt Hxt Bxt (by omega) (by omega) ?_
                  intro g9 cap9 w9 HS9 HI9 hh9 hxf
                  have hx9 := hxf w hx4 (by omega)
                  have hB9 := Box.held hh9 hB (by omega)
                  clear hgrow4 hxf HS4 HI4
                  have hc9 := hB9.cells; have hf9 := hB9.free; have hl9 := hB9.lt
                  refine hK.out _ _ (fun _ => Sof _ Hxt) ?_; clear hK K; (try simp only [rl])
                  (refine wpAnyT_one (i := 11) (by kernel_rfl) (Array.getElem?_eq_getElem (by decide)) fun K hK => ?_); (try simp only [rl])
                  go_simp
                  (refine hK.out _ _ (fun h => Bool.noConfusion (show true = false from h)) ?_); clear hK K; (try simp only [rl])
                  (refine wpAnyT_one (i := 12) (by kernel_rfl) (Array.getElem?_eq_getElem (by decide)) fun K hK => ?_); (try simp only [rl])
                  go_simp
                  (refine hK.out _ _ (fun h => Bool.noConfusion (show true = false from h)) ?_); clear hK K; (try simp only [rl])
                  (refine wpAnyT_one (i := 13) (by kernel_rfl) (Array.getElem?_eq_getElem (by decide)) fun K hK => ?_); (try simp only [rl])
                  go_simp
                  (refine hK.out _ _ (fun h => Bool.noConfusion (show true = false from h)) ?_); clear hK K; (try simp only [rl])
                  refine wpAnyT_done (by kernel_rfl) ?_ _
                  have HP := with_end HS9 HI9 hB9 hh hh9 hx9 HS0.out (by omega) (by omega)
                  obtain ⟨wy, hwy⟩ : ∃ wy, (w9.setCell ⟨w.heap.size + 3, 3, none⟩ (Value.slice (some ⟨g4, 0, none⟩) (n + 1) cap4)).setCell ⟨w.heap.size + 3, 4, none⟩ (Value.slice (some ⟨g9, 0, none⟩) (n + 1) cap9) = wy := ⟨_, rfl⟩
                  rw [hwy] at HP ⊢
                  clear hwy
                  generalize wr.heap.size = b3
                  generalize w4.heap.size = b8
                  exact cont g4 cap4 g9 cap9 b3 b8 wy HP
                · (try simp only [rl])
                  go_simp
                  refine hK.out _ _ (fun _ => Sof _ Hxt) ?_; clear hK K; (try simp only [rl])
                  (refine wpAnyT_one (i := 4) (by kernel_rfl) (Array.getElem?_eq_getElem (by decide)) fun K hK => ?_); (try simp only [rl])
                  rw [if_pos (by simp [Region.wanted])]
                  refine app_key (key) (wr.heap.size) (by rfl) (by rfl) (by rfl) HS.out HI.out Xt Hxt Bxt (by omega) (by omega) ?_
                  intro g4 cap4 w4 HS4 HI4 hh4 hxf hgrow4
                  have hx4 := hxf w hx (by omega)
                  have hz4 := hh4.size
                  clear hxf
                  have hX4 : Box w4 (wr.heap.size + 1) #[.int .i64 y.k, .int .i64 y.n, .string y.s, .slice kb y.keys.length kd, .slice lb y.l.length ld] 25 := Box.grown (w' := w4) Bxt hgrow4 (fun e => by have h' := (OwnS.lt HS.out _ e.symm).2; omega)
                  refine hK.out _ _ (fun _ => Sof _ Hxt) ?_; clear hK K; (try simp only [rl])
                  (refine wpAnyT_take (i := 10) (v := ?_) [11] (Array.getElem?_eq_getElem (by decide)) (by kernel_rfl) (by kernel_rfl) (by kernel_rfl) (by kernel_rfl) rfl rfl (by kernel_rfl) (fun _ _ _ h => h) (Or.inl ⟨by kernel_rfl, ?_⟩) (Sof _ Hxt) ?_); rotate_left; (focus (intro w hSw; (try dsimp only at hSw); (try simp only [rl]); go_simp; (try with_reducible rfl))); (try simp only [rl])
                  (refine wpAnyT_one (i := 9) (by kernel_rfl) (Array.getElem?_eq_getElem (by decide)) fun K hK => ?_); (try simp only [rl])
                  rw [if_pos (by simp [Region.wanted])]
                  refine app_val (wr.heap.size + 1) (by rfl) (by rfl) (by rfl) HS4 HI4 Hval.out Xt Hxt Bxt (by omega) (by omega) ?_
                  intro g9 cap9 w9 HS9 HI9 hh9 hxf
                  have hx9 := hxf w hx4 (by omega)
                  have hB9 := Box.held hh9 hB (by omega)
                  clear hgrow4 hxf HS4 HI4
                  have hc9 := hB9.cells; have hf9 := hB9.free; have hl9 := hB9.lt
                  refine hK.out _ _ (fun _ => Sof _ Hxt) ?_; clear hK K; (try simp only [rl])
                  (refine wpAnyT_one (i := 11) (by kernel_rfl) (Array.getElem?_eq_getElem (by decide)) fun K hK => ?_); (try simp only [rl])
                  go_simp
                  (refine hK.out _ _ (fun h => Bool.noConfusion (show true = false from h)) ?_); clear hK K; (try simp only [rl])
                  (refine wpAnyT_one (i := 12) (by kernel_rfl) (Array.getElem?_eq_getElem (by decide)) fun K hK => ?_); (try simp only [rl])
                  go_simp
                  (refine hK.out _ _ (fun h => Bool.noConfusion (show true = false from h)) ?_); clear hK K; (try simp only [rl])
                  (refine wpAnyT_one (i := 13) (by kernel_rfl) (Array.getElem?_eq_getElem (by decide)) fun K hK => ?_); (try simp only [rl])
                  go_simp
                  (refine hK.out _ _ (fun h => Bool.noConfusion (show true = false from h)) ?_); clear hK K; (try simp only [rl])
                  refine wpAnyT_done (by kernel_rfl) ?_ _
                  have HP := with_end HS9 HI9 hB9 hh hh9 hx9 HS0.out (by omega) (by omega)
                  exact cont g4 cap4 g9 cap9 _ _ _ HP
              · (try simp only [rl])
                go_simp
                refine hK.out _ _ (fun _ => Sof _ Hxt) ?_; clear hK K; (try simp only [rl])
                (refine wpAnyT_one (i := 3) (by kernel_rfl) (Array.getElem?_eq_getElem (by decide)) fun K hK => ?_); (try simp only [rl])
                go_simp
                refine hK.out _ _ (fun _ => Sof _ Hxt) ?_; clear hK K; (try simp only [rl])
                (refine wpAnyT_one (i := 4) (by kernel_rfl) (Array.getElem?_eq_getElem (by decide)) fun K hK => ?_); (try simp only [rl])
                rw [if_pos (by simp [Region.wanted])]
                refine app_key (key) (wr.heap.size + 1) (by rfl) (by rfl) (by rfl) HS.out HI.out Xt Hxt Bxt (by omega) (by omega) ?_
                intro g4 cap4 w4 HS4 HI4 hh4 hxf hgrow4
                have hx4 := hxf w hx (by omega)
                have hz4 := hh4.size
                clear hxf
                have hX4 : Box w4 (wr.heap.size) #[.int .i64 y.k, .int .i64 y.n, .string y.s, .slice kb y.keys.length kd, .slice lb y.l.length ld] 25 := Box.grown (w' := w4) Bxt hgrow4 (fun e => by have h' := (OwnS.lt HS.out _ e.symm).2; omega)
                refine hK.out _ _ (fun _ => Sof _ Hxt) ?_; clear hK K; (try simp only [rl])
                (refine wpAnyT_take (i := 10) (v := ?_) [11] (Array.getElem?_eq_getElem (by decide)) (by kernel_rfl) (by kernel_rfl) (by kernel_rfl) (by kernel_rfl) rfl rfl (by kernel_rfl) (fun _ _ _ h => h) (Or.inl ⟨by kernel_rfl, ?_⟩) (Sof _ Hxt) ?_); rotate_left; (focus (intro w hSw; (try dsimp only at hSw); (try simp only [rl]); go_simp; (try with_reducible rfl))); (try simp only [rl])
                (refine wpAnyT_one (i := 9) (by kernel_rfl) (Array.getElem?_eq_getElem (by decide)) fun K hK => ?_); (try simp only [rl])
                rw [if_pos (by simp [Region.wanted])]
                refine app_val (wr.heap.size) (by rfl) (by rfl) (by rfl) HS4 HI4 Hval.out Xt Hxt Bxt (by omega) (by omega) ?_
                intro g9 cap9 w9 HS9 HI9 hh9 hxf
                have hx9 := hxf w hx4 (by omega)
                have hB9 := Box.held hh9 hB (by omega)
                clear hgrow4 hxf HS4 HI4
                have hc9 := hB9.cells; have hf9 := hB9.free; have hl9 := hB9.lt
                refine hK.out _ _ (fun _ => Sof _ Hxt) ?_; clear hK K; (try simp only [rl])
                (refine wpAnyT_one (i := 11) (by kernel_rfl) (Array.getElem?_eq_getElem (by decide)) fun K hK => ?_); (try simp only [rl])
                go_simp
                (refine hK.out _ _ (fun h => Bool.noConfusion (show true = false from h)) ?_); clear hK K; (try simp only [rl])
                (refine wpAnyT_one (i := 12) (by kernel_rfl) (Array.getElem?_eq_getElem (by decide)) fun K hK => ?_); (try simp only [rl])
                go_simp
                (refine hK.out _ _ (fun h => Bool.noConfusion (show true = false from h)) ?_); clear hK K; (try simp only [rl])
                (refine wpAnyT_one (i := 13) (by kernel_rfl) (Array.getElem?_eq_getElem (by decide)) fun K hK => ?_); (try simp only [rl])
                go_simp
                (refine hK.out _ _ (fun h => Bool.noConfusion (show true = false from h)) ?_); clear hK K; (try simp only [rl])
                refine wpAnyT_done (by kernel_rfl) ?_ _
                have HP := with_end HS9 HI9 hB9 hh hh9 hx9 HS0.out (by omega) (by omega)
                exact cont g4 cap4 g9 cap9 _ _ _ HP
            case rest3 =>
              rintro g4 cap4 g9 cap9 b3 b8 wy ⟨hSy, hIy, hBy, hxy, hhy⟩
              have hszy := hhy.size
              have hB0y := Box.held hhy hC0 (by constructor <;> omega)
              clear hc0 hf0 hl0 hc1 hf1 hl1 hc3 hf3 hl3
              have HSy := Lib.hid hSy
              have HIy := Lib.hid hIy
              clear hSy hIy
              have dd0 := hxy.cell o0
              have dd1 := hxy.cell o1
              have dd2 := hxy.cell o2
              have dd3 := hxy.cell o3
              have dd4 := hxy.cell o4
              have Hval2 : Hid (x.l[k].In wy (fun b => b < wb.heap.size ∧ S0 b) ka' kc' la' lc') := Lib.hid ((hin'.mono (fun b h hl => ⟨by omega, h⟩)).ext hxy)
              clear d0 d1 d2 d3 d4 o0 o1 o2 o3 o4 e0 HvalY HvalI Hval hB HS HI hh hx hB0 hB1
              have hc0 := hB0y.cells; have hf0 := hB0y.free; have hl0 := hB0y.lt
              have hc3 := hBy.cells; have hf3 := hBy.free; have hl3 := hBy.lt
              go_upto_region 10 with fail
              refine meet ?G4 (fun g42 cap42 g92 cap92 wy2 => OwnS wy2 wb.heap.size (.slice (some ⟨g42, 0, none⟩) ((n + 1) + 1) cap42) ((n + 1) + 1) (((putTo p false key x.keys k) ++ [key]) ++ [x.keys[k]]) ∧ OwnI wy2 wb.heap.size S0 (.slice (some ⟨g92, 0, none⟩) ((n + 1) + 1) cap92) ((n + 1) + 1) (((putTo p false y x.l k) ++ [y]) ++ [x.l[k]]) ∧
                  Box wy2 (w.heap.size + 3) #[.int .i64 5, .int .i64 0, .string ⟨#[]⟩, .slice (some ⟨g42, 0, none⟩) ((n + 1) + 1) cap42, .slice (some ⟨g92, 0, none⟩) ((n + 1) + 1) cap92] 25 ∧ Ext w wy2 ∧ Held (fun b => b < wb.heap.size ∧ b ≠ w.heap.size + 3) wb wy2) (fun cont => ?reg4) ?rest4
              case reg4 =>
                have Sof : ∀ w', Held (fun b => b < wb.heap.size) wy w' → (w'.cell? ⟨w.heap.size + 3, 3, none⟩ = some (.slice (some ⟨g4, 0, none⟩) (n + 1) cap4) ∧ w'.cell? ⟨w.heap.size + 3, 4, none⟩ = some (.slice (some ⟨g9, 0, none⟩) (n + 1) cap9) ∧ w'.cell? ⟨w.heap.size, 4, none⟩ = some (.slice (some ⟨b, o, none⟩) x.l.length lc) ∧ w'.cell? ⟨b, o + k * 5, none⟩ = some (.int .i64 x.l[k].k) ∧ w'.cell? ⟨b, o + k * 5 + 1, none⟩ = some (.int .i64 x.l[k].n) ∧ w'.cell? ⟨b, o + k * 5 + 2, none⟩ = some (.string x.l[k].s) ∧ w'.cell? ⟨b, o + k * 5 + 3, none⟩ = some (.slice ka' x.l[k].keys.length kc') ∧ w'.cell? ⟨b, o + k * 5 + 4, none⟩ = some (.slice la' x.l[k].l.length lc')) := fun w' e => ⟨e.kept.cell (by dsimp only; omega) (hBy.cells 3), e.kept.cell (by dsimp only; omega) (hBy.cells 4), e.kept.cell (by dsimp only; omega) (hB0y.cells 4), e.kept.cell (by dsimp only; omega) dd0, e.kept.cell (by dsimp only; omega) dd1, e.kept.cell (by dsimp only; omega) dd2, e.kept.cell (by dsimp only; omega) dd3, e.kept.cell (by dsimp only; omega) dd4⟩
                refine wp_region_till (S := fun w' => w'.cell? ⟨w.heap.size + 3, 3, none⟩ = some (.slice (some ⟨g4, 0, none⟩) (n + 1) cap4) ∧ w'.cell? ⟨w.heap.size + 3, 4, none⟩ = some (.slice (some ⟨g9, 0, none⟩) (n + 1) cap9) ∧ w'.cell? ⟨w.heap.size, 4, none⟩ = some (.slice (some ⟨b, o, none⟩) x.l.length lc) ∧ w'.cell? ⟨b, o + k * 5, none⟩ = some (.int .i64 x.l[k].k) ∧ w'.cell? ⟨b, o + k * 5 + 1, none⟩ = some (.int .i64 x.l[k].n) ∧ w'.cell? ⟨b, o + k * 5 + 2, none⟩ = some (.string x.l[k].s) ∧ w'.cell? ⟨b, o + k * 5 + 3, none⟩ = some (.slice ka' x.l[k].keys.length kc') ∧ w'.cell? ⟨b, o + k * 5 + 4, none⟩ = some (.slice la' x.l[k].l.length lc')) (c := 15) (by kernel_rfl) ?_
                (refine wpAnyT_take (i := 0) (v := ?_) [15] (Array.getElem?_eq_getElem (by decide)) (by kernel_rfl) (by kernel_rfl) (by kernel_rfl) (by kernel_rfl) rfl rfl (by kernel_rfl) (fun _ _ _ h => h) (Or.inl ⟨by kernel_rfl, ?_⟩) (Sof _ Hxt) ?_); rotate_left; (focus (intro w hSw; (try dsimp only at hSw); (try simp only [rl]); go_simp; (try with_reducible rfl))); (try simp only [rl])
                (refine wpAnyT_take (i := 1) (v := ?_) [15] (Array.getElem?_eq_getElem (by decide)) (by kernel_rfl) (by kernel_rfl) (by kernel_rfl) (by kernel_rfl) rfl rfl (by kernel_rfl) (fun _ _ _ h => h) (Or.inl ⟨by kernel_rfl, ?_⟩) (Sof _ Hxt) ?_); rotate_left; (focus (intro w hSw; (try dsimp only at hSw); (try simp only [rl]); go_simp; (try with_reducible rfl))); (try simp only [rl])
                (refine wpAnyT_take (i := 2) (v := ?_) [15] (Array.getElem?_eq_getElem (by decide)) (by kernel_rfl) (by kernel_rfl) (by kernel_rfl) (by kernel_rfl) rfl rfl (by kernel_rfl) (fun _ _ _ h => h) (Or.inl ⟨by kernel_rfl, ?_⟩) (Sof _ Hxt) ?_); rotate_left; (focus (intro w hSw; (try dsimp only at hSw); (try simp only [rl]); go_simp; (try with_reducible rfl))); (try simp only [rl])
                (refine wpAnyT_take (i := 5) (v := ?_) [15] (Array.getElem?_eq_getElem (by decide)) (by kernel_rfl) (by kernel_rfl) (by kernel_rfl) (by kernel_rfl) rfl rfl (by kernel_rfl) (fun _ _ _ h => h) (Or.inl ⟨by kernel_rfl, ?_⟩) (Sof _ Hxt) ?_); rotate_left; (focus (intro w hSw; (try dsimp only at hSw); (try simp only [rl]); go_simp; (try with_reducible rfl))); (try simp only [rl])
                (refine wpAnyT_take (i := 6) (v := ?_) [15] (Array.getElem?_eq_getElem (by decide)) (by kernel_rfl) (by kernel_rfl) (by kernel_rfl) (by kernel_rfl) rfl rfl (by kernel_rfl) (fun _ _ _ h => h) (Or.inl ⟨by kernel_rfl, ?_⟩) (Sof _ Hxt) ?_); rotate_left; (focus (intro w hSw; (try dsimp only at hSw); (try simp only [rl]); go_simp; (try with_reducible rfl))); (try simp only [rl])
                (refine wpAnyT_take (i := 7) (v := ?_) [8, 10, 11, 12, 13, 15] (Array.getElem?_eq_getElem (by decide)) (by kernel_rfl) (by kernel_rfl) (by kernel_rfl) (by kernel_rfl) rfl rfl (by kernel_rfl) (fun _ _ _ h => h) (Or.inl ⟨by kernel_rfl, ?_⟩) (Sof _ Hxt) ?_); rotate_left; (focus (intro w hSw; (try dsimp only at hSw); (try simp only [rl]); go_simp; (try with_reducible rfl))); (try simp only [rl])
                (refine wpAnyT_take (i := 8) (v := ?_) [10, 11, 12, 13, 15] (Array.getElem?_eq_getElem (by decide)) (by kernel_rfl) (by kernel_rfl) (by kernel_rfl) (by kernel_rfl) rfl rfl (by kernel_rfl) (fun _ _ _ h => h) (Or.inl ⟨by kernel_rfl, ?_⟩) (Sof _ Hxt) ?_); rotate_left; (focus (intro w hSw; (try dsimp only at hSw); (try simp only [rl]); go_simp; (try with_reducible rfl))); (try simp only [rl])
                (refine wpAnyT_take (i := 9) (v := ?_) [10, 11, 12, 13, 15] (Array.getElem?_eq_getElem (by decide)) (by kernel_rfl) (by kernel_rfl) (by kernel_rfl) (by kernel_rfl) rfl rfl (by kernel_rfl) (fun _ _ _ h => h) (Or.inl ⟨by kernel_rfl, ?_⟩) (Sof _ Hxt) ?_); rotate_left; (focus (intro w hSw; (try dsimp only at hSw); (try simp only [rl]); go_simp; (try with_reducible rfl))); (try simp only [rl])
                (refine wpAnyT_take (i := 10) (v := ?_) [11, 12, 13, 15] (Array.getElem?_eq_getElem (by decide)) (by kernel_rfl) (by kernel_rfl) (by kernel_rfl) (by kernel_rfl) rfl rfl (by kernel_rfl) (fun _ _ _ h => h) (Or.inl ⟨by kernel_rfl, ?_⟩) (Sof _ Hxt) ?_); rotate_left; (focus (intro w hSw; (try dsimp only at hSw); (try simp only [rl]); go_simp; (try with_reducible rfl))); (try simp only [rl])
                (refine wpAnyT_take (i := 11) (v := ?_) [12, 13, 15] (Array.getElem?_eq_getElem (by decide)) (by kernel_rfl) (by kernel_rfl) (by kernel_rfl) (by kernel_rfl) rfl rfl (by kernel_rfl) (fun _ _ _ h => h) (Or.inl ⟨by kernel_rfl, ?_⟩) (Sof _ Hxt) ?_); rotate_left; (focus (intro w hSw; (try dsimp only at hSw); (try simp only [rl]); go_simp; (try with_reducible rfl))); (try simp only [rl])
                refine wpAnyT_ready (rs := [3, 12]) (by kernel_rfl) (by simp) ?_
                refine AllReadyT.cons (Array.getElem?_eq_getElem (by decide)) (fun K hK => ?_) (AllReadyT.cons (Array.getElem?_eq_getElem (by decide)) (fun K hK => ?_) AllReadyT.nil)
                · (try simp only [rl])
                  go_simp
                  refine hK.out _ _ (fun _ => Sof _ Hxt) ?_; clear hK K; (try simp only [rl])
                  refine wpAnyT_ready (rs := [4, 12]) (by kernel_rfl) (by simp) ?_
                  refine AllReadyT.cons (Array.getElem?_eq_getElem (by decide)) (fun K hK => ?_) (AllReadyT.cons (Array.getElem?_eq_getElem (by decide)) (fun K hK => ?_) AllReadyT.nil)
                  · (try simp only [rl])
                    rw [if_pos (by simp [Region.wanted])]
                    refine app_key (x.keys[k]) (wy.heap.size) (by rfl) (by rfl) (by rfl) HSy.out HIy.out Xt Hxt Bxt (by omega) (by omega) ?_
                    intro g42 cap42 w4 HS4 HI4 hh4 hxf hgrow4
                    have hx4 := hxf w hxy (by omega)
                    have hz4 := hh4.size
                    clear hxf
                    refine hK.out _ _ (fun _ => Sof _ Hxt) ?_; clear hK K; (try simp only [rl])
                    (refine wpAnyT_take (i := 14) (v := ?_) [15] (Array.getElem?_eq_getElem (by decide)) (by kernel_rfl) (by kernel_rfl) (by kernel_rfl) (by kernel_rfl) rfl rfl (by kernel_rfl) (fun _ _ _ h => h) (Or.inl ⟨by kernel_rfl, ?_⟩) (Sof _ Hxt) ?_); rotate_left; (focus (intro w hSw; (try dsimp only at hSw); (try simp only [rl]); go_simp; (try with_reducible rfl))); (try simp only [rl])
                    (refine wpAnyT_one (i := 12) (by kernel_rfl) (Array.getElem?_eq_getElem (by decide)) fun K hK => ?_); (try simp only [rl])
                    go_simp
                    refine hK.out _ _ (fun _ => Sof _ Hxt) ?_; clear hK K; (try simp only [rl])
                    (refine wpAnyT_one (i := 13) (by kernel_rfl) (Array.getElem?_eq_getElem (by decide)) fun K hK => ?_); (try simp only [rl])
                    rw [if_pos (by simp [Region.wanted])]
                    refine app_val (w4.heap.size) (by rfl) (by rfl) (by rfl) HS4 HI4 Hval2.out Xt Hxt Bxt (by omega) (by omega) ?_
                    intro g92 cap92 w9 HS9 HI9 hh9 hxf
                    have hx9 := hxf w hx4 (by omega)
                    have hB9 := Box.held hh9 hBy (by omega)
                    clear hgrow4 hxf HS4 HI4
                    have hc9 := hB9.cells; have hf9 := hB9.free; have hl9 := hB9.lt
                    refine hK.out _ _ (fun _ => Sof _ Hxt) ?_; clear hK K; (try simp only [rl])
                    (refine wpAnyT_one (i := 15) (by kernel_rfl) (Array.getElem?_eq_getElem (by decide)) fun K hK => ?_); (try simp only [rl])
                    go_simp
                    (refine hK.out _ _ (fun h => Bool.noConfusion (show true = false from h)) ?_); clear hK K; (try simp only [rl])
                    (refine wpAnyT_one (i := 16) (by kernel_rfl) (Array.getElem?_eq_getElem (by decide)) fun K hK => ?_); (try simp only [rl])
                    go_simp
                    (refine hK.out _ _ (fun h => Bool.noConfusion (show true = false from h)) ?_); clear hK K; (try simp only [rl])
                    (refine wpAnyT_one (i := 17) (by kernel_rfl) (Array.getElem?_eq_getElem (by decide)) fun K hK => ?_); (try simp only [rl])
                    go_simp
                    (refine hK.out _ _ (fun h => Bool.noConfusion (show true = false from h)) ?_); clear hK K; (try simp only [rl])
                    refine wpAnyT_done (by kernel_rfl) ?_ _
                    have HP := with_end HS9 HI9 hB9 hhy hh9 hx9 HS0.out (by omega) (by omega)
                    obtain ⟨wy2, hwy⟩ : ∃ wy, (w9.setCell ⟨w.heap.size + 3, 3, none⟩ (Value.slice (some ⟨g42, 0, none⟩) ((n + 1) + 1) cap42)).setCell ⟨w.heap.size + 3, 4, none⟩ (Value.slice (some ⟨g92, 0, none⟩) ((n + 1) + 1) cap92) = wy := ⟨_, rfl⟩
                    rw [hwy] at HP ⊢
                    clear hwy
                    generalize wy.heap.size = b3
                    generalize w4.heap.size = b8
                    exact cont g42 cap42 g92 cap92 b3 b8 wy2 HP
                  · (try simp only [rl])
                    go_simp
                    refine hK.out _ _ (fun _ => Sof _ Hxt) ?_; clear hK K; (try simp only [rl])
                    (refine wpAnyT_one (i := 4) (by kernel_rfl) (Array.getElem?_eq_getElem (by decide)) fun K hK => ?_); (try simp only [rl])
                    rw [if_pos (by simp [Region.wanted])]
                    refine app_key (x.keys[k]) (wy.heap.size) (by rfl) (by rfl) (by rfl) HSy.out HIy.out Xt Hxt Bxt (by omega) (by omega) ?_
                    intro g42 cap42 w4 HS4 HI4 hh4 hxf hgrow4
                    have hx4 := hxf w hxy (by omega)
                    have hz4 := hh4.size
                    clear hxf
                    have hX4 : Box w4 (wy.heap.size + 1) #[.int .i64 x.l[k].k, .int .i64 x.l[k].n, .string x.l[k].s, .slice ka' x.l[k].keys.length kc', .slice la' x.l[k].l.length lc'] 25 := Box.grown (w' := w4) Bxt hgrow4 (fun e => by have h' := (OwnS.lt HSy.out _ e.symm).2; omega)
                    refine hK.out _ _ (fun _ => Sof _ Hxt) ?_; clear hK K; (try simp only [rl])
                    (refine wpAnyT_take (i := 14) (v := ?_) [15] (Array.getElem?_eq_getElem (by decide)) (by kernel_rfl) (by kernel_rfl) (by kernel_rfl) (by kernel_rfl) rfl rfl (by kernel_rfl) (fun _ _ _ h => h) (Or.inl ⟨by kernel_rfl, ?_⟩) (Sof _ Hxt) ?_); rotate_left; (focus (intro w hSw; (try dsimp only at hSw); (try simp only [rl]); go_simp; (try with_reducible rfl))); (try simp only [rl])
                    (refine wpAnyT_one (i := 13) (by kernel_rfl) (Array.getElem?_eq_getElem (by decide)) fun K hK => ?_); (try simp only [rl])
                    rw [if_pos (by simp [Region.wanted])]
                    refine app_val (wy.heap.size + 1) (by rfl) (by rfl) (by rfl) HS4 HI4 Hval2.out Xt Hxt Bxt (by omega) (by omega) ?_
                    intro g92 cap92 w9 HS9 HI9 hh9 hxf
                    have hx9 := hxf w hx4 (by omega)
                    have hB9 := Box.held hh9 hBy (by omega)
                    clear hgrow4 hxf HS4 HI4
                    have hc9 := hB9.cells; have hf9 := hB9.free; have hl9 := hB9.lt
                    refine hK.out _ _ (fun _ => Sof _ Hxt) ?_; clear hK K; (try simp only [rl])
                    (refine wpAnyT_one (i := 15) (by kernel_rfl) (Array.getElem?_eq_getElem (by decide)) fun K hK => ?_); (try simp only [rl])
                    go_simp
                    (refine hK.out _ _ (fun h => Bool.noConfusion (show true = false from h)) ?_); clear hK K; (try simp only [rl])
                    (refine wpAnyT_one (i := 16) (by kernel_rfl) (Array.getElem?_eq_getElem (by decide)) fun K hK => ?_); (try simp only [rl])
                    go_simp
                    (refine hK.out _ _ (fun h => Bool.noConfusion (show true = false from h)) ?_); clear hK K; (try simp only [rl])
                    (refine wpAnyT_one (i := 17) (by kernel_rfl) (Array.getElem?_eq_getElem (by decide)) fun K hK => ?_); (try simp only [rl])
                    go_simp
                    (refine hK.out _ _ (fun h => Bool.noConfusion (show true = false from h)) ?_); clear hK K; (try simp only [rl])
                    refine wpAnyT_done (by kernel_rfl) ?_ _
                    have HP := with_end HS9 HI9 hB9 hhy hh9 hx9 HS0.out (by omega) (by omega)
                    exact cont g42 cap42 g92 cap92 _ _ _ HP
                · (try simp only [rl])
                  go_simp
                  refine hK.out _ _ (fun _ => Sof _ Hxt) ?_; clear hK K; (try simp only [rl])
                  (refine wpAnyT_one (i := 3) (by kernel_rfl) (Array.getElem?_eq_getElem (by decide)) fun K hK => ?_); (try simp only [rl])
                  go_simp
                  refine hK.out _ _ (fun _ => Sof _ Hxt) ?_; clear hK K; (try simp only [rl])
                  (refine wpAnyT_one (i := 4) (by kernel_rfl) (Array.getElem?_eq_getElem (by decide)) fun K hK => ?_); (try simp only [rl])
                  rw [if_pos (by simp [Region.wanted])]
                  refine app_key (x.keys[k]) (wy.heap.size + 1) (by rfl) (by rfl) (by rfl) HSy.out HIy.out Xt Hxt Bxt (by omega) (by omega) ?_
                  intro g42 cap42 w4 HS4 HI4 hh4 hxf hgrow4
                  have hx4 := hxf w hxy (by omega)
                  have hz4 := hh4.size
                  clear hxf
                  have hX4 : Box w4 (wy.heap.size) #[.int .i64 x.l[k].k, .int .i64 x.l[k].n, .string x.l[k].s, .slice ka' x.l[k].keys.length kc', .slice la' x.l[k].l.length lc'] 25 := Box.grown (w' := w4) Bxt hgrow4 (fun e => by have h' := (OwnS.lt HSy.out _ e.symm).2; omega)
                  refine hK.out _ _ (fun _ => Sof _ Hxt) ?_; clear hK K; (try simp only [rl])
                  (refine wpAnyT_take (i := 14) (v := ?_) [15] (Array.getElem?_eq_getElem (by decide)) (by kernel_rfl) (by kernel_rfl) (by kernel_rfl) (by kernel_rfl) rfl rfl (by kernel_rfl) (fun _ _ _ h => h) (Or.inl ⟨by kernel_rfl, ?_⟩) (Sof _ Hxt) ?_); rotate_left; (focus (intro w hSw; (try dsimp only at hSw); (try simp only [rl]); go_simp; (try with_reducible rfl))); (try simp only [rl])
                  (refine wpAnyT_one (i := 13) (by kernel_rfl) (Array.getElem?_eq_getElem (by decide)) fun K hK => ?_); (try simp only [rl])
                  rw [if_pos (by simp [Region.wanted])]
                  refine app_val (wy.heap.size) (by rfl) (by rfl) (by rfl) HS4 HI4 Hval2.out Xt Hxt Bxt (by omega) (by omega) ?_
                  intro g92 cap92 w9 HS9 HI9 hh9 hxf
                  have hx9 := hxf w hx4 (by omega)
                  have hB9 := Box.held hh9 hBy (by omega)
                  clear hgrow4 hxf HS4 HI4
                  have hc9 := hB9.cells; have hf9 := hB9.free; have hl9 := hB9.lt
                  refine hK.out _ _ (fun _ => Sof _ Hxt) ?_; clear hK K; (try simp only [rl])
                  (refine wpAnyT_one (i := 15) (by kernel_rfl) (Array.getElem?_eq_getElem (by decide)) fun K hK => ?_); (try simp only [rl])
                  go_simp
                  (refine hK.out _ _ (fun h => Bool.noConfusion (show true = false from h)) ?_); clear hK K; (try simp only [rl])
                  (refine wpAnyT_one (i := 16) (by kernel_rfl) (Array.getElem?_eq_getElem (by decide)) fun K hK => ?_); (try simp only [rl])
                  go_simp
                  (refine hK.out _ _ (fun h => Bool.noConfusion (show true = false from h)) ?_); clear hK K; (try simp only [rl])
                  (refine wpAnyT_one (i := 17) (by kernel_rfl) (Array.getElem?_eq_getElem (by decide)) fun K hK => ?_); (try simp only [rl])
                  go_simp
                  (refine hK.out _ _ (fun h => Bool.noConfusion (show true = false from h)) ?_); clear hK K; (try simp only [rl])
                  refine wpAnyT_done (by kernel_rfl) ?_ _
                  have HP := with_end HS9 HI9 hB9 hhy hh9 hx9 HS0.out (by omega) (by omega)
                  exact cont g42 cap42 g92 cap92 _ _ _ HP
              case rest4 =>
                rintro g42 cap42 g92 cap92 b3 b8 wy2 ⟨hSy2, hIy2, hBy2, hxy2, hhy2⟩
                go_wp2_with fail
                go_roundg (x.keys.length - (k + 1))
                case measure => omega
                case rel => exact ⟨k + 1, n + 1 + 1, _, _, _, _, true, by omega, by go_num, rfl, rfl, Lib.hid (by simp; omega), by omega, Lib.hid (by rw [putTo_new hlt Hkq.out rfl]; exact hSy2), Lib.hid (by rw [putTo_new hlt2 Hkq.out rfl]; exact hIy2), hBy2, hxy2, hhy2⟩
        · obtain rfl : pb = true := by rw [Hpb.out]; simp; omega
          obtain ⟨f2, f3⟩ := hf.2.2.2 (.inl hkq)
          have hkp2 : p < k := by omega
          clear hf
          have Hval := HvalI
          go_upto_region 10 with fail
          refine meet ?G5 (fun g4 cap4 g9 cap9 wy => OwnS wy wb.heap.size (.slice (some ⟨g4, 0, none⟩) (n + 1) cap4) (n + 1) ((putTo p hs key x.keys k) ++ [x.keys[k]]) ∧ OwnI wy wb.heap.size S0 (.slice (some ⟨g9, 0, none⟩) (n + 1) cap9) (n + 1) ((putTo p hs y x.l k) ++ [x.l[k]]) ∧
              Box wy (w.heap.size + 3) #[.int .i64 5, .int .i64 0, .string ⟨#[]⟩, .slice (some ⟨g4, 0, none⟩) (n + 1) cap4, .slice (some ⟨g9, 0, none⟩) (n + 1) cap9] 25 ∧ Ext w wy ∧ Held (fun b => b < wb.heap.size ∧ b ≠ w.heap.size + 3) wb wy) (fun cont => ?reg5) ?rest5
          case reg5 =>
            have Sof : ∀ w', Held (fun b => b < wb.heap.size) wr w' → (w'.cell? ⟨w.heap.size + 3, 3, none⟩ = some (.slice a2 n c2) ∧ w'.cell? ⟨w.heap.size + 3, 4, none⟩ = some (.slice a3 n c3) ∧ w'.cell? ⟨w.heap.size, 4, none⟩ = some (.slice (some ⟨b, o, none⟩) x.l.length lc) ∧ w'.cell? ⟨b, o + k * 5, none⟩ = some (.int .i64 x.l[k].k) ∧ w'.cell? ⟨b, o + k * 5 + 1, none⟩ = some (.int .i64 x.l[k].n) ∧ w'.cell? ⟨b, o + k * 5 + 2, none⟩ = some (.string x.l[k].s) ∧ w'.cell? ⟨b, o + k * 5 + 3, none⟩ = some (.slice ka' x.l[k].keys.length kc') ∧ w'.cell? ⟨b, o + k * 5 + 4, none⟩ = some (.slice la' x.l[k].l.length lc')) := fun w' e => ⟨e.kept.cell (by dsimp only; omega) (hB.cells 3), e.kept.cell (by dsimp only; omega) (hB.cells 4), e.kept.cell (by dsimp only; omega) (hB0.cells 4), e.kept.cell (by dsimp only; omega) d0, e.kept.cell (by dsimp only; omega) d1, e.kept.cell (by dsimp only; omega) d2, e.kept.cell (by dsimp only; omega) d3, e.kept.cell (by dsimp only; omega) d4⟩
            refine wp_region_till (S := fun w' => w'.cell? ⟨w.heap.size + 3, 3, none⟩ = some (.slice a2 n c2) ∧ w'.cell? ⟨w.heap.size + 3, 4, none⟩ = some (.slice a3 n c3) ∧ w'.cell? ⟨w.heap.size, 4, none⟩ = some (.slice (some ⟨b, o, none⟩) x.l.length lc) ∧ w'.cell? ⟨b, o + k * 5, none⟩ = some (.int .i64 x.l[k].k) ∧ w'.cell? ⟨b, o + k * 5 + 1, none⟩ = some (.int .i64 x.l[k].n) ∧ w'.cell? ⟨b, o + k * 5 + 2, none⟩ = some (.string x.l[k].s) ∧ w'.cell? ⟨b, o + k * 5 + 3, none⟩ = some (.slice ka' x.l[k].keys.length kc') ∧ w'.cell? ⟨b, o + k * 5 + 4, none⟩ = some (.slice la' x.l[k].l.length lc')) (c := 15) (by kernel_rfl) ?_
            (refine wpAnyT_take (i := 0) (v := ?_) [15] (Array.getElem?_eq_getElem (by decide)) (by kernel_rfl) (by kernel_rfl) (by kernel_rfl) (by kernel_rfl) rfl rfl (by kernel_rfl) (fun _ _ _ h => h) (Or.inl ⟨by kernel_rfl, ?_⟩) (Sof _ Hxt) ?_); rotate_left; (focus (intro w hSw; (try dsimp only at hSw); (try simp only [rl]); go_simp; (try with_reducible rfl))); (try simp only [rl])
            (refine wpAnyT_take (i := 1) (v := ?_) [15] (Array.getElem?_eq_getElem (by decide)) (by kernel_rfl) (by kernel_rfl) (by kernel_rfl) (by kernel_rfl) rfl rfl (by kernel_rfl) (fun _ _ _ h => h) (Or.inl ⟨by kernel_rfl, ?_⟩) (Sof _ Hxt) ?_); rotate_left; (focus (intro w hSw; (try dsimp only at hSw); (try simp only [rl]); go_simp; (try with_reducible rfl))); (try simp only [rl])
            (refine wpAnyT_take (i := 2) (v := ?_) [15] (Array.getElem?_eq_getElem (by decide)) (by kernel_rfl) (by kernel_rfl) (by kernel_rfl) (by kernel_rfl) rfl rfl (by kernel_rfl) (fun _ _ _ h => h) (Or.inl ⟨by kernel_rfl, ?_⟩) (Sof _ Hxt) ?_); rotate_left; (focus (intro w hSw; (try dsimp only at hSw); (try simp only [rl]); go_simp; (try with_reducible rfl))); (try simp only [rl])
            (refine wpAnyT_take (i := 5) (v := ?_) [15] (Array.getElem?_eq_getElem (by decide)) (by kernel_rfl) (by kernel_rfl) (by kernel_rfl) (by kernel_rfl) rfl rfl (by kernel_rfl) (fun _ _ _ h => h) (Or.inl ⟨by kernel_rfl, ?_⟩) (Sof _ Hxt) ?_); rotate_left; (focus (intro w hSw; (try dsimp only at hSw); (try simp only [rl]); go_simp; (try with_reducible rfl))); (try simp only [rl])
            (refine wpAnyT_take (i := 6) (v := ?_) [15] (Array.getElem?_eq_getElem (by decide)) (by kernel_rfl) (by kernel_rfl) (by kernel_rfl) (by kernel_rfl) rfl rfl (by kernel_rfl) (fun _ _ _ h => h) (Or.inl ⟨by kernel_rfl, ?_⟩) (Sof _ Hxt) ?_); rotate_left; (focus (intro w hSw; (try dsimp only at hSw); (try simp only [rl]); go_simp; (try with_reducible rfl))); (try simp only [rl])
            (refine wpAnyT_take (i := 7) (v := ?_) [8, 10, 11, 12, 13, 15] (Array.getElem?_eq_getElem (by decide)) (by kernel_rfl) (by kernel_rfl) (by kernel_rfl) (by kernel_rfl) rfl rfl (by kernel_rfl) (fun _ _ _ h => h) (Or.inl ⟨by kernel_rfl, ?_⟩) (Sof _ Hxt) ?_); rotate_left; (focus (intro w hSw; (try dsimp only at hSw); (try simp only [rl]); go_simp; (try with_reducible rfl))); (try simp only [rl])
            (refine wpAnyT_take (i := 8) (v := ?_) [10, 11, 12, 13, 15] (Array.getElem?_eq_getElem (by decide)) (by kernel_rfl) (by kernel_rfl) (by kernel_rfl) (by kernel_rfl) rfl rfl (by kernel_rfl) (fun _ _ _ h => h) (Or.inl ⟨by kernel_rfl, ?_⟩) (Sof _ Hxt) ?_); rotate_left; (focus (intro w hSw; (try dsimp only at hSw); (try simp only [rl]); go_simp; (try with_reducible rfl))); (try simp only [rl])
            (refine wpAnyT_take (i := 9) (v := ?_) [10, 11, 12, 13, 15] (Array.getElem?_eq_getElem (by decide)) (by kernel_rfl) (by kernel_rfl) (by kernel_rfl) (by kernel_rfl) rfl rfl (by kernel_rfl) (fun _ _ _ h => h) (Or.inl ⟨by kernel_rfl, ?_⟩) (Sof _ Hxt) ?_); rotate_left; (focus (intro w hSw; (try dsimp only at hSw); (try simp only [rl]); go_simp; (try with_reducible rfl))); (try simp only [rl])
            (refine wpAnyT_take (i := 10) (v := ?_) [11, 12, 13, 15] (Array.getElem?_eq_getElem (by decide)) (by kernel_rfl) (by kernel_rfl) (by kernel_rfl) (by kernel_rfl) rfl rfl (by kernel_rfl) (fun _ _ _ h => h) (Or.inl ⟨by kernel_rfl, ?_⟩) (Sof _ Hxt) ?_); rotate_left; (focus (intro w hSw; (try dsimp only at hSw); (try simp only [rl]); go_simp; (try with_reducible rfl))); (try simp only [rl])
            (refine wpAnyT_take (i := 11) (v := ?_) [12, 13, 15] (Array.getElem?_eq_getElem (by decide)) (by kernel_rfl) (by kernel_rfl) (by kernel_rfl) (by kernel_rfl) rfl rfl (by kernel_rfl) (fun _ _ _ h => h) (Or.inl ⟨by kernel_rfl, ?_⟩) (Sof _ Hxt) ?_); rotate_left; (focus (intro w hSw; (try dsimp only at hSw); (try simp only [rl]); go_simp; (try with_reducible rfl))); (try simp only [rl])
            refine wpAnyT_ready (rs := [3, 12]) (by kernel_rfl) (by simp) ?_
            refine AllReadyT.cons (Array.getElem?_eq_getElem (by decide)) (fun K hK => ?_) (AllReadyT.cons (Array.getElem?_eq_getElem (by decide)) (fun K hK => ?_) AllReadyT.nil)
            · (try simp only [rl])
              go_simp
              refine hK.out _ _ (fun _ => Sof _ Hxt) ?_; clear hK K; (try simp only [rl])
              refine wpAnyT_ready (rs := [4, 12]) (by kernel_rfl) (by simp) ?_
              refine AllReadyT.cons (Array.getElem?_eq_getElem (by decide)) (fun K hK => ?_) (AllReadyT.cons (Array.getElem?_eq_getElem (by decide)) (fun K hK => ?_) AllReadyT.nil)
              · (try simp only [rl])
                rw [if_pos (by simp [Region.wanted])]
                refine app_key (x.keys[k]) (wr.heap.size) (by rfl) (by rfl) (by rfl) HS.out HI.out Xt Hxt Bxt (by omega) (by omega) ?_
                intro g4 cap4 w4 HS4 HI4 hh4 hxf hgrow4
                have hx4 := hxf w hx (by omega)
                have hz4 := hh4.size
                clear hxf
                refine hK.out _ _ (fun _ => Sof _ Hxt) ?_; clear hK K; (try simp only [rl])
                (refine wpAnyT_take (i := 14) (v := ?_) [15] (Array.getElem?_eq_getElem (by decide)) (by kernel_rfl) (by kernel_rfl) (by kernel_rfl) (by kernel_rfl) rfl rfl (by kernel_rfl) (fun _ _ _ h => h) (Or.inl ⟨by kernel_rfl, ?_⟩) (Sof _ Hxt) ?_); rotate_left; (focus (intro w hSw; (try dsimp only at hSw); (try simp only [rl]); go_simp; (try with_reducible rfl))); (try simp only [rl])
                (refine wpAnyT_one (i := 12) (by kernel_rfl) (Array.getElem?_eq_getElem (by decide)) fun K hK => ?_); (try simp only [rl])
                go_simp
                refine hK.out _ _ (fun _ => Sof _ Hxt) ?_; clear hK K; (try simp only [rl])
                (refine wpAnyT_one (i := 13) (by kernel_rfl) (Array.getElem?_eq_getElem (by decide)) fun K hK => ?_); (try simp only [rl])
                rw [if_pos (by simp [Region.wanted])]
                refine app_val (w4.heap.size) (by rfl) (by rfl) (by rfl) HS4 HI4 Hval.out Xt Hxt Bxt (by omega) (by omega) ?_
                intro g9 cap9 w9 HS9 HI9 hh9 hxf
                have hx9 := hxf w hx4 (by omega)
                have hB9 := Box.held hh9 hB (by omega)
                clear hgrow4 hxf HS4 HI4
                have hc9 := hB9.cells; have hf9 := hB9.free; have hl9 := hB9.lt
                refine hK.out _ _ (fun _ => Sof _ Hxt) ?_; clear hK K; (try simp only [rl])
                (refine wpAnyT_one (i := 15) (by kernel_rfl) (Array.getElem?_eq_getElem (by decide)) fun K hK => ?_); (try simp only [rl])
                go_simp
                (refine hK.out _ _ (fun h => Bool.noConfusion (show true = false from h)) ?_); clear hK K; (try simp only [rl])
                (refine wpAnyT_one (i := 16) (by kernel_rfl) (Array.getElem?_eq_getElem (by decide)) fun K hK => ?_); (try simp only [rl])
                go_simp
                (refine hK.out _ _ (fun h => Bool.noConfusion (show true = false from h)) ?_); clear hK K; (try simp only [rl])
                (refine wpAnyT_one (i := 17) (by kernel_rfl) (Array.getElem?_eq_getElem (by decide)) fun K hK => ?_); (try simp only [rl])
                go_simp
                (refine hK.out _ _ (fun h => Bool.noConfusion (show true = false from h)) ?_); clear hK K; (try simp only [rl])
                refine wpAnyT_done (by kernel_rfl) ?_ _
                have HP := with_end HS9 HI9 hB9 hh hh9 hx9 HS0.out (by omega) (by omega)
                obtain ⟨wy, hwy⟩ : ∃ wy, (w9.setCell ⟨w.heap.size + 3, 3, none⟩ (Value.slice (some ⟨g4, 0, none⟩) (n + 1) cap4)).setCell ⟨w.heap.size + 3, 4, none⟩ (Value.slice (some ⟨g9, 0, none⟩) (n + 1) cap9) = wy := ⟨_, rfl⟩
                rw [hwy] at HP ⊢
                clear hwy
                generalize wr.heap.size = b3
                generalize w4.heap.size = b8
                exact cont g4 cap4 g9 cap9 b3 b8 wy HP
              · (try simp only [rl])
                go_simp
                refine hK.out _ _ (fun _ => Sof _ Hxt) ?_; clear hK K; (try simp only [rl])
                (refine wpAnyT_one (i := 4) (by kernel_rfl) (Array.getElem?_eq_getElem (by decide)) fun K hK => ?_); (try simp only [rl])
                rw [if_pos (by simp [Region.wanted])]
                refine app_key (x.keys[k]) (wr.heap.size) (by rfl) (by rfl) (by rfl) HS.out HI.out Xt Hxt Bxt (by omega) (by omega) ?_
                intro g4 cap4 w4 HS4 HI4 hh4 hxf hgrow4
                have hx4 := hxf w hx (by omega)
                have hz4 := hh4.size
                clear hxf
                have hX4 : Box w4 (wr.heap.size + 1) #[.int .i64 x.l[k].k, .int .i64 x.l[k].n, .string x.l[k].s, .slice ka' x.l[k].keys.length kc', .slice la' x.l[k].l.length lc'] 25 := Box.grown (w' := w4) Bxt hgrow4 (fun e => by have h' := (OwnS.lt HS.out _ e.symm).2; omega)
                refine hK.out _ _ (fun _ => Sof _ Hxt) ?_; clear hK K; (try simp only [rl])
                (refine wpAnyT_take (i := 14) (v := ?_) [15] (Array.getElem?_eq_getElem (by decide)) (by kernel_rfl) (by kernel_rfl) (by kernel_rfl) (by kernel_rfl) rfl rfl (by kernel_rfl) (fun _ _ _ h => h) (Or.inl ⟨by kernel_rfl, ?_⟩) (Sof _ Hxt) ?_); rotate_left; (focus (intro w hSw; (try dsimp only at hSw); (try simp only [rl]); go_simp; (try with_reducible rfl))); (try simp only [rl])
                (refine wpAnyT_one (i := 13) (by kernel_rfl) (Array.getElem?_eq_getElem (by decide)) fun K hK => ?_); (try simp only [rl])
                rw [if_pos (by simp [Region.wanted])]
                refine app_val (wr.heap.size + 1) (by rfl) (by rfl) (by rfl) HS4 HI4 Hval.out Xt Hxt Bxt (by omega) (by omega) ?_
                intro g9 cap9 w9 HS9 HI9 hh9 hxf
                have hx9 := hxf w hx4 (by omega)
                have hB9 := Box.held hh9 hB (by omega)
                clear hgrow4 hxf HS4 HI4
                have hc9 := hB9.cells; have hf9 := hB9.free; have hl9 := hB9.lt
                refine hK.out _ _ (fun _ => Sof _ Hxt) ?_; clear hK K; (try simp only [rl])
                (refine wpAnyT_one (i := 15) (by kernel_rfl) (Array.getElem?_eq_getElem (by decide)) fun K hK => ?_); (try simp only [rl])
                go_simp
                (refine hK.out _ _ (fun h => Bool.noConfusion (show true = false from h)) ?_); clear hK K; (try simp only [rl])
                (refine wpAnyT_one (i := 16) (by kernel_rfl) (Array.getElem?_eq_getElem (by decide)) fun K hK => ?_); (try simp only [rl])
                go_simp
                (refine hK.out _ _ (fun h => Bool.noConfusion (show true = false from h)) ?_); clear hK K; (try simp only [rl])
                (refine wpAnyT_one (i := 17) (by kernel_rfl) (Array.getElem?_eq_getElem (by decide)) fun K hK => ?_); (try simp only [rl])
                go_simp
                (refine hK.out _ _ (fun h => Bool.noConfusion (show true = false from h)) ?_); clear hK K; (try simp only [rl])
                refine wpAnyT_done (by kernel_rfl) ?_ _
                have HP := with_end HS9 HI9 hB9 hh hh9 hx9 HS0.out (by omega) (by omega)
                exact cont g4 cap4 g9 cap9 _ _ _ HP
            · (try simp only [rl])
              go_simp
              refine hK.out _ _ (fun _ => Sof _ Hxt) ?_; clear hK K; (try simp only [rl])
              (refine wpAnyT_one (i := 3) (by kernel_rfl) (Array.getElem?_eq_getElem (by decide)) fun K hK => ?_); (try simp only [rl])
              go_simp
              refine hK.out _ _ (fun _ => Sof _ Hxt) ?_; clear hK K; (try simp only [rl])
              (refine wpAnyT_one (i := 4) (by kernel_rfl) (Array.getElem?_eq_getElem (by decide)) fun K hK => ?_); (try simp only [rl])
              rw [if_pos (by simp [Region.wanted])]
              refine app_key (x.keys[k]) (wr.heap.size + 1) (by rfl) (by rfl) (by rfl) HS.out HI.out Xt Hxt Bxt (by omega) (by omega) ?_
              intro g4 cap4 w4 HS4 HI4 hh4 hxf hgrow4
              have hx4 := hxf w hx (by omega)
              have hz4 := hh4.size
              clear hxf
              have hX4 : Box w4 (wr.heap.size) #[.int .i64 x.l[k].k, .int .i64 x.l[k].n, .string x.l[k].s, .slice ka' x.l[k].keys.length kc', .slice la' x.l[k].l.length lc'] 25 := Box.grown (w' := w4) Bxt hgrow4 (fun e => by have h' := (OwnS.lt HS.out _ e.symm).2; omega)
              refine hK.out _ _ (fun _ => Sof _ Hxt) ?_; clear hK K; (try simp only [rl])
              (refine wpAnyT_take (i := 14) (v := ?_) [15] (Array.getElem?_eq_getElem (by decide)) (by kernel_rfl) (by kernel_rfl) (by kernel_rfl) (by kernel_rfl) rfl rfl (by kernel_rfl) (fun _ _ _ h => h) (Or.inl ⟨by kernel_rfl, ?_⟩) (Sof _ Hxt) ?_); rotate_left; (focus (intro w hSw; (try dsimp only at hSw); (try simp only [rl]); go_simp; (try with_reducible rfl))); (try simp only [rl])
              (refine wpAnyT_one (i := 13) (by kernel_rfl) (Array.getElem?_eq_getElem (by decide)) fun K hK => ?_); (try simp only [rl])
              rw [if_pos (by simp [Region.wanted])]
              refine app_val (wr.heap.size) (by rfl) (by rfl) (by rfl) HS4 HI4 Hval.out Xt Hxt Bxt (by omega) (by omega) ?_
              intro g9 cap9 w9 HS9 HI9 hh9 hxf
              have hx9 := hxf w hx4 (by omega)
              have hB9 := Box.held hh9 hB (by omega)
              clear hgrow4 hxf HS4 HI4
              have hc9 := hB9.cells; have hf9 := hB9.free; have hl9 := hB9.lt
              refine hK.out _ _ (fun _ => Sof _ Hxt) ?_; clear hK K; (try simp only [rl])
              (refine wpAnyT_one (i := 15) (by kernel_rfl) (Array.getElem?_eq_getElem (by decide)) fun K hK => ?_); (try simp only [rl])
              go_simp
              (refine hK.out _ _ (fun h => Bool.noConfusion (show true = false from h)) ?_); clear hK K; (try simp only [rl])
              (refine wpAnyT_one (i := 16) (by kernel_rfl) (Array.getElem?_eq_getElem (by decide)) fun K hK => ?_); (try simp only [rl])
              go_simp
              (refine hK.out _ _ (fun h => Bool.noConfusion (show true = false from h)) ?_); clear hK K; (try simp only [rl])
              (refine wpAnyT_one (i := 17) (by kernel_rfl) (Array.getElem?_eq_getElem (by decide)) fun K hK => ?_); (try simp only [rl])
              go_simp
              (refine hK.out _ _ (fun h => Bool.noConfusion (show true = false from h)) ?_); clear hK K; (try simp only [rl])
              refine wpAnyT_done (by kernel_rfl) ?_ _
              have HP := with_end HS9 HI9 hB9 hh hh9 hx9 HS0.out (by omega) (by omega)
              exact cont g4 cap4 g9 cap9 _ _ _ HP
          case rest5 =>
            rintro g4 cap4 g9 cap9 b3 b8 wy ⟨hSy, hIy, hBy, hxy, hhy⟩
            go_wp2_with fail
            go_roundg (x.keys.length - (k + 1))
            case measure => omega
            case rel => exact ⟨k + 1, n + 1, _, _, _, _, true, by omega, by go_num, rfl, rfl, Lib.hid (by simp; omega), by omega, Lib.hid (by rw [putTo_above hlt hkp2]; exact hSy), Lib.hid (by rw [putTo_above hlt2 hkp2]; exact hIy), hBy, hxy, hhy⟩
    · obtain rfl : k = x.keys.length := by omega
      cases pb with
      | true =>
        have hpk : p < x.keys.length := by have := Hpb.out; simpa using this.symm
        have hpk2 : p < x.l.length := by omega
        have HS := Lib.hid (putTo_in (hs := hs) (a := key) hpk ▸ HS.out)
        have e9 : putTo p hs y x.l x.keys.length = putTo p hs y x.l x.l.length := by rw [hln]
        have HI := Lib.hid (putTo_in (hs := hs) (a := y) hpk2 ▸ (e9 ▸ HI.out))
        have hB2 := Box.held hh hC2 (by constructor <;> omega)
        have hc2 := hB2.cells; have hf2 := hB2.free; have hl2 := hB2.lt
        go_wp2_with fail
        (with_reducible apply bp_ret); (focus (go_light; simp [results, Tryz.results118, go_sem, *]; rfl))
        have hobj := own_obj HS.out HI.out
        have e1 := (HS.out).1
        have e2 := (HI.out).1
        refine ⟨a2, c2, a3, c3, by first | (simp [V.val, e1, e2]; done) | (simp [V.val, e1, e2]; have q1 := e1; simp at q1; omega), hobj.keep (Held.kept (Held.mono (a := wr) (S := fun b => b ≠ w.heap.size + 2) Hxt (fun b h => by rcases h with h | h; have := HS0.out b h.2; omega; omega))) (fun b h hl => by rcases h with h | h; exact .inl (HS1.out b h.2); exact .inr (by omega)), Xt⟩
      | false =>
        obtain rfl : p = x.keys.length := by have := Hpb.out; simp at this; omega
        have Hval : Hid (y.In wr (fun b => b < wb.heap.size ∧ S0 b) kb kd lb ld) := Lib.hid ((hjn2.mono (fun b h hl => ⟨by omega, h⟩)).ext hx)
        go_upto_region 13 with fail
        refine meet ?G6 (fun g4 cap4 g9 cap9 wy => OwnS wy wb.heap.size (.slice (some ⟨g4, 0, none⟩) (n + 1) cap4) (n + 1) ((putTo x.keys.length hs key x.keys x.keys.length) ++ [key]) ∧ OwnI wy wb.heap.size S0 (.slice (some ⟨g9, 0, none⟩) (n + 1) cap9) (n + 1) ((putTo x.keys.length hs y x.l x.keys.length) ++ [y]) ∧
            Box wy (w.heap.size + 3) #[.int .i64 5, .int .i64 0, .string ⟨#[]⟩, .slice (some ⟨g4, 0, none⟩) (n + 1) cap4, .slice (some ⟨g9, 0, none⟩) (n + 1) cap9] 25 ∧ Ext w wy ∧ Held (fun b => b < wb.heap.size ∧ b ≠ w.heap.size + 3) wb wy) (fun cont => ?reg6) ?rest6
        case reg6 =>
          have Sof : ∀ w', Held (fun b => b < wb.heap.size) wr w' → (w'.cell? ⟨w.heap.size + 3, 3, none⟩ = some (.slice a2 n c2) ∧ w'.cell? ⟨w.heap.size + 3, 4, none⟩ = some (.slice a3 n c3) ∧ w'.cell? ⟨w.heap.size + 1, 0, none⟩ = some (.int .i64 y.k) ∧ w'.cell? ⟨w.heap.size + 1, 1, none⟩ = some (.int .i64 y.n) ∧ w'.cell? ⟨w.heap.size + 1, 2, none⟩ = some (.string y.s) ∧ w'.cell? ⟨w.heap.size + 1, 3, none⟩ = some (.slice kb y.keys.length kd) ∧ w'.cell? ⟨w.heap.size + 1, 4, none⟩ = some (.slice lb y.l.length ld)) := fun w' e => ⟨e.kept.cell (by dsimp only; omega) (hB.cells 3), e.kept.cell (by dsimp only; omega) (hB.cells 4), e.kept.cell (by dsimp only; omega) (hB1.cells 0), e.kept.cell (by dsimp only; omega) (hB1.cells 1), e.kept.cell (by dsimp only; omega) (hB1.cells 2), e.kept.cell (by dsimp only; omega) (hB1.cells 3), e.kept.cell (by dsimp only; omega) (hB1.cells 4)⟩
          refine wp_region_till (S := fun w' => w'.cell? ⟨w.heap.size + 3, 3, none⟩ = some (.slice a2 n c2) ∧ w'.cell? ⟨w.heap.size + 3, 4, none⟩ = some (.slice a3 n c3) ∧ w'.cell? ⟨w.heap.size + 1, 0, none⟩ = some (.int .i64 y.k) ∧ w'.cell? ⟨w.heap.size + 1, 1, none⟩ = some (.int .i64 y.n) ∧ w'.cell? ⟨w.heap.size + 1, 2, none⟩ = some (.string y.s) ∧ w'.cell? ⟨w.heap.size + 1, 3, none⟩ = some (.slice kb y.keys.length kd) ∧ w'.cell? ⟨w.heap.size + 1, 4, none⟩ = some (.slice lb y.l.length ld)) (c := 11) (by kernel_rfl) ?_
          (refine wpAnyT_take (i := 0) (v := ?_) [11] (Array.getElem?_eq_getElem (by decide)) (by kernel_rfl) (by kernel_rfl) (by kernel_rfl) (by kernel_rfl) rfl rfl (by kernel_rfl) (fun _ _ _ h => h) (Or.inl ⟨by kernel_rfl, ?_⟩) (Sof _ Hxt) ?_); rotate_left; (focus (intro w hSw; (try dsimp only at hSw); (try simp only [rl]); go_simp; (try with_reducible rfl))); (try simp only [rl])
          (refine wpAnyT_take (i := 1) (v := ?_) [11] (Array.getElem?_eq_getElem (by decide)) (by kernel_rfl) (by kernel_rfl) (by kernel_rfl) (by kernel_rfl) rfl rfl (by kernel_rfl) (fun _ _ _ h => h) (Or.inl ⟨by kernel_rfl, ?_⟩) (Sof _ Hxt) ?_); rotate_left; (focus (intro w hSw; (try dsimp only at hSw); (try simp only [rl]); go_simp; (try with_reducible rfl))); (try simp only [rl])
          (refine wpAnyT_take (i := 2) (v := ?_) [11] (Array.getElem?_eq_getElem (by decide)) (by kernel_rfl) (by kernel_rfl) (by kernel_rfl) (by kernel_rfl) rfl rfl (by kernel_rfl) (fun _ _ _ h => h) (Or.inl ⟨by kernel_rfl, ?_⟩) (Sof _ Hxt) ?_); rotate_left; (focus (intro w hSw; (try dsimp only at hSw); (try simp only [rl]); go_simp; (try with_reducible rfl))); (try simp only [rl])
          (refine wpAnyT_take (i := 5) (v := ?_) [11] (Array.getElem?_eq_getElem (by decide)) (by kernel_rfl) (by kernel_rfl) (by kernel_rfl) (by kernel_rfl) rfl rfl (by kernel_rfl) (fun _ _ _ h => h) (Or.inl ⟨by kernel_rfl, ?_⟩) (Sof _ Hxt) ?_); rotate_left; (focus (intro w hSw; (try dsimp only at hSw); (try simp only [rl]); go_simp; (try with_reducible rfl))); (try simp only [rl])
          (refine wpAnyT_take (i := 6) (v := ?_) [11] (Array.getElem?_eq_getElem (by decide)) (by kernel_rfl) (by kernel_rfl) (by kernel_rfl) (by kernel_rfl) rfl rfl (by kernel_rfl) (fun _ _ _ h => h) (Or.inl ⟨by kernel_rfl, ?_⟩) (Sof _ Hxt) ?_); rotate_left; (focus (intro w hSw; (try dsimp only at hSw); (try simp only [rl]); go_simp; (try with_reducible rfl))); (try simp only [rl])
          (refine wpAnyT_take (i := 7) (v := ?_) [8, 9, 11] (Array.getElem?_eq_getElem (by decide)) (by kernel_rfl) (by kernel_rfl) (by kernel_rfl) (by kernel_rfl) rfl rfl (by kernel_rfl) (fun _ _ _ h => h) (Or.inl ⟨by kernel_rfl, ?_⟩) (Sof _ Hxt) ?_); rotate_left; (focus (intro w hSw; (try dsimp only at hSw); (try simp only [rl]); go_simp; (try with_reducible rfl))); (try simp only [rl])
          refine wpAnyT_ready (rs := [3, 8]) (by kernel_rfl) (by simp) ?_
          refine AllReadyT.cons (Array.getElem?_eq_getElem (by decide)) (fun K hK => ?_) (AllReadyT.cons (Array.getElem?_eq_getElem (by decide)) (fun K hK => ?_) AllReadyT.nil)
          · (try simp only [rl])
            go_simp
            refine hK.out _ _ (fun _ => Sof _ Hxt) ?_; clear hK K; (try simp only [rl])
            refine wpAnyT_ready (rs := [4, 8]) (by kernel_rfl) (by simp) ?_
            refine AllReadyT.cons (Array.getElem?_eq_getElem (by decide)) (fun K hK => ?_) (AllReadyT.cons (Array.getElem?_eq_getElem (by decide)) (fun K hK => ?_) AllReadyT.nil)
            · (try simp only [rl])
              rw [if_pos (by simp [Region.wanted])]
              refine app_key (key) (wr.heap.size) (by rfl) (by rfl) (by rfl) HS.out HI.out Xt Hxt Bxt (by omega) (by omega) ?_
              intro g4 cap4 w4 HS4 HI4 hh4 hxf hgrow4
              have hx4 := hxf w hx (by omega)
              have hz4 := hh4.size
              clear hxf
              refine hK.out _ _ (fun _ => Sof _ Hxt) ?_; clear hK K; (try simp only [rl])
              (refine wpAnyT_take (i := 10) (v := ?_) [11] (Array.getElem?_eq_getElem (by decide)) (by kernel_rfl) (by kernel_rfl) (by kernel_rfl) (by kernel_rfl) rfl rfl (by kernel_rfl) (fun _ _ _ h => h) (Or.inl ⟨by kernel_rfl, ?_⟩) (Sof _ Hxt) ?_); rotate_left; (focus (intro w hSw; (try dsimp only at hSw); (try simp only [rl]); go_simp; (try with_reducible rfl))); (try simp only [rl])
              (refine wpAnyT_one (i := 8) (by kernel_rfl) (Array.getElem?_eq_getElem (by decide)) fun K hK => ?_); (try simp only [rl])
              go_simp
              refine hK.out _ _ (fun _ => Sof _ Hxt) ?_; clear hK K; (try simp only [rl])
              (refine wpAnyT_one (i := 9) (by kernel_rfl) (Array.getElem?_eq_getElem (by decide)) fun K hK => ?_); (try simp only [rl])
              rw [if_pos (by simp [Region.wanted])]
              refine app_val (w4.heap.size) (by rfl) (by rfl) (by rfl) HS4 HI4 Hval.out Xt Hxt Bxt (by omega) (by omega) ?_
              intro g9 cap9 w9 HS9 HI9 hh9 hxf
              have hx9 := hxf w hx4 (by omega)
              have hB9 := Box.held hh9 hB (by omega)
              clear hgrow4 hxf HS4 HI4
              have hc9 := hB9.cells; have hf9 := hB9.free; have hl9 := hB9.lt
              refine hK.out _ _ (fun _ => Sof _ Hxt) ?_; clear hK K; (try simp only [rl])
              (refine wpAnyT_one (i := 11) (by kernel_rfl) (Array.getElem?_eq_getElem (by decide)) fun K hK => ?_); (try simp only [rl])
              go_simp
              (refine hK.out _ _ (fun h => Bool.noConfusion (show true = false from h)) ?_); clear hK K; (try simp only [rl])
              (refine wpAnyT_one (i := 12) (by kernel_rfl) (Array.getElem?_eq_getElem (by decide)) fun K hK => ?_); (try simp only [rl])
              go_simp
              (refine hK.out _ _ (fun h => Bool.noConfusion (show true = false from h)) ?_); clear hK K; (try simp only [rl])
              (refine wpAnyT_one (i := 13) (by kernel_rfl) (Array.getElem?_eq_getElem (by decide)) fun K hK => ?_); (try simp only [rl])
              go_simp
              (refine hK.out _ _ (fun h => Bool.noConfusion (show true = false from h)) ?_); clear hK K; (try simp only [rl])
              refine wpAnyT_done (by kernel_rfl) ?_ _
              have HP := with_end HS9 HI9 hB9 hh hh9 hx9 HS0.out (by omega) (by omega)
              obtain ⟨wy, hwy⟩ : ∃ wy, (w9.setCell ⟨w.heap.size + 3, 3, none⟩ (Value.slice (some ⟨g4, 0, none⟩) (n + 1) cap4)).setCell ⟨w.heap.size + 3, 4, none⟩ (Value.slice (some ⟨g9, 0, none⟩) (n + 1) cap9) = wy := ⟨_, rfl⟩
              rw [hwy] at HP ⊢
              clear hwy
              generalize wr.heap.size = b3
              generalize w4.heap.size = b8
              exact cont g4 cap4 g9 cap9 b3 b8 wy HP
            · (try simp only [rl])
              go_simp
              refine hK.out _ _ (fun _ => Sof _ Hxt) ?_; clear hK K; (try simp only [rl])
              (refine wpAnyT_one (i := 4) (by kernel_rfl) (Array.getElem?_eq_getElem (by decide)) fun K hK => ?_); (try simp only [rl])
              rw [if_pos (by simp [Region.wanted])]
              refine app_key (key) (wr.heap.size) (by rfl) (by rfl) (by rfl) HS.out HI.out Xt Hxt Bxt (by omega) (by omega) ?_
              intro g4 cap4 w4 HS4 HI4 hh4 hxf hgrow4
              have hx4 := hxf w hx (by omega)
              have hz4 := hh4.size
              clear hxf
              have hX4 : Box w4 (wr.heap.size + 1) #[.int .i64 y.k, .int .i64 y.n, .string y.s, .slice kb y.keys.length kd, .slice lb y.l.length ld] 25 := Box.grown (w' := w4) Bxt hgrow4 (fun e => by have h' := (OwnS.lt HS.out _ e.symm).2; omega)
              refine hK.out _ _ (fun _ => Sof _ Hxt) ?_; clear hK K; (try simp only [rl])
              (refine wpAnyT_take (i := 10) (v := ?_) [11] (Array.getElem?_eq_getElem (by decide)) (by kernel_rfl) (by kernel_rfl) (by kernel_rfl) (by kernel_rfl) rfl rfl (by kernel_rfl) (fun _ _ _ h => h) (Or.inl ⟨by kernel_rfl, ?_⟩) (Sof _ Hxt) ?_); rotate_left; (focus (intro w hSw; (try dsimp only at hSw); (try simp only [rl]); go_simp; (try with_reducible rfl))); (try simp only [rl])
              (refine wpAnyT_one (i := 9) (by kernel_rfl) (Array.getElem?_eq_getElem (by decide)) fun K hK => ?_); (try simp only [rl])
              rw [if_pos (by simp [Region.wanted])]
              refine app_val (wr.heap.size + 1) (by rfl) (by rfl) (by rfl) HS4 HI4 Hval.out Xt Hxt Bxt (by omega) (by omega) ?_
              intro g9 cap9 w9 HS9 HI9 hh9 hxf
              have hx9 := hxf w hx4 (by omega)
              have hB9 := Box.held hh9 hB (by omega)
              clear hgrow4 hxf HS4 HI4
              have hc9 := hB9.cells; have hf9 := hB9.free; have hl9 := hB9.lt
              refine hK.out _ _ (fun _ => Sof _ Hxt) ?_; clear hK K; (try simp only [rl])
              (refine wpAnyT_one (i := 11) (by kernel_rfl) (Array.getElem?_eq_getElem (by decide)) fun K hK => ?_); (try simp only [rl])
              go_simp
              (refine hK.out _ _ (fun h => Bool.noConfusion (show true = false from h)) ?_); clear hK K; (try simp only [rl])
              (refine wpAnyT_one (i := 12) (by kernel_rfl) (Array.getElem?_eq_getElem (by decide)) fun K hK => ?_); (try simp only [rl])
              go_simp
              (refine hK.out _ _ (fun h => Bool.noConfusion (show true = false from h)) ?_); clear hK K; (try simp only [rl])
              (refine wpAnyT_one (i := 13) (by kernel_rfl) (Array.getElem?_eq_getElem (by decide)) fun K hK => ?_); (try simp only [rl])
              go_simp
              (refine hK.out _ _ (fun h => Bool.noConfusion (show true = false from h)) ?_); clear hK K; (try simp only [rl])
              refine wpAnyT_done (by kernel_rfl) ?_ _
              have HP := with_end HS9 HI9 hB9 hh hh9 hx9 HS0.out (by omega) (by omega)
              exact cont g4 cap4 g9 cap9 _ _ _ HP
          · (try simp only [rl])
            go_simp
            refine hK.out _ _ (fun _ => Sof _ Hxt) ?_; clear hK K; (try simp only [rl])
            (refine wpAnyT_one (i := 3) (by kernel_rfl) (Array.getElem?_eq_getElem (by decide)) fun K hK => ?_); (try simp only [rl])
            go_simp
            refine hK.out _ _ (fun _ => Sof _ Hxt) ?_; clear hK K; (try simp only [rl])
            (refine wpAnyT_one (i := 4) (by kernel_rfl) (Array.getElem?_eq_getElem (by decide)) fun K hK => ?_); (try simp only [rl])
            rw [if_pos (by simp [Region.wanted])]
            refine app_key (key) (wr.heap.size + 1) (by rfl) (by rfl) (by rfl) HS.out HI.out Xt Hxt Bxt (by omega) (by omega) ?_
            intro g4 cap4 w4 HS4 HI4 hh4 hxf hgrow4
            have hx4 := hxf w hx (by omega)
            have hz4 := hh4.size
            clear hxf
            have hX4 : Box w4 (wr.heap.size) #[.int .i64 y.k, .int .i64 y.n, .string y.s, .slice kb y.keys.length kd, .slice lb y.l.length ld] 25 := Box.grown (w' := w4) Bxt hgrow4 (fun e => by have h' := (OwnS.lt HS.out _ e.symm).2; omega)
            refine hK.out _ _ (fun _ => Sof _ Hxt) ?_; clear hK K; (try simp only [rl])
            (refine wpAnyT_take (i := 10) (v := ?_) [11] (Array.getElem?_eq_getElem (by decide)) (by kernel_rfl) (by kernel_rfl) (by kernel_rfl) (by kernel_rfl) rfl rfl (by kernel_rfl) (fun _ _ _ h => h) (Or.inl ⟨by kernel_rfl, ?_⟩) (Sof _ Hxt) ?_); rotate_left; (focus (intro w hSw; (try dsimp only at hSw); (try simp only [rl]); go_simp; (try with_reducible rfl))); (try simp only [rl])
            (refine wpAnyT_one (i := 9) (by kernel_rfl) (Array.getElem?_eq_getElem (by decide)) fun K hK => ?_); (try simp only [rl])
            rw [if_pos (by simp [Region.wanted])]
            refine app_val (wr.heap.size) (by rfl) (by rfl) (by rfl) HS4 HI4 Hval.out Xt Hxt Bxt (by omega) (by omega) ?_
            intro g9 cap9 w9 HS9 HI9 hh9 hxf
            have hx9 := hxf w hx4 (by omega)
            have hB9 := Box.held hh9 hB (by omega)
            clear hgrow4 hxf HS4 HI4
            have hc9 := hB9.cells; have hf9 := hB9.free; have hl9 := hB9.lt
            refine hK.out _ _ (fun _ => Sof _ Hxt) ?_; clear hK K; (try simp only [rl])
            (refine wpAnyT_one (i := 11) (by kernel_rfl) (Array.getElem?_eq_getElem (by decide)) fun K hK => ?_); (try simp only [rl])
            go_simp
            (refine hK.out _ _ (fun h => Bool.noConfusion (show true = false from h)) ?_); clear hK K; (try simp only [rl])
            (refine wpAnyT_one (i := 12) (by kernel_rfl) (Array.getElem?_eq_getElem (by decide)) fun K hK => ?_); (try simp only [rl])
            go_simp
            (refine hK.out _ _ (fun h => Bool.noConfusion (show true = false from h)) ?_); clear hK K; (try simp only [rl])
            (refine wpAnyT_one (i := 13) (by kernel_rfl) (Array.getElem?_eq_getElem (by decide)) fun K hK => ?_); (try simp only [rl])
            go_simp
            (refine hK.out _ _ (fun h => Bool.noConfusion (show true = false from h)) ?_); clear hK K; (try simp only [rl])
            refine wpAnyT_done (by kernel_rfl) ?_ _
            have HP := with_end HS9 HI9 hB9 hh hh9 hx9 HS0.out (by omega) (by omega)
            exact cont g4 cap4 g9 cap9 _ _ _ HP
        case rest6 =>
          rintro g4 cap4 g9 cap9 b3 b8 wy ⟨hSy, hIy, hBy, hxy, hhy⟩
          rw [putTo_out rfl] at hSy
          have e9 : putTo x.keys.length hs y x.l x.keys.length = putTo x.keys.length hs y x.l x.l.length := by rw [hln]
          rw [e9, putTo_out hln] at hIy
          have hB2 := Box.held hhy hC2 (by constructor <;> omega)
          clear hc0 hf0 hl0 hc1 hf1 hl1 hc3 hf3 hl3
          have hc2 := hB2.cells; have hf2 := hB2.free; have hl2 := hB2.lt
          have hc3 := hBy.cells; have hf3 := hBy.free; have hl3 := hBy.lt
          go_wp2_with fail
          (with_reducible apply bp_ret); (focus (go_light; simp [results, Tryz.results118, go_sem, *]; rfl))
          have hobj := own_obj hSy hIy
          have e1 := (hSy).1
          have e2 := (hIy).1
          refine ⟨_, _, _, _, by first | (simp [V.val, e1, e2]; done) | (simp [V.val, e1, e2]; have q1 := e1; simp at q1; omega), hobj.keep (Held.kept (Held.mono (a := wy) (S := fun b => b ≠ w.heap.size + 2) Hxt (fun b h => by rcases h with h | h; have := HS0.out b h.2; omega; omega))) (fun b h hl => by rcases h with h | h; exact .inl (HS1.out b h.2); exact .inr (by omega)), Xt⟩
end Go.Proofs.YtjibdbnpkfghhaaGreatDoor
