/- The walk of json.Without. -/
import Derived.Test.YtjibdbnpkfghhaaGreatDoorPkG
import Derived.Deep.CutBlock
set_option linter.all false
namespace Go.Proofs.YtjibdbnpkfghhaaGreatDoor
open Go.RowKit
attribute [local go_sem ↓] Go.wp_at_zero Go.wp_at_succ
theorem delS_own (base k m c : Nat) (a : Option Addr) (xs : List Value) (w : World) (ho : w.ownsRow base 9 1 (.slice a (m + 1) c) (m + 1) xs) (hk : k ≤ m) (h1 : ∀ u ∈ xs, u.oneCell' = true) :
  Calls Tryz.prog 149 #[.slice a (m + 1) c, .int .i64 k, .int .i64 ((k : Int) + 1)] w fun e w' => e = .returned (.slice a m c) ∧ w'.ownsRow base 9 1 (.slice a m c) m (xs.take k ++ xs.drop (k + 1)) ∧ w.grownBy w' (Value.slice a (m + 1) c).ownBlock := by
 obtain ⟨g, cap, cur, hv, hb, hg, hnc, hm, hcs, ht⟩ := ownsRow_at ho (by omega)
 simp only [Value.slice.injEq, true_and] at hv
 obtain ⟨rfl, rfl⟩ := hv
 have ht' : cur.toList.take (m + 1) = xs := by simpa using ht
 refine (delS_at base g m c k cur w hb hg (by omega) hm hcs hk (by rw [ht']; exact h1)).mono ?_
 rintro e w' ⟨he, h2, h3⟩
 rw [ht'] at h2
 exact ⟨he, h2, h3⟩
theorem delV_own (base k m c : Nat) (a : Option Addr) (xs : List Value) (w : World) (ho : w.ownsRow base 25 5 (.slice a (m + 1) c) (m + 1) xs) (hk : k ≤ m) (h1 : ∀ u ∈ xs, u.oneCell' = true) :
  Calls Tryz.prog 150 #[.slice a (m + 1) c, .int .i64 k, .int .i64 ((k : Int) + 1)] w fun e w' => e = .returned (.slice a m c) ∧ w'.ownsRow base 25 5 (.slice a m c) m (xs.take (k * 5) ++ xs.drop ((k + 1) * 5)) ∧ w.grownBy w' (Value.slice a (m + 1) c).ownBlock := by
 obtain ⟨g, cap, cur, hv, hb, hg, hnc, hm, hcs, ht⟩ := ownsRow_at ho (by omega)
 simp only [Value.slice.injEq, true_and] at hv
 obtain ⟨rfl, rfl⟩ := hv
 refine (delV_at base g m c k cur w hb hg (by omega) hm hcs hk (by rw [ht]; exact h1)).mono ?_
 rintro e w' ⟨he, h2, h3⟩
 rw [ht] at h2
 exact ⟨he, h2, h3⟩
set_option maxRecDepth 100000 in
set_option maxHeartbeats 4000000 in
theorem without_found (nn : Int) (s : ByteArray) (ks : List ByteArray) (l : List V) (m : Nat) (ka : Option Addr) (kc : Nat) (la : Option Addr) (lc : Nat) (key : ByteArray) (S : Nat → Prop) (w : World) (p : Nat)
  (hks : Hid (ks.length = m + 1)) (hll : Hid (l.length = m + 1)) (hn30 : m + 1 ≤ 1073741824) (hok1 : SlOk ka (m + 1) kc) (hok2 : SlOk la (m + 1) lc) (hst : StrsIn w (fun b => S b ∧ b < w.heap.size) ka ks) (hrw : Rows w (fun b => S b ∧ b < w.heap.size) l la)
  (bs : ∀ w', Ext w w' → Calls Tryz.prog 127 #[.slice ka (m + 1) kc, .string key] w' fun e w'' => e = .returned (.tuple #[.int .i64 p, .bool true]) ∧ Ext w' w'') (hp : p ≤ m) :
  Calls Tryz.prog 112 #[.agg #[.int .i64 5, .int .i64 nn, .string s, .slice ka (m + 1) kc, .slice la (m + 1) lc], .string key] w (RetV S (.mk 5 nn s (ks.take p ++ ks.drop (p + 1)) (l.take p ++ l.drop (p + 1))) w) := by
 obtain ⟨news, hnl, hnsrc, hncells⟩ := rows_cells hrw
 have Hncells := Lib.hid hncells
 have h1c := hncells.one
 have hnl5 : news.length = (m + 1) * 5 := by rw [hnl, hll.out]
 have hnsrc2 : m + 1 = 0 ∨ ∃ ad, la = some ad ∧ ∀ j u, news[j]? = some u → w.cell? (ad.add j) = some u := by rw [← hll.out]; exact hnsrc
 have hssrc := strs_src hst
 have hssrc2 : m + 1 = 0 ∨ ∃ ad, ka = some ad ∧ ∀ j u, (ks.map Value.string)[j]? = some u → w.cell? (ad.add j) = some u := by rw [← hks.out]; exact hssrc
 have src_ext : ∀ (a : Option Addr) (m : Nat) (xs : List Value) (w' : World), (m = 0 ∨ ∃ ad, a = some ad ∧ ∀ j u, xs[j]? = some u → w.cell? (ad.add j) = some u) → Ext w w' → (m = 0 ∨ ∃ ad, a = some ad ∧ ∀ j u, xs[j]? = some u → w'.cell? (ad.add j) = some u) := by
  rintro a m xs w' (h | ⟨ad, h, h'⟩) e
  ·exact .inl h
  ·exact .inr ⟨ad, h, fun j u hj => e.cell (h' j u hj)⟩
 have cl1 : ∀ w', Ext w w' → Calls Tryz.prog 48 #[.slice ka (m + 1) kc] w' fun e w'' => ∃ a' c', e = .returned (.slice a' (m + 1) c') ∧ SlOk a' (m + 1) c' ∧ w''.ownsRow w'.heap.size 9 1 (.slice a' (m + 1) c') (m + 1) (ks.map Value.string) ∧ Ext w' w'' :=
  fun w' e => cloneS_row ka (m + 1) kc _ w' hok1 hn30 (by rw [List.length_map, hks.out]; omega) (src_ext _ _ _ _ hssrc2 e) (strs_one ks)
 have cl2 : ∀ w', Ext w w' → Calls Tryz.prog 93 #[.slice la (m + 1) lc] w' fun e w'' => ∃ a' c', e = .returned (.slice a' (m + 1) c') ∧ SlOk a' (m + 1) c' ∧ w''.ownsRow w'.heap.size 25 5 (.slice a' (m + 1) c') (m + 1) news ∧ Ext w' w'' :=
  fun w' e => cloneV_row la (m + 1) lc news w' hok2 hn30 hnl5 (src_ext _ _ _ _ hnsrc2 e) h1c
 have H1c := Lib.hid h1c
 have Cl1 := Lib.hid cl1
 have Cl2 := Lib.hid cl2
 have Bs := Lib.hid bs
 have Hnl := Lib.hid hnl5
 clear hrw hst hncells h1c hnl hnsrc hnl5 hnsrc2 hssrc hssrc2 src_ext cl1 cl2 bs hok1 hok2
 go_enter Tryz.func112, Tryz.ntmps112
 go_wp2_with (go_at_call 127; refine (Bs.out _ Xt).mono ?_; rintro e w1 ⟨rfl, h1⟩)
 refine gen_world (R := fun wx => Box wx w.heap.size #[.int .i64 5, .int .i64 nn, .string s, .slice ka (m + 1) kc, .slice la (m + 1) lc] 25 ∧ Box wx (w.heap.size + 1) #[.int .i64 0, .int .i64 0, .string ⟨#[]⟩, .slice none 0 0, .slice none 0 0] 25 ∧ Ext w wx) ⟨Bxt, Bxt, Xt⟩ ?_
 clear h1
 rintro wa ⟨hB0, hB2, hxa⟩
 obtain ⟨T, hT⟩ : ∃ T : Nat → Prop, T = fun b => b < wa.heap.size := ⟨_, rfl⟩
 have hTx : Hid (∀ b, b < wa.heap.size → T b) := by rw [hT]; exact fun b h => h
 have hTn : Hid (∀ b, wa.heap.size ≤ b → ¬ T b) := by rw [hT]; exact fun b h h' => Nat.not_lt.2 h h'
 clear hT
 have Sof : ∀ w', Held T wa w' → (w'.cell? ⟨w.heap.size, 3, none⟩ = some (.slice ka (m + 1) kc) ∧ w'.cell? ⟨w.heap.size, 4, none⟩ = some (.slice la (m + 1) lc)) :=
  fun w' e => ⟨e.kept.cell (hTx.out _ hB0.lt) (hB0.cells 3), e.kept.cell (hTx.out _ hB0.lt) (hB0.cells 4)⟩
 have hba := hB2.lt
 have hp1 : (0 : Int) ≤ (p : Int) := by omega
 have hw1 : IntKind.i64.wrap ((p : Int) + 1) = (p : Int) + 1 := by rw [IntKind.wrap_i64]; omega
 refine wp_region_till (S := fun w' => w'.cell? ⟨w.heap.size, 3, none⟩ = some (.slice ka (m + 1) kc) ∧ w'.cell? ⟨w.heap.size, 4, none⟩ = some (.slice la (m + 1) lc)) (c := 15) (by kernel_rfl) ?_
 (refine wpAnyT_take (i := 0) (v := ?_) [15] (Array.getElem?_eq_getElem (by decide)) (by kernel_rfl) (by kernel_rfl) (by kernel_rfl) (by kernel_rfl) rfl rfl (by kernel_rfl) (fun _ _ _ h => h) (Or.inl ⟨by kernel_rfl, ?_⟩) (Sof _ Hxt) ?_); rotate_left; (focus (intro w hSw; (try dsimp only at hSw); (try simp only [rl]); go_simp; (try with_reducible rfl))); (try simp only [rl])
 (refine wpAnyT_take (i := 1) (v := ?_) [15] (Array.getElem?_eq_getElem (by decide)) (by kernel_rfl) (by kernel_rfl) (by kernel_rfl) (by kernel_rfl) rfl rfl (by kernel_rfl) (fun _ _ _ h => h) (Or.inl ⟨by kernel_rfl, ?_⟩) (Sof _ Hxt) ?_); rotate_left; (focus (intro w hSw; (try dsimp only at hSw); (try simp only [rl]); go_simp; (try with_reducible rfl))); (try simp only [rl])
 (refine wpAnyT_take (i := 3) (v := ?_) [15] (Array.getElem?_eq_getElem (by decide)) (by kernel_rfl) (by kernel_rfl) (by kernel_rfl) (by kernel_rfl) rfl rfl (by kernel_rfl) (fun _ _ _ h => h) (Or.inl ⟨by kernel_rfl, ?_⟩) (Sof _ Hxt) ?_); rotate_left; (focus (intro w hSw; (try dsimp only at hSw); (try simp only [rl]); go_simp; (try with_reducible rfl))); (try simp only [rl])
 (refine wpAnyT_take (i := 4) (v := ?_) [15] (Array.getElem?_eq_getElem (by decide)) (by kernel_rfl) (by kernel_rfl) (by kernel_rfl) (by kernel_rfl) rfl rfl (by kernel_rfl) (fun _ _ _ h => h) (Or.inl ⟨by kernel_rfl, ?_⟩) (Sof _ Hxt) ?_); rotate_left; (focus (intro w hSw; (try dsimp only at hSw); (try simp only [rl]); go_simp; (try with_reducible rfl))); (try simp only [rl])
 (refine wpAnyT_take (i := 5) (v := ?_) [15] (Array.getElem?_eq_getElem (by decide)) (by kernel_rfl) (by kernel_rfl) (by kernel_rfl) (by kernel_rfl) rfl rfl (by kernel_rfl) (fun _ _ _ h => h) (Or.inl ⟨by kernel_rfl, ?_⟩) (Sof _ Hxt) ?_); rotate_left; (focus (intro w hSw; (try dsimp only at hSw); (try simp only [rl]); go_simp; (try with_reducible rfl))); (try simp only [rl])
 (refine wpAnyT_take (i := 7) (v := ?_) [15] (Array.getElem?_eq_getElem (by decide)) (by kernel_rfl) (by kernel_rfl) (by kernel_rfl) (by kernel_rfl) rfl rfl (by kernel_rfl) (fun _ _ _ h => h) (Or.inl ⟨by kernel_rfl, ?_⟩) (Sof _ Hxt) ?_); rotate_left; (focus (intro w hSw; (try dsimp only at hSw); (try simp only [rl]); go_simp; (try with_reducible rfl))); (try simp only [rl])
 (refine wpAnyT_take (i := 8) (v := ?_) [15] (Array.getElem?_eq_getElem (by decide)) (by kernel_rfl) (by kernel_rfl) (by kernel_rfl) (by kernel_rfl) rfl rfl (by kernel_rfl) (fun _ _ _ h => h) (Or.inl ⟨by kernel_rfl, ?_⟩) (Sof _ Hxt) ?_); rotate_left; (focus (intro w hSw; (try dsimp only at hSw); (try simp only [rl]); go_simp; (try with_reducible rfl))); (try simp only [rl])
 (refine wpAnyT_take (i := 10) (v := ?_) [13, 15] (Array.getElem?_eq_getElem (by decide)) (by kernel_rfl) (by kernel_rfl) (by kernel_rfl) (by kernel_rfl) rfl rfl (by kernel_rfl) (fun _ _ _ h => h) (Or.inl ⟨by kernel_rfl, ?_⟩) (Sof _ Hxt) ?_); rotate_left; (focus (intro w hSw; (try dsimp only at hSw); (try simp only [rl]); go_simp; (try with_reducible rfl))); (try simp only [rl])
 (refine wpAnyT_take (i := 11) (v := ?_) [12, 13, 15] (Array.getElem?_eq_getElem (by decide)) (by kernel_rfl) (by kernel_rfl) (by kernel_rfl) (by kernel_rfl) rfl rfl (by kernel_rfl) (fun _ _ _ h => h) (Or.inl ⟨by kernel_rfl, ?_⟩) (Sof _ Hxt) ?_); rotate_left; (focus (intro w hSw; (try dsimp only at hSw); (try simp only [rl]); go_simp; (try with_reducible rfl))); (try simp only [rl])
 (refine wpAnyT_take (i := 12) (v := ?_) [13, 15] (Array.getElem?_eq_getElem (by decide)) (by kernel_rfl) (by kernel_rfl) (by kernel_rfl) (by kernel_rfl) rfl rfl (by kernel_rfl) (fun _ _ _ h => h) (Or.inl ⟨by kernel_rfl, ?_⟩) (Sof _ Hxt) ?_); rotate_left; (focus (intro w hSw; (try dsimp only at hSw); (try simp only [rl]); go_simp; (try with_reducible rfl))); (try simp only [rl])
 (refine wpAnyT_one (i := 2) (by kernel_rfl) (Array.getElem?_eq_getElem (by decide)) fun K hK => ?_); (try simp only [rl])
 (try go_simp)
 (refine (Cl1.out _ Xt).mono ?_); rintro e w2 ⟨a2, c2, rfl, hok2, hown2, h2⟩
 (try go_simp)
 have hh2 : Held T wa w2 := (Held.refl T wa).drew.ext h2
 have hx2 : Ext w w2 := Xt
 have hz2 : wa.heap.size ≤ w2.heap.size := h2.size
 have hb2 : ∀ g, (Value.slice a2 (m + 1) c2).ownBlock = some g → wa.heap.size ≤ g := fun g hg => (hown2.lt g hg).1
 refine hK.out _ _ (fun _ => Sof _ Hxt) ?_; clear hK K; (try simp only [rl])
 (refine wpAnyT_one (i := 6) (by kernel_rfl) (Array.getElem?_eq_getElem (by decide)) fun K hK => ?_); (try simp only [rl])
 (try go_simp)
 (refine (delS_own _ p m c2 a2 (ks.map Value.string) _ hown2 hp (strs_one ks)).mono ?_); rintro e w4 ⟨rfl, hown4, hgrow4⟩
 (try go_simp)
 have hh4 : Held T wa w4 := Held.grown hh2 hgrow4 (fun k hk => hTn.out _ (hb2 k hk))
 have hx4 : Ext w w4 := Ext.grown hx2 hgrow4 (fun g hg => by have := hb2 g hg; omega)
 have hz4 := hgrow4.size
 have Hst4 : Hid (StrsIn w4 (fun b => w.heap.size + 2 ≤ b ∧ b < w4.heap.size) a2 (ks.take p ++ ks.drop (p + 1))) := by
  obtain ⟨a4, c4, he4, -, -, hst⟩ := OwnS.strs (base := w.heap.size + 2) (n := m) (v := .slice a2 m c2) (ks := ks.take p ++ ks.drop (p + 1)) ⟨by simp [hks.out]; omega, ownsRow_base (by simpa [List.map_take, List.map_drop] using hown4) (show w.heap.size + 2 ≤ wa.drew.heap.size from hba)⟩
  simp only [Value.slice.injEq, true_and] at he4
  obtain ⟨rfl, rfl⟩ := he4
  exact hst.keep (fun _ _ _ => rfl) (fun b h hl => ⟨h, hl⟩)
 have hok4 : SlOk a2 m c2 := by
  obtain ⟨a4, c4, he4, h⟩ := owns_form hown4
  simp only [Value.slice.injEq, true_and] at he4
  obtain ⟨rfl, rfl⟩ := he4
  exact h
 clear hown2 hown4 hb2 h2 hgrow4 hx2 hok2
 refine hK.out _ _ (fun _ => Sof _ Hxt) ?_; clear hK K; (try simp only [rl])
 (refine wpAnyT_take (i := 14) (v := ?_) [15] (Array.getElem?_eq_getElem (by decide)) (by kernel_rfl) (by kernel_rfl) (by kernel_rfl) (by kernel_rfl) rfl rfl (by kernel_rfl) (fun _ _ _ h => h) (Or.inl ⟨by kernel_rfl, ?_⟩) (Sof _ Hxt) ?_); rotate_left; (focus (intro w hSw; (try dsimp only at hSw); (try simp only [rl]); go_simp; (try with_reducible rfl))); (try simp only [rl])
 (refine wpAnyT_one (i := 9) (by kernel_rfl) (Array.getElem?_eq_getElem (by decide)) fun K hK => ?_); (try simp only [rl])
 (try go_simp)
 (refine (Cl2.out _ Xt).mono ?_); rintro e w5 ⟨a3, c3, rfl, hok3, hown5, h5⟩
 (try go_simp)
 have hh5 : Held T wa w5 := hh4.ext h5
 have hx5 : Ext w w5 := hx4.trans h5
 have hb5 : ∀ g, (Value.slice a3 (m + 1) c3).ownBlock = some g → w4.heap.size ≤ g := fun g hg => (hown5.lt g hg).1
 refine hK.out _ _ (fun _ => Sof _ Hxt) ?_; clear hK K; (try simp only [rl])
 (refine wpAnyT_one (i := 13) (by kernel_rfl) (Array.getElem?_eq_getElem (by decide)) fun K hK => ?_); (try simp only [rl])
 (try go_simp)
 (refine (delV_own _ p m c3 a3 news _ hown5 hp H1c.out).mono ?_); rintro e w6 ⟨rfl, hown6, hgrow6⟩
 (try go_simp)
 have hh6 : Held T wa w6 := Held.grown hh5 hgrow6 (fun k hk => hTn.out _ (by have := hb5 k hk; omega))
 have hx6 : Ext w w6 := Ext.grown hx5 hgrow6 (fun g hg => by have := hb5 g hg; have := hx4.size; omega)
 have hst6 : StrsIn w6 (fun b => w.heap.size + 2 ≤ b) a2 (ks.take p ++ ks.drop (p + 1)) := Hst4.out.keep (Held.kept (T := fun b => w.heap.size + 2 ≤ b ∧ b < w4.heap.size) (Held.grown (h5.held _) hgrow6 (fun k hk h => by have := hb5 k hk; omega))) (fun b h _ => h.1)
 have hok6 : SlOk a3 m c3 := by
  obtain ⟨a4, c4, he4, h⟩ := owns_form hown6
  simp only [Value.slice.injEq, true_and] at he4
  obtain ⟨rfl, rfl⟩ := he4
  exact h
 have hrows : Rows w6 (fun b => (S b ∧ b < w.heap.size) ∨ w.heap.size + 2 ≤ b) (l.take p ++ l.drop (p + 1)) a3 := by
  have hcc := (Hncells.out.keep (hx6.kept _) (fun b h _ => h)).del p
  by_cases hm0 : m = 0
  ·refine .inl (List.eq_nil_of_length_eq_zero ?_)
   simp [hll.out]; omega
  ·obtain ⟨g7, cur, he7, hgb, hBg, hcz, hits⟩ := own_items (by omega) (by simp [hll.out]; omega) hown6 hcc
   exact .inr ⟨g7, 0, he7, .inr (by have := hx4.size; omega), fun i hi => by rw [Nat.zero_add]; exact (hits i hi).mono (fun b h => .inl h)⟩
 have hB0 := Box.held hh6 hB0 (hTx.out _ (by omega))
 have hB2 := Box.held hh6 hB2 (hTx.out _ (by omega))
 have Hrows := Lib.hid hrows
 clear hown6 hgrow6 hrows hown5 hb5 h5 hx5 hok3 Hst4 hh4 hx4 hh5 hh2 Cl1 Cl2 Bs hxa
 refine hK.out _ _ (fun _ => Sof _ Hxt) ?_; clear hK K; (try simp only [rl])
 clear Sof hh6 hTx hTn
 have hc0 := hB0.cells; have hf0 := hB0.free; have hl0 := hB0.lt
 (refine wpAnyT_one (i := 15) (by kernel_rfl) (Array.getElem?_eq_getElem (by decide)) fun K hK => ?_); (try simp only [rl])
 go_simp
 (refine hK.out _ _ (fun h => Bool.noConfusion (show true = false from h)) ?_); clear hK K; (try simp only [rl])
 (refine wpAnyT_one (i := 16) (by kernel_rfl) (Array.getElem?_eq_getElem (by decide)) fun K hK => ?_); (try simp only [rl])
 go_simp
 (refine hK.out _ _ (fun h => Bool.noConfusion (show true = false from h)) ?_); clear hK K; (try simp only [rl])
 (refine wpAnyT_one (i := 17) (by kernel_rfl) (Array.getElem?_eq_getElem (by decide)) fun K hK => ?_); (try simp only [rl])
 go_simp
 (refine hK.out _ _ (fun h => Bool.noConfusion (show true = false from h)) ?_); clear hK K; (try simp only [rl])
 refine wpAnyT_done (by kernel_rfl) ?_ _
 go_upto_region 6 with fail
 refine gen_world (R := fun wy => Box wy w.heap.size #[.int .i64 5, .int .i64 nn, .string s, .slice a2 m c2, .slice a3 m c3] 25 ∧ Box wy (w.heap.size + 1) #[.int .i64 0, .int .i64 0, .string ⟨#[]⟩, .slice none 0 0, .slice none 0 0] 25 ∧ Held (fun b => b ≠ w.heap.size) w6 wy ∧ Ext w wy) ⟨Bxt, Bxt, Hxt, Xt⟩ ?_
 clear hB0 hB2 hc0 hf0 hl0
 rintro wy ⟨hB0, hB2, hhy, hxy⟩
 have hc0 := hB0.cells; have hf0 := hB0.free; have hl0 := hB0.lt
 have hc2 := hB2.cells; have hf2 := hB2.free; have hl2 := hB2.lt
 go_wp2_with fail
 (with_reducible apply bp_ret); (focus (go_light; simp [results, Tryz.results112, go_sem, *]; rfl))
 have e1 : (ks.take p ++ ks.drop (p + 1)).length = m := by simp [hks.out]; omega
 have e2 : (l.take p ++ l.drop (p + 1)).length = m := by simp [hll.out]; omega
 refine ⟨a2, c2, a3, c3, ?_, (V.in_iff ..).2 ⟨?_, ?_, ?_, ?_⟩, Xt⟩
 ·simp only [V.val, V.keys_mk, V.l_mk, V.k_mk, V.n_mk, V.s_mk, e1, e2]
 ·rw [V.keys_mk, e1]; exact hok4
 ·rw [V.l_mk, e2]; exact hok6
 ·have h1 : Held (fun b => w.heap.size + 2 ≤ b) w6 wy := hhy.mono (fun b h => by simp; omega)
  exact hst6.keep (Held.kept (a := w6) (T := fun b => w.heap.size + 2 ≤ b) Hxt) (fun b h _ => .inr (by omega))
 ·have h1 : Held (fun b => (S b ∧ b < w.heap.size) ∨ w.heap.size + 2 ≤ b) w6 wy := hhy.mono (fun b h => by simp; omega)
  exact Hrows.out.keep (Held.kept (a := w6) (T := fun b => (S b ∧ b < w.heap.size) ∨ w.heap.size + 2 ≤ b) Hxt) (fun b h _ => by rcases h with h | h; exact .inl h.1; exact .inr (by omega))
theorem without_no (x : V) (ka : Option Addr) (kc : Nat) (la : Option Addr) (lc : Nat) (key : ByteArray) (S : Nat → Prop) (w : World) (p : Nat) (h5 : x.k = 5) (hln : x.keys.length = x.l.length) (hin : x.In w S ka kc la lc)
  (bs : ∀ w', Ext w w' → Calls Tryz.prog 127 #[.slice ka x.keys.length kc, .string key] w' fun e w'' => e = .returned (.tuple #[.int .i64 p, .bool false]) ∧ Ext w' w'') :
  Calls Tryz.prog 112 #[x.val ka kc la lc, .string key] w (RetV S x w) := by
 have hk5 : (x.k == 5) = true := by simpa using h5
 have hk5b : (x.k != 5) = false := by simpa using h5
 have hlen : ((x.keys.length : Int) == (x.l.length : Int)) = true := by simpa using congrArg Int.ofNat hln
 have hlenb : ((x.keys.length : Int) != (x.l.length : Int)) = false := by simpa using congrArg Int.ofNat hln
 have Bs := Lib.hid bs
 clear hln h5 bs
 go_enter Tryz.func112, Tryz.ntmps112
 go_upto_region 6 with (go_at_call 127; refine (Bs.out _ Xt).mono ?_; rintro e w1 ⟨rfl, h1⟩)
 refine gen_world (R := fun wx => Box wx w.heap.size #[.int .i64 x.k, .int .i64 x.n, .string x.s, .slice ka x.keys.length kc, .slice la x.l.length lc] 25 ∧ Box wx (w.heap.size + 1) #[.int .i64 0, .int .i64 0, .string ⟨#[]⟩, .slice none 0 0, .slice none 0 0] 25 ∧ Ext w wx) ⟨Bxt, Bxt, Xt⟩ ?_
 clear h1
 rintro wa ⟨hB0, hB2, hxa⟩
 have hc0 := hB0.cells; have hf0 := hB0.free; have hl0 := hB0.lt
 have hc2 := hB2.cells; have hf2 := hB2.free; have hl2 := hB2.lt
 go_wp2_with fail
 (with_reducible apply bp_ret); (focus (go_light; simp [results, Tryz.results112, go_sem, *]; rfl))
 exact ⟨ka, kc, la, lc, rfl, (hin.ext Xt).mono (fun b h _ => .inl h), Xt⟩
theorem without_not (x : V) (ka : Option Addr) (kc : Nat) (la : Option Addr) (lc : Nat) (key : ByteArray) (S : Nat → Prop) (w : World) (hx : ¬ (x.k = 5 ∧ x.keys.length = x.l.length)) (hin : x.In w S ka kc la lc) :
  Calls Tryz.prog 112 #[x.val ka kc la lc, .string key] w (RetV S x w) := by
 by_cases h5 : x.k = 5
 ·have hln : x.keys.length ≠ x.l.length := fun h => hx ⟨h5, h⟩
  have hk5 : (x.k == 5) = true := by simpa using h5
  have hk5b : (x.k != 5) = false := by simpa using h5
  have hlen : ((x.keys.length : Int) == (x.l.length : Int)) = false := by simpa using fun h => hln (by omega)
  have hlenb : ((x.keys.length : Int) != (x.l.length : Int)) = true := by simpa using fun h => hln (by omega)
  clear hln h5 hx
  go_enter Tryz.func112, Tryz.ntmps112
  go_wp2_with fail
  (with_reducible apply bp_ret); (focus (go_light; simp [results, Tryz.results112, go_sem, *]; rfl))
  exact ⟨ka, kc, la, lc, rfl, (hin.ext Xt).mono (fun b h _ => .inl h), Xt⟩
 ·have hk5 : (x.k == 5) = false := by simpa using h5
  have hk5b : (x.k != 5) = true := by simpa using h5
  clear h5 hx
  go_enter Tryz.func112, Tryz.ntmps112
  go_wp2_with fail
  (with_reducible apply bp_ret); (focus (go_light; simp [results, Tryz.results112, go_sem, *]; rfl))
  exact ⟨ka, kc, la, lc, rfl, (hin.ext Xt).mono (fun b h _ => .inl h), Xt⟩
theorem without_any (x : V) (ka : Option Addr) (kc : Nat) (la : Option Addr) (lc : Nat) (key : ByteArray) (S : Nat → Prop) (w : World) (hsz : x.size ≤ 1073741824) (hr : Rises x.keys) (hin : x.In w S ka kc la lc) :
  Calls Tryz.prog 112 #[x.val ka kc la lc, .string key] w (RetV S (x.del key) w) := by
 by_cases hx : x.k = 5 ∧ x.keys.length = x.l.length
 ·have hin' := hin.mono (T := fun b => S b ∧ b < w.heap.size) fun b h hl => ⟨h, hl⟩
  obtain ⟨h1, h2, h3, h4⟩ := (V.in_iff ..).1 hin'
  have hl := x.len_l
  have hle := posOf_le x.keys key
  cases hb : hasB x.keys key with
  | true =>
   rw [del_yes hx hb, hx.1]
   have hlt := hasB_lt hb
   obtain ⟨m, hm⟩ : ∃ m, x.l.length = m + 1 := ⟨x.l.length - 1, by omega⟩
   have hv : x.val ka kc la lc = .agg #[.int .i64 5, .int .i64 x.n, .string x.s, .slice ka (m + 1) kc, .slice la (m + 1) lc] := by rw [V.val, hx.1, hx.2, hm]
   rw [hx.2, hm] at h1
   rw [hm] at h2
   rw [hv]
   refine without_found x.n x.s x.keys x.l m ka kc la lc key S w (posOf x.keys key) (by show x.keys.length = m + 1; omega) hm (by omega) h1 h2 h3 h4 ?_ (by omega)
   intro w' e
   have := bs_rise ka (m + 1) kc x.keys _ key w' (by omega) (h3.ext e) hr (by omega)
   rw [hb] at this
   exact this
  | false =>
   rw [del_no hb]
   refine without_no x ka kc la lc key S w (posOf x.keys key) hx.1 hx.2 hin ?_
   intro w' e
   have := bs_rise ka x.keys.length kc x.keys _ key w' rfl (h3.ext e) hr (by omega)
   rw [hb] at this
   exact this
 ·rw [del_not hx]
  exact without_not x ka kc la lc key S w hx hin
end Go.Proofs.YtjibdbnpkfghhaaGreatDoor
