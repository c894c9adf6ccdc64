/- The walk of json.With. -/
import Derived.Test.YtjibdbnpkfghhaaGreatDoorPkG
import Derived.Deep.CutBlock
set_option linter.all false
namespace Go.Proofs.YtjibdbnpkfghhaaGreatDoor
open Go.RowKit
attribute [local go_sem ↓] Go.wp_at_zero Go.wp_at_succ
set_option maxRecDepth 100000 in
set_option maxHeartbeats 4000000 in
theorem with_found (nn : Int) (s : ByteArray) (ks : List ByteArray) (l : List V) (n : Nat) (ka : Option Addr) (kc : Nat) (la : Option Addr) (lc : Nat) (key : ByteArray) (y : V) (kb : Option Addr) (kd : Nat) (lb : Option Addr) (ld : Nat) (S : Nat → Prop) (w : World) (p : Nat)
  (hks : Hid (ks.length = n)) (hll : Hid (l.length = n)) (hn30 : n ≤ 1073741824) (hok1 : SlOk ka n kc) (hok2 : SlOk la n lc) (hst : StrsIn w (fun b => S b ∧ b < w.heap.size) ka ks) (hrw : Rows w (fun b => S b ∧ b < w.heap.size) l la) (hjn : y.In w (fun b => S b ∧ b < w.heap.size) kb kd lb ld)
  (bs : ∀ w', Ext w w' → Calls Tryz.prog 127 #[.slice ka n kc, .string key] w' fun e w'' => e = .returned (.tuple #[.int .i64 p, .bool true]) ∧ Ext w' w'') (hp : p < n) :
  Calls Tryz.prog 90 #[.agg #[.int .i64 5, .int .i64 nn, .string s, .slice ka n kc, .slice la n lc], .string key, y.val kb kd lb ld] w (RetV S (.mk 5 nn s ks (l.set p y)) w) := by
 obtain ⟨news, hnl, hnsrc, hncells⟩ := rows_cells hrw
 have Hncells := Lib.hid hncells
 have h1c := hncells.one
 have hnl5 : news.length = n * 5 := by rw [hnl, hll.out]
 have hnsrc2 : n = 0 ∨ ∃ ad, la = some ad ∧ ∀ j u, news[j]? = some u → w.cell? (ad.add j) = some u := by rw [← hll.out]; exact hnsrc
 have hssrc := strs_src hst
 have hssrc2 : n = 0 ∨ ∃ ad, ka = some ad ∧ ∀ j u, (ks.map Value.string)[j]? = some u → w.cell? (ad.add j) = some u := by rw [← hks.out]; exact hssrc
 have src_ext : ∀ (a : Option Addr) (m : Nat) (xs : List Value) (w' : World), (m = 0 ∨ ∃ ad, a = some ad ∧ ∀ j u, xs[j]? = some u → w.cell? (ad.add j) = some u) → Ext w w' → (m = 0 ∨ ∃ ad, a = some ad ∧ ∀ j u, xs[j]? = some u → w'.cell? (ad.add j) = some u) := by
  rintro a m xs w' (h | ⟨ad, h, h'⟩) e
  ·exact .inl h
  ·exact .inr ⟨ad, h, fun j u hj => e.cell (h' j u hj)⟩
 have cl1 : ∀ w', Ext w w' → Calls Tryz.prog 48 #[.slice ka n kc] w' fun e w'' => ∃ a' c', e = .returned (.slice a' n c') ∧ SlOk a' n c' ∧ w''.ownsRow w'.heap.size 9 1 (.slice a' n c') n (ks.map Value.string) ∧ Ext w' w'' :=
  fun w' e => cloneS_row ka n kc _ w' hok1 hn30 (by rw [List.length_map, hks.out]; omega) (src_ext _ _ _ _ hssrc2 e) (strs_one ks)
 have cl2 : ∀ w', Ext w w' → Calls Tryz.prog 93 #[.slice la n lc] w' fun e w'' => ∃ a' c', e = .returned (.slice a' n c') ∧ SlOk a' n c' ∧ w''.ownsRow w'.heap.size 25 5 (.slice a' n c') n news ∧ Ext w' w'' :=
  fun w' e => cloneV_row la n lc news w' hok2 hn30 hnl5 (src_ext _ _ _ _ hnsrc2 e) h1c
 have H1c := Lib.hid h1c
 have Cl1 := Lib.hid cl1
 have Cl2 := Lib.hid cl2
 have Bs := Lib.hid bs
 have Hnl := Lib.hid hnl5
 clear hrw hst hncells h1c hnl hnsrc hnl5 hnsrc2 hssrc hssrc2 src_ext cl1 cl2 bs hok1 hok2
 go_enter Tryz.func90, Tryz.ntmps90
 go_wp2_with (go_at_call 127; refine (Bs.out _ Xt).mono ?_; rintro e w1 ⟨rfl, h1⟩)
 refine gen_world (R := fun wx => Box wx w.heap.size #[.int .i64 5, .int .i64 nn, .string s, .slice ka n kc, .slice la n lc] 25 ∧ Box wx (w.heap.size + 1) #[.int .i64 y.k, .int .i64 y.n, .string y.s, .slice kb y.keys.length kd, .slice lb y.l.length ld] 25 ∧ Box wx (w.heap.size + 2) #[.int .i64 0, .int .i64 0, .string ⟨#[]⟩, .slice none 0 0, .slice none 0 0] 25 ∧ Ext w wx) ⟨Bxt, Bxt, Bxt, Xt⟩ ?_
 clear h1
 rintro wa ⟨hB0, hB1, hB2, hxa⟩
 have Sof : ∀ w', Ext wa w' → (w'.cell? ⟨w.heap.size, 3, none⟩ = some (.slice ka n kc) ∧ w'.cell? ⟨w.heap.size, 4, none⟩ = some (.slice la n lc)) := fun w' e => ⟨e.cell (hB0.cells 3), e.cell (hB0.cells 4)⟩
 have hba := hB2.lt
 have hc0 := hB0.cells; have hf0 := hB0.free; have hl0 := hB0.lt
 refine wp_region_till (S := fun w' => w'.cell? ⟨w.heap.size, 3, none⟩ = some (.slice ka n kc) ∧ w'.cell? ⟨w.heap.size, 4, none⟩ = some (.slice la n lc)) (c := 7) (by kernel_rfl) ?_
 (refine wpAnyT_take (i := 0) (v := ?_) [7] (Array.getElem?_eq_getElem (by decide)) (by kernel_rfl) (by kernel_rfl) (by kernel_rfl) (by kernel_rfl) rfl rfl (by kernel_rfl) (fun _ _ _ h => h) (Or.inl ⟨by kernel_rfl, ?_⟩) (Sof _ Xt) ?_); rotate_left; (focus (intro w hSw; (try dsimp only at hSw); (try simp only [rl]); go_simp; (try with_reducible rfl))); (try simp only [rl])
 (refine wpAnyT_take (i := 1) (v := ?_) [7] (Array.getElem?_eq_getElem (by decide)) (by kernel_rfl) (by kernel_rfl) (by kernel_rfl) (by kernel_rfl) rfl rfl (by kernel_rfl) (fun _ _ _ h => h) (Or.inl ⟨by kernel_rfl, ?_⟩) (Sof _ Xt) ?_); rotate_left; (focus (intro w hSw; (try dsimp only at hSw); (try simp only [rl]); go_simp; (try with_reducible rfl))); (try simp only [rl])
 (refine wpAnyT_take (i := 3) (v := ?_) [7] (Array.getElem?_eq_getElem (by decide)) (by kernel_rfl) (by kernel_rfl) (by kernel_rfl) (by kernel_rfl) rfl rfl (by kernel_rfl) (fun _ _ _ h => h) (Or.inl ⟨by kernel_rfl, ?_⟩) (Sof _ Xt) ?_); rotate_left; (focus (intro w hSw; (try dsimp only at hSw); (try simp only [rl]); go_simp; (try with_reducible rfl))); (try simp only [rl])
 (refine wpAnyT_take (i := 4) (v := ?_) [7] (Array.getElem?_eq_getElem (by decide)) (by kernel_rfl) (by kernel_rfl) (by kernel_rfl) (by kernel_rfl) rfl rfl (by kernel_rfl) (fun _ _ _ h => h) (Or.inl ⟨by kernel_rfl, ?_⟩) (Sof _ Xt) ?_); rotate_left; (focus (intro w hSw; (try dsimp only at hSw); (try simp only [rl]); go_simp; (try with_reducible rfl))); (try simp only [rl])
 (refine wpAnyT_one (i := 2) (by kernel_rfl) (Array.getElem?_eq_getElem (by decide)) fun K hK => ?_); (try simp only [rl])
 (try go_simp)
 (refine (Cl1.out _ Xt).mono ?_); rintro e w2 ⟨a2, c2, rfl, hok2, hown2, h2⟩
 (try go_simp)
 refine hK.out _ _ (fun _ => Sof _ Xt) ?_; clear hK K; (try simp only [rl])
 (refine wpAnyT_take (i := 6) (v := ?_) [7] (Array.getElem?_eq_getElem (by decide)) (by kernel_rfl) (by kernel_rfl) (by kernel_rfl) (by kernel_rfl) rfl rfl (by kernel_rfl) (fun _ _ _ h => h) (Or.inl ⟨by kernel_rfl, ?_⟩) (Sof _ Xt) ?_); rotate_left; (focus (intro w hSw; (try dsimp only at hSw); (try simp only [rl]); go_simp; (try with_reducible rfl))); (try simp only [rl])
 (refine wpAnyT_one (i := 5) (by kernel_rfl) (Array.getElem?_eq_getElem (by decide)) fun K hK => ?_); (try simp only [rl])
 (try go_simp)
 (refine (Cl2.out _ Xt).mono ?_); rintro e w3 ⟨a3, c3, rfl, hok3, hown3, h3⟩
 (try go_simp)
 refine hK.out _ _ (fun _ => Sof _ Xt) ?_; clear hK K; (try simp only [rl])
 have hB0w : Box w3 w.heap.size #[.int .i64 5, .int .i64 nn, .string s, .slice ka n kc, .slice la n lc] 25 := Box.ext (w := wa) Xt hB0
 have hB1w : Box w3 (w.heap.size + 1) #[.int .i64 y.k, .int .i64 y.n, .string y.s, .slice kb y.keys.length kd, .slice lb y.l.length ld] 25 := Box.ext (w := wa) Xt hB1
 have hB2w : Box w3 (w.heap.size + 2) #[.int .i64 0, .int .i64 0, .string ⟨#[]⟩, .slice none 0 0, .slice none 0 0] 25 := Box.ext (w := wa) Xt hB2
 have hza : wa.heap.size ≤ w2.heap.size := Ext.size (a := wa) Xt
 have hx2 : Ext w w2 := Xt
 have hx3 : Ext w w3 := Xt
 have hz2 := h2.size
 have hz3 := h3.size
 have hstK : StrsIn w3 (fun b => w.heap.size + 3 ≤ b ∧ b < w2.heap.size) a2 ks := by
  obtain ⟨a4, c4, he4, -, -, hst⟩ := OwnS.strs (base := w.heap.size + 3) (ks := ks) ⟨hks.out, ownsRow_base hown2 (by simp; omega)⟩
  simp only [Value.slice.injEq, true_and] at he4
  obtain ⟨rfl, rfl⟩ := he4
  exact hst.keep (h3.kept _) (fun b h hl => ⟨h, hl⟩)
 have Hown2 := Lib.hid (ownsRow_ext (ownsRow_base (b0 := w.heap.size + 3) hown2 (by simp; omega)) h3)
 have Hown3 := Lib.hid (ownsRow_base (b0 := w.heap.size + 3) hown3 (by omega))
 have hapart : ∀ g, (Value.slice a2 n c2).ownBlock = some g → g < w2.heap.size := fun g hg => (hown2.lt g hg).2
 have hapart3 : ∀ g, (Value.slice a3 n c3).ownBlock = some g → w2.heap.size ≤ g ∧ g < w3.heap.size := fun g hg => hown3.lt g hg
 have Hap2 := Lib.hid hapart
 have Hap3 := Lib.hid hapart3
 clear hown2 hown3 hapart hapart3 hc0 hf0 hl0 hB0 hB1 hB2 Sof h2 h3 hxa
 have hc0 := hB0w.cells; have hf0 := hB0w.free; have hl0 := hB0w.lt
 (refine wpAnyT_one (i := 7) (by kernel_rfl) (Array.getElem?_eq_getElem (by decide)) fun K hK => ?_); (try simp only [rl])
 go_simp
 (refine hK.out _ _ (fun h => Bool.noConfusion (show true = false from h)) ?_); clear hK K; (try simp only [rl])
 (refine wpAnyT_one (i := 8) (by kernel_rfl) (Array.getElem?_eq_getElem (by decide)) fun K hK => ?_); (try simp only [rl])
 go_simp
 (refine hK.out _ _ (fun h => Bool.noConfusion (show true = false from h)) ?_); clear hK K; (try simp only [rl])
 (refine wpAnyT_one (i := 9) (by kernel_rfl) (Array.getElem?_eq_getElem (by decide)) fun K hK => ?_); (try simp only [rl])
 go_simp
 (refine hK.out _ _ (fun h => Bool.noConfusion (show true = false from h)) ?_); clear hK K; (try simp only [rl])
 refine wpAnyT_done (by kernel_rfl) ?_ _
 have hcw3 := Hncells.out.keep (hx3.kept _) (fun b h _ => h)
 obtain ⟨g, cur, rfl, hgb, hBg, hcz, hits⟩ := own_items (by omega) hll.out Hown3.out hcw3
 have hg2 := (Hap3.out g rfl).1
 have Hits := Lib.hid hits
 clear hits hcw3
 go_upto_region 6 with fail
 refine gen_world (R := fun wx => Box wx w.heap.size #[.int .i64 5, .int .i64 nn, .string s, .slice a2 n c2, .slice (some ⟨g, 0, none⟩) n c3] 25 ∧ Box wx (w.heap.size + 1) #[.int .i64 y.k, .int .i64 y.n, .string y.s, .slice kb y.keys.length kd, .slice lb y.l.length ld] 25 ∧ Box wx (w.heap.size + 2) #[.int .i64 0, .int .i64 0, .string ⟨#[]⟩, .slice none 0 0, .slice none 0 0] 25 ∧ Box wx g cur 25 ∧ Held (fun b => b ≠ w.heap.size) w3 wx ∧ Ext w wx) ⟨Bxt, Bxt, Bxt, Bxt, Hxt, Xt⟩ ?_
 clear hB0w hB1w hB2w hBg hc0 hf0 hl0
 rintro wx ⟨hB0, hB1, hB2, hBg, hheld, hxx⟩
 have Hits2 : Hid (∀ i (h : i < l.length), V.Item wx (fun b => S b ∧ b < w.heap.size) g (i * 5) l[i]) := fun i h => (Hits.out i h).keep' (show (fun b => b ≠ w.heap.size) g from by simp; omega) hheld.kept (fun b h => by simp; omega)
 have hc0 := hB0.cells; have hf0 := hB0.free; have hl0 := hB0.lt
 have hc1 := hB1.cells; have hf1 := hB1.free; have hl1 := hB1.lt
 have hcg := hBg.cells; have hfg := hBg.free; have hlg := hBg.lt
 have hp0 : (0 : Int) ≤ (p : Int) := by omega
 have hp1 : (p : Int) < (n : Int) := by omega
 have Hth : Hid (wx.there g (p * 5) 5) := there5 hBg (by omega)
 clear hcg hfg
 go_upto_region 8 with (refine wpList_store_mid rfl 25 _ _ rfl g (p * 5) #[.int .i64 y.k, .int .i64 y.n, .string y.s, .slice kb y.keys.length kd, .slice lb y.l.length ld] (by rfl) (by rfl) (by exact Hth.out) Tryz.sizeV (all_oneCell_toArray (y.five_one kb kd lb ld)) ?_)
 have hItems : ∀ i (h : i < (l.set p y).length), V.Item (wx.setCells g (p * 5) (y.five kb kd lb ld)) (fun b => S b ∧ b < w.heap.size) g (i * 5) (l.set p y)[i] :=
  items_set hBg Hits2.out (by rw [hll.out]; exact hp) (by rw [hll.out]; exact hcz) (hjn.ext hxx) (hBg.set5 _ _ _ _ _ _) (Held.kept (Held.set5 (Held.refl _ _) (by simp; omega) _ _))
 refine gen_world (R := fun wy => Box wy w.heap.size #[.int .i64 5, .int .i64 nn, .string s, .slice a2 n c2, .slice (some ⟨g, 0, none⟩) n c3] 25 ∧ Box wy (w.heap.size + 2) #[.int .i64 0, .int .i64 0, .string ⟨#[]⟩, .slice none 0 0, .slice none 0 0] 25 ∧ (∀ i (h : i < (l.set p y).length), V.Item wy (fun b => S b ∧ b < w.heap.size) g (i * 5) (l.set p y)[i]) ∧ Held (fun b => b ≠ w.heap.size ∧ b ≠ g) w3 wy ∧ Ext w wy)
  ⟨hB0.other5 (by omega) _ _, hB2.other5 (by omega) _ _, hItems, (hheld.mono (fun b h => h.1)).set5 (by simp) _ _, hxx.set5 (by omega) _ _⟩ ?_
 clear hB0 hB1 hB2 hBg hc0 hf0 hl0 hc1 hf1 hl1 hlg hItems hheld hxx Hth Hits Hits2
 rintro wy ⟨hB0, hB2, hits, hheld, hxy⟩
 have hc0 := hB0.cells; have hf0 := hB0.free; have hl0 := hB0.lt
 have hc2 := hB2.cells; have hf2 := hB2.free; have hl2 := hB2.lt
 have Hits := Lib.hid hits
 clear hits
 go_wp2_with fail
 (with_reducible apply bp_ret); (focus (go_light; simp [results, Tryz.results90, go_sem, *]; rfl))
 refine ⟨a2, c2, some ⟨g, 0, none⟩, c3, ?_, (V.in_iff ..).2 ⟨?_, ?_, hstK.keep (Held.kept (a := w3) (T := fun b => w.heap.size + 3 ≤ b ∧ b < w2.heap.size) ?_) (fun b h _ => .inr (by omega)), .inr ⟨g, 0, rfl, .inr (by omega), fun i hi => ?_⟩⟩, Xt⟩
 ·have e1 := hks.out
  have e2 := hll.out
  simp [V.val, e1, e2]
 ·rw [V.keys_mk, hks.out]; exact hok2
 ·rw [V.l_mk, List.length_set, hll.out]; exact hok3
 ·have h1 : Held (fun b => w.heap.size + 3 ≤ b ∧ b < w2.heap.size) w3 wy := hheld.mono (fun b h => by simp; omega)
  exact Hxt
 ·rw [Nat.zero_add]
  exact ((Hits.out i hi).keep' (T := fun b => b ≠ w.heap.size + 2) (by simp; omega) (Held.kept (a := wy) Hxt) (fun b h => by simp; omega)).mono (fun b h => .inl h.1)
set_option maxRecDepth 100000 in
set_option maxHeartbeats 8000000 in
theorem with_new (nn : Int) (s : ByteArray) (ks : List ByteArray) (l : List V) (n : Nat) (ka : Option Addr) (kc : Nat) (la : Option Addr) (lc : Nat) (key : ByteArray) (y : V) (kb : Option Addr) (kd : Nat) (lb : Option Addr) (ld : Nat) (S : Nat → Prop) (w : World) (p : Nat)
  (hks : Hid (ks.length = n)) (hll : Hid (l.length = n)) (hn30 : n ≤ 1073741824) (hok1 : SlOk ka n kc) (hok2 : SlOk la n lc) (hst : StrsIn w (fun b => S b ∧ b < w.heap.size) ka ks) (hrw : Rows w (fun b => S b ∧ b < w.heap.size) l la) (hjn : y.In w (fun b => S b ∧ b < w.heap.size) kb kd lb ld)
  (bs : ∀ w', Ext w w' → Calls Tryz.prog 127 #[.slice ka n kc, .string key] w' fun e w'' => e = .returned (.tuple #[.int .i64 p, .bool false]) ∧ Ext w' w'') (hp : p ≤ n) :
  Calls Tryz.prog 90 #[.agg #[.int .i64 5, .int .i64 nn, .string s, .slice ka n kc, .slice la n lc], .string key, y.val kb kd lb ld] w (RetV S (.mk 5 nn s (ks.take p ++ key :: ks.drop p) (l.take p ++ y :: l.drop p)) w) := by
 obtain ⟨news, hnl, hnsrc, hncells⟩ := rows_cells hrw
 have Hncells := Lib.hid hncells
 have h1c := hncells.one
 have hnl5 : news.length = n * 5 := by rw [hnl, hll.out]
 have hnsrc2 : n = 0 ∨ ∃ ad, la = some ad ∧ ∀ j u, news[j]? = some u → w.cell? (ad.add j) = some u := by rw [← hll.out]; exact hnsrc
 have hssrc := strs_src hst
 have hssrc2 : n = 0 ∨ ∃ ad, ka = some ad ∧ ∀ j u, (ks.map Value.string)[j]? = some u → w.cell? (ad.add j) = some u := by rw [← hks.out]; exact hssrc
 have src_ext : ∀ (a : Option Addr) (m : Nat) (xs : List Value) (w' : World), (m = 0 ∨ ∃ ad, a = some ad ∧ ∀ j u, xs[j]? = some u → w.cell? (ad.add j) = some u) → Ext w w' → (m = 0 ∨ ∃ ad, a = some ad ∧ ∀ j u, xs[j]? = some u → w'.cell? (ad.add j) = some u) := by
  rintro a m xs w' (h | ⟨ad, h, h'⟩) e
  ·exact .inl h
  ·exact .inr ⟨ad, h, fun j u hj => e.cell (h' j u hj)⟩
 have cl1 : ∀ w', Ext w w' → Calls Tryz.prog 48 #[.slice ka n kc] w' fun e w'' => ∃ a' c', e = .returned (.slice a' n c') ∧ SlOk a' n c' ∧ w''.ownsRow w'.heap.size 9 1 (.slice a' n c') n (ks.map Value.string) ∧ Ext w' w'' :=
  fun w' e => cloneS_row ka n kc _ w' hok1 hn30 (by rw [List.length_map, hks.out]; omega) (src_ext _ _ _ _ hssrc2 e) (strs_one ks)
 have cl2 : ∀ w', Ext w w' → Calls Tryz.prog 93 #[.slice la n lc] w' fun e w'' => ∃ a' c', e = .returned (.slice a' n c') ∧ SlOk a' n c' ∧ w''.ownsRow w'.heap.size 25 5 (.slice a' n c') n news ∧ Ext w' w'' :=
  fun w' e => cloneV_row la n lc news w' hok2 hn30 hnl5 (src_ext _ _ _ _ hnsrc2 e) h1c
 have H1c := Lib.hid h1c
 have Cl1 := Lib.hid cl1
 have Cl2 := Lib.hid cl2
 have Bs := Lib.hid bs
 have Hnl := Lib.hid hnl5
 clear hrw hst hncells h1c hnl hnsrc hnl5 hnsrc2 hssrc hssrc2 src_ext cl1 cl2 bs hok1 hok2
 go_enter Tryz.func90, Tryz.ntmps90
 go_wp2_with (go_at_call 127; refine (Bs.out _ Xt).mono ?_; rintro e w1 ⟨rfl, h1⟩)
 refine gen_world (R := fun wx => Box wx w.heap.size #[.int .i64 5, .int .i64 nn, .string s, .slice ka n kc, .slice la n lc] 25 ∧ Box wx (w.heap.size + 1) #[.int .i64 y.k, .int .i64 y.n, .string y.s, .slice kb y.keys.length kd, .slice lb y.l.length ld] 25 ∧ Box wx (w.heap.size + 2) #[.int .i64 0, .int .i64 0, .string ⟨#[]⟩, .slice none 0 0, .slice none 0 0] 25 ∧ Ext w wx) ⟨Bxt, Bxt, Bxt, Xt⟩ ?_
 clear h1
 rintro wa ⟨hB0, hB1, hB2, hxa⟩
 have Sof : ∀ w', Ext wa w' → (w'.cell? ⟨w.heap.size, 3, none⟩ = some (.slice ka n kc) ∧ w'.cell? ⟨w.heap.size, 4, none⟩ = some (.slice la n lc)) := fun w' e => ⟨e.cell (hB0.cells 3), e.cell (hB0.cells 4)⟩
 have hba := hB2.lt
 have hc0 := hB0.cells; have hf0 := hB0.free; have hl0 := hB0.lt
 refine wp_region_till (S := fun w' => w'.cell? ⟨w.heap.size, 3, none⟩ = some (.slice ka n kc) ∧ w'.cell? ⟨w.heap.size, 4, none⟩ = some (.slice la n lc)) (c := 7) (by kernel_rfl) ?_
 (refine wpAnyT_take (i := 0) (v := ?_) [7] (Array.getElem?_eq_getElem (by decide)) (by kernel_rfl) (by kernel_rfl) (by kernel_rfl) (by kernel_rfl) rfl rfl (by kernel_rfl) (fun _ _ _ h => h) (Or.inl ⟨by kernel_rfl, ?_⟩) (Sof _ Xt) ?_); rotate_left; (focus (intro w hSw; (try dsimp only at hSw); (try simp only [rl]); go_simp; (try with_reducible rfl))); (try simp only [rl])
 (refine wpAnyT_take (i := 1) (v := ?_) [7] (Array.getElem?_eq_getElem (by decide)) (by kernel_rfl) (by kernel_rfl) (by kernel_rfl) (by kernel_rfl) rfl rfl (by kernel_rfl) (fun _ _ _ h => h) (Or.inl ⟨by kernel_rfl, ?_⟩) (Sof _ Xt) ?_); rotate_left; (focus (intro w hSw; (try dsimp only at hSw); (try simp only [rl]); go_simp; (try with_reducible rfl))); (try simp only [rl])
 (refine wpAnyT_take (i := 3) (v := ?_) [7] (Array.getElem?_eq_getElem (by decide)) (by kernel_rfl) (by kernel_rfl) (by kernel_rfl) (by kernel_rfl) rfl rfl (by kernel_rfl) (fun _ _ _ h => h) (Or.inl ⟨by kernel_rfl, ?_⟩) (Sof _ Xt) ?_); rotate_left; (focus (intro w hSw; (try dsimp only at hSw); (try simp only [rl]); go_simp; (try with_reducible rfl))); (try simp only [rl])
 (refine wpAnyT_take (i := 4) (v := ?_) [7] (Array.getElem?_eq_getElem (by decide)) (by kernel_rfl) (by kernel_rfl) (by kernel_rfl) (by kernel_rfl) rfl rfl (by kernel_rfl) (fun _ _ _ h => h) (Or.inl ⟨by kernel_rfl, ?_⟩) (Sof _ Xt) ?_); rotate_left; (focus (intro w hSw; (try dsimp only at hSw); (try simp only [rl]); go_simp; (try with_reducible rfl))); (try simp only [rl])
 (refine wpAnyT_one (i := 2) (by kernel_rfl) (Array.getElem?_eq_getElem (by decide)) fun K hK => ?_); (try simp only [rl])
 (try go_simp)
 (refine (Cl1.out _ Xt).mono ?_); rintro e w2 ⟨a2, c2, rfl, hok2, hown2, h2⟩
 (try go_simp)
 refine hK.out _ _ (fun _ => Sof _ Xt) ?_; clear hK K; (try simp only [rl])
 (refine wpAnyT_take (i := 6) (v := ?_) [7] (Array.getElem?_eq_getElem (by decide)) (by kernel_rfl) (by kernel_rfl) (by kernel_rfl) (by kernel_rfl) rfl rfl (by kernel_rfl) (fun _ _ _ h => h) (Or.inl ⟨by kernel_rfl, ?_⟩) (Sof _ Xt) ?_); rotate_left; (focus (intro w hSw; (try dsimp only at hSw); (try simp only [rl]); go_simp; (try with_reducible rfl))); (try simp only [rl])
 (refine wpAnyT_one (i := 5) (by kernel_rfl) (Array.getElem?_eq_getElem (by decide)) fun K hK => ?_); (try simp only [rl])
 (try go_simp)
 (refine (Cl2.out _ Xt).mono ?_); rintro e w3 ⟨a3, c3, rfl, hok3, hown3, h3⟩
 (try go_simp)
 refine hK.out _ _ (fun _ => Sof _ Xt) ?_; clear hK K; (try simp only [rl])
 have hB0w : Box w3 w.heap.size #[.int .i64 5, .int .i64 nn, .string s, .slice ka n kc, .slice la n lc] 25 := Box.ext (w := wa) Xt hB0
 have hB1w : Box w3 (w.heap.size + 1) #[.int .i64 y.k, .int .i64 y.n, .string y.s, .slice kb y.keys.length kd, .slice lb y.l.length ld] 25 := Box.ext (w := wa) Xt hB1
 have hB2w : Box w3 (w.heap.size + 2) #[.int .i64 0, .int .i64 0, .string ⟨#[]⟩, .slice none 0 0, .slice none 0 0] 25 := Box.ext (w := wa) Xt hB2
 have hza : wa.heap.size ≤ w2.heap.size := Ext.size (a := wa) Xt
 have hx2 : Ext w w2 := Xt
 have hx3 : Ext w w3 := Xt
 have hz2 := h2.size
 have hz3 := h3.size
 have hstK : StrsIn w3 (fun b => w.heap.size + 3 ≤ b ∧ b < w2.heap.size) a2 ks := by
  obtain ⟨a4, c4, he4, -, -, hst⟩ := OwnS.strs (base := w.heap.size + 3) (ks := ks) ⟨hks.out, ownsRow_base hown2 (by simp; omega)⟩
  simp only [Value.slice.injEq, true_and] at he4
  obtain ⟨rfl, rfl⟩ := he4
  exact hst.keep (h3.kept _) (fun b h hl => ⟨h, hl⟩)
 have Hown2 := Lib.hid (ownsRow_ext (ownsRow_base (b0 := w.heap.size + 3) hown2 (by simp; omega)) h3)
 have Hown3 := Lib.hid (ownsRow_base (b0 := w.heap.size + 3) hown3 (by omega))
 have hapart : ∀ g, (Value.slice a2 n c2).ownBlock = some g → g < w2.heap.size := fun g hg => (hown2.lt g hg).2
 have hapart3 : ∀ g, (Value.slice a3 n c3).ownBlock = some g → w2.heap.size ≤ g ∧ g < w3.heap.size := fun g hg => hown3.lt g hg
 have Hap2 := Lib.hid hapart
 have Hap3 := Lib.hid hapart3
 clear hown2 hown3 hapart hapart3 hc0 hf0 hl0 hB0 hB1 hB2 Sof h2 h3 hxa
 have hc0 := hB0w.cells; have hf0 := hB0w.free; have hl0 := hB0w.lt
 (refine wpAnyT_one (i := 7) (by kernel_rfl) (Array.getElem?_eq_getElem (by decide)) fun K hK => ?_); (try simp only [rl])
 go_simp
 (refine hK.out _ _ (fun h => Bool.noConfusion (show true = false from h)) ?_); clear hK K; (try simp only [rl])
 (refine wpAnyT_one (i := 8) (by kernel_rfl) (Array.getElem?_eq_getElem (by decide)) fun K hK => ?_); (try simp only [rl])
 go_simp
 (refine hK.out _ _ (fun h => Bool.noConfusion (show true = false from h)) ?_); clear hK K; (try simp only [rl])
 (refine wpAnyT_one (i := 9) (by kernel_rfl) (Array.getElem?_eq_getElem (by decide)) fun K hK => ?_); (try simp only [rl])
 go_simp
 (refine hK.out _ _ (fun h => Bool.noConfusion (show true = false from h)) ?_); clear hK K; (try simp only [rl])
 refine wpAnyT_done (by kernel_rfl) ?_ _
 go_upto_region 7 with fail
 refine gen_world (R := fun wx => Box wx w.heap.size #[.int .i64 5, .int .i64 nn, .string s, .slice a2 n c2, .slice a3 n c3] 25 ∧ Box wx (w.heap.size + 1) #[.int .i64 y.k, .int .i64 y.n, .string y.s, .slice kb y.keys.length kd, .slice lb y.l.length ld] 25 ∧ Box wx (w.heap.size + 2) #[.int .i64 0, .int .i64 0, .string ⟨#[]⟩, .slice none 0 0, .slice none 0 0] 25 ∧ Held (fun b => b ≠ w.heap.size) w3 wx ∧ Ext w wx) ⟨Bxt, Bxt, Bxt, Hxt, Xt⟩ ?_
 clear hB0w hB1w hB2w hc0 hf0 hl0 hstK
 rintro wb ⟨hB0, hB1, hB2, hheld, hxb⟩
 have Ho2 := Lib.hid (ownsRow_keep Hown2.out (fun b hb hg => hheld.block b (by have := (Hown2.out.lt b hg).1; simp; omega) hb))
 have Ho3 := Lib.hid (ownsRow_keep Hown3.out (fun b hb hg => hheld.block b (by have := (Hown3.out.lt b hg).1; simp; omega) hb))
 have Hl2 : Hid (∀ g, (Value.slice a2 n c2).ownBlock = some g → w.heap.size + 3 ≤ g ∧ g < wb.heap.size) := Ho2.out.lt
 have Hl3 : Hid (∀ g, (Value.slice a3 n c3).ownBlock = some g → w.heap.size + 3 ≤ g ∧ g < wb.heap.size) := Ho3.out.lt
 have Hne : Hid (∀ g, (Value.slice a2 n c2).ownBlock = some g → (Value.slice a3 n c3).ownBlock ≠ some g) := fun g h h' => by have h1 := Hap2.out g h; have h2 := (Hap3.out g h').1; omega
 obtain ⟨T, hT⟩ : ∃ T : Nat → Prop, T = fun b => (Value.slice a2 n c2).ownBlock ≠ some b ∧ (Value.slice a3 n c3).ownBlock ≠ some b := ⟨_, rfl⟩
 have HTK : Hid (∀ k, (Value.slice a2 n c2).ownBlock = some k → ¬ T k) := by rw [hT]; exact fun k h h' => h'.1 h
 have HTL : Hid (∀ k, (Value.slice a3 n c3).ownBlock = some k → ¬ T k) := by rw [hT]; exact fun k h h' => h'.2 h
 have hT0 : Hid (∀ b, b < w.heap.size + 3 → T b) := by rw [hT]; exact fun b hb => ⟨fun h => by have := (Hl2.out b h).1; omega, fun h => by have := (Hl3.out b h).1; omega⟩
 clear hT Hown2 Hown3 Hap2 Hap3 Cl1 Cl2 Bs
 have Sof : ∀ w', Held T wb w' → (w'.cell? ⟨w.heap.size, 3, none⟩ = some (.slice a2 n c2) ∧ w'.cell? ⟨w.heap.size, 4, none⟩ = some (.slice a3 n c3) ∧ w'.cell? ⟨w.heap.size + 1, 0, none⟩ = some (.int .i64 y.k) ∧ w'.cell? ⟨w.heap.size + 1, 1, none⟩ = some (.int .i64 y.n) ∧ w'.cell? ⟨w.heap.size + 1, 2, none⟩ = some (.string y.s) ∧ w'.cell? ⟨w.heap.size + 1, 3, none⟩ = some (.slice kb y.keys.length kd) ∧ w'.cell? ⟨w.heap.size + 1, 4, none⟩ = some (.slice lb y.l.length ld)) :=
  fun w' e => ⟨e.kept.cell (hT0.out _ (by simp)) (hB0.cells 3), e.kept.cell (hT0.out _ (by simp)) (hB0.cells 4), e.kept.cell (hT0.out _ (by simp)) (hB1.cells 0), e.kept.cell (hT0.out _ (by simp)) (hB1.cells 1), e.kept.cell (hT0.out _ (by simp)) (hB1.cells 2), e.kept.cell (hT0.out _ (by simp)) (hB1.cells 3), e.kept.cell (hT0.out _ (by simp)) (hB1.cells 4)⟩
 have hbl := hB2.lt
 refine wp_region_till (S := fun w' => w'.cell? ⟨w.heap.size, 3, none⟩ = some (.slice a2 n c2) ∧ w'.cell? ⟨w.heap.size, 4, none⟩ = some (.slice a3 n c3) ∧ w'.cell? ⟨w.heap.size + 1, 0, none⟩ = some (.int .i64 y.k) ∧ w'.cell? ⟨w.heap.size + 1, 1, none⟩ = some (.int .i64 y.n) ∧ w'.cell? ⟨w.heap.size + 1, 2, none⟩ = some (.string y.s) ∧ w'.cell? ⟨w.heap.size + 1, 3, none⟩ = some (.slice kb y.keys.length kd) ∧ w'.cell? ⟨w.heap.size + 1, 4, none⟩ = some (.slice lb y.l.length ld)) (c := 13) (by kernel_rfl) ?_
 (refine wpAnyT_take (i := 0) (v := ?_) [13] (Array.getElem?_eq_getElem (by decide)) (by kernel_rfl) (by kernel_rfl) (by kernel_rfl) (by kernel_rfl) rfl rfl (by kernel_rfl) (fun _ _ _ h => h) (Or.inl ⟨by kernel_rfl, ?_⟩) (Sof _ Hxt) ?_); rotate_left; (focus (intro w hSw; (try dsimp only at hSw); (try simp only [rl]); go_simp; (try with_reducible rfl))); (try simp only [rl])
 (refine wpAnyT_take (i := 1) (v := ?_) [13] (Array.getElem?_eq_getElem (by decide)) (by kernel_rfl) (by kernel_rfl) (by kernel_rfl) (by kernel_rfl) rfl rfl (by kernel_rfl) (fun _ _ _ h => h) (Or.inl ⟨by kernel_rfl, ?_⟩) (Sof _ Hxt) ?_); rotate_left; (focus (intro w hSw; (try dsimp only at hSw); (try simp only [rl]); go_simp; (try with_reducible rfl))); (try simp only [rl])
 (refine wpAnyT_take (i := 2) (v := ?_) [13] (Array.getElem?_eq_getElem (by decide)) (by kernel_rfl) (by kernel_rfl) (by kernel_rfl) (by kernel_rfl) rfl rfl (by kernel_rfl) (fun _ _ _ h => h) (Or.inl ⟨by kernel_rfl, ?_⟩) (Sof _ Hxt) ?_); rotate_left; (focus (intro w hSw; (try dsimp only at hSw); (try simp only [rl]); go_simp; (try with_reducible rfl))); (try simp only [rl])
 (refine wpAnyT_take (i := 3) (v := ?_) [13] (Array.getElem?_eq_getElem (by decide)) (by kernel_rfl) (by kernel_rfl) (by kernel_rfl) (by kernel_rfl) rfl rfl (by kernel_rfl) (fun _ _ _ h => h) (Or.inl ⟨by kernel_rfl, ?_⟩) (Sof _ Hxt) ?_); rotate_left; (focus (intro w hSw; (try dsimp only at hSw); (try simp only [rl]); go_simp; (try with_reducible rfl))); (try simp only [rl])
 (refine wpAnyT_take (i := 6) (v := ?_) [13] (Array.getElem?_eq_getElem (by decide)) (by kernel_rfl) (by kernel_rfl) (by kernel_rfl) (by kernel_rfl) rfl rfl (by kernel_rfl) (fun _ _ _ h => h) (Or.inl ⟨by kernel_rfl, ?_⟩) (Sof _ Hxt) ?_); rotate_left; (focus (intro w hSw; (try dsimp only at hSw); (try simp only [rl]); go_simp; (try with_reducible rfl))); (try simp only [rl])
 (refine wpAnyT_take (i := 7) (v := ?_) [13] (Array.getElem?_eq_getElem (by decide)) (by kernel_rfl) (by kernel_rfl) (by kernel_rfl) (by kernel_rfl) rfl rfl (by kernel_rfl) (fun _ _ _ h => h) (Or.inl ⟨by kernel_rfl, ?_⟩) (Sof _ Hxt) ?_); rotate_left; (focus (intro w hSw; (try dsimp only at hSw); (try simp only [rl]); go_simp; (try with_reducible rfl))); (try simp only [rl])
 (refine wpAnyT_take (i := 8) (v := ?_) [11, 13] (Array.getElem?_eq_getElem (by decide)) (by kernel_rfl) (by kernel_rfl) (by kernel_rfl) (by kernel_rfl) rfl rfl (by kernel_rfl) (fun _ _ _ h => h) (Or.inl ⟨by kernel_rfl, ?_⟩) (Sof _ Hxt) ?_); rotate_left; (focus (intro w hSw; (try dsimp only at hSw); (try simp only [rl]); go_simp; (try with_reducible rfl))); (try simp only [rl])
 (refine wpAnyT_take (i := 9) (v := ?_) [10, 11, 13] (Array.getElem?_eq_getElem (by decide)) (by kernel_rfl) (by kernel_rfl) (by kernel_rfl) (by kernel_rfl) rfl rfl (by kernel_rfl) (fun _ _ _ h => h) (Or.inl ⟨by kernel_rfl, ?_⟩) (Sof _ Hxt) ?_); rotate_left; (focus (intro w hSw; (try dsimp only at hSw); (try simp only [rl]); go_simp; (try with_reducible rfl))); (try simp only [rl])
 refine wpAnyT_ready (rs := [4, 10]) (by kernel_rfl) (by simp) ?_
 refine AllReadyT.cons (Array.getElem?_eq_getElem (by decide)) (fun K hK => ?_) (AllReadyT.cons (Array.getElem?_eq_getElem (by decide)) (fun K hK => ?_) AllReadyT.nil)
 ·(try simp only [rl])
  go_simp; refine hK.out _ _ (fun _ => Sof _ Hxt) ?_; clear hK K; (try simp only [rl])
  refine wpAnyT_ready (rs := [5, 10]) (by kernel_rfl) (by simp) ?_
  refine AllReadyT.cons (Array.getElem?_eq_getElem (by decide)) (fun K hK => ?_) (AllReadyT.cons (Array.getElem?_eq_getElem (by decide)) (fun K hK => ?_) AllReadyT.nil)
  ·(try simp only [rl])
   (try go_simp)
   (refine (insS_any (w.heap.size + 3) n p _ _ (.slice a2 n c2) (ks.map Value.string) [.string key] _ 9 ?_ ?_ hn30 hp ?_ ?_ rfl (strs_one ks) (by simp [Value.oneCell'])).mono ?_)
   (focus (simp; omega))
   (focus (exact ownsRow_ext Ho2.out Xt))
   (focus (exact Bxt))
   (focus (intro h; have h' := (Hl2.out _ h).2; (first | omega | (simp at h'; omega) | (simp at h'; done))))
   rintro e w5 ⟨g5, cap5, rfl, hown5, hgrow5, hat5⟩
   have hh5 : Held T wb w5 := Held.grown Hxt hgrow5 HTK.out
   have hx5 : Ext w w5 := Ext.grown Xt hgrow5 (fun g hg => by have := (Hl2.out g hg).1; omega)
   have Ho35 := Lib.hid (ownsRow_keep Ho3.out (fun b hb hg => Held.block (T := fun c => (Value.slice a2 n c2).ownBlock ≠ some c) (Held.grown Hxt hgrow5 (fun k hk h => h hk)) b (fun h => Hne.out b h hg) hb))
   have hg5 : (Value.slice a3 n c3).ownBlock ≠ some g5 := fun h => by
    rcases hat5 with h' | h'
    ·exact Hne.out _ h' h
    ·have h2 := (Hl3.out _ h).2; simp at h'; omega
   have hz5 : wb.heap.size ≤ w5.heap.size := hh5.size
   have Hst5 : Hid (StrsIn w5 (fun b => w.heap.size + 3 ≤ b ∧ (Value.slice a3 n c3).ownBlock ≠ some b) (some ⟨g5, 0, none⟩) (ks.take p ++ key :: ks.drop p)) := by
    obtain ⟨a4, c4, he4, -, -, hst⟩ := OwnS.strs (base := w.heap.size + 3) (n := n + 1) (v := .slice (some ⟨g5, 0, none⟩) (n + 1) cap5) (ks := ks.take p ++ key :: ks.drop p) ⟨by simp [hks.out]; omega, by simpa [List.map_take, List.map_drop] using hown5⟩
    simp only [Value.slice.injEq, true_and] at he4
    obtain ⟨rfl, rfl⟩ := he4
    rcases hst with h | ⟨b, o, he, h1, h2⟩
    ·exact .inl h
    ·simp only [Option.some.injEq, Addr.mk.injEq, and_true] at he
     obtain ⟨rfl, rfl⟩ := he
     exact .inr ⟨_, _, rfl, ⟨h1, hg5⟩, h2⟩
   have hok5 : SlOk (some (⟨g5, 0, none⟩ : Addr)) (n + 1) cap5 := by
    obtain ⟨a4, c4, he4, h⟩ := owns_form hown5
    simp only [Value.slice.injEq, true_and] at he4
    obtain ⟨rfl, rfl⟩ := he4
    exact h
   clear hown5 hat5 hg5
   (try go_simp)
   refine hK.out _ _ (fun _ => Sof _ Hxt) ?_; clear hK K; (try simp only [rl])
   (refine wpAnyT_take (i := 12) (v := ?_) [13] (Array.getElem?_eq_getElem (by decide)) (by kernel_rfl) (by kernel_rfl) (by kernel_rfl) (by kernel_rfl) rfl rfl (by kernel_rfl) (fun _ _ _ h => h) (Or.inl ⟨by kernel_rfl, ?_⟩) (Sof _ Hxt) ?_); rotate_left; (focus (intro w hSw; (try dsimp only at hSw); (try simp only [rl]); go_simp; (try with_reducible rfl))); (try simp only [rl])
   (refine wpAnyT_one (i := 10) (by kernel_rfl) (Array.getElem?_eq_getElem (by decide)) fun K hK => ?_); (try simp only [rl])
   go_simp; refine hK.out _ _ (fun _ => Sof _ Hxt) ?_; clear hK K; (try simp only [rl])
   (refine wpAnyT_one (i := 11) (by kernel_rfl) (Array.getElem?_eq_getElem (by decide)) fun K hK => ?_); (try simp only [rl])
   (try go_simp)
   (refine (insV_any (w.heap.size + 3) n p _ _ (.slice a3 n c3) news (y.five kb kd lb ld) _ 25 ?_ ?_ hn30 hp ?_ ?_ rfl H1c.out (y.five_one kb kd lb ld)).mono ?_)
   (focus (first | (simp; omega) | omega))
   (focus (exact ownsRow_ext Ho35.out Xt))
   (focus (exact Bxt))
   (focus (intro h; have h' := (Hl3.out _ h).2; (first | omega | (simp at h'; omega) | (simp at h'; done))))
   rintro e w6 ⟨g6, cap6, rfl, hown6, hgrow6, hat6⟩
   have hh6 : Held T wb w6 := Held.grown Hxt hgrow6 HTL.out
   (try go_simp)
   refine hK.out _ _ (fun _ => Sof _ hh6) ?_
   clear hK K
   (try simp only [rl])
   have hx6 : Ext w w6 := Ext.grown Xt hgrow6 (fun g hg => by have := (Hl3.out g hg).1; omega)
   have hst6 : StrsIn w6 (fun b => w.heap.size + 3 ≤ b) (some ⟨g5, 0, none⟩) (ks.take p ++ key :: ks.drop p) := Hst5.out.keep (Held.kept (T := fun b => w.heap.size + 3 ≤ b ∧ (Value.slice a3 n c3).ownBlock ≠ some b) (Held.grown Hxt hgrow6 (fun k hk h => h.2 hk))) (fun b h _ => h.1)
   have hcc := (Hncells.out.keep (hx6.kept _) (fun b h _ => h)).ins p (hjn.ext hx6)
   obtain ⟨g7, cur, he7, hgb, hBg, hcz, hits⟩ := own_items (Nat.succ_pos n) (by simp [hll.out]; omega) hown6 hcc
   have hok6 : SlOk (some (⟨g6, 0, none⟩ : Addr)) (n + 1) cap6 := by
    obtain ⟨a4, c4, he4, h⟩ := owns_form hown6
    simp only [Value.slice.injEq, true_and] at he4
    obtain ⟨rfl, rfl⟩ := he4
    exact h
   simp only [Option.some.injEq, Addr.mk.injEq, and_true] at he7
   obtain rfl := he7
   have hB0 := Box.held hh6 hB0 (hT0.out _ (by omega))
   have hB2 := Box.held hh6 hB2 (hT0.out _ (by omega))
   have Hits := Lib.hid hits
   clear hown6 hgrow6 hat6 hcc hits hBg Sof hB1 hgrow5 hh5 hx5 hheld hxb Hst5
   have hc0 := hB0.cells; have hf0 := hB0.free; have hl0 := hB0.lt
   (refine wpAnyT_one (i := 13) (by kernel_rfl) (Array.getElem?_eq_getElem (by decide)) fun K hK => ?_); (try simp only [rl])
   go_simp
   (refine hK.out _ _ (fun h => Bool.noConfusion (show true = false from h)) ?_); clear hK K; (try simp only [rl])
   (refine wpAnyT_one (i := 14) (by kernel_rfl) (Array.getElem?_eq_getElem (by decide)) fun K hK => ?_); (try simp only [rl])
   go_simp
   (refine hK.out _ _ (fun h => Bool.noConfusion (show true = false from h)) ?_); clear hK K; (try simp only [rl])
   (refine wpAnyT_one (i := 15) (by kernel_rfl) (Array.getElem?_eq_getElem (by decide)) fun K hK => ?_); (try simp only [rl])
   go_simp
   (refine hK.out _ _ (fun h => Bool.noConfusion (show true = false from h)) ?_); clear hK K; (try simp only [rl])
   refine wpAnyT_done (by kernel_rfl) ?_ _
   go_upto_region 8 with fail
   refine gen_world (R := fun wy => Box wy w.heap.size #[.int .i64 5, .int .i64 nn, .string s, .slice (some ⟨g5, 0, none⟩) (n + 1) cap5, .slice (some ⟨g6, 0, none⟩) (n + 1) cap6] 25 ∧ Box wy (w.heap.size + 2) #[.int .i64 0, .int .i64 0, .string ⟨#[]⟩, .slice none 0 0, .slice none 0 0] 25 ∧ Held (fun b => b ≠ w.heap.size) w6 wy ∧ Ext w wy) ⟨Bxt, Bxt, Hxt, Xt⟩ ?_
   clear hB0 hB2 hc0 hf0 hl0
   rintro wy ⟨hB0, hB2, hhy, hxy⟩
   have hc0 := hB0.cells; have hf0 := hB0.free; have hl0 := hB0.lt
   have hc2 := hB2.cells; have hf2 := hB2.free; have hl2 := hB2.lt
   go_wp2_with fail
   (with_reducible apply bp_ret); (focus (go_light; simp [results, Tryz.results90, go_sem, *]; rfl))
   refine ⟨some ⟨g5, 0, none⟩, cap5, some ⟨g6, 0, none⟩, cap6, ?_, (V.in_iff ..).2 ⟨?_, ?_, ?_, .inr ⟨g6, 0, rfl, .inr (by omega), fun i hi => ?_⟩⟩, Xt⟩
   ·have e1 : (ks.take p ++ key :: ks.drop p).length = n + 1 := by simp [hks.out]; omega
    have e2 : (l.take p ++ y :: l.drop p).length = n + 1 := by simp [hll.out]; omega
    simp only [V.val, V.keys_mk, V.l_mk, V.k_mk, V.n_mk, V.s_mk, e1, e2]
   ·have e1 : (ks.take p ++ key :: ks.drop p).length = n + 1 := by simp [hks.out]; omega
    rw [V.keys_mk, e1]; exact hok5
   ·have e2 : (l.take p ++ y :: l.drop p).length = n + 1 := by simp [hll.out]; omega
    rw [V.l_mk, e2]; exact hok6
   ·have h1 : Held (fun b => w.heap.size + 3 ≤ b) w6 wy := hhy.mono (fun b h => by simp; omega)
    exact hst6.keep (Held.kept (a := w6) (T := fun b => w.heap.size + 3 ≤ b) Hxt) (fun b h _ => .inr (by omega))
   ·rw [Nat.zero_add]
    have h1 : Held (fun b => b ≠ w.heap.size ∧ b ≠ w.heap.size + 2) w6 wy := hhy.mono (fun b h => h.1)
    exact ((Hits.out i hi).keep' (T := fun b => b ≠ w.heap.size ∧ b ≠ w.heap.size + 2) (by simp; omega) (Held.kept (a := w6) Hxt) (fun b h => by simp; omega)).mono (fun b h => .inl h.1)
  ·(try simp only [rl])
   go_simp; refine hK.out _ _ (fun _ => Sof _ Hxt) ?_; clear hK K; (try simp only [rl])
   (refine wpAnyT_one (i := 5) (by kernel_rfl) (Array.getElem?_eq_getElem (by decide)) fun K hK => ?_); (try simp only [rl])
   (try go_simp)
   (refine (insS_any (w.heap.size + 3) n p _ _ (.slice a2 n c2) (ks.map Value.string) [.string key] _ 9 ?_ ?_ hn30 hp ?_ ?_ rfl (strs_one ks) (by simp [Value.oneCell'])).mono ?_)
   (focus (simp; omega))
   (focus (exact ownsRow_ext Ho2.out Xt))
   (focus (exact Bxt))
   (focus (intro h; have h' := (Hl2.out _ h).2; (first | omega | (simp at h'; omega) | (simp at h'; done))))
   rintro e w5 ⟨g5, cap5, rfl, hown5, hgrow5, hat5⟩
   have hh5 : Held T wb w5 := Held.grown Hxt hgrow5 HTK.out
   have hx5 : Ext w w5 := Ext.grown Xt hgrow5 (fun g hg => by have := (Hl2.out g hg).1; omega)
   have Ho35 := Lib.hid (ownsRow_keep Ho3.out (fun b hb hg => Held.block (T := fun c => (Value.slice a2 n c2).ownBlock ≠ some c) (Held.grown Hxt hgrow5 (fun k hk h => h hk)) b (fun h => Hne.out b h hg) hb))
   have hg5 : (Value.slice a3 n c3).ownBlock ≠ some g5 := fun h => by
    rcases hat5 with h' | h'
    ·exact Hne.out _ h' h
    ·have h2 := (Hl3.out _ h).2; simp at h'; omega
   have hz5 : wb.heap.size ≤ w5.heap.size := hh5.size
   have Hst5 : Hid (StrsIn w5 (fun b => w.heap.size + 3 ≤ b ∧ (Value.slice a3 n c3).ownBlock ≠ some b) (some ⟨g5, 0, none⟩) (ks.take p ++ key :: ks.drop p)) := by
    obtain ⟨a4, c4, he4, -, -, hst⟩ := OwnS.strs (base := w.heap.size + 3) (n := n + 1) (v := .slice (some ⟨g5, 0, none⟩) (n + 1) cap5) (ks := ks.take p ++ key :: ks.drop p) ⟨by simp [hks.out]; omega, by simpa [List.map_take, List.map_drop] using hown5⟩
    simp only [Value.slice.injEq, true_and] at he4
    obtain ⟨rfl, rfl⟩ := he4
    rcases hst with h | ⟨b, o, he, h1, h2⟩
    ·exact .inl h
    ·simp only [Option.some.injEq, Addr.mk.injEq, and_true] at he
     obtain ⟨rfl, rfl⟩ := he
     exact .inr ⟨_, _, rfl, ⟨h1, hg5⟩, h2⟩
   have hok5 : SlOk (some (⟨g5, 0, none⟩ : Addr)) (n + 1) cap5 := by
    obtain ⟨a4, c4, he4, h⟩ := owns_form hown5
    simp only [Value.slice.injEq, true_and] at he4
    obtain ⟨rfl, rfl⟩ := he4
    exact h
   have hX5 : Box w5 (wb.heap.size + 1) (y.five kb kd lb ld).toArray 25 := Box.grown (w' := w5) Bxt hgrow5 (fun e => by have h' := (Hl2.out _ e.symm).2; omega)
   clear hown5 hat5 hg5
   (try go_simp)
   refine hK.out _ _ (fun _ => Sof _ Hxt) ?_; clear hK K; (try simp only [rl])
   (refine wpAnyT_take (i := 12) (v := ?_) [13] (Array.getElem?_eq_getElem (by decide)) (by kernel_rfl) (by kernel_rfl) (by kernel_rfl) (by kernel_rfl) rfl rfl (by kernel_rfl) (fun _ _ _ h => h) (Or.inl ⟨by kernel_rfl, ?_⟩) (Sof _ Hxt) ?_); rotate_left; (focus (intro w hSw; (try dsimp only at hSw); (try simp only [rl]); go_simp; (try with_reducible rfl))); (try simp only [rl])
   (refine wpAnyT_one (i := 11) (by kernel_rfl) (Array.getElem?_eq_getElem (by decide)) fun K hK => ?_); (try simp only [rl])
   (try go_simp)
   (refine (insV_any (w.heap.size + 3) n p _ _ (.slice a3 n c3) news (y.five kb kd lb ld) _ 25 ?_ ?_ hn30 hp ?_ ?_ rfl H1c.out (y.five_one kb kd lb ld)).mono ?_)
   (focus (first | (simp; omega) | omega))
   (focus (exact ownsRow_ext Ho35.out Xt))
   (focus (exact Bxt))
   (focus (intro h; have h' := (Hl3.out _ h).2; (first | omega | (simp at h'; omega) | (simp at h'; done))))
   rintro e w6 ⟨g6, cap6, rfl, hown6, hgrow6, hat6⟩
   have hh6 : Held T wb w6 := Held.grown Hxt hgrow6 HTL.out
   (try go_simp)
   refine hK.out _ _ (fun _ => Sof _ hh6) ?_
   clear hK K
   (try simp only [rl])
   have hx6 : Ext w w6 := Ext.grown Xt hgrow6 (fun g hg => by have := (Hl3.out g hg).1; omega)
   have hst6 : StrsIn w6 (fun b => w.heap.size + 3 ≤ b) (some ⟨g5, 0, none⟩) (ks.take p ++ key :: ks.drop p) := Hst5.out.keep (Held.kept (T := fun b => w.heap.size + 3 ≤ b ∧ (Value.slice a3 n c3).ownBlock ≠ some b) (Held.grown Hxt hgrow6 (fun k hk h => h.2 hk))) (fun b h _ => h.1)
   have hcc := (Hncells.out.keep (hx6.kept _) (fun b h _ => h)).ins p (hjn.ext hx6)
   obtain ⟨g7, cur, he7, hgb, hBg, hcz, hits⟩ := own_items (Nat.succ_pos n) (by simp [hll.out]; omega) hown6 hcc
   have hok6 : SlOk (some (⟨g6, 0, none⟩ : Addr)) (n + 1) cap6 := by
    obtain ⟨a4, c4, he4, h⟩ := owns_form hown6
    simp only [Value.slice.injEq, true_and] at he4
    obtain ⟨rfl, rfl⟩ := he4
    exact h
   simp only [Option.some.injEq, Addr.mk.injEq, and_true] at he7
   obtain rfl := he7
   have hB0 := Box.held hh6 hB0 (hT0.out _ (by omega))
   have hB2 := Box.held hh6 hB2 (hT0.out _ (by omega))
   have Hits := Lib.hid hits
   clear hown6 hgrow6 hat6 hcc hits hBg Sof hB1 hgrow5 hh5 hx5 hheld hxb Hst5
   have hc0 := hB0.cells; have hf0 := hB0.free; have hl0 := hB0.lt
   (refine wpAnyT_one (i := 13) (by kernel_rfl) (Array.getElem?_eq_getElem (by decide)) fun K hK => ?_); (try simp only [rl])
   go_simp
   (refine hK.out _ _ (fun h => Bool.noConfusion (show true = false from h)) ?_); clear hK K; (try simp only [rl])
   (refine wpAnyT_one (i := 14) (by kernel_rfl) (Array.getElem?_eq_getElem (by decide)) fun K hK => ?_); (try simp only [rl])
   go_simp
   (refine hK.out _ _ (fun h => Bool.noConfusion (show true = false from h)) ?_); clear hK K; (try simp only [rl])
   (refine wpAnyT_one (i := 15) (by kernel_rfl) (Array.getElem?_eq_getElem (by decide)) fun K hK => ?_); (try simp only [rl])
   go_simp
   (refine hK.out _ _ (fun h => Bool.noConfusion (show true = false from h)) ?_); clear hK K; (try simp only [rl])
   refine wpAnyT_done (by kernel_rfl) ?_ _
   go_upto_region 8 with fail
   refine gen_world (R := fun wy => Box wy w.heap.size #[.int .i64 5, .int .i64 nn, .string s, .slice (some ⟨g5, 0, none⟩) (n + 1) cap5, .slice (some ⟨g6, 0, none⟩) (n + 1) cap6] 25 ∧ Box wy (w.heap.size + 2) #[.int .i64 0, .int .i64 0, .string ⟨#[]⟩, .slice none 0 0, .slice none 0 0] 25 ∧ Held (fun b => b ≠ w.heap.size) w6 wy ∧ Ext w wy) ⟨Bxt, Bxt, Hxt, Xt⟩ ?_
   clear hB0 hB2 hc0 hf0 hl0
   rintro wy ⟨hB0, hB2, hhy, hxy⟩
   have hc0 := hB0.cells; have hf0 := hB0.free; have hl0 := hB0.lt
   have hc2 := hB2.cells; have hf2 := hB2.free; have hl2 := hB2.lt
   go_wp2_with fail
   (with_reducible apply bp_ret); (focus (go_light; simp [results, Tryz.results90, go_sem, *]; rfl))
   refine ⟨some ⟨g5, 0, none⟩, cap5, some ⟨g6, 0, none⟩, cap6, ?_, (V.in_iff ..).2 ⟨?_, ?_, ?_, .inr ⟨g6, 0, rfl, .inr (by omega), fun i hi => ?_⟩⟩, Xt⟩
   ·have e1 : (ks.take p ++ key :: ks.drop p).length = n + 1 := by simp [hks.out]; omega
    have e2 : (l.take p ++ y :: l.drop p).length = n + 1 := by simp [hll.out]; omega
    simp only [V.val, V.keys_mk, V.l_mk, V.k_mk, V.n_mk, V.s_mk, e1, e2]
   ·have e1 : (ks.take p ++ key :: ks.drop p).length = n + 1 := by simp [hks.out]; omega
    rw [V.keys_mk, e1]; exact hok5
   ·have e2 : (l.take p ++ y :: l.drop p).length = n + 1 := by simp [hll.out]; omega
    rw [V.l_mk, e2]; exact hok6
   ·have h1 : Held (fun b => w.heap.size + 3 ≤ b) w6 wy := hhy.mono (fun b h => by simp; omega)
    exact hst6.keep (Held.kept (a := w6) (T := fun b => w.heap.size + 3 ≤ b) Hxt) (fun b h _ => .inr (by omega))
   ·rw [Nat.zero_add]
    have h1 : Held (fun b => b ≠ w.heap.size ∧ b ≠ w.heap.size + 2) w6 wy := hhy.mono (fun b h => h.1)
    exact ((Hits.out i hi).keep' (T := fun b => b ≠ w.heap.size ∧ b ≠ w.heap.size + 2) (by simp; omega) (Held.kept (a := w6) Hxt) (fun b h => by simp; omega)).mono (fun b h => .inl h.1)
 ·(try simp only [rl])
  go_simp; refine hK.out _ _ (fun _ => Sof _ Hxt) ?_; clear hK K; (try simp only [rl])
  (refine wpAnyT_one (i := 4) (by kernel_rfl) (Array.getElem?_eq_getElem (by decide)) fun K hK => ?_); (try simp only [rl])
  go_simp; refine hK.out _ _ (fun _ => Sof _ Hxt) ?_; clear hK K; (try simp only [rl])
  (refine wpAnyT_one (i := 5) (by kernel_rfl) (Array.getElem?_eq_getElem (by decide)) fun K hK => ?_); (try simp only [rl])
  (try go_simp)
  (refine (insS_any (w.heap.size + 3) n p _ _ (.slice a2 n c2) (ks.map Value.string) [.string key] _ 9 ?_ ?_ hn30 hp ?_ ?_ rfl (strs_one ks) (by simp [Value.oneCell'])).mono ?_)
  (focus (simp; omega))
  (focus (exact ownsRow_ext Ho2.out Xt))
  (focus (exact Bxt))
  (focus (intro h; have h' := (Hl2.out _ h).2; (first | omega | (simp at h'; omega) | (simp at h'; done))))
  rintro e w5 ⟨g5, cap5, rfl, hown5, hgrow5, hat5⟩
  have hh5 : Held T wb w5 := Held.grown Hxt hgrow5 HTK.out
  have hx5 : Ext w w5 := Ext.grown Xt hgrow5 (fun g hg => by have := (Hl2.out g hg).1; omega)
  have Ho35 := Lib.hid (ownsRow_keep Ho3.out (fun b hb hg => Held.block (T := fun c => (Value.slice a2 n c2).ownBlock ≠ some c) (Held.grown Hxt hgrow5 (fun k hk h => h hk)) b (fun h => Hne.out b h hg) hb))
  have hg5 : (Value.slice a3 n c3).ownBlock ≠ some g5 := fun h => by
   rcases hat5 with h' | h'
   ·exact Hne.out _ h' h
   ·have h2 := (Hl3.out _ h).2; simp at h'; omega
  have hz5 : wb.heap.size ≤ w5.heap.size := hh5.size
  have Hst5 : Hid (StrsIn w5 (fun b => w.heap.size + 3 ≤ b ∧ (Value.slice a3 n c3).ownBlock ≠ some b) (some ⟨g5, 0, none⟩) (ks.take p ++ key :: ks.drop p)) := by
   obtain ⟨a4, c4, he4, -, -, hst⟩ := OwnS.strs (base := w.heap.size + 3) (n := n + 1) (v := .slice (some ⟨g5, 0, none⟩) (n + 1) cap5) (ks := ks.take p ++ key :: ks.drop p) ⟨by simp [hks.out]; omega, by simpa [List.map_take, List.map_drop] using hown5⟩
   simp only [Value.slice.injEq, true_and] at he4
   obtain ⟨rfl, rfl⟩ := he4
   rcases hst with h | ⟨b, o, he, h1, h2⟩
   ·exact .inl h
   ·simp only [Option.some.injEq, Addr.mk.injEq, and_true] at he
    obtain ⟨rfl, rfl⟩ := he
    exact .inr ⟨_, _, rfl, ⟨h1, hg5⟩, h2⟩
  have hok5 : SlOk (some (⟨g5, 0, none⟩ : Addr)) (n + 1) cap5 := by
   obtain ⟨a4, c4, he4, h⟩ := owns_form hown5
   simp only [Value.slice.injEq, true_and] at he4
   obtain ⟨rfl, rfl⟩ := he4
   exact h
  have hX5 : Box w5 (wb.heap.size) (y.five kb kd lb ld).toArray 25 := Box.grown (w' := w5) Bxt hgrow5 (fun e => by have h' := (Hl2.out _ e.symm).2; omega)
  clear hown5 hat5 hg5
  (try go_simp)
  refine hK.out _ _ (fun _ => Sof _ Hxt) ?_; clear hK K; (try simp only [rl])
  (refine wpAnyT_take (i := 12) (v := ?_) [13] (Array.getElem?_eq_getElem (by decide)) (by kernel_rfl) (by kernel_rfl) (by kernel_rfl) (by kernel_rfl) rfl rfl (by kernel_rfl) (fun _ _ _ h => h) (Or.inl ⟨by kernel_rfl, ?_⟩) (Sof _ Hxt) ?_); rotate_left; (focus (intro w hSw; (try dsimp only at hSw); (try simp only [rl]); go_simp; (try with_reducible rfl))); (try simp only [rl])
  (refine wpAnyT_one (i := 11) (by kernel_rfl) (Array.getElem?_eq_getElem (by decide)) fun K hK => ?_); (try simp only [rl])
  (try go_simp)
  (refine (insV_any (w.heap.size + 3) n p _ _ (.slice a3 n c3) news (y.five kb kd lb ld) _ 25 ?_ ?_ hn30 hp ?_ ?_ rfl H1c.out (y.five_one kb kd lb ld)).mono ?_)
  (focus (first | (simp; omega) | omega))
  (focus (exact ownsRow_ext Ho35.out Xt))
  (focus (exact Bxt))
  (focus (intro h; have h' := (Hl3.out _ h).2; (first | omega | (simp at h'; omega) | (simp at h'; done))))
  rintro e w6 ⟨g6, cap6, rfl, hown6, hgrow6, hat6⟩
  have hh6 : Held T wb w6 := Held.grown Hxt hgrow6 HTL.out
  (try go_simp)
  refine hK.out _ _ (fun _ => Sof _ hh6) ?_
  clear hK K
  (try simp only [rl])
  have hx6 : Ext w w6 := Ext.grown Xt hgrow6 (fun g hg => by have := (Hl3.out g hg).1; omega)
  have hst6 : StrsIn w6 (fun b => w.heap.size + 3 ≤ b) (some ⟨g5, 0, none⟩) (ks.take p ++ key :: ks.drop p) := Hst5.out.keep (Held.kept (T := fun b => w.heap.size + 3 ≤ b ∧ (Value.slice a3 n c3).ownBlock ≠ some b) (Held.grown Hxt hgrow6 (fun k hk h => h.2 hk))) (fun b h _ => h.1)
  have hcc := (Hncells.out.keep (hx6.kept _) (fun b h _ => h)).ins p (hjn.ext hx6)
  obtain ⟨g7, cur, he7, hgb, hBg, hcz, hits⟩ := own_items (Nat.succ_pos n) (by simp [hll.out]; omega) hown6 hcc
  have hok6 : SlOk (some (⟨g6, 0, none⟩ : Addr)) (n + 1) cap6 := by
   obtain ⟨a4, c4, he4, h⟩ := owns_form hown6
   simp only [Value.slice.injEq, true_and] at he4
   obtain ⟨rfl, rfl⟩ := he4
   exact h
  simp only [Option.some.injEq, Addr.mk.injEq, and_true] at he7
  obtain rfl := he7
  have hB0 := Box.held hh6 hB0 (hT0.out _ (by omega))
  have hB2 := Box.held hh6 hB2 (hT0.out _ (by omega))
  have Hits := Lib.hid hits
  clear hown6 hgrow6 hat6 hcc hits hBg Sof hB1 hgrow5 hh5 hx5 hheld hxb Hst5
  have hc0 := hB0.cells; have hf0 := hB0.free; have hl0 := hB0.lt
  (refine wpAnyT_one (i := 13) (by kernel_rfl) (Array.getElem?_eq_getElem (by decide)) fun K hK => ?_); (try simp only [rl])
  go_simp
  (refine hK.out _ _ (fun h => Bool.noConfusion (show true = false from h)) ?_); clear hK K; (try simp only [rl])
  (refine wpAnyT_one (i := 14) (by kernel_rfl) (Array.getElem?_eq_getElem (by decide)) fun K hK => ?_); (try simp only [rl])
  go_simp
  (refine hK.out _ _ (fun h => Bool.noConfusion (show true = false from h)) ?_); clear hK K; (try simp only [rl])
  (refine wpAnyT_one (i := 15) (by kernel_rfl) (Array.getElem?_eq_getElem (by decide)) fun K hK => ?_); (try simp only [rl])
  go_simp
  (refine hK.out _ _ (fun h => Bool.noConfusion (show true = false from h)) ?_); clear hK K; (try simp only [rl])
  refine wpAnyT_done (by kernel_rfl) ?_ _
  go_upto_region 8 with fail
  refine gen_world (R := fun wy => Box wy w.heap.size #[.int .i64 5, .int .i64 nn, .string s, .slice (some ⟨g5, 0, none⟩) (n + 1) cap5, .slice (some ⟨g6, 0, none⟩) (n + 1) cap6] 25 ∧ Box wy (w.heap.size + 2) #[.int .i64 0, .int .i64 0, .string ⟨#[]⟩, .slice none 0 0, .slice none 0 0] 25 ∧ Held (fun b => b ≠ w.heap.size) w6 wy ∧ Ext w wy) ⟨Bxt, Bxt, Hxt, Xt⟩ ?_
  clear hB0 hB2 hc0 hf0 hl0
  rintro wy ⟨hB0, hB2, hhy, hxy⟩
  have hc0 := hB0.cells; have hf0 := hB0.free; have hl0 := hB0.lt
  have hc2 := hB2.cells; have hf2 := hB2.free; have hl2 := hB2.lt
  go_wp2_with fail
  (with_reducible apply bp_ret); (focus (go_light; simp [results, Tryz.results90, go_sem, *]; rfl))
  refine ⟨some ⟨g5, 0, none⟩, cap5, some ⟨g6, 0, none⟩, cap6, ?_, (V.in_iff ..).2 ⟨?_, ?_, ?_, .inr ⟨g6, 0, rfl, .inr (by omega), fun i hi => ?_⟩⟩, Xt⟩
  ·have e1 : (ks.take p ++ key :: ks.drop p).length = n + 1 := by simp [hks.out]; omega
   have e2 : (l.take p ++ y :: l.drop p).length = n + 1 := by simp [hll.out]; omega
   simp only [V.val, V.keys_mk, V.l_mk, V.k_mk, V.n_mk, V.s_mk, e1, e2]
  ·have e1 : (ks.take p ++ key :: ks.drop p).length = n + 1 := by simp [hks.out]; omega
   rw [V.keys_mk, e1]; exact hok5
  ·have e2 : (l.take p ++ y :: l.drop p).length = n + 1 := by simp [hll.out]; omega
   rw [V.l_mk, e2]; exact hok6
  ·have h1 : Held (fun b => w.heap.size + 3 ≤ b) w6 wy := hhy.mono (fun b h => by simp; omega)
   exact hst6.keep (Held.kept (a := w6) (T := fun b => w.heap.size + 3 ≤ b) Hxt) (fun b h _ => .inr (by omega))
  ·rw [Nat.zero_add]
   have h1 : Held (fun b => b ≠ w.heap.size ∧ b ≠ w.heap.size + 2) w6 wy := hhy.mono (fun b h => h.1)
   exact ((Hits.out i hi).keep' (T := fun b => b ≠ w.heap.size ∧ b ≠ w.heap.size + 2) (by simp; omega) (Held.kept (a := w6) Hxt) (fun b h => by simp; omega)).mono (fun b h => .inl h.1)
theorem with_not (x : V) (ka : Option Addr) (kc : Nat) (la : Option Addr) (lc : Nat) (key : ByteArray) (y : V) (kb : Option Addr) (kd : Nat) (lb : Option Addr) (ld : Nat) (S : Nat → Prop) (w : World) (hx : ¬ (x.k = 5 ∧ x.keys.length = x.l.length)) (hin : x.In w S ka kc la lc) :
  Calls Tryz.prog 90 #[x.val ka kc la lc, .string key, y.val kb kd lb ld] w (RetV S x w) := by
 by_cases h5 : x.k = 5
 ·have hln : x.keys.length ≠ x.l.length := fun h => hx ⟨h5, h⟩
  have hk5 : (x.k == 5) = true := by simpa using h5
  have hk5b : (x.k != 5) = false := by simpa using h5
  have hlen : ((x.keys.length : Int) == (x.l.length : Int)) = false := by simpa using fun h => hln (by omega)
  have hlenb : ((x.keys.length : Int) != (x.l.length : Int)) = true := by simpa using fun h => hln (by omega)
  clear hln h5 hx
  go_enter Tryz.func90, Tryz.ntmps90
  go_wp2_with fail
  (with_reducible apply bp_ret); (focus (go_light; simp [results, Tryz.results90, go_sem, *]; rfl))
  exact ⟨ka, kc, la, lc, rfl, (hin.ext Xt).mono (fun b h _ => .inl h), Xt⟩
 ·have hk5 : (x.k == 5) = false := by simpa using h5
  have hk5b : (x.k != 5) = true := by simpa using h5
  clear h5 hx
  go_enter Tryz.func90, Tryz.ntmps90
  go_wp2_with fail
  (with_reducible apply bp_ret); (focus (go_light; simp [results, Tryz.results90, go_sem, *]; rfl))
  exact ⟨ka, kc, la, lc, rfl, (hin.ext Xt).mono (fun b h _ => .inl h), Xt⟩
theorem with_any (x : V) (ka : Option Addr) (kc : Nat) (la : Option Addr) (lc : Nat) (key : ByteArray) (y : V) (kb : Option Addr) (kd : Nat) (lb : Option Addr) (ld : Nat) (S : Nat → Prop) (w : World) (hsz : x.size ≤ 1073741824) (hr : Rises x.keys) (hin : x.In w S ka kc la lc) (hjn : y.In w S kb kd lb ld) :
  Calls Tryz.prog 90 #[x.val ka kc la lc, .string key, y.val kb kd lb ld] w (RetV S (x.put key y) w) := by
 by_cases hx : x.k = 5 ∧ x.keys.length = x.l.length
 ·have hin' := hin.mono (T := fun b => S b ∧ b < w.heap.size) fun b h hl => ⟨h, hl⟩
  have hjn' := hjn.mono (T := fun b => S b ∧ b < w.heap.size) fun b h hl => ⟨h, hl⟩
  obtain ⟨h1, h2, h3, h4⟩ := (V.in_iff ..).1 hin'
  have hl := x.len_l
  have hle := posOf_le x.keys key
  have hv : x.val ka kc la lc = .agg #[.int .i64 5, .int .i64 x.n, .string x.s, .slice ka x.l.length kc, .slice la x.l.length lc] := by rw [V.val, hx.1, hx.2]
  rw [hx.2] at h1
  rw [hv]
  cases hb : hasB x.keys key with
  | true =>
   rw [put_yes hx hb, hx.1]
   refine with_found x.n x.s x.keys x.l x.l.length ka kc la lc key y kb kd lb ld S w (posOf x.keys key) hx.2 rfl (by omega) h1 h2 h3 h4 hjn' ?_ (by have := hasB_lt hb; omega)
   intro w' e
   have := bs_rise ka x.l.length kc x.keys _ key w' hx.2 (h3.ext e) hr (by omega)
   rw [hb] at this
   exact this
  | false =>
   rw [put_new hx hb, hx.1]
   refine with_new x.n x.s x.keys x.l x.l.length ka kc la lc key y kb kd lb ld S w (posOf x.keys key) hx.2 rfl (by omega) h1 h2 h3 h4 hjn' ?_ (by omega)
   intro w' e
   have := bs_rise ka x.l.length kc x.keys _ key w' hx.2 (h3.ext e) hr (by omega)
   rw [hb] at this
   exact this
 ·rw [put_not hx]
  exact with_not x ka kc la lc key y kb kd lb ld S w hx hin
end Go.Proofs.YtjibdbnpkfghhaaGreatDoor
