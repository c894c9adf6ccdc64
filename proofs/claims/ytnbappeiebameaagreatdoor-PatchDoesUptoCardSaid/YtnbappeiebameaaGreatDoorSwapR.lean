/- The walk of the reference's swapped. -/
import Derived.Test.YtnbappeiebameaaGreatDoorPkM
import Derived.Test.YtnbappeiebameaaGreatDoorCopy
set_option linter.all false
namespace Go.Proofs.YtnbappeiebameaaGreatDoor
open Go.RowKit
attribute [local go_sem ↓] Go.wp_at_zero Go.wp_at_succ

set_option maxRecDepth 100000 in
set_option maxHeartbeats 8000000 in
theorem swapped_any (x : V) (ka : Option Addr) (kc : Nat) (la : Option Addr) (lc : Nat) (q : Nat) (hi : q < x.l.length) (y : V) (kb : Option Addr) (kd : Nat) (lb : Option Addr) (ld : Nat) (S : Nat → Prop) (w : World) (hSl : Hid (∀ b, S b → b < w.heap.size)) (hsz : x.size ≤ 1073741824) (hin : x.In w S ka kc la lc) (hjn : y.In w S kb kd lb ld) :
    Calls Tryz.prog 144 #[x.val ka kc la lc, .int .i64 q, y.val kb kd lb ld] w (RetV S (x.setL q y) w) := by
  obtain ⟨b', o', rfl, hS', -⟩ := hin.item hi
  obtain ⟨hok1, hok2, hst, hrw⟩ := (V.in_iff ..).1 hin
  have hll := x.len_l
  obtain ⟨j0, hj, hy0, hy1, hy2⟩ := info_parts Tryz.infoV
  have Hst := Lib.hid hst
  have Hok2 := Lib.hid hok2
  have Hjn := Lib.hid (show y.In w (fun b => (S b ∨ w.heap.size + 3 ≤ b) ∧ b < w.heap.size) kb kd lb ld from hjn.mono fun b h hl => ⟨.inl h, hl⟩)
  clear hst hjn hin hok2
  go_enter Tryz.func144, Tryz.ntmps144
  go_upto_region 1 with fail
  refine gen_world (R := fun wx => Box wx w.heap.size #[.int .i64 x.k, .int .i64 x.n, .string x.s, .slice ka x.keys.length kc, .slice (some ⟨b', o', none⟩) x.l.length lc] 25 ∧ Box wx (w.heap.size + 1) #[.int .i64 y.k, .int .i64 y.n, .string y.s, .slice kb y.keys.length kd, .slice lb y.l.length ld] 25 ∧ Box wx (w.heap.size + 2) #[.int .i64 0, .int .i64 0, .string ⟨#[]⟩, .slice none 0 0, .slice none 0 0] 25 ∧ Ext w wx) ⟨Bxt, Bxt, Bxt, Xt⟩ ?_
  rintro wc ⟨hB0, hBy, hB1, hxc⟩
  obtain ⟨xs, hxl, hsrc, hcs⟩ := rows_cells (hrw.ext hxc)
  have Hcs := Lib.hid hcs
  have Hone := Lib.hid hcs.one
  have Hsrc := Lib.hid hsrc
  have Hxl := Lib.hid hxl
  clear hcs hsrc hxl hrw
  have hl1 := hB1.lt
  have hc0 := hB0.cells; have hf0 := hB0.free; have hl0 := hB0.lt
  go_upto_region 2 with ((at_builtin; refine wpList_copy_nil (by rfl) _ _ 23 (by rfl) wc.heap.size 25 j0 _ 5 80 Tryz.underlying23 hj hy0 hy1 hy2 rfl (by decide) (by rfl) (some ⟨b', o', none⟩) x.l.length lc xs (by rfl) Hok2.out Hxl.out Hsrc.out Hone.out (by omega) (by simp) ?_; intro a3 c3 w3 hown3 hok3 hgrow3; have h3 := grown_ext hgrow3; have hB0w := Box.ext h3 hB0; have hc0w := hB0w.cells; have hf0w := hB0w.free; have hl0w := hB0w.lt))
  obtain ⟨g, cur, rfl, hgb, hBg, hcz, hits⟩ := own_items (by omega) rfl hown3 (Hcs.out.keep (h3.kept _) (fun _ h _ => h))
  have hzc : w.heap.size + 3 ≤ wc.heap.size := hl1
  have hB1w := Box.ext h3 hB1
  have hByw := Box.ext h3 hBy
  have hx3 : Ext w w3 := hxc.trans h3
  have Hits : Hid (∀ i (h : i < x.l.length), V.Item w3 (fun b => (S b ∨ w.heap.size + 3 ≤ b) ∧ b < w.heap.size) g (i * 5) x.l[i]) := fun i h => (hits i h).mono (fun b h => ⟨.inl h, hSl.out b h⟩)
  have Hjn3 := Lib.hid (Hjn.out.ext hx3)
  clear hits hown3 hgrow3 h3 hxc hB0 hBy hB1 hc0 hf0 hl0 hc0w hf0w hl0w
  have hgw : w.heap.size + 3 ≤ g := by omega
  have hc0 := hB0w.cells; have hf0 := hB0w.free; have hl0 := hB0w.lt
  have hcy := hByw.cells; have hfy := hByw.free; have hly := hByw.lt
  have hcg := hBg.cells; have hfg := hBg.free; have hlg := hBg.lt
  have hq0 : (0 : Int) ≤ (q : Int) := by omega
  have hq1 : (q : Int) < (x.l.length : Int) := by omega
  have Hth : Hid (w3.there g (q * 5) 5) := there5 hBg (by omega)
  clear hcg hfg
  go_upto_region 3 with (refine wpList_store_mid rfl 25 _ _ rfl g (q * 5) #[.int .i64 y.k, .int .i64 y.n, .string y.s, .slice kb y.keys.length kd, .slice lb y.l.length ld] (by rfl) (by rfl) (by exact Hth.out) Tryz.sizeV (all_oneCell_toArray (V.five_one y kb kd lb ld)) ?_)
  have hItems : ∀ i (h : i < (x.l.set q y).length), V.Item (w3.setCells g (q * 5) (V.five y kb kd lb ld)) (fun b => (S b ∨ w.heap.size + 3 ≤ b) ∧ b < w.heap.size) g (i * 5) (x.l.set q y)[i] :=
    items_set hBg Hits.out hi hcz Hjn3.out (hBg.set5 _ _ _ _ _ _) (Held.kept (Held.set5 (Held.refl _ _) (by simp; omega) _ _))
  refine gen_world (R := fun wy => Box wy w.heap.size #[.int .i64 x.k, .int .i64 x.n, .string x.s, .slice ka x.keys.length kc, .slice (some ⟨b', o', none⟩) x.l.length lc] 25 ∧ Box wy (w.heap.size + 2) #[.int .i64 0, .int .i64 0, .string ⟨#[]⟩, .slice none 0 0, .slice none 0 0] 25 ∧ (∀ i (h : i < (x.l.set q y).length), V.Item wy (fun b => (S b ∨ w.heap.size + 3 ≤ b) ∧ b < w.heap.size) g (i * 5) (x.l.set q y)[i]) ∧ Ext w wy)
    ⟨hB0w.other5 (by omega) _ _, hB1w.other5 (by omega) _ _, hItems, hx3.set5 (by omega) _ _⟩ ?_
  clear hB0w hB1w hByw hBg hc0 hf0 hl0 hcy hfy hly hlg hItems hx3 Hth Hits Hjn3
  rintro wy ⟨hB0, hB1, hits, hxy⟩
  have Hits := Lib.hid hits
  clear hits
  have hc0 := hB0.cells; have hf0 := hB0.free; have hl0 := hB0.lt
  have hc1 := hB1.cells; have hf1 := hB1.free; have hl1 := hB1.lt
  go_wp2_with fail
  (with_reducible apply bp_ret); (focus (go_light; simp [results, Tryz.results144, go_sem, *]; rfl))
  refine ⟨ka, kc, some ⟨g, 0, none⟩, c3, ?_, (V.in_iff ..).2 ⟨hok1, ?_, Hst.out.keep (Ext.kept Xt _) (fun b h _ => .inl h), .inr ⟨g, 0, rfl, .inr (by omega), fun i hi => ?_⟩⟩, Xt⟩
  · simp [V.setL, V.val]
  · simpa [V.setL] using hok3
  · rw [Nat.zero_add]
    exact ((Hits.out i hi).keep' (T := fun b => b < w.heap.size ∨ w.heap.size + 3 ≤ b) (by omega) (Held.kept (a := wy) Hxt) (fun b h => .inl h.2)).mono (fun b h => by rcases h.1 with h | h; exact .inl h; exact .inr (by omega))
end Go.Proofs.YtnbappeiebameaaGreatDoor
