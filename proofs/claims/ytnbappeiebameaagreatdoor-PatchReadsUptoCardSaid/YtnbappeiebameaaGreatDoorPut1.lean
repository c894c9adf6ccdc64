/- The walk of what point.Put does at a path's end. -/
import Derived.Test.YtnbappeiebameaaGreatDoorPkM
set_option linter.all false
namespace Go.Proofs.YtnbappeiebameaaGreatDoor
open Go.RowKit
attribute [local go_sem ↓] Go.wp_at_zero Go.wp_at_succ

set_option maxRecDepth 100000 in
set_option maxHeartbeats 8000000 in
theorem put1_any (y : V) (kb : Option Addr) (kd : Nat) (lb : Option Addr) (ld : Nat) (bx : Nat) (x : V) (ka : Option Addr) (kc : Nat) (la : Option Addr) (lc : Nat) (name : ByteArray) (S : Nat → Prop) (w : World) (hSl : Hid (∀ b, S b → b < w.heap.size)) (hBx : Box w bx #[.int .i64 y.k, .int .i64 y.n, .string y.s, .slice kb y.keys.length kd, .slice lb y.l.length ld] 25) (hjn : y.In w S kb kd lb ld) (hl : LibAt w)
    (hso : x.sound) (hsz : x.size ≤ 1073741824) (hn : name.size ≤ 8000) (hin : x.In w S ka kc la lc) :
    Calls Tryz.prog 82 #[x.val ka kc la lc, .string name, .pointer (some ⟨bx, 0, none⟩)] w (RetV2 S (putF y x name).1 (.int .i64 (putF y x name).2) w) := by
  have hbx := hBx.lt
  have Hin := Lib.hid hin
  have Hjn0 := Lib.hid hjn
  clear hjn
  cases hch : x.child name with
  | none =>
    have hp : putF y x name = (x, 3) := by unfold putF; rw [hch]
    have Hp := Lib.hid hp
    have Hch := Lib.hid hch
    clear hin hp hch
    go_enter Tryz.func82, Tryz.ntmps82
    go_upto_region 1 with fail
    refine gen_world (R := fun wx => Box wx w.heap.size #[.int .i64 x.k, .int .i64 x.n, .string x.s, .slice ka x.keys.length kc, .slice la x.l.length lc] 25 ∧ Box wx (w.heap.size + 1) #[.int .i64 0, .int .i64 0, .string ⟨#[]⟩, .slice none 0 0, .slice none 0 0] 25 ∧ Ext w wx) ⟨Bxt, Bxt, Xt⟩ ?_
    rintro wa ⟨hB0, hB1, hxa⟩
    have hc0 := hB0.cells; have hf0 := hB0.free; have hl0 := hB0.lt
    go_wp2_with fail
    (refine (child_any x ka kc la lc _ name _ hso hsz (by omega) (Hin.out.ext Xt) (hl.ext Xt)).mono ?_); rintro e w1 ⟨q, rfl, -, h1⟩
    rw [Hch.out]
    have hB0 := Box.ext h1 hB0
    have hB1 := Box.ext h1 hB1
    have hx1 : Ext w w1 := Xt
    clear h1 hxa hc0 hf0 hl0
    have hc0 := hB0.cells; have hf0 := hB0.free; have hl0 := hB0.lt
    have hc1 := hB1.cells; have hf1 := hB1.free; have hl1 := hB1.lt
    go_wp2_with fail
    (with_reducible apply bp_ret); (focus (go_light; simp [results, Tryz.results82, go_sem, *]; rfl))
    rw [Hp.out]
    exact ⟨ka, kc, la, lc, rfl, (Hin.out.ext Xt).mono (fun b h _ => .inl h), Xt⟩
  | some i =>
    have hi := child_lt hso hch
    have hp : putF y x name = (x.setL i y, 0) := by unfold putF; rw [hch]
    obtain ⟨b', o', rfl, hS', -⟩ := hin.item hi
    have Hp := Lib.hid hp
    have Hch := Lib.hid hch
    clear hin hp hch
    go_enter Tryz.func82, Tryz.ntmps82
    go_upto_region 1 with fail
    refine gen_world (R := fun wx => Box wx w.heap.size #[.int .i64 x.k, .int .i64 x.n, .string x.s, .slice ka x.keys.length kc, .slice (some ⟨b', o', none⟩) x.l.length lc] 25 ∧ Box wx (w.heap.size + 1) #[.int .i64 0, .int .i64 0, .string ⟨#[]⟩, .slice none 0 0, .slice none 0 0] 25 ∧ Ext w wx) ⟨Bxt, Bxt, Xt⟩ ?_
    rintro wa ⟨hB0, hB1, hxa⟩
    have hc0 := hB0.cells; have hf0 := hB0.free; have hl0 := hB0.lt
    go_wp2_with fail
    (refine (child_any x ka kc _ lc _ name _ hso hsz (by omega) (Hin.out.ext Xt) (hl.ext Xt)).mono ?_); rintro e w1 ⟨q, rfl, hq, h1⟩
    obtain rfl := hq i Hch.out
    rw [Hch.out]
    have hB0 := Box.ext h1 hB0
    have hB1 := Box.ext h1 hB1
    have hx1 : Ext w w1 := Xt
    have hBy := Box.ext hx1 hBx
    have Hjn : Hid (y.In w1 (fun b => S b ∨ w.heap.size + 2 ≤ b) kb kd lb ld) := (Hjn0.out.ext hx1).mono (fun b h _ => .inl h)
    clear h1 hxa hc0 hf0 hl0 hq
    obtain ⟨hok1, hok2, hst, hrw⟩ := (V.in_iff ..).1 Hin.out
    have hll := x.len_l
    have Cl := Lib.hid (fun w' (e : Ext w w') => cloneL_any x.l _ _ _ S w' rfl hok2 (by omega) (hrw.ext e))
    have Hst := Lib.hid hst
    clear hst hrw
    go_upto_region 4 with fail
    refine gen_world (R := fun wx => Box wx w.heap.size #[.int .i64 x.k, .int .i64 x.n, .string x.s, .slice ka x.keys.length kc, .slice (some ⟨b', o', none⟩) x.l.length lc] 25 ∧ Box wx (w.heap.size + 1) #[.int .i64 0, .int .i64 0, .string ⟨#[]⟩, .slice none 0 0, .slice none 0 0] 25 ∧ Box wx bx #[.int .i64 y.k, .int .i64 y.n, .string y.s, .slice kb y.keys.length kd, .slice lb y.l.length ld] 25 ∧ (y).In wx (fun b => S b ∨ w.heap.size + 2 ≤ b) kb kd lb ld ∧ Ext w wx) ⟨Bxt, Bxt, Bxt, Hjn.out.ext Xt, Xt⟩ ?_
    clear hB0 hB1 hBy
    rintro wc ⟨hB0, hB1, hBy, hjn, hxc⟩
    have hc0 := hB0.cells; have hf0 := hB0.free; have hl0 := hB0.lt
    go_upto_region 5 with (go_at_call 78; refine (Cl.out _ Xt).mono ?_; rintro e w3 ⟨a3, c3, rfl, hok3, ⟨xs3, hown3, hcs3⟩, h3⟩; have hB0w := Box.ext h3 hB0; have hc0w := hB0w.cells; have hf0w := hB0w.free; have hl0w := hB0w.lt)
    obtain ⟨g, cur, rfl, hgb, hBg, hcz, hits⟩ := own_items (by omega) rfl hown3 hcs3
    have hjn3 : (y).In w3 (fun b => (S b ∨ w.heap.size + 2 ≤ b) ∧ b < wc.heap.size) kb kd lb ld := (hjn.mono (fun b h hlt => ⟨h, hlt⟩)).ext h3
    have hl1 := hB1.lt
    have hly := hBy.lt
    have hB1w := Box.ext h3 hB1
    have hByw := Box.ext h3 hBy
    have hx3 : Ext w w3 := Xt
    have Hits := Lib.hid hits
    have Hjn3 := Lib.hid hjn3
    clear hits hown3 hcs3 hjn hjn3 hB0 hB1 hBy h3 hc0 hf0 hl0
    refine gen_world (R := fun wx => Box wx w.heap.size #[.int .i64 x.k, .int .i64 x.n, .string x.s, .slice ka x.keys.length kc, .slice (some ⟨g, 0, none⟩) x.l.length c3] 25 ∧ Box wx (w.heap.size + 1) #[.int .i64 0, .int .i64 0, .string ⟨#[]⟩, .slice none 0 0, .slice none 0 0] 25 ∧ Box wx bx #[.int .i64 y.k, .int .i64 y.n, .string y.s, .slice kb y.keys.length kd, .slice lb y.l.length ld] 25 ∧ Box wx g cur 25 ∧ Held (fun b => b ≠ w.heap.size) w3 wx ∧ Ext w wx) ⟨Bxt, Bxt, Bxt, Bxt, Hxt, Xt⟩ ?_
    clear hB0w hB1w hByw hBg hc0w hf0w hl0w
    rintro wx ⟨hB0, hB1, hBy, hBg, hheld, hxx⟩
    have hzc : w.heap.size + 2 ≤ wc.heap.size := hl1
    have Hits2 : Hid (∀ i (h : i < x.l.length), V.Item wx (fun b => (S b ∨ w.heap.size + 2 ≤ b) ∧ b < wc.heap.size) g (i * 5) x.l[i]) := fun i h => ((Hits.out i h).keep' (T := fun b => b ≠ w.heap.size) (by simp; omega) hheld.kept (fun b h => by have := hSl.out b h; simp; omega)).mono (fun b h => ⟨.inl h, by have := hSl.out b h; omega⟩)
    have Hjn4 : Hid ((y).In wx (fun b => (S b ∨ w.heap.size + 2 ≤ b) ∧ b < wc.heap.size) kb kd lb ld) := Hjn3.out.keep (Held.kept (hheld.mono (fun b h => by rcases h.1 with h | h; (have := hSl.out b h; simp; omega); (simp; omega)))) (fun _ h _ => h)
    have hc0 := hB0.cells; have hf0 := hB0.free; have hl0 := hB0.lt
    have hcy := hBy.cells; have hfy := hBy.free; have hly := hBy.lt
    have hcg := hBg.cells; have hfg := hBg.free; have hlg := hBg.lt
    have hq0 : (0 : Int) ≤ (q : Int) := by omega
    have hq1 : (q : Int) < (x.l.length : Int) := by omega
    have Hth : Hid (wx.there g (q * 5) 5) := there5 hBg (by omega)
    clear hcg hfg
    go_upto_region 6 with (refine wpList_store_mid rfl 25 _ _ rfl g (q * 5) #[.int .i64 y.k, .int .i64 y.n, .string y.s, .slice kb y.keys.length kd, .slice lb y.l.length ld] (by rfl) (by rfl) (by exact Hth.out) Tryz.sizeV (all_oneCell_toArray (V.five_one (y) kb kd lb ld)) ?_)
    have hItems : ∀ i (h : i < (x.l.set q (y)).length), V.Item (wx.setCells g (q * 5) (V.five (y) kb kd lb ld)) (fun b => (S b ∨ w.heap.size + 2 ≤ b) ∧ b < wc.heap.size) g (i * 5) (x.l.set q (y))[i] :=
      items_set hBg Hits2.out hi hcz Hjn4.out (hBg.set5 _ _ _ _ _ _) (Held.kept (Held.set5 (Held.refl _ _) (by simp; omega) _ _))
    refine gen_world (R := fun wy => Box wy w.heap.size #[.int .i64 x.k, .int .i64 x.n, .string x.s, .slice ka x.keys.length kc, .slice (some ⟨g, 0, none⟩) x.l.length c3] 25 ∧ Box wy (w.heap.size + 1) #[.int .i64 0, .int .i64 0, .string ⟨#[]⟩, .slice none 0 0, .slice none 0 0] 25 ∧ (∀ i (h : i < (x.l.set q (y)).length), V.Item wy (fun b => (S b ∨ w.heap.size + 2 ≤ b) ∧ b < wc.heap.size) g (i * 5) (x.l.set q (y))[i]) ∧ Ext w wy)
      ⟨hB0.other5 (by omega) _ _, hB1.other5 (by omega) _ _, hItems, hxx.set5 (by omega) _ _⟩ ?_
    clear hB0 hB1 hBy hBg hc0 hf0 hl0 hcy hfy hly hlg hItems hheld hxx Hth Hits Hits2
    rintro wy ⟨hB0, hB1, hits, hxy⟩
    have hc0 := hB0.cells; have hf0 := hB0.free; have hl0 := hB0.lt
    have hc1 := hB1.cells; have hf1 := hB1.free; have hl1 := hB1.lt
    have Hits := Lib.hid hits
    clear hits
    go_wp2_with fail
    (with_reducible apply bp_ret); (focus (go_light; simp [results, Tryz.results82, go_sem, *]; rfl))
    skip; (rw [Hp.out]; dsimp only)
    refine ⟨ka, kc, some ⟨g, 0, none⟩, c3, ?_, (V.in_iff ..).2 ⟨hok1, ?_, Hst.out.keep (Ext.kept Xt _) (fun b h _ => .inl h), .inr ⟨g, 0, rfl, .inr (by omega), fun i hi => ?_⟩⟩, Xt⟩
    · simp [V.setL, V.val]
    · simpa [V.setL] using hok3
    · rw [Nat.zero_add]
      exact ((Hits.out i hi).keep' (T := fun b => b ≠ w.heap.size + 1) (by simp; omega) (Held.kept (a := wy) Hxt) (fun b h => by rcases h.1 with h | h; (have := hSl.out b h; simp; omega); (simp; omega))).mono (fun b h => by rcases h.1 with h | h; exact .inl h; exact .inr (by omega))

theorem does_put (y : V) (kb : Option Addr) (kd : Nat) (lb : Option Addr) (ld : Nat) (bx : Nat) (S : Nat → Prop) (w0 : World) (hS : ∀ b, S b → b < w0.heap.size) (hBx : Box w0 bx #[.int .i64 y.k, .int .i64 y.n, .string y.s, .slice kb y.keys.length kd, .slice lb y.l.length ld] 25) (hjn : y.In w0 S kb kd lb ld) (hl : LibAt w0) :
    Does (putF y) S 82 #[.pointer (some ⟨bx, 0, none⟩)] w0 := by
  intro x ka kc la lc name w' hw hso hsz hn hin
  exact put1_any y kb kd lb ld bx x ka kc la lc name S w' (fun b h => Nat.lt_of_lt_of_le (hS b h) hw.size) (Box.ext hw hBx) (hjn.ext hw) (hl.ext hw) hso hsz hn hin
theorem enters_put (args : Array Value) (w : World) : (callFunc 82 args).run Tryz.prog w = .ok (.enter 82 args) w := enters Tryz.func82 (by kernel_rfl) (by rfl) args w
end Go.Proofs.YtnbappeiebameaaGreatDoor
