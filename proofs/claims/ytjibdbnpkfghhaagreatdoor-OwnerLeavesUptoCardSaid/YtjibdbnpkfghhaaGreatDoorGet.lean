/- The walk of point.Get. -/
import Derived.Test.YtjibdbnpkfghhaaGreatDoorMay
set_option linter.all false
namespace Go.Proofs.YtjibdbnpkfghhaaGreatDoor
open Go.RowKit
attribute [local go_sem ↓] Go.wp_at_zero Go.wp_at_succ
theorem getV_cons {a : ByteArray} {r : List ByteArray} {x : V} {i : Nat} (hc : x.child a = some i) (hi : i < x.l.length) : getV (a :: r) x = getV r x.l[i] := by
 simp [getV, hc, List.getElem?_eq_getElem hi]
theorem getV_miss {a : ByteArray} {r : List ByteArray} {x : V} (hc : x.child a = none) : getV (a :: r) x = none := by simp [getV, hc]
set_option maxRecDepth 100000 in
set_option maxHeartbeats 4000000 in
theorem get_any (x : V) (ka : Option Addr) (kc : Nat) (la : Option Addr) (lc : Nat) (S : Nat → Prop) (p : ByteArray) (w : World) (hsz : x.size ≤ 1073741824) (hin0 : x.In w S ka kc la lc) (hp : p.size ≤ 1073741824) (hl : LibAt w) :
  Calls Tryz.prog 38 #[x.val ka kc la lc, .string p] w (RetV2 S (getP x p).1 (.int .i64 (getP x p).2) w) := by
 have hin : x.In w (fun b => S b ∧ b < w.heap.size) ka kc la lc := hin0.mono fun b h hl => ⟨h, hl⟩
 clear hin0
 have hm := hl.max
 go_enter Tryz.func38, Tryz.ntmps38
 go_upto_region 1 with fail
 refine gen_world (R := fun wx => Box wx w.heap.size #[.int .i64 x.k, .int .i64 x.n, .string x.s, .slice ka x.keys.length kc, .slice la x.l.length lc] 25 ∧ Box wx (w.heap.size + 1) #[.int .i64 0, .int .i64 0, .string ⟨#[]⟩, .slice none 0 0, .slice none 0 0] 25 ∧ Ext w wx) ⟨Bxt, Bxt, Xt⟩ ?_
 rintro wa ⟨hB0, hB1, hxa⟩
 have hB1w := hB1.lt
 have hc0 := hB0.cells; have hf0 := hB0.free; have hl0 := hB0.lt
 go_wp2_with fail
 (refine (may_any x ka kc la lc _ p _ hsz (hin.ext Xt) hp (hm.ext Xt)).mono ?_)
 rintro e w2 (⟨a, n, c, ks, hnb, hfi, rfl, hn, hok, hst, h2⟩ | ⟨hbad, rfl, h2⟩)
 ·have hgp : getP x p = match getV ks x with | some y => (y, 0) | none => (V.zero, 3) := by unfold getP; rw [hnb]; simp only; rw [if_neg (by rw [hfi]; decide)]; cases getV ks x <;> rfl
  have hsm := (namesB_small hnb).2
  have hlen := (namesB_small hnb).1
  have Hgp := Lib.hid hgp
  have Hsm := Lib.hid hsm
  have hso := fine_sound hfi
  have hxs := fine_size hfi
  have hB0 := Box.ext h2 hB0
  have hB1 := Box.ext h2 hB1
  have hx2 : Ext w w2 := Xt
  have Hst := Lib.hid hst
  have hlw : w.heap.size + 2 ≤ wa.heap.size := hB1w
  clear h2 hc0 hf0 hl0 hxa hgp hnb hsm hst hfi
  subst hn
  go_wp2_with fail
  go_loopg [9, 10, 11, 24] ks.length (fun g _ _ _ i wr => ∃ (k : Nat) (y : V) (ka' : Option Addr) (kc' : Nat) (la' : Option Addr) (lc' : Nat), k ≤ ks.length ∧ i = .int .i64 k ∧ g = ks.length - k ∧ getV ks x = getV (ks.drop k) y ∧ y.sound ∧ y.size ≤ 14640 ∧
   y.In w (fun b => S b ∧ b < w.heap.size) ka' kc' la' lc' ∧ Box wr w.heap.size #[.int .i64 y.k, .int .i64 y.n, .string y.s, .slice ka' y.keys.length kc', .slice la' y.l.length lc'] 25 ∧ Box wr (w.heap.size + 1) #[.int .i64 0, .int .i64 0, .string ⟨#[]⟩, .slice none 0 0, .slice none 0 0] 25 ∧ Ext w wr ∧ Held (fun b => b ≠ w.heap.size) w2 wr)
  case atStart => exact ⟨0, x, ka, kc, la, lc, by omega, rfl, rfl, rfl, hso, hxs, hin, hB0, hB1, hx2, Held.refl _ _⟩
  case round =>
   clear hB0 hB1 hso hxs hin
   obtain ⟨k, y, ka', kc', la', lc', hk, rfl, rfl, hgv, hso, hys, hin, hB0, hB1, hx, hh⟩ := hrel
   have Hgv := Lib.hid hgv
   clear hgv
   have hc0 := hB0.cells; have hf0 := hB0.free; have hl0 := hB0.lt
   have hc1 := hB1.cells; have hf1 := hB1.free; have hl1 := hB1.lt
   by_cases hlt : k < ks.length
   ·have hst' : StrsIn wr (fun b => w.heap.size + 2 ≤ b) a ks := (Hst.out.keep (T := fun b => w.heap.size + 2 ≤ b) (fun _ _ _ => rfl) (fun b h _ => Nat.le_trans hlw h)).keep (Held.kept (hh.mono (T := fun b => w.heap.size + 2 ≤ b) (fun b h => by simp; omega))) (fun b h _ => h)
    obtain ⟨b, o, rfl, hS, e0⟩ := hst'.resolve_left (by intro h; rw [h] at hlt; simp at hlt)
    have e0 := e0 k hlt
    have hks := Hsm.out _ (List.getElem_mem hlt)
    cases hc : y.child ks[k] with
    | none =>
     have hc' : getV ks x = none := by rw [Hgv.out, List.drop_eq_getElem_cons hlt, getV_miss hc]
     have Hc := Lib.hid hc
     have Hc' := Lib.hid hc'
     have Hin := Lib.hid hin
     clear hc hc' hst' hh
     go_wp2_with fail
     (refine (child_any y ka' kc' la' lc' _ ks[k] _ hso (by omega) (by omega) (Hin.out.ext Xt) (hl.ext Xt)).mono ?_); rintro e w3 ⟨q, rfl, -, h3⟩
     rw [Hc.out]
     have hB0 := Box.ext h3 (Box.drew hB0)
     have hB1 := Box.ext h3 (Box.drew hB1)
     have hx3 : Ext w w3 := Xt
     clear h3 hc0 hf0 hl0 hc1 hf1 hl1 hx
     have hc1 := hB1.cells; have hf1 := hB1.free; have hl1 := hB1.lt
     go_wp2_with fail
     (with_reducible apply bp_ret); (focus (go_light; simp [results, Tryz.results38, go_sem, *]; rfl))
     rw [Hgp.out, Hc'.out]
     exact ⟨none, 0, none, 0, rfl, V.zero_in _ _, Xt⟩
    | some i =>
     have hi := child_lt hso hc
     have hgv' : getV ks x = getV (ks.drop (k + 1)) y.l[i] := by rw [Hgv.out, List.drop_eq_getElem_cons hlt, getV_cons hc hi]
     obtain ⟨b', o', rfl, hS', ka2, kc2, la2, lc2, ⟨d0, d1, d2, d3, d4⟩, hin'⟩ := hin.item hi
     have hso' := hso.item (List.getElem_mem hi)
     have hys' := V.size_item hi
     have Hc := Lib.hid hc
     have Hgv' := Lib.hid hgv'
     have Hin := Lib.hid hin
     have hne : ¬ b' = w.heap.size := Nat.ne_of_lt hS'.2
     have hne2 : ¬ w.heap.size = b' := fun e => hne e.symm
     have hi0 : (0 : Int) ≤ (i : Int) := by omega
     have hi1 : (i : Int) < (y.l.length : Int) := by omega
     clear hc hgv' hst'
     go_wp2_with fail
     (refine (child_any y ka' kc' _ lc' _ ks[k] _ hso (by omega) (by omega) (Hin.out.ext Xt) (hl.ext Xt)).mono ?_); rintro e w3 ⟨q, rfl, hq, h3⟩
     obtain rfl := hq i Hc.out
     rw [Hc.out]
     have hB0 := Box.ext h3 (Box.drew hB0)
     have hB1 := Box.ext h3 (Box.drew hB1)
     have hh3 : Held (fun b => b ≠ w.heap.size) w2 w3 := Hxt
     have hx3 : Ext w w3 := Xt
     have d0 := hx3.cell d0; have d1 := hx3.cell d1; have d2 := hx3.cell d2; have d3 := hx3.cell d3; have d4 := hx3.cell d4
     clear h3 hc0 hf0 hl0 hc1 hf1 hl1 hx hh
     have hc0 := hB0.cells; have hf0 := hB0.free; have hl0 := hB0.lt
     have hc1 := hB1.cells; have hf1 := hB1.free; have hl1 := hB1.lt
     go_wp2_with fail
     go_roundg (ks.length - (k + 1))
     case measure => omega
     case rel => exact ⟨k + 1, y.l[q], ka2, kc2, la2, lc2, by omega, by go_num, rfl, Hgv'.out, hso', by omega, hin', Bxt, Bxt, Xt, Hxt⟩
   ·have hgp' : getP x p = (y, 0) := by
     rw [Hgp.out, Hgv.out, List.drop_of_length_le (by omega)]; rfl
    have Hgp' := Lib.hid hgp'
    have Hin := Lib.hid hin
    clear hin hh hgp'
    go_wp2_with fail
    (with_reducible apply bp_ret); (focus (go_light; simp [results, Tryz.results38, go_sem, *]; rfl))
    rw [Hgp'.out]
    exact ⟨ka', kc', la', lc', rfl, (Hin.out.ext Xt).mono (fun b h _ => .inl h.1), Xt⟩
 ·have hgp : getP x p = (V.zero, 1) := by
   unfold getP
   rcases hbad with h | h
   ·rw [h]
   ·cases namesB p <;> simp [h]
  have Hgp := Lib.hid hgp
  clear hgp
  have hB1 := Box.ext h2 hB1
  have hx2 : Ext w w2 := Xt
  clear h2 hB0 hc0 hf0 hl0 hxa hbad
  have hc1 := hB1.cells; have hf1 := hB1.free; have hl1 := hB1.lt
  go_wp2_with fail
  (with_reducible apply bp_ret); (focus (go_light; simp [results, Tryz.results38, go_sem, *]; rfl))
  rw [Hgp.out]
  exact ⟨none, 0, none, 0, rfl, V.zero_in _ _, Xt⟩
end Go.Proofs.YtjibdbnpkfghhaaGreatDoor
