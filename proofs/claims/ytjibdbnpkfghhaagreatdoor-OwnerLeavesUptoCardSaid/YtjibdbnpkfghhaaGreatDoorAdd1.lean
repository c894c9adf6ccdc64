/- The walk of what point.Add does at a path's end. -/
import Derived.Test.YtjibdbnpkfghhaaGreatDoorPkM
import Derived.Test.YtjibdbnpkfghhaaGreatDoorWith
set_option linter.all false
namespace Go.Proofs.YtjibdbnpkfghhaaGreatDoor
open Go.RowKit
attribute [local go_sem ↓] Go.wp_at_zero Go.wp_at_succ
set_option maxRecDepth 100000 in
set_option maxHeartbeats 4000000 in
theorem add1_obj (y : V) (kb : Option Addr) (kd : Nat) (lb : Option Addr) (ld : Nat) (bx : Nat) (x : V) (ka : Option Addr) (kc : Nat) (la : Option Addr) (lc : Nat) (name : ByteArray) (S : Nat → Prop) (w : World) (hSl : Hid (∀ b, S b → b < w.heap.size)) (hBx : Box w bx #[.int .i64 y.k, .int .i64 y.n, .string y.s, .slice kb y.keys.length kd, .slice lb y.l.length ld] 25) (hjn : y.In w S kb kd lb ld)
  (hso : x.sound) (hsz : x.size ≤ 1073741824) (hn : name.size ≤ 8000) (hin : x.In w S ka kc la lc) (h5 : x.k = 5) :
  Calls Tryz.prog 89 #[x.val ka kc la lc, .string name, .pointer (some ⟨bx, 0, none⟩)] w (RetV2 S (x.put name y) (.int .i64 0) w) := by
 have hbx := hBx.lt
 have hk5 : (x.k == 5) = true := by simpa using h5
 have Hr := Lib.hid hso.flat.rise
 have Hin := Lib.hid hin
 have Hjn := Lib.hid hjn
 clear hin hjn h5
 go_enter Tryz.func89, Tryz.ntmps89
 go_upto_region 3 with fail
 refine gen_world (R := fun wx => Box wx w.heap.size #[.int .i64 x.k, .int .i64 x.n, .string x.s, .slice ka x.keys.length kc, .slice la x.l.length lc] 25 ∧ Box wx (w.heap.size + 1) #[.int .i64 0, .int .i64 0, .string ⟨#[]⟩, .slice none 0 0, .slice none 0 0] 25 ∧ Ext w wx) ⟨Bxt, Bxt, Xt⟩ ?_
 rintro wa ⟨hB0, hB1, hxa⟩
 have hBy := Box.ext hxa hBx
 have hc0 := hB0.cells; have hf0 := hB0.free; have hl0 := hB0.lt
 have hcy := hBy.cells; have hfy := hBy.free; have hly := hBy.lt
 go_wp2_with fail
 (refine (with_any x ka kc la lc name y kb kd lb ld S _ hsz Hr.out (Hin.out.ext Xt) (Hjn.out.ext Xt)).mono ?_); rintro e w1 ⟨ka1, kc1, la1, lc1, rfl, hin1, h1⟩
 have hl1 := hB1.lt
 have hin2 : (x.put name y).In w1 (fun b => S b ∨ w.heap.size + 2 ≤ b) ka1 kc1 la1 lc1 := hin1.mono (fun b h _ => by rcases h with h | h; exact .inl h; exact .inr (by (try simp at h); omega))
 have hB1 := Box.ext (w := wa) (w' := w1) Xt hB1
 have hx1 : Ext w w1 := Xt
 have Hin2 := Lib.hid hin2
 clear h1 hxa hc0 hf0 hl0 hin1 hin2
 have hc1 := hB1.cells; have hf1 := hB1.free; have hl1 := hB1.lt
 go_wp2_with fail
 (with_reducible apply bp_ret); (focus (go_light; simp [results, Tryz.results89, go_sem, *]; rfl))
 exact ⟨ka1, kc1, la1, lc1, rfl, Hin2.out.keep (Held.kept (Held.mono (S := fun b => b ≠ w.heap.size + 1) (a := w1) Hxt (fun b h => by rcases h with h | h; (have := hSl.out b h; simp; omega); (simp; omega)))) (fun b h _ => by rcases h with h | h; exact .inl h; exact .inr (by omega)), Xt⟩
set_option maxRecDepth 100000 in
set_option maxHeartbeats 4000000 in
theorem add1_no (bx : Nat) (x : V) (ka : Option Addr) (kc : Nat) (la : Option Addr) (lc : Nat) (name : ByteArray) (S : Nat → Prop) (w : World) (hl : LibAt w) (hsz : x.size ≤ 1073741824) (hn : name.size ≤ 8000) (hin : x.In w S ka kc la lc) (h5 : x.k ≠ 5)
  (hno : x.k ≠ 4 ∨ (∀ i, idxV name x.l.length = some i → x.l.length < i)) :
  Calls Tryz.prog 89 #[x.val ka kc la lc, .string name, .pointer (some ⟨bx, 0, none⟩)] w (RetV2 S x (.int .i64 3) w) := by
 have hk5 : (x.k == 5) = false := by simpa using h5
 have Hin := Lib.hid hin
 have hll := x.len_l
 clear hin h5
 by_cases h4 : x.k = 4
 ·have hk4 : (x.k == 4) = true := by simpa using h4
  have Hno := Lib.hid (hno.resolve_left (fun h => h h4))
  clear hno h4
  cases hi : idxV name x.l.length with
  | none =>
   have Hi := Lib.hid hi
   clear hi
   go_enter Tryz.func89, Tryz.ntmps89
   go_upto_region 5 with fail
   refine gen_world (R := fun wx => Box wx w.heap.size #[.int .i64 x.k, .int .i64 x.n, .string x.s, .slice ka x.keys.length kc, .slice la x.l.length lc] 25 ∧ Box wx (w.heap.size + 1) #[.int .i64 0, .int .i64 0, .string ⟨#[]⟩, .slice none 0 0, .slice none 0 0] 25 ∧ Ext w wx) ⟨Bxt, Bxt, Xt⟩ ?_
   rintro wa ⟨hB0, hB1, hxa⟩
   have hc0 := hB0.cells; have hf0 := hB0.free; have hl0 := hB0.lt
   go_wp2_with fail
   (refine (index_any name x.l.length (by omega) (by omega) _ (hl.ext Xt)).mono ?_); rintro e w1 ⟨rfl, h1⟩
   rw [Hi.out]
   have hB0 := Box.ext (w := wa) (w' := w1) Xt hB0
   have hB1 := Box.ext (w := wa) (w' := w1) Xt hB1
   have hx1 : Ext w w1 := Xt
   clear h1 hxa hc0 hf0 hl0
   have hc0 := hB0.cells; have hf0 := hB0.free; have hl0 := hB0.lt
   have hc1 := hB1.cells; have hf1 := hB1.free; have hl1 := hB1.lt
   go_wp2_with fail
   (with_reducible apply bp_ret); (focus (go_light; simp [results, Tryz.results89, go_sem, *]; rfl))
   exact ⟨ka, kc, la, lc, rfl, (Hin.out.ext Xt).mono (fun b h _ => .inl h), Xt⟩
  | some i =>
   have hlt := Hno.out i hi
   have Hi := Lib.hid hi
   clear hi
   have hle : ¬ (i : Int) ≤ (x.l.length : Int) := by omega
   have hle2 : (x.l.length : Int) < (i : Int) := by omega
   go_enter Tryz.func89, Tryz.ntmps89
   go_upto_region 5 with fail
   refine gen_world (R := fun wx => Box wx w.heap.size #[.int .i64 x.k, .int .i64 x.n, .string x.s, .slice ka x.keys.length kc, .slice la x.l.length lc] 25 ∧ Box wx (w.heap.size + 1) #[.int .i64 0, .int .i64 0, .string ⟨#[]⟩, .slice none 0 0, .slice none 0 0] 25 ∧ Ext w wx) ⟨Bxt, Bxt, Xt⟩ ?_
   rintro wa ⟨hB0, hB1, hxa⟩
   have hc0 := hB0.cells; have hf0 := hB0.free; have hl0 := hB0.lt
   go_wp2_with fail
   (refine (index_any name x.l.length (by omega) (by omega) _ (hl.ext Xt)).mono ?_); rintro e w1 ⟨rfl, h1⟩
   rw [Hi.out]
   have hB0 := Box.ext (w := wa) (w' := w1) Xt hB0
   have hB1 := Box.ext (w := wa) (w' := w1) Xt hB1
   have hx1 : Ext w w1 := Xt
   clear h1 hxa hc0 hf0 hl0
   have hc0 := hB0.cells; have hf0 := hB0.free; have hl0 := hB0.lt
   have hc1 := hB1.cells; have hf1 := hB1.free; have hl1 := hB1.lt
   go_wp2_with fail
   (with_reducible apply bp_ret); (focus (go_light; simp [results, Tryz.results89, go_sem, *]; rfl))
   exact ⟨ka, kc, la, lc, rfl, (Hin.out.ext Xt).mono (fun b h _ => .inl h), Xt⟩
 ·have hk4 : (x.k == 4) = false := by simpa using h4
  clear hno h4
  go_enter Tryz.func89, Tryz.ntmps89
  go_wp2_with fail
  (with_reducible apply bp_ret); (focus (go_light; simp [results, Tryz.results89, go_sem, *]; rfl))
  exact ⟨ka, kc, la, lc, rfl, (Hin.out.ext Xt).mono (fun b h _ => .inl h), Xt⟩
end Go.Proofs.YtjibdbnpkfghhaaGreatDoor
