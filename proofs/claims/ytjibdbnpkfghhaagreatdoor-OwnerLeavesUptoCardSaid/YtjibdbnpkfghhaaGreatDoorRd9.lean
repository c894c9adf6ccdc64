/- The walk of json.Parse, and of the laws' own reads. -/
import Derived.Test.YtjibdbnpkfghhaaGreatDoorRd8
import Derived.Test.YtjibdbnpkfghhaaGreatDoorPkB
set_option linter.all false
namespace Go.Proofs.YtjibdbnpkfghhaaGreatDoor
open Go.RowKit
attribute [local go_sem ↓] Go.wp_at_zero Go.wp_at_succ
theorem parse_some {s : Bytes} {v : V} {t : Bytes} (hl : ¬ 2000 < s.length) (h : valL 12 s = some (v, t)) : parseV s = if spaceL t = [] ∧ v.fine = true then (v, 0) else (V.zero, 1) := by
 unfold parseV parseL
 rw [if_neg hl, h]
 simp only [Option.bind_some]
 by_cases hc : spaceL t = [] ∧ v.fine = true
 ·rw [if_pos hc, if_pos hc]
 ·rw [if_neg hc, if_neg hc]
theorem parse_none {s : Bytes} (hl : ¬ 2000 < s.length) (h : valL 12 s = none) : parseV s = (V.zero, 1) := by
 unfold parseV parseL
 rw [if_neg hl, h]; rfl
def ParseR (r : V × Int) (w : World) (e : Ending) (w' : World) : Prop := ∃ (ka : Option Addr) (kc : Nat) (la : Option Addr) (lc : Nat), e = .returned (.tuple #[r.1.val ka kc la lc, .int .i64 r.2]) ∧ r.1.In w' (fun b => w.heap.size ≤ b) ka kc la lc ∧ Ext w w'
theorem LibAt.libB {w wr : World} (h : LibAt w) (hx : Ext w wr) {r : Nat} (hr : w.heap.size ≤ r) : LibB r wr := fun w' hb => h.ext (Below.trans hx (Below.mono hb hr))
set_option maxRecDepth 100000 in
set_option maxHeartbeats 8000000 in
theorem parse_any (s : ByteArray) (w : World) (hm : s.size ≤ 1099511627776) (hl : LibAt w) : Calls Tryz.prog 9 #[.string s] w (ParseR (parseV s.data.toList) w) := by
 have hsl : s.data.toList.length = s.size := Array.length_toList
 by_cases hlo : 2000 < s.size
 ·have Hp := Lib.hid (show parseV s.data.toList = (V.zero, 2) by unfold parseV; rw [if_pos (by omega)])
  clear hsl
  go_enter Tryz.func9, Tryz.ntmps9
  go_wp2_with fail
  (with_reducible apply bp_ret); (focus (go_light; simp [results, Tryz.results9, go_sem, *]; rfl))
  rw [Hp.out]
  exact ⟨none, 0, none, 0, rfl, V.zero_in _ _, Xt⟩
 ·have hlo2 : ¬ 2000 < s.data.toList.length := by omega
  have Hlo2 := Lib.hid hlo2
  clear hlo2 hsl
  go_enter Tryz.func9, Tryz.ntmps9
  go_upto_region 4 with fail
  refine gen_world (R := fun wx => Box wx w.heap.size #[.int .i64 0, .int .i64 0, .string ⟨#[]⟩, .slice none 0 0, .slice none 0 0] 25 ∧ Sr wx (w.heap.size + 1) s false ∧ Ext w wx) ⟨Bxt, Srt, Xt⟩ ?_
  rintro wa ⟨hB, hr, hxa⟩
  have hlta := hr.lt
  go_wp2_with fail
  (refine (value_any 12 (by omega) (w.heap.size + 1) 1 s false _ rfl (fun h => by cases h) (by omega) hr (hl.libB hxa (by omega))).mono ?_)
  rintro e w1 ⟨h1, v, ka, kc, la, lc, s1, bad1, rfl, hin1, hr1, hcase⟩
  have hB1 := Box.rd h1 hB (by omega)
  have hx1 : Ext w w1 := Below.trans hxa (Below.mono h1.below (by omega))
  have hz1 := h1.size
  have Hin1 := Lib.hid (show v.In w1 (fun b => w.heap.size + 2 ≤ b) ka kc la lc from hin1.mono fun b hb _ => by omega)
  have Hcase := Lib.hid hcase
  clear hcase hin1 h1 hB hr
  go_upto_region 5 with fail
  refine gen_world (R := fun wx => Box wx w.heap.size #[.int .i64 0, .int .i64 0, .string ⟨#[]⟩, .slice none 0 0, .slice none 0 0] 25 ∧ Sr wx (w.heap.size + 1) s1 bad1 ∧ Box wx w1.heap.size #[.int .i64 v.k, .int .i64 v.n, .string v.s, .slice ka v.keys.length kc, .slice la v.l.length lc] 25 ∧ v.In wx (fun b => w.heap.size + 2 ≤ b) ka kc la lc ∧ Ext w wx) ⟨Bxt, Srt, Bxt, Hin1.out.ext Xt, Xt⟩ ?_
  clear hB1 hr1 Hin1 hx1
  rintro wb ⟨hB0, hrb, hBv, hinb, hxb⟩
  have Hinb := Lib.hid hinb
  clear hinb
  go_wp2_with fail
  (refine (space_any (w.heap.size + 1) s1 bad1 _ hrb).mono ?_); rintro e w2 ⟨rfl, ⟨s2, hs2, hr2⟩, h2⟩
  have hB0 := Box.rd h2 hB0 (by omega)
  have hBv := Box.rd h2 hBv (by omega)
  have hx2 : Ext w w2 := Below.trans hxb (Below.mono h2.below (by omega))
  have Hin2 := Lib.hid (In.rd h2 Hinb.out (fun b h => by omega))
  have Hs2 := Lib.hid hs2
  clear hs2 h2 hrb Hinb hxb
  have hc0 := hB0.cells; have hf0 := hB0.free; have hl0 := hB0.lt
  have hcv := hBv.cells; have hfv := hBv.free; have hlv := hBv.lt
  have hcr := hr2.cells
  have hfr := hr2.free
  have hlr := hr2.lt
  cases bad1 with
  | true =>
   have Hp := Lib.hid (parse_none Hlo2.out (by rcases Hcase.out with ⟨h, -⟩ | ⟨-, -, h⟩; cases h; exact h))
   go_wp2_with fail
   (with_reducible apply bp_ret); (focus (go_light; simp [results, Tryz.results9, go_sem, *]; rfl))
   rw [Hp.out]
   exact ⟨none, 0, none, 0, rfl, V.zero_in _ _, Xt⟩
  | false =>
   have hval : valL 12 s.data.toList = some (v, s1.data.toList) := by rcases Hcase.out with ⟨-, h⟩ | ⟨h, -⟩; exact h; cases h
   have hvs : v.size ≤ 1073741824 := by
    have h1 := valL_size 12 _ _ hval
    have h2 : s.data.toList.length = s.size := Array.length_toList
    simp only at h1; omega
   have Hps := Lib.hid (parse_some Hlo2.out hval)
   clear hval Hcase
   by_cases he : s2.data.toList = []
   ·have hz1 : s2.toList = [] := by rw [ByteArray.toList_eq, he]
    have hz2 : (s2.toList == []) = true := by rw [hz1]; rfl
    have hz3 : s2.toList.isEmpty = true := by rw [hz1]; rfl
    have hz4 : (s2.toList != []) = false := by rw [hz1]; rfl
    have hz5 : (!s2.toList.isEmpty) = false := by rw [hz3]; rfl
    have He := Lib.hid (Hs2.out.symm.trans he)
    clear he
    go_wp2_with fail
    (refine (fine_any v ka kc la lc _ _ hvs (Hin2.out.ext Xt)).mono ?_); rintro e w3 ⟨rfl, h3⟩
    have hB3 := Box.ext h3 hB0
    have hBv3 := Box.ext h3 hBv
    have hx3 : Ext w w3 := Xt
    have Hin3 := Lib.hid (V.In.ext (w' := w3) Hin2.out Xt)
    clear hc0 hf0 hl0 hcv hfv hlv
    clear h3 hB0 hBv hx2 Hin2
    have hc0 := hB3.cells; have hf0 := hB3.free; have hl0 := hB3.lt
    have hcv := hBv3.cells; have hfv := hBv3.free; have hlv := hBv3.lt
    cases hf : v.fine with
    | true =>
     have Hp := Lib.hid (show parseV s.data.toList = (v, 0) by rw [Hps.out, if_pos ⟨He.out, hf⟩])
     clear hf
     go_wp2_with fail
     (with_reducible apply bp_ret); (focus (go_light; simp [results, Tryz.results9, go_sem, *]; rfl))
     rw [Hp.out]
     exact ⟨ka, kc, la, lc, rfl, Hin3.out.keep (Held.kept (a := w3) (T := fun b => w.heap.size + 2 ≤ b) Hxt) (fun b hb _ => by omega), Xt⟩
    | false =>
     have Hp := Lib.hid (show parseV s.data.toList = (V.zero, 1) by rw [Hps.out, if_neg (fun h => by rw [hf] at h; exact absurd h.2 (by decide))])
     clear hf
     go_wp2_with fail
     (with_reducible apply bp_ret); (focus (go_light; simp [results, Tryz.results9, go_sem, *]; rfl))
     rw [Hp.out]
     exact ⟨none, 0, none, 0, rfl, V.zero_in _ _, Xt⟩
   ·have hz1 : ¬ s2.toList = [] := by rw [ByteArray.toList_eq]; exact he
    have hz3 : s2.toList.isEmpty = false := by cases h : s2.toList with | nil => exact absurd h hz1 | cons => rfl
    have hz2 : (s2.toList == []) = false := by simpa using hz1
    have hz4 : (s2.toList != []) = true := by simpa using hz1
    have hz5 : (!s2.toList.isEmpty) = true := by rw [hz3]; rfl
    have Hp := Lib.hid (show parseV s.data.toList = (V.zero, 1) by rw [Hps.out, if_neg (fun h => he (Hs2.out.trans h.1))])
    clear he
    go_wp2_with fail
    (with_reducible apply bp_ret); (focus (go_light; simp [results, Tryz.results9, go_sem, *]; rfl))
    rw [Hp.out]
    exact ⟨none, 0, none, 0, rfl, V.zero_in _ _, Xt⟩
end Go.Proofs.YtjibdbnpkfghhaaGreatDoor
