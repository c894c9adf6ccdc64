/- The walks of stairwellkeep.pathsOf, sameTexts. -/
import Derived.Test.YtjibdbnpkfghhaaGreatDoorPkR
import Derived.Test.YtjibdbnpkfghhaaGreatDoorPkQ
set_option linter.all false
namespace Go.Proofs.YtjibdbnpkfghhaaGreatDoor
open Go.RowKit
attribute [local go_sem ↓] Go.wp_at_zero Go.wp_at_succ

set_option maxHeartbeats 2000000 in
theorem sameTextsK_any (ks : List ByteArray) (a1 a2 : Option Addr) (n1 n2 c1 c2 : Nat) (S1 S2 : Nat → Prop) (w : World) (h1 : StrsIn w S1 a1 ks) (h2 : StrsIn w S2 a2 ks) (e1 : ks.length = n1) (e2 : ks.length = n2) (hl : ks.length ≤ 1073741824) :
  Calls Tryz.prog 21 #[.slice a1 n1 c1, .slice a2 n2 c2] w fun e w' => e = .returned (.bool true) ∧ Ext w w' := by
 subst e1
 subst e2
 go_enter Tryz.func21, Tryz.ntmps21
 go_wp2_with fail
 go_loopg [5, 13] ks.length (fun g _ i wr => ∃ k : Nat, k ≤ ks.length ∧ i = .int .i64 k ∧ g = ks.length - k ∧ Ext w wr)
 case atStart => exact ⟨0, by omega, rfl, rfl, Ext.refl _⟩
 case round =>
  obtain ⟨k, hk, rfl, rfl, hx⟩ := hrel
  by_cases hlt : k < ks.length
  ·obtain ⟨b1, o1, rfl, hS1, hc1⟩ := h1.resolve_left (by intro h; rw [h] at hlt; simp at hlt)
   obtain ⟨b2, o2, rfl, hS2, hc2⟩ := h2.resolve_left (by intro h; rw [h] at hlt; simp at hlt)
   have d0 := hx.cell (hc1 k hlt)
   have d1 := hx.cell (hc2 k hlt)
   have hki0 : (0 : Int) ≤ (k : Int) := by omega
   have hki1 : (k : Int) < (ks.length : Int) := by omega
   clear hc1 hc2 h1 h2
   go_wp2_with fail
   go_quiet (fail)
   go_wp2_with fail
   go_roundg (ks.length - (k + 1))
   case measure => omega
   case rel => exact ⟨k + 1, by omega, by go_num, rfl, Xt⟩
  ·clear h1 h2
   go_wp2_with fail
   go_ret
   exact ⟨rfl, Xt⟩

theorem find_drop {l : List Ow} {who : ByteArray} {k : Nat} (h : k < l.length) : pathsOfL (l.drop k) who = if l[k].name = who then l[k].paths else pathsOfL (l.drop (k + 1)) who := by
 rw [List.drop_eq_getElem_cons h]
 unfold pathsOfL
 rw [List.find?_cons]
 by_cases he : l[k].name = who
 ·rw [decide_eq_true he, if_pos he]
 ·rw [decide_eq_false he, if_neg he]

/-- A call that gives texts that may be older than it. -/
def RetStrsO (S : Nat → Prop) (r : List ByteArray) (w : World) (e : Ending) (w' : World) : Prop :=
 ∃ a c, e = .returned (.slice a r.length c) ∧ SlOk a r.length c ∧ StrsIn w' S a r ∧ Ext w w'
set_option maxHeartbeats 4000000 in
theorem pathsOf_any (l : List Ow) (a : Option Addr) (c : Nat) (who : ByteArray) (T : Nat → Prop) (w : World) (hlz : l.length ≤ 1073741824) (hjn : OwsIn w T l a) :
  Calls Tryz.prog 22 #[.slice a l.length c, .string who] w (RetStrsO T (pathsOfL l who) w) := by
 have Hjn := Lib.hid hjn
 clear hjn
 go_enter Tryz.func22, Tryz.ntmps22
 go_wp2_with fail
 go_loopg [9] l.length (fun g i wr => ∃ (k : Nat), k ≤ l.length ∧ i = .int .i64 k ∧ g = l.length - k ∧ pathsOfL (l.drop k) who = pathsOfL l who ∧ Ext w wr)
 case atStart => exact ⟨0, Nat.zero_le _, rfl, rfl, rfl, Xt⟩
 case round =>
  obtain ⟨k, hk, rfl, rfl, hps, hx⟩ := hrel
  have Hps := Lib.hid hps
  clear hps
  by_cases hlt : k < l.length
  ·obtain ⟨b, o, rfl, hSb, pa, pc, d0, d1, hsl, hst⟩ := (Hjn.out.ext hx).item hlt
   have Hd := Lib.hid (find_drop (who := who) hlt)
   obtain ⟨ow, how⟩ : ∃ ow, l[k] = ow := ⟨_, rfl⟩
   rw [how] at d0 d1 hsl hst Hd
   have Hst := Lib.hid hst
   clear how hst
   go_upto_region 4 with fail
   refine gen_world (R := fun wx => Box wx wr.heap.size #[.string ow.name, .slice pa ow.paths.length pc] 42 ∧ Ext wr wx) ⟨Bxt, Xt⟩ ?_
   rintro wb ⟨hB6, hxb⟩
   have hxw : Ext w wb := hx.trans hxb
   have hc6 := hB6.cells; have hf6 := hB6.free; have hl6 := hB6.lt
   by_cases he : ow.name = who
   ·have hb := eqb_of he
    have Hr := Lib.hid (show pathsOfL l who = ow.paths by rw [← Hps.out, Hd.out, if_pos he])
    clear he
    go_wp2_with fail
    go_ret
    rw [Hr.out]
    exact ⟨_, _, rfl, hsl, Hst.out.ext Xt, Xt⟩
   ·have hb := neb_of he
    have Hr := Lib.hid (show pathsOfL (l.drop (k + 1)) who = pathsOfL l who by rw [← Hps.out, Hd.out, if_neg he])
    clear he
    go_wp2_with fail
    go_roundg (l.length - (k + 1))
    case measure => omega
    case rel => exact ⟨k + 1, by omega, by go_num, rfl, Hr.out, Xt⟩
  ·have Hr := Lib.hid (show pathsOfL l who = [] by rw [← Hps.out, List.drop_eq_nil_of_le (by omega)]; rfl)
   go_wp2_with fail
   go_ret
   rw [Hr.out]
   exact ⟨none, 0, rfl, SlOk.nil, .inl rfl, Xt⟩

end Go.Proofs.YtjibdbnpkfghhaaGreatDoor
