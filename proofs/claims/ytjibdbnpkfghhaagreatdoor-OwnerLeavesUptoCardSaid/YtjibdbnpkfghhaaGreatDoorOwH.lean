/- owner.Apply, whatever it is given; the laws' own owns (package stairwellkeep). -/
import Derived.Test.YtjibdbnpkfghhaaGreatDoorOwZ2
import Derived.Test.YtjibdbnpkfghhaaGreatDoorRd9
set_option linter.all false
namespace Go.Proofs.YtjibdbnpkfghhaaGreatDoor
open Go.RowKit
attribute [local go_sem ↓] Go.wp_at_zero Go.wp_at_succ
theorem apply_any (v : V) (ka : Option Addr) (kc : Nat) (la : Option Addr) (lc : Nat) (l : List Ow) (a : Option Addr) (c : Nat) (who : ByteArray) (want : V) (kb : Option Addr) (kd : Nat) (lb : Option Addr) (ld : Nat) (force : Bool) (S : Nat → Prop) (w : World)
    (hvz : v.size ≤ 1000000000) (hwz : want.size ≤ 1000000000) (hlz : owsSize l ≤ 2097152) (hhz : who.size ≤ 1073741824) (hok : SlOk a l.length c) (hin : v.In w S ka kc la lc) (hjn : OwsIn w S l a) (hkn : want.In w S kb kd lb ld) (hm : MaxAt w) :
    Calls Tryz.prog 15 #[v.val ka kc la lc, .slice a l.length c, .string who, want.val kb kd lb ld, .bool force] w (RetApply S (applyV v l who want force) w) := by
  unfold applyV
  cases hb : formB v l who want with
  | false =>
    rw [if_pos rfl]
    exact apply_bad v ka kc la lc l a c who want kb kd lb ld force S w hvz hwz hlz hhz hok hin hjn hkn hm hb
  | true =>
    rw [if_neg (by simp)]
    by_cases hc : confL v l who want ≠ [] ∧ force = false
    · rw [if_pos hc]
      exact apply_conf v ka kc la lc l a c who want kb kd lb ld force S w hvz hwz hlz hhz hok hin hjn hkn hm hb hc.1 hc.2
    · rw [if_neg hc]
      exact apply_main v ka kc la lc l a c who want kb kd lb ld force S w hvz hwz hlz hhz hok hin hjn hkn hm hb hc
theorem owns_facts : ∃ v : V, parseV (⟨#[123, 34, 97, 34, 58, 49, 44, 34, 98, 34, 58, 123, 34, 99, 34, 58, 50, 125, 125]⟩ : ByteArray).data.toList = (v, 0) ∧ applyV V.none5 [] ⟨#[109, 101]⟩ v false = (v, [⟨⟨#[109, 101]⟩, [⟨#[47, 97]⟩, ⟨#[47, 98, 47, 99]⟩]⟩], [], 0) ∧ v.size ≤ 1000 :=
  ⟨.mk 5 0 ⟨#[]⟩ [⟨#[97]⟩, ⟨#[98]⟩] [.mk 2 1 ⟨#[]⟩ [] [], .mk 5 0 ⟨#[]⟩ [⟨#[99]⟩] [.mk 2 2 ⟨#[]⟩ [] []]], by kernel_rfl, by kernel_rfl, by decide +kernel⟩
set_option maxRecDepth 100000 in
set_option maxHeartbeats 8000000 in
theorem owns_keep (w : World) (hl : LibAt w) : Calls Tryz.prog 20 #[] w fun e w' => e = .returned (.bool true) ∧ Ext w w' := by
  obtain ⟨v, hv1, hv2, hvs⟩ := owns_facts
  obtain ⟨q, hq⟩ : ∃ q : ByteArray, (⟨#[123, 34, 97, 34, 58, 49, 44, 34, 98, 34, 58, 123, 34, 99, 34, 58, 50, 125, 125]⟩ : ByteArray) = q := ⟨_, rfl⟩
  have hqs : q.size ≤ 1099511627776 := by rw [← hq]; decide
  have Hq := Lib.hid hq
  rw [hq] at hv1
  have Hv1 := Lib.hid hv1
  have Hv2 := Lib.hid hv2
  have Hss := Lib.hid (show v.same v = true from (same_iff v v).2 rfl)
  clear hq hv1 hv2
  go_enter Tryz.func20, Tryz.ntmps20
  go_wp2_with fail
  rw [Hq.out]
  (refine (parse_any q _ hqs (hl.ext Xt)).mono ?_)
  rw [Hv1.out]
  rintro e w1 ⟨ka, kc, la, lc, rfl, hin1, h1⟩
  have hx1 : Ext w w1 := Xt
  have Hin1 := Lib.hid (all_in hin1)
  clear h1 hin1
  go_upto_region 2 with fail
  refine gen_world (R := fun wx => Box wx w1.heap.size #[.int .i64 v.k, .int .i64 v.n, .string v.s, .slice ka v.keys.length kc, .slice la v.l.length lc] 25 ∧ v.In wx All ka kc la lc ∧ Ext w wx) ⟨Bxt, Hin1.out.ext Xt, Xt⟩ ?_
  clear Hin1
  rintro wb ⟨hB0, hinb, hxb⟩
  have Hinb := Lib.hid hinb
  clear hinb
  have hc0 := hB0.cells; have hf0 := hB0.free; have hl0 := hB0.lt
  go_wp2_with fail
  (refine (apply_any V.none5 none 0 none 0 [] none 0 ⟨#[109, 101]⟩ v ka kc la lc false All _ (by decide +kernel) (by omega) (by decide) (by decide) SlOk.nil ((V.in_iff ..).2 ⟨SlOk.nil, SlOk.nil, .inl rfl, .inl rfl⟩) (.inl rfl) (Hinb.out.ext Xt) (hl.max.ext Xt)).mono ?_)
  rw [Hv2.out]
  rintro e w2 ⟨k2, c2, l2, d2, a5, c5, a6, c6, rfl, hin2, hok5, how5, -, -, h2⟩
  have hx2 : Ext w w2 := Xt
  have hB0 := Box.ext (w' := w2) Xt hB0
  have Hinb := Lib.hid (V.In.ext (w' := w2) Hinb.out Xt)
  have Hin2 := Lib.hid (all_in hin2)
  clear h2 hin2 hc0 hf0 hl0 hxb
  go_upto_region 3 with fail
  refine gen_world (R := fun wx => Box wx w1.heap.size #[.int .i64 v.k, .int .i64 v.n, .string v.s, .slice ka v.keys.length kc, .slice la v.l.length lc] 25 ∧ Box wx w2.heap.size #[.int .i64 v.k, .int .i64 v.n, .string v.s, .slice k2 v.keys.length c2, .slice l2 v.l.length d2] 25 ∧ Ext w2 wx) ⟨Bxt, Bxt, Xt⟩ ?_
  clear hB0
  rintro wc ⟨hB0, hB1, hxc⟩
  have hxw : Ext w wc := hx2.trans hxc
  have Hinb := Lib.hid (V.In.ext Hinb.out hxc)
  have Hin2 := Lib.hid (V.In.ext Hin2.out hxc)
  obtain ⟨b, o, rfl, hSb, pa, pc, d0, d1, hsl, hst⟩ := (how5.ext hxc).item (i := 0) (by decide)
  have d1 : wc.cell? ⟨b, o + 1, none⟩ = some (.slice pa 2 pc) := d1
  obtain ⟨b2, o2, rfl, hS2, hC⟩ := hst.resolve_left (by simp)
  have e1 : wc.cell? ⟨b2, o2 + 1, none⟩ = some (.string ⟨#[47, 98, 47, 99]⟩) := hC 1 (by decide)
  clear how5 hst hC d0
  have hc0 := hB0.cells; have hf0 := hB0.free; have hl0 := hB0.lt
  have hc1 := hB1.cells; have hf1 := hB1.free; have hl1 := hB1.lt
  go_wp2_with fail
  (refine (sameJ_any v v k2 c2 l2 d2 _ ka kc la lc _ _ (by omega) (by omega) (Hin2.out.ext Xt) (Hinb.out.ext Xt)).mono ?_)
  rw [Hss.out]
  rintro e w3 ⟨rfl, h3⟩
  go_wp2_with fail
  go_ret
  exact ⟨rfl, Xt⟩
end Go.Proofs.YtjibdbnpkfghhaaGreatDoor
