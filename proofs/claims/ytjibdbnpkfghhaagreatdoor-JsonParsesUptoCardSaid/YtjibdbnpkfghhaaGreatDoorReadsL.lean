/- The laws' reads (package stairwelllaw). -/
import Derived.Test.YtjibdbnpkfghhaaGreatDoorRd9
set_option linter.all false
namespace Go.Proofs.YtjibdbnpkfghhaaGreatDoor
open Go.RowKit
attribute [local go_sem ↓] Go.wp_at_zero Go.wp_at_succ

/-- What the laws' own reads asks. -/
theorem reads_facts2 : ∃ v : V, parseV (⟨#[32, 123, 34, 98, 34, 58, 32, 91, 49, 44, 32, 110, 117, 108, 108, 93, 44, 32, 34, 97, 34, 58, 32, 34, 120, 92, 117, 48, 48, 52, 49, 34, 125]⟩ : ByteArray).data.toList = (v, 0) ∧
    printV v = ([123, 34, 97, 34, 58, 34, 120, 65, 34, 44, 34, 98, 34, 58, 91, 49, 44, 110, 117, 108, 108, 93, 125], 0) ∧ v.size ≤ 1073741824 :=
  ⟨.mk 5 0 ⟨#[]⟩ [⟨#[97]⟩, ⟨#[98]⟩] [.mk 3 0 ⟨#[120, 65]⟩ [] [], .mk 4 0 ⟨#[]⟩ [] [.mk 2 1 ⟨#[]⟩ [] [], .mk 0 0 ⟨#[]⟩ [] []]], by kernel_rfl, by kernel_rfl, by decide +kernel⟩
set_option maxRecDepth 100000 in
set_option maxHeartbeats 8000000 in
theorem reads_law (w : World) (hl : LibAt w) : Calls Tryz.prog 12 #[] w fun e w' => e = .returned (.bool true) ∧ Ext w w' := by
  obtain ⟨v, hv1, hv2, hvs⟩ := reads_facts2
  obtain ⟨q, hq⟩ : ∃ q : ByteArray, (⟨#[32, 123, 34, 98, 34, 58, 32, 91, 49, 44, 32, 110, 117, 108, 108, 93, 44, 32, 34, 97, 34, 58, 32, 34, 120, 92, 117, 48, 48, 52, 49, 34, 125]⟩ : ByteArray) = q := ⟨_, rfl⟩
  have hqs : q.size ≤ 1099511627776 := by rw [← hq]; decide
  have Hq := Lib.hid hq
  rw [hq] at hv1
  have Hv1 := Lib.hid hv1
  have Hv2 := Lib.hid hv2
  clear hq hv1 hv2
  go_enter Tryz.func12, Tryz.ntmps12
  go_wp2_with fail
  rw [Hq.out]
  (refine (parse_any q _ hqs (hl.ext Xt)).mono ?_)
  rw [Hv1.out]
  rintro e w1 ⟨ka, kc, la, lc, rfl, hin1, h1⟩
  have hx1 : Ext w w1 := Xt
  have Hin1 := Lib.hid hin1
  clear h1 hin1
  go_upto_region 2 with fail
  refine gen_world (R := fun wx => Box wx w1.heap.size #[.int .i64 v.k, .int .i64 v.n, .string v.s, .slice ka v.keys.length kc, .slice la v.l.length lc] 25 ∧ v.In wx (fun b => w.heap.size ≤ b) ka kc la lc ∧ Ext w wx) ⟨Bxt, Hin1.out.ext Xt, Xt⟩ ?_
  rintro wb ⟨hB, hinb, hxb⟩
  have Hinb := Lib.hid hinb
  clear hinb Hin1
  have hc1 := hB.cells; have hf1 := hB.free; have hl1 := hB.lt
  go_wp2_with fail
  (refine (print_any v ka kc la lc _ _ hvs (Hinb.out.ext Xt) (hl.ext Xt)).mono ?_)
  rw [Hv2.out]
  rintro e w2 ⟨rfl, h2⟩
  have e1 : (⟨([123, 34, 97, 34, 58, 34, 120, 65, 34, 44, 34, 98, 34, 58, 91, 49, 44, 110, 117, 108, 108, 93, 125] : Bytes).toArray⟩ : ByteArray) = ⟨#[123, 34, 97, 34, 58, 34, 120, 65, 34, 44, 34, 98, 34, 58, 91, 49, 44, 110, 117, 108, 108, 93, 125]⟩ := rfl
  simp only [e1]
  clear e1
  go_wp2_with fail
  go_ret
  exact ⟨by simp, Xt⟩
end Go.Proofs.YtjibdbnpkfghhaaGreatDoor
