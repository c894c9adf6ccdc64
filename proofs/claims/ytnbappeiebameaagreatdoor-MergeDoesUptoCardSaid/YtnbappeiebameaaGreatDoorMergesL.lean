/- The laws' merges (package stairwelllaw). -/
import Derived.Test.YtnbappeiebameaaGreatDoorMergeS
import Derived.Test.YtnbappeiebameaaGreatDoorRd9
set_option linter.all false
namespace Go.Proofs.YtnbappeiebameaaGreatDoor
open Go.RowKit
attribute [local go_sem ↓] Go.wp_at_zero Go.wp_at_succ

/-- What the laws' own merges asks. -/
theorem merges_facts2 : ∃ a p v : V, parseV (⟨#[123, 34, 97, 34, 58, 49, 44, 34, 98, 34, 58, 123, 34, 99, 34, 58, 50, 125, 125]⟩ : ByteArray).data.toList = (a, 0) ∧ parseV (⟨#[123, 34, 97, 34, 58, 110, 117, 108, 108, 44, 34, 98, 34, 58, 123, 34, 100, 34, 58, 51, 125, 125]⟩ : ByteArray).data.toList = (p, 0) ∧ mergeV a p = (v, 0) ∧
    printV v = ([123, 34, 98, 34, 58, 123, 34, 99, 34, 58, 50, 44, 34, 100, 34, 58, 51, 125, 125], 0) ∧ a.size ≤ 1073741824 ∧ p.size ≤ 1073741824 ∧ v.size ≤ 1073741824 :=
  ⟨.mk 5 0 ⟨#[]⟩ [⟨#[97]⟩, ⟨#[98]⟩] [.mk 2 1 ⟨#[]⟩ [] [], .mk 5 0 ⟨#[]⟩ [⟨#[99]⟩] [.mk 2 2 ⟨#[]⟩ [] []]], .mk 5 0 ⟨#[]⟩ [⟨#[97]⟩, ⟨#[98]⟩] [.mk 0 0 ⟨#[]⟩ [] [], .mk 5 0 ⟨#[]⟩ [⟨#[100]⟩] [.mk 2 3 ⟨#[]⟩ [] []]],
   .mk 5 0 ⟨#[]⟩ [⟨#[98]⟩] [.mk 5 0 ⟨#[]⟩ [⟨#[99]⟩, ⟨#[100]⟩] [.mk 2 2 ⟨#[]⟩ [] [], .mk 2 3 ⟨#[]⟩ [] []]], by kernel_rfl, by kernel_rfl, by kernel_rfl, by kernel_rfl, by decide +kernel, by decide +kernel, by decide +kernel⟩
set_option maxRecDepth 100000 in
set_option maxHeartbeats 8000000 in
theorem merges_law (w : World) (hl : LibAt w) : Calls Tryz.prog 57 #[] w fun e w' => e = .returned (.bool true) ∧ Ext w w' := by
  obtain ⟨a, p, v, h1, h2, h3, h4, ha, hp, hv⟩ := merges_facts2
  obtain ⟨q1, hq1⟩ : ∃ q : ByteArray, (⟨#[123, 34, 97, 34, 58, 49, 44, 34, 98, 34, 58, 123, 34, 99, 34, 58, 50, 125, 125]⟩ : ByteArray) = q := ⟨_, rfl⟩
  obtain ⟨q2, hq2⟩ : ∃ q : ByteArray, (⟨#[123, 34, 97, 34, 58, 110, 117, 108, 108, 44, 34, 98, 34, 58, 123, 34, 100, 34, 58, 51, 125, 125]⟩ : ByteArray) = q := ⟨_, rfl⟩
  have hs1 : q1.size ≤ 1099511627776 := by rw [← hq1]; decide
  have hs2 : q2.size ≤ 1099511627776 := by rw [← hq2]; decide
  have Hq1 := Lib.hid hq1
  have Hq2 := Lib.hid hq2
  rw [hq1] at h1
  rw [hq2] at h2
  have H1 := Lib.hid h1
  have H2 := Lib.hid h2
  have H3 := Lib.hid h3
  have H4 := Lib.hid h4
  clear hq1 hq2 h1 h2 h3 h4
  go_enter Tryz.func57, Tryz.ntmps57
  go_wp2_with fail
  rw [Hq1.out]
  (refine (parse_any q1 _ hs1 (hl.ext Xt)).mono ?_)
  rw [H1.out]
  rintro e w1 ⟨ka1, kc1, la1, lc1, rfl, hin1, h1⟩
  have hx1 : Ext w w1 := Xt
  have Hin1 := Lib.hid (all_in hin1)
  clear h1 hin1
  go_upto_region 2 with fail
  refine gen_world (R := fun wx => Box wx w1.heap.size #[.int .i64 a.k, .int .i64 a.n, .string a.s, .slice ka1 a.keys.length kc1, .slice la1 a.l.length lc1] 25 ∧ a.In wx All ka1 kc1 la1 lc1 ∧ Ext w wx) ⟨Bxt, Hin1.out.ext Xt, Xt⟩ ?_
  clear Hin1 hx1
  rintro wa ⟨hB1, hin1, hxa⟩
  have Hin1 := Lib.hid hin1
  clear hin1
  go_wp2_with fail
  rw [Hq2.out]
  (refine (parse_any q2 _ hs2 (hl.ext Xt)).mono ?_)
  rw [H2.out]
  rintro e w2 ⟨ka2, kc2, la2, lc2, rfl, hin2, h2⟩
  have hx2 := hxa.trans h2
  have hB1 := Box.ext h2 hB1
  have Hin1 := Lib.hid (V.In.ext (w' := w2) Hin1.out h2)
  have Hin2 := Lib.hid (all_in hin2)
  clear h2 hin2 hxa
  go_upto_region 3 with fail
  refine gen_world (R := fun wx => Box wx w1.heap.size #[.int .i64 a.k, .int .i64 a.n, .string a.s, .slice ka1 a.keys.length kc1, .slice la1 a.l.length lc1] 25 ∧ Box wx w2.heap.size #[.int .i64 p.k, .int .i64 p.n, .string p.s, .slice ka2 p.keys.length kc2, .slice la2 p.l.length lc2] 25 ∧ a.In wx All ka1 kc1 la1 lc1 ∧ p.In wx All ka2 kc2 la2 lc2 ∧ Ext w wx) ⟨Bxt, Bxt, Hin1.out.ext Xt, Hin2.out.ext Xt, Xt⟩ ?_
  clear hB1 Hin1 Hin2 hx2
  rintro wb ⟨hB1, hB2, hin1, hin2, hxb⟩
  have Hin1 := Lib.hid hin1
  have Hin2 := Lib.hid hin2
  clear hin1 hin2
  have hc1 := hB1.cells; have hf1 := hB1.free; have hl1 := hB1.lt
  have hc2 := hB2.cells; have hf2 := hB2.free; have hl2 := hB2.lt
  go_wp2_with fail
  (refine (mergeS_any a ka1 kc1 la1 lc1 p ka2 kc2 la2 lc2 All _ ha hp (Hin1.out.ext Xt) (Hin2.out.ext Xt)).mono ?_)
  rw [H3.out]
  rintro e w3 ⟨ka3, kc3, la3, lc3, rfl, hin3, h3⟩
  have hx3 := hxb.trans h3
  have Hin3 := Lib.hid (all_in hin3)
  clear h3 hin3 hxb hc1 hf1 hl1 hc2 hf2 hl2 hB1 hB2 Hin1 Hin2
  go_upto_region 4 with fail
  refine gen_world (R := fun wx => Box wx w3.heap.size #[.int .i64 v.k, .int .i64 v.n, .string v.s, .slice ka3 v.keys.length kc3, .slice la3 v.l.length lc3] 25 ∧ v.In wx All ka3 kc3 la3 lc3 ∧ Ext w wx) ⟨Bxt, Hin3.out.ext Xt, Xt⟩ ?_
  clear Hin3 hx3
  rintro wc ⟨hB3, hin3, hxc⟩
  have Hin3 := Lib.hid hin3
  clear hin3
  have hc3 := hB3.cells; have hf3 := hB3.free; have hl3 := hB3.lt
  go_wp2_with fail
  (refine (print_any v ka3 kc3 la3 lc3 _ _ hv (Hin3.out.ext Xt) (hl.ext Xt)).mono ?_)
  rw [H4.out]
  rintro e w4 ⟨rfl, h4⟩
  have e1 : (⟨([123, 34, 98, 34, 58, 123, 34, 99, 34, 58, 50, 44, 34, 100, 34, 58, 51, 125, 125] : Bytes).toArray⟩ : ByteArray) = ⟨#[123, 34, 98, 34, 58, 123, 34, 99, 34, 58, 50, 44, 34, 100, 34, 58, 51, 125, 125]⟩ := rfl
  simp only [e1]
  clear e1
  go_wp2_with fail
  go_ret
  exact ⟨by simp, Xt⟩
end Go.Proofs.YtnbappeiebameaaGreatDoor
