/- MergeDiffs: for all values the law returns true (what is other, merged into the first, makes the second); the arguments hold together at most 1048576 values and letters; the library's listed variables as its text lays them. -/
import Derived.Test.YtnoijoglkbbgjaaGreatDoorPkC
import Derived.Test.YtnoijoglkbbgjaaGreatDoorLibAt
import Derived.Test.YtnoijoglkbbgjaaGreatDoorPkL
import Derived.Test.YtnoijoglkbbgjaaGreatDoorMergeT
import Derived.HandedShaped
import Derived.SevenTiedAt
set_option linter.all false
namespace Go.Proofs.YtnoijoglkbbgjaaGreatDoor.lawMergeDiffs
open Go.ChangeShapes Go.WideShapes Go.ChangeAt Go.RowKit
open Go.ChangeMaps (open_string shut_string)
section
attribute [local go_sem ↓] Go.wp_at_zero Go.wp_at_succ

set_option maxRecDepth 100000 in
set_option maxHeartbeats 8000000 in
theorem walk (x : V) (ka0 : Option Addr) (kc0 : Nat) (la0 : Option Addr) (lc0 : Nat) (y : V) (ka1 : Option Addr) (kc1 : Nat) (la1 : Option Addr) (lc1 : Nat) (w : World) (hl : LibAt w) (hs0 : x.size ≤ 4194304) (hs1 : y.size ≤ 4194304) (hin0 : x.In w All ka0 kc0 la0 lc0) (hin1 : y.In w All ka1 kc1 la1 lc1) :
    Calls Tryz.prog 10 #[x.val ka0 kc0 la0 lc0, y.val ka1 kc1 la1 lc1] w fun e w' => e = .returned (.bool true) ∧ Ext w w' := by
  have Hin0 := Lib.hid hin0
  have Hin1 := Lib.hid hin1
  clear hin0 hin1
  obtain ⟨v, hv⟩ : ∃ v, (diffV x y).1 = v := ⟨_, rfl⟩
  obtain ⟨er, her⟩ : ∃ er, (diffV x y).2 = er := ⟨_, rfl⟩
  have Hm := Lib.hid (show diffV x y = (v, er) from Prod.ext hv her)
  by_cases h0 : er = 0
  · subst h0
    have hvs : v.size ≤ 1073741824 := by
      obtain ⟨-, -, -, h3, h4⟩ := diff_ok her
      have := fine_size h3
      rw [h4] at hv
      rw [← hv]; simp only; omega
    have h2 := diff_merge her
    rw [hv] at h2
    have Hm2 := Lib.hid h2
    clear hv her h2
    go_enter Tryz.func10, Tryz.ntmps10
    go_upto_region 1 with fail
    refine gen_world (R := fun wx => Box wx w.heap.size #[.int .i64 x.k, .int .i64 x.n, .string x.s, .slice ka0 x.keys.length kc0, .slice la0 x.l.length lc0] 25 ∧ x.In wx All ka0 kc0 la0 lc0 ∧ Box wx (w.heap.size + 1) #[.int .i64 y.k, .int .i64 y.n, .string y.s, .slice ka1 y.keys.length kc1, .slice la1 y.l.length lc1] 25 ∧ y.In wx All ka1 kc1 la1 lc1 ∧ Ext w wx) ⟨Bxt, Hin0.out.ext Xt, Bxt, Hin1.out.ext Xt, Xt⟩ ?_
    clear Hin0 Hin1
    rintro wa ⟨hB0, hin0, hB1, hin1, hx_wa⟩
    have Hin0 := Lib.hid hin0
    have Hin1 := Lib.hid hin1
    clear hin0 hin1
    have hc0 := hB0.cells; have hf0 := hB0.free; have hl0 := hB0.lt
    have hc1 := hB1.cells; have hf1 := hB1.free; have hl1 := hB1.lt
    go_wp2_with fail
    (refine (diff_any x ka0 kc0 la0 lc0 y ka1 kc1 la1 lc1 _ (by omega) (by omega) (Hin0.out.ext Xt) (Hin1.out.ext Xt)).mono ?_)
    rw [Hm.out]
    rintro e w1 ⟨ka2, kc2, la2, lc2, rfl, hin_, h_w1⟩
    have hB0 := Box.ext h_w1 hB0
    have Hin0 := Lib.hid (V.In.ext (w' := w1) Hin0.out h_w1)
    have hB1 := Box.ext h_w1 hB1
    have Hin1 := Lib.hid (V.In.ext (w' := w1) Hin1.out h_w1)
    have hx_w1 := hx_wa.trans h_w1
    clear hc0 hf0 hl0 hc1 hf1 hl1
    clear h_w1 hx_wa
    have Hin2 := Lib.hid (all_in hin_)
    clear hin_
    go_upto_region 2 with fail
    refine gen_world (R := fun wx => Box wx w.heap.size #[.int .i64 x.k, .int .i64 x.n, .string x.s, .slice ka0 x.keys.length kc0, .slice la0 x.l.length lc0] 25 ∧ x.In wx All ka0 kc0 la0 lc0 ∧ Box wx (w.heap.size + 1) #[.int .i64 y.k, .int .i64 y.n, .string y.s, .slice ka1 y.keys.length kc1, .slice la1 y.l.length lc1] 25 ∧ y.In wx All ka1 kc1 la1 lc1 ∧ Box wx w1.heap.size #[.int .i64 v.k, .int .i64 v.n, .string v.s, .slice ka2 v.keys.length kc2, .slice la2 v.l.length lc2] 25 ∧ v.In wx All ka2 kc2 la2 lc2 ∧ Ext w wx) ⟨Bxt, Hin0.out.ext Xt, Bxt, Hin1.out.ext Xt, Bxt, Hin2.out.ext Xt, Xt⟩ ?_
    clear hB0 Hin0 hB1 Hin1 Hin2 hx_w1
    rintro wvw1 ⟨hB0, hin0, hB1, hin1, hB2, hin2, hx_wvw1⟩
    have Hin0 := Lib.hid hin0
    have Hin1 := Lib.hid hin1
    have Hin2 := Lib.hid hin2
    clear hin0 hin1 hin2
    go_wp2_with fail
    (refine (merges_keep _ (hl.ext Xt)).mono ?_)
    rintro e w2 ⟨rfl, h_w2⟩
    have hB0 := Box.ext h_w2 hB0
    have Hin0 := Lib.hid (V.In.ext (w' := w2) Hin0.out h_w2)
    have hB1 := Box.ext h_w2 hB1
    have Hin1 := Lib.hid (V.In.ext (w' := w2) Hin1.out h_w2)
    have hB2 := Box.ext h_w2 hB2
    have Hin2 := Lib.hid (V.In.ext (w' := w2) Hin2.out h_w2)
    have hx_w2 := hx_wvw1.trans h_w2
    clear h_w2 hx_wvw1
    have hc0 := hB0.cells; have hf0 := hB0.free; have hl0 := hB0.lt
    have hc2 := hB2.cells; have hf2 := hB2.free; have hl2 := hB2.lt
    go_wp2_with fail
    (refine (merge_any x ka0 kc0 la0 lc0 v ka2 kc2 la2 lc2 _ (by omega) (by omega) (Hin0.out.ext Xt) (Hin2.out.ext Xt)).mono ?_)
    rw [Hm2.out]
    rintro e w3 ⟨ka3, kc3, la3, lc3, rfl, hin_, h_w3⟩
    have hB0 := Box.ext h_w3 hB0
    have Hin0 := Lib.hid (V.In.ext (w' := w3) Hin0.out h_w3)
    have hB1 := Box.ext h_w3 hB1
    have Hin1 := Lib.hid (V.In.ext (w' := w3) Hin1.out h_w3)
    have hB2 := Box.ext h_w3 hB2
    have Hin2 := Lib.hid (V.In.ext (w' := w3) Hin2.out h_w3)
    have hx_w3 := hx_w2.trans h_w3
    clear hc0 hf0 hl0 hc2 hf2 hl2
    clear h_w3 hx_w2
    have Hin3 := Lib.hid (all_in hin_)
    clear hin_
    go_upto_region 5 with fail
    refine gen_world (R := fun wx => Box wx w.heap.size #[.int .i64 x.k, .int .i64 x.n, .string x.s, .slice ka0 x.keys.length kc0, .slice la0 x.l.length lc0] 25 ∧ x.In wx All ka0 kc0 la0 lc0 ∧ Box wx (w.heap.size + 1) #[.int .i64 y.k, .int .i64 y.n, .string y.s, .slice ka1 y.keys.length kc1, .slice la1 y.l.length lc1] 25 ∧ y.In wx All ka1 kc1 la1 lc1 ∧ Box wx w1.heap.size #[.int .i64 v.k, .int .i64 v.n, .string v.s, .slice ka2 v.keys.length kc2, .slice la2 v.l.length lc2] 25 ∧ v.In wx All ka2 kc2 la2 lc2 ∧ Box wx w3.heap.size #[.int .i64 y.k, .int .i64 y.n, .string y.s, .slice ka3 y.keys.length kc3, .slice la3 y.l.length lc3] 25 ∧ y.In wx All ka3 kc3 la3 lc3 ∧ Ext w wx) ⟨Bxt, Hin0.out.ext Xt, Bxt, Hin1.out.ext Xt, Bxt, Hin2.out.ext Xt, Bxt, Hin3.out.ext Xt, Xt⟩ ?_
    clear hB0 Hin0 hB1 Hin1 hB2 Hin2 Hin3 hx_w3
    rintro wvw3 ⟨hB0, hin0, hB1, hin1, hB2, hin2, hB3, hin3, hx_wvw3⟩
    have Hin0 := Lib.hid hin0
    have Hin1 := Lib.hid hin1
    have Hin2 := Lib.hid hin2
    have Hin3 := Lib.hid hin3
    clear hin0 hin1 hin2 hin3
    have hc1 := hB1.cells; have hf1 := hB1.free; have hl1 := hB1.lt
    have hc3 := hB3.cells; have hf3 := hB3.free; have hl3 := hB3.lt
    go_wp2_with fail
    (refine (same_any y y rfl (by omega) ka3 kc3 la3 lc3 ka1 kc1 la1 lc1 All All _ (Hin3.out.ext Xt) (Hin1.out.ext Xt)).mono ?_)
    rintro e w4 ⟨rfl, h_w4⟩
    have hB0 := Box.ext h_w4 hB0
    have Hin0 := Lib.hid (V.In.ext (w' := w4) Hin0.out h_w4)
    have hB1 := Box.ext h_w4 hB1
    have Hin1 := Lib.hid (V.In.ext (w' := w4) Hin1.out h_w4)
    have hB2 := Box.ext h_w4 hB2
    have Hin2 := Lib.hid (V.In.ext (w' := w4) Hin2.out h_w4)
    have hB3 := Box.ext h_w4 hB3
    have Hin3 := Lib.hid (V.In.ext (w' := w4) Hin3.out h_w4)
    have hx_w4 := hx_wvw3.trans h_w4
    clear hc1 hf1 hl1 hc3 hf3 hl3
    clear h_w4 hx_wvw3
    go_wp2_with fail
    go_ret
    exact ⟨rfl, Xt⟩
  · have hx := diff_bad (by rw [her]; exact h0)
    rw [hv] at hx
    have h0b : (er != 0) = true := by simpa using h0
    have Hz := Lib.hid hx
    have hvs : v.size ≤ 1073741824 := by rw [hx, V.size_eq]; decide
    clear hv her h0 hx
    go_enter Tryz.func10, Tryz.ntmps10
    go_upto_region 1 with fail
    refine gen_world (R := fun wx => Box wx w.heap.size #[.int .i64 x.k, .int .i64 x.n, .string x.s, .slice ka0 x.keys.length kc0, .slice la0 x.l.length lc0] 25 ∧ x.In wx All ka0 kc0 la0 lc0 ∧ Box wx (w.heap.size + 1) #[.int .i64 y.k, .int .i64 y.n, .string y.s, .slice ka1 y.keys.length kc1, .slice la1 y.l.length lc1] 25 ∧ y.In wx All ka1 kc1 la1 lc1 ∧ Ext w wx) ⟨Bxt, Hin0.out.ext Xt, Bxt, Hin1.out.ext Xt, Xt⟩ ?_
    clear Hin0 Hin1
    rintro wa ⟨hB0, hin0, hB1, hin1, hx_wa⟩
    have Hin0 := Lib.hid hin0
    have Hin1 := Lib.hid hin1
    clear hin0 hin1
    have hc0 := hB0.cells; have hf0 := hB0.free; have hl0 := hB0.lt
    have hc1 := hB1.cells; have hf1 := hB1.free; have hl1 := hB1.lt
    go_wp2_with fail
    (refine (diff_any x ka0 kc0 la0 lc0 y ka1 kc1 la1 lc1 _ (by omega) (by omega) (Hin0.out.ext Xt) (Hin1.out.ext Xt)).mono ?_)
    rw [Hm.out]
    rintro e w1 ⟨ka2, kc2, la2, lc2, rfl, hin_, h_w1⟩
    have hB0 := Box.ext h_w1 hB0
    have Hin0 := Lib.hid (V.In.ext (w' := w1) Hin0.out h_w1)
    have hB1 := Box.ext h_w1 hB1
    have Hin1 := Lib.hid (V.In.ext (w' := w1) Hin1.out h_w1)
    have hx_w1 := hx_wa.trans h_w1
    clear hc0 hf0 hl0 hc1 hf1 hl1
    clear h_w1 hx_wa
    have Hin2 := Lib.hid (all_in hin_)
    clear hin_
    go_upto_region 2 with fail
    refine gen_world (R := fun wx => Box wx w.heap.size #[.int .i64 x.k, .int .i64 x.n, .string x.s, .slice ka0 x.keys.length kc0, .slice la0 x.l.length lc0] 25 ∧ x.In wx All ka0 kc0 la0 lc0 ∧ Box wx (w.heap.size + 1) #[.int .i64 y.k, .int .i64 y.n, .string y.s, .slice ka1 y.keys.length kc1, .slice la1 y.l.length lc1] 25 ∧ y.In wx All ka1 kc1 la1 lc1 ∧ Box wx w1.heap.size #[.int .i64 v.k, .int .i64 v.n, .string v.s, .slice ka2 v.keys.length kc2, .slice la2 v.l.length lc2] 25 ∧ v.In wx All ka2 kc2 la2 lc2 ∧ Ext w wx) ⟨Bxt, Hin0.out.ext Xt, Bxt, Hin1.out.ext Xt, Bxt, Hin2.out.ext Xt, Xt⟩ ?_
    clear hB0 Hin0 hB1 Hin1 Hin2 hx_w1
    rintro wvw1 ⟨hB0, hin0, hB1, hin1, hB2, hin2, hx_wvw1⟩
    have Hin0 := Lib.hid hin0
    have Hin1 := Lib.hid hin1
    have Hin2 := Lib.hid hin2
    clear hin0 hin1 hin2
    have hc2 := hB2.cells; have hf2 := hB2.free; have hl2 := hB2.lt
    go_wp2_with fail
    (refine (same_any v V.zero Hz.out.symm hvs ka2 kc2 la2 lc2 none 0 none 0 All All _ (Hin2.out.ext Xt) (V.zero_in _ _)).mono ?_)
    rintro e w2 ⟨rfl, h_w2⟩
    have hB0 := Box.ext h_w2 hB0
    have Hin0 := Lib.hid (V.In.ext (w' := w2) Hin0.out h_w2)
    have hB1 := Box.ext h_w2 hB1
    have Hin1 := Lib.hid (V.In.ext (w' := w2) Hin1.out h_w2)
    have hB2 := Box.ext h_w2 hB2
    have Hin2 := Lib.hid (V.In.ext (w' := w2) Hin2.out h_w2)
    have hx_w2 := hx_wvw1.trans h_w2
    clear hc2 hf2 hl2
    clear h_w2 hx_wvw1
    go_wp2_with fail
    (refine (merges_keep _ (hl.ext Xt)).mono ?_)
    rintro e w3 ⟨rfl, h_w3⟩
    have hB0 := Box.ext h_w3 hB0
    have Hin0 := Lib.hid (V.In.ext (w' := w3) Hin0.out h_w3)
    have hB1 := Box.ext h_w3 hB1
    have Hin1 := Lib.hid (V.In.ext (w' := w3) Hin1.out h_w3)
    have hB2 := Box.ext h_w3 hB2
    have Hin2 := Lib.hid (V.In.ext (w' := w3) Hin2.out h_w3)
    have hx_w3 := hx_w2.trans h_w3
    clear h_w3 hx_w2
    go_wp2_with fail
    go_ret
    exact ⟨rfl, Xt⟩
end
set_option maxRecDepth 100000 in
theorem lifted (os : Os) (started : os.Started) (H : Type) (enc : TypeId × Value → H) (Fi : Stop.Interp) :
    ReturnsInHanded {} Tryz.checked os 10 .any ((Rows.OpenSpec.upto Rows.mergeDiffsSpec).preRow enc Tryz.prog Tryz.f10 Rows.mergeDiffsUptoRow.domain false Rows.mergeDiffsUptoRow.laid) (((Rows.OpenSpec.upto Rows.mergeDiffsSpec).at Fi).post enc Tryz.prog Tryz.f10 false true false false) := by
  obtain ⟨places, hx⟩ : ∃ places, DataW.whole enc Tryz.prog ((start.laidWorld os).forCall (fun _ _ => 0) ⟨#[], #[.agg #[.int .i64 0, .int .i64 0, .string ⟨#[]⟩, .slice none 0 0, .slice none 0 0], .agg #[.int .i64 0, .int .i64 0, .string ⟨#[]⟩, .slice none 0 0, .slice none 0 0]], []⟩).memory Tryz.f10.params.toList Rows.mergeDiffsSpec.vars false (#[.agg #[.int .i64 0, .int .i64 0, .string ⟨#[]⟩, .slice none 0 0, .slice none 0 0], .agg #[.int .i64 0, .int .i64 0, .string ⟨#[]⟩, .slice none 0 0, .slice none 0 0]]).toList 8 = some ([.agg [.lit (.int .i64 0), .lit (.int .i64 0), .lit (.string []), .nil, .nil], .agg [.lit (.int .i64 0), .lit (.int .i64 0), .lit (.string []), .nil, .nil]], [], places) := ⟨[], by kernel_rfl⟩
  refine returnsInHanded_of_row (C := Tryz.checked) (s := Rows.OpenSpec.upto Rows.mergeDiffsSpec) Tryz.own started (by kernel_rfl) Tryz.func10
    (witness_row_atRef (enc := enc) (C := Tryz.checked) false (start.laidWorld os) #[.agg #[.int .i64 0, .int .i64 0, .string ⟨#[]⟩, .slice none 0 0, .slice none 0 0], .agg #[.int .i64 0, .int .i64 0, .string ⟨#[]⟩, .slice none 0 0, .slice none 0 0]] rfl (by kernel_rfl) (by kernel_rfl) (by kernel_rfl)
      (OpenSpec.preRow_of_cond 8 hx (by kernel_rfl) (fun k hk => by cases hk; kernel_rfl) (by kernel_rfl) (start.laid_met os _))) ?_
  intro W base args ds gs before hval0 hW _ hk _ hL hsh _
  have hkb := hk _ rfl
  have hval : ∀ (j : Nat) t v, Tryz.f10.params[j]? = some t → args[j]? = some v → Value.okWide Tryz.prog W .any base t v := hval0
  have hW' := hW
  obtain ⟨p, q, hA0, hV, rfl, hfz, hnd⟩ := hW
  have hA : DataW.TrodAll enc Tryz.prog W 0 (fun _ => true) true Tryz.f10.params.toList args.toList ds p := hA0
  rw [Tryz.params10] at hA hval
  obtain ⟨v0, vs0, d0, ds0, p0, q0, hargs, rfl, rfl, h0, r0⟩ := trodAll_cons hA
  obtain ⟨v1, vs1, d1, ds1, p1, q1, rfl, rfl, rfl, h1, r1⟩ := trodAll_cons r0
  obtain ⟨rfl, rfl, rfl⟩ := trodAll_nil r1
  obtain rfl : args = #[v0, v1] := by cases args; simp_all
  obtain ⟨rfl, rfl⟩ := trodVars_none hV
  have hbulk : Rows.uptoBulkAll [d0, d1] ≤ 1048576 := by simpa [Rows.uptoSmall] using hkb
  have k0 := h0
  have k1 := h1
  have lt0 : ∀ x ∈ p0, x.block < W.heap.size := by obtain ⟨m, hm⟩ := k0; exact DataW.trod_lt m _ _ _ hm
  have lt1 : ∀ x ∈ p1, x.block < W.heap.size := by obtain ⟨m, hm⟩ := k1; exact DataW.trod_lt m _ _ _ hm
  have hlib := libAt_of hsh hL
  obtain ⟨x0, ka0, kc0, la0, lc0, rfl, hin0, hxb0⟩ := open_value (hval 0 25 v0 rfl rfl) h0
  obtain ⟨x1, ka1, kc1, la1, lc1, rfl, hin1, hxb1⟩ := open_value (hval 1 25 v1 rfl rfl) h1
  simp only [Rows.uptoBulkAll, Rows.uptoBulk] at hbulk
  clear hA0 hval0
  refine (walk x0 ka0 kc0 la0 lc0 x1 ka1 kc1 la1 lc1 W hlib (by omega) (by omega) (all_in hin0) (all_in hin1)).mono fun e W' ⟨he, bel⟩ => ?_
  subst he
  exact ⟨_, rfl, _, _, _, [], _, [], hW', trodAll_mk1 (shut_bool Tryz.underlying4 _), (trodAll_cons_mk (Below.trod Tryz.laidOut (by kernel_rfl) (of_decide_eq_true (by kernel_rfl)) k0 bel lt0) (trodAll_cons_mk (Below.trod Tryz.laidOut (by kernel_rfl) (of_decide_eq_true (by kernel_rfl)) k1 bel lt1) trodAll_mk0)), rfl, Below.frame bel _, fun h => by cases h⟩
theorem said : Rows.MergeDiffsUptoSaid :=
  OpenClaim.holds_of_cond 10 Tryz.f10 rfl rfl rfl rfl rfl rfl rfl ⟨rfl, rfl, rfl, rfl, rfl⟩ rfl rfl rfl rfl rfl (by kernel_rfl) Tryz.func10 (by kernel_rfl)
    (of_decide_eq_true (by kernel_rfl)) (by unfold Func.isWrapper; first | (rw [if_pos (by decide +kernel)]; kernel_rfl) | (rw [if_neg (by decide +kernel)]; exact ⟨rfl, rfl⟩))
    (fun os started H enc _ F => by rw [OpenClaim.pre_eq_preRow]; exact lifted os started H enc F)
theorem plain (f : FuncId) (fn : Func) (hf : Tryz.pinned.checked.prog.funcNamed "stairwell/stairwellkeep.MergeDiffs" = some f) (hfn : Tryz.pinned.checked.prog.funcs[f]? = some fn) :
    true = Tryz.pinned.checked.prog.looks [] ∧ ∀ (j : Nat) t, fn.params[j]? = some t → Tryz.pinned.checked.prog.wantsStandIn t = false := by
  obtain rfl : f = 10 := Option.some.inj ((show Tryz.prog.funcNamed "stairwell/stairwellkeep.MergeDiffs" = some 10 by kernel_rfl).symm.trans hf) |>.symm
  obtain rfl : fn = Tryz.f10 := (Option.some.inj (Tryz.func10.symm.trans hfn)).symm
  refine ⟨by kernel_rfl, fun j t ht => ?_⟩
  rw [Tryz.params10] at ht
  have h : t = 25 := by simpa using Array.mem_of_getElem? ht
  rcases h with rfl
  · exact (show Tryz.prog.wantsStandIn 25 = false by kernel_rfl)
theorem proved : Rows.MergeDiffsUptoCardSaid :=
  Claim7.holds_tied_plain_at .later [] _ _ _ _ said (fun _ h => by cases h) (by kernel_rfl) (fun _ h => by cases h) mergeDiffsUpto_row_tie rfl ⟨rfl, rfl⟩ (by kernel_rfl) rfl plain (by kernel_rfl)
end Go.Proofs.YtnoijoglkbbgjaaGreatDoor.lawMergeDiffs
