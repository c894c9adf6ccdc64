/- MergeSame: for every value the law returns true (nothing is other than itself, and merging nothing changes nothing); the arguments hold together at most 1048576 values and letters; the library's listed variables as its text lays them. -/
import Derived.Test.YtnoijoglkbbgjaaGreatDoorPkC
import Derived.Test.YtnoijoglkbbgjaaGreatDoorLibAt
import Derived.Test.YtnoijoglkbbgjaaGreatDoorPkL
import Derived.Test.YtnoijoglkbbgjaaGreatDoorMergeT
import Derived.HandedShaped
import Derived.SevenTiedAt
set_option linter.all false
namespace Go.Proofs.YtnoijoglkbbgjaaGreatDoor.lawMergeSame
open Go.ChangeShapes Go.WideShapes Go.ChangeAt Go.RowKit
open Go.ChangeMaps (open_string shut_string)
section
attribute [local go_sem ↓] Go.wp_at_zero Go.wp_at_succ

set_option maxRecDepth 100000 in
set_option maxHeartbeats 8000000 in
theorem walk (x : V) (ka0 : Option Addr) (kc0 : Nat) (la0 : Option Addr) (lc0 : Nat) (w : World) (hl : LibAt w) (hs0 : x.size ≤ 4194304) (hin0 : x.In w All ka0 kc0 la0 lc0) :
    Calls Tryz.prog 11 #[x.val ka0 kc0 la0 lc0] w fun e w' => e = .returned (.bool true) ∧ Ext w w' := by
  have Hin0 := Lib.hid hin0
  clear hin0
  cases hf : x.fine with
  | false =>
    have Hf := Lib.hid hf
    clear hf
    go_enter Tryz.func11, Tryz.ntmps11
    go_upto_region 1 with fail
    refine gen_world (R := fun wx => Box wx w.heap.size #[.int .i64 x.k, .int .i64 x.n, .string x.s, .slice ka0 x.keys.length kc0, .slice la0 x.l.length lc0] 25 ∧ x.In wx All ka0 kc0 la0 lc0 ∧ Ext w wx) ⟨Bxt, Hin0.out.ext Xt, Xt⟩ ?_
    clear Hin0
    rintro wa ⟨hB0, hin0, hx_wa⟩
    have Hin0 := Lib.hid hin0
    clear hin0
    have hc0 := hB0.cells; have hf0 := hB0.free; have hl0 := hB0.lt
    go_wp2_with fail
    (refine (fine_any x ka0 kc0 la0 lc0 _ _ (by omega) (Hin0.out.ext Xt)).mono ?_)
    rintro e w1 ⟨rfl, h_w1⟩
    have hB0 := Box.ext h_w1 hB0
    have Hin0 := Lib.hid (V.In.ext (w' := w1) Hin0.out h_w1)
    have hx_w1 := hx_wa.trans h_w1
    clear hc0 hf0 hl0
    clear h_w1 hx_wa
    rw [Hf.out]
    go_wp2_with fail
    (refine (merges_keep _ (hl.ext Xt)).mono ?_)
    rintro e w8 ⟨rfl, h_w8⟩
    have hB0 := Box.ext h_w8 hB0
    have Hin0 := Lib.hid (V.In.ext (w' := w8) Hin0.out h_w8)
    have hx_w8 := hx_w1.trans h_w8
    clear h_w8 hx_w1
    go_wp2_with fail
    go_ret
    exact ⟨rfl, Xt⟩
  | true =>
    have Hf := Lib.hid hf
    have hxs := fine_size hf
    clear hf
    cases hc : x.clean with
    | false =>
      have Hc := Lib.hid hc
      clear hc
      go_enter Tryz.func11, Tryz.ntmps11
      go_upto_region 1 with fail
      refine gen_world (R := fun wx => Box wx w.heap.size #[.int .i64 x.k, .int .i64 x.n, .string x.s, .slice ka0 x.keys.length kc0, .slice la0 x.l.length lc0] 25 ∧ x.In wx All ka0 kc0 la0 lc0 ∧ Ext w wx) ⟨Bxt, Hin0.out.ext Xt, Xt⟩ ?_
      clear Hin0
      rintro wa ⟨hB0, hin0, hx_wa⟩
      have Hin0 := Lib.hid hin0
      clear hin0
      have hc0 := hB0.cells; have hf0 := hB0.free; have hl0 := hB0.lt
      go_wp2_with fail
      (refine (fine_any x ka0 kc0 la0 lc0 _ _ (by omega) (Hin0.out.ext Xt)).mono ?_)
      rintro e w1 ⟨rfl, h_w1⟩
      have hB0 := Box.ext h_w1 hB0
      have Hin0 := Lib.hid (V.In.ext (w' := w1) Hin0.out h_w1)
      have hx_w1 := hx_wa.trans h_w1
      clear hc0 hf0 hl0
      clear h_w1 hx_wa
      rw [Hf.out]
      have hc0 := hB0.cells; have hf0 := hB0.free; have hl0 := hB0.lt
      go_wp2_with fail
      (refine (clean_any x.size x ka0 kc0 la0 lc0 _ _ (Nat.le_refl _) (by omega) (Hin0.out.ext Xt)).mono ?_)
      rintro e w2 ⟨rfl, h_w2⟩
      have hB0 := Box.ext h_w2 hB0
      have Hin0 := Lib.hid (V.In.ext (w' := w2) Hin0.out h_w2)
      have hx_w2 := hx_w1.trans h_w2
      clear hc0 hf0 hl0
      clear h_w2 hx_w1
      rw [Hc.out]
      go_wp2_with fail
      (refine (merges_keep _ (hl.ext Xt)).mono ?_)
      rintro e w8 ⟨rfl, h_w8⟩
      have hB0 := Box.ext h_w8 hB0
      have Hin0 := Lib.hid (V.In.ext (w' := w8) Hin0.out h_w8)
      have hx_w8 := hx_w2.trans h_w8
      clear h_w8 hx_w2
      go_wp2_with fail
      go_ret
      exact ⟨rfl, Xt⟩
    | true =>
      have Hc := Lib.hid hc
      clear hc
      by_cases h5 : x.k = 5
      · have h5b : (x.k != 5) = false := by simpa using h5
        have Hd := Lib.hid (diff_self Hf.out Hc.out h5)
        have Hm := Lib.hid (merge_none5 Hf.out h5)
        obtain ⟨n5, hn5⟩ : ∃ n5, V.none5 = n5 := ⟨_, rfl⟩
        have hnk : (n5.k == 5) = true := by rw [← hn5]; rfl
        have hnl : n5.l.length = 0 := by rw [← hn5]; rfl
        have Hn5 := Lib.hid hn5
        clear h5 hn5
        go_enter Tryz.func11, Tryz.ntmps11
        go_upto_region 1 with fail
        refine gen_world (R := fun wx => Box wx w.heap.size #[.int .i64 x.k, .int .i64 x.n, .string x.s, .slice ka0 x.keys.length kc0, .slice la0 x.l.length lc0] 25 ∧ x.In wx All ka0 kc0 la0 lc0 ∧ Ext w wx) ⟨Bxt, Hin0.out.ext Xt, Xt⟩ ?_
        clear Hin0
        rintro wa ⟨hB0, hin0, hx_wa⟩
        have Hin0 := Lib.hid hin0
        clear hin0
        have hc0 := hB0.cells; have hf0 := hB0.free; have hl0 := hB0.lt
        go_wp2_with fail
        (refine (fine_any x ka0 kc0 la0 lc0 _ _ (by omega) (Hin0.out.ext Xt)).mono ?_)
        rintro e w1 ⟨rfl, h_w1⟩
        have hB0 := Box.ext h_w1 hB0
        have Hin0 := Lib.hid (V.In.ext (w' := w1) Hin0.out h_w1)
        have hx_w1 := hx_wa.trans h_w1
        clear hc0 hf0 hl0
        clear h_w1 hx_wa
        rw [Hf.out]
        have hc0 := hB0.cells; have hf0 := hB0.free; have hl0 := hB0.lt
        go_wp2_with fail
        (refine (clean_any x.size x ka0 kc0 la0 lc0 _ _ (Nat.le_refl _) (by omega) (Hin0.out.ext Xt)).mono ?_)
        rintro e w2 ⟨rfl, h_w2⟩
        have hB0 := Box.ext h_w2 hB0
        have Hin0 := Lib.hid (V.In.ext (w' := w2) Hin0.out h_w2)
        have hx_w2 := hx_w1.trans h_w2
        clear hc0 hf0 hl0
        clear h_w2 hx_w1
        rw [Hc.out]
        have hc0 := hB0.cells; have hf0 := hB0.free; have hl0 := hB0.lt
        go_wp2_with fail
        (refine (diff_any x ka0 kc0 la0 lc0 x ka0 kc0 la0 lc0 _ (by omega) (by omega) (Hin0.out.ext Xt) (Hin0.out.ext Xt)).mono ?_)
        rw [Hd.out, Hn5.out]
        rintro e w3 ⟨ka1, kc1, la1, lc1, rfl, hin_, h_w3⟩
        have hB0 := Box.ext h_w3 hB0
        have Hin0 := Lib.hid (V.In.ext (w' := w3) Hin0.out h_w3)
        have hx_w3 := hx_w2.trans h_w3
        clear hc0 hf0 hl0
        clear h_w3 hx_w2
        have Hin1 := Lib.hid (all_in hin_)
        clear hin_
        go_upto_region 4 with fail
        refine gen_world (R := fun wx => Box wx w.heap.size #[.int .i64 x.k, .int .i64 x.n, .string x.s, .slice ka0 x.keys.length kc0, .slice la0 x.l.length lc0] 25 ∧ x.In wx All ka0 kc0 la0 lc0 ∧ Box wx w3.heap.size #[.int .i64 n5.k, .int .i64 n5.n, .string n5.s, .slice ka1 n5.keys.length kc1, .slice la1 n5.l.length lc1] 25 ∧ n5.In wx All ka1 kc1 la1 lc1 ∧ Ext w wx) ⟨Bxt, Hin0.out.ext Xt, Bxt, Hin1.out.ext Xt, Xt⟩ ?_
        clear hB0 Hin0 Hin1 hx_w3
        rintro wvw3 ⟨hB0, hin0, hB1, hin1, hx_wvw3⟩
        have Hin0 := Lib.hid hin0
        have Hin1 := Lib.hid hin1
        clear hin0 hin1
        have hc0 := hB0.cells; have hf0 := hB0.free; have hl0 := hB0.lt
        go_wp2_with fail
        (refine (merge_any x ka0 kc0 la0 lc0 V.none5 none 0 none 0 _ (by omega) (by decide) (Hin0.out.ext Xt) ((V.in_iff ..).2 ⟨SlOk.nil, SlOk.nil, .inl rfl, .inl rfl⟩)).mono ?_)
        rw [Hm.out]
        rintro e w4 ⟨ka2, kc2, la2, lc2, rfl, hin_, h_w4⟩
        have hB0 := Box.ext h_w4 hB0
        have Hin0 := Lib.hid (V.In.ext (w' := w4) Hin0.out h_w4)
        have hB1 := Box.ext h_w4 hB1
        have Hin1 := Lib.hid (V.In.ext (w' := w4) Hin1.out h_w4)
        have hx_w4 := hx_wvw3.trans h_w4
        clear hc0 hf0 hl0
        clear h_w4 hx_wvw3
        have Hin2 := Lib.hid (all_in hin_)
        clear hin_
        go_upto_region 5 with fail
        refine gen_world (R := fun wx => Box wx w.heap.size #[.int .i64 x.k, .int .i64 x.n, .string x.s, .slice ka0 x.keys.length kc0, .slice la0 x.l.length lc0] 25 ∧ x.In wx All ka0 kc0 la0 lc0 ∧ Box wx w3.heap.size #[.int .i64 n5.k, .int .i64 n5.n, .string n5.s, .slice ka1 n5.keys.length kc1, .slice la1 n5.l.length lc1] 25 ∧ n5.In wx All ka1 kc1 la1 lc1 ∧ Box wx w4.heap.size #[.int .i64 x.k, .int .i64 x.n, .string x.s, .slice ka2 x.keys.length kc2, .slice la2 x.l.length lc2] 25 ∧ x.In wx All ka2 kc2 la2 lc2 ∧ Ext w wx) ⟨Bxt, Hin0.out.ext Xt, Bxt, Hin1.out.ext Xt, Bxt, Hin2.out.ext Xt, Xt⟩ ?_
        clear hB0 Hin0 hB1 Hin1 Hin2 hx_w4
        rintro wvw4 ⟨hB0, hin0, hB1, hin1, hB2, hin2, hx_wvw4⟩
        have Hin0 := Lib.hid hin0
        have Hin1 := Lib.hid hin1
        have Hin2 := Lib.hid hin2
        clear hin0 hin1 hin2
        have hc0 := hB0.cells; have hf0 := hB0.free; have hl0 := hB0.lt
        have hc1 := hB1.cells; have hf1 := hB1.free; have hl1 := hB1.lt
        have hc2 := hB2.cells; have hf2 := hB2.free; have hl2 := hB2.lt
        go_wp2_with fail
        (refine (same_any x x rfl (by omega) ka2 kc2 la2 lc2 ka0 kc0 la0 lc0 All All _ (Hin2.out.ext Xt) (Hin0.out.ext Xt)).mono ?_)
        rintro e w5 ⟨rfl, h_w5⟩
        have hB0 := Box.ext h_w5 hB0
        have Hin0 := Lib.hid (V.In.ext (w' := w5) Hin0.out h_w5)
        have hB1 := Box.ext h_w5 hB1
        have Hin1 := Lib.hid (V.In.ext (w' := w5) Hin1.out h_w5)
        have hB2 := Box.ext h_w5 hB2
        have Hin2 := Lib.hid (V.In.ext (w' := w5) Hin2.out h_w5)
        have hx_w5 := hx_wvw4.trans h_w5
        clear hc0 hf0 hl0 hc1 hf1 hl1 hc2 hf2 hl2
        clear h_w5 hx_wvw4
        go_wp2_with fail
        (refine (merges_keep _ (hl.ext Xt)).mono ?_)
        rintro e w6 ⟨rfl, h_w6⟩
        have hB0 := Box.ext h_w6 hB0
        have Hin0 := Lib.hid (V.In.ext (w' := w6) Hin0.out h_w6)
        have hB1 := Box.ext h_w6 hB1
        have Hin1 := Lib.hid (V.In.ext (w' := w6) Hin1.out h_w6)
        have hB2 := Box.ext h_w6 hB2
        have Hin2 := Lib.hid (V.In.ext (w' := w6) Hin2.out h_w6)
        have hx_w6 := hx_w5.trans h_w6
        clear h_w6 hx_w5
        go_wp2_with fail
        go_ret
        exact ⟨rfl, Xt⟩
      · have h5b : (x.k != 5) = true := by simpa using h5
        clear h5
        go_enter Tryz.func11, Tryz.ntmps11
        go_upto_region 1 with fail
        refine gen_world (R := fun wx => Box wx w.heap.size #[.int .i64 x.k, .int .i64 x.n, .string x.s, .slice ka0 x.keys.length kc0, .slice la0 x.l.length lc0] 25 ∧ x.In wx All ka0 kc0 la0 lc0 ∧ Ext w wx) ⟨Bxt, Hin0.out.ext Xt, Xt⟩ ?_
        clear Hin0
        rintro wa ⟨hB0, hin0, hx_wa⟩
        have Hin0 := Lib.hid hin0
        clear hin0
        have hc0 := hB0.cells; have hf0 := hB0.free; have hl0 := hB0.lt
        go_wp2_with fail
        (refine (fine_any x ka0 kc0 la0 lc0 _ _ (by omega) (Hin0.out.ext Xt)).mono ?_)
        rintro e w1 ⟨rfl, h_w1⟩
        have hB0 := Box.ext h_w1 hB0
        have Hin0 := Lib.hid (V.In.ext (w' := w1) Hin0.out h_w1)
        have hx_w1 := hx_wa.trans h_w1
        clear hc0 hf0 hl0
        clear h_w1 hx_wa
        rw [Hf.out]
        have hc0 := hB0.cells; have hf0 := hB0.free; have hl0 := hB0.lt
        go_wp2_with fail
        (refine (clean_any x.size x ka0 kc0 la0 lc0 _ _ (Nat.le_refl _) (by omega) (Hin0.out.ext Xt)).mono ?_)
        rintro e w2 ⟨rfl, h_w2⟩
        have hB0 := Box.ext h_w2 hB0
        have Hin0 := Lib.hid (V.In.ext (w' := w2) Hin0.out h_w2)
        have hx_w2 := hx_w1.trans h_w2
        clear hc0 hf0 hl0
        clear h_w2 hx_w1
        rw [Hc.out]
        have hc0 := hB0.cells; have hf0 := hB0.free; have hl0 := hB0.lt
        go_wp2_with fail
        (refine (merges_keep _ (hl.ext Xt)).mono ?_)
        rintro e w8 ⟨rfl, h_w8⟩
        have hB0 := Box.ext h_w8 hB0
        have Hin0 := Lib.hid (V.In.ext (w' := w8) Hin0.out h_w8)
        have hx_w8 := hx_w2.trans h_w8
        clear hc0 hf0 hl0
        clear h_w8 hx_w2
        go_wp2_with fail
        go_ret
        exact ⟨rfl, Xt⟩
end
set_option maxRecDepth 100000 in
theorem lifted (os : Os) (started : os.Started) (H : Type) (enc : TypeId × Value → H) (Fi : Stop.Interp) :
    ReturnsInHanded {} Tryz.checked os 11 .any ((Rows.OpenSpec.upto Rows.mergeSameSpec).preRow enc Tryz.prog Tryz.f11 Rows.mergeSameUptoRow.domain false Rows.mergeSameUptoRow.laid) (((Rows.OpenSpec.upto Rows.mergeSameSpec).at Fi).post enc Tryz.prog Tryz.f11 false true false false) := by
  obtain ⟨places, hx⟩ : ∃ places, DataW.whole enc Tryz.prog ((start.laidWorld os).forCall (fun _ _ => 0) ⟨#[], #[.agg #[.int .i64 0, .int .i64 0, .string ⟨#[]⟩, .slice none 0 0, .slice none 0 0]], []⟩).memory Tryz.f11.params.toList Rows.mergeSameSpec.vars false (#[.agg #[.int .i64 0, .int .i64 0, .string ⟨#[]⟩, .slice none 0 0, .slice none 0 0]]).toList 8 = some ([.agg [.lit (.int .i64 0), .lit (.int .i64 0), .lit (.string []), .nil, .nil]], [], places) := ⟨[], by kernel_rfl⟩
  refine returnsInHanded_of_row (C := Tryz.checked) (s := Rows.OpenSpec.upto Rows.mergeSameSpec) Tryz.own started (by kernel_rfl) Tryz.func11
    (witness_row_atRef (enc := enc) (C := Tryz.checked) false (start.laidWorld os) #[.agg #[.int .i64 0, .int .i64 0, .string ⟨#[]⟩, .slice none 0 0, .slice none 0 0]] rfl (by kernel_rfl) (by kernel_rfl) (by kernel_rfl)
      (OpenSpec.preRow_of_cond 8 hx (by kernel_rfl) (fun k hk => by cases hk; kernel_rfl) (by kernel_rfl) (start.laid_met os _))) ?_
  intro W base args ds gs before hval0 hW _ hk _ hL hsh _
  have hkb := hk _ rfl
  have hval : ∀ (j : Nat) t v, Tryz.f11.params[j]? = some t → args[j]? = some v → Value.okWide Tryz.prog W .any base t v := hval0
  have hW' := hW
  obtain ⟨p, q, hA0, hV, rfl, hfz, hnd⟩ := hW
  have hA : DataW.TrodAll enc Tryz.prog W 0 (fun _ => true) true Tryz.f11.params.toList args.toList ds p := hA0
  rw [Tryz.params11] at hA hval
  obtain ⟨v0, vs0, d0, ds0, p0, q0, hargs, rfl, rfl, h0, r0⟩ := trodAll_cons hA
  obtain ⟨rfl, rfl, rfl⟩ := trodAll_nil r0
  obtain rfl : args = #[v0] := by cases args; simp_all
  obtain ⟨rfl, rfl⟩ := trodVars_none hV
  have hbulk : Rows.uptoBulkAll [d0] ≤ 1048576 := by simpa [Rows.uptoSmall] using hkb
  have k0 := h0
  have lt0 : ∀ x ∈ p0, x.block < W.heap.size := by obtain ⟨m, hm⟩ := k0; exact DataW.trod_lt m _ _ _ hm
  have hlib := libAt_of hsh hL
  obtain ⟨x0, ka0, kc0, la0, lc0, rfl, hin0, hxb0⟩ := open_value (hval 0 25 v0 rfl rfl) h0
  simp only [Rows.uptoBulkAll, Rows.uptoBulk] at hbulk
  clear hA0 hval0
  refine (walk x0 ka0 kc0 la0 lc0 W hlib (by omega) (all_in hin0)).mono fun e W' ⟨he, bel⟩ => ?_
  subst he
  exact ⟨_, rfl, _, _, _, [], _, [], hW', trodAll_mk1 (shut_bool Tryz.underlying4 _), (trodAll_cons_mk (Below.trod Tryz.laidOut (by kernel_rfl) (of_decide_eq_true (by kernel_rfl)) k0 bel lt0) trodAll_mk0), rfl, Below.frame bel _, fun h => by cases h⟩
theorem said : Rows.MergeSameUptoSaid :=
  OpenClaim.holds_of_cond 11 Tryz.f11 rfl rfl rfl rfl rfl rfl rfl ⟨rfl, rfl, rfl, rfl, rfl⟩ rfl rfl rfl rfl rfl (by kernel_rfl) Tryz.func11 (by kernel_rfl)
    (of_decide_eq_true (by kernel_rfl)) (by unfold Func.isWrapper; first | (rw [if_pos (by decide +kernel)]; kernel_rfl) | (rw [if_neg (by decide +kernel)]; exact ⟨rfl, rfl⟩))
    (fun os started H enc _ F => by rw [OpenClaim.pre_eq_preRow]; exact lifted os started H enc F)
theorem plain (f : FuncId) (fn : Func) (hf : Tryz.pinned.checked.prog.funcNamed "stairwell/stairwellkeep.MergeSame" = some f) (hfn : Tryz.pinned.checked.prog.funcs[f]? = some fn) :
    true = Tryz.pinned.checked.prog.looks [] ∧ ∀ (j : Nat) t, fn.params[j]? = some t → Tryz.pinned.checked.prog.wantsStandIn t = false := by
  obtain rfl : f = 11 := Option.some.inj ((show Tryz.prog.funcNamed "stairwell/stairwellkeep.MergeSame" = some 11 by kernel_rfl).symm.trans hf) |>.symm
  obtain rfl : fn = Tryz.f11 := (Option.some.inj (Tryz.func11.symm.trans hfn)).symm
  refine ⟨by kernel_rfl, fun j t ht => ?_⟩
  rw [Tryz.params11] at ht
  have h : t = 25 := by simpa using Array.mem_of_getElem? ht
  rcases h with rfl
  · exact (show Tryz.prog.wantsStandIn 25 = false by kernel_rfl)
theorem proved : Rows.MergeSameUptoCardSaid :=
  Claim7.holds_tied_plain_at .later [] _ _ _ _ said (fun _ h => by cases h) (by kernel_rfl) (fun _ h => by cases h) mergeSameUpto_row_tie rfl ⟨rfl, rfl⟩ (by kernel_rfl) rfl plain (by kernel_rfl)
end Go.Proofs.YtnoijoglkbbgjaaGreatDoor.lawMergeSame
