/- PatchWhole: for all values the law returns true (if one of the operations cannot be done, nothing is changed); the arguments hold together at most 1048576 values and letters; the library's listed variables as its text lays them. -/
import Derived.Test.YtnoijoglkbbgjaaGreatDoorPkC
import Derived.Test.YtnoijoglkbbgjaaGreatDoorLibAt
import Derived.Test.YtnoijoglkbbgjaaGreatDoorPkL
import Derived.Test.YtnoijoglkbbgjaaGreatDoorPatchK
import Derived.HandedShaped
import Derived.SevenTiedAt
set_option linter.all false
namespace Go.Proofs.YtnoijoglkbbgjaaGreatDoor.lawPatchWhole
open Go.ChangeShapes Go.WideShapes Go.ChangeAt Go.RowKit
open Go.ChangeMaps (open_string shut_string)
section
attribute [local go_sem ↓] Go.wp_at_zero Go.wp_at_succ

set_option maxRecDepth 100000 in
set_option maxHeartbeats 8000000 in
theorem walk (x : V) (ka0 : Option Addr) (kc0 : Nat) (la0 : Option Addr) (lc0 : Nat) (a : Option Addr) (cap : Nat) (l : List OpV) (w : World) (hl : LibAt w) (hs0 : x.size ≤ 4194304) (hs1 : (l.map OpV.size).sum ≤ 4194304) (hin0 : x.In w All ka0 kc0 la0 lc0) (hok : SlOk a l.length cap) (hops : OpsIn w All a l) :
    Calls Tryz.prog 5 #[x.val ka0 kc0 la0 lc0, .slice a l.length cap] w fun e w' => e = .returned (.bool true) ∧ Ext w w' := by
  have Hin0 := Lib.hid hin0
  have Hops := Lib.hid hops
  have Hs1 := Lib.hid hs1
  have Hok := Lib.hid hok
  have hln := Nat.le_trans (ops_len l) hs1
  clear hin0 hops hs1 hok
  obtain ⟨v, hv⟩ : ∃ v, (allV x l).1 = v := ⟨_, rfl⟩
  obtain ⟨er, her⟩ : ∃ er, (allV x l).2 = er := ⟨_, rfl⟩
  have Hm := Lib.hid (show allV x l = (v, er) from Prod.ext hv her)
  have hw := all_whole x l
  have hvs := all_size x l
  rw [hv, her] at hw
  rw [hv] at hvs
  clear hv her
  by_cases h0 : er = 0
  · subst h0
    rcases hw.2 rfl with h | h
    · have Hl := Lib.hid h
      clear hw h
      have hlz : ((l.length : Int) == 0) = true := by rw [Hl.out]; rfl
      go_enter Tryz.func5, Tryz.ntmps5
      go_upto_region 1 with fail
      refine gen_world (R := fun wx => Box wx w.heap.size #[.int .i64 x.k, .int .i64 x.n, .string x.s, .slice ka0 x.keys.length kc0, .slice la0 x.l.length lc0] 25 ∧ x.In wx All ka0 kc0 la0 lc0 ∧ Ext w wx) ⟨Bxt, Hin0.out.ext Xt, Xt⟩ ?_
      clear Hin0
      rintro wa ⟨hB0, hin0, hx_wa⟩
      have Hin0 := Lib.hid hin0
      clear hin0
      have hc0 := hB0.cells; have hf0 := hB0.free; have hl0 := hB0.lt
      go_wp2_with fail
      (refine (all_any x ka0 kc0 la0 lc0 a cap l l.length _ (Lib.hid rfl) (hl.ext Xt) (by omega) Hs1.out (by omega) All (Hin0.out.ext Xt) (Hops.out.ext Xt)).mono ?_)
      rw [Hm.out]
      rintro e w1 ⟨ka2, kc2, la2, lc2, rfl, hin_, h_w1⟩
      have hB0 := Box.ext h_w1 hB0
      have Hin0 := Lib.hid (V.In.ext (w' := w1) Hin0.out h_w1)
      have hx_w1 := hx_wa.trans h_w1
      clear hc0 hf0 hl0
      clear h_w1 hx_wa
      have Hin2 := Lib.hid (all_in hin_)
      clear hin_
      go_upto_region 2 with fail
      refine gen_world (R := fun wx => Box wx w.heap.size #[.int .i64 x.k, .int .i64 x.n, .string x.s, .slice ka0 x.keys.length kc0, .slice la0 x.l.length lc0] 25 ∧ x.In wx All ka0 kc0 la0 lc0 ∧ Box wx w1.heap.size #[.int .i64 v.k, .int .i64 v.n, .string v.s, .slice ka2 v.keys.length kc2, .slice la2 v.l.length lc2] 25 ∧ v.In wx All ka2 kc2 la2 lc2 ∧ Ext w wx) ⟨Bxt, Hin0.out.ext Xt, Bxt, Hin2.out.ext Xt, Xt⟩ ?_
      clear hB0 Hin0 Hin2 hx_w1
      rintro wvw1 ⟨hB0, hin0, hB2, hin2, hx_wvw1⟩
      have Hin0 := Lib.hid hin0
      have Hin2 := Lib.hid hin2
      clear hin0 hin2
      go_wp2_with fail
      (refine (patches_keep _ (hl.ext Xt)).mono ?_)
      rintro e w2 ⟨rfl, h_w2⟩
      have hB0 := Box.ext h_w2 hB0
      have Hin0 := Lib.hid (V.In.ext (w' := w2) Hin0.out h_w2)
      have hB2 := Box.ext h_w2 hB2
      have Hin2 := Lib.hid (V.In.ext (w' := w2) Hin2.out h_w2)
      have hx_w2 := hx_wvw1.trans h_w2
      clear h_w2 hx_wvw1
      go_wp2_with fail
      go_ret
      exact ⟨rfl, Xt⟩
    · have Hf := Lib.hid h
      clear hw h
      cases hlz : ((l.length : Int) == 0) with
      | true =>
        go_enter Tryz.func5, Tryz.ntmps5
        go_upto_region 1 with fail
        refine gen_world (R := fun wx => Box wx w.heap.size #[.int .i64 x.k, .int .i64 x.n, .string x.s, .slice ka0 x.keys.length kc0, .slice la0 x.l.length lc0] 25 ∧ x.In wx All ka0 kc0 la0 lc0 ∧ Ext w wx) ⟨Bxt, Hin0.out.ext Xt, Xt⟩ ?_
        clear Hin0
        rintro wa ⟨hB0, hin0, hx_wa⟩
        have Hin0 := Lib.hid hin0
        clear hin0
        have hc0 := hB0.cells; have hf0 := hB0.free; have hl0 := hB0.lt
        go_wp2_with fail
        (refine (all_any x ka0 kc0 la0 lc0 a cap l l.length _ (Lib.hid rfl) (hl.ext Xt) (by omega) Hs1.out (by omega) All (Hin0.out.ext Xt) (Hops.out.ext Xt)).mono ?_)
        rw [Hm.out]
        rintro e w1 ⟨ka2, kc2, la2, lc2, rfl, hin_, h_w1⟩
        have hB0 := Box.ext h_w1 hB0
        have Hin0 := Lib.hid (V.In.ext (w' := w1) Hin0.out h_w1)
        have hx_w1 := hx_wa.trans h_w1
        clear hc0 hf0 hl0
        clear h_w1 hx_wa
        have Hin2 := Lib.hid (all_in hin_)
        clear hin_
        go_upto_region 2 with fail
        refine gen_world (R := fun wx => Box wx w.heap.size #[.int .i64 x.k, .int .i64 x.n, .string x.s, .slice ka0 x.keys.length kc0, .slice la0 x.l.length lc0] 25 ∧ x.In wx All ka0 kc0 la0 lc0 ∧ Box wx w1.heap.size #[.int .i64 v.k, .int .i64 v.n, .string v.s, .slice ka2 v.keys.length kc2, .slice la2 v.l.length lc2] 25 ∧ v.In wx All ka2 kc2 la2 lc2 ∧ Ext w wx) ⟨Bxt, Hin0.out.ext Xt, Bxt, Hin2.out.ext Xt, Xt⟩ ?_
        clear hB0 Hin0 Hin2 hx_w1
        rintro wvw1 ⟨hB0, hin0, hB2, hin2, hx_wvw1⟩
        have Hin0 := Lib.hid hin0
        have Hin2 := Lib.hid hin2
        clear hin0 hin2
        go_wp2_with fail
        (refine (patches_keep _ (hl.ext Xt)).mono ?_)
        rintro e w2 ⟨rfl, h_w2⟩
        have hB0 := Box.ext h_w2 hB0
        have Hin0 := Lib.hid (V.In.ext (w' := w2) Hin0.out h_w2)
        have hB2 := Box.ext h_w2 hB2
        have Hin2 := Lib.hid (V.In.ext (w' := w2) Hin2.out h_w2)
        have hx_w2 := hx_wvw1.trans h_w2
        clear h_w2 hx_wvw1
        go_wp2_with fail
        go_ret
        exact ⟨rfl, Xt⟩
      | false =>
        go_enter Tryz.func5, Tryz.ntmps5
        go_upto_region 1 with fail
        refine gen_world (R := fun wx => Box wx w.heap.size #[.int .i64 x.k, .int .i64 x.n, .string x.s, .slice ka0 x.keys.length kc0, .slice la0 x.l.length lc0] 25 ∧ x.In wx All ka0 kc0 la0 lc0 ∧ Ext w wx) ⟨Bxt, Hin0.out.ext Xt, Xt⟩ ?_
        clear Hin0
        rintro wa ⟨hB0, hin0, hx_wa⟩
        have Hin0 := Lib.hid hin0
        clear hin0
        have hc0 := hB0.cells; have hf0 := hB0.free; have hl0 := hB0.lt
        go_wp2_with fail
        (refine (all_any x ka0 kc0 la0 lc0 a cap l l.length _ (Lib.hid rfl) (hl.ext Xt) (by omega) Hs1.out (by omega) All (Hin0.out.ext Xt) (Hops.out.ext Xt)).mono ?_)
        rw [Hm.out]
        rintro e w1 ⟨ka2, kc2, la2, lc2, rfl, hin_, h_w1⟩
        have hB0 := Box.ext h_w1 hB0
        have Hin0 := Lib.hid (V.In.ext (w' := w1) Hin0.out h_w1)
        have hx_w1 := hx_wa.trans h_w1
        clear hc0 hf0 hl0
        clear h_w1 hx_wa
        have Hin2 := Lib.hid (all_in hin_)
        clear hin_
        go_upto_region 2 with fail
        refine gen_world (R := fun wx => Box wx w.heap.size #[.int .i64 x.k, .int .i64 x.n, .string x.s, .slice ka0 x.keys.length kc0, .slice la0 x.l.length lc0] 25 ∧ x.In wx All ka0 kc0 la0 lc0 ∧ Box wx w1.heap.size #[.int .i64 v.k, .int .i64 v.n, .string v.s, .slice ka2 v.keys.length kc2, .slice la2 v.l.length lc2] 25 ∧ v.In wx All ka2 kc2 la2 lc2 ∧ Ext w wx) ⟨Bxt, Hin0.out.ext Xt, Bxt, Hin2.out.ext Xt, Xt⟩ ?_
        clear hB0 Hin0 Hin2 hx_w1
        rintro wvw1 ⟨hB0, hin0, hB2, hin2, hx_wvw1⟩
        have Hin0 := Lib.hid hin0
        have Hin2 := Lib.hid hin2
        clear hin0 hin2
        have hc2 := hB2.cells; have hf2 := hB2.free; have hl2 := hB2.lt
        go_wp2_with fail
        (refine (fine_any v ka2 kc2 la2 lc2 _ _ (by omega) (Hin2.out.ext Xt)).mono ?_)
        rintro e w2 ⟨rfl, h_w2⟩
        have hB0 := Box.ext h_w2 hB0
        have Hin0 := Lib.hid (V.In.ext (w' := w2) Hin0.out h_w2)
        have hB2 := Box.ext h_w2 hB2
        have Hin2 := Lib.hid (V.In.ext (w' := w2) Hin2.out h_w2)
        have hx_w2 := hx_wvw1.trans h_w2
        clear hc2 hf2 hl2
        clear h_w2 hx_wvw1
        rw [Hf.out]
        go_wp2_with fail
        (refine (patches_keep _ (hl.ext Xt)).mono ?_)
        rintro e w3 ⟨rfl, h_w3⟩
        have hB0 := Box.ext h_w3 hB0
        have Hin0 := Lib.hid (V.In.ext (w' := w3) Hin0.out h_w3)
        have hB2 := Box.ext h_w3 hB2
        have Hin2 := Lib.hid (V.In.ext (w' := w3) Hin2.out h_w3)
        have hx_w3 := hx_w2.trans h_w3
        clear h_w3 hx_w2
        go_wp2_with fail
        go_ret
        exact ⟨rfl, Xt⟩
  · obtain rfl : v = x := hw.1 h0
    have h0b : (er != 0) = true := by simpa using h0
    clear hw h0
    go_enter Tryz.func5, Tryz.ntmps5
    go_upto_region 1 with fail
    refine gen_world (R := fun wx => Box wx w.heap.size #[.int .i64 v.k, .int .i64 v.n, .string v.s, .slice ka0 v.keys.length kc0, .slice la0 v.l.length lc0] 25 ∧ v.In wx All ka0 kc0 la0 lc0 ∧ Ext w wx) ⟨Bxt, Hin0.out.ext Xt, Xt⟩ ?_
    clear Hin0
    rintro wa ⟨hB0, hin0, hx_wa⟩
    have Hin0 := Lib.hid hin0
    clear hin0
    have hc0 := hB0.cells; have hf0 := hB0.free; have hl0 := hB0.lt
    go_wp2_with fail
    (refine (all_any v ka0 kc0 la0 lc0 a cap l l.length _ (Lib.hid rfl) (hl.ext Xt) (by omega) Hs1.out (by omega) All (Hin0.out.ext Xt) (Hops.out.ext Xt)).mono ?_)
    rw [Hm.out]
    rintro e w1 ⟨ka2, kc2, la2, lc2, rfl, hin_, h_w1⟩
    have hB0 := Box.ext h_w1 hB0
    have Hin0 := Lib.hid (V.In.ext (w' := w1) Hin0.out h_w1)
    have hx_w1 := hx_wa.trans h_w1
    clear hc0 hf0 hl0
    clear h_w1 hx_wa
    have Hin2 := Lib.hid (all_in hin_)
    clear hin_
    go_upto_region 2 with fail
    refine gen_world (R := fun wx => Box wx w.heap.size #[.int .i64 v.k, .int .i64 v.n, .string v.s, .slice ka0 v.keys.length kc0, .slice la0 v.l.length lc0] 25 ∧ v.In wx All ka0 kc0 la0 lc0 ∧ Box wx w1.heap.size #[.int .i64 v.k, .int .i64 v.n, .string v.s, .slice ka2 v.keys.length kc2, .slice la2 v.l.length lc2] 25 ∧ v.In wx All ka2 kc2 la2 lc2 ∧ Ext w wx) ⟨Bxt, Hin0.out.ext Xt, Bxt, Hin2.out.ext Xt, Xt⟩ ?_
    clear hB0 Hin0 Hin2 hx_w1
    rintro wvw1 ⟨hB0, hin0, hB2, hin2, hx_wvw1⟩
    have Hin0 := Lib.hid hin0
    have Hin2 := Lib.hid hin2
    clear hin0 hin2
    have hc0 := hB0.cells; have hf0 := hB0.free; have hl0 := hB0.lt
    have hc2 := hB2.cells; have hf2 := hB2.free; have hl2 := hB2.lt
    go_wp2_with fail
    (refine (same_any v v rfl (by omega) ka2 kc2 la2 lc2 ka0 kc0 la0 lc0 All All _ (Hin2.out.ext Xt) (Hin0.out.ext Xt)).mono ?_)
    rintro e w2 ⟨rfl, h_w2⟩
    have hB0 := Box.ext h_w2 hB0
    have Hin0 := Lib.hid (V.In.ext (w' := w2) Hin0.out h_w2)
    have hB2 := Box.ext h_w2 hB2
    have Hin2 := Lib.hid (V.In.ext (w' := w2) Hin2.out h_w2)
    have hx_w2 := hx_wvw1.trans h_w2
    clear hc0 hf0 hl0 hc2 hf2 hl2
    clear h_w2 hx_wvw1
    go_wp2_with fail
    (refine (patches_keep _ (hl.ext Xt)).mono ?_)
    rintro e w3 ⟨rfl, h_w3⟩
    have hB0 := Box.ext h_w3 hB0
    have Hin0 := Lib.hid (V.In.ext (w' := w3) Hin0.out h_w3)
    have hB2 := Box.ext h_w3 hB2
    have Hin2 := Lib.hid (V.In.ext (w' := w3) Hin2.out h_w3)
    have hx_w3 := hx_w2.trans h_w3
    clear h_w3 hx_w2
    go_wp2_with fail
    go_ret
    exact ⟨rfl, Xt⟩
end
set_option maxRecDepth 100000 in
theorem lifted (os : Os) (started : os.Started) (H : Type) (enc : TypeId × Value → H) (Fi : Stop.Interp) :
    ReturnsInHanded {} Tryz.checked os 5 .any ((Rows.OpenSpec.upto Rows.patchWholeSpec).preRow enc Tryz.prog Tryz.f5 Rows.patchWholeUptoRow.domain false Rows.patchWholeUptoRow.laid) (((Rows.OpenSpec.upto Rows.patchWholeSpec).at Fi).post enc Tryz.prog Tryz.f5 false true false false) := by
  obtain ⟨places, hx⟩ : ∃ places, DataW.whole enc Tryz.prog ((start.laidWorld os).forCall (fun _ _ => 0) ⟨#[], #[.agg #[.int .i64 0, .int .i64 0, .string ⟨#[]⟩, .slice none 0 0, .slice none 0 0], .slice none 0 0], []⟩).memory Tryz.f5.params.toList Rows.patchWholeSpec.vars false (#[.agg #[.int .i64 0, .int .i64 0, .string ⟨#[]⟩, .slice none 0 0, .slice none 0 0], .slice none 0 0]).toList 8 = some ([.agg [.lit (.int .i64 0), .lit (.int .i64 0), .lit (.string []), .nil, .nil], .nil], [], places) := ⟨[], by kernel_rfl⟩
  refine returnsInHanded_of_row (C := Tryz.checked) (s := Rows.OpenSpec.upto Rows.patchWholeSpec) Tryz.own started (by kernel_rfl) Tryz.func5
    (witness_row_atRef (enc := enc) (C := Tryz.checked) false (start.laidWorld os) #[.agg #[.int .i64 0, .int .i64 0, .string ⟨#[]⟩, .slice none 0 0, .slice none 0 0], .slice none 0 0] rfl (by kernel_rfl) (by kernel_rfl) (by kernel_rfl)
      (OpenSpec.preRow_of_cond 8 hx (by kernel_rfl) (fun k hk => by cases hk; kernel_rfl) (by kernel_rfl) (start.laid_met os _))) ?_
  intro W base args ds gs before hval0 hW _ hk _ hL hsh _
  have hkb := hk _ rfl
  have hval : ∀ (j : Nat) t v, Tryz.f5.params[j]? = some t → args[j]? = some v → Value.okWide Tryz.prog W .any base t v := hval0
  have hW' := hW
  obtain ⟨p, q, hA0, hV, rfl, hfz, hnd⟩ := hW
  have hA : DataW.TrodAll enc Tryz.prog W 0 (fun _ => true) true Tryz.f5.params.toList args.toList ds p := hA0
  rw [Tryz.params5] at hA hval
  obtain ⟨v0, vs0, d0, ds0, p0, q0, hargs, rfl, rfl, h0, r0⟩ := trodAll_cons hA
  obtain ⟨v1, vs1, d1, ds1, p1, q1, rfl, rfl, rfl, h1, r1⟩ := trodAll_cons r0
  obtain ⟨rfl, rfl, rfl⟩ := trodAll_nil r1
  obtain rfl : args = #[v0, v1] := by cases args; simp_all
  obtain ⟨rfl, rfl⟩ := trodVars_none hV
  have hbulk : Rows.uptoBulkAll [d0, d1] ≤ 1048576 := by simpa [Rows.uptoSmall] using hkb
  have k0 := h0
  have k1 := h1
  have lt0 : ∀ x ∈ p0, x.block < W.heap.size := by obtain ⟨m, hm⟩ := k0; exact DataW.trod_lt m _ _ _ hm
  have lt1 : ∀ x ∈ p1, x.block < W.heap.size := by obtain ⟨m, hm⟩ := k1; exact DataW.trod_lt m _ _ _ hm
  have hlib := libAt_of hsh hL
  obtain ⟨x0, ka0, kc0, la0, lc0, rfl, hin0, hxb0⟩ := open_value (hval 0 25 v0 rfl rfl) h0
  obtain ⟨a1, len1, cap1, rfl⟩ := okWide_slice Tryz.underlying31 (hval 1 31 v1 rfl rfl)
  obtain ⟨fuel1, hf1⟩ := h1
  obtain ⟨a1', cap1', l1, hc1, hok1, hin1, hxb1⟩ := open_ops hf1
  simp only [Value.slice.injEq] at hc1
  obtain ⟨rfl, rfl, rfl⟩ := hc1
  have hxb1 : (l1.map OpV.size).sum + 1 ≤ Rows.uptoBulk d1 := hxb1
  simp only [Rows.uptoBulkAll, Rows.uptoBulk] at hbulk
  clear hA0 hval0
  refine (walk x0 ka0 kc0 la0 lc0 a1 cap1 l1 W hlib (by omega) (by omega) (all_in hin0) hok1 (hin1.mono fun _ _ => trivial)).mono fun e W' ⟨he, bel⟩ => ?_
  subst he
  exact ⟨_, rfl, _, _, _, [], _, [], hW', trodAll_mk1 (shut_bool Tryz.underlying4 _), (trodAll_cons_mk (Below.trod Tryz.laidOut (by kernel_rfl) (of_decide_eq_true (by kernel_rfl)) k0 bel lt0) (trodAll_cons_mk (Below.trod Tryz.laidOut (by kernel_rfl) (of_decide_eq_true (by kernel_rfl)) k1 bel lt1) trodAll_mk0)), rfl, Below.frame bel _, fun h => by cases h⟩
theorem said : Rows.PatchWholeUptoSaid :=
  OpenClaim.holds_of_cond 5 Tryz.f5 rfl rfl rfl rfl rfl rfl rfl ⟨rfl, rfl, rfl, rfl, rfl⟩ rfl rfl rfl rfl rfl (by kernel_rfl) Tryz.func5 (by kernel_rfl)
    (of_decide_eq_true (by kernel_rfl)) (by unfold Func.isWrapper; first | (rw [if_pos (by decide +kernel)]; kernel_rfl) | (rw [if_neg (by decide +kernel)]; exact ⟨rfl, rfl⟩))
    (fun os started H enc _ F => by rw [OpenClaim.pre_eq_preRow]; exact lifted os started H enc F)
theorem plain (f : FuncId) (fn : Func) (hf : Tryz.pinned.checked.prog.funcNamed "stairwell/stairwellkeep.PatchWhole" = some f) (hfn : Tryz.pinned.checked.prog.funcs[f]? = some fn) :
    true = Tryz.pinned.checked.prog.looks [] ∧ ∀ (j : Nat) t, fn.params[j]? = some t → Tryz.pinned.checked.prog.wantsStandIn t = false := by
  obtain rfl : f = 5 := Option.some.inj ((show Tryz.prog.funcNamed "stairwell/stairwellkeep.PatchWhole" = some 5 by kernel_rfl).symm.trans hf) |>.symm
  obtain rfl : fn = Tryz.f5 := (Option.some.inj (Tryz.func5.symm.trans hfn)).symm
  refine ⟨by kernel_rfl, fun j t ht => ?_⟩
  rw [Tryz.params5] at ht
  have h : t = 25 ∨ t = 31 := by simpa using Array.mem_of_getElem? ht
  rcases h with rfl | rfl
  · exact (show Tryz.prog.wantsStandIn 25 = false by kernel_rfl)
  · exact (show Tryz.prog.wantsStandIn 31 = false by kernel_rfl)
theorem proved : Rows.PatchWholeUptoCardSaid :=
  Claim7.holds_tied_plain_at .later [] _ _ _ _ said (fun _ h => by cases h) (by kernel_rfl) (fun _ h => by cases h) patchWholeUpto_row_tie rfl ⟨rfl, rfl⟩ (by kernel_rfl) rfl plain (by kernel_rfl)
end Go.Proofs.YtnoijoglkbbgjaaGreatDoor.lawPatchWhole
