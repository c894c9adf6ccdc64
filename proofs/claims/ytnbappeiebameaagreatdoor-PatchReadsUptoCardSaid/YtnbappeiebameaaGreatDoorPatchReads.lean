/- PatchReads: for every value the law returns true (Read answers what the reference answers); the arguments hold together at most 1048576 values and letters; the library's listed variables as its text lays them. -/
import Derived.Test.YtnbappeiebameaaGreatDoorPkC
import Derived.Test.YtnbappeiebameaaGreatDoorLibAt
import Derived.Test.YtnbappeiebameaaGreatDoorPkL
import Derived.Test.YtnbappeiebameaaGreatDoorReadOps
import Derived.Test.YtnbappeiebameaaGreatDoorSameOps
import Derived.Test.YtnbappeiebameaaGreatDoorCopy
import Derived.Test.YtnbappeiebameaaGreatDoorPkP
import Derived.Test.YtnbappeiebameaaGreatDoorLibAt8
import Derived.Test.YtnbappeiebameaaGreatDoorLaid8
import Derived.HandedShaped
import Derived.SevenTiedAt
set_option linter.all false
namespace Go.Proofs.YtnbappeiebameaaGreatDoor.lawPatchReads
open Go.ChangeShapes Go.WideShapes Go.ChangeAt Go.RowKit
open Go.ChangeMaps (open_string shut_string)
section
attribute [local go_sem ↓] Go.wp_at_zero Go.wp_at_succ

theorem opO_size {y : V} {o : OpV} (h : y.opO = some o) : o.v.size ≤ max y.size 1 := by
  have hm := memD_size y tValue
  have hz : V.zero.size = 1 := by rw [V.size_eq]; decide
  have hv : ∀ p, (o = p → p.v = V.zero ∨ p.v = y.memD tValue) → (o = p) → o.v.size ≤ max y.size 1 := by
    intro p h1 h2
    rcases h1 h2 with h3 | h3
    · rw [h2, h3, hz]; omega
    · rw [h2, h3]
      rcases hm with h4 | h4
      · rw [h4, hz]; omega
      · omega
  unfold V.opO at h
  split at h
  · cases h
  · split at h
    · cases h
    · split at h
      · split at h
        · exact hv _ (fun _ => .inr rfl) (Option.some.inj h).symm
        · cases h
      · split at h
        · split at h
          · exact hv _ (fun _ => .inl rfl) (Option.some.inj h).symm
          · cases h
        · exact hv _ (fun _ => .inl rfl) (Option.some.inj h).symm
theorem opsO_size : ∀ {l : List V} {os : List OpV} {m : Nat}, opsO l = some os → (∀ y ∈ l, y.size ≤ m) → ∀ o ∈ os, o.v.size ≤ max m 1
  | [], os, m, h, _, o, ho => by
    simp only [opsO, Option.some.injEq] at h
    subst h; cases ho
  | x :: r, os, m, h, hl, o, ho => by
    unfold opsO at h
    cases hx : x.opO with
    | none => rw [hx] at h; cases h
    | some q =>
      rw [hx] at h
      simp only at h
      cases hr : opsO r with
      | none => rw [hr] at h; cases h
      | some u =>
        rw [hr] at h
        simp only [Option.map_some, Option.some.injEq] at h
        subst h
        rcases List.mem_cons.1 ho with rfl | ho
        · have h1 := opO_size hx
          have h2 := hl x (by simp)
          omega
        · exact opsO_size hr (fun y hy => hl y (by simp [hy])) o ho
theorem readV_size (x : V) (hs : x.size ≤ 4194304) : (readV x).1.length ≤ 4194304 ∧ ∀ o ∈ (readV x).1, o.v.size ≤ 1073741824 := by
  unfold readV
  split
  · simp
  · split
    · simp
    · rename_i h20
      split
      · simp
      · rename_i os hos
        refine ⟨?_, fun o ho => ?_⟩
        · have : ∀ {l : List V} {os : List OpV}, opsO l = some os → os.length = l.length := by
            intro l
            induction l with
            | nil => intro os h; simp only [opsO, Option.some.injEq] at h; subst h; rfl
            | cons y r ih =>
              intro os h
              unfold opsO at h
              cases hy : y.opO with
              | none => rw [hy] at h; cases h
              | some q =>
                rw [hy] at h
                simp only at h
                cases hr : opsO r with
                | none => rw [hr] at h; cases h
                | some u =>
                  rw [hr] at h
                  simp only [Option.map_some, Option.some.injEq] at h
                  subst h
                  simp [ih hr]
          have h1 := this hos
          simp only
          omega
        · have := opsO_size (m := 4194304) hos (fun y hy => by have := V.size_mem hy; omega) o ho
          omega
set_option maxRecDepth 100000 in
set_option maxHeartbeats 16000000 in
theorem walk (x : V) (ka0 : Option Addr) (kc0 : Nat) (la0 : Option Addr) (lc0 : Nat) (w : World) (hlib : LibAt w ∧ NamesAt w) (hs0 : x.size ≤ 4194304) (hin0 : x.In w All ka0 kc0 la0 lc0) :
    Calls Tryz.prog 9 #[x.val ka0 kc0 la0 lc0] w fun e w' => e = .returned (.bool true) ∧ Ext w w' := by
  have Hin0 := Lib.hid hin0
  have hl := hlib.1
  have Hnm := Lib.hid hlib.2
  clear hin0 hlib
  obtain ⟨hz1, hz2⟩ := readV_size x hs0
  obtain ⟨l, hl1⟩ : ∃ l, (readV x).1 = l := ⟨_, rfl⟩
  obtain ⟨e1, he1⟩ : ∃ e, (readV x).2 = e := ⟨_, rfl⟩
  have Hr := Lib.hid (show readV x = (l, e1) from Prod.ext hl1 he1)
  rw [hl1] at hz1 hz2
  have Hz2 := Lib.hid hz2
  have hbe : (e1 == e1) = true := by simp
  clear hl1 he1 hz2
  go_enter Tryz.func9, Tryz.ntmps9
  go_upto_region 1 with fail
  refine gen_world (R := fun wx => Box wx w.heap.size #[.int .i64 x.k, .int .i64 x.n, .string x.s, .slice ka0 x.keys.length kc0, .slice la0 x.l.length lc0] 25 ∧ x.In wx All ka0 kc0 la0 lc0 ∧ Ext w wx) ⟨Bxt, Hin0.out.ext Xt, Xt⟩ ?_
  clear Hin0
  rintro wa ⟨hB0, hin0, hx_wa⟩
  have Hin0 := Lib.hid hin0
  clear hin0
  have hc0 := hB0.cells; have hf0 := hB0.free; have hl0 := hB0.lt
  go_wp2_with fail
  (refine (copy_any _ x ka0 kc0 la0 lc0 All _ (Nat.le_refl _) (by omega) (Hin0.out.ext Xt)).mono ?_)
  rintro e w1 ⟨ka2, kc2, la2, lc2, rfl, hin_, h_w1⟩
  have hB0 := Box.ext h_w1 hB0
  have Hin0 := Lib.hid (V.In.ext (w' := w1) Hin0.out h_w1)
  have hx_w1 := hx_wa.trans h_w1
  clear hc0 hf0 hl0
  clear h_w1 hx_wa
  have Hin2 := Lib.hid (all_in hin_)
  clear hin_
  go_wp2_with fail
  (refine (read_any x ka2 kc2 la2 lc2 All _ (by omega) (Hnm.out.ext Xt) (Hin2.out.ext Xt)).mono ?_)
  rw [Hr.out]
  rintro e w2 ⟨a, n, c, rfl, hn, -, hops, h_w2⟩
  have hy2 : Ext w1 w2 := Xt
  have hB0 := Box.ext hy2 hB0
  have hx_w2 := hx_w1.trans hy2
  have Hin0 := Lib.hid (Hin0.out.ext hy2)
  have Hops := Lib.hid hops
  have Hn := Lib.hid hn
  clear hops hn h_w2 hx_w1 Hin2 hy2
  have hc0 := hB0.cells; have hf0 := hB0.free; have hl0 := hB0.lt
  go_wp2_with fail
  (refine (readOps_any x ka0 kc0 la0 lc0 All _ (by omega) (Hin0.out.ext Xt)).mono ?_)
  rw [Hr.out]
  rintro e w3 ⟨a2, n2, c2, rfl, hn2, -, hops2, h_w3⟩
  have hy3 : Ext w2 w3 := Xt
  have hx_w3 := hx_w2.trans hy3
  obtain rfl : n2 = n := by have := Hn.out; have h2 : l.length = n2 := hn2; have h3 : l.length = n := this; omega
  have Hops := Lib.hid (Hops.out.ext hy3)
  have Hops2 := Lib.hid hops2
  clear hops2 hn2 h_w3 hx_w2 hy3 hB0 hc0 hf0 hl0
  go_wp2_with fail
  (refine (sameOps_yes l n2 Hn.out (by have h3 : l.length = n2 := Hn.out; omega) Hz2 a c a2 c2 _ (Hops.out.ext Xt) (Hops2.out.ext Xt)).mono ?_)
  rintro e w4 ⟨rfl, h_w4⟩
  have hx_w4 : Ext w w4 := Xt
  clear h_w4 hx_w3
  go_wp2_with fail
  (refine (patches_law _ (hl.ext Xt)).mono ?_)
  rintro e w5 ⟨rfl, h_w5⟩
  go_wp2_with fail
  go_ret
  exact ⟨rfl, Xt⟩
end
set_option maxRecDepth 100000 in
theorem lifted (os : Os) (started : os.Started) (H : Type) (enc : TypeId × Value → H) (Fi : Stop.Interp) :
    ReturnsInHanded {} Tryz.checked os 9 .any ((Rows.OpenSpec.upto Rows.patchReadsSpec).preRow enc Tryz.prog Tryz.f9 Rows.patchReadsUptoRow.domain false Rows.patchReadsUptoRow.laid) (((Rows.OpenSpec.upto Rows.patchReadsSpec).at Fi).post enc Tryz.prog Tryz.f9 false true false false) := by
  obtain ⟨places, hx⟩ : ∃ places, DataW.whole enc Tryz.prog ((start8.laidWorld os).forCall (fun _ _ => 0) ⟨#[], #[.agg #[.int .i64 0, .int .i64 0, .string ⟨#[]⟩, .slice none 0 0, .slice none 0 0]], []⟩).memory Tryz.f9.params.toList Rows.patchReadsSpec.vars false (#[.agg #[.int .i64 0, .int .i64 0, .string ⟨#[]⟩, .slice none 0 0, .slice none 0 0]]).toList 8 = some ([.agg [.lit (.int .i64 0), .lit (.int .i64 0), .lit (.string []), .nil, .nil]], [], places) := ⟨[], by kernel_rfl⟩
  refine returnsInHanded_of_row (C := Tryz.checked) (s := Rows.OpenSpec.upto Rows.patchReadsSpec) Tryz.own started (by kernel_rfl) Tryz.func9
    (witness_row_atRef (enc := enc) (C := Tryz.checked) false (start8.laidWorld os) #[.agg #[.int .i64 0, .int .i64 0, .string ⟨#[]⟩, .slice none 0 0, .slice none 0 0]] rfl (by kernel_rfl) (by kernel_rfl) (by kernel_rfl)
      (OpenSpec.preRow_of_cond 8 hx (by kernel_rfl) (fun k hk => by cases hk; kernel_rfl) (by kernel_rfl) (start8.laid_met os _))) ?_
  intro W base args ds gs before hval0 hW _ hk _ hL hsh _
  have hkb := hk _ rfl
  have hval : ∀ (j : Nat) t v, Tryz.f9.params[j]? = some t → args[j]? = some v → Value.okWide Tryz.prog W .any base t v := hval0
  have hW' := hW
  obtain ⟨p, q, hA0, hV, rfl, hfz, hnd⟩ := hW
  have hA : DataW.TrodAll enc Tryz.prog W 0 (fun _ => true) true Tryz.f9.params.toList args.toList ds p := hA0
  rw [Tryz.params9] at hA hval
  obtain ⟨v0, vs0, d0, ds0, p0, q0, hargs, rfl, rfl, h0, r0⟩ := trodAll_cons hA
  obtain ⟨rfl, rfl, rfl⟩ := trodAll_nil r0
  obtain rfl : args = #[v0] := by cases args; simp_all
  obtain ⟨rfl, rfl⟩ := trodVars_none hV
  have hbulk : Rows.uptoBulkAll [d0] ≤ 1048576 := by simpa [Rows.uptoSmall] using hkb
  have k0 := h0
  have lt0 : ∀ x ∈ p0, x.block < W.heap.size := by obtain ⟨m, hm⟩ := k0; exact DataW.trod_lt m _ _ _ hm
  have hlib := libAt8_of hsh hL
  obtain ⟨x0, ka0, kc0, la0, lc0, rfl, hin0, hxb0⟩ := open_value (hval 0 25 v0 rfl rfl) h0
  simp only [Rows.uptoBulkAll, Rows.uptoBulk] at hbulk
  clear hA0 hval0
  refine (walk x0 ka0 kc0 la0 lc0 W hlib (by omega) (all_in hin0)).mono fun e W' ⟨he, bel⟩ => ?_
  subst he
  exact ⟨_, rfl, _, _, _, [], _, [], hW', trodAll_mk1 (shut_bool Tryz.underlying4 _), (trodAll_cons_mk (Below.trod Tryz.laidOut (by kernel_rfl) (of_decide_eq_true (by kernel_rfl)) k0 bel lt0) trodAll_mk0), rfl, Below.frame bel _, fun h => by cases h⟩
theorem cA : (Rows.patchReadsUptoRow.inPlace == Tryz.pinned.checked.prog.inPlace 9) = true := by kernel_rfl
theorem cB : (Rows.patchReadsUptoRow.unfollowed == Tryz.pinned.checked.prog.unfollowed 9) = true := by kernel_rfl
theorem cC : (Rows.patchReadsUptoRow.recurses == Tryz.pinned.checked.prog.recurses 9) = true := by kernel_rfl
theorem cD : (Rows.patchReadsUptoRow.named == Tryz.pinned.checked.prog.varsNamed 9) = true := by kernel_rfl
theorem closed : joinedFacts Tryz.pinned.checked.prog 9 Tryz.f9 (Rows.OpenSpec.upto Rows.patchReadsSpec).bare Rows.patchReadsUptoRow = true := by
  unfold joinedFacts
  rw [cA, cB, cC, cD]
  kernel_rfl
theorem said : Rows.PatchReadsUptoSaid :=
  OpenClaim.holds_of_cond 9 Tryz.f9 rfl rfl rfl rfl rfl rfl rfl ⟨rfl, rfl, rfl, rfl, rfl⟩ rfl rfl rfl rfl rfl (by kernel_rfl) Tryz.func9 closed
    (of_decide_eq_true (by kernel_rfl)) (by unfold Func.isWrapper; first | (rw [if_pos (by decide +kernel)]; kernel_rfl) | (rw [if_neg (by decide +kernel)]; exact ⟨rfl, rfl⟩))
    (fun os started H enc _ F => by rw [OpenClaim.pre_eq_preRow]; exact lifted os started H enc F)
theorem plain (f : FuncId) (fn : Func) (hf : Tryz.pinned.checked.prog.funcNamed "stairwell/stairwelllaw.PatchReads" = some f) (hfn : Tryz.pinned.checked.prog.funcs[f]? = some fn) :
    true = Tryz.pinned.checked.prog.looks [] ∧ ∀ (j : Nat) t, fn.params[j]? = some t → Tryz.pinned.checked.prog.wantsStandIn t = false := by
  obtain rfl : f = 9 := Option.some.inj ((show Tryz.prog.funcNamed "stairwell/stairwelllaw.PatchReads" = some 9 by kernel_rfl).symm.trans hf) |>.symm
  obtain rfl : fn = Tryz.f9 := (Option.some.inj (Tryz.func9.symm.trans hfn)).symm
  refine ⟨by kernel_rfl, fun j t ht => ?_⟩
  rw [Tryz.params9] at ht
  have h : t = 25 := by simpa using Array.mem_of_getElem? ht
  rcases h with rfl
  · exact (show Tryz.prog.wantsStandIn 25 = false by kernel_rfl)
theorem proved : Rows.PatchReadsUptoCardSaid :=
  Claim7.holds_tied_plain_at .later [] _ _ _ _ said (fun _ h => by cases h) (by kernel_rfl) (fun _ h => by cases h) patchReadsUpto_row_tie rfl ⟨rfl, rfl⟩ (by kernel_rfl) rfl plain (by kernel_rfl)
end Go.Proofs.YtnbappeiebameaaGreatDoor.lawPatchReads
