/- JsonParses: for every text the law returns true (Parse answers what the reference's ParseText answers, errors too); the argument holds at most 1048576 letters; the library's listed variables as its text lays them. -/
import Derived.Test.YtjibdbnpkfghhaaGreatDoorPkC
import Derived.Test.YtjibdbnpkfghhaaGreatDoorLibAt
import Derived.Test.YtjibdbnpkfghhaaGreatDoorPkL
import Derived.Test.YtjibdbnpkfghhaaGreatDoorPaT
import Derived.Test.YtjibdbnpkfghhaaGreatDoorSameR
import Derived.Test.YtjibdbnpkfghhaaGreatDoorReadsL
import Derived.HandedShaped
import Derived.SevenTiedAt
set_option linter.all false
namespace Go.Proofs.YtjibdbnpkfghhaaGreatDoor.lawJsonParses
open Go.ChangeShapes Go.WideShapes Go.ChangeAt Go.RowKit
open Go.ChangeMaps (open_string shut_string)
section
attribute [local go_sem ↓] Go.wp_at_zero Go.wp_at_succ

set_option maxRecDepth 100000 in
set_option maxHeartbeats 8000000 in
theorem walk (s : ByteArray) (w : World) (hl : LibAt w) (hss : s.size ≤ 1048576) :
    Calls Tryz.prog 3 #[.string s] w fun e w' => e = .returned (.bool true) ∧ Ext w w' := by
  obtain ⟨v, hv⟩ : ∃ v, (parseV s.data.toList).1 = v := ⟨_, rfl⟩
  obtain ⟨pe, hpe⟩ : ∃ pe, (parseV s.data.toList).2 = pe := ⟨_, rfl⟩
  have Hp := Lib.hid (show parseV s.data.toList = (v, pe) from Prod.ext hv hpe)
  have hvs : v.size ≤ 1073741824 := by
    by_cases h0 : pe = 0
    · have := fine_size (x := v) (by have := (parse_ok _ (hpe.trans h0)).1; rwa [hv] at this)
      omega
    · have := parse_bad _ (by rw [hpe]; exact h0)
      rw [hv] at this
      rw [this, V.size_eq]; decide
  have hbe : (pe == pe) = true := by simp
  clear hv hpe
  go_enter Tryz.func3, Tryz.ntmps3
  go_wp2_with fail
  (refine (parse_any s _ (by omega) (hl.ext Xt)).mono ?_)
  rw [Hp.out]
  rintro e w1 ⟨ka, kc, la, lc, rfl, hin1, h1⟩
  have hx1 : Ext w w1 := Xt
  have Hin1 := Lib.hid (all_in hin1)
  clear h1 hin1
  go_upto_region 2 with fail
  refine gen_world (R := fun wx => Box wx w1.heap.size #[.int .i64 v.k, .int .i64 v.n, .string v.s, .slice ka v.keys.length kc, .slice la v.l.length lc] 25 ∧ v.In wx All ka kc la lc ∧ Ext w wx) ⟨Bxt, Hin1.out.ext Xt, Xt⟩ ?_
  clear Hin1
  rintro wb ⟨hB0, hinb, hxb⟩
  have Hin0 := Lib.hid hinb
  clear hinb
  go_wp2_with fail
  (refine (parseText_any s _ hss).mono ?_)
  rw [Hp.out]
  rintro e w2 ⟨kb, kd, lb, ld, rfl, hin2, h2⟩
  have hx2 : Ext w w2 := Xt
  have hB0 := Box.ext (w' := w2) Xt hB0
  have Hin0 := Lib.hid (V.In.ext (w' := w2) Hin0.out Xt)
  have Hin1 := Lib.hid (all_in hin2)
  clear h2 hin2 hxb
  go_upto_region 3 with fail
  refine gen_world (R := fun wx => Box wx w1.heap.size #[.int .i64 v.k, .int .i64 v.n, .string v.s, .slice ka v.keys.length kc, .slice la v.l.length lc] 25 ∧ Box wx w2.heap.size #[.int .i64 v.k, .int .i64 v.n, .string v.s, .slice kb v.keys.length kd, .slice lb v.l.length ld] 25 ∧ v.In wx All ka kc la lc ∧ v.In wx All kb kd lb ld ∧ Ext w wx) ⟨Bxt, Bxt, Hin0.out.ext Xt, Hin1.out.ext Xt, Xt⟩ ?_
  clear Hin0 Hin1 hB0 hx2
  rintro wc ⟨hB0, hB1, hin0, hin1, hxc⟩
  have Hin0 := Lib.hid hin0
  have Hin1 := Lib.hid hin1
  clear hin0 hin1
  have hc0 := hB0.cells; have hf0 := hB0.free; have hl0 := hB0.lt
  have hc1 := hB1.cells; have hf1 := hB1.free; have hl1 := hB1.lt
  go_wp2_with fail
  (refine (sameR_yes v v rfl (by omega) ka kc la lc kb kd lb ld All All _ (Hin0.out.ext Xt) (Hin1.out.ext Xt)).mono ?_); rintro e w3 ⟨rfl, h3⟩
  have hx3 : Ext w w3 := Xt
  clear h3 hc0 hf0 hl0 hc1 hf1 hl1
  go_wp2_with fail
  (with_reducible refine (reads_law _ (hl.ext Xt)).mono ?_); rintro e w4 ⟨rfl, h4⟩; obtain ⟨hcw4, hfw4, hzw4⟩ := ext_facts h4; (try simp at hzw4); (try have hzAw4 : w.heap.size < w4.heap.size := by omega); (try have hzBw4 : w.heap.size + 1 < w4.heap.size := by omega); (try have hzCw4 : w.heap.size + 2 < w4.heap.size := by omega)
  go_wp2_with fail
  go_ret
  exact ⟨rfl, Xt⟩
end
set_option maxRecDepth 100000 in
theorem lifted (os : Os) (started : os.Started) (H : Type) (enc : TypeId × Value → H) (Fi : Stop.Interp) :
    ReturnsInHanded {} Tryz.checked os 3 .any ((Rows.OpenSpec.upto Rows.jsonParsesSpec).preRow enc Tryz.prog Tryz.f3 Rows.jsonParsesUptoRow.domain false Rows.jsonParsesUptoRow.laid) (((Rows.OpenSpec.upto Rows.jsonParsesSpec).at Fi).post enc Tryz.prog Tryz.f3 false true false false) := by
  obtain ⟨places, hx⟩ : ∃ places, DataW.whole enc Tryz.prog ((start.laidWorld os).forCall (fun _ _ => 0) ⟨#[], #[.string ⟨#[]⟩], []⟩).memory Tryz.f3.params.toList Rows.jsonParsesSpec.vars false (#[.string ⟨#[]⟩]).toList 8 = some ([.lit (.string [])], [], places) := ⟨[], by kernel_rfl⟩
  refine returnsInHanded_of_row (C := Tryz.checked) (s := Rows.OpenSpec.upto Rows.jsonParsesSpec) Tryz.own started (by kernel_rfl) Tryz.func3
    (witness_row_atRef (enc := enc) (C := Tryz.checked) false (start.laidWorld os) #[.string ⟨#[]⟩] rfl (by kernel_rfl) (by kernel_rfl) (by kernel_rfl)
      (OpenSpec.preRow_of_cond 8 hx (by kernel_rfl) (fun k hk => by cases hk; kernel_rfl) (by kernel_rfl) (start.laid_met os _))) ?_
  intro W base args ds gs before hval0 hW _ hk _ hL hsh _
  have hkb := hk _ rfl
  have hval : ∀ (j : Nat) t v, Tryz.f3.params[j]? = some t → args[j]? = some v → Value.okWide Tryz.prog W .any base t v := hval0
  have hW' := hW
  obtain ⟨p, q, hA0, hV, rfl, hfz, hnd⟩ := hW
  have hA : DataW.TrodAll enc Tryz.prog W 0 (fun _ => true) true Tryz.f3.params.toList args.toList ds p := hA0
  rw [Tryz.params3] at hA hval
  obtain ⟨v0, vs0, d0, ds0, p0, q0, hargs, rfl, rfl, h0, r0⟩ := trodAll_cons hA
  obtain ⟨rfl, rfl, rfl⟩ := trodAll_nil r0
  obtain rfl : args = #[v0] := by cases args; simp_all
  obtain ⟨rfl, rfl⟩ := trodVars_none hV
  have hbulk : Rows.uptoBulkAll [d0] ≤ 1048576 := by simpa [Rows.uptoSmall] using hkb
  have k0 := h0
  have lt0 : ∀ x ∈ p0, x.block < W.heap.size := by obtain ⟨m, hm⟩ := k0; exact DataW.trod_lt m _ _ _ hm
  have hlib := libAt_of hsh hL
  obtain ⟨s0, rfl, rfl, rfl, ws0⟩ := open_string Tryz.underlying9 (hval 0 9 v0 rfl rfl) h0
  simp only [Rows.uptoBulkAll, Rows.uptoBulk] at hbulk
  have hlen0 : s0.data.toList.length = s0.size := Array.length_toList
  clear hA0 hval0
  refine (walk s0 W hlib (by omega)).mono fun e W' ⟨he, bel⟩ => ?_
  subst he
  exact ⟨_, rfl, _, _, _, [], _, [], hW', trodAll_mk1 (shut_bool Tryz.underlying4 _), (trodAll_cons_mk (Below.trod Tryz.laidOut (by kernel_rfl) (of_decide_eq_true (by kernel_rfl)) k0 bel lt0) trodAll_mk0), rfl, Below.frame bel _, fun h => by cases h⟩
theorem cA : (Rows.jsonParsesUptoRow.inPlace == Tryz.pinned.checked.prog.inPlace 3) = true := by kernel_rfl
theorem cB : (Rows.jsonParsesUptoRow.unfollowed == Tryz.pinned.checked.prog.unfollowed 3) = true := by kernel_rfl
theorem cC : (Rows.jsonParsesUptoRow.recurses == Tryz.pinned.checked.prog.recurses 3) = true := by kernel_rfl
theorem cD : (Rows.jsonParsesUptoRow.named == Tryz.pinned.checked.prog.varsNamed 3) = true := by kernel_rfl
theorem closed : joinedFacts Tryz.pinned.checked.prog 3 Tryz.f3 (Rows.OpenSpec.upto Rows.jsonParsesSpec).bare Rows.jsonParsesUptoRow = true := by
  unfold joinedFacts
  rw [cA, cB, cC, cD]
  kernel_rfl
theorem said : Rows.JsonParsesUptoSaid :=
  OpenClaim.holds_of_cond 3 Tryz.f3 rfl rfl rfl rfl rfl rfl rfl ⟨rfl, rfl, rfl, rfl, rfl⟩ rfl rfl rfl rfl rfl (by kernel_rfl) Tryz.func3 closed
    (of_decide_eq_true (by kernel_rfl)) (by unfold Func.isWrapper; first | (rw [if_pos (by decide +kernel)]; kernel_rfl) | (rw [if_neg (by decide +kernel)]; exact ⟨rfl, rfl⟩))
    (fun os started H enc _ F => by rw [OpenClaim.pre_eq_preRow]; exact lifted os started H enc F)
theorem plain (f : FuncId) (fn : Func) (hf : Tryz.pinned.checked.prog.funcNamed "stairwell/stairwelllaw.JsonParses" = some f) (hfn : Tryz.pinned.checked.prog.funcs[f]? = some fn) :
    true = Tryz.pinned.checked.prog.looks [] ∧ ∀ (j : Nat) t, fn.params[j]? = some t → Tryz.pinned.checked.prog.wantsStandIn t = false := by
  obtain rfl : f = 3 := Option.some.inj ((show Tryz.prog.funcNamed "stairwell/stairwelllaw.JsonParses" = some 3 by kernel_rfl).symm.trans hf) |>.symm
  obtain rfl : fn = Tryz.f3 := (Option.some.inj (Tryz.func3.symm.trans hfn)).symm
  refine ⟨by kernel_rfl, fun j t ht => ?_⟩
  rw [Tryz.params3] at ht
  have h : t = 9 := by simpa using Array.mem_of_getElem? ht
  rcases h with rfl
  · exact (show Tryz.prog.wantsStandIn 9 = false by kernel_rfl)
theorem proved : Rows.JsonParsesUptoCardSaid :=
  Claim7.holds_tied_plain_at .later [] _ _ _ _ said (fun _ h => by cases h) (by kernel_rfl) (fun _ h => by cases h) jsonParsesUpto_row_tie rfl ⟨rfl, rfl⟩ (by kernel_rfl) rfl plain (by kernel_rfl)
end Go.Proofs.YtjibdbnpkfghhaaGreatDoor.lawJsonParses
