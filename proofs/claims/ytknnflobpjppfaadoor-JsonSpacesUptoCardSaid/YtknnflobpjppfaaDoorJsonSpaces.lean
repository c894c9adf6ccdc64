/- JsonSpaces: for all texts the law returns true (spaces ahead and behind change nothing of what is read); the arguments hold together at most 1048576 letters; the library's listed variables as its text lays them. -/
import Derived.Test.YtknnflobpjppfaaDoorRd9
import Derived.Test.YtknnflobpjppfaaDoorLawK
import Derived.Test.YtknnflobpjppfaaDoorLibAt
import Derived.Test.YtknnflobpjppfaaDoorOpenV
import Derived.HandedShaped
import Derived.SevenTiedAt
set_option linter.all false
namespace Go.Proofs.YtknnflobpjppfaaDoor.lawJsonSpaces
open Go.ChangeShapes Go.WideShapes Go.ChangeAt Go.RowKit
open Go.ChangeMaps (open_string shut_string)
section
attribute [local go_sem ↓] Go.wp_at_zero Go.wp_at_succ

/-- The first k letters are spaces. -/
def GapTo (g : ByteArray) (k : Nat) : Prop := ∀ j (h : j < g.size), j < k → isSp g[j] = true
theorem gap_step {g : ByteArray} {k : Nat} (h : k < g.size) (hg : GapTo g k) (hs : isSp g[k] = true) : GapTo g (k + 1) := fun j hj hk => by
  by_cases e : j = k
  · subst e; exact hs
  · exact hg j hj (by omega)
theorem gap_end {g : ByteArray} (hg : GapTo g g.size) : Gap g.data.toList := fun c hc => by
  obtain ⟨j, hj, rfl⟩ := List.getElem_of_mem hc
  have e : g.data.toList.length = g.size := Array.length_toList
  exact hg j (by omega) (by omega)
theorem sp_of {c : UInt8} (h : (c.toNat : Int) = 32 ∨ (c.toNat : Int) = 9 ∨ (c.toNat : Int) = 10 ∨ (c.toNat : Int) = 13) : isSp c = true := by
  have e : ∀ n : Nat, n < 256 → (c.toNat : Int) = n → c = UInt8.ofNat n := fun n hn h => by apply UInt8.toNat_inj.1; simp; omega
  rcases h with h | h | h | h
  · rw [e 32 (by omega) h]; decide
  · rw [e 9 (by omega) h]; decide
  · rw [e 10 (by omega) h]; decide
  · rw [e 13 (by omega) h]; decide

set_option maxRecDepth 100000 in
set_option maxHeartbeats 8000000 in
theorem walk (s g : ByteArray) (w : World) (hl : LibAt w) (hss : s.size ≤ 4194304) (hgs : g.size ≤ 4194304) :
    Calls Tryd.prog 9 #[.string s, .string g] w fun e w' => e = .returned (.bool true) ∧ Ext w w' := by
  go_enter Tryd.func9, Tryd.ntmps9
  go_wp2_with fail
  go_loopg [5, 12] g.size (fun m _ i wr => ∃ k : Nat, k ≤ g.size ∧ i = .int .i64 k ∧ m = g.size - k ∧ GapTo g k ∧ wr = w)
  case atStart => exact ⟨0, by omega, rfl, rfl, fun j _ h => absurd h (Nat.not_lt_zero _), rfl⟩
  case round =>
    obtain ⟨k, hk, rfl, rfl, hg, rfl⟩ := hrel
    have Hg := Lib.hid hg
    clear hg
    by_cases hlt : k < g.size
    · by_cases c32 : (g[k].toNat : Int) = 32
      · have b32 : ((g[k].toNat : Int) != 32) = false := by simpa using c32
        have Hstep := Lib.hid (gap_step hlt Hg.out (sp_of (c := g[k]) (by omega)))
        go_wp2_with fail
        go_roundg (g.size - (k + 1))
        case measure => omega
        case rel => exact ⟨k + 1, by omega, by go_num, rfl, Hstep.out, rfl⟩
      have b32 : ((g[k].toNat : Int) != 32) = true := by simpa using c32
      by_cases c9 : (g[k].toNat : Int) = 9
      · have b9 : ((g[k].toNat : Int) != 9) = false := by simpa using c9
        have Hstep := Lib.hid (gap_step hlt Hg.out (sp_of (c := g[k]) (by omega)))
        go_wp2_with fail
        go_roundg (g.size - (k + 1))
        case measure => omega
        case rel => exact ⟨k + 1, by omega, by go_num, rfl, Hstep.out, rfl⟩
      have b9 : ((g[k].toNat : Int) != 9) = true := by simpa using c9
      by_cases c10 : (g[k].toNat : Int) = 10
      · have b10 : ((g[k].toNat : Int) != 10) = false := by simpa using c10
        have Hstep := Lib.hid (gap_step hlt Hg.out (sp_of (c := g[k]) (by omega)))
        go_wp2_with fail
        go_roundg (g.size - (k + 1))
        case measure => omega
        case rel => exact ⟨k + 1, by omega, by go_num, rfl, Hstep.out, rfl⟩
      have b10 : ((g[k].toNat : Int) != 10) = true := by simpa using c10
      by_cases c13 : (g[k].toNat : Int) = 13
      · have b13 : ((g[k].toNat : Int) != 13) = false := by simpa using c13
        have Hstep := Lib.hid (gap_step hlt Hg.out (sp_of (c := g[k]) (by omega)))
        go_wp2_with fail
        go_roundg (g.size - (k + 1))
        case measure => omega
        case rel => exact ⟨k + 1, by omega, by go_num, rfl, Hstep.out, rfl⟩
      have b13 : ((g[k].toNat : Int) != 13) = true := by simpa using c13
      go_wp2_with fail
      (with_reducible refine (reads_keep _ hl).mono ?_); rintro e w1 ⟨rfl, h1⟩; obtain ⟨hcw1, hfw1, hzw1⟩ := ext_facts h1; (try simp at hzw1); (try have hzAw1 : w.heap.size < w1.heap.size := by omega); (try have hzBw1 : w.heap.size + 1 < w1.heap.size := by omega); (try have hzCw1 : w.heap.size + 2 < w1.heap.size := by omega)
      go_wp2_with fail
      go_ret
      exact ⟨rfl, (by with_reducible repeat (first | exact Ext.refl _ | assumption | apply Ext.drew | apply Ext.drewN | apply Ext.alloc | (refine Ext.setCell ?_ ?_ _; rotate_left; (focus (first | (simp; done) | (simp; omega) | omega))) | refine Ext.trans ?_ (by assumption)))⟩
    · obtain rfl : k = g.size := by omega
      have Hgap := Lib.hid (gap_end Hg.out)
      clear Hg
      by_cases h2k : 2000 < s.size + 2 * g.size
      · have h2i : (2000 : Int) < (s.size : Int) + 2 * (g.size : Int) := by omega
        go_wp2_with fail
        (with_reducible refine (reads_keep _ hl).mono ?_); rintro e w1 ⟨rfl, h1⟩; obtain ⟨hcw1, hfw1, hzw1⟩ := ext_facts h1; (try simp at hzw1); (try have hzAw1 : w.heap.size < w1.heap.size := by omega); (try have hzBw1 : w.heap.size + 1 < w1.heap.size := by omega); (try have hzCw1 : w.heap.size + 2 < w1.heap.size := by omega)
        go_wp2_with fail
        go_ret
        exact ⟨rfl, (by with_reducible repeat (first | exact Ext.refl _ | assumption | apply Ext.drew | apply Ext.drewN | apply Ext.alloc | (refine Ext.setCell ?_ ?_ _; rotate_left; (focus (first | (simp; done) | (simp; omega) | omega))) | refine Ext.trans ?_ (by assumption)))⟩
      · have h2i : ¬ (2000 : Int) < (s.size : Int) + 2 * (g.size : Int) := by omega
        obtain ⟨v, hv⟩ : ∃ v, (parseV s.data.toList).1 = v := ⟨_, rfl⟩
        obtain ⟨pe, hpe⟩ : ∃ pe, (parseV s.data.toList).2 = pe := ⟨_, rfl⟩
        have hvs : v.size ≤ 1073741824 := by
          by_cases h0 : (parseV s.data.toList).2 = 0
          · have := fine_size (parse_ok _ h0).1; rw [hv] at this; omega
          · have := parse_bad _ h0; rw [hv] at this; rw [this, V.size_eq]; decide
        have Hp := Lib.hid (show parseV s.data.toList = (v, pe) from Prod.ext hv hpe)
        have Hp2 := Lib.hid (show parseV (g ++ s ++ g).data.toList = (v, pe) by
          have e1 : s.data.toList.length = s.size := Array.length_toList
          have e2 : g.data.toList.length = g.size := Array.length_toList
          have := spaces_law Hgap.out (s := s.data.toList) (by omega)
          rw [Hp.out] at this
          rw [← this]; simp)
        have c1 : ¬ g.size + s.size > 9223372036854775807 := by omega
        have e3 : (g ++ s).size = g.size + s.size := ByteArray.size_append
        have c2 : ¬ (g ++ s).size + g.size > 9223372036854775807 := by rw [e3]; omega
        have c3 : (g ++ s ++ g).size ≤ 1099511627776 := by rw [ByteArray.size_append, e3]; omega
        have E3 := Lib.hid e3
        clear e3 hv hpe
        go_wp2_with fail
        (refine (parse_any s _ (by omega) (hl.ext (by with_reducible repeat (first | exact Ext.refl _ | assumption | apply Ext.drew | apply Ext.drewN | apply Ext.alloc | (refine Ext.setCell ?_ ?_ _; rotate_left; (focus (first | (simp; done) | (simp; omega) | omega))) | refine Ext.trans ?_ (by assumption))))).mono ?_)
        rw [Hp.out]
        rintro e w1 ⟨ka, kc, la, lc, rfl, hin1, h1⟩
        have hx1 := h1
        have Hin1 := Lib.hid (all_in hin1)
        clear h1 hin1
        go_upto_region 10 with fail
        refine gen_world (R := fun wx => Box wx w1.heap.size #[.int .i64 v.k, .int .i64 v.n, .string v.s, .slice ka v.keys.length kc, .slice la v.l.length lc] 33 ∧ v.In wx All ka kc la lc ∧ Ext w1 wx) ⟨(by (with_reducible apply Box.to); (focus (with_reducible repeat (first | assumption | (apply Box.new; (focus (first | rfl | (first | (simp; done) | (simp; omega) | omega)))) | apply Box.set | (apply Box.other; rotate_left; (focus (first | (simp; done) | (simp; omega) | omega))) | apply Box.alloc | apply Box.drew | (apply Box.ext; (focus assumption))))); (first | rfl | (simp; done) | (go_light; simp [*]; done))), Hin1.out.ext (by with_reducible repeat (first | exact Ext.refl _ | assumption | apply Ext.drew | apply Ext.drewN | apply Ext.alloc | (refine Ext.setCell ?_ ?_ _; rotate_left; (focus (first | (simp; done) | (simp; omega) | omega))) | refine Ext.trans ?_ (by assumption))), (by with_reducible repeat (first | exact Ext.refl _ | assumption | apply Ext.drew | apply Ext.drewN | apply Ext.alloc | (refine Ext.setCell ?_ ?_ _; rotate_left; (focus (first | (simp; done) | (simp; omega) | omega))) | refine Ext.trans ?_ (by assumption)))⟩ ?_
        clear Hin1
        rintro wb ⟨hB, hinb, hxb⟩
        have Hinb := Lib.hid hinb
        have hxb := hx1.trans hxb
        clear hinb hx1
        go_wp2_with fail
        (refine (parse_any _ _ c3 (hl.ext (by with_reducible repeat (first | exact Ext.refl _ | assumption | apply Ext.drew | apply Ext.drewN | apply Ext.alloc | (refine Ext.setCell ?_ ?_ _; rotate_left; (focus (first | (simp; done) | (simp; omega) | omega))) | refine Ext.trans ?_ (by assumption))))).mono ?_)
        rw [Hp2.out]
        rintro e w2 ⟨kb, kd, lb, ld, rfl, hin2, h2⟩
        have hB2 := Box.ext h2 hB
        have hx2 := hxb.trans h2
        have Hin2 := Lib.hid (all_in hin2)
        have Hinb := Lib.hid (V.In.ext (w' := w2) Hinb.out h2)
        clear h2 hin2 hxb hB
        go_upto_region 11 with fail
        refine gen_world (R := fun wx => Box wx w1.heap.size #[.int .i64 v.k, .int .i64 v.n, .string v.s, .slice ka v.keys.length kc, .slice la v.l.length lc] 33 ∧ Box wx w2.heap.size #[.int .i64 v.k, .int .i64 v.n, .string v.s, .slice kb v.keys.length kd, .slice lb v.l.length ld] 33 ∧ v.In wx All ka kc la lc ∧ v.In wx All kb kd lb ld ∧ Ext w2 wx) ⟨(by (with_reducible apply Box.to); (focus (with_reducible repeat (first | assumption | (apply Box.new; (focus (first | rfl | (first | (simp; done) | (simp; omega) | omega)))) | apply Box.set | (apply Box.other; rotate_left; (focus (first | (simp; done) | (simp; omega) | omega))) | apply Box.alloc | apply Box.drew | (apply Box.ext; (focus assumption))))); (first | rfl | (simp; done) | (go_light; simp [*]; done))), (by (with_reducible apply Box.to); (focus (with_reducible repeat (first | assumption | (apply Box.new; (focus (first | rfl | (first | (simp; done) | (simp; omega) | omega)))) | apply Box.set | (apply Box.other; rotate_left; (focus (first | (simp; done) | (simp; omega) | omega))) | apply Box.alloc | apply Box.drew | (apply Box.ext; (focus assumption))))); (first | rfl | (simp; done) | (go_light; simp [*]; done))), Hinb.out.ext (by with_reducible repeat (first | exact Ext.refl _ | assumption | apply Ext.drew | apply Ext.drewN | apply Ext.alloc | (refine Ext.setCell ?_ ?_ _; rotate_left; (focus (first | (simp; done) | (simp; omega) | omega))) | refine Ext.trans ?_ (by assumption))), Hin2.out.ext (by with_reducible repeat (first | exact Ext.refl _ | assumption | apply Ext.drew | apply Ext.drewN | apply Ext.alloc | (refine Ext.setCell ?_ ?_ _; rotate_left; (focus (first | (simp; done) | (simp; omega) | omega))) | refine Ext.trans ?_ (by assumption))), (by with_reducible repeat (first | exact Ext.refl _ | assumption | apply Ext.drew | apply Ext.drewN | apply Ext.alloc | (refine Ext.setCell ?_ ?_ _; rotate_left; (focus (first | (simp; done) | (simp; omega) | omega))) | refine Ext.trans ?_ (by assumption)))⟩ ?_
        clear hB2 Hinb Hin2
        rintro wc ⟨hB0, hB1, hin0, hin1, hxc⟩
        have Hin0 := Lib.hid hin0
        have Hin1 := Lib.hid hin1
        have hxc := hx2.trans hxc
        clear hin0 hin1 hx2
        have hc0 := hB0.cells; have hf0 := hB0.free; have hl0 := hB0.lt
        have hc1 := hB1.cells; have hf1 := hB1.free; have hl1 := hB1.lt
        go_wp2_with fail
        (refine (same_any v v rfl hvs ka kc la lc kb kd lb ld All All _ (Hin0.out.ext (by with_reducible repeat (first | exact Ext.refl _ | assumption | apply Ext.drew | apply Ext.drewN | apply Ext.alloc | (refine Ext.setCell ?_ ?_ _; rotate_left; (focus (first | (simp; done) | (simp; omega) | omega))) | refine Ext.trans ?_ (by assumption)))) (Hin1.out.ext (by with_reducible repeat (first | exact Ext.refl _ | assumption | apply Ext.drew | apply Ext.drewN | apply Ext.alloc | (refine Ext.setCell ?_ ?_ _; rotate_left; (focus (first | (simp; done) | (simp; omega) | omega))) | refine Ext.trans ?_ (by assumption))))).mono ?_); rintro e w3 ⟨rfl, h3⟩
        have hx3 := hxc.trans h3
        clear h3 hc0 hf0 hl0 hc1 hf1 hl1 hxc
        go_wp2_with fail
        (with_reducible refine (reads_keep _ (hl.ext (by with_reducible repeat (first | exact Ext.refl _ | assumption | apply Ext.drew | apply Ext.drewN | apply Ext.alloc | (refine Ext.setCell ?_ ?_ _; rotate_left; (focus (first | (simp; done) | (simp; omega) | omega))) | refine Ext.trans ?_ (by assumption))))).mono ?_); rintro e w4 ⟨rfl, h4⟩; obtain ⟨hcw4, hfw4, hzw4⟩ := ext_facts h4; (try simp at hzw4); (try have hzAw4 : w.heap.size < w4.heap.size := by omega); (try have hzBw4 : w.heap.size + 1 < w4.heap.size := by omega); (try have hzCw4 : w.heap.size + 2 < w4.heap.size := by omega)
        go_wp2_with fail
        go_ret
        exact ⟨by simp, (by with_reducible repeat (first | exact Ext.refl _ | assumption | apply Ext.drew | apply Ext.drewN | apply Ext.alloc | (refine Ext.setCell ?_ ?_ _; rotate_left; (focus (first | (simp; done) | (simp; omega) | omega))) | refine Ext.trans ?_ (by assumption)))⟩
end
set_option maxRecDepth 100000 in
theorem lifted (os : Os) (started : os.Started) (H : Type) (enc : TypeId × Value → H) (Fi : Stop.Interp) :
    ReturnsInHanded {} Tryd.checked os 9 .any ((Rows.OpenSpec.upto Rows.jsonSpacesSpec).preRow enc Tryd.prog Tryd.f9 Rows.jsonSpacesUptoRow.domain false Rows.jsonSpacesUptoRow.laid) (((Rows.OpenSpec.upto Rows.jsonSpacesSpec).at Fi).post enc Tryd.prog Tryd.f9 false true false false) := by
  obtain ⟨places, hx⟩ : ∃ places, DataW.whole enc Tryd.prog ((start.laidWorld os).forCall (fun _ _ => 0) ⟨#[], #[.string ⟨#[]⟩, .string ⟨#[]⟩], []⟩).memory Tryd.f9.params.toList Rows.jsonSpacesSpec.vars false (#[.string ⟨#[]⟩, .string ⟨#[]⟩]).toList 8 = some ([.lit (.string []), .lit (.string [])], [], places) := ⟨[], by kernel_rfl⟩
  refine returnsInHanded_of_row (C := Tryd.checked) (s := Rows.OpenSpec.upto Rows.jsonSpacesSpec) Tryd.own started (by kernel_rfl) Tryd.func9
    (witness_row_atRef (enc := enc) (C := Tryd.checked) false (start.laidWorld os) #[.string ⟨#[]⟩, .string ⟨#[]⟩] rfl (by kernel_rfl) (by kernel_rfl) (by kernel_rfl)
      (OpenSpec.preRow_of_cond 8 hx (by kernel_rfl) (fun k hk => by cases hk; kernel_rfl) (by kernel_rfl) (start.laid_met os _))) ?_
  intro W base args ds gs before hval0 hW _ hk _ hL hsh _
  have hkb := hk _ rfl
  have hval : ∀ (j : Nat) t v, Tryd.f9.params[j]? = some t → args[j]? = some v → Value.okWide Tryd.prog W .any base t v := hval0
  have hW' := hW
  obtain ⟨p, q, hA0, hV, rfl, hfz, hnd⟩ := hW
  have hA : DataW.TrodAll enc Tryd.prog W 0 (fun _ => true) true Tryd.f9.params.toList args.toList ds p := hA0
  rw [Tryd.params9] at hA hval
  obtain ⟨v0, vs0, d0, ds0, p0, q0, hargs, rfl, rfl, h0, r0⟩ := trodAll_cons hA
  obtain ⟨v1, vs1, d1, ds1, p1, q1, rfl, rfl, rfl, h1, r1⟩ := trodAll_cons r0
  obtain ⟨rfl, rfl, rfl⟩ := trodAll_nil r1
  obtain rfl : args = #[v0, v1] := by cases args; simp_all
  obtain ⟨rfl, rfl⟩ := trodVars_none hV
  have hbulk : Rows.uptoBulkAll [d0, d1] ≤ 1048576 := by simpa [Rows.uptoSmall] using hkb
  have k0 := h0
  have k1 := h1
  have lt0 : ∀ x ∈ p0, x.block < W.heap.size := by obtain ⟨m, hm⟩ := k0; exact DataW.trod_lt m _ _ _ hm
  have lt1 : ∀ x ∈ p1, x.block < W.heap.size := by obtain ⟨m, hm⟩ := k1; exact DataW.trod_lt m _ _ _ hm
  have hlib := libAt_of hsh hL
  obtain ⟨s0, rfl, rfl, rfl, ws0⟩ := open_string Tryd.underlying9 (hval 0 9 v0 rfl rfl) h0
  obtain ⟨s1, rfl, rfl, rfl, ws1⟩ := open_string Tryd.underlying9 (hval 1 9 v1 rfl rfl) h1
  simp only [Rows.uptoBulkAll, Rows.uptoBulk] at hbulk
  have hlen0 : s0.data.toList.length = s0.size := Array.length_toList
  have hlen1 : s1.data.toList.length = s1.size := Array.length_toList
  clear hA0 hval0
  refine (walk s0 s1 W hlib (by omega) (by omega)).mono fun e W' ⟨he, bel⟩ => ?_
  subst he
  exact ⟨_, rfl, _, _, _, [], _, [], hW', trodAll_mk1 (shut_bool Tryd.underlying4 _), (trodAll_cons_mk (Below.trod Tryd.laidOut (by kernel_rfl) (of_decide_eq_true (by kernel_rfl)) k0 bel lt0) (trodAll_cons_mk (Below.trod Tryd.laidOut (by kernel_rfl) (of_decide_eq_true (by kernel_rfl)) k1 bel lt1) trodAll_mk0)), rfl, Below.frame bel _, fun h => by cases h⟩
theorem said : Rows.JsonSpacesUptoSaid :=
  OpenClaim.holds_of_cond 9 Tryd.f9 rfl rfl rfl rfl rfl rfl rfl ⟨rfl, rfl, rfl, rfl, rfl⟩ rfl rfl rfl rfl rfl (by kernel_rfl) Tryd.func9 (by kernel_rfl)
    (of_decide_eq_true (by kernel_rfl)) (by unfold Func.isWrapper; first | (rw [if_pos (by decide +kernel)]; kernel_rfl) | (rw [if_neg (by decide +kernel)]; exact ⟨rfl, rfl⟩))
    (fun os started H enc _ F => by rw [OpenClaim.pre_eq_preRow]; exact lifted os started H enc F)
theorem plain (f : FuncId) (fn : Func) (hf : Tryd.pinned.checked.prog.funcNamed "stairwell/stairwellkeep.JsonSpaces" = some f) (hfn : Tryd.pinned.checked.prog.funcs[f]? = some fn) :
    true = Tryd.pinned.checked.prog.looks [] ∧ ∀ (j : Nat) t, fn.params[j]? = some t → Tryd.pinned.checked.prog.wantsStandIn t = false := by
  obtain rfl : f = 9 := Option.some.inj ((show Tryd.prog.funcNamed "stairwell/stairwellkeep.JsonSpaces" = some 9 by kernel_rfl).symm.trans hf) |>.symm
  obtain rfl : fn = Tryd.f9 := (Option.some.inj (Tryd.func9.symm.trans hfn)).symm
  refine ⟨by kernel_rfl, fun j t ht => ?_⟩
  rw [Tryd.params9] at ht
  have h : t = 9 := by simpa using Array.mem_of_getElem? ht
  rcases h with rfl
  · exact (show Tryd.prog.wantsStandIn 9 = false by kernel_rfl)
theorem proved : Rows.JsonSpacesUptoCardSaid :=
  Claim7.holds_tied_plain_at .later [] _ _ _ _ said (fun _ h => by cases h) (by kernel_rfl) (fun _ h => by cases h) jsonSpacesUpto_row_tie rfl ⟨rfl, rfl⟩ (by kernel_rfl) rfl plain (by kernel_rfl)
end Go.Proofs.YtknnflobpjppfaaDoor.lawJsonSpaces
