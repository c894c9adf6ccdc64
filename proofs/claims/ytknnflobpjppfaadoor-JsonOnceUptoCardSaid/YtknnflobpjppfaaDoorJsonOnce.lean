/- JsonOnce: for every text the law returns true (what is printed of what was read is read as the same, and printed the same); the argument holds at most 1048576 letters; the library's listed variables as its text lays them. -/
import Derived.Test.YtknnflobpjppfaaDoorRd9
import Derived.Test.YtknnflobpjppfaaDoorLawK
import Derived.Test.YtknnflobpjppfaaDoorLibAt
import Derived.Test.YtknnflobpjppfaaDoorOpenV
import Derived.HandedShaped
import Derived.SevenTiedAt
set_option linter.all false
namespace Go.Proofs.YtknnflobpjppfaaDoor.lawJsonOnce
open Go.ChangeShapes Go.WideShapes Go.ChangeAt Go.RowKit
open Go.ChangeMaps (open_string shut_string)
section
attribute [local go_sem ↓] Go.wp_at_zero Go.wp_at_succ

set_option maxRecDepth 100000 in
set_option maxHeartbeats 8000000 in
theorem walk (s : ByteArray) (w : World) (hl : LibAt w) (hss : s.size ≤ 4194304) :
    Calls Tryd.prog 8 #[.string s] w fun e w' => e = .returned (.bool true) ∧ Ext w w' := by
  obtain ⟨v, hv⟩ : ∃ v, (parseV s.data.toList).1 = v := ⟨_, rfl⟩
  obtain ⟨pe, hpe⟩ : ∃ pe, (parseV s.data.toList).2 = pe := ⟨_, rfl⟩
  have Hp := Lib.hid (show parseV s.data.toList = (v, pe) from Prod.ext hv hpe)
  by_cases h0 : pe = 0
  · subst h0
    obtain ⟨hf, -⟩ := parse_ok _ hpe
    rw [hv] at hf
    have hvs := fine_size hf
    have Hf := Lib.hid hf
    obtain ⟨q, hq⟩ : ∃ q : ByteArray, (⟨(printV v).1.toArray⟩ : ByteArray) = q := ⟨_, rfl⟩
    obtain ⟨qe, hqe⟩ : ∃ qe, (printV v).2 = qe := ⟨_, rfl⟩
    have hql : q.data.toList = (printV v).1 := by rw [← hq]
    have hpc := print_cases v
    rw [hqe, ← hql] at hpc
    have Hq := Lib.hid hq
    have Hqe := Lib.hid hqe
    clear hq hqe hql hf hv hpe
    go_enter Tryd.func8, Tryd.ntmps8
    go_wp2_with fail
    (refine (parse_any s _ (by omega) (hl.ext (by with_reducible repeat (first | exact Ext.refl _ | assumption | apply Ext.drew | apply Ext.drewN | apply Ext.alloc | (refine Ext.setCell ?_ ?_ _; rotate_left; (focus (first | (simp; done) | (simp; omega) | omega))) | refine Ext.trans ?_ (by assumption))))).mono ?_)
    rw [Hp.out]
    rintro e w1 ⟨ka, kc, la, lc, rfl, hin1, h1⟩
    have hx1 : Ext w w1 := (by with_reducible repeat (first | exact Ext.refl _ | assumption | apply Ext.drew | apply Ext.drewN | apply Ext.alloc | (refine Ext.setCell ?_ ?_ _; rotate_left; (focus (first | (simp; done) | (simp; omega) | omega))) | refine Ext.trans ?_ (by assumption)))
    have Hin1 := Lib.hid (all_in hin1)
    clear h1 hin1
    go_upto_region 2 with fail
    refine gen_world (R := fun wx => Box wx w1.heap.size #[.int .i64 v.k, .int .i64 v.n, .string v.s, .slice ka v.keys.length kc, .slice la v.l.length lc] 33 ∧ v.In wx All ka kc la lc ∧ Ext w wx) ⟨(by (with_reducible apply Box.to); (focus (with_reducible repeat (first | assumption | (apply Box.new; (focus (first | rfl | (first | (simp; done) | (simp; omega) | omega)))) | apply Box.set | (apply Box.other; rotate_left; (focus (first | (simp; done) | (simp; omega) | omega))) | apply Box.alloc | apply Box.drew | (apply Box.ext; (focus assumption))))); (first | rfl | (simp; done) | (go_light; simp [*]; done))), Hin1.out.ext (by with_reducible repeat (first | exact Ext.refl _ | assumption | apply Ext.drew | apply Ext.drewN | apply Ext.alloc | (refine Ext.setCell ?_ ?_ _; rotate_left; (focus (first | (simp; done) | (simp; omega) | omega))) | refine Ext.trans ?_ (by assumption))), (by with_reducible repeat (first | exact Ext.refl _ | assumption | apply Ext.drew | apply Ext.drewN | apply Ext.alloc | (refine Ext.setCell ?_ ?_ _; rotate_left; (focus (first | (simp; done) | (simp; omega) | omega))) | refine Ext.trans ?_ (by assumption)))⟩ ?_
    clear Hin1
    rintro wb ⟨hB, hinb, hxb⟩
    have Hinb := Lib.hid hinb
    clear hinb
    go_wp2_with fail
    (with_reducible refine (reads_keep _ (hl.ext (by with_reducible repeat (first | exact Ext.refl _ | assumption | apply Ext.drew | apply Ext.drewN | apply Ext.alloc | (refine Ext.setCell ?_ ?_ _; rotate_left; (focus (first | (simp; done) | (simp; omega) | omega))) | refine Ext.trans ?_ (by assumption))))).mono ?_); rintro e w2 ⟨rfl, h2⟩; obtain ⟨hcw2, hfw2, hzw2⟩ := ext_facts h2; (try simp at hzw2); (try have hzAw2 : w.heap.size < w2.heap.size := by omega); (try have hzBw2 : w.heap.size + 1 < w2.heap.size := by omega); (try have hzCw2 : w.heap.size + 2 < w2.heap.size := by omega)
    have hB2 := Box.ext h2 hB
    have hx2 : Ext w w2 := (by with_reducible repeat (first | exact Ext.refl _ | assumption | apply Ext.drew | apply Ext.drewN | apply Ext.alloc | (refine Ext.setCell ?_ ?_ _; rotate_left; (focus (first | (simp; done) | (simp; omega) | omega))) | refine Ext.trans ?_ (by assumption)))
    have Hin2 := Lib.hid (Hinb.out.ext h2)
    clear h2 hxb hB hcw2 hfw2 Hinb
    have hc2 := hB2.cells; have hf2 := hB2.free; have hl2 := hB2.lt
    go_wp2_with fail
    (refine (print_any v ka kc la lc _ _ (by omega) (Hin2.out.ext (by with_reducible repeat (first | exact Ext.refl _ | assumption | apply Ext.drew | apply Ext.drewN | apply Ext.alloc | (refine Ext.setCell ?_ ?_ _; rotate_left; (focus (first | (simp; done) | (simp; omega) | omega))) | refine Ext.trans ?_ (by assumption)))) (hl.ext (by with_reducible repeat (first | exact Ext.refl _ | assumption | apply Ext.drew | apply Ext.drewN | apply Ext.alloc | (refine Ext.setCell ?_ ?_ _; rotate_left; (focus (first | (simp; done) | (simp; omega) | omega))) | refine Ext.trans ?_ (by assumption))))).mono ?_)
    rw [Hq.out, Hqe.out]
    rintro e w3 ⟨rfl, h3⟩
    have hB3 := Box.ext h3 hB2
    have hx3 : Ext w w3 := (by with_reducible repeat (first | exact Ext.refl _ | assumption | apply Ext.drew | apply Ext.drewN | apply Ext.alloc | (refine Ext.setCell ?_ ?_ _; rotate_left; (focus (first | (simp; done) | (simp; omega) | omega))) | refine Ext.trans ?_ (by assumption)))
    have Hin3 := Lib.hid (V.In.ext (w' := w3) Hin2.out (by with_reducible repeat (first | exact Ext.refl _ | assumption | apply Ext.drew | apply Ext.drewN | apply Ext.alloc | (refine Ext.setCell ?_ ?_ _; rotate_left; (focus (first | (simp; done) | (simp; omega) | omega))) | refine Ext.trans ?_ (by assumption))))
    clear hc2 hf2 hl2
    clear h3 hx2 hB2 Hin2
    rcases hpc with ⟨rfl, hpp, hlen⟩ | ⟨rfl, -, -⟩ | ⟨-, -, hf⟩
    · have Hpp := Lib.hid hpp
      have hqs : q.size ≤ 1099511627776 := by
        have e : q.data.toList.length = q.size := Array.length_toList
        omega
      clear hpp hlen
      go_wp2_with fail
      (refine (parse_any q _ hqs (hl.ext (by with_reducible repeat (first | exact Ext.refl _ | assumption | apply Ext.drew | apply Ext.drewN | apply Ext.alloc | (refine Ext.setCell ?_ ?_ _; rotate_left; (focus (first | (simp; done) | (simp; omega) | omega))) | refine Ext.trans ?_ (by assumption))))).mono ?_)
      rw [Hpp.out]
      rintro e w4 ⟨kb, kd, lb, ld, rfl, hin4, h4⟩
      have hB4 := Box.ext h4 hB3
      have hx4 : Ext w w4 := (by with_reducible repeat (first | exact Ext.refl _ | assumption | apply Ext.drew | apply Ext.drewN | apply Ext.alloc | (refine Ext.setCell ?_ ?_ _; rotate_left; (focus (first | (simp; done) | (simp; omega) | omega))) | refine Ext.trans ?_ (by assumption)))
      have Hin4 := Lib.hid (all_in hin4)
      have Hin3 := Lib.hid (V.In.ext (w' := w4) Hin3.out (by with_reducible repeat (first | exact Ext.refl _ | assumption | apply Ext.drew | apply Ext.drewN | apply Ext.alloc | (refine Ext.setCell ?_ ?_ _; rotate_left; (focus (first | (simp; done) | (simp; omega) | omega))) | refine Ext.trans ?_ (by assumption))))
      clear h4 hin4 hx3 hB3
      go_upto_region 8 with fail
      refine gen_world (R := fun wx => Box wx w1.heap.size #[.int .i64 v.k, .int .i64 v.n, .string v.s, .slice ka v.keys.length kc, .slice la v.l.length lc] 33 ∧ Box wx w4.heap.size #[.int .i64 v.k, .int .i64 v.n, .string v.s, .slice kb v.keys.length kd, .slice lb v.l.length ld] 33 ∧ v.In wx All ka kc la lc ∧ v.In wx All kb kd lb ld ∧ Ext w wx) ⟨(by (with_reducible apply Box.to); (focus (with_reducible repeat (first | assumption | (apply Box.new; (focus (first | rfl | (first | (simp; done) | (simp; omega) | omega)))) | apply Box.set | (apply Box.other; rotate_left; (focus (first | (simp; done) | (simp; omega) | omega))) | apply Box.alloc | apply Box.drew | (apply Box.ext; (focus assumption))))); (first | rfl | (simp; done) | (go_light; simp [*]; done))), (by (with_reducible apply Box.to); (focus (with_reducible repeat (first | assumption | (apply Box.new; (focus (first | rfl | (first | (simp; done) | (simp; omega) | omega)))) | apply Box.set | (apply Box.other; rotate_left; (focus (first | (simp; done) | (simp; omega) | omega))) | apply Box.alloc | apply Box.drew | (apply Box.ext; (focus assumption))))); (first | rfl | (simp; done) | (go_light; simp [*]; done))), Hin3.out.ext (by with_reducible repeat (first | exact Ext.refl _ | assumption | apply Ext.drew | apply Ext.drewN | apply Ext.alloc | (refine Ext.setCell ?_ ?_ _; rotate_left; (focus (first | (simp; done) | (simp; omega) | omega))) | refine Ext.trans ?_ (by assumption))), Hin4.out.ext (by with_reducible repeat (first | exact Ext.refl _ | assumption | apply Ext.drew | apply Ext.drewN | apply Ext.alloc | (refine Ext.setCell ?_ ?_ _; rotate_left; (focus (first | (simp; done) | (simp; omega) | omega))) | refine Ext.trans ?_ (by assumption))), (by with_reducible repeat (first | exact Ext.refl _ | assumption | apply Ext.drew | apply Ext.drewN | apply Ext.alloc | (refine Ext.setCell ?_ ?_ _; rotate_left; (focus (first | (simp; done) | (simp; omega) | omega))) | refine Ext.trans ?_ (by assumption)))⟩ ?_
      clear hB4 Hin4 Hin3 hx4
      rintro wc ⟨hB0, hB1, hin3, hin4, hxc⟩
      have Hin3 := Lib.hid hin3
      have Hin4 := Lib.hid hin4
      clear hin3 hin4
      have hc1 := hB1.cells; have hf1 := hB1.free; have hl1 := hB1.lt
      go_wp2_with fail
      (refine (print_any v kb kd lb ld _ _ (by omega) (Hin4.out.ext (by with_reducible repeat (first | exact Ext.refl _ | assumption | apply Ext.drew | apply Ext.drewN | apply Ext.alloc | (refine Ext.setCell ?_ ?_ _; rotate_left; (focus (first | (simp; done) | (simp; omega) | omega))) | refine Ext.trans ?_ (by assumption)))) (hl.ext (by with_reducible repeat (first | exact Ext.refl _ | assumption | apply Ext.drew | apply Ext.drewN | apply Ext.alloc | (refine Ext.setCell ?_ ?_ _; rotate_left; (focus (first | (simp; done) | (simp; omega) | omega))) | refine Ext.trans ?_ (by assumption))))).mono ?_)
      rw [Hq.out, Hqe.out]
      rintro e w5 ⟨rfl, h5⟩
      have hB0 := Box.ext h5 hB0
      have hB1 := Box.ext h5 hB1
      have hx5 : Ext w w5 := (by with_reducible repeat (first | exact Ext.refl _ | assumption | apply Ext.drew | apply Ext.drewN | apply Ext.alloc | (refine Ext.setCell ?_ ?_ _; rotate_left; (focus (first | (simp; done) | (simp; omega) | omega))) | refine Ext.trans ?_ (by assumption)))
      have Hin3 := Lib.hid (V.In.ext (w' := w5) Hin3.out (by with_reducible repeat (first | exact Ext.refl _ | assumption | apply Ext.drew | apply Ext.drewN | apply Ext.alloc | (refine Ext.setCell ?_ ?_ _; rotate_left; (focus (first | (simp; done) | (simp; omega) | omega))) | refine Ext.trans ?_ (by assumption))))
      have Hin4 := Lib.hid (V.In.ext (w' := w5) Hin4.out (by with_reducible repeat (first | exact Ext.refl _ | assumption | apply Ext.drew | apply Ext.drewN | apply Ext.alloc | (refine Ext.setCell ?_ ?_ _; rotate_left; (focus (first | (simp; done) | (simp; omega) | omega))) | refine Ext.trans ?_ (by assumption))))
      clear hc1 hf1 hl1
      clear h5 hxc
      have hc0 := hB0.cells; have hf0 := hB0.free; have hl0 := hB0.lt
      have hc1 := hB1.cells; have hf1 := hB1.free; have hl1 := hB1.lt
      go_wp2_with fail
      (refine (same_any v v rfl (by omega) ka kc la lc kb kd lb ld All All _ (Hin3.out.ext (by with_reducible repeat (first | exact Ext.refl _ | assumption | apply Ext.drew | apply Ext.drewN | apply Ext.alloc | (refine Ext.setCell ?_ ?_ _; rotate_left; (focus (first | (simp; done) | (simp; omega) | omega))) | refine Ext.trans ?_ (by assumption)))) (Hin4.out.ext (by with_reducible repeat (first | exact Ext.refl _ | assumption | apply Ext.drew | apply Ext.drewN | apply Ext.alloc | (refine Ext.setCell ?_ ?_ _; rotate_left; (focus (first | (simp; done) | (simp; omega) | omega))) | refine Ext.trans ?_ (by assumption))))).mono ?_); rintro e w6 ⟨rfl, h6⟩
      go_wp2_with fail
      go_ret
      exact ⟨by simp, (by with_reducible repeat (first | exact Ext.refl _ | assumption | apply Ext.drew | apply Ext.drewN | apply Ext.alloc | (refine Ext.setCell ?_ ?_ _; rotate_left; (focus (first | (simp; done) | (simp; omega) | omega))) | refine Ext.trans ?_ (by assumption)))⟩
    · have hc3 := hB3.cells; have hf3 := hB3.free; have hl3 := hB3.lt
      go_wp2_with fail
      (refine (fine_any v ka kc la lc _ _ (by omega) (Hin3.out.ext (by with_reducible repeat (first | exact Ext.refl _ | assumption | apply Ext.drew | apply Ext.drewN | apply Ext.alloc | (refine Ext.setCell ?_ ?_ _; rotate_left; (focus (first | (simp; done) | (simp; omega) | omega))) | refine Ext.trans ?_ (by assumption))))).mono ?_); rintro e w4 ⟨rfl, h4⟩
      rw [Hf.out]
      go_wp2_with fail
      go_ret
      exact ⟨rfl, (by with_reducible repeat (first | exact Ext.refl _ | assumption | apply Ext.drew | apply Ext.drewN | apply Ext.alloc | (refine Ext.setCell ?_ ?_ _; rotate_left; (focus (first | (simp; done) | (simp; omega) | omega))) | refine Ext.trans ?_ (by assumption)))⟩
    · have := Hf.out
      rw [hf] at this; cases this
  · have hpb := parse_bad _ (by rw [hpe]; exact h0)
    rw [hv] at hpb
    have h0b : (pe != 0) = true := by simpa using h0
    have Hpb := Lib.hid hpb
    clear hpb hv hpe h0
    have hvs : v.size ≤ 1073741824 := by rw [Hpb.out, V.size_eq]; decide
    go_enter Tryd.func8, Tryd.ntmps8
    go_wp2_with fail
    (refine (parse_any s _ (by omega) (hl.ext (by with_reducible repeat (first | exact Ext.refl _ | assumption | apply Ext.drew | apply Ext.drewN | apply Ext.alloc | (refine Ext.setCell ?_ ?_ _; rotate_left; (focus (first | (simp; done) | (simp; omega) | omega))) | refine Ext.trans ?_ (by assumption))))).mono ?_)
    rw [Hp.out]
    rintro e w1 ⟨ka, kc, la, lc, rfl, hin1, h1⟩
    have hx1 : Ext w w1 := (by with_reducible repeat (first | exact Ext.refl _ | assumption | apply Ext.drew | apply Ext.drewN | apply Ext.alloc | (refine Ext.setCell ?_ ?_ _; rotate_left; (focus (first | (simp; done) | (simp; omega) | omega))) | refine Ext.trans ?_ (by assumption)))
    have Hin1 := Lib.hid (all_in hin1)
    clear h1 hin1
    go_upto_region 2 with fail
    refine gen_world (R := fun wx => Box wx w1.heap.size #[.int .i64 v.k, .int .i64 v.n, .string v.s, .slice ka v.keys.length kc, .slice la v.l.length lc] 33 ∧ v.In wx All ka kc la lc ∧ Ext w wx) ⟨(by (with_reducible apply Box.to); (focus (with_reducible repeat (first | assumption | (apply Box.new; (focus (first | rfl | (first | (simp; done) | (simp; omega) | omega)))) | apply Box.set | (apply Box.other; rotate_left; (focus (first | (simp; done) | (simp; omega) | omega))) | apply Box.alloc | apply Box.drew | (apply Box.ext; (focus assumption))))); (first | rfl | (simp; done) | (go_light; simp [*]; done))), Hin1.out.ext (by with_reducible repeat (first | exact Ext.refl _ | assumption | apply Ext.drew | apply Ext.drewN | apply Ext.alloc | (refine Ext.setCell ?_ ?_ _; rotate_left; (focus (first | (simp; done) | (simp; omega) | omega))) | refine Ext.trans ?_ (by assumption))), (by with_reducible repeat (first | exact Ext.refl _ | assumption | apply Ext.drew | apply Ext.drewN | apply Ext.alloc | (refine Ext.setCell ?_ ?_ _; rotate_left; (focus (first | (simp; done) | (simp; omega) | omega))) | refine Ext.trans ?_ (by assumption)))⟩ ?_
    clear Hin1
    rintro wb ⟨hB, hinb, hxb⟩
    have Hinb := Lib.hid hinb
    clear hinb
    have hc1 := hB.cells; have hf1 := hB.free; have hl1 := hB.lt
    go_wp2_with fail
    (refine (same_any v V.zero Hpb.out.symm hvs ka kc la lc none 0 none 0 All All _ (Hinb.out.ext (by with_reducible repeat (first | exact Ext.refl _ | assumption | apply Ext.drew | apply Ext.drewN | apply Ext.alloc | (refine Ext.setCell ?_ ?_ _; rotate_left; (focus (first | (simp; done) | (simp; omega) | omega))) | refine Ext.trans ?_ (by assumption)))) (V.zero_in _ _)).mono ?_); rintro e w2 ⟨rfl, h2⟩
    have hx2 : Ext w w2 := (by with_reducible repeat (first | exact Ext.refl _ | assumption | apply Ext.drew | apply Ext.drewN | apply Ext.alloc | (refine Ext.setCell ?_ ?_ _; rotate_left; (focus (first | (simp; done) | (simp; omega) | omega))) | refine Ext.trans ?_ (by assumption)))
    clear h2 hc1 hf1 hl1
    go_wp2_with fail
    (with_reducible refine (reads_keep _ (hl.ext (by with_reducible repeat (first | exact Ext.refl _ | assumption | apply Ext.drew | apply Ext.drewN | apply Ext.alloc | (refine Ext.setCell ?_ ?_ _; rotate_left; (focus (first | (simp; done) | (simp; omega) | omega))) | refine Ext.trans ?_ (by assumption))))).mono ?_); rintro e w3 ⟨rfl, h3⟩; obtain ⟨hcw3, hfw3, hzw3⟩ := ext_facts h3; (try simp at hzw3); (try have hzAw3 : w.heap.size < w3.heap.size := by omega); (try have hzBw3 : w.heap.size + 1 < w3.heap.size := by omega); (try have hzCw3 : w.heap.size + 2 < w3.heap.size := by omega)
    go_wp2_with fail
    go_ret
    exact ⟨rfl, (by with_reducible repeat (first | exact Ext.refl _ | assumption | apply Ext.drew | apply Ext.drewN | apply Ext.alloc | (refine Ext.setCell ?_ ?_ _; rotate_left; (focus (first | (simp; done) | (simp; omega) | omega))) | refine Ext.trans ?_ (by assumption)))⟩
end
set_option maxRecDepth 100000 in
theorem lifted (os : Os) (started : os.Started) (H : Type) (enc : TypeId × Value → H) (Fi : Stop.Interp) :
    ReturnsInHanded {} Tryd.checked os 8 .any ((Rows.OpenSpec.upto Rows.jsonOnceSpec).preRow enc Tryd.prog Tryd.f8 Rows.jsonOnceUptoRow.domain false Rows.jsonOnceUptoRow.laid) (((Rows.OpenSpec.upto Rows.jsonOnceSpec).at Fi).post enc Tryd.prog Tryd.f8 false true false false) := by
  obtain ⟨places, hx⟩ : ∃ places, DataW.whole enc Tryd.prog ((start.laidWorld os).forCall (fun _ _ => 0) ⟨#[], #[.string ⟨#[]⟩], []⟩).memory Tryd.f8.params.toList Rows.jsonOnceSpec.vars false (#[.string ⟨#[]⟩]).toList 8 = some ([.lit (.string [])], [], places) := ⟨[], by kernel_rfl⟩
  refine returnsInHanded_of_row (C := Tryd.checked) (s := Rows.OpenSpec.upto Rows.jsonOnceSpec) Tryd.own started (by kernel_rfl) Tryd.func8
    (witness_row_atRef (enc := enc) (C := Tryd.checked) false (start.laidWorld os) #[.string ⟨#[]⟩] rfl (by kernel_rfl) (by kernel_rfl) (by kernel_rfl)
      (OpenSpec.preRow_of_cond 8 hx (by kernel_rfl) (fun k hk => by cases hk; kernel_rfl) (by kernel_rfl) (start.laid_met os _))) ?_
  intro W base args ds gs before hval0 hW _ hk _ hL hsh _
  have hkb := hk _ rfl
  have hval : ∀ (j : Nat) t v, Tryd.f8.params[j]? = some t → args[j]? = some v → Value.okWide Tryd.prog W .any base t v := hval0
  have hW' := hW
  obtain ⟨p, q, hA0, hV, rfl, hfz, hnd⟩ := hW
  have hA : DataW.TrodAll enc Tryd.prog W 0 (fun _ => true) true Tryd.f8.params.toList args.toList ds p := hA0
  rw [Tryd.params8] at hA hval
  obtain ⟨v0, vs0, d0, ds0, p0, q0, hargs, rfl, rfl, h0, r0⟩ := trodAll_cons hA
  obtain ⟨rfl, rfl, rfl⟩ := trodAll_nil r0
  obtain rfl : args = #[v0] := by cases args; simp_all
  obtain ⟨rfl, rfl⟩ := trodVars_none hV
  have hbulk : Rows.uptoBulkAll [d0] ≤ 1048576 := by simpa [Rows.uptoSmall] using hkb
  have k0 := h0
  have lt0 : ∀ x ∈ p0, x.block < W.heap.size := by obtain ⟨m, hm⟩ := k0; exact DataW.trod_lt m _ _ _ hm
  have hlib := libAt_of hsh hL
  obtain ⟨s0, rfl, rfl, rfl, ws0⟩ := open_string Tryd.underlying9 (hval 0 9 v0 rfl rfl) h0
  simp only [Rows.uptoBulkAll, Rows.uptoBulk] at hbulk
  have hlen0 : s0.data.toList.length = s0.size := Array.length_toList
  clear hA0 hval0
  refine (walk s0 W hlib (by omega)).mono fun e W' ⟨he, bel⟩ => ?_
  subst he
  exact ⟨_, rfl, _, _, _, [], _, [], hW', trodAll_mk1 (shut_bool Tryd.underlying4 _), (trodAll_cons_mk (Below.trod Tryd.laidOut (by kernel_rfl) (of_decide_eq_true (by kernel_rfl)) k0 bel lt0) trodAll_mk0), rfl, Below.frame bel _, fun h => by cases h⟩
theorem said : Rows.JsonOnceUptoSaid :=
  OpenClaim.holds_of_cond 8 Tryd.f8 rfl rfl rfl rfl rfl rfl rfl ⟨rfl, rfl, rfl, rfl, rfl⟩ rfl rfl rfl rfl rfl (by kernel_rfl) Tryd.func8 (by kernel_rfl)
    (of_decide_eq_true (by kernel_rfl)) (by unfold Func.isWrapper; first | (rw [if_pos (by decide +kernel)]; kernel_rfl) | (rw [if_neg (by decide +kernel)]; exact ⟨rfl, rfl⟩))
    (fun os started H enc _ F => by rw [OpenClaim.pre_eq_preRow]; exact lifted os started H enc F)
theorem plain (f : FuncId) (fn : Func) (hf : Tryd.pinned.checked.prog.funcNamed "stairwell/stairwellkeep.JsonOnce" = some f) (hfn : Tryd.pinned.checked.prog.funcs[f]? = some fn) :
    true = Tryd.pinned.checked.prog.looks [] ∧ ∀ (j : Nat) t, fn.params[j]? = some t → Tryd.pinned.checked.prog.wantsStandIn t = false := by
  obtain rfl : f = 8 := Option.some.inj ((show Tryd.prog.funcNamed "stairwell/stairwellkeep.JsonOnce" = some 8 by kernel_rfl).symm.trans hf) |>.symm
  obtain rfl : fn = Tryd.f8 := (Option.some.inj (Tryd.func8.symm.trans hfn)).symm
  refine ⟨by kernel_rfl, fun j t ht => ?_⟩
  rw [Tryd.params8] at ht
  have h : t = 9 := by simpa using Array.mem_of_getElem? ht
  rcases h with rfl
  · exact (show Tryd.prog.wantsStandIn 9 = false by kernel_rfl)
theorem proved : Rows.JsonOnceUptoCardSaid :=
  Claim7.holds_tied_plain_at .later [] _ _ _ _ said (fun _ h => by cases h) (by kernel_rfl) (fun _ h => by cases h) jsonOnceUpto_row_tie rfl ⟨rfl, rfl⟩ (by kernel_rfl) rfl plain (by kernel_rfl)
end Go.Proofs.YtknnflobpjppfaaDoor.lawJsonOnce
