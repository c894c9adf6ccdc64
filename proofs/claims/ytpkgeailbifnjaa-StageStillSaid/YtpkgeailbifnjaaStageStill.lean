/- StageStill: for every spec, status and time the law returns true (at the same time nothing more happens); no condition. -/
import Derived.Test.YtpkgeailbifnjaaStageL1
import Derived.ChangeOld
set_option linter.all false
namespace Go.Proofs.Ytpkgeailbifnjaa.lawStageStill
open Go.ChangeShapes Go.WideShapes Go.ChangeAt Go.RowKit

set_option maxRecDepth 100000 in
set_option maxHeartbeats 2000000 in
theorem walk (im : ByteArray) (a : Option Addr) (n cap : Nat) (xs : List (Int × Int)) (s : St) (now : Int) (w : World) (hl : xs.length ≤ 9223372036854775807) (hs : StepsIn w a xs) (hn : Hid (n = xs.length)) :
    Calls Try.prog 8 #[.agg #[.string im, .slice a n cap], .agg #[.string s.sb, .string s.cm, .int .i64 s.ph, .int .i64 s.sp, .int .i64 s.wt, .int .i64 s.si], .int .i64 now] w fun e w' => e = .returned (.bool true) ∧ Ext w w' := by
  obtain ⟨r, e, hr⟩ : ∃ r e, nextSt im xs s now 0 = (r, e) := ⟨_, _, rfl⟩
  obtain ⟨rsb, rcm, rph, rsp, rwt, rsi⟩ := r
  have Hr := Lib.hid hr
  clear hr
  by_cases he : e = 0
  · subst he
    have Hs := Lib.hid (next_still Hr.out)
    go_enter Try.func8, Try.ntmps8
    go_wp2_with fail
    (with_reducible refine (next_to Hr.out _ hl (hs.ext (by with_reducible repeat (first | exact Ext.refl _ | assumption | apply Ext.drew | apply Ext.drewN | apply Ext.alloc | (refine Ext.setCell ?_ ?_ _; rotate_left; (focus (first | (simp; done) | (simp; omega) | omega))) | refine Ext.trans ?_ (by assumption)))) hn.out).mono ?_); rintro e w1 ⟨rfl, h1⟩; obtain ⟨hcw1, hfw1, hzw1⟩ := ext_facts h1; (try simp at hzw1); (try have hzAw1 : w.heap.size < w1.heap.size := by omega); (try have hzBw1 : w.heap.size + 1 < w1.heap.size := by omega); (try have hzCw1 : w.heap.size + 2 < w1.heap.size := by omega)
    go_wp2_with fail
    (with_reducible refine (steps_keep _).mono ?_); rintro e w2 ⟨rfl, h2⟩; obtain ⟨hcw2, hfw2, hzw2⟩ := ext_facts h2; (try simp at hzw2); (try have hzAw2 : w.heap.size < w2.heap.size := by omega); (try have hzBw2 : w.heap.size + 1 < w2.heap.size := by omega); (try have hzCw2 : w.heap.size + 2 < w2.heap.size := by omega)
    have hz12 : w1.heap.size < w2.heap.size := by omega
    go_wp2_with fail
    (with_reducible refine (next_to (s := ⟨rsb, rcm, rph, rsp, rwt, rsi⟩) Hs.out _ hl ?_ hn.out).mono ?_)
    · exact hs.ext (by with_reducible repeat (first | exact Ext.refl _ | assumption | apply Ext.drew | apply Ext.drewN | apply Ext.alloc | (refine Ext.setCell ?_ ?_ _; rotate_left; (focus (first | (simp; done) | (simp; omega) | omega))) | refine Ext.trans ?_ (by assumption)))
    rintro e w3 ⟨rfl, h3⟩
    obtain ⟨hcw3, hfw3, hzw3⟩ := ext_facts h3; (try simp at hzw3); (try have hzAw3 : w.heap.size < w3.heap.size := by omega); (try have hzBw3 : w.heap.size + 1 < w3.heap.size := by omega); (try have hzCw3 : w.heap.size + 2 < w3.heap.size := by omega)
    have hz13 : w1.heap.size < w3.heap.size := by omega
    go_wp2
    go_ret
    exact ⟨ret_bool (by simp), (by with_reducible repeat (first | exact Ext.refl _ | assumption | apply Ext.drew | apply Ext.drewN | apply Ext.alloc | (refine Ext.setCell ?_ ?_ _; rotate_left; (focus (first | (simp; done) | (simp; omega) | omega))) | refine Ext.trans ?_ (by assumption)))⟩
  · have he' : (e != 0) = true := by simpa using he
    go_enter Try.func8, Try.ntmps8
    go_wp2_with (first | (go_at_call 10; (with_reducible refine (next_to Hr.out _ hl (hs.ext (by with_reducible repeat (first | exact Ext.refl _ | assumption | apply Ext.drew | apply Ext.drewN | apply Ext.alloc | (refine Ext.setCell ?_ ?_ _; rotate_left; (focus (first | (simp; done) | (simp; omega) | omega))) | refine Ext.trans ?_ (by assumption)))) hn.out).mono ?_); rintro e w1 ⟨rfl, h1⟩; obtain ⟨hc1, hf1, hz1⟩ := ext_facts h1; (try simp at hz1); (try have hzA : w.heap.size < w1.heap.size := by omega); (try have hzB : w.heap.size + 1 < w1.heap.size := by omega); (try have hzC : w.heap.size + 2 < w1.heap.size := by omega); (try have hzD : w.heap.size + 3 < w1.heap.size := by omega)) | (go_at_call 13; (with_reducible refine (steps_keep _).mono ?_); rintro e w1 ⟨rfl, h1⟩; obtain ⟨hc1, hf1, hz1⟩ := ext_facts h1; (try simp at hz1); (try have hzA : w.heap.size < w1.heap.size := by omega); (try have hzB : w.heap.size + 1 < w1.heap.size := by omega); (try have hzC : w.heap.size + 2 < w1.heap.size := by omega); (try have hzD : w.heap.size + 3 < w1.heap.size := by omega)))
    go_ret
    exact ⟨rfl, (by with_reducible repeat (first | exact Ext.refl _ | assumption | apply Ext.drew | apply Ext.drewN | apply Ext.alloc | (refine Ext.setCell ?_ ?_ _; rotate_left; (focus (first | (simp; done) | (simp; omega) | omega))) | refine Ext.trans ?_ (by assumption)))⟩

set_option maxRecDepth 100000 in
theorem lifted (os : Os) (started : os.Started) (H : Type) (enc : TypeId × Value → H) :
    ReturnsInHanded {} Try.checked os 8 .any (Rows.stageStillSpec.pre6 enc Try.prog Try.f8 Rows.stageStillRow.domain false) (Rows.stageStillSpec.post enc Try.prog Try.f8 false true false false) := by
  refine returnsInHanded_of_change (C := Try.checked) Try.own started (by kernel_rfl) Try.func8
    (ChangeSpec.witness6 (enc := enc) (C := Try.checked) false ⟨#[], #[.agg #[.string ⟨#[]⟩, .slice none 0 0], .agg #[.string ⟨#[]⟩, .string ⟨#[]⟩, .int .i64 0, .int .i64 0, .int .i64 0, .int .i64 0], .int .i64 0], []⟩ 12 (by kernel_rfl) (by kernel_rfl) (by kernel_rfl) (by kernel_rfl)) ?_
  intro W base args ds gs before hval0 hW hcnd _
  have hval : ∀ (j : Nat) t v, Try.f8.params[j]? = some t → args[j]? = some v → Value.okWide Try.prog W .any base t v := hval0
  have hW' := hW
  obtain ⟨p, q, hA0, hV, rfl, hfz, hnd⟩ := hW
  have hA : DataW.TrodAll enc Try.prog W 0 (fun _ => true) true Try.f8.params.toList args.toList ds p := hA0
  rw [Try.params8] at hA hval
  obtain ⟨v0, vs0, d0, ds0, p0, q0, hargs, rfl, rfl, h0, r0⟩ := trodAll_cons hA
  obtain ⟨v1, vs1, d1, ds1, p1, q1, rfl, rfl, rfl, h1, r1⟩ := trodAll_cons r0
  obtain ⟨v2, vs2, d2, ds2, p2, q2, rfl, rfl, rfl, h2, r2⟩ := trodAll_cons r1
  obtain ⟨rfl, rfl, rfl⟩ := trodAll_nil r2
  obtain rfl : args = #[v0, v1, v2] := by cases args; simp_all
  obtain ⟨rfl, rfl⟩ := trodVars_none hV
  have k0 := h0
  have k1 := h1
  have k2 := h2
  have lt0 : ∀ x ∈ p0, x.block < W.heap.size := by obtain ⟨m, hm⟩ := k0; exact DataW.trod_lt m _ _ _ hm
  have lt1 : ∀ x ∈ p1, x.block < W.heap.size := by obtain ⟨m, hm⟩ := k1; exact DataW.trod_lt m _ _ _ hm
  have lt2 : ∀ x ∈ p2, x.block < W.heap.size := by obtain ⟨m, hm⟩ := k2; exact DataW.trod_lt m _ _ _ hm
  obtain ⟨im, a, cap, xs, rfl, hs, hl⟩ := open_spec (hval 0 25 v0 rfl rfl) h0
  obtain ⟨s, rfl⟩ := open_status (hval 1 27 v1 rfl rfl) h1
  obtain ⟨now, rfl, rfl, rfl, w2⟩ := open_int Try.underlying3 (hval 2 3 v2 rfl rfl) h2
  clear hA0 hval0
  refine (walk im a xs.length cap xs s now W hl hs rfl).mono fun e W' ⟨he, bel⟩ => ?_
  subst he
  exact ⟨_, rfl, _, _, _, [], _, [], hW', trodAll_mk1 (shut_bool Try.underlying4 _), (trodAll_cons_mk (Below.trod Try.laidOut (by kernel_rfl) (of_decide_eq_true (by kernel_rfl)) k0 bel lt0) (trodAll_cons_mk (Below.trod Try.laidOut (by kernel_rfl) (of_decide_eq_true (by kernel_rfl)) k1 bel lt1) (trodAll_cons_mk (Below.trod Try.laidOut (by kernel_rfl) (of_decide_eq_true (by kernel_rfl)) k2 bel lt2) trodAll_mk0))), rfl, Below.frame bel _, fun h => by cases h⟩

theorem over : Rows.stageStillRow.holds Try.pinned (OpenSpec.ofChange Rows.stageStillSpec) :=
  OpenClaim.holds_of_wide 8 Try.f8 rfl rfl rfl rfl rfl rfl rfl ⟨rfl, rfl, rfl, rfl, rfl⟩ rfl rfl rfl rfl rfl (by kernel_rfl) Try.func8 (by kernel_rfl)
    (of_decide_eq_true (by kernel_rfl)) (by unfold Func.isWrapper; first | (rw [if_pos (by decide +kernel)]; kernel_rfl) | (rw [if_neg (by decide +kernel)]; exact ⟨rfl, rfl⟩))
    (fun os started H enc _ => lifted os started H enc)

theorem proved : Rows.StageStillSaid := over
end Go.Proofs.Ytpkgeailbifnjaa.lawStageStill
