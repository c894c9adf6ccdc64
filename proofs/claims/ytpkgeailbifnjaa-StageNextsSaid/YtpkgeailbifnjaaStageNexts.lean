/- StageNexts: for every spec, status, time and order the law returns true (stage.Next answers as the reference does); no condition. -/
import Derived.Test.YtpkgeailbifnjaaStageW9
import Derived.Test.YtpkgeailbifnjaaStageL1
import Derived.Test.YtpkgeailbifnjaaCopyLaw
import Derived.Deep.RegionLaw
import Derived.ChangeOld
import Derived.SizedLaws
set_option linter.all false
namespace Go.Proofs.Ytpkgeailbifnjaa.lawStageNexts
open Go.ChangeShapes Go.WideShapes Go.ChangeAt Go.RowKit

theorem infoStep : (Try.prog.info? 34).map (fun i => (i.zero, i.size, i.bytes)) = some (some (.agg #[.int .i64 0, .int .i64 0]), 2, 16) := by kernel_rfl

/-- The cells of steps. -/
def stepCells (xs : List (Int × Int)) : List Value := xs.flatMap fun x => [.int .i64 x.1, .int .i64 x.2]
theorem stepCells_len (xs : List (Int × Int)) : (stepCells xs).length = xs.length * 2 := by
  induction xs with
  | nil => rfl
  | cons x r ih => simp only [stepCells, List.flatMap_cons, List.length_append, List.length_cons, List.length_nil] at ih ⊢; omega
theorem stepCells_one (xs : List (Int × Int)) : ∀ u ∈ stepCells xs, u.oneCell' = true := by
  intro u hu
  simp only [stepCells, List.mem_flatMap] at hu
  obtain ⟨x, -, hu⟩ := hu
  simp only [List.mem_cons, List.mem_nil_iff, or_false] at hu
  rcases hu with rfl | rfl <;> rfl
theorem stepCells_at (xs : List (Int × Int)) : ∀ i, i < xs.length → (stepCells xs)[i * 2]? = some (.int .i64 (xs.getD i (0, 0)).1) ∧ (stepCells xs)[i * 2 + 1]? = some (.int .i64 (xs.getD i (0, 0)).2) := by
  induction xs with
  | nil => intro i hi; simp at hi
  | cons x r ih =>
    intro i hi
    cases i with
    | zero => simp [stepCells]
    | succ i =>
      have := ih i (by simpa using hi)
      simp only [stepCells, List.flatMap_cons, List.cons_append, List.nil_append] at this ⊢
      rw [show (i + 1) * 2 = i * 2 + 1 + 1 from by omega, show i * 2 + 1 + 1 + 1 = (i * 2 + 1) + 1 + 1 from by omega]
      simpa using this
theorem steps_src {w : World} {a : Option Addr} {xs : List (Int × Int)} (h : StepsIn w a xs) : xs.length = 0 ∨ ∃ b, a = some b ∧ ∀ j u, (stepCells xs)[j]? = some u → w.cell? (b.add j) = some u := by
  rcases h with h | ⟨b, o, rfl, hc⟩
  · exact .inl (by rw [h]; rfl)
  · refine .inr ⟨_, rfl, fun j u hj => ?_⟩
    have hlt : j < xs.length * 2 := by rw [← stepCells_len]; exact (List.getElem?_eq_some_iff.1 hj).1
    obtain ⟨c0, c1⟩ := hc (j / 2) (by omega)
    obtain ⟨s0, s1⟩ := stepCells_at xs (j / 2) (by omega)
    rw [Addr.add_lit]
    rcases Nat.mod_two_eq_zero_or_one j with h | h
    · have e : j = j / 2 * 2 := by omega
      rw [e] at hj ⊢
      rw [s0] at hj
      simp only [Option.some.injEq] at hj
      rw [← hj]; exact c0
    · have e : j = j / 2 * 2 + 1 := by omega
      rw [e] at hj ⊢
      rw [s1] at hj
      simp only [Option.some.injEq] at hj
      rw [← hj]; exact c1
theorem owns_steps {w : World} {base : Nat} {a : Option Addr} {n c : Nat} {xs : List (Int × Int)} (h : w.ownsRow base 34 2 (.slice a n c) n (stepCells xs)) (hn : xs.length = n) : StepsIn w a xs := by
  obtain ⟨hl, h⟩ := h
  rcases h with ⟨-, h0⟩ | ⟨g, cap, cur, hv, hb, hg, hnc, hcm, hcs, ht⟩
  · subst h0
    exact .inl (List.length_eq_zero_iff.1 hn)
  · simp only [Value.slice.injEq] at hv
    obtain ⟨rfl, -, rfl⟩ := hv
    refine .inr ⟨g, 0, rfl, fun i hi => ?_⟩
    have hx : ∀ j u, (stepCells xs)[j]? = some u → w.cell? ⟨g, j, none⟩ = some u := by
      intro j u hj
      rw [cell_of_row w g j cur _ _ hg]
      rw [← ht, List.getElem?_take] at hj
      split at hj
      · simpa using hj
      · cases hj
    obtain ⟨s0, s1⟩ := stepCells_at xs i hi
    rw [Nat.zero_add]
    exact ⟨hx _ _ s0, hx _ _ s1⟩

theorem nextStatus_to {im : ByteArray} {a : Option Addr} {n cap : Nat} {xs : List (Int × Int)} {s r : St} {now order e : Int} (hr : nextSt im xs s now order = (r, e)) (w : World) (hl : xs.length ≤ 9223372036854775807) (hs : StepsIn w a xs) (hn : n = xs.length) :
    Calls Try.prog 11 #[.agg #[.string im, .slice a n cap], .agg #[.string s.sb, .string s.cm, .int .i64 s.ph, .int .i64 s.sp, .int .i64 s.wt, .int .i64 s.si], .int .i64 now, .int .i64 order] w
      fun x w' => x = .returned (.tuple #[.agg #[.string r.sb, .string r.cm, .int .i64 r.ph, .int .i64 r.sp, .int .i64 r.wt, .int .i64 r.si], .int .i64 e]) ∧ Ext w w' := by
  subst hn
  have := nextStatus_any im a cap xs s now order w hl hs
  rw [hr] at this
  exact this

set_option maxHeartbeats 1000000 in
theorem steps_law (w : World) : Calls Try.prog 12 #[] w fun e w' => e = .returned (.bool true) ∧ Ext w w' := by
  go_enter Try.func12, Try.ntmps12
  go_wp2_with (go_at_call 19; refine (first_good _ _ 0 _ [] _ (by simp) (.inl rfl) rfl steps_first).mono ?_; rintro e w1 ⟨rfl, h1⟩; obtain ⟨hc1, hf1, hz1⟩ := ext_facts h1; (try simp at hz1); (try have hzA : w.heap.size < w1.heap.size := by omega); (try have hzB : w.heap.size + 1 < w1.heap.size := by omega); (try have hzC : w.heap.size + 2 < w1.heap.size := by omega); (try have hzD : w.heap.size + 3 < w1.heap.size := by omega))
  refine (next_to (n := 2) steps_run _ (by simp) ?_ rfl).mono ?_
  · refine .inr ⟨_, 0, rfl, ?_⟩
    intro i hi
    match i, hi with
    | 0, _ => constructor <;> simp
    | 1, _ => constructor <;> simp
  rintro e w1 ⟨rfl, h1⟩
  obtain ⟨hc1, hf1, hz1⟩ := ext_facts h1; (try simp at hz1); (try have hzA : w.heap.size < w1.heap.size := by omega); (try have hzB : w.heap.size + 1 < w1.heap.size := by omega); (try have hzC : w.heap.size + 2 < w1.heap.size := by omega); (try have hzD : w.heap.size + 3 < w1.heap.size := by omega)
  go_wp2
  all_goals go_ret
  all_goals exact ⟨rfl, (by with_reducible repeat (first | exact Ext.refl _ | assumption | apply Ext.drew | apply Ext.drewN | apply Ext.alloc | (refine Ext.setCell ?_ ?_ _; rotate_left; (focus (first | (simp; done) | (simp; omega) | omega))) | refine Ext.trans ?_ (by assumption)))⟩

set_option maxRecDepth 100000 in
set_option maxHeartbeats 16000000 in
theorem walk (im : ByteArray) (a : Option Addr) (n cap : Nat) (xs : List (Int × Int)) (s : St) (now o : Int) (w : World) (hl : xs.length ≤ 9223372036854775807) (hs : StepsIn w a xs) (hn : Hid (n = xs.length)) (hok : SlOk a n cap) (hby : n * 16 ≤ 140737488351232) :
    Calls Try.prog 4 #[.agg #[.string im, .slice a n cap], .agg #[.string s.sb, .string s.cm, .int .i64 s.ph, .int .i64 s.sp, .int .i64 s.wt, .int .i64 s.si], .int .i64 now, .int .i64 o] w fun e w' => e = .returned (.bool true) ∧ Ext w w' := by
  obtain ⟨r, e, hr⟩ : ∃ r e, nextSt im xs s now o = (r, e) := ⟨_, _, rfl⟩
  obtain ⟨rsb, rcm, rph, rsp, rwt, rsi⟩ := r
  obtain ⟨sb, cm, ph, sp, wt, si⟩ := s
  have Hr := Lib.hid hr
  clear hr
  obtain ⟨i0, hi, hz0, hz1, hz2⟩ := info_parts infoStep
  have Hok := Lib.hid hok
  clear hok
  go_enter Try.func4, Try.ntmps4
  go_wp2_with fail
  have n3 : ¬ w.heap.size + 1 + 1 = w.heap.size := by omega
  have n4 : ¬ w.heap.size + 1 + 1 = w.heap.size + 1 := by omega
  go_region_held3 (fun w' => w'.cell? ⟨w.heap.size, 0, none⟩ = some (.string im) ∧ w'.cell? ⟨w.heap.size, 1, none⟩ = some (.slice a n cap) ∧ w'.cell? ⟨w.heap.size + 1, 0, none⟩ = some (.string sb) ∧ w'.cell? ⟨w.heap.size + 1, 1, none⟩ = some (.string cm) ∧
      w'.cell? ⟨w.heap.size + 1, 2, none⟩ = some (.int .i64 ph) ∧ w'.cell? ⟨w.heap.size + 1, 3, none⟩ = some (.int .i64 sp) ∧ w'.cell? ⟨w.heap.size + 1, 4, none⟩ = some (.int .i64 wt) ∧ w'.cell? ⟨w.heap.size + 1, 5, none⟩ = some (.int .i64 si))
    (go_keep)
    (first
      | ((refine step_copy_nil (by rfl) _ _ 23 (by rfl) (w.heap.size + 2) 34 i0 _ 2 16 Try.underlying23 hi hz0 hz1 hz2 rfl (by decide) (by rfl) a n cap (stepCells xs) (by rfl) Hok.out (by rw [stepCells_len, hn.out]) (by rw [hn.out]; exact steps_src (hs.ext (by with_reducible repeat (first | exact Ext.refl _ | assumption | apply Ext.drew | apply Ext.drewN | apply Ext.alloc | (refine Ext.setCell ?_ ?_ _; rotate_left; (focus (first | (simp; done) | (simp; omega) | omega))) | refine Ext.trans ?_ (by assumption))))) (stepCells_one _) (by omega) (by simp) ?_; intro ka1 kc1 w1 hown1 hok1 hgrow1; have h1 := grown_ext hgrow1; obtain ⟨hc1, hf1, hz1⟩ := ext_facts h1; (try simp at hz1); (try have hzA : w.heap.size < w1.heap.size := by omega); (try have hzB : w.heap.size + 1 < w1.heap.size := by omega); (try have hzC : w.heap.size + 2 < w1.heap.size := by omega); (try have hzD : w.heap.size + 3 < w1.heap.size := by omega); have bx := Box.ext h1 (n := w.heap.size) (vs := #[.string im, .slice a n cap]) (T := 25) (by (with_reducible apply Box.to); (focus (with_reducible repeat (first | assumption | (apply Box.new; (focus (first | rfl | (first | (simp; done) | (simp; omega) | omega)))) | apply Box.set | (apply Box.other; rotate_left; (focus (first | (simp; done) | (simp; omega) | omega))) | apply Box.alloc | apply Box.drew | (apply Box.ext; (focus assumption))))); (first | rfl | (simp; done))); have bxc := bx.cells; have n1 : ¬ w1.heap.size = w.heap.size := (by omega); have n2 : ¬ w1.heap.size = w.heap.size + 1 := (by omega); have Hst := Lib.hid (owns_steps hown1 hn.out.symm); clear hown1 hok1 hgrow1))
      | ((go_at_call 10; refine (next_to Hr.out _ hl (Hst.out.ext (by with_reducible repeat (first | exact Ext.refl _ | assumption | apply Ext.drew | apply Ext.drewN | apply Ext.alloc | (refine Ext.setCell ?_ ?_ _; rotate_left; (focus (first | (simp; done) | (simp; omega) | omega))) | refine Ext.trans ?_ (by assumption)))) hn.out).mono ?_; rintro e w2 ⟨rfl, h2⟩; obtain ⟨hcw2, hfw2, hzw2⟩ := ext_facts h2; (try simp at hzw2); (try have hzAw2 : w.heap.size < w2.heap.size := by omega); (try have hzBw2 : w.heap.size + 1 < w2.heap.size := by omega); (try have hzCw2 : w.heap.size + 2 < w2.heap.size := by omega); have by2 := Box.ext (w := w1) (w' := w2) (by with_reducible repeat (first | exact Ext.refl _ | assumption | apply Ext.drew | apply Ext.drewN | apply Ext.alloc | (refine Ext.setCell ?_ ?_ _; rotate_left; (focus (first | (simp; done) | (simp; omega) | omega))) | refine Ext.trans ?_ (by assumption))) bx; have byc := by2.cells; have m1 : ¬ w2.heap.size = w.heap.size := (by omega); have m2 : ¬ w2.heap.size = w.heap.size + 1 := (by omega))))
  all_goals
    go_wp2_with fail
    (with_reducible refine (nextStatus_to Hr.out _ hl (hs.ext (by with_reducible repeat (first | exact Ext.refl _ | assumption | apply Ext.drew | apply Ext.drewN | apply Ext.alloc | (refine Ext.setCell ?_ ?_ _; rotate_left; (focus (first | (simp; done) | (simp; omega) | omega))) | refine Ext.trans ?_ (by assumption)))) hn.out).mono ?_); rintro e w3 ⟨rfl, h3⟩; obtain ⟨hcw3, hfw3, hzw3⟩ := ext_facts h3; (try simp at hzw3); (try have hzAw3 : w.heap.size < w3.heap.size := by omega); (try have hzBw3 : w.heap.size + 1 < w3.heap.size := by omega); (try have hzCw3 : w.heap.size + 2 < w3.heap.size := by omega)
    (try have hz12 : w1.heap.size < w2.heap.size := by omega)
    (try have hz13 : w1.heap.size < w3.heap.size := by omega)
    (try have hz23 : w2.heap.size < w3.heap.size := by omega)
    (try have hz33 : w.heap.size + 1 + 1 < w3.heap.size := by omega)
    go_wp2_with fail
    (with_reducible refine (steps_law _).mono ?_); rintro e w4 ⟨rfl, h4⟩; obtain ⟨hcw4, hfw4, hzw4⟩ := ext_facts h4; (try simp at hzw4); (try have hzAw4 : w.heap.size < w4.heap.size := by omega); (try have hzBw4 : w.heap.size + 1 < w4.heap.size := by omega); (try have hzCw4 : w.heap.size + 2 < w4.heap.size := by omega)
    go_wp2
    go_ret
    exact ⟨ret_bool (by simp), (by with_reducible repeat (first | exact Ext.refl _ | assumption | apply Ext.drew | apply Ext.drewN | apply Ext.alloc | (refine Ext.setCell ?_ ?_ _; rotate_left; (focus (first | (simp; done) | (simp; omega) | omega))) | refine Ext.trans ?_ (by assumption)))⟩

set_option maxRecDepth 100000 in
theorem lifted (os : Os) (started : os.Started) (H : Type) (enc : TypeId × Value → H) :
    ReturnsInHanded {} Try.checked os 4 .any (Rows.stageNextsSpec.pre6 enc Try.prog Try.f4 Rows.stageNextsRow.domain false) (Rows.stageNextsSpec.post enc Try.prog Try.f4 false true false false) := by
  refine returnsInHanded_of_change_sized (C := Try.checked) Try.own started (by kernel_rfl) Try.func4
    (ChangeSpec.witness6 (enc := enc) (C := Try.checked) false ⟨#[], #[.agg #[.string ⟨#[]⟩, .slice none 0 0], .agg #[.string ⟨#[]⟩, .string ⟨#[]⟩, .int .i64 0, .int .i64 0, .int .i64 0, .int .i64 0], .int .i64 0, .int .i64 0], []⟩ 12 (by kernel_rfl) (by kernel_rfl) (by kernel_rfl) (by kernel_rfl)) ?_
  intro W base args ds gs before hval0 hW hcnd hsz0 _
  have hval : ∀ (j : Nat) t v, Try.f4.params[j]? = some t → args[j]? = some v → Value.okWide Try.prog W .any base t v := hval0
  have hW' := hW
  obtain ⟨p, q, hA0, hV, rfl, hfz, hnd⟩ := hW
  have hA : DataW.TrodAll enc Try.prog W 0 (fun _ => true) true Try.f4.params.toList args.toList ds p := hA0
  have hsz : (DataW.weightsEach Try.prog (Try.f4.params.toList ++ Rows.stageNextsSpec.plain.varTypes Try.prog) (ds ++ gs)).all (· ≤ reachBytes) = true := hsz0
  rw [Try.params4] at hA hval hsz
  obtain ⟨v0, vs0, d0, ds0, p0, q0, hargs, rfl, rfl, h0, r0⟩ := trodAll_cons hA
  obtain ⟨v1, vs1, d1, ds1, p1, q1, rfl, rfl, rfl, h1, r1⟩ := trodAll_cons r0
  obtain ⟨v2, vs2, d2, ds2, p2, q2, rfl, rfl, rfl, h2, r2⟩ := trodAll_cons r1
  obtain ⟨v3, vs3, d3, ds3, p3, q3, rfl, rfl, rfl, h3, r3⟩ := trodAll_cons r2
  obtain ⟨rfl, rfl, rfl⟩ := trodAll_nil r3
  obtain rfl : args = #[v0, v1, v2, v3] := by cases args; simp_all
  obtain ⟨rfl, rfl⟩ := trodVars_none hV
  have k0 := h0
  have k1 := h1
  have k2 := h2
  have k3 := h3
  have lt0 : ∀ x ∈ p0, x.block < W.heap.size := by obtain ⟨m, hm⟩ := k0; exact DataW.trod_lt m _ _ _ hm
  have lt1 : ∀ x ∈ p1, x.block < W.heap.size := by obtain ⟨m, hm⟩ := k1; exact DataW.trod_lt m _ _ _ hm
  have lt2 : ∀ x ∈ p2, x.block < W.heap.size := by obtain ⟨m, hm⟩ := k2; exact DataW.trod_lt m _ _ _ hm
  have lt3 : ∀ x ∈ p3, x.block < W.heap.size := by obtain ⟨m, hm⟩ := k3; exact DataW.trod_lt m _ _ _ hm
  obtain ⟨im, a, cap, xs, rfl, hs, hl, hc1, hc2, hc3, hw⟩ := open_spec_sized (hval 0 25 v0 rfl rfl) h0
  obtain ⟨s, rfl⟩ := open_status (hval 1 27 v1 rfl rfl) h1
  obtain ⟨now, rfl, rfl, rfl, w2⟩ := open_int Try.underlying3 (hval 2 3 v2 rfl rfl) h2
  obtain ⟨o, rfl, rfl, rfl, w3⟩ := open_int Try.underlying3 (hval 3 3 v3 rfl rfl) h3
  have hby : xs.length * 16 ≤ 140737488351232 := by
    refine hw ?_
    have h9 : (DataW.weightsEach Try.prog [25, 27, 3, 3] [d0, d1, _, _]).all (fun x => decide (x ≤ reachBytes)) = true := hsz
    simp only [DataW.weightsEach, List.all_append, Bool.and_eq_true] at h9
    exact h9.1
  clear hA0 hval0
  refine (walk im a xs.length cap xs s now o W hl hs rfl ⟨hc1, hc2, hc3⟩ hby).mono fun e W' ⟨he, bel⟩ => ?_
  subst he
  exact ⟨_, rfl, _, _, _, [], _, [], hW', trodAll_mk1 (shut_bool Try.underlying4 _), (trodAll_cons_mk (Below.trod Try.laidOut (by kernel_rfl) (of_decide_eq_true (by kernel_rfl)) k0 bel lt0) (trodAll_cons_mk (Below.trod Try.laidOut (by kernel_rfl) (of_decide_eq_true (by kernel_rfl)) k1 bel lt1) (trodAll_cons_mk (Below.trod Try.laidOut (by kernel_rfl) (of_decide_eq_true (by kernel_rfl)) k2 bel lt2) (trodAll_cons_mk (Below.trod Try.laidOut (by kernel_rfl) (of_decide_eq_true (by kernel_rfl)) k3 bel lt3) trodAll_mk0)))), rfl, Below.frame bel _, fun h => by cases h⟩

theorem over : Rows.stageNextsRow.holds Try.pinned (OpenSpec.ofChange Rows.stageNextsSpec) :=
  OpenClaim.holds_of_wide 4 Try.f4 rfl rfl rfl rfl rfl rfl rfl ⟨rfl, rfl, rfl, rfl, rfl⟩ rfl rfl rfl rfl rfl (by kernel_rfl) Try.func4 (by kernel_rfl)
    (of_decide_eq_true (by kernel_rfl)) (by unfold Func.isWrapper; first | (rw [if_pos (by decide +kernel)]; kernel_rfl) | (rw [if_neg (by decide +kernel)]; exact ⟨rfl, rfl⟩))
    (fun os started H enc _ => lifted os started H enc)

theorem proved : Rows.StageNextsSaid := over
end Go.Proofs.Ytpkgeailbifnjaa.lawStageNexts
