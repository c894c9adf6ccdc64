/- StageBounds: for every spec, status, time and order the law returns true (Next stays good, its weights are those of steps, or none, or all, and what is stable changes only when all is done); no condition. -/
import Derived.Test.YtpkgeailbifnjaaStageL1
import Derived.ChangeOld
set_option linter.all false
namespace Go.Proofs.Ytpkgeailbifnjaa.lawStageBounds
open Go.ChangeShapes Go.WideShapes Go.ChangeAt Go.RowKit

theorem next_no {im : ByteArray} {xs : List (Int × Int)} {s : St} {now o e : Int} {r : St} (h : nextSt im xs s now o = (r, e)) (he : e ≠ 0) : r = s := by
  unfold nextSt at h
  repeat' split at h
  all_goals simp only [Prod.mk.injEq] at h
  all_goals grind

theorem bounds {im : ByteArray} {xs : List (Int × Int)} {s : St} {now o : Int} {r : St} (h : nextSt im xs s now o = (r, 0)) :
    (r.sp ≤ s.sp ∨ r.sp ≤ xs.length) ∧ (r.wt = 0 ∨ r.wt = 100 ∨ r.wt = s.wt ∨ ∃ x ∈ xs, r.wt = x.1) ∧
    (r.sb.toList = s.sb.toList ∨ (r.ph = 1 ∧ r.sb.toList = im.toList)) ∧ r.cm.toList = im.toList := by
  obtain ⟨hG, hT, h0, h1, ho0, ho1, hc⟩ := next_ok h
  have hT' := hT
  simp only [goodStB, decide_eq_true_eq] at hT'
  have hsb : (comingSt im s).sb = s.sb := by simp only [comingSt]; split <;> rfl
  have hcm : (comingSt im s).cm.toList = im.toList := by simp only [comingSt]; split <;> grind
  have hsp : 0 ≤ (comingSt im s).sp ∧ (comingSt im s).sp ≤ s.sp := by simp only [comingSt]; split <;> grind
  have hwt : (comingSt im s).wt = 0 ∨ (comingSt im s).wt = s.wt := by simp only [comingSt]; split <;> grind
  rcases hc with ⟨ha, hb, rfl⟩ | ⟨ha, ⟨hp2, hp3, rfl⟩ | ⟨hp, ⟨rfl, rfl⟩ | ⟨rfl, rfl⟩ | ⟨ho, hr⟩⟩⟩
  · simp only [doneSt]; grind
  · grind
  · simp only [doneSt]; grind
  · simp only; grind
  · obtain ⟨k, hk⟩ := Int.eq_ofNat_of_zero_le hsp.1
    have hk' : (comingSt im s).sp.toNat = k := by omega
    rw [hk'] at hr
    have he := run_end xs now _ k (comingSt im s) o (Nat.le_refl _) hk
    rw [← hr] at he
    rcases he with hd | ⟨j, hj, wt, si, hkj, hx, hrr, hw, hsi⟩
    · rw [hd]; simp only [doneSt]; grind
    · rw [hrr]
      refine ⟨.inr (by simp only; omega), ?_, .inl (by rw [hsb]), hcm⟩
      rcases hw with hw | ⟨x, hx, hw, _⟩
      · rcases hwt with q | q
        · exact .inl (by simp only; omega)
        · exact .inr (.inr (.inl (by simp only; omega)))
      · exact .inr (.inr (.inr ⟨x, hx, hw⟩))

set_option maxRecDepth 100000 in
set_option maxHeartbeats 4000000 in
theorem walk_no (im : ByteArray) (a : Option Addr) (n cap : Nat) (xs : List (Int × Int)) (s : St) (now o : Int) (w : World) (hl : xs.length ≤ 9223372036854775807) (hs : StepsIn w a xs) (hn : Hid (n = xs.length)) (e : Int) (Hr : Hid (nextSt im xs s now o = (s, e))) (he : (e != 0) = true) :
    Calls Try.prog 5 #[.agg #[.string im, .slice a n cap], .agg #[.string s.sb, .string s.cm, .int .i64 s.ph, .int .i64 s.sp, .int .i64 s.wt, .int .i64 s.si], .int .i64 now, .int .i64 o] w fun e w' => e = .returned (.bool true) ∧ Ext w w' := by
  go_enter Try.func5, Try.ntmps5
  go_wp2_with fail
  (with_reducible refine (next_to Hr.out _ hl (hs.ext (by with_reducible repeat (first | exact Ext.refl _ | assumption | apply Ext.drew | apply Ext.drewN | apply Ext.alloc | (refine Ext.setCell ?_ ?_ _; rotate_left; (focus (first | (simp; done) | (simp; omega) | omega))) | refine Ext.trans ?_ (by assumption)))) hn.out).mono ?_); rintro e w1 ⟨rfl, h1⟩; obtain ⟨hcw1, hfw1, hzw1⟩ := ext_facts h1; (try simp at hzw1); (try have hzAw1 : w.heap.size < w1.heap.size := by omega); (try have hzBw1 : w.heap.size + 1 < w1.heap.size := by omega); (try have hzCw1 : w.heap.size + 2 < w1.heap.size := by omega)
  go_wp2_with fail
  (with_reducible refine (steps_keep _).mono ?_); rintro e w2 ⟨rfl, h2⟩; obtain ⟨hcw2, hfw2, hzw2⟩ := ext_facts h2; (try simp at hzw2); (try have hzAw2 : w.heap.size < w2.heap.size := by omega); (try have hzBw2 : w.heap.size + 1 < w2.heap.size := by omega); (try have hzCw2 : w.heap.size + 2 < w2.heap.size := by omega)
  go_wp2
  go_ret
  exact ⟨ret_bool (by simp), (by with_reducible repeat (first | exact Ext.refl _ | assumption | apply Ext.drew | apply Ext.drewN | apply Ext.alloc | (refine Ext.setCell ?_ ?_ _; rotate_left; (focus (first | (simp; done) | (simp; omega) | omega))) | refine Ext.trans ?_ (by assumption)))⟩

/-- What is known of the weight so far, and what is still to be looked at. -/
def KnownSo (xs : List (Int × Int)) (wt : Int) (k : Nat) (kn : Bool) : Prop := kn = true ∨ ∃ j, k ≤ j ∧ ∃ hj : j < xs.length, wt = xs[j].1
theorem KnownSo.step {xs : List (Int × Int)} {wt : Int} {k : Nat} {kn : Bool} (h : KnownSo xs wt k kn) (hk : k < xs.length) : KnownSo xs wt (k + 1) (kn || wt == xs[k].1) := by
  rcases h with h | ⟨j, hkj, hj, hw⟩
  · left; simp [h]
  · by_cases e : j = k
    · subst e; left; simp [hw]
    · exact .inr ⟨j, by omega, hj, hw⟩
theorem KnownSo.out {xs : List (Int × Int)} {wt : Int} {k : Nat} {kn : Bool} (h : KnownSo xs wt k kn) (hk : xs.length ≤ k) : kn = true := by
  rcases h with h | ⟨j, hkj, hj, hw⟩
  · exact h
  · omega

set_option maxRecDepth 100000 in
set_option maxHeartbeats 4000000 in
theorem walk_yes (im : ByteArray) (a : Option Addr) (n cap : Nat) (xs : List (Int × Int)) (sb cm : ByteArray) (ph sp wt si : Int) (rsb : ByteArray) (rph rsp rwt rsi : Int) (now o : Int) (w : World) (hl : xs.length ≤ 9223372036854775807) (hs : StepsIn w a xs) (hn : Hid (n = xs.length))
    (Hr : Hid (nextSt im xs ⟨sb, cm, ph, sp, wt, si⟩ now o = (⟨rsb, im, rph, rsp, rwt, rsi⟩, 0))) (hg : goodStB ⟨rsb, im, rph, rsp, rwt, rsi⟩ = true)
    (hm : (sp < n ∧ rsp ≤ n) ∨ ((n : Int) ≤ sp ∧ rsp ≤ sp))
    (hsb : rsb = sb ∨ ((rsb.toList == sb.toList) = false ∧ rph = 1 ∧ rsb = im))
    (kn0 : Bool) (hk0 : (kn0 = true ∧ ((rwt == 0) = true ∨ ((rwt == 0) = false ∧ (rwt == 100) = true))) ∨ ((rwt == 0) = false ∧ (rwt == 100) = false ∧ kn0 = (rwt == wt))) (HK : Hid (KnownSo xs rwt 0 kn0)) :
    Calls Try.prog 5 #[.agg #[.string im, .slice a n cap], .agg #[.string sb, .string cm, .int .i64 ph, .int .i64 sp, .int .i64 wt, .int .i64 si], .int .i64 now, .int .i64 o] w fun e w' => e = .returned (.bool true) ∧ Ext w w' := by
  have hn2 : (n : Int) ≤ 9223372036854775807 := by have := hn.out; omega
  rcases hm with ⟨hm1, hm2⟩ | ⟨hm1, hm2⟩
  all_goals rcases hk0 with ⟨rfl, hk0 | ⟨hk0, hk1⟩⟩ | ⟨hk0, hk1, hk2⟩
  all_goals
    go_enter Try.func5, Try.ntmps5
    go_wp2_with fail
    (with_reducible refine (next_to Hr.out _ hl (hs.ext (by with_reducible repeat (first | exact Ext.refl _ | assumption | apply Ext.drew | apply Ext.drewN | apply Ext.alloc | (refine Ext.setCell ?_ ?_ _; rotate_left; (focus (first | (simp; done) | (simp; omega) | omega))) | refine Ext.trans ?_ (by assumption)))) hn.out).mono ?_); rintro e w1 ⟨rfl, h1⟩; obtain ⟨hcw1, hfw1, hzw1⟩ := ext_facts h1; (try simp at hzw1); (try have hzAw1 : w.heap.size < w1.heap.size := by omega); (try have hzBw1 : w.heap.size + 1 < w1.heap.size := by omega); (try have hzCw1 : w.heap.size + 2 < w1.heap.size := by omega)
    go_wp2_with fail
    (with_reducible refine (steps_keep _).mono ?_); rintro e w2 ⟨rfl, h2⟩; obtain ⟨hcw2, hfw2, hzw2⟩ := ext_facts h2; (try simp at hzw2); (try have hzAw2 : w.heap.size < w2.heap.size := by omega); (try have hzBw2 : w.heap.size + 1 < w2.heap.size := by omega); (try have hzCw2 : w.heap.size + 2 < w2.heap.size := by omega)
    have hz12 : w1.heap.size < w2.heap.size := by omega
    go_wp2_with fail
    (with_reducible refine (good_any ⟨rsb, im, rph, rsp, rwt, rsi⟩ _).mono ?_); rintro e w3 ⟨rfl, h3⟩; obtain ⟨hcw3, hfw3, hzw3⟩ := ext_facts h3; (try simp at hzw3); (try have hzAw3 : w.heap.size < w3.heap.size := by omega); (try have hzBw3 : w.heap.size + 1 < w3.heap.size := by omega); (try have hzCw3 : w.heap.size + 2 < w3.heap.size := by omega)
    have hz13 : w1.heap.size < w3.heap.size := by omega
    go_wp2_with fail
  all_goals
    refine gen_world (R := fun wx => Box wx w.heap.size #[.string im, .slice a n cap] 25 ∧
      Box wx (w.heap.size + 1) #[.string sb, .string cm, .int .i64 ph, .int .i64 sp, .int .i64 wt, .int .i64 si] 27 ∧
      Box wx w1.heap.size #[.string rsb, .string im, .int .i64 rph, .int .i64 rsp, .int .i64 rwt, .int .i64 rsi] 27 ∧ Ext w wx) ⟨(by (with_reducible apply Box.to); (focus (with_reducible repeat (first | assumption | (apply Box.new; (focus (first | rfl | (first | (simp; done) | (simp; omega) | omega)))) | apply Box.set | (apply Box.other; rotate_left; (focus (first | (simp; done) | (simp; omega) | omega))) | apply Box.alloc | apply Box.drew | (apply Box.ext; (focus assumption))))); (first | rfl | (simp; done))), (by (with_reducible apply Box.to); (focus (with_reducible repeat (first | assumption | (apply Box.new; (focus (first | rfl | (first | (simp; done) | (simp; omega) | omega)))) | apply Box.set | (apply Box.other; rotate_left; (focus (first | (simp; done) | (simp; omega) | omega))) | apply Box.alloc | apply Box.drew | (apply Box.ext; (focus assumption))))); (first | rfl | (simp; done))), (by (with_reducible apply Box.to); (focus (with_reducible repeat (first | assumption | (apply Box.new; (focus (first | rfl | (first | (simp; done) | (simp; omega) | omega)))) | apply Box.set | (apply Box.other; rotate_left; (focus (first | (simp; done) | (simp; omega) | omega))) | apply Box.alloc | apply Box.drew | (apply Box.ext; (focus assumption))))); (first | rfl | (simp; done))), (by with_reducible repeat (first | exact Ext.refl _ | assumption | apply Ext.drew | apply Ext.drewN | apply Ext.alloc | (refine Ext.setCell ?_ ?_ _; rotate_left; (focus (first | (simp; done) | (simp; omega) | omega))) | refine Ext.trans ?_ (by assumption)))⟩ ?_
    rintro wx ⟨hB0, hB1, hB2, hx⟩
    obtain ⟨N2, hN2⟩ : ∃ N2, N2 = w1.heap.size := ⟨_, rfl⟩
    rw [← hN2] at hB2
    simp only [← hN2]
    clear hN2
    clear hcw1 hfw1 hzw1 hcw2 hfw2 hzw2 hcw3 hfw3 hzw3
    go_loopg [11, 66] n (fun g kv i wr => ∃ (k : Nat) (kn : Bool), kv = .bool kn ∧ i = .int .i64 k ∧ k ≤ n ∧ g = n - k ∧ KnownSo xs rwt k kn ∧
      Box wr w.heap.size #[.string im, .slice a n cap] 25 ∧
      Box wr (w.heap.size + 1) #[.string sb, .string cm, .int .i64 ph, .int .i64 sp, .int .i64 wt, .int .i64 si] 27 ∧
      Box wr N2 #[.string rsb, .string im, .int .i64 rph, .int .i64 rsp, .int .i64 rwt, .int .i64 rsi] 27 ∧ Ext w wr)
    case atStart =>
      first
        | exact ⟨0, true, rfl, rfl, Nat.zero_le _, rfl, HK.out, hB0, hB1, hB2, hx⟩
        | exact ⟨0, rwt == wt, rfl, rfl, Nat.zero_le _, rfl, hk2 ▸ HK.out, hB0, hB1, hB2, hx⟩
    case round =>
      obtain ⟨k, kn, rfl, rfl, hk, rfl, hkn, hB0, hB1, hB2, hx⟩ := hrel
      have Hkn := Lib.hid hkn
      clear hkn
      have hc0 := hB0.cells
      have hf0 := hB0.free
      have hc1 := hB1.cells
      have hf1 := hB1.free
      have hc2 := hB2.cells
      have hf2 := hB2.free
      have hl0 := hB0.lt
      have hl1 := hB1.lt
      have hl2 := hB2.lt
      by_cases hlt : k < n
      · have hkx : k < xs.length := by have := hn.out; omega
        obtain ⟨b, o', rfl, hc⟩ : ∃ b o, a = some ⟨b, o, none⟩ ∧ ∀ i, i < xs.length → w.cell? ⟨b, o + i * 2, none⟩ = some (.int .i64 (xs.getD i (0, 0)).1) ∧ w.cell? ⟨b, o + i * 2 + 1, none⟩ = some (.int .i64 (xs.getD i (0, 0)).2) := hs.resolve_left (by intro e; subst e; simp at hkx)
        obtain ⟨d0, d1⟩ := hc k hkx
        have d0 := hx.cell d0
        have d1 := hx.cell d1
        have Hst := Lib.hid (Hkn.out.step hkx)
        clear hc hs
        cases kn
        all_goals
          go_wp2
          go_roundg (n - (k + 1))
          case measure => omega
          case rel => exact ⟨k + 1, _, rfl, by go_num, by omega, rfl, Hst.out, (by (with_reducible apply Box.to); (focus (with_reducible repeat (first | assumption | (apply Box.new; (focus (first | rfl | (first | (simp; done) | (simp; omega) | omega)))) | apply Box.set | (apply Box.other; rotate_left; (focus (first | (simp; done) | (simp; omega) | omega))) | apply Box.alloc | apply Box.drew | (apply Box.ext; (focus assumption))))); (first | rfl | (simp; done))), (by (with_reducible apply Box.to); (focus (with_reducible repeat (first | assumption | (apply Box.new; (focus (first | rfl | (first | (simp; done) | (simp; omega) | omega)))) | apply Box.set | (apply Box.other; rotate_left; (focus (first | (simp; done) | (simp; omega) | omega))) | apply Box.alloc | apply Box.drew | (apply Box.ext; (focus assumption))))); (first | rfl | (simp; done))), (by (with_reducible apply Box.to); (focus (with_reducible repeat (first | assumption | (apply Box.new; (focus (first | rfl | (first | (simp; done) | (simp; omega) | omega)))) | apply Box.set | (apply Box.other; rotate_left; (focus (first | (simp; done) | (simp; omega) | omega))) | apply Box.alloc | apply Box.drew | (apply Box.ext; (focus assumption))))); (first | rfl | (simp; done))), (by with_reducible repeat (first | exact Ext.refl _ | assumption | apply Ext.drew | apply Ext.drewN | apply Ext.alloc | (refine Ext.setCell ?_ ?_ _; rotate_left; (focus (first | (simp; done) | (simp; omega) | omega))) | refine Ext.trans ?_ (by assumption)))⟩
      · have hkt : kn = true := Hkn.out.out (by have := hn.out; omega)
        subst hkt
        rcases hsb with rfl | ⟨hs1, rfl, rfl⟩
        all_goals
          go_wp2
          go_ret
          exact ⟨ret_bool (by simp), (by with_reducible repeat (first | exact Ext.refl _ | assumption | apply Ext.drew | apply Ext.drewN | apply Ext.alloc | (refine Ext.setCell ?_ ?_ _; rotate_left; (focus (first | (simp; done) | (simp; omega) | omega))) | refine Ext.trans ?_ (by assumption)))⟩

theorem walk (im : ByteArray) (a : Option Addr) (cap : Nat) (xs : List (Int × Int)) (s : St) (now o : Int) (w : World) (hl : xs.length ≤ 9223372036854775807) (hs : StepsIn w a xs) :
    Calls Try.prog 5 #[.agg #[.string im, .slice a xs.length cap], .agg #[.string s.sb, .string s.cm, .int .i64 s.ph, .int .i64 s.sp, .int .i64 s.wt, .int .i64 s.si], .int .i64 now, .int .i64 o] w fun e w' => e = .returned (.bool true) ∧ Ext w w' := by
  obtain ⟨r, e, hr⟩ : ∃ r e, nextSt im xs s now o = (r, e) := ⟨_, _, rfl⟩
  by_cases he : e = 0
  · subst he
    have hg := next_good hr
    obtain ⟨b1, b2, b3, b4⟩ := bounds hr
    obtain ⟨sb, cm, ph, sp, wt, si⟩ := s
    obtain ⟨rsb, rcm, rph, rsp, rwt, rsi⟩ := r
    simp only at b1 b2 b3 b4
    obtain rfl := toList_inj b4
    refine walk_yes rcm a xs.length cap xs sb cm ph sp wt si rsb rph rsp rwt rsi now o w hl hs rfl hr hg (by clear b2 b3; omega) ?_ (rwt == 0 || rwt == 100 || rwt == wt) ?_ ?_
    · rcases b3 with h | ⟨h, h'⟩
      · exact .inl (toList_inj h)
      · by_cases h2 : rsb.toList = sb.toList
        · exact .inl (toList_inj h2)
        · exact .inr ⟨by simpa using h2, h, toList_inj h'⟩
    · by_cases h0 : rwt = 0
      · exact .inl ⟨by simp [h0], .inl (by simp [h0])⟩
      · by_cases h1 : rwt = 100
        · exact .inl ⟨by simp [h1], .inr ⟨by simp [h0], by simp [h1]⟩⟩
        · exact .inr ⟨by simp [h0], by simp [h1], by simp [h0, h1]⟩
    · rcases b2 with h | h | h | ⟨x, hx, h⟩
      · exact .inl (by simp [h])
      · exact .inl (by simp [h])
      · exact .inl (by simp [h])
      · obtain ⟨j, hj, rfl⟩ := List.getElem_of_mem hx
        exact .inr ⟨j, Nat.zero_le _, hj, h⟩
  · obtain rfl := next_no hr he
    exact walk_no im a xs.length cap xs r now o w hl hs rfl e hr (by simpa using he)

set_option maxRecDepth 100000 in
theorem lifted (os : Os) (started : os.Started) (H : Type) (enc : TypeId × Value → H) :
    ReturnsInHanded {} Try.checked os 5 .any (Rows.stageBoundsSpec.pre6 enc Try.prog Try.f5 Rows.stageBoundsRow.domain false) (Rows.stageBoundsSpec.post enc Try.prog Try.f5 false true false false) := by
  refine returnsInHanded_of_change (C := Try.checked) Try.own started (by kernel_rfl) Try.func5
    (ChangeSpec.witness6 (enc := enc) (C := Try.checked) false ⟨#[], #[.agg #[.string ⟨#[]⟩, .slice none 0 0], .agg #[.string ⟨#[]⟩, .string ⟨#[]⟩, .int .i64 0, .int .i64 0, .int .i64 0, .int .i64 0], .int .i64 0, .int .i64 0], []⟩ 12 (by kernel_rfl) (by kernel_rfl) (by kernel_rfl) (by kernel_rfl)) ?_
  intro W base args ds gs before hval0 hW hcnd _
  have hval : ∀ (j : Nat) t v, Try.f5.params[j]? = some t → args[j]? = some v → Value.okWide Try.prog W .any base t v := hval0
  have hW' := hW
  obtain ⟨p, q, hA0, hV, rfl, hfz, hnd⟩ := hW
  have hA : DataW.TrodAll enc Try.prog W 0 (fun _ => true) true Try.f5.params.toList args.toList ds p := hA0
  rw [Try.params5] at hA hval
  obtain ⟨v0, vs0, d0, ds0, p0, q0, hargs, rfl, rfl, h0, r0⟩ := trodAll_cons hA
  obtain ⟨v1, vs1, d1, ds1, p1, q1, rfl, rfl, rfl, h1, r1⟩ := trodAll_cons r0
  obtain ⟨v2, vs2, d2, ds2, p2, q2, rfl, rfl, rfl, h2, r2⟩ := trodAll_cons r1
  obtain ⟨v3, vs3, d3, ds3, p3, q3, rfl, rfl, rfl, h3, r3⟩ := trodAll_cons r2
  obtain ⟨rfl, rfl, rfl⟩ := trodAll_nil r3
  obtain rfl : args = #[v0, v1, v2, v3] := by cases args; simp_all
  obtain ⟨rfl, rfl⟩ := trodVars_none hV
  have k0 := h0
  have k1 := h1
  have k2 := h2
  have k3 := h3
  have lt0 : ∀ x ∈ p0, x.block < W.heap.size := by obtain ⟨m, hm⟩ := k0; exact DataW.trod_lt m _ _ _ hm
  have lt1 : ∀ x ∈ p1, x.block < W.heap.size := by obtain ⟨m, hm⟩ := k1; exact DataW.trod_lt m _ _ _ hm
  have lt2 : ∀ x ∈ p2, x.block < W.heap.size := by obtain ⟨m, hm⟩ := k2; exact DataW.trod_lt m _ _ _ hm
  have lt3 : ∀ x ∈ p3, x.block < W.heap.size := by obtain ⟨m, hm⟩ := k3; exact DataW.trod_lt m _ _ _ hm
  obtain ⟨im, a, cap, xs, rfl, hs, hl⟩ := open_spec (hval 0 25 v0 rfl rfl) h0
  obtain ⟨s, rfl⟩ := open_status (hval 1 27 v1 rfl rfl) h1
  obtain ⟨now, rfl, rfl, rfl, w2⟩ := open_int Try.underlying3 (hval 2 3 v2 rfl rfl) h2
  obtain ⟨o, rfl, rfl, rfl, w3⟩ := open_int Try.underlying3 (hval 3 3 v3 rfl rfl) h3
  clear hA0 hval0
  refine (walk im a cap xs s now o W hl hs).mono fun e W' ⟨he, bel⟩ => ?_
  subst he
  exact ⟨_, rfl, _, _, _, [], _, [], hW', trodAll_mk1 (shut_bool Try.underlying4 _), (trodAll_cons_mk (Below.trod Try.laidOut (by kernel_rfl) (of_decide_eq_true (by kernel_rfl)) k0 bel lt0) (trodAll_cons_mk (Below.trod Try.laidOut (by kernel_rfl) (of_decide_eq_true (by kernel_rfl)) k1 bel lt1) (trodAll_cons_mk (Below.trod Try.laidOut (by kernel_rfl) (of_decide_eq_true (by kernel_rfl)) k2 bel lt2) (trodAll_cons_mk (Below.trod Try.laidOut (by kernel_rfl) (of_decide_eq_true (by kernel_rfl)) k3 bel lt3) trodAll_mk0)))), rfl, Below.frame bel _, fun h => by cases h⟩

theorem over : Rows.stageBoundsRow.holds Try.pinned (OpenSpec.ofChange Rows.stageBoundsSpec) :=
  OpenClaim.holds_of_wide 5 Try.f5 rfl rfl rfl rfl rfl rfl rfl ⟨rfl, rfl, rfl, rfl, rfl⟩ rfl rfl rfl rfl rfl (by kernel_rfl) Try.func5 (by kernel_rfl)
    (of_decide_eq_true (by kernel_rfl)) (by unfold Func.isWrapper; first | (rw [if_pos (by decide +kernel)]; kernel_rfl) | (rw [if_neg (by decide +kernel)]; exact ⟨rfl, rfl⟩))
    (fun os started H enc _ => lifted os started H enc)

theorem proved : Rows.StageBoundsSaid := over
end Go.Proofs.Ytpkgeailbifnjaa.lawStageBounds
