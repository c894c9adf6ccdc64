/- Two specs that are alike; what both sides say of a spec's first status; the law's own look at stage. -/
import Derived.Test.YtpkgeailbifnjaaStageR2
import Derived.Test.YtpkgeailbifnjaaStageL1
set_option linter.all false
namespace Go.Proofs.Ytpkgeailbifnjaa
open Go.RowKit
attribute [local go_sem ↓] Go.wp_at_zero Go.wp_at_succ

/-- What a reading comes to: text, steps, number. -/
def specIm (r : Option (ByteArray × List (Int × Int))) : ByteArray := match r with | some p => p.1 | none => ⟨#[]⟩
def specXs (r : Option (ByteArray × List (Int × Int))) : List (Int × Int) := match r with | some p => p.2 | none => []
def specEr (r : Option (ByteArray × List (Int × Int))) : Int := match r with | some _ => 0 | none => 1
theorem RetSpec.val {r : Option (ByteArray × List (Int × Int))} {w w' : World} {e : Ending} (h : RetSpec r w e w') :
    ∃ a n c, e = .returned (.tuple #[.agg #[.string (specIm r), .slice a n c], .int .i64 (specEr r)]) ∧ (specXs r).length = n ∧ StepsIn w' a (specXs r) ∧ Ext w w' := by
  rcases h with ⟨im, xs, a, n, c, rfl, h1, h2, h3, h4⟩ | ⟨rfl, h2, h4⟩
  · exact ⟨a, n, c, h2, h1, h3, h4⟩
  · exact ⟨none, 0, 0, h2, rfl, .inl rfl, h4⟩

set_option maxHeartbeats 2000000 in
theorem sameSpec_any (im : ByteArray) (xs : List (Int × Int)) (a1 a2 : Option Addr) (n1 n2 c1 c2 : Nat) (w : World) (hl : xs.length ≤ 9223372036854775807) (h1 : StepsIn w a1 xs) (h2 : StepsIn w a2 xs) (e1 : xs.length = n1) (e2 : xs.length = n2) :
    Calls Try.prog 21 #[.agg #[.string im, .slice a1 n1 c1], .agg #[.string im, .slice a2 n2 c2]] w fun e w' => e = .returned (.bool true) ∧ Ext w w' := by
  subst e1 e2
  go_enter Try.func21, Try.ntmps21
  go_wp2_with fail
  go_loopg [5, 23] xs.length (fun g _ i wr => ∃ k : Nat, k ≤ xs.length ∧ i = .int .i64 k ∧ g = xs.length - k ∧ Box wr w.heap.size #[.string im, .slice a1 xs.length c1] 25 ∧ Box wr (w.heap.size + 1) #[.string im, .slice a2 xs.length c2] 25 ∧ Ext w wr)
  case atStart => exact ⟨0, by omega, rfl, rfl, (by (with_reducible apply Box.to); (focus (with_reducible repeat (first | assumption | (apply Box.new; (focus (first | rfl | (first | (simp; done) | (simp; omega) | omega)))) | apply Box.set | (apply Box.other; rotate_left; (focus (first | (simp; done) | (simp; omega) | omega))) | apply Box.alloc | apply Box.drew | (apply Box.ext; (focus assumption))))); (first | rfl | (simp; done) | (go_light; simp [*]; done))), (by (with_reducible apply Box.to); (focus (with_reducible repeat (first | assumption | (apply Box.new; (focus (first | rfl | (first | (simp; done) | (simp; omega) | omega)))) | apply Box.set | (apply Box.other; rotate_left; (focus (first | (simp; done) | (simp; omega) | omega))) | apply Box.alloc | apply Box.drew | (apply Box.ext; (focus assumption))))); (first | rfl | (simp; done) | (go_light; simp [*]; done))), (by with_reducible repeat (first | exact Ext.refl _ | assumption | apply Ext.drew | apply Ext.drewN | apply Ext.alloc | (refine Ext.setCell ?_ ?_ _; rotate_left; (focus (first | (simp; done) | (simp; omega) | omega))) | refine Ext.trans ?_ (by assumption)))⟩
  case round =>
    obtain ⟨k, hk, rfl, rfl, hB0, hB1, hx⟩ := hrel
    have hc0 := hB0.cells; have hf0 := hB0.free; have hl0 := hB0.lt
    have hc1 := hB1.cells; have hf1 := hB1.free; have hl1 := hB1.lt
    by_cases hlt : k < xs.length
    · obtain ⟨b1, o1, rfl, he1⟩ : ∃ b o, a1 = some ⟨b, o, none⟩ ∧ ∀ i, i < xs.length → w.cell? ⟨b, o + i * 2, none⟩ = some (.int .i64 (xs.getD i (0, 0)).1) ∧ w.cell? ⟨b, o + i * 2 + 1, none⟩ = some (.int .i64 (xs.getD i (0, 0)).2) := h1.resolve_left (by intro e; subst e; simp at hlt)
      obtain ⟨b2, o2, rfl, he2⟩ : ∃ b o, a2 = some ⟨b, o, none⟩ ∧ ∀ i, i < xs.length → w.cell? ⟨b, o + i * 2, none⟩ = some (.int .i64 (xs.getD i (0, 0)).1) ∧ w.cell? ⟨b, o + i * 2 + 1, none⟩ = some (.int .i64 (xs.getD i (0, 0)).2) := h2.resolve_left (by intro e; subst e; simp at hlt)
      obtain ⟨d0, d1⟩ := he1 k hlt
      obtain ⟨d2, d3⟩ := he2 k hlt
      have d0 := hx.cell d0
      have d1 := hx.cell d1
      have d2 := hx.cell d2
      have d3 := hx.cell d3
      have hki0 : (0 : Int) ≤ (k : Int) := by omega
      have hki1 : (k : Int) < (xs.length : Int) := by omega
      clear he1 he2 h1 h2
      go_wp2_with fail
      go_quiet (fail)
      go_wp2_with fail
      go_roundg (xs.length - (k + 1))
      case measure => omega
      case rel => exact ⟨k + 1, by omega, by go_num, rfl, hB0, hB1, (by with_reducible repeat (first | exact Ext.refl _ | assumption | apply Ext.drew | apply Ext.drewN | apply Ext.alloc | (refine Ext.setCell ?_ ?_ _; rotate_left; (focus (first | (simp; done) | (simp; omega) | omega))) | refine Ext.trans ?_ (by assumption)))⟩
    · go_wp2_with fail
      go_ret
      exact ⟨rfl, (by with_reducible repeat (first | exact Ext.refl _ | assumption | apply Ext.drew | apply Ext.drewN | apply Ext.alloc | (refine Ext.setCell ?_ ?_ _; rotate_left; (focus (first | (simp; done) | (simp; omega) | omega))) | refine Ext.trans ?_ (by assumption)))⟩

theorem isSpecIs (im : ByteArray) (a : Option Addr) (n cap : Nat) (xs : List (Int × Int)) (w : World) (hl : xs.length ≤ 9223372036854775807) (hs : StepsIn w a xs) (hn : n = xs.length) :
    Calls Try.prog 24 #[.agg #[.string im, .slice a n cap]] w fun e w' => e = .returned (.bool (goodSpecB im xs)) ∧ Ext w w' := by
  subst hn; exact isSpec_any im a cap xs w hl hs
/-- A spec's first status. -/
def firstSt (im : ByteArray) (xs : List (Int × Int)) : St := if goodSpecB im xs then ⟨im, im, 1, 0, 100, 0⟩ else ⟨⟨#[]⟩, ⟨#[]⟩, 0, 0, 0, 0⟩
def firstEr (im : ByteArray) (xs : List (Int × Int)) : Int := if goodSpecB im xs then 0 else 1
/-- The call gives a status and a number. -/
def RetFirst (s : St) (er : Int) (w : World) (e : Ending) (w' : World) : Prop :=
  e = .returned (.tuple #[.agg #[.string s.sb, .string s.cm, .int .i64 s.ph, .int .i64 s.sp, .int .i64 s.wt, .int .i64 s.si], .int .i64 er]) ∧ Ext w w'
theorem first_any (im : ByteArray) (a : Option Addr) (n cap : Nat) (xs : List (Int × Int)) (w : World) (hl : xs.length ≤ 9223372036854775807) (hs : StepsIn w a xs) (hn : n = xs.length) :
    Calls Try.prog 19 #[.agg #[.string im, .slice a n cap]] w (RetFirst (firstSt im xs) (firstEr im xs) w) := by
  cases hG : goodSpecB im xs
  · refine (first_bad im a n cap xs w hl hs hn hG).mono ?_
    rintro e w' ⟨rfl, h⟩
    exact ⟨by simp only [firstSt, firstEr, hG]; rfl, h⟩
  · refine (first_good im a n cap xs w hl hs hn hG).mono ?_
    rintro e w' ⟨rfl, h⟩
    exact ⟨by simp only [firstSt, firstEr, hG]; rfl, h⟩
set_option maxHeartbeats 1000000 in
theorem firstStatus_any (im : ByteArray) (a : Option Addr) (n cap : Nat) (xs : List (Int × Int)) (w : World) (hl : xs.length ≤ 9223372036854775807) (hs : StepsIn w a xs) (hn : n = xs.length) :
    Calls Try.prog 20 #[.agg #[.string im, .slice a n cap]] w (RetFirst (firstSt im xs) (firstEr im xs) w) := by
  have Hn := Lib.hid hn
  clear hn
  cases hG : goodSpecB im xs
  · have hq : ∀ w, StepsIn w a xs → Calls Try.prog 24 #[.agg #[.string im, .slice a n cap]] w fun e w' => e = .returned (.bool false) ∧ Ext w w' := fun w hs => by rw [← hG]; exact isSpecIs im a n cap xs w hl hs Hn.out
    simp only [RetFirst, firstSt, firstEr, hG, Bool.false_eq_true, if_false]
    go_enter Try.func20, Try.ntmps20
    go_wp2_with (go_at_call 24; (with_reducible refine (hq _ (hs.ext (by with_reducible repeat (first | exact Ext.refl _ | assumption | apply Ext.drew | apply Ext.drewN | apply Ext.alloc | (refine Ext.setCell ?_ ?_ _; rotate_left; (focus (first | (simp; done) | (simp; omega) | omega))) | refine Ext.trans ?_ (by assumption))))).mono ?_); rintro e w1 ⟨rfl, h1⟩; obtain ⟨hc1, hf1, hz1⟩ := ext_facts h1; (try simp at hz1); (try have hzA : w.heap.size < w1.heap.size := by omega); (try have hzB : w.heap.size + 1 < w1.heap.size := by omega); (try have hzC : w.heap.size + 2 < w1.heap.size := by omega); (try have hzD : w.heap.size + 3 < w1.heap.size := by omega))
    (with_reducible apply bp_ret); (focus (go_light; simp [results, Try.results20, go_sem, *]; rfl))
    exact ⟨rfl, (by with_reducible repeat (first | exact Ext.refl _ | assumption | apply Ext.drew | apply Ext.drewN | apply Ext.alloc | (refine Ext.setCell ?_ ?_ _; rotate_left; (focus (first | (simp; done) | (simp; omega) | omega))) | refine Ext.trans ?_ (by assumption)))⟩
  · have hq : ∀ w, StepsIn w a xs → Calls Try.prog 24 #[.agg #[.string im, .slice a n cap]] w fun e w' => e = .returned (.bool true) ∧ Ext w w' := fun w hs => by rw [← hG]; exact isSpecIs im a n cap xs w hl hs Hn.out
    simp only [RetFirst, firstSt, firstEr, hG, if_true]
    go_enter Try.func20, Try.ntmps20
    go_wp2_with fail
    (with_reducible refine (hq _ (hs.ext (by with_reducible repeat (first | exact Ext.refl _ | assumption | apply Ext.drew | apply Ext.drewN | apply Ext.alloc | (refine Ext.setCell ?_ ?_ _; rotate_left; (focus (first | (simp; done) | (simp; omega) | omega))) | refine Ext.trans ?_ (by assumption))))).mono ?_); rintro e w1 ⟨rfl, h1⟩; obtain ⟨hcw1, hfw1, hzw1⟩ := ext_facts h1; (try simp at hzw1); (try have hzAw1 : w.heap.size < w1.heap.size := by omega); (try have hzBw1 : w.heap.size + 1 < w1.heap.size := by omega); (try have hzCw1 : w.heap.size + 2 < w1.heap.size := by omega)
    go_wp2_with fail
    (with_reducible refine (healthy_any im _).mono ?_); rintro e w2 ⟨rfl, h2⟩; obtain ⟨hcw2, hfw2, hzw2⟩ := ext_facts h2; (try simp at hzw2); (try have hzAw2 : w.heap.size < w2.heap.size := by omega); (try have hzBw2 : w.heap.size + 1 < w2.heap.size := by omega); (try have hzCw2 : w.heap.size + 2 < w2.heap.size := by omega)
    have hw12 : w1.heap.size ≤ w2.heap.size := h2.size
    go_wp2_with fail
    (with_reducible apply bp_ret); (focus (go_light; simp [results, Try.results20, go_sem, *]; rfl))
    exact ⟨rfl, (by with_reducible repeat (first | exact Ext.refl _ | assumption | apply Ext.drew | apply Ext.drewN | apply Ext.alloc | (refine Ext.setCell ?_ ?_ _; rotate_left; (focus (first | (simp; done) | (simp; omega) | omega))) | refine Ext.trans ?_ (by assumption)))⟩

set_option maxHeartbeats 1000000 in
theorem steps_own (w : World) : Calls Try.prog 12 #[] w fun e w' => e = .returned (.bool true) ∧ Ext w w' := by
  go_enter Try.func12, Try.ntmps12
  go_wp2_with (go_at_call 19; refine (first_good _ _ 0 _ [] _ (by simp) (.inl rfl) rfl steps_first).mono ?_; rintro e w1 ⟨rfl, h1⟩; obtain ⟨hc1, hf1, hz1⟩ := ext_facts h1; (try simp at hz1); (try have hzA : w.heap.size < w1.heap.size := by omega); (try have hzB : w.heap.size + 1 < w1.heap.size := by omega); (try have hzC : w.heap.size + 2 < w1.heap.size := by omega); (try have hzD : w.heap.size + 3 < w1.heap.size := by omega))
  refine (next_to (n := 2) steps_run _ (by simp) ?_ rfl).mono ?_
  · refine .inr ⟨_, 0, rfl, ?_⟩
    intro i hi
    match i, hi with
    | 0, _ => constructor <;> simp
    | 1, _ => constructor <;> simp
  rintro e w1 ⟨rfl, h1⟩
  obtain ⟨hc1, hf1, hz1⟩ := ext_facts h1; (try simp at hz1); (try have hzA : w.heap.size < w1.heap.size := by omega); (try have hzB : w.heap.size + 1 < w1.heap.size := by omega); (try have hzC : w.heap.size + 2 < w1.heap.size := by omega); (try have hzD : w.heap.size + 3 < w1.heap.size := by omega)
  go_wp2
  all_goals go_ret
  all_goals exact ⟨rfl, (by with_reducible repeat (first | exact Ext.refl _ | assumption | apply Ext.drew | apply Ext.drewN | apply Ext.alloc | (refine Ext.setCell ?_ ?_ _; rotate_left; (focus (first | (simp; done) | (simp; omega) | omega))) | refine Ext.trans ?_ (by assumption)))⟩

end Go.Proofs.Ytpkgeailbifnjaa
