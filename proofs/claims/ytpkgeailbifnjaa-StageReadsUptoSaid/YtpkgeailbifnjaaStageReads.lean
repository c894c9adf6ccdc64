/- StageReads: for every value, spec, status and step the law returns true (stage's reading and looks are the reference's); the arguments hold together at most 1048576 values and letters. -/
import Derived.Test.YtpkgeailbifnjaaStageR3
import Derived.Test.YtpkgeailbifnjaaCopy
import Derived.Test.YtpkgeailbifnjaaOpenV
import Derived.JoinedCond
set_option linter.all false
namespace Go.Proofs.Ytpkgeailbifnjaa.lawStageReads
open Go.ChangeShapes Go.WideShapes Go.ChangeAt Go.RowKit
open Go.Deep Go.Joins
attribute [local go_sem ↓] Go.wp_at_zero Go.wp_at_succ

abbrev stCells (s : St) : Array Value := #[.string s.sb, .string s.cm, .int .i64 s.ph, .int .i64 s.sp, .int .i64 s.wt, .int .i64 s.si]

theorem stepsOf_len {l : List V} {xs : List (Int × Int)} (h : stepsOf l = some xs) : xs.length = l.length := by
  induction l generalizing xs with
  | nil => simp [stepsOf] at h; subst h; rfl
  | cons x r ih =>
    rw [stepsOf] at h
    cases h1 : stepOf x with
    | none => rw [h1] at h; cases h
    | some p =>
      cases h2 : stepsOf r with
      | none => rw [h1, h2] at h; cases h
      | some ys => rw [h1, h2] at h; simp only [Option.some.injEq] at h; subst h; simp [ih h2]

set_option maxRecDepth 100000 in
set_option maxHeartbeats 16000000 in
theorem walk (x : V) (ka : Option Addr) (kc : Nat) (la : Option Addr) (lc : Nat) (S : Nat → Prop) (im : ByteArray) (a : Option Addr) (n cap : Nat) (xs : List (Int × Int)) (s : St) (wt ps : Int) (w : World) (hsz : x.size ≤ 1073741824) (hin : x.In w S ka kc la lc)
    (hl : xs.length ≤ 9223372036854775807) (hs : StepsIn w a xs) (hn0 : n = xs.length) :
    Calls Try.prog 9 #[x.val ka kc la lc, .agg #[.string im, .slice a n cap], .agg (stCells s), .agg #[.int .i64 wt, .int .i64 ps]] w fun e w' => e = .returned (.bool true) ∧ Ext w w' := by
  have hn := Lib.hid hn0
  clear hn0
  have hrl : (specXs (specOf x)).length ≤ 9223372036854775807 := by
    rcases spec_cases x with ⟨h, -⟩ | ⟨i, hf, hi, q, hq, ((⟨-, h⟩ | ⟨t, -, -, h⟩) | ⟨t, ht, p, hlen⟩)⟩
    · rw [h]; simp [specXs]
    · rw [h]; simp [specXs]
    · rw [h]; simp [specXs]
    · rw [specOf_spec hf hi q hq ht p hlen]
      cases hst : stepsOf t.l with
      | none => simp [specXs]
      | some ys => simp only [specXs]; have := stepsOf_len hst; omega
  obtain ⟨rim, hrim⟩ : ∃ r, specIm (specOf x) = r := ⟨_, rfl⟩
  obtain ⟨rxs, hrxs⟩ : ∃ r, specXs (specOf x) = r := ⟨_, rfl⟩
  obtain ⟨rer, hrer⟩ : ∃ r, specEr (specOf x) = r := ⟨_, rfl⟩
  obtain ⟨f, hf⟩ : ∃ r, firstSt im xs = r := ⟨_, rfl⟩
  obtain ⟨fer, hfer⟩ : ∃ r, firstEr im xs = r := ⟨_, rfl⟩
  rw [hrxs] at hrl
  have Hrd := Lib.hid fun (w : World) (y : V) (ka : Option Addr) (kc : Nat) (la : Option Addr) (lc : Nat) (S : Nat → Prop) (hy : y = x) (hin : y.In w S ka kc la lc) => (read_any y ka kc la lc S w (by rw [hy]; exact hsz) hin).mono (fun e w' h => by have h := RetSpec.val h; rw [hy, hrim, hrxs, hrer] at h; exact h)
  have Href := Lib.hid fun (w : World) (ka : Option Addr) (kc : Nat) (la : Option Addr) (lc : Nat) (S : Nat → Prop) (hin : x.In w S ka kc la lc) => (refRead_any x ka kc la lc S w hsz hin).mono (fun e w' h => by have h := RetSpec.val h; rw [hrim, hrxs, hrer] at h; exact h)
  have Hf1 := Lib.hid fun (w : World) (hs : StepsIn w a xs) => (first_any im a n cap xs w hl hs hn.out).mono (fun e w' h => by rw [hf, hfer] at h; exact h)
  have Hf2 := Lib.hid fun (w : World) (hs : StepsIn w a xs) => (firstStatus_any im a n cap xs w hl hs hn.out).mono (fun e w' h => by rw [hf, hfer] at h; exact h)
  clear hrim hrxs hrer hf hfer
  obtain ⟨fsb, fcm, fph, fsp, fwt, fsi⟩ := f
  obtain ⟨sb, cm, ph, sp, sw, si⟩ := s
  go_enter Try.func9, Try.ntmps9
  go_upto_region 1 with fail
  refine gen_world (R := fun wx => Box wx w.heap.size #[.int .i64 x.k, .int .i64 x.n, .string x.s, .slice ka x.keys.length kc, .slice la x.l.length lc] 40 ∧ Box wx (w.heap.size + 1) #[.string im, .slice a n cap] 25 ∧ Box wx (w.heap.size + 2) #[.string sb, .string cm, .int .i64 ph, .int .i64 sp, .int .i64 sw, .int .i64 si] 27 ∧ Box wx (w.heap.size + 3) #[.int .i64 wt, .int .i64 ps] 34 ∧ Ext w wx) ⟨(by (with_reducible apply Box.to); (focus (with_reducible repeat (first | assumption | (apply Box.new; (focus (first | rfl | (first | (simp; done) | (simp; omega) | omega)))) | apply Box.set | (apply Box.other; rotate_left; (focus (first | (simp; done) | (simp; omega) | omega))) | apply Box.alloc | apply Box.drew | (apply Box.ext; (focus assumption))))); (first | rfl | (simp; done) | (go_light; simp [*]; done))), (by (with_reducible apply Box.to); (focus (with_reducible repeat (first | assumption | (apply Box.new; (focus (first | rfl | (first | (simp; done) | (simp; omega) | omega)))) | apply Box.set | (apply Box.other; rotate_left; (focus (first | (simp; done) | (simp; omega) | omega))) | apply Box.alloc | apply Box.drew | (apply Box.ext; (focus assumption))))); (first | rfl | (simp; done) | (go_light; simp [*]; done))), (by (with_reducible apply Box.to); (focus (with_reducible repeat (first | assumption | (apply Box.new; (focus (first | rfl | (first | (simp; done) | (simp; omega) | omega)))) | apply Box.set | (apply Box.other; rotate_left; (focus (first | (simp; done) | (simp; omega) | omega))) | apply Box.alloc | apply Box.drew | (apply Box.ext; (focus assumption))))); (first | rfl | (simp; done) | (go_light; simp [*]; done))), (by (with_reducible apply Box.to); (focus (with_reducible repeat (first | assumption | (apply Box.new; (focus (first | rfl | (first | (simp; done) | (simp; omega) | omega)))) | apply Box.set | (apply Box.other; rotate_left; (focus (first | (simp; done) | (simp; omega) | omega))) | apply Box.alloc | apply Box.drew | (apply Box.ext; (focus assumption))))); (first | rfl | (simp; done) | (go_light; simp [*]; done))), (by with_reducible repeat (first | exact Ext.refl _ | assumption | apply Ext.drew | apply Ext.drewN | apply Ext.alloc | (refine Ext.setCell ?_ ?_ _; rotate_left; (focus (first | (simp; done) | (simp; omega) | omega))) | refine Ext.trans ?_ (by assumption)))⟩ ?_
  rintro wa ⟨hB1, hB2, hB3, hB4, hxa⟩
  have hs := hs.ext hxa
  have hin := hin.ext hxa
  have hc1 := hB1.cells; have hf1 := hB1.free; have hl1 := hB1.lt
  go_wp2_with fail
  (refine (copy_any x.size x ka kc la lc S _ (Nat.le_refl _) hsz (hin.ext (by with_reducible repeat (first | exact Ext.refl _ | assumption | apply Ext.drew | apply Ext.drewN | apply Ext.alloc | (refine Ext.setCell ?_ ?_ _; rotate_left; (focus (first | (simp; done) | (simp; omega) | omega))) | refine Ext.trans ?_ (by assumption))))).mono ?_); rintro e w1 ⟨ka1, kc1, la1, lc1, rfl, hin1, h1⟩
  have hB1 := Box.ext h1 hB1
  have hB2 := Box.ext h1 hB2
  have hB3 := Box.ext h1 hB3
  have hB4 := Box.ext h1 hB4
  have hs := hs.ext h1
  have hin := hin.ext h1
  have hx0 : Ext w w1 := (by with_reducible repeat (first | exact Ext.refl _ | assumption | apply Ext.drew | apply Ext.drewN | apply Ext.alloc | (refine Ext.setCell ?_ ?_ _; rotate_left; (focus (first | (simp; done) | (simp; omega) | omega))) | refine Ext.trans ?_ (by assumption)))
  clear h1 hxa
  go_wp2_with fail
  (refine (Hrd.out _ x ka1 kc1 la1 lc1 _ rfl (hin1.ext (by with_reducible repeat (first | exact Ext.refl _ | assumption | apply Ext.drew | apply Ext.drewN | apply Ext.alloc | (refine Ext.setCell ?_ ?_ _; rotate_left; (focus (first | (simp; done) | (simp; omega) | omega))) | refine Ext.trans ?_ (by assumption))))).mono ?_); rintro e w2 ⟨a2, n2, c2, rfl, hn2, hsA, h2⟩
  have hB1 := Box.ext h2 hB1
  have hB2 := Box.ext h2 hB2
  have hB3 := Box.ext h2 hB3
  have hB4 := Box.ext h2 hB4
  have hs := hs.ext h2
  have hin := hin.ext h2
  have hx2 : Ext w w2 := (by with_reducible repeat (first | exact Ext.refl _ | assumption | apply Ext.drew | apply Ext.drewN | apply Ext.alloc | (refine Ext.setCell ?_ ?_ _; rotate_left; (focus (first | (simp; done) | (simp; omega) | omega))) | refine Ext.trans ?_ (by assumption)))
  clear h2 hx0 hc1 hf1 hl1 hin1
  go_upto_region 2 with fail
  refine gen_world (R := fun wx => Box wx (w.heap.size) #[.int .i64 x.k, .int .i64 x.n, .string x.s, .slice ka x.keys.length kc, .slice la x.l.length lc] 40 ∧ Box wx (w.heap.size + 1) #[.string im, .slice a n cap] 25 ∧ Box wx (w.heap.size + 2) #[.string sb, .string cm, .int .i64 ph, .int .i64 sp, .int .i64 sw, .int .i64 si] 27 ∧ Box wx (w.heap.size + 3) #[.int .i64 wt, .int .i64 ps] 34 ∧ Box wx (w2.heap.size) #[.string rim, .slice a2 n2 c2] 25 ∧ StepsIn wx a xs ∧ x.In wx S ka kc la lc ∧ StepsIn wx a2 rxs ∧ Ext w wx) ⟨(by (with_reducible apply Box.to); (focus (with_reducible repeat (first | assumption | (apply Box.new; (focus (first | rfl | (first | (simp; done) | (simp; omega) | omega)))) | apply Box.set | (apply Box.other; rotate_left; (focus (first | (simp; done) | (simp; omega) | omega))) | apply Box.alloc | apply Box.drew | (apply Box.ext; (focus assumption))))); (first | rfl | (simp; done) | (go_light; simp [*]; done))), (by (with_reducible apply Box.to); (focus (with_reducible repeat (first | assumption | (apply Box.new; (focus (first | rfl | (first | (simp; done) | (simp; omega) | omega)))) | apply Box.set | (apply Box.other; rotate_left; (focus (first | (simp; done) | (simp; omega) | omega))) | apply Box.alloc | apply Box.drew | (apply Box.ext; (focus assumption))))); (first | rfl | (simp; done) | (go_light; simp [*]; done))), (by (with_reducible apply Box.to); (focus (with_reducible repeat (first | assumption | (apply Box.new; (focus (first | rfl | (first | (simp; done) | (simp; omega) | omega)))) | apply Box.set | (apply Box.other; rotate_left; (focus (first | (simp; done) | (simp; omega) | omega))) | apply Box.alloc | apply Box.drew | (apply Box.ext; (focus assumption))))); (first | rfl | (simp; done) | (go_light; simp [*]; done))), (by (with_reducible apply Box.to); (focus (with_reducible repeat (first | assumption | (apply Box.new; (focus (first | rfl | (first | (simp; done) | (simp; omega) | omega)))) | apply Box.set | (apply Box.other; rotate_left; (focus (first | (simp; done) | (simp; omega) | omega))) | apply Box.alloc | apply Box.drew | (apply Box.ext; (focus assumption))))); (first | rfl | (simp; done) | (go_light; simp [*]; done))), (by (with_reducible apply Box.to); (focus (with_reducible repeat (first | assumption | (apply Box.new; (focus (first | rfl | (first | (simp; done) | (simp; omega) | omega)))) | apply Box.set | (apply Box.other; rotate_left; (focus (first | (simp; done) | (simp; omega) | omega))) | apply Box.alloc | apply Box.drew | (apply Box.ext; (focus assumption))))); (first | rfl | (simp; done) | (go_light; simp [*]; done))), hs.ext (by with_reducible repeat (first | exact Ext.refl _ | assumption | apply Ext.drew | apply Ext.drewN | apply Ext.alloc | (refine Ext.setCell ?_ ?_ _; rotate_left; (focus (first | (simp; done) | (simp; omega) | omega))) | refine Ext.trans ?_ (by assumption))), hin.ext (by with_reducible repeat (first | exact Ext.refl _ | assumption | apply Ext.drew | apply Ext.drewN | apply Ext.alloc | (refine Ext.setCell ?_ ?_ _; rotate_left; (focus (first | (simp; done) | (simp; omega) | omega))) | refine Ext.trans ?_ (by assumption))), hsA.ext (by with_reducible repeat (first | exact Ext.refl _ | assumption | apply Ext.drew | apply Ext.drewN | apply Ext.alloc | (refine Ext.setCell ?_ ?_ _; rotate_left; (focus (first | (simp; done) | (simp; omega) | omega))) | refine Ext.trans ?_ (by assumption))), (by with_reducible repeat (first | exact Ext.refl _ | assumption | apply Ext.drew | apply Ext.drewN | apply Ext.alloc | (refine Ext.setCell ?_ ?_ _; rotate_left; (focus (first | (simp; done) | (simp; omega) | omega))) | refine Ext.trans ?_ (by assumption)))⟩ ?_
  rintro wb ⟨hB1, hB2, hB3, hB4, hB9, hs, hin, hsA, hx0⟩
  clear hx2
  have hc1 := hB1.cells; have hf1 := hB1.free; have hl1 := hB1.lt
  go_wp2_with fail
  (refine (Href.out _ ka kc la lc _ (hin.ext (by with_reducible repeat (first | exact Ext.refl _ | assumption | apply Ext.drew | apply Ext.drewN | apply Ext.alloc | (refine Ext.setCell ?_ ?_ _; rotate_left; (focus (first | (simp; done) | (simp; omega) | omega))) | refine Ext.trans ?_ (by assumption))))).mono ?_); rintro e w3 ⟨a3, n3, c3, rfl, hn3, hsB, h3⟩
  have hB1 := Box.ext h3 hB1
  have hB2 := Box.ext h3 hB2
  have hB3 := Box.ext h3 hB3
  have hB4 := Box.ext h3 hB4
  have hB9 := Box.ext h3 hB9
  have hs := hs.ext h3
  have hsA := hsA.ext h3
  have hx3 : Ext w w3 := (by with_reducible repeat (first | exact Ext.refl _ | assumption | apply Ext.drew | apply Ext.drewN | apply Ext.alloc | (refine Ext.setCell ?_ ?_ _; rotate_left; (focus (first | (simp; done) | (simp; omega) | omega))) | refine Ext.trans ?_ (by assumption)))
  clear h3 hx0 hin hc1 hf1 hl1
  go_upto_region 3 with fail
  refine gen_world (R := fun wx => Box wx (w.heap.size + 1) #[.string im, .slice a n cap] 25 ∧ Box wx (w.heap.size + 2) #[.string sb, .string cm, .int .i64 ph, .int .i64 sp, .int .i64 sw, .int .i64 si] 27 ∧ Box wx (w.heap.size + 3) #[.int .i64 wt, .int .i64 ps] 34 ∧ Box wx (w2.heap.size) #[.string rim, .slice a2 n2 c2] 25 ∧ Box wx (w3.heap.size) #[.string rim, .slice a3 n3 c3] 25 ∧ StepsIn wx a xs ∧ StepsIn wx a2 rxs ∧ StepsIn wx a3 rxs ∧ Ext w wx) ⟨(by (with_reducible apply Box.to); (focus (with_reducible repeat (first | assumption | (apply Box.new; (focus (first | rfl | (first | (simp; done) | (simp; omega) | omega)))) | apply Box.set | (apply Box.other; rotate_left; (focus (first | (simp; done) | (simp; omega) | omega))) | apply Box.alloc | apply Box.drew | (apply Box.ext; (focus assumption))))); (first | rfl | (simp; done) | (go_light; simp [*]; done))), (by (with_reducible apply Box.to); (focus (with_reducible repeat (first | assumption | (apply Box.new; (focus (first | rfl | (first | (simp; done) | (simp; omega) | omega)))) | apply Box.set | (apply Box.other; rotate_left; (focus (first | (simp; done) | (simp; omega) | omega))) | apply Box.alloc | apply Box.drew | (apply Box.ext; (focus assumption))))); (first | rfl | (simp; done) | (go_light; simp [*]; done))), (by (with_reducible apply Box.to); (focus (with_reducible repeat (first | assumption | (apply Box.new; (focus (first | rfl | (first | (simp; done) | (simp; omega) | omega)))) | apply Box.set | (apply Box.other; rotate_left; (focus (first | (simp; done) | (simp; omega) | omega))) | apply Box.alloc | apply Box.drew | (apply Box.ext; (focus assumption))))); (first | rfl | (simp; done) | (go_light; simp [*]; done))), (by (with_reducible apply Box.to); (focus (with_reducible repeat (first | assumption | (apply Box.new; (focus (first | rfl | (first | (simp; done) | (simp; omega) | omega)))) | apply Box.set | (apply Box.other; rotate_left; (focus (first | (simp; done) | (simp; omega) | omega))) | apply Box.alloc | apply Box.drew | (apply Box.ext; (focus assumption))))); (first | rfl | (simp; done) | (go_light; simp [*]; done))), (by (with_reducible apply Box.to); (focus (with_reducible repeat (first | assumption | (apply Box.new; (focus (first | rfl | (first | (simp; done) | (simp; omega) | omega)))) | apply Box.set | (apply Box.other; rotate_left; (focus (first | (simp; done) | (simp; omega) | omega))) | apply Box.alloc | apply Box.drew | (apply Box.ext; (focus assumption))))); (first | rfl | (simp; done) | (go_light; simp [*]; done))), hs.ext (by with_reducible repeat (first | exact Ext.refl _ | assumption | apply Ext.drew | apply Ext.drewN | apply Ext.alloc | (refine Ext.setCell ?_ ?_ _; rotate_left; (focus (first | (simp; done) | (simp; omega) | omega))) | refine Ext.trans ?_ (by assumption))), hsA.ext (by with_reducible repeat (first | exact Ext.refl _ | assumption | apply Ext.drew | apply Ext.drewN | apply Ext.alloc | (refine Ext.setCell ?_ ?_ _; rotate_left; (focus (first | (simp; done) | (simp; omega) | omega))) | refine Ext.trans ?_ (by assumption))), hsB.ext (by with_reducible repeat (first | exact Ext.refl _ | assumption | apply Ext.drew | apply Ext.drewN | apply Ext.alloc | (refine Ext.setCell ?_ ?_ _; rotate_left; (focus (first | (simp; done) | (simp; omega) | omega))) | refine Ext.trans ?_ (by assumption))), (by with_reducible repeat (first | exact Ext.refl _ | assumption | apply Ext.drew | apply Ext.drewN | apply Ext.alloc | (refine Ext.setCell ?_ ?_ _; rotate_left; (focus (first | (simp; done) | (simp; omega) | omega))) | refine Ext.trans ?_ (by assumption)))⟩ ?_
  rintro wc ⟨hB2, hB3, hB4, hB9, hB11, hs, hsA, hsB, hx0⟩
  clear hx3
  have hc2 := hB2.cells; have hf2 := hB2.free; have hl2 := hB2.lt
  go_wp2_with fail
  (refine (Hf1.out _ (hs.ext (by with_reducible repeat (first | exact Ext.refl _ | assumption | apply Ext.drew | apply Ext.drewN | apply Ext.alloc | (refine Ext.setCell ?_ ?_ _; rotate_left; (focus (first | (simp; done) | (simp; omega) | omega))) | refine Ext.trans ?_ (by assumption))))).mono ?_); rintro e w4 ⟨rfl, h4⟩
  have hB2 := Box.ext h4 hB2
  have hB3 := Box.ext h4 hB3
  have hB4 := Box.ext h4 hB4
  have hB9 := Box.ext h4 hB9
  have hB11 := Box.ext h4 hB11
  have hs := hs.ext h4
  have hsA := hsA.ext h4
  have hsB := hsB.ext h4
  have hx4 : Ext w w4 := (by with_reducible repeat (first | exact Ext.refl _ | assumption | apply Ext.drew | apply Ext.drewN | apply Ext.alloc | (refine Ext.setCell ?_ ?_ _; rotate_left; (focus (first | (simp; done) | (simp; omega) | omega))) | refine Ext.trans ?_ (by assumption)))
  clear h4 hx0 hc2 hf2 hl2
  go_upto_region 4 with fail
  refine gen_world (R := fun wx => Box wx (w.heap.size + 1) #[.string im, .slice a n cap] 25 ∧ Box wx (w.heap.size + 2) #[.string sb, .string cm, .int .i64 ph, .int .i64 sp, .int .i64 sw, .int .i64 si] 27 ∧ Box wx (w.heap.size + 3) #[.int .i64 wt, .int .i64 ps] 34 ∧ Box wx (w2.heap.size) #[.string rim, .slice a2 n2 c2] 25 ∧ Box wx (w3.heap.size) #[.string rim, .slice a3 n3 c3] 25 ∧ Box wx (w4.heap.size) #[.string fsb, .string fcm, .int .i64 fph, .int .i64 fsp, .int .i64 fwt, .int .i64 fsi] 27 ∧ StepsIn wx a xs ∧ StepsIn wx a2 rxs ∧ StepsIn wx a3 rxs ∧ Ext w wx) ⟨(by (with_reducible apply Box.to); (focus (with_reducible repeat (first | assumption | (apply Box.new; (focus (first | rfl | (first | (simp; done) | (simp; omega) | omega)))) | apply Box.set | (apply Box.other; rotate_left; (focus (first | (simp; done) | (simp; omega) | omega))) | apply Box.alloc | apply Box.drew | (apply Box.ext; (focus assumption))))); (first | rfl | (simp; done) | (go_light; simp [*]; done))), (by (with_reducible apply Box.to); (focus (with_reducible repeat (first | assumption | (apply Box.new; (focus (first | rfl | (first | (simp; done) | (simp; omega) | omega)))) | apply Box.set | (apply Box.other; rotate_left; (focus (first | (simp; done) | (simp; omega) | omega))) | apply Box.alloc | apply Box.drew | (apply Box.ext; (focus assumption))))); (first | rfl | (simp; done) | (go_light; simp [*]; done))), (by (with_reducible apply Box.to); (focus (with_reducible repeat (first | assumption | (apply Box.new; (focus (first | rfl | (first | (simp; done) | (simp; omega) | omega)))) | apply Box.set | (apply Box.other; rotate_left; (focus (first | (simp; done) | (simp; omega) | omega))) | apply Box.alloc | apply Box.drew | (apply Box.ext; (focus assumption))))); (first | rfl | (simp; done) | (go_light; simp [*]; done))), (by (with_reducible apply Box.to); (focus (with_reducible repeat (first | assumption | (apply Box.new; (focus (first | rfl | (first | (simp; done) | (simp; omega) | omega)))) | apply Box.set | (apply Box.other; rotate_left; (focus (first | (simp; done) | (simp; omega) | omega))) | apply Box.alloc | apply Box.drew | (apply Box.ext; (focus assumption))))); (first | rfl | (simp; done) | (go_light; simp [*]; done))), (by (with_reducible apply Box.to); (focus (with_reducible repeat (first | assumption | (apply Box.new; (focus (first | rfl | (first | (simp; done) | (simp; omega) | omega)))) | apply Box.set | (apply Box.other; rotate_left; (focus (first | (simp; done) | (simp; omega) | omega))) | apply Box.alloc | apply Box.drew | (apply Box.ext; (focus assumption))))); (first | rfl | (simp; done) | (go_light; simp [*]; done))), (by (with_reducible apply Box.to); (focus (with_reducible repeat (first | assumption | (apply Box.new; (focus (first | rfl | (first | (simp; done) | (simp; omega) | omega)))) | apply Box.set | (apply Box.other; rotate_left; (focus (first | (simp; done) | (simp; omega) | omega))) | apply Box.alloc | apply Box.drew | (apply Box.ext; (focus assumption))))); (first | rfl | (simp; done) | (go_light; simp [*]; done))), hs.ext (by with_reducible repeat (first | exact Ext.refl _ | assumption | apply Ext.drew | apply Ext.drewN | apply Ext.alloc | (refine Ext.setCell ?_ ?_ _; rotate_left; (focus (first | (simp; done) | (simp; omega) | omega))) | refine Ext.trans ?_ (by assumption))), hsA.ext (by with_reducible repeat (first | exact Ext.refl _ | assumption | apply Ext.drew | apply Ext.drewN | apply Ext.alloc | (refine Ext.setCell ?_ ?_ _; rotate_left; (focus (first | (simp; done) | (simp; omega) | omega))) | refine Ext.trans ?_ (by assumption))), hsB.ext (by with_reducible repeat (first | exact Ext.refl _ | assumption | apply Ext.drew | apply Ext.drewN | apply Ext.alloc | (refine Ext.setCell ?_ ?_ _; rotate_left; (focus (first | (simp; done) | (simp; omega) | omega))) | refine Ext.trans ?_ (by assumption))), (by with_reducible repeat (first | exact Ext.refl _ | assumption | apply Ext.drew | apply Ext.drewN | apply Ext.alloc | (refine Ext.setCell ?_ ?_ _; rotate_left; (focus (first | (simp; done) | (simp; omega) | omega))) | refine Ext.trans ?_ (by assumption)))⟩ ?_
  rintro wd ⟨hB2, hB3, hB4, hB9, hB11, hB13, hs, hsA, hsB, hx0⟩
  clear hx4
  have hc2 := hB2.cells; have hf2 := hB2.free; have hl2 := hB2.lt
  go_wp2_with fail
  (refine (Hf2.out _ (hs.ext (by with_reducible repeat (first | exact Ext.refl _ | assumption | apply Ext.drew | apply Ext.drewN | apply Ext.alloc | (refine Ext.setCell ?_ ?_ _; rotate_left; (focus (first | (simp; done) | (simp; omega) | omega))) | refine Ext.trans ?_ (by assumption))))).mono ?_); rintro e w5 ⟨rfl, h5⟩
  have hB2 := Box.ext h5 hB2
  have hB3 := Box.ext h5 hB3
  have hB4 := Box.ext h5 hB4
  have hB9 := Box.ext h5 hB9
  have hB11 := Box.ext h5 hB11
  have hB13 := Box.ext h5 hB13
  have hs := hs.ext h5
  have hsA := hsA.ext h5
  have hsB := hsB.ext h5
  have hx5 : Ext w w5 := (by with_reducible repeat (first | exact Ext.refl _ | assumption | apply Ext.drew | apply Ext.drewN | apply Ext.alloc | (refine Ext.setCell ?_ ?_ _; rotate_left; (focus (first | (simp; done) | (simp; omega) | omega))) | refine Ext.trans ?_ (by assumption)))
  clear h5 hx0 hc2 hf2 hl2
  go_upto_region 5 with fail
  refine gen_world (R := fun wx => Box wx (w.heap.size + 1) #[.string im, .slice a n cap] 25 ∧ Box wx (w.heap.size + 2) #[.string sb, .string cm, .int .i64 ph, .int .i64 sp, .int .i64 sw, .int .i64 si] 27 ∧ Box wx (w.heap.size + 3) #[.int .i64 wt, .int .i64 ps] 34 ∧ Box wx (w2.heap.size) #[.string rim, .slice a2 n2 c2] 25 ∧ Box wx (w3.heap.size) #[.string rim, .slice a3 n3 c3] 25 ∧ Box wx (w4.heap.size) #[.string fsb, .string fcm, .int .i64 fph, .int .i64 fsp, .int .i64 fwt, .int .i64 fsi] 27 ∧ Box wx (w5.heap.size) #[.string fsb, .string fcm, .int .i64 fph, .int .i64 fsp, .int .i64 fwt, .int .i64 fsi] 27 ∧ StepsIn wx a xs ∧ StepsIn wx a2 rxs ∧ StepsIn wx a3 rxs ∧ Ext w wx) ⟨(by (with_reducible apply Box.to); (focus (with_reducible repeat (first | assumption | (apply Box.new; (focus (first | rfl | (first | (simp; done) | (simp; omega) | omega)))) | apply Box.set | (apply Box.other; rotate_left; (focus (first | (simp; done) | (simp; omega) | omega))) | apply Box.alloc | apply Box.drew | (apply Box.ext; (focus assumption))))); (first | rfl | (simp; done) | (go_light; simp [*]; done))), (by (with_reducible apply Box.to); (focus (with_reducible repeat (first | assumption | (apply Box.new; (focus (first | rfl | (first | (simp; done) | (simp; omega) | omega)))) | apply Box.set | (apply Box.other; rotate_left; (focus (first | (simp; done) | (simp; omega) | omega))) | apply Box.alloc | apply Box.drew | (apply Box.ext; (focus assumption))))); (first | rfl | (simp; done) | (go_light; simp [*]; done))), (by (with_reducible apply Box.to); (focus (with_reducible repeat (first | assumption | (apply Box.new; (focus (first | rfl | (first | (simp; done) | (simp; omega) | omega)))) | apply Box.set | (apply Box.other; rotate_left; (focus (first | (simp; done) | (simp; omega) | omega))) | apply Box.alloc | apply Box.drew | (apply Box.ext; (focus assumption))))); (first | rfl | (simp; done) | (go_light; simp [*]; done))), (by (with_reducible apply Box.to); (focus (with_reducible repeat (first | assumption | (apply Box.new; (focus (first | rfl | (first | (simp; done) | (simp; omega) | omega)))) | apply Box.set | (apply Box.other; rotate_left; (focus (first | (simp; done) | (simp; omega) | omega))) | apply Box.alloc | apply Box.drew | (apply Box.ext; (focus assumption))))); (first | rfl | (simp; done) | (go_light; simp [*]; done))), (by (with_reducible apply Box.to); (focus (with_reducible repeat (first | assumption | (apply Box.new; (focus (first | rfl | (first | (simp; done) | (simp; omega) | omega)))) | apply Box.set | (apply Box.other; rotate_left; (focus (first | (simp; done) | (simp; omega) | omega))) | apply Box.alloc | apply Box.drew | (apply Box.ext; (focus assumption))))); (first | rfl | (simp; done) | (go_light; simp [*]; done))), (by (with_reducible apply Box.to); (focus (with_reducible repeat (first | assumption | (apply Box.new; (focus (first | rfl | (first | (simp; done) | (simp; omega) | omega)))) | apply Box.set | (apply Box.other; rotate_left; (focus (first | (simp; done) | (simp; omega) | omega))) | apply Box.alloc | apply Box.drew | (apply Box.ext; (focus assumption))))); (first | rfl | (simp; done) | (go_light; simp [*]; done))), (by (with_reducible apply Box.to); (focus (with_reducible repeat (first | assumption | (apply Box.new; (focus (first | rfl | (first | (simp; done) | (simp; omega) | omega)))) | apply Box.set | (apply Box.other; rotate_left; (focus (first | (simp; done) | (simp; omega) | omega))) | apply Box.alloc | apply Box.drew | (apply Box.ext; (focus assumption))))); (first | rfl | (simp; done) | (go_light; simp [*]; done))), hs.ext (by with_reducible repeat (first | exact Ext.refl _ | assumption | apply Ext.drew | apply Ext.drewN | apply Ext.alloc | (refine Ext.setCell ?_ ?_ _; rotate_left; (focus (first | (simp; done) | (simp; omega) | omega))) | refine Ext.trans ?_ (by assumption))), hsA.ext (by with_reducible repeat (first | exact Ext.refl _ | assumption | apply Ext.drew | apply Ext.drewN | apply Ext.alloc | (refine Ext.setCell ?_ ?_ _; rotate_left; (focus (first | (simp; done) | (simp; omega) | omega))) | refine Ext.trans ?_ (by assumption))), hsB.ext (by with_reducible repeat (first | exact Ext.refl _ | assumption | apply Ext.drew | apply Ext.drewN | apply Ext.alloc | (refine Ext.setCell ?_ ?_ _; rotate_left; (focus (first | (simp; done) | (simp; omega) | omega))) | refine Ext.trans ?_ (by assumption))), (by with_reducible repeat (first | exact Ext.refl _ | assumption | apply Ext.drew | apply Ext.drewN | apply Ext.alloc | (refine Ext.setCell ?_ ?_ _; rotate_left; (focus (first | (simp; done) | (simp; omega) | omega))) | refine Ext.trans ?_ (by assumption)))⟩ ?_
  rintro wz ⟨hB2, hB3, hB4, hB9, hB11, hB13, hB15, hs, hsA, hsB, hx0⟩
  clear hx5
  have Sof : ∀ w', Ext wz w' → (Ext wz w' ∧ w'.cell? ⟨w.heap.size + 1, 0, none⟩ = some (.string im) ∧ w'.cell? ⟨w.heap.size + 1, 1, none⟩ = some (.slice a n cap) ∧ w'.cell? ⟨w.heap.size + 2, 0, none⟩ = some (.string sb) ∧ w'.cell? ⟨w.heap.size + 2, 1, none⟩ = some (.string cm) ∧ w'.cell? ⟨w.heap.size + 2, 2, none⟩ = some (.int .i64 ph) ∧ w'.cell? ⟨w.heap.size + 2, 3, none⟩ = some (.int .i64 sp) ∧ w'.cell? ⟨w.heap.size + 2, 4, none⟩ = some (.int .i64 sw) ∧ w'.cell? ⟨w.heap.size + 2, 5, none⟩ = some (.int .i64 si) ∧ w'.cell? ⟨w.heap.size + 3, 0, none⟩ = some (.int .i64 wt) ∧ w'.cell? ⟨w.heap.size + 3, 1, none⟩ = some (.int .i64 ps) ∧ w'.cell? ⟨w2.heap.size, 0, none⟩ = some (.string rim) ∧ w'.cell? ⟨w2.heap.size, 1, none⟩ = some (.slice a2 n2 c2) ∧ w'.cell? ⟨w3.heap.size, 0, none⟩ = some (.string rim) ∧ w'.cell? ⟨w3.heap.size, 1, none⟩ = some (.slice a3 n3 c3) ∧ w'.cell? ⟨w4.heap.size, 0, none⟩ = some (.string fsb) ∧ w'.cell? ⟨w4.heap.size, 1, none⟩ = some (.string fcm) ∧ w'.cell? ⟨w4.heap.size, 2, none⟩ = some (.int .i64 fph) ∧ w'.cell? ⟨w4.heap.size, 3, none⟩ = some (.int .i64 fsp) ∧ w'.cell? ⟨w4.heap.size, 4, none⟩ = some (.int .i64 fwt) ∧ w'.cell? ⟨w4.heap.size, 5, none⟩ = some (.int .i64 fsi) ∧ w'.cell? ⟨w5.heap.size, 0, none⟩ = some (.string fsb) ∧ w'.cell? ⟨w5.heap.size, 1, none⟩ = some (.string fcm) ∧ w'.cell? ⟨w5.heap.size, 2, none⟩ = some (.int .i64 fph) ∧ w'.cell? ⟨w5.heap.size, 3, none⟩ = some (.int .i64 fsp) ∧ w'.cell? ⟨w5.heap.size, 4, none⟩ = some (.int .i64 fwt) ∧ w'.cell? ⟨w5.heap.size, 5, none⟩ = some (.int .i64 fsi)) := fun w' e => ⟨e, e.cell (hB2.cells 0), e.cell (hB2.cells 1), e.cell (hB3.cells 0), e.cell (hB3.cells 1), e.cell (hB3.cells 2), e.cell (hB3.cells 3), e.cell (hB3.cells 4), e.cell (hB3.cells 5), e.cell (hB4.cells 0), e.cell (hB4.cells 1), e.cell (hB9.cells 0), e.cell (hB9.cells 1), e.cell (hB11.cells 0), e.cell (hB11.cells 1), e.cell (hB13.cells 0), e.cell (hB13.cells 1), e.cell (hB13.cells 2), e.cell (hB13.cells 3), e.cell (hB13.cells 4), e.cell (hB13.cells 5), e.cell (hB15.cells 0), e.cell (hB15.cells 1), e.cell (hB15.cells 2), e.cell (hB15.cells 3), e.cell (hB15.cells 4), e.cell (hB15.cells 5)⟩
  have Sget : ∀ w', (Ext wz w' ∧ w'.cell? ⟨w.heap.size + 1, 0, none⟩ = some (.string im) ∧ w'.cell? ⟨w.heap.size + 1, 1, none⟩ = some (.slice a n cap) ∧ w'.cell? ⟨w.heap.size + 2, 0, none⟩ = some (.string sb) ∧ w'.cell? ⟨w.heap.size + 2, 1, none⟩ = some (.string cm) ∧ w'.cell? ⟨w.heap.size + 2, 2, none⟩ = some (.int .i64 ph) ∧ w'.cell? ⟨w.heap.size + 2, 3, none⟩ = some (.int .i64 sp) ∧ w'.cell? ⟨w.heap.size + 2, 4, none⟩ = some (.int .i64 sw) ∧ w'.cell? ⟨w.heap.size + 2, 5, none⟩ = some (.int .i64 si) ∧ w'.cell? ⟨w.heap.size + 3, 0, none⟩ = some (.int .i64 wt) ∧ w'.cell? ⟨w.heap.size + 3, 1, none⟩ = some (.int .i64 ps) ∧ w'.cell? ⟨w2.heap.size, 0, none⟩ = some (.string rim) ∧ w'.cell? ⟨w2.heap.size, 1, none⟩ = some (.slice a2 n2 c2) ∧ w'.cell? ⟨w3.heap.size, 0, none⟩ = some (.string rim) ∧ w'.cell? ⟨w3.heap.size, 1, none⟩ = some (.slice a3 n3 c3) ∧ w'.cell? ⟨w4.heap.size, 0, none⟩ = some (.string fsb) ∧ w'.cell? ⟨w4.heap.size, 1, none⟩ = some (.string fcm) ∧ w'.cell? ⟨w4.heap.size, 2, none⟩ = some (.int .i64 fph) ∧ w'.cell? ⟨w4.heap.size, 3, none⟩ = some (.int .i64 fsp) ∧ w'.cell? ⟨w4.heap.size, 4, none⟩ = some (.int .i64 fwt) ∧ w'.cell? ⟨w4.heap.size, 5, none⟩ = some (.int .i64 fsi) ∧ w'.cell? ⟨w5.heap.size, 0, none⟩ = some (.string fsb) ∧ w'.cell? ⟨w5.heap.size, 1, none⟩ = some (.string fcm) ∧ w'.cell? ⟨w5.heap.size, 2, none⟩ = some (.int .i64 fph) ∧ w'.cell? ⟨w5.heap.size, 3, none⟩ = some (.int .i64 fsp) ∧ w'.cell? ⟨w5.heap.size, 4, none⟩ = some (.int .i64 fwt) ∧ w'.cell? ⟨w5.heap.size, 5, none⟩ = some (.int .i64 fsi)) → Ext wz w' := fun w' h => h.1
  clear hB2 hB3 hB4 hB9 hB11 hB13 hB15
  clear Hrd Href Hf1 Hf2
  go_region_held3 (fun w' => Ext wz w' ∧ w'.cell? ⟨w.heap.size + 1, 0, none⟩ = some (.string im) ∧ w'.cell? ⟨w.heap.size + 1, 1, none⟩ = some (.slice a n cap) ∧ w'.cell? ⟨w.heap.size + 2, 0, none⟩ = some (.string sb) ∧ w'.cell? ⟨w.heap.size + 2, 1, none⟩ = some (.string cm) ∧ w'.cell? ⟨w.heap.size + 2, 2, none⟩ = some (.int .i64 ph) ∧ w'.cell? ⟨w.heap.size + 2, 3, none⟩ = some (.int .i64 sp) ∧ w'.cell? ⟨w.heap.size + 2, 4, none⟩ = some (.int .i64 sw) ∧ w'.cell? ⟨w.heap.size + 2, 5, none⟩ = some (.int .i64 si) ∧ w'.cell? ⟨w.heap.size + 3, 0, none⟩ = some (.int .i64 wt) ∧ w'.cell? ⟨w.heap.size + 3, 1, none⟩ = some (.int .i64 ps) ∧ w'.cell? ⟨w2.heap.size, 0, none⟩ = some (.string rim) ∧ w'.cell? ⟨w2.heap.size, 1, none⟩ = some (.slice a2 n2 c2) ∧ w'.cell? ⟨w3.heap.size, 0, none⟩ = some (.string rim) ∧ w'.cell? ⟨w3.heap.size, 1, none⟩ = some (.slice a3 n3 c3) ∧ w'.cell? ⟨w4.heap.size, 0, none⟩ = some (.string fsb) ∧ w'.cell? ⟨w4.heap.size, 1, none⟩ = some (.string fcm) ∧ w'.cell? ⟨w4.heap.size, 2, none⟩ = some (.int .i64 fph) ∧ w'.cell? ⟨w4.heap.size, 3, none⟩ = some (.int .i64 fsp) ∧ w'.cell? ⟨w4.heap.size, 4, none⟩ = some (.int .i64 fwt) ∧ w'.cell? ⟨w4.heap.size, 5, none⟩ = some (.int .i64 fsi) ∧ w'.cell? ⟨w5.heap.size, 0, none⟩ = some (.string fsb) ∧ w'.cell? ⟨w5.heap.size, 1, none⟩ = some (.string fcm) ∧ w'.cell? ⟨w5.heap.size, 2, none⟩ = some (.int .i64 fph) ∧ w'.cell? ⟨w5.heap.size, 3, none⟩ = some (.int .i64 fsp) ∧ w'.cell? ⟨w5.heap.size, 4, none⟩ = some (.int .i64 fwt) ∧ w'.cell? ⟨w5.heap.size, 5, none⟩ = some (.int .i64 fsi))
    (first | (exact Sof _ (Ext.drew (Ext.refl _))) | (refine Sof _ (Ext.trans (Sget _ ?_) h6); assumption))
    (first
      | (go_at_call 21; refine (sameSpec_any rim rxs a2 a3 n2 n3 c2 c3 _ hrl (hsA.ext (Sget _ ?_)) (hsB.ext (Sget _ ?_)) hn2 hn3).mono ?_; assumption; assumption; rintro e w6 ⟨rfl, h6⟩)
      | (go_at_call 22; refine (goodStep_any wt ps _).mono ?_; rintro e w6 ⟨rfl, h6⟩)
      | (go_at_call 23; refine (isStep_any wt ps _).mono ?_; rintro e w6 ⟨rfl, h6⟩)
      | (go_at_call 15; refine (goodSpec_n im a n cap xs _ hl (hs.ext (Sget _ ?_)) hn.out).mono ?_; assumption; rintro e w6 ⟨rfl, h6⟩)
      | (go_at_call 24; refine (isSpecIs im a n cap xs _ hl (hs.ext (Sget _ ?_)) hn.out).mono ?_; assumption; rintro e w6 ⟨rfl, h6⟩)
      | (go_at_call 14; refine (good_any ⟨sb, cm, ph, sp, sw, si⟩ _).mono ?_; rintro e w6 ⟨rfl, h6⟩)
      | (go_at_call 25; refine (isStatus_any ⟨sb, cm, ph, sp, sw, si⟩ _).mono ?_; rintro e w6 ⟨rfl, h6⟩)
      | (go_at_call 12; refine (steps_own _).mono ?_; rintro e w6 ⟨rfl, h6⟩))
  all_goals
    go_wp2_with fail
    go_ret
    exact ⟨ret_bool (by simp), (by with_reducible repeat (first | exact Ext.refl _ | assumption | apply Ext.drew | apply Ext.drewN | apply Ext.alloc | (refine Ext.setCell ?_ ?_ _; rotate_left; (focus (first | (simp; done) | (simp; omega) | omega))) | refine Ext.trans ?_ (by assumption)))⟩

theorem open_step {H : Type} {enc : TypeId × Value → H} {w : World} {base b0 : Nat} {spare : Nat → Bool} {held : Bool} {r : Reach} {v : Value} {d : DataW H} {p : List MemPlace}
    (hv : Value.okWide Try.prog w r b0 34 v) (h : DataW.Trod enc Try.prog w base spare held 34 v d p) :
    ∃ wt ps : Int, v = .agg #[.int .i64 wt, .int .i64 ps] := by
  obtain ⟨v0, v1, y0, y1, n, rfl, hd, -, h0, h1⟩ := open_agg2 Try.underlying34 (by kernel_rfl) Try.cellsStep hv h
  obtain ⟨i0, e0, -, -⟩ := DataW.trod_int Try.underlying3 h0
  obtain ⟨i1, e1, -, -⟩ := DataW.trod_int Try.underlying3 h1
  simp at e0 e1
  exact ⟨i0, i1, by rw [e0, e1]⟩

set_option maxRecDepth 100000 in
theorem lifted (os : Os) (started : os.Started) (H : Type) (enc : TypeId × Value → H) (Fi : Stop.Interp) :
    ReturnsInHanded {} Try.checked os 9 .any ((Rows.OpenSpec.upto Rows.stageReadsSpec).pre6 enc Try.prog Try.f9 Rows.stageReadsUptoRow.domain false) (((Rows.OpenSpec.upto Rows.stageReadsSpec).at Fi).post enc Try.prog Try.f9 false true false false) := by
  refine returnsInHanded_of_cond (C := Try.checked) (s := Rows.OpenSpec.upto Rows.stageReadsSpec) (k := Rows.uptoSmall) rfl Try.own started (by kernel_rfl) Try.func9
    (OpenSpec.witness (enc := enc) (C := Try.checked) (s := Rows.OpenSpec.upto Rows.stageReadsSpec) (k := Rows.uptoSmall) rfl false ⟨#[], #[.agg #[.int .i64 0, .int .i64 0, .string ⟨#[]⟩, .slice none 0 0, .slice none 0 0], .agg #[.string ⟨#[]⟩, .slice none 0 0], .agg #[.string ⟨#[]⟩, .string ⟨#[]⟩, .int .i64 0, .int .i64 0, .int .i64 0, .int .i64 0], .agg #[.int .i64 0, .int .i64 0]], []⟩ 12 (by kernel_rfl) (by kernel_rfl) (by kernel_rfl)
      (x := ([.agg [.lit (.int .i64 0), .lit (.int .i64 0), .lit (.string []), .nil, .nil], .agg [.lit (.string []), .nil], .agg [.lit (.string []), .lit (.string []), .lit (.int .i64 0), .lit (.int .i64 0), .lit (.int .i64 0), .lit (.int .i64 0)], .agg [.lit (.int .i64 0), .lit (.int .i64 0)]], [], [])) (by kernel_rfl) rfl (by kernel_rfl)) ?_
  intro W base args ds gs before hval0 hW hcnd hk _
  have hval : ∀ (j : Nat) t v, Try.f9.params[j]? = some t → args[j]? = some v → Value.okWide Try.prog W .any base t v := hval0
  have hW' := hW
  obtain ⟨p, q, hA0, hV, rfl, hfz, hnd⟩ := hW
  have hA : DataW.TrodAll enc Try.prog W 0 (fun _ => true) true Try.f9.params.toList args.toList ds p := hA0
  rw [Try.params9] at hA hval
  obtain ⟨v0, vs0, d0, ds0, p0, q0, hargs, rfl, rfl, h0, r0⟩ := trodAll_cons hA
  obtain ⟨v1, vs1, d1, ds1, p1, q1, rfl, rfl, rfl, h1, r1⟩ := trodAll_cons r0
  obtain ⟨v2, vs2, d2, ds2, p2, q2, rfl, rfl, rfl, h2, r2⟩ := trodAll_cons r1
  obtain ⟨v3, vs3, d3, ds3, p3, q3, rfl, rfl, rfl, h3, r3⟩ := trodAll_cons r2
  obtain ⟨rfl, rfl, rfl⟩ := trodAll_nil r3
  obtain rfl : args = #[v0, v1, v2, v3] := by cases args; simp_all
  obtain ⟨rfl, rfl⟩ := trodVars_none hV
  have hbulk : Rows.uptoBulkAll [d0, d1, d2, d3] ≤ 1048576 := by simpa [Rows.uptoSmall] using hk
  have k0 := h0
  have k1 := h1
  have k2 := h2
  have k3 := h3
  have lt0 : ∀ x ∈ p0, x.block < W.heap.size := by obtain ⟨m, hm⟩ := k0; exact DataW.trod_lt m _ _ _ hm
  have lt1 : ∀ x ∈ p1, x.block < W.heap.size := by obtain ⟨m, hm⟩ := k1; exact DataW.trod_lt m _ _ _ hm
  have lt2 : ∀ x ∈ p2, x.block < W.heap.size := by obtain ⟨m, hm⟩ := k2; exact DataW.trod_lt m _ _ _ hm
  have lt3 : ∀ x ∈ p3, x.block < W.heap.size := by obtain ⟨m, hm⟩ := k3; exact DataW.trod_lt m _ _ _ hm
  obtain ⟨x, ka, kc, la, lc, rfl, hin, hsx⟩ := open_value (hval 0 40 v0 rfl rfl) h0
  obtain ⟨im, a, cap, xs, rfl, hs, hl⟩ := open_spec (hval 1 25 v1 rfl rfl) h1
  obtain ⟨s, rfl⟩ := open_status (hval 2 27 v2 rfl rfl) h2
  obtain ⟨wt, ps, rfl⟩ := open_step (hval 3 34 v3 rfl rfl) h3
  have hx1 : x.size ≤ 1073741824 := by
    simp only [Rows.uptoBulkAll] at hbulk
    omega
  clear hA0 hval0
  refine (walk x ka kc la lc _ im a xs.length cap xs s wt ps W hx1 hin hl hs rfl).mono fun e W' ⟨he, bel⟩ => ?_
  subst he
  exact ⟨_, rfl, _, _, _, [], _, [], hW', trodAll_mk1 (shut_bool Try.underlying4 _), (trodAll_cons_mk (Below.trod Try.laidOut (by kernel_rfl) (of_decide_eq_true (by kernel_rfl)) k0 bel lt0) (trodAll_cons_mk (Below.trod Try.laidOut (by kernel_rfl) (of_decide_eq_true (by kernel_rfl)) k1 bel lt1) (trodAll_cons_mk (Below.trod Try.laidOut (by kernel_rfl) (of_decide_eq_true (by kernel_rfl)) k2 bel lt2) (trodAll_cons_mk (Below.trod Try.laidOut (by kernel_rfl) (of_decide_eq_true (by kernel_rfl)) k3 bel lt3) trodAll_mk0)))), rfl, Below.frame bel _, fun h => by cases h⟩

theorem over : Rows.stageReadsUptoRow.holds Try.pinned (Rows.OpenSpec.upto Rows.stageReadsSpec) :=
  OpenClaim.holds_of_cond 9 Try.f9 rfl rfl rfl rfl rfl rfl rfl ⟨rfl, rfl, rfl, rfl, rfl⟩ rfl rfl rfl rfl rfl (by kernel_rfl) Try.func9 (by kernel_rfl)
    (of_decide_eq_true (by kernel_rfl)) (by unfold Func.isWrapper; first | (rw [if_pos (by decide +kernel)]; kernel_rfl) | (rw [if_neg (by decide +kernel)]; exact ⟨rfl, rfl⟩))
    (fun os started H enc _ Fi => lifted os started H enc Fi)

theorem proved : Rows.StageReadsUptoSaid := over
end Go.Proofs.Ytpkgeailbifnjaa.lawStageReads
