/- What came in, opened: a spec, a status. -/
import Derived.Test.YtpkgeailbifnjaaStageW2
import Derived.Lib.SmallJoins
import Derived.Deep.SlicePairs
import Derived.ChangeArms
set_option linter.all false
namespace Go.Proofs.Ytpkgeailbifnjaa
open Go.ChangeShapes Go.WideShapes Go.ChangeAt Go.RowKit Go.Deep Go.Joins
open Go.ChangeMaps (open_string shut_string)

theorem Try.cellsStep : Try.prog.cellsOf 34 = 2 := by kernel_rfl
theorem Try.bytesStep : Try.prog.bytesOf 34 = 16 := by kernel_rfl
theorem Try.cellsInt : Try.prog.cellsOf 3 = 1 := by kernel_rfl
theorem Try.cellsSpec : Try.prog.cellsOf 25 = 2 := by kernel_rfl
theorem Try.cellsStatus : Try.prog.cellsOf 27 = 6 := by kernel_rfl
theorem Try.cellsStr : Try.prog.cellsOf 9 = 1 := by kernel_rfl

theorem open_steps {H : Type} {enc : TypeId × Value → H} {w : World} {base : Nat} {spare : Nat → Bool} {held : Bool} {fuel : Nat} {c : Value} {x : DataW H × List MemPlace}
    (h : DataW.trod enc Try.prog w base spare held fuel 23 [c] = some x) : ∃ a cap xs, c = .slice a xs.length cap ∧ StepsIn w a xs ∧ xs.length ≤ 9223372036854775807 ∧ xs.length ≤ cap ∧ cap ≤ maxLen ∧ (a = none → cap = 0) ∧
      ((x.1.weights Try.prog 23).all (fun n => decide (n ≤ reachBytes)) = true → xs.length * 16 ≤ 140737488351232) := by
  rcases open_slice_pairs Try.underlying23 Try.underlying34 Try.cellsStep rfl rfl Try.cellsInt Try.cellsInt h with ⟨hc, -⟩ | ⟨a, len, cap, m, n, V0, V1, D0, D1, P0, P1, hc, hb, hl, hm, hmm, hx, hall⟩
  · simp at hc
    exact ⟨none, 0, [], hc, .inl rfl, by simp, by simp, by simp [maxLen], by simp, by simp⟩
  · have hc : c = .slice (some a) len cap := by simpa using hc
    have hlm : len ≤ m := by rw [hmm]; split <;> omega
    have each : ∀ i, i < len → ∃ q : Int × Int, V0 i = .int .i64 q.1 ∧ V1 i = .int .i64 q.2 := by
      intro i hi
      obtain ⟨-, -, t0, t1⟩ := hall i (by omega)
      obtain ⟨q0, e0, -, -⟩ := DataW.trod_int Try.underlying3 t0
      obtain ⟨q1, e1, -, -⟩ := DataW.trod_int Try.underlying3 t1
      simp at e0 e1
      exact ⟨(q0, q1), e0, e1⟩
    obtain ⟨f, hf⟩ := choose_lt each
    refine ⟨some a, cap, (List.range len).map f, by simpa using hc, ?_, by simp; unfold maxLen at hm; omega, by simpa using hl, hm, by simp, fun hw => ?_⟩
    rotate_left
    · rw [hx] at hw
      simp only [DataW.weights, Try.underlying23, List.all_cons, Bool.and_eq_true] at hw
      have h9 := of_decide_eq_true hw.1
      rw [Try.bytesStep, List.length_map, List.length_range] at h9
      unfold reachBytes at h9
      simp only [List.length_map, List.length_range]
      omega
    by_cases h0 : len = 0
    · left; simp [h0]
    · right
      obtain ⟨b, o, spot⟩ := a
      have hs : spot = none := by
        have := World.cell?_spot (hall 0 (by omega)).1
        simpa [Addr.add] using this
      subst hs
      refine ⟨b, o, rfl, ?_⟩
      intro i hi
      simp only [List.length_map, List.length_range] at hi
      obtain ⟨c0, c1, -, -⟩ := hall i (by omega)
      obtain ⟨e0, e1⟩ := hf i hi
      have hg : ((List.range len).map f).getD i (0, 0) = f i := by simp [hi]
      rw [hg, ← e0, ← e1]
      constructor
      · rw [← c0]; congr 1; simp only [Addr.add]; split
        · rename_i h; simp [h]
        · rfl
      · rw [← c1]; congr 1

theorem open_spec_sized {H : Type} {enc : TypeId × Value → H} {w : World} {base b0 : Nat} {spare : Nat → Bool} {held : Bool} {r : Reach} {v : Value} {d : DataW H} {p : List MemPlace}
    (hv : Value.okWide Try.prog w r b0 25 v) (h : DataW.Trod enc Try.prog w base spare held 25 v d p) :
    ∃ im a cap xs, v = .agg #[.string im, .slice a xs.length cap] ∧ StepsIn w a xs ∧ xs.length ≤ 9223372036854775807 ∧ xs.length ≤ cap ∧ cap ≤ maxLen ∧ (a = none → cap = 0) ∧
      ((d.weights Try.prog 25).all (fun n => decide (n ≤ reachBytes)) = true → xs.length * 16 ≤ 140737488351232) := by
  obtain ⟨v0, v1, y0, y1, n, rfl, hd, -, h0, h1⟩ := open_agg2 Try.underlying25 (by kernel_rfl) Try.cellsSpec hv h
  obtain ⟨s, e0, -⟩ := DataW.trod_string Try.underlying9 h0
  obtain ⟨a, cap, xs, e1, hs, hl, hc1, hc2, hc3, hw⟩ := open_steps h1
  simp at e0
  refine ⟨s, a, cap, xs, by rw [e0, e1], hs, hl, hc1, hc2, hc3, fun hw2 => hw ?_⟩
  rw [hd] at hw2
  simp only [DataW.weights, Try.underlying25, List.map_cons, List.map_nil, DataW.weightsEach, List.all_append, Bool.and_eq_true] at hw2
  exact hw2.2.1

theorem open_spec {H : Type} {enc : TypeId × Value → H} {w : World} {base b0 : Nat} {spare : Nat → Bool} {held : Bool} {r : Reach} {v : Value} {d : DataW H} {p : List MemPlace}
    (hv : Value.okWide Try.prog w r b0 25 v) (h : DataW.Trod enc Try.prog w base spare held 25 v d p) :
    ∃ im a cap xs, v = .agg #[.string im, .slice a xs.length cap] ∧ StepsIn w a xs ∧ xs.length ≤ 9223372036854775807 := by
  obtain ⟨im, a, cap, xs, h1, h2, h3, -⟩ := open_spec_sized hv h
  exact ⟨im, a, cap, xs, h1, h2, h3⟩
theorem open_status {H : Type} {enc : TypeId × Value → H} {w : World} {base b0 : Nat} {spare : Nat → Bool} {held : Bool} {r : Reach} {v : Value} {d : DataW H} {p : List MemPlace}
    (hv : Value.okWide Try.prog w r b0 27 v) (h : DataW.Trod enc Try.prog w base spare held 27 v d p) :
    ∃ s : St, v = .agg #[.string s.sb, .string s.cm, .int .i64 s.ph, .int .i64 s.sp, .int .i64 s.wt, .int .i64 s.si] := by
  obtain ⟨cs, rfl, hsz⟩ := okWide_struct Try.underlying27 hv
  obtain ⟨fuel, hf⟩ := h
  obtain ⟨xs, n, -, -, hcl, hxl, hall⟩ := DataW.trod_struct Try.underlying27 hf
  have h6 : cs.size = 6 := hsz.trans Try.cellsStatus
  obtain ⟨c0, c1, c2, c3, c4, c5, rfl⟩ : ∃ a b c d e f, cs = #[a, b, c, d, e, f] := by
    obtain ⟨l⟩ := cs
    match l, h6 with
    | [a, b, c, d, e, f], _ => exact ⟨a, b, c, d, e, f, rfl⟩
  match xs, hxl with
  | [x0, x1, x2, x3, x4, x5], _ =>
    have t0 := hall 0 _ rfl
    have t1 := hall 1 _ rfl
    have t2 := hall 2 _ rfl
    have t3 := hall 3 _ rfl
    have t4 := hall 4 _ rfl
    have t5 := hall 5 _ rfl
    simp only [Value.cells, Try.cellsInt, Try.cellsStr] at t0 t1 t2 t3 t4 t5
    obtain ⟨s0, e0, -⟩ := DataW.trod_string Try.underlying9 t0
    obtain ⟨s1, e1, -⟩ := DataW.trod_string Try.underlying9 t1
    obtain ⟨i2, e2, -, -⟩ := DataW.trod_int Try.underlying3 t2
    obtain ⟨i3, e3, -, -⟩ := DataW.trod_int Try.underlying3 t3
    obtain ⟨i4, e4, -, -⟩ := DataW.trod_int Try.underlying3 t4
    obtain ⟨i5, e5, -, -⟩ := DataW.trod_int Try.underlying3 t5
    simp [Try.cellsStr, Try.cellsInt] at e0 e1 e2 e3 e4 e5
    exact ⟨⟨s0, s1, i2, i3, i4, i5⟩, by rw [e0, e1, e2, e3, e4, e5]⟩

end Go.Proofs.Ytpkgeailbifnjaa
