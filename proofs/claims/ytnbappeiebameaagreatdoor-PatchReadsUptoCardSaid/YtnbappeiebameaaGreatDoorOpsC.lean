/- A slice of operations, laid anew. -/
import Derived.Test.YtnbappeiebameaaGreatDoorOpenO
import Derived.Test.YtnbappeiebameaaGreatDoorPkG
set_option linter.all false
namespace Go.Proofs.YtnbappeiebameaaGreatDoor
open Go.RowKit

theorem Tryz.infoO : (Tryz.prog.info? 49).map (fun i => (i.zero, i.size, i.bytes)) = some (some (.agg #[.int .i64 0, .string ⟨#[]⟩, .string ⟨#[]⟩, .int .i64 0, .int .i64 0, .string ⟨#[]⟩, .slice none 0 0, .slice none 0 0]), 8, 120) := by kernel_rfl
def OpV.eight (o : OpV) (ka : Option Addr) (kc : Nat) (la : Option Addr) (lc : Nat) : List Value := [.int .i64 o.k, .string o.p, .string o.f, .int .i64 o.v.k, .int .i64 o.v.n, .string o.v.s, .slice ka o.v.keys.length kc, .slice la o.v.l.length lc]
/-- Cells that read as operations. -/
def OpCells (w : World) (T : Nat → Prop) : List OpV → List Value → Prop
  | [], xs => xs = []
  | x :: r, xs => ∃ ka kc la lc t, xs = x.eight ka kc la lc ++ t ∧ x.v.In w T ka kc la lc ∧ OpCells w T r t
theorem OpCells.keep {S T : Nat → Prop} {w w' : World} {l : List OpV} {xs : List Value} (h : OpCells w S l xs) (hk : Kept S w w') (hT : ∀ b, S b → b < w.heap.size → T b) : OpCells w' T l xs := by
  induction l generalizing xs with
  | nil => exact h
  | cons x r ih =>
    obtain ⟨ka, kc, la, lc, t, rfl, h1, h2⟩ := h
    exact ⟨ka, kc, la, lc, t, rfl, h1.keep hk hT, ih h2⟩
theorem OpCells.one {w : World} {T : Nat → Prop} {l : List OpV} {xs : List Value} (h : OpCells w T l xs) : ∀ u ∈ xs, u.oneCell' = true := by
  induction l generalizing xs with
  | nil => subst h; simp
  | cons y r ih =>
    obtain ⟨a, b, c, d, t, rfl, h1, h2⟩ := h
    intro u hu
    rcases List.mem_append.1 hu with hu | hu
    · simp only [OpV.eight, List.mem_cons, List.not_mem_nil, or_false] at hu
      rcases hu with rfl | rfl | rfl | rfl | rfl | rfl | rfl | rfl <;> rfl
    · exact ih h2 u hu
theorem OpCells.item {w : World} {T : Nat → Prop} {l : List OpV} {xs : List Value} (h : OpCells w T l xs) : ∀ i (hi : i < l.length), ∃ ka kc la lc, (∀ q u, (l[i].eight ka kc la lc)[q]? = some u → xs[i * 8 + q]? = some u) ∧ l[i].v.In w T ka kc la lc := by
  induction l generalizing xs with
  | nil => intro i hi; simp at hi
  | cons y r ih =>
    obtain ⟨a, b, c, d, t, rfl, h1, h2⟩ := h
    intro i hi
    match i with
    | 0 =>
      refine ⟨a, b, c, d, fun q u hq => ?_, by simpa using h1⟩
      have hlt : q < (y.eight a b c d).length := by
        have := (List.getElem?_eq_some_iff.1 hq).1
        simpa using this
      simp only [List.getElem_cons_zero] at hq
      rw [Nat.zero_mul, Nat.zero_add, List.getElem?_append_left hlt]; exact hq
    | i + 1 =>
      obtain ⟨ka, kc, la, lc, hc, hin⟩ := ih h2 i (by simpa using hi)
      refine ⟨ka, kc, la, lc, fun q u hq => ?_, by simpa using hin⟩
      have := hc q u (by simpa using hq)
      rw [List.getElem?_append_right (by simp [OpV.eight]; omega)]
      rw [show (i + 1) * 8 + q - (y.eight a b c d).length = i * 8 + q from by simp [OpV.eight]; omega]
      exact this
theorem ops_cells {w : World} {S : Nat → Prop} {l : List OpV} {a : Option Addr} (h : OpsIn w S a l) : ∃ xs, xs.length = l.length * 8 ∧ (l.length = 0 ∨ ∃ ad, a = some ad ∧ ∀ j u, xs[j]? = some u → w.cell? (ad.add j) = some u) ∧ OpCells w S l xs := by
  rcases h with rfl | ⟨b, o, rfl, hS, hr⟩
  · exact ⟨[], rfl, .inl rfl, rfl⟩
  · have aux : ∀ (l : List OpV) (o : Nat), (∀ i (h : i < l.length), OpItem w S b (o + i * 8) l[i]) → ∃ xs, xs.length = l.length * 8 ∧ (∀ j u, xs[j]? = some u → w.cell? ⟨b, o + j, none⟩ = some u) ∧ OpCells w S l xs := by
      intro l
      induction l with
      | nil => exact fun o _ => ⟨[], rfl, fun j u hj => by simp at hj, rfl⟩
      | cons x r ih =>
        intro o hr
        obtain ⟨c0, c1, c2, ka, kc, la, lc, ⟨c3, c4, c5, c6, c7⟩, hin⟩ := hr 0 (by simp)
        obtain ⟨xs, h1, h2, h3⟩ := ih (o + 8) (fun i hi => by
          have := hr (i + 1) (by simpa using hi)
          rw [List.getElem_cons_succ, show o + (i + 1) * 8 = o + 8 + i * 8 from by omega] at this
          exact this)
        simp only [Nat.zero_mul, Nat.add_zero, List.getElem_cons_zero] at c0 c1 c2 c3 c4 c5 c6 c7 hin
        refine ⟨x.eight ka kc la lc ++ xs, by simp [h1, OpV.eight]; omega, ?_, ⟨ka, kc, la, lc, xs, rfl, hin, h3⟩⟩
        intro j u hj
        match j with
        | 0 => simp [OpV.eight] at hj; subst hj; exact c0
        | 1 => simp [OpV.eight] at hj; subst hj; exact c1
        | 2 => simp [OpV.eight] at hj; subst hj; exact c2
        | 3 => simp [OpV.eight] at hj; subst hj; exact c3
        | 4 => simp [OpV.eight] at hj; subst hj; exact c4
        | 5 => simp [OpV.eight] at hj; subst hj; exact c5
        | 6 => simp [OpV.eight] at hj; subst hj; exact c6
        | 7 => simp [OpV.eight] at hj; subst hj; exact c7
        | j + 8 =>
          have : xs[j]? = some u := by simpa [OpV.eight] using hj
          have := h2 j u this
          rwa [show o + 8 + j = o + (j + 8) by omega] at this
    obtain ⟨xs, h1, h2, h3⟩ := aux l o hr
    exact ⟨xs, h1, .inr ⟨_, rfl, fun j u hj => by rw [Addr.add_lit]; exact h2 j u hj⟩, h3⟩
/-- What has been laid anew, as a slice of operations. -/
theorem ops_own {w : World} {base n c : Nat} {T : Nat → Prop} {a : Option Addr} {l : List OpV} {xs : List Value} (hn : l.length = n) (h : w.ownsRow base 49 8 (.slice a n c) n xs) (hc : OpCells w T l xs) : OpsIn w (fun q => T q ∨ base ≤ q) a l := by
  obtain ⟨hl, h1⟩ := h
  rcases h1 with ⟨hv, hn0⟩ | ⟨g, cap, cur, hv, hb, hg, hnc, hcm, hcs, ht⟩
  · exact .inl (List.length_eq_zero_iff.1 (by omega))
  · simp only [Value.slice.injEq, true_and] at hv
    obtain ⟨rfl, rfl⟩ := hv
    refine .inr ⟨g, 0, rfl, .inr hb, ?_⟩
    intro i hi
    obtain ⟨ka, kc, la, lc, hq, hin⟩ := hc.item i hi
    have hx : ∀ j u, xs[j]? = some u → w.cell? ⟨g, j, none⟩ = some u := by
      intro j u hj
      rw [cell_of_row w g j cur _ _ hg]
      rw [← ht] at hj
      rw [List.getElem?_take] at hj
      split at hj
      · simpa using hj
      · cases hj
    rw [Nat.zero_add]
    exact ⟨hx _ _ (hq 0 _ rfl), hx _ _ (hq 1 _ rfl), hx _ _ (hq 2 _ rfl), ka, kc, la, lc, ⟨hx _ _ (hq 3 _ rfl), hx _ _ (hq 4 _ rfl), hx _ _ (hq 5 _ rfl), hx _ _ (hq 6 _ rfl), hx _ _ (hq 7 _ rfl)⟩, hin.mono (fun b hb _ => .inl hb)⟩
theorem opcells_old {w : World} {S : Nat → Prop} {l : List OpV} {xs : List Value} (h : OpCells w S l xs) : OpCells w (fun q => q < w.heap.size) l xs := h.keep (fun _ _ _ => rfl) fun _ _ hl => hl
end Go.Proofs.YtnbappeiebameaaGreatDoor
