/- Slices of values and of texts that the call itself makes, an item at a time. -/
import Derived.Test.YtknnflobpjppfaaDoorVal
import Derived.Deep.AppendLies
import Derived.Deep.RegionHeld3
import Derived.Deep.DrawnRows
import Derived.Laws.AppendOwnNone
import Derived.OwnWalk
set_option linter.all false
namespace Go.Proofs.YtknnflobpjppfaaDoor
open Go.RowKit

theorem Tryd.infoV : (Tryd.prog.info? 33).map (fun i => (i.zero, i.size, i.bytes)) = some (some (.agg #[.int .i64 0, .int .i64 0, .string ⟨#[]⟩, .slice none 0 0, .slice none 0 0]), 5, 80) := by kernel_rfl
theorem Tryd.infoS : (Tryd.prog.info? 9).map (fun i => (i.zero, i.size, i.bytes)) = some (some (.string ⟨#[]⟩), 1, 16) := by kernel_rfl

/-- Cells that read as values, what they lead to in blocks of T. -/
def CellsOf (w : World) (T : Nat → Prop) : List V → List Value → Prop
  | [], xs => xs = []
  | x :: r, xs => ∃ ka kc la lc t, xs = .int .i64 x.k :: .int .i64 x.n :: .string x.s :: .slice ka x.keys.length kc :: .slice la x.l.length lc :: t ∧ x.In w T ka kc la lc ∧ CellsOf w T r t
theorem CellsOf.keep {S T : Nat → Prop} {w w' : World} {l : List V} {xs : List Value} (h : CellsOf w S l xs) (hk : Kept S w w') (hT : ∀ b, S b → b < w.heap.size → T b) : CellsOf w' T l xs := by
  induction l generalizing xs with
  | nil => exact h
  | cons x r ih =>
    obtain ⟨ka, kc, la, lc, t, rfl, h1, h2⟩ := h
    exact ⟨ka, kc, la, lc, t, rfl, h1.keep hk hT, ih h2⟩
theorem CellsOf.snoc {w : World} {T : Nat → Prop} {l : List V} {xs : List Value} (h : CellsOf w T l xs) {x : V} {ka : Option Addr} {kc : Nat} {la : Option Addr} {lc : Nat} (hx : x.In w T ka kc la lc) :
    CellsOf w T (l ++ [x]) (xs ++ [.int .i64 x.k, .int .i64 x.n, .string x.s, .slice ka x.keys.length kc, .slice la x.l.length lc]) := by
  induction l generalizing xs with
  | nil => subst h; exact ⟨ka, kc, la, lc, [], rfl, hx, rfl⟩
  | cons y r ih =>
    obtain ⟨a, b, c, d, t, rfl, h1, h2⟩ := h
    exact ⟨a, b, c, d, _, rfl, h1, ih h2⟩
theorem CellsOf.len {w : World} {T : Nat → Prop} {l : List V} {xs : List Value} (h : CellsOf w T l xs) : xs.length = l.length * 5 := by
  induction l generalizing xs with
  | nil => subst h; rfl
  | cons y r ih =>
    obtain ⟨a, b, c, d, t, rfl, h1, h2⟩ := h
    have := ih h2
    simp only [List.length_cons, this]; omega
theorem CellsOf.item {w : World} {T : Nat → Prop} {l : List V} {xs : List Value} (h : CellsOf w T l xs) : ∀ i (hi : i < l.length), ∃ ka kc la lc, (xs[i * 5]? = some (.int .i64 l[i].k) ∧ xs[i * 5 + 1]? = some (.int .i64 l[i].n) ∧ xs[i * 5 + 2]? = some (.string l[i].s) ∧
    xs[i * 5 + 3]? = some (.slice ka l[i].keys.length kc) ∧ xs[i * 5 + 4]? = some (.slice la l[i].l.length lc)) ∧ l[i].In w T ka kc la lc := by
  induction l generalizing xs with
  | nil => intro i hi; simp at hi
  | cons y r ih =>
    obtain ⟨a, b, c, d, t, rfl, h1, h2⟩ := h
    intro i hi
    match i with
    | 0 => exact ⟨a, b, c, d, by simp, by simpa using h1⟩
    | i + 1 =>
      obtain ⟨ka, kc, la, lc, hc, hin⟩ := ih h2 i (by simpa using hi)
      refine ⟨ka, kc, la, lc, ?_, by simpa using hin⟩
      simp only [List.getElem_cons_succ, show (i + 1) * 5 = i * 5 + 1 + 1 + 1 + 1 + 1 from by omega, show i * 5 + 1 + 1 + 1 + 1 + 1 + 1 = i * 5 + 1 + 1 + 1 + 1 + 1 + 1 from rfl,
        show i * 5 + 1 + 1 + 1 + 1 + 1 + 2 = (i * 5 + 2) + 1 + 1 + 1 + 1 + 1 from by omega, show i * 5 + 1 + 1 + 1 + 1 + 1 + 3 = (i * 5 + 3) + 1 + 1 + 1 + 1 + 1 from by omega, show i * 5 + 1 + 1 + 1 + 1 + 1 + 4 = (i * 5 + 4) + 1 + 1 + 1 + 1 + 1 from by omega,
        List.getElem?_cons_succ]
      exact hc

/-- Where what a row of the call's own leads to may lie: in old memory of S, in new memory that is not the row. -/
def Foot (base : Nat) (S : Nat → Prop) (v : Value) (b : Nat) : Prop := (b < base ∧ S b) ∨ (base ≤ b ∧ v.ownBlock ≠ some b)
/-- The slice v of the call's own holds these values. -/
def OwnL (w : World) (base : Nat) (S : Nat → Prop) (v : Value) (n : Nat) (l : List V) : Prop :=
  l.length = n ∧ ∃ xs, w.ownsRow base 33 5 v n xs ∧ CellsOf w (Foot base S v) l xs
theorem OwnL.nil (w : World) (base : Nat) (S : Nat → Prop) : OwnL w base S (.slice none 0 0) 0 [] := ⟨rfl, [], World.ownsRow_nil _ _ _ _, rfl⟩

theorem ownBlock_lt {w : World} {base e size : Nat} {v : Value} {n : Nat} {xs : List Value} (h : w.ownsRow base e size v n xs) {g : Nat} (hg : v.ownBlock = some g) : base ≤ g ∧ g < w.heap.size := h.lt g hg

/-- What was there is as it was, the row too. -/
theorem OwnL.keep {w w' : World} {base : Nat} {S : Nat → Prop} {v : Value} {n : Nat} {l : List V} (h : OwnL w base S v n l) (e : ∀ b, b < w.heap.size → ((b < base ∧ S b) ∨ base ≤ b) → w'.heap[b]? = w.heap[b]?) : OwnL w' base S v n l := by
  obtain ⟨h0, xs, h1, h2⟩ := h
  refine ⟨h0, xs, ?_, h2.keep (fun b hb hlt => e b hlt (by rcases hb with hb | hb; exact .inl hb; exact .inr hb.1)) (fun _ h _ => h)⟩
  obtain ⟨hl, h1⟩ := h1
  refine ⟨hl, ?_⟩
  rcases h1 with h1 | ⟨g, cap, cur, hv, hb, hg, hr⟩
  · exact .inl h1
  · have hlt : g < w.heap.size := by
      rcases Nat.lt_or_ge g w.heap.size with h | h
      · exact h
      · rw [Array.getElem?_eq_none h] at hg; cases hg
    exact .inr ⟨g, cap, cur, hv, hb, by rw [e g hlt (.inr hb)]; exact hg, hr⟩
theorem OwnL.ext {w w' : World} {base : Nat} {S : Nat → Prop} {v : Value} {n : Nat} {l : List V} (h : OwnL w base S v n l) (e : Ext w w') : OwnL w' base S v n l := h.keep (fun b hb _ => Below.block e b hb)

/-- One more: behind the append. -/
theorem OwnL.push {w w1 : World} {base : Nat} {S : Nat → Prop} {v v' : Value} {n : Nat} {l : List V} {xs : List Value} (h0 : l.length = n) (hc : CellsOf w (Foot base S v) l xs) (hv : v.ownBlock = none ∨ ∃ g, v.ownBlock = some g ∧ base ≤ g)
    {x : V} {ka : Option Addr} {kc : Nat} {la : Option Addr} {lc : Nat} (hx : x.In w (Foot base S v) ka kc la lc)
    (hown : w1.ownsRow base 33 5 v' (n + 1) (xs ++ [.int .i64 x.k, .int .i64 x.n, .string x.s, .slice ka x.keys.length kc, .slice la x.l.length lc])) (hgrow : w.grownBy w1 v.ownBlock)
    (g : Nat) (hv' : v'.ownBlock = some g) (hat : v.ownBlock = some g ∨ g = w.heap.size) : OwnL w1 base S v' (n + 1) (l ++ [x]) := by
  refine ⟨by simp [h0], _, hown, ?_⟩
  have hk : Kept (Foot base S v) w w1 := by
    intro b hb hlt
    refine hgrow.block b hlt ?_
    intro he
    rcases hb with hb | hb
    · rcases hv with hv | ⟨g', hv, hg'⟩
      · rw [hv] at he; cases he
      · rw [hv] at he; simp only [Option.some.injEq] at he; omega
    · exact hb.2 he.symm
  have hT : ∀ b, Foot base S v b → b < w.heap.size → Foot base S v' b := by
    intro b hb hlt
    rcases hb with hb | hb
    · exact .inl hb
    · refine .inr ⟨hb.1, ?_⟩
      rw [hv']
      rcases hat with hat | hat
      · rw [hat] at hb; exact hb.2
      · intro he; simp only [Option.some.injEq] at he; omega
  exact (hc.keep hk hT).snoc (hx.keep hk hT)

/-- What has been gathered, as a slice of values. -/
theorem OwnL.rows {w : World} {base : Nat} {S : Nat → Prop} {v : Value} {n : Nat} {l : List V} (h : OwnL w base S v n l) :
    ∃ a cap, v = .slice a n cap ∧ SlOk a n cap ∧ l.length = n ∧ Rows w (fun b => (b < base ∧ S b) ∨ base ≤ b) l a := by
  obtain ⟨h0, xs, ⟨hl, h1⟩, h2⟩ := h
  rcases h1 with ⟨hv, hn⟩ | ⟨g, cap, cur, hv, hb, hg, hnc, hcm, hcs, ht⟩
  · subst hn
    exact ⟨none, 0, hv, SlOk.nil, h0, .inl (List.length_eq_zero_iff.1 h0)⟩
  · refine ⟨some ⟨g, 0, none⟩, cap, hv, ⟨hnc, hcm, by simp⟩, h0, .inr ⟨g, 0, rfl, .inr hb, ?_⟩⟩
    intro i hi
    obtain ⟨ka, kc, la, lc, ⟨c0, c1, c2, c3, c4⟩, hin⟩ := h2.item i hi
    have hx : ∀ j u, xs[j]? = some u → w.cell? ⟨g, j, none⟩ = some u := by
      intro j u hj
      rw [cell_of_row w g j cur _ _ hg]
      rw [← ht] at hj
      rw [List.getElem?_take] at hj
      split at hj
      · simpa using hj
      · cases hj
    refine ⟨ka, kc, la, lc, ⟨?_, ?_, ?_, ?_, ?_⟩, hin.mono (fun b hb _ => by rcases hb with hb | hb; exact .inl hb; exact .inr hb.1)⟩
    · rw [Nat.zero_add]; exact hx _ _ c0
    · rw [Nat.zero_add]; exact hx _ _ c1
    · rw [Nat.zero_add]; exact hx _ _ c2
    · rw [Nat.zero_add]; exact hx _ _ c3
    · rw [Nat.zero_add]; exact hx _ _ c4

/-- The slice v of the call's own holds these texts. -/
def OwnS (w : World) (base : Nat) (v : Value) (n : Nat) (ks : List ByteArray) : Prop := ks.length = n ∧ w.ownsRow base 9 1 v n (ks.map Value.string)
theorem OwnS.nil (w : World) (base : Nat) : OwnS w base (.slice none 0 0) 0 [] := ⟨rfl, World.ownsRow_nil _ _ _ _⟩
theorem ownsRow_keep {w w' : World} {base e size : Nat} {v : Value} {n : Nat} {xs : List Value} (h : w.ownsRow base e size v n xs) (k : ∀ b, b < w.heap.size → v.ownBlock = some b → w'.heap[b]? = w.heap[b]?) : w'.ownsRow base e size v n xs := by
  obtain ⟨hl, h1⟩ := h
  refine ⟨hl, ?_⟩
  rcases h1 with h1 | ⟨g, cap, cur, hv, hb, hg, hr⟩
  · exact .inl h1
  · have hlt : g < w.heap.size := by
      rcases Nat.lt_or_ge g w.heap.size with h | h
      · exact h
      · rw [Array.getElem?_eq_none h] at hg; cases hg
    exact .inr ⟨g, cap, cur, hv, hb, by rw [k g hlt (by rw [hv]; rfl)]; exact hg, hr⟩
theorem ownsRow_ext {w w' : World} {base e size : Nat} {v : Value} {n : Nat} {xs : List Value} (h : w.ownsRow base e size v n xs) (x : Ext w w') : w'.ownsRow base e size v n xs := ownsRow_keep h (fun b hb _ => Below.block x b hb)
theorem OwnS.ext {w w' : World} {base : Nat} {v : Value} {n : Nat} {ks : List ByteArray} (h : OwnS w base v n ks) (e : Ext w w') : OwnS w' base v n ks := ⟨h.1, ownsRow_keep h.2 (fun b hb _ => Below.block e b hb)⟩
theorem OwnS.strs {w : World} {base : Nat} {v : Value} {n : Nat} {ks : List ByteArray} (h : OwnS w base v n ks) :
    ∃ a cap, v = .slice a n cap ∧ SlOk a n cap ∧ ks.length = n ∧ StrsIn w (fun b => base ≤ b) a ks := by
  obtain ⟨h0, hl, h1⟩ := h
  rcases h1 with ⟨hv, hn⟩ | ⟨g, cap, cur, hv, hb, hg, hnc, hcm, hcs, ht⟩
  · subst hn
    exact ⟨none, 0, hv, SlOk.nil, h0, .inl (List.length_eq_zero_iff.1 h0)⟩
  · refine ⟨some ⟨g, 0, none⟩, cap, hv, ⟨hnc, hcm, by simp⟩, h0, .inr ⟨g, 0, rfl, hb, ?_⟩⟩
    intro i hi
    rw [Nat.zero_add, cell_of_row w g i cur _ _ hg]
    have : (ks.map Value.string)[i]? = some (.string ks[i]) := by simp [hi]
    rw [← ht, List.getElem?_take] at this
    split at this
    · simpa using this
    · cases this
end Go.Proofs.YtknnflobpjppfaaDoor
