/- What came in, opened: operations of a patch. -/
import Derived.Test.YtnbappeiebameaaGreatDoorPkL
import Derived.Test.YtnbappeiebameaaGreatDoorPatchP
set_option linter.all false
namespace Go.Proofs.YtnbappeiebameaaGreatDoor
open Go.ChangeShapes Go.WideShapes Go.ChangeAt Go.RowKit Go.Deep Go.Joins
open Go.ChangeMaps (open_string shut_string)

theorem Tryz.cellsOp : Tryz.prog.cellsOf 49 = 8 := by kernel_rfl
/-- An operation's eight cells, and what they lead to. -/
def OpItem (w : World) (S : Nat → Prop) (b o : Nat) (x : OpV) : Prop :=
  w.cell? ⟨b, o, none⟩ = some (.int .i64 x.k) ∧ w.cell? ⟨b, o + 1, none⟩ = some (.string x.p) ∧ w.cell? ⟨b, o + 2, none⟩ = some (.string x.f) ∧ V.Item w S b (o + 3) x.v
/-- Operations lie behind a slice's address. -/
def OpsIn (w : World) (S : Nat → Prop) (a : Option Addr) (l : List OpV) : Prop :=
  l = [] ∨ ∃ b o, a = some ⟨b, o, none⟩ ∧ S b ∧ ∀ i (h : i < l.length), OpItem w S b (o + i * 8) l[i]
theorem OpItem.ext {S : Nat → Prop} {w w' : World} {b o : Nat} {x : OpV} (h : OpItem w S b o x) (e : Ext w w') : OpItem w' S b o x :=
  ⟨e.cell h.1, e.cell h.2.1, e.cell h.2.2.1, h.2.2.2.ext e⟩
theorem OpsIn.ext {S : Nat → Prop} {w w' : World} {a : Option Addr} {l : List OpV} (h : OpsIn w S a l) (e : Ext w w') : OpsIn w' S a l := by
  rcases h with h | ⟨b, o, rfl, hS, hr⟩
  · exact .inl h
  · exact .inr ⟨b, o, rfl, hS, fun i hi => (hr i hi).ext e⟩
theorem V.Item.mono' {S T : Nat → Prop} {w : World} {b o : Nat} {x : V} (h : V.Item w S b o x) (hT : ∀ b, S b → T b) : V.Item w T b o x := by
  obtain ⟨ka, kc, la, lc, hc, hin⟩ := h
  exact ⟨ka, kc, la, lc, hc, hin.mono (fun b h _ => hT b h)⟩
theorem OpsIn.mono {S T : Nat → Prop} {w : World} {a : Option Addr} {l : List OpV} (h : OpsIn w S a l) (hT : ∀ b, S b → T b) : OpsIn w T a l := by
  rcases h with h | ⟨b, o, rfl, hS, hr⟩
  · exact .inl h
  · exact .inr ⟨b, o, rfl, hT b hS, fun i hi => ⟨(hr i hi).1, (hr i hi).2.1, (hr i hi).2.2.1, (hr i hi).2.2.2.mono' hT⟩⟩
/-- How much there is in one. -/
def OpV.size (x : OpV) : Nat := 1 + x.p.size + x.f.size + x.v.size

set_option maxRecDepth 100000 in
set_option maxHeartbeats 1000000 in
theorem open_op_cells {H : Type} {enc : TypeId × Value → H} {w : World} {base : Nat} {spare : Nat → Bool} {held : Bool} {fuel : Nat} {cs : List Value} {x : DataW H × List MemPlace}
    (h : DataW.trod enc Tryz.prog w base spare held fuel 49 cs = some x) : ∃ (o : OpV) (ka : Option Addr) (kc : Nat) (la : Option Addr) (lc : Nat), cs = [.int .i64 o.k, .string o.p, .string o.f, .int .i64 o.v.k, .int .i64 o.v.n, .string o.v.s, .slice ka o.v.keys.length kc, .slice la o.v.l.length lc] ∧
      o.v.In w (Old w) ka kc la lc ∧ o.size ≤ Rows.uptoBulk x.1 := by
  obtain ⟨xs, n, rfl, hx, hcl, hxl, hall⟩ := DataW.trod_struct Tryz.underlying49 h
  rw [Tryz.cellsOp] at hcl
  match cs, hcl with
  | [c0, c1, c2, c3, c4, c5, c6, c7], _ =>
    match xs, hxl with
    | [x0, x1, x2, x3], _ =>
      have t0 : DataW.trod enc Tryz.prog w base spare held n 3 [c0] = some x0 := hall 0 _ rfl
      have t1 : DataW.trod enc Tryz.prog w base spare held n 9 [c1] = some x1 := hall 1 _ rfl
      have t2 : DataW.trod enc Tryz.prog w base spare held n 9 [c2] = some x2 := hall 2 _ rfl
      have t3 : DataW.trod enc Tryz.prog w base spare held n 25 [c3, c4, c5, c6, c7] = some x3 := hall 3 _ rfl
      obtain ⟨i0, e0, -, -⟩ := DataW.trod_int Tryz.underlying3 t0
      obtain ⟨s1, e1, f1, -⟩ := DataW.trod_string Tryz.underlying9 t1
      obtain ⟨s2, e2, f2, -⟩ := DataW.trod_string Tryz.underlying9 t2
      obtain ⟨v, ka, kc, la, lc, e3, hin, hv⟩ := open_value_cells n n _ _ (Nat.le_refl _) t3
      have h1 : s1.size + 1 = Rows.uptoBulk x1.1 := by rw [f1]; simp only [Rows.uptoBulk, Array.length_toList]; rfl
      have h2 : s2.size + 1 = Rows.uptoBulk x2.1 := by rw [f2]; simp only [Rows.uptoBulk, Array.length_toList]; rfl
      simp only [List.cons.injEq, and_true] at e0 e1 e2 e3
      obtain ⟨q0, q1, q2, q3, q4⟩ := e3
      subst e0 e1 e2 q0 q1 q2 q3 q4
      have hsum : Rows.uptoBulk x.1 = Rows.uptoBulk x0.1 + (Rows.uptoBulk x1.1 + (Rows.uptoBulk x2.1 + (Rows.uptoBulk x3.1 + 0))) + 1 := by
        rw [hx]; simp only [Rows.uptoBulk, bulk_sum, List.map_cons, List.map_nil, List.sum_cons, List.sum_nil]
      exact ⟨⟨i0, s1, s2, v⟩, ka, kc, la, lc, rfl, hin, by unfold OpV.size; simp only; omega⟩
set_option maxHeartbeats 1000000 in
theorem open_ops {H : Type} {enc : TypeId × Value → H} {w : World} {base : Nat} {spare : Nat → Bool} {held : Bool} {fuel : Nat} {c : Value} {x : DataW H × List MemPlace}
    (h : DataW.trod enc Tryz.prog w base spare held fuel 45 [c] = some x) : ∃ a cap l, c = .slice a l.length cap ∧ SlOk a l.length cap ∧ OpsIn w (Old w) a l ∧ (l.map OpV.size).sum + 1 ≤ Rows.uptoBulk x.1 := by
  rcases DataW.trod_slice Tryz.underlying45 h with ⟨hc, hy⟩ | ⟨a, len, cap, elems, rest, k, hk, hc, hy, hb, hl, hm, hlen, hel, -, -⟩
  · simp only [List.cons.injEq, and_true] at hc
    exact ⟨none, 0, [], hc, SlOk.nil, .inl rfl, by have := bulk_pos x.1; simpa using this⟩
  · simp only [List.cons.injEq, and_true] at hc
    subst hc
    obtain ⟨b, o, sp⟩ := a
    simp only at hb hm hel
    have took : ∀ i, i < len → ∃ cs' v ka' kc' la' lc', w.cells? base ((⟨b, o, sp⟩ : Addr).add (i * 8)) 8 = some cs' ∧ cs' = [.int .i64 (OpV.k v), .string v.p, .string v.f, .int .i64 v.v.k, .int .i64 v.v.n, .string v.v.s, .slice ka' v.v.keys.length kc', .slice la' v.v.l.length lc'] ∧ v.v.In w (Old w) ka' kc' la' lc' ∧
        (∀ hi : i < elems.length, v.size ≤ Rows.uptoBulk (elems[i]).1) := by
      intro i hi
      have he := hel i hi
      rw [List.getElem?_eq_getElem (by omega), Tryz.cellsOp] at he
      obtain ⟨cs', h1, h2⟩ := Option.bind_eq_some_iff.1 he
      obtain ⟨v, ka', kc', la', lc', hcs, hin, hv⟩ := open_op_cells h2
      exact ⟨cs', v, ka', kc', la', lc', h1, hcs, hin, fun _ => hv⟩
    have hsp : 0 < len → sp = none := by
      intro h
      obtain ⟨cs', v, ka', kc', la', lc', h1, rfl, -⟩ := took 0 h
      obtain ⟨_, _, hcell⟩ := World.cells?_some h1
      have := World.cell?_spot (hcell 0 (by omega))
      simpa [Addr.add] using this
    have each : ∀ i, i < len → ∃ v : OpV, OpItem w (Old w) b (o + i * 8) v ∧ sp = none ∧ b < w.heap.size ∧ (∀ hi : i < elems.length, v.size ≤ Rows.uptoBulk (elems[i]).1) := by
      intro i hi
      have hsp' := hsp (by omega)
      subst hsp'
      obtain ⟨cs', v, ka', kc', la', lc', h1, rfl, hin, hv⟩ := took i hi
      obtain ⟨_, _, hcell⟩ := World.cells?_some h1
      have g := fun j (hj : j < 8) => hcell j hj
      simp only [Addr.add_lit] at g
      have g0 := g 0 (by omega)
      have g1 := g 1 (by omega)
      have g2 := g 2 (by omega)
      have g3 := g 3 (by omega)
      have g4 := g 4 (by omega)
      have g5 := g 5 (by omega)
      have g6 := g 6 (by omega)
      have g7 := g 7 (by omega)
      simp only [Nat.add_zero, List.getElem?_cons_zero, List.getElem?_cons_succ] at g0 g1 g2 g3 g4 g5 g6 g7
      have hlt := cell_lt g0
      exact ⟨v, ⟨g0, g1, g2, ka', kc', la', lc', ⟨g3, g4, g5, g6, g7⟩, hin⟩, rfl, hlt, hv⟩
    obtain ⟨l, hl1, hl2⟩ := exists_list each
    subst hl1
    refine ⟨some ⟨b, o, sp⟩, cap, l, rfl, ⟨hl, hm, by simp⟩, ?_, ?_⟩
    · by_cases h0 : l = []
      · exact .inl h0
      · have hpos := List.length_pos_iff.2 h0
        obtain ⟨-, hsp, hlt, -⟩ := hl2 0 hpos
        subst hsp
        exact .inr ⟨b, o, rfl, hlt, fun i hi => (hl2 i hi).1⟩
    · have hle : (l.map OpV.size).sum ≤ ((elems.map (·.1)).map Rows.uptoBulk).sum := by
        have h2 : ∀ i (hi : i < l.length) (hj : i < elems.length), (l[i]).size ≤ Rows.uptoBulk (elems[i]).1 := fun i hi hj => (hl2 i hi).2.2.2 hj
        exact sums_le l (elems.map (·.1)) OpV.size Rows.uptoBulk (by simp [hlen]) (fun i hi hj => by have := h2 i hi (by simpa using hj); simpa using this)
      have : x.1 = .slice (elems.map (·.1)) (rest.map (·.1)) := by rw [hy]
      rw [this]; simp only [Rows.uptoBulk, bulk_sum]; omega
end Go.Proofs.YtnbappeiebameaaGreatDoor
