/- What came in, opened: owners. -/
import Derived.Test.YtjibdbnpkfghhaaGreatDoorPkL
import Derived.Test.YtjibdbnpkfghhaaGreatDoorPkQ
set_option linter.all false
namespace Go.Proofs.YtjibdbnpkfghhaaGreatDoor
open Go.ChangeShapes Go.WideShapes Go.ChangeAt Go.RowKit Go.Deep Go.Joins
open Go.ChangeMaps (open_string shut_string)

theorem Tryz.cellsOw : Tryz.prog.cellsOf 42 = 2 := by kernel_rfl
set_option maxRecDepth 100000 in
set_option maxHeartbeats 1000000 in
theorem open_ow_cells {H : Type} {enc : TypeId × Value → H} {w : World} {base : Nat} {spare : Nat → Bool} {held : Bool} {fuel : Nat} {cs : List Value} {x : DataW H × List MemPlace}
    (h : DataW.trod enc Tryz.prog w base spare held fuel 42 cs = some x) : ∃ (o : Ow) (pa : Option Addr) (pc : Nat), cs = [.string o.name, .slice pa o.paths.length pc] ∧ SlOk pa o.paths.length pc ∧
      StrsIn w (Old w) pa o.paths ∧ o.size ≤ Rows.uptoBulk x.1 := by
  obtain ⟨xs, n, rfl, hx, hcl, hxl, hall⟩ := DataW.trod_struct Tryz.underlying42 h
  rw [Tryz.cellsOw] at hcl
  match cs, hcl with
  | [c0, c1], _ =>
    match xs, hxl with
    | [x0, x1], _ =>
      have t0 : DataW.trod enc Tryz.prog w base spare held n 9 [c0] = some x0 := hall 0 _ rfl
      have t1 : DataW.trod enc Tryz.prog w base spare held n 22 [c1] = some x1 := hall 1 _ rfl
      obtain ⟨s0, e0, f0, -⟩ := DataW.trod_string Tryz.underlying9 t0
      obtain ⟨pa, pc, ks, e1, hok, hin, hv⟩ := open_texts t1
      have h0 : s0.size + 1 = Rows.uptoBulk x0.1 := by rw [f0]; simp only [Rows.uptoBulk, Array.length_toList]; rfl
      simp only [List.cons.injEq, and_true] at e0
      subst e0 e1
      have hsum : Rows.uptoBulk x.1 = Rows.uptoBulk x0.1 + (Rows.uptoBulk x1.1 + 0) + 1 := by
        rw [hx]; simp only [Rows.uptoBulk, bulk_sum, List.map_cons, List.map_nil, List.sum_cons, List.sum_nil]
      exact ⟨⟨s0, ks⟩, pa, pc, rfl, hok, hin, by unfold Ow.size; simp only; omega⟩
set_option maxHeartbeats 1000000 in
theorem open_ows {H : Type} {enc : TypeId × Value → H} {w : World} {base : Nat} {spare : Nat → Bool} {held : Bool} {fuel : Nat} {c : Value} {x : DataW H × List MemPlace}
    (h : DataW.trod enc Tryz.prog w base spare held fuel 32 [c] = some x) : ∃ a cap l, c = .slice a l.length cap ∧ SlOk a l.length cap ∧ OwsIn w (Old w) l a ∧ owsSize l + 1 ≤ Rows.uptoBulk x.1 := by
  rcases DataW.trod_slice Tryz.underlying32 h with ⟨hc, hy⟩ | ⟨a, len, cap, elems, rest, k, hk, hc, hy, hb, hl, hm, hlen, hel, -, -⟩
  · simp only [List.cons.injEq, and_true] at hc
    exact ⟨none, 0, [], hc, SlOk.nil, .inl rfl, by have := bulk_pos x.1; simpa [owsSize] using this⟩
  · simp only [List.cons.injEq, and_true] at hc
    subst hc
    obtain ⟨b, o, sp⟩ := a
    simp only at hb hm hel
    have took : ∀ i, i < len → ∃ cs' v pa pc, w.cells? base ((⟨b, o, sp⟩ : Addr).add (i * 2)) 2 = some cs' ∧ cs' = [.string (Ow.name v), .slice pa v.paths.length pc] ∧ SlOk pa v.paths.length pc ∧ StrsIn w (Old w) pa v.paths ∧
        (∀ hi : i < elems.length, v.size ≤ Rows.uptoBulk (elems[i]).1) := by
      intro i hi
      have he := hel i hi
      rw [List.getElem?_eq_getElem (by omega), Tryz.cellsOw] at he
      obtain ⟨cs', h1, h2⟩ := Option.bind_eq_some_iff.1 he
      obtain ⟨v, pa, pc, hcs, hok, hin, hv⟩ := open_ow_cells h2
      exact ⟨cs', v, pa, pc, h1, hcs, hok, hin, fun _ => hv⟩
    have hsp : 0 < len → sp = none := by
      intro h
      obtain ⟨cs', v, pa, pc, h1, rfl, -⟩ := took 0 h
      obtain ⟨_, _, hcell⟩ := World.cells?_some h1
      have := World.cell?_spot (hcell 0 (by omega))
      simpa [Addr.add] using this
    have each : ∀ i, i < len → ∃ v : Ow, Ow.Item w (Old w) b (o + i * 2) v ∧ sp = none ∧ b < w.heap.size ∧ (∀ hi : i < elems.length, v.size ≤ Rows.uptoBulk (elems[i]).1) := by
      intro i hi
      have hsp' := hsp (by omega)
      subst hsp'
      obtain ⟨cs', v, pa, pc, h1, rfl, hok, hin, hv⟩ := took i hi
      obtain ⟨_, _, hcell⟩ := World.cells?_some h1
      have g := fun j (hj : j < 2) => hcell j hj
      simp only [Addr.add_lit] at g
      have g0 := g 0 (by omega)
      have g1 := g 1 (by omega)
      simp only [Nat.add_zero, List.getElem?_cons_zero, List.getElem?_cons_succ] at g0 g1
      have hlt := cell_lt g0
      exact ⟨v, ⟨pa, pc, g0, g1, hok, hin⟩, rfl, hlt, hv⟩
    obtain ⟨l, hl1, hl2⟩ := exists_list each
    subst hl1
    refine ⟨some ⟨b, o, sp⟩, cap, l, rfl, ⟨hl, hm, by simp⟩, ?_, ?_⟩
    · by_cases h0 : l = []
      · exact .inl h0
      · have hpos := List.length_pos_iff.2 h0
        obtain ⟨-, hsp, hlt, -⟩ := hl2 0 hpos
        subst hsp
        exact .inr ⟨b, o, rfl, hlt, fun i hi => (hl2 i hi).1⟩
    · have hle : (l.map Ow.size).sum ≤ ((elems.map (·.1)).map Rows.uptoBulk).sum := by
        have h2 : ∀ i (hi : i < l.length) (hj : i < elems.length), (l[i]).size ≤ Rows.uptoBulk (elems[i]).1 := fun i hi hj => (hl2 i hi).2.2.2 hj
        exact sums_le l (elems.map (·.1)) Ow.size Rows.uptoBulk (by simp [hlen]) (fun i hi hj => by have := h2 i hi (by simpa using hj); simpa using this)
      have : x.1 = .slice (elems.map (·.1)) (rest.map (·.1)) := by rw [hy]
      rw [this]; unfold owsSize; simp only [Rows.uptoBulk, bulk_sum]; omega
end Go.Proofs.YtjibdbnpkfghhaaGreatDoor
