/- Several texts in one. -/
import Derived.Test.YtjibdbnpkfghhaaGreatDoorCards
import Derived.Test.YtjibdbnpkfghhaaGreatDoorTie
import Derived.Deep.DeepHandedRow
import Derived.Deep.DeepWitnessRowRef
import Derived.Lib.LaidIn
import Derived.ProofKit
import Derived.Test.YtjibdbnpkfghhaaGreatDoorPkA
import Derived.Lib.SmallJoins
import Derived.Deep.Strs
import Derived.Deep.Slices
import Derived.ChangeArms
set_option linter.all false
/- A start in which the library's listed variables hold what its text lays. -/
namespace Go.Proofs.YtjibdbnpkfghhaaGreatDoor.start
def b32 : List Int := [0, 1, 28, 2, 29, 14, 24, 3, 30, 22, 20, 15, 25, 17, 4, 8, 31, 27, 13, 23, 21, 19, 16, 7, 26, 12, 18, 6, 11, 5, 10, 9]
def b64 : List Int := [0, 1, 56, 2, 57, 49, 28, 3, 61, 58, 42, 50, 38, 29, 17, 4, 62, 47, 59, 36, 45, 43, 51, 22, 53, 39, 33, 30, 24, 18, 12, 5, 63, 55, 48, 27, 60, 41, 37, 16, 46, 35, 44, 21, 52, 32, 23, 11, 54, 26, 40, 15, 34, 20, 31, 10, 25, 14, 19, 9, 13, 8, 7, 6]
def p10 : List Int := [1, 10, 100, 1000, 10000, 100000, 1000000, 10000000, 100000000, 1000000000, 10000000000, 100000000000, 1000000000000, 10000000000000, 100000000000000, 1000000000000000, 10000000000000000, 100000000000000000, 1000000000000000000, 10000000000000000000]
def acc : List Int := [128, 191, 160, 191, 128, 159, 144, 191, 128, 143, 0, 0, 0, 0, 0, 0, 0, 0, 0, 0, 0, 0, 0, 0, 0, 0, 0, 0, 0, 0, 0, 0]
def utf8z : List Int := Go.Pinned.utf8FirstZ.map Int.ofNat
noncomputable def laidWorld (os : Os) : World :=
 let N := (World.settled Tryz.prog os).heap.size
 let w0 := World.holding Tryz.prog os ⟨#[.cells #[.string ⟨#[118, 97, 108, 117, 101, 32, 111, 117, 116, 32, 111, 102, 32, 114, 97, 110, 103, 101]⟩] 218, .cells #[.string ⟨#[105, 110, 118, 97, 108, 105, 100, 32, 115, 121, 110, 116, 97, 120]⟩] 218], #[], []⟩
 let put (h : Array Obj) (g : Nat) (cs : Array Value) : Array Obj := h.modify g fun
  | .cells _ t frozen => .cells cs t frozen
  | o => o
 let h0 := put (put w0.heap 4 #[.iface 216 (.pointer (some ⟨N, 0, none⟩))]) 3 #[.iface 216 (.pointer (some ⟨N + 1, 0, none⟩))]
 let h1 := put (put (put h0 5 (p10.map (Value.int .u64)).toArray) 6 (b32.map (Value.int .u8)).toArray) 7 (b64.map (Value.int .u8)).toArray
 let h2 := put (put h1 1 (utf8z.map (Value.int .u8)).toArray) 2 (acc.map (Value.int .u8)).toArray
 { w0 with heap := h2 }
noncomputable abbrev N0 : Nat := (World.settled Tryz.prog default).heap.size
set_option maxRecDepth 1000000 in
theorem laid_in (os : Os) (args : Array Value) : LaidIn Tryz.prog ((laidWorld os).forCall (fun _ _ => 0) ⟨#[], args, []⟩).memory Rows.jsonParsesUptoRow.laid [6, 7, 5, 2, 4, N0, 3, N0 + 1, 1] :=
 LaidIn.of_run [6, 7, 5, 2, 4, N0, 3, N0 + 1, 1] 10 (by kernel_rfl) (by kernel_rfl) (by kernel_rfl) (by kernel_rfl)
theorem laid_met (os : Os) (args : Array Value) : laidMet Tryz.prog Rows.jsonParsesUptoRow.laid ((laidWorld os).forCall (fun _ _ => 0) ⟨#[], args, []⟩).memory := (laid_in os args).met
end Go.Proofs.YtjibdbnpkfghhaaGreatDoor.start
/- What came in, opened: a value. -/
namespace Go.Proofs.YtjibdbnpkfghhaaGreatDoor
open Go.ChangeShapes Go.WideShapes Go.ChangeAt Go.RowKit Go.Deep Go.Joins
open Go.ChangeMaps (open_string shut_string)
theorem Tryz.cellsValue : Tryz.prog.cellsOf 25 = 5 := by kernel_rfl
theorem Tryz.cellsStrV : Tryz.prog.cellsOf 9 = 1 := by kernel_rfl
def Old (w : World) : Nat → Prop := fun b => b < w.heap.size
theorem bulk_pos {H : Type} (d : DataW H) : 1 ≤ Rows.uptoBulk d := by
 cases d with
 | lit l => cases l <;> simp [Rows.uptoBulk]
 | nil => simp [Rows.uptoBulk]
 | ptr d => simp [Rows.uptoBulk]
 | slice elems spare => simp [Rows.uptoBulk]
 | agg parts => simp [Rows.uptoBulk]
 | iface t d => simp [Rows.uptoBulk]
 | map entries => simp [Rows.uptoBulk]
 | held h => simp [Rows.uptoBulk]
theorem bulk_sum {H : Type} (l : List (DataW H)) : Rows.uptoBulkAll l = (l.map Rows.uptoBulk).sum := by
 induction l with
 | nil => simp [Rows.uptoBulkAll]
 | cons x r ih => simp [Rows.uptoBulkAll, ih]
theorem open_texts {H : Type} {enc : TypeId × Value → H} {w : World} {base : Nat} {spare : Nat → Bool} {held : Bool} {fuel : Nat} {c : Value} {x : DataW H × List MemPlace}
  (h : DataW.trod enc Tryz.prog w base spare held fuel 22 [c] = some x) : ∃ a cap ks, c = .slice a ks.length cap ∧ SlOk a ks.length cap ∧ StrsIn w (Old w) a ks ∧ strsSize ks + 1 ≤ Rows.uptoBulk x.1 := by
 rcases open_strs Tryz.underlying22 Tryz.underlying9 Tryz.cellsStrV h with ⟨hc, hx⟩ | ⟨a, len, cap, m, Sx, hc, hb, hl, hm, hmm, hx, hall⟩
 ·simp at hc
  exact ⟨none, 0, [], hc, SlOk.nil, .inl rfl, by rw [hx]; simp [strsSize, Rows.uptoBulk]⟩
 ·have hc : c = .slice (some a) len cap := by simpa using hc
  have hlm : len ≤ m := by rw [hmm]; split <;> omega
  refine ⟨some a, cap, (List.range len).map Sx, by simpa using hc, ⟨by simpa using hl, hm, by simp⟩, ?_, ?_⟩
  ·by_cases h0 : len = 0
   ·left; simp [h0]
   ·right
    obtain ⟨b, o, spot⟩ := a
    have hs : spot = none := by
     have := World.cell?_spot (hall 0 (by omega)).1
     simpa [Addr.add] using this
    subst hs
    refine ⟨b, o, rfl, ?_, ?_⟩
    ·have := cell_lt (hall 0 (by omega)).1
     simpa [Addr.add, Old] using this
    ·intro i hi
     simp only [List.length_map, List.length_range] at hi
     have := (hall i (by omega)).1
     rw [add_plain] at this
     simpa using this
  ·rw [hx]
   simp only [Rows.uptoBulk, bulk_sum, strsSize, List.map_map]
   have : ((List.range len).map ((fun k : ByteArray => k.size + 1) ∘ Sx)).sum = ((List.range len).map (Rows.uptoBulk ∘ fun i => (DataW.lit (H := H) (.string (Sx i).data.toList)))).sum := by
    congr 1 <;> (refine List.map_congr_left fun i _ => ?_; simp [Rows.uptoBulk, ByteArray.size])
   rw [this]
   exact Nat.succ_le_succ (Nat.le_add_right _ _)
theorem sums_le {α β : Type} (l : List α) (m : List β) (f : α → Nat) (g : β → Nat) (hlen : l.length = m.length) (h : ∀ i (hi : i < l.length) (hj : i < m.length), f l[i] ≤ g m[i]) : (l.map f).sum ≤ (m.map g).sum := by
 induction l generalizing m with
 | nil => simp
 | cons y r ih =>
  cases m with
  | nil => simp at hlen
  | cons z t =>
   have a0 := h 0 (by simp) (by simp)
   have a1 := ih t (by simpa using hlen) (fun i hi hj => by have := h (i + 1) (by simpa using hi) (by simpa using hj); simpa using this)
   simp only [List.map_cons, List.sum_cons]
   simp only [List.getElem_cons_zero] at a0
   omega
theorem exists_list {α : Type} {n : Nat} {P : Nat → α → Prop} (h : ∀ i, i < n → ∃ x, P i x) : ∃ l : List α, l.length = n ∧ ∀ i (hi : i < l.length), P i l[i] := by
 induction n with
 | zero => exact ⟨[], rfl, fun i hi => by simp at hi⟩
 | succ n ih =>
  obtain ⟨l, h1, h2⟩ := ih (fun i hi => h i (by omega))
  obtain ⟨x, hx⟩ := h n (by omega)
  refine ⟨l ++ [x], by simp [h1], fun i hi => ?_⟩
  by_cases e : i < l.length
  ·rw [List.getElem_append_left e]; exact h2 i e
  ·have : i = n := by simp at hi; omega
   subst this
   rw [List.getElem_append_right (by omega)]
   simpa [h1] using hx
set_option maxRecDepth 100000 in
set_option maxHeartbeats 1000000 in
theorem open_value_cells {H : Type} {enc : TypeId × Value → H} {w : World} {base : Nat} {spare : Nat → Bool} {held : Bool} (m : Nat) : ∀ (fuel : Nat) (cs : List Value) (x : DataW H × List MemPlace), fuel ≤ m →
  DataW.trod enc Tryz.prog w base spare held fuel 25 cs = some x → ∃ (v : V) (ka : Option Addr) (kc : Nat) (la : Option Addr) (lc : Nat), cs = [.int .i64 v.k, .int .i64 v.n, .string v.s, .slice ka v.keys.length kc, .slice la v.l.length lc] ∧
   v.In w (Old w) ka kc la lc ∧ v.size ≤ Rows.uptoBulk x.1 := by
 induction m with
 | zero =>
  intro fuel cs x hf h
  have h0 : fuel = 0 := by omega
  subst h0
  unfold DataW.trod at h
  cases h
 | succ m ih =>
  intro fuel cs x hf h
  obtain ⟨xs, n, rfl, hx, hcl, hxl, hall⟩ := DataW.trod_struct Tryz.underlying25 h
  rw [Tryz.cellsValue] at hcl
  match cs, hcl with
  | [c0, c1, c2, c3, c4], _ =>
   match xs, hxl with
   | [x0, x1, x2, x3, x4], _ =>
    have t0 : DataW.trod enc Tryz.prog w base spare held n 3 [c0] = some x0 := hall 0 _ rfl
    have t1 : DataW.trod enc Tryz.prog w base spare held n 3 [c1] = some x1 := hall 1 _ rfl
    have t2 : DataW.trod enc Tryz.prog w base spare held n 9 [c2] = some x2 := hall 2 _ rfl
    have t3 : DataW.trod enc Tryz.prog w base spare held n 22 [c3] = some x3 := hall 3 _ rfl
    have t4 : DataW.trod enc Tryz.prog w base spare held n 23 [c4] = some x4 := hall 4 _ rfl
    obtain ⟨i0, e0, -, -⟩ := DataW.trod_int Tryz.underlying3 t0
    obtain ⟨i1, e1, -, -⟩ := DataW.trod_int Tryz.underlying3 t1
    obtain ⟨s, e2, f2, -⟩ := DataW.trod_string Tryz.underlying9 t2
    obtain ⟨ka, kc, ks, e3, hkc, hks, hkb⟩ := open_texts t3
    have hs : s.size + 1 = Rows.uptoBulk x2.1 := by rw [f2]; simp only [Rows.uptoBulk, Array.length_toList]; rfl
    simp only [List.cons.injEq, and_true] at e0 e1 e2
    subst e0 e1 e2 e3
    have hsum : Rows.uptoBulk x.1 = Rows.uptoBulk x0.1 + (Rows.uptoBulk x1.1 + (Rows.uptoBulk x2.1 + (Rows.uptoBulk x3.1 + (Rows.uptoBulk x4.1 + 0)))) + 1 := by
     rw [hx]; simp only [Rows.uptoBulk, bulk_sum, List.map_cons, List.map_nil, List.sum_cons, List.sum_nil]
    have h0 := bulk_pos x0.1
    rcases DataW.trod_slice Tryz.underlying23 t4 with ⟨hc, hy⟩ | ⟨a, len, cap, elems, rest, k, hk, hc, hy, hb, hl, hm, hlen, hel, -, -⟩
    ·simp only [List.cons.injEq, and_true] at hc
     subst hc
     refine ⟨.mk i0 i1 s ks [], ka, kc, none, 0, rfl, ?_, ?_⟩
     ·rw [V.in_iff]; exact ⟨hkc, SlOk.nil, hks, .inl rfl⟩
     ·rw [hsum, V.size_eq]
      simp only [V.s_mk, V.keys_mk, V.l_mk, List.map_nil, List.sum_nil]
      omega
    ·simp only [List.cons.injEq, and_true] at hc
     subst hc
     obtain ⟨b, o, sp⟩ := a
     simp only at hb hm hel
     have took : ∀ i, i < len → ∃ cs' v ka' kc' la' lc', w.cells? base ((⟨b, o, sp⟩ : Addr).add (i * 5)) 5 = some cs' ∧ cs' = [.int .i64 (V.k v), .int .i64 v.n, .string v.s, .slice ka' v.keys.length kc', .slice la' v.l.length lc'] ∧ v.In w (Old w) ka' kc' la' lc' ∧
       (∀ hi : i < elems.length, v.size ≤ Rows.uptoBulk (elems[i]).1) := by
      intro i hi
      have he := hel i hi
      rw [List.getElem?_eq_getElem (by omega), Tryz.cellsValue] at he
      obtain ⟨cs', h1, h2⟩ := Option.bind_eq_some_iff.1 he
      obtain ⟨v, ka', kc', la', lc', hcs, hin, hv⟩ := ih k cs' _ (by omega) h2
      exact ⟨cs', v, ka', kc', la', lc', h1, hcs, hin, fun _ => hv⟩
     have hsp : 0 < len → sp = none := by
      intro h
      obtain ⟨cs', v, ka', kc', la', lc', h1, rfl, -⟩ := took 0 h
      obtain ⟨_, _, hcell⟩ := World.cells?_some h1
      have := World.cell?_spot (hcell 0 (by omega))
      simpa [Addr.add] using this
     have each : ∀ i, i < len → ∃ v : V, V.Item w (Old w) b (o + i * 5) v ∧ sp = none ∧ b < w.heap.size ∧ (∀ hi : i < elems.length, v.size ≤ Rows.uptoBulk (elems[i]).1) := by
      intro i hi
      have hsp' := hsp (by omega)
      subst hsp'
      obtain ⟨cs', v, ka', kc', la', lc', h1, rfl, hin, hv⟩ := took i hi
      obtain ⟨_, _, hcell⟩ := World.cells?_some h1
      have g := fun j (hj : j < 5) => hcell j hj
      simp only [Addr.add_lit] at g
      have g0 := g 0 (by omega)
      have g1 := g 1 (by omega)
      have g2 := g 2 (by omega)
      have g3 := g 3 (by omega)
      have g4 := g 4 (by omega)
      simp only [Nat.add_zero, List.getElem?_cons_zero, List.getElem?_cons_succ] at g0 g1 g2 g3 g4
      have hlt := cell_lt g0
      exact ⟨v, ⟨ka', kc', la', lc', ⟨g0, g1, g2, g3, g4⟩, hin⟩, rfl, hlt, hv⟩
     obtain ⟨l, hl1, hl2⟩ := exists_list each
     subst hl1
     refine ⟨.mk i0 i1 s ks l, ka, kc, some ⟨b, o, sp⟩, cap, rfl, ?_, ?_⟩
     ·rw [V.in_iff]
      refine ⟨hkc, ⟨hl, hm, by simp⟩, hks, ?_⟩
      by_cases h0 : l = []
      ·exact .inl h0
      ·have hpos := List.length_pos_iff.2 h0
       obtain ⟨-, hsp, hlt, -⟩ := hl2 0 hpos
       subst hsp
       exact .inr ⟨b, o, rfl, hlt, fun i hi => (hl2 i hi).1⟩
     ·rw [hsum, V.size_eq]
      have hle : (l.map V.size).sum ≤ ((elems.map (·.1)).map Rows.uptoBulk).sum := by
       have h2 : ∀ i (hi : i < l.length) (hj : i < elems.length), (l[i]).size ≤ Rows.uptoBulk (elems[i]).1 := fun i hi hj => (hl2 i hi).2.2.2 hj
       exact sums_le l (elems.map (·.1)) V.size Rows.uptoBulk (by simp [hlen]) (fun i hi hj => by have := h2 i hi (by simpa using hj); simpa using this)
      have h4 : Rows.uptoBulk x4.1 ≥ 1 + ((elems.map (·.1)).map Rows.uptoBulk).sum := by
       have : x4.1 = .slice (elems.map (·.1)) (rest.map (·.1)) := by rw [hy]
       rw [this]; simp only [Rows.uptoBulk, bulk_sum]; omega
      simp only [V.s_mk, V.keys_mk, V.l_mk]
      omega
set_option maxRecDepth 100000 in
theorem open_value {H : Type} {enc : TypeId × Value → H} {w : World} {base b0 : Nat} {spare : Nat → Bool} {held : Bool} {r : Reach} {v : Value} {d : DataW H} {p : List MemPlace}
  (hv : Value.okWide Tryz.prog w r b0 25 v) (h : DataW.Trod enc Tryz.prog w base spare held 25 v d p) :
  ∃ (x : V) (ka : Option Addr) (kc : Nat) (la : Option Addr) (lc : Nat), v = x.val ka kc la lc ∧ x.In w (Old w) ka kc la lc ∧ x.size ≤ Rows.uptoBulk d := by
 obtain ⟨cs, rfl, hsz⟩ := okWide_struct Tryz.underlying25 hv
 obtain ⟨fuel, hf⟩ := h
 obtain ⟨x, ka, kc, la, lc, hc, hin, hs⟩ := open_value_cells fuel fuel _ _ (Nat.le_refl _) hf
 refine ⟨x, ka, kc, la, lc, ?_, hin, hs⟩
 simp only [Value.cells] at hc
 rw [V.val, ← hc]
end Go.Proofs.YtjibdbnpkfghhaaGreatDoor
