/- The walk of what point.Remove does at a path's end. -/
import Derived.Test.YtnbappeiebameaaGreatDoorPkM
import Derived.Test.YtnbappeiebameaaGreatDoorWout
set_option linter.all false
namespace Go.Proofs.YtnbappeiebameaaGreatDoor
open Go.RowKit
attribute [local go_sem ↓] Go.wp_at_zero Go.wp_at_succ

set_option maxRecDepth 100000 in
set_option maxHeartbeats 4000000 in
theorem rem1_no (x : V) (ka : Option Addr) (kc : Nat) (la : Option Addr) (lc : Nat) (name : ByteArray) (S : Nat → Prop) (w : World) (hl : LibAt w) (hso : x.sound) (hsz : x.size ≤ 1073741824) (hn : name.size ≤ 8000) (hin : x.In w S ka kc la lc) (hc : Hid (x.child name = none)) :
    Calls Tryz.prog 80 #[x.val ka kc la lc, .string name] w (RetV2 S x (.int .i64 3) w) := by
  have Hin := Lib.hid hin
  clear hin
  go_enter Tryz.func80, Tryz.ntmps80
  go_upto_region 1 with fail
  refine gen_world (R := fun wx => Box wx w.heap.size #[.int .i64 x.k, .int .i64 x.n, .string x.s, .slice ka x.keys.length kc, .slice la x.l.length lc] 25 ∧ Box wx (w.heap.size + 1) #[.int .i64 0, .int .i64 0, .string ⟨#[]⟩, .slice none 0 0, .slice none 0 0] 25 ∧ Ext w wx) ⟨Bxt, Bxt, Xt⟩ ?_
  rintro wa ⟨hB0, hB1, hxa⟩
  have hc0 := hB0.cells; have hf0 := hB0.free; have hl0 := hB0.lt
  go_wp2_with fail
  (refine (child_any x ka kc la lc _ name _ hso hsz (by omega) (Hin.out.ext Xt) (hl.ext Xt)).mono ?_); rintro e w1 ⟨q, rfl, -, h1⟩
  rw [hc.out]
  have hB0 := Box.ext h1 hB0
  have hB1 := Box.ext h1 hB1
  have hx1 : Ext w w1 := Xt
  clear h1 hxa hc0 hf0 hl0
  have hc0 := hB0.cells; have hf0 := hB0.free; have hl0 := hB0.lt
  have hc1 := hB1.cells; have hf1 := hB1.free; have hl1 := hB1.lt
  go_wp2_with fail
  (with_reducible apply bp_ret); (focus (go_light; simp [results, Tryz.results80, go_sem, *]; rfl))
  exact ⟨ka, kc, la, lc, rfl, (Hin.out.ext Xt).mono (fun b h _ => .inl h), Xt⟩

set_option maxRecDepth 100000 in
set_option maxHeartbeats 4000000 in
theorem rem1_obj (x : V) (ka : Option Addr) (kc : Nat) (la : Option Addr) (lc : Nat) (name : ByteArray) (S : Nat → Prop) (w : World) (hSl : Hid (∀ b, S b → b < w.heap.size)) (hl : LibAt w) (hso : x.sound) (hsz : x.size ≤ 1073741824) (hn : name.size ≤ 8000) (hin : x.In w S ka kc la lc) (i : Nat) (hc : Hid (x.child name = some i)) (h5 : x.k = 5) :
    Calls Tryz.prog 80 #[x.val ka kc la lc, .string name] w (RetV2 S (x.del name) (.int .i64 0) w) := by
  have Hin := Lib.hid hin
  have Hr := Lib.hid hso.flat.rise
  have hk5 : (x.k == 5) = true := by simpa using h5
  clear hin h5
  go_enter Tryz.func80, Tryz.ntmps80
  go_upto_region 1 with fail
  refine gen_world (R := fun wx => Box wx w.heap.size #[.int .i64 x.k, .int .i64 x.n, .string x.s, .slice ka x.keys.length kc, .slice la x.l.length lc] 25 ∧ Box wx (w.heap.size + 1) #[.int .i64 0, .int .i64 0, .string ⟨#[]⟩, .slice none 0 0, .slice none 0 0] 25 ∧ Ext w wx) ⟨Bxt, Bxt, Xt⟩ ?_
  rintro wa ⟨hB0, hB1, hxa⟩
  have hc0 := hB0.cells; have hf0 := hB0.free; have hl0 := hB0.lt
  go_wp2_with fail
  (refine (child_any x ka kc la lc _ name _ hso hsz (by omega) (Hin.out.ext Xt) (hl.ext Xt)).mono ?_); rintro e w1 ⟨q, rfl, -, h1⟩
  rw [hc.out]
  have hB0 := Box.ext h1 hB0
  have hB1 := Box.ext h1 hB1
  have hx1 : Ext w w1 := Xt
  clear h1 hxa hc0 hf0 hl0
  have hc0 := hB0.cells; have hf0 := hB0.free; have hl0 := hB0.lt
  go_wp2_with fail
  (refine (without_any x ka kc la lc name S _ hsz Hr.out (Hin.out.ext Xt)).mono ?_); rintro e w2 ⟨ka1, kc1, la1, lc1, rfl, hin1, h2⟩
  have hl1 := hB1.lt
  have hin2 : (x.del name).In w2 (fun b => S b ∨ w.heap.size + 2 ≤ b) ka1 kc1 la1 lc1 := hin1.mono (fun b h _ => by rcases h with h | h; exact .inl h; exact .inr (by (try simp at h); omega))
  have hB1 := Box.ext (w := w1) (w' := w2) Xt hB1
  have hx2 : Ext w w2 := Xt
  have Hin2 := Lib.hid hin2
  clear h2 hx1 hc0 hf0 hl0 hin1 hin2 hB0
  have hc1 := hB1.cells; have hf1 := hB1.free; have hl1 := hB1.lt
  go_wp2_with fail
  (with_reducible apply bp_ret); (focus (go_light; simp [results, Tryz.results80, go_sem, *]; rfl))
  exact ⟨ka1, kc1, la1, lc1, rfl, Hin2.out.keep (Held.kept (Held.mono (S := fun b => b ≠ w.heap.size + 1) (a := w2) Hxt (fun b h => by rcases h with h | h; (have := hSl.out b h; simp; omega); (simp; omega)))) (fun b h _ => by rcases h with h | h; exact .inl h; exact .inr (by omega)), Xt⟩

set_option maxRecDepth 100000 in
set_option maxHeartbeats 8000000 in
theorem rem1_list (x : V) (ka : Option Addr) (kc : Nat) (la : Option Addr) (lc : Nat) (name : ByteArray) (S : Nat → Prop) (w : World) (hSl : Hid (∀ b, S b → b < w.heap.size)) (hl : LibAt w) (hso : x.sound) (hsz : x.size ≤ 1073741824) (hn : name.size ≤ 8000) (hin : x.In w S ka kc la lc) (i m : Nat) (hc : Hid (x.child name = some i)) (hm : Hid (x.l.length = m + 1)) (him : i ≤ m) (h5 : x.k ≠ 5) :
    Calls Tryz.prog 80 #[.agg #[.int .i64 x.k, .int .i64 x.n, .string x.s, .slice ka x.keys.length kc, .slice la (m + 1) lc], .string name] w (RetV2 S (x.delL i) (.int .i64 0) w) := by
  have hk5 : (x.k == 5) = false := by simpa using h5
  have hm30 : m + 1 ≤ 1073741824 := by have := x.len_l; have := hm.out; omega
  obtain ⟨hok1, hok2, hst, hrw⟩ := (V.in_iff ..).1 hin
  obtain ⟨news, hnl, hnsrc, hncells⟩ := rows_cells hrw
  rw [hm.out] at hnl hnsrc hok2
  have h1c := hncells.one
  have cl : ∀ w', Ext w w' → Calls Tryz.prog 78 #[.slice la (m + 1) lc] w' fun e w'' => ∃ a' c', e = .returned (.slice a' (m + 1) c') ∧ SlOk a' (m + 1) c' ∧ w''.ownsRow w'.heap.size 25 5 (.slice a' (m + 1) c') (m + 1) news ∧ Ext w' w'' := fun w' e =>
    cloneV_row la (m + 1) lc news w' hok2 (by omega) hnl (by rcases hnsrc with h | ⟨ad, h, h'⟩; exact .inl h; exact .inr ⟨ad, h, fun j u hj => e.cell (h' j u hj)⟩) h1c
  have chd : ∀ w', Ext w w' → Calls Tryz.prog 71 #[.agg #[.int .i64 x.k, .int .i64 x.n, .string x.s, .slice ka x.keys.length kc, .slice la (m + 1) lc], .string name] w' (RetIdx (x.child name) w') := fun w' e => by
    have := child_any x ka kc la lc _ name w' hso hsz (by omega) (hin.ext e) (hl.ext e)
    rw [V.val, hm.out] at this
    exact this
  have Cl := Lib.hid cl
  have Chd := Lib.hid chd
  have H1c := Lib.hid h1c
  have Hncells := Lib.hid hncells
  have Hst := Lib.hid hst
  clear cl chd h1c hncells hst hin hnl hnsrc hrw h5
  have hi0 : (0 : Int) ≤ (i : Int) := by omega
  have hw1 : IntKind.i64.wrap ((i : Int) + 1) = (i : Int) + 1 := by rw [IntKind.wrap_i64]; omega
  go_enter Tryz.func80, Tryz.ntmps80
  go_upto_region 1 with fail
  refine gen_world (R := fun wx => Box wx w.heap.size #[.int .i64 x.k, .int .i64 x.n, .string x.s, .slice ka x.keys.length kc, .slice la (m + 1) lc] 25 ∧ Box wx (w.heap.size + 1) #[.int .i64 0, .int .i64 0, .string ⟨#[]⟩, .slice none 0 0, .slice none 0 0] 25 ∧ Ext w wx) ⟨Bxt, Bxt, Xt⟩ ?_
  rintro wa ⟨hB0, hB1, hxa⟩
  have hc0 := hB0.cells; have hf0 := hB0.free; have hl0 := hB0.lt
  go_wp2_with fail
  (refine (Chd.out _ Xt).mono ?_); rintro e w1 ⟨q, rfl, hq, h1⟩
  obtain rfl := hq i hc.out
  rw [hc.out]
  have hB0 := Box.ext h1 hB0
  have hB1 := Box.ext h1 hB1
  have hl1w : w.heap.size + 2 ≤ w1.heap.size := hB1.lt
  have hx1 : Ext w w1 := Xt
  clear h1 hxa hc0 hf0 hl0 hq
  have hc0 := hB0.cells; have hf0 := hB0.free; have hl0 := hB0.lt
  go_wp2_with fail
  (refine (Cl.out _ Xt).mono ?_); rintro e w2 ⟨a2, c2, rfl, hok3, hown2, h2⟩
  have hx2 : Ext w w2 := Xt
  have hb2 : Ext w1 w2 := Xt
  have hB0 := Box.ext hb2 hB0
  have hB1 := Box.ext hb2 hB1
  have hl1 := hB1.lt
  have Hl2 : Hid (∀ g, (Value.slice a2 (m + 1) c2).ownBlock = some g → w1.heap.size ≤ g) := fun g hg => (hown2.lt g hg).1
  have Ho2 := Lib.hid (ownsRow_base (b0 := w.heap.size + 2) hown2 hl1w)
  clear h2 hx1 hc0 hf0 hl0 hown2
  go_wp2_with fail
  (refine (delV_own _ q m c2 a2 news _ Ho2.out him H1c.out).mono ?_); rintro e w3 ⟨rfl, hown3, hgrow3⟩
  have hx3 : Ext w w3 := Ext.grown hx2 hgrow3 (fun g hg => by have := Hl2.out g hg; omega)
  have hB0 := Box.grown hB0 hgrow3 (fun e => by have := Hl2.out _ e.symm; omega)
  have hB1 := Box.grown hB1 hgrow3 (fun e => by have := Hl2.out _ e.symm; omega)
  have hok6 : SlOk a2 m c2 := by
    obtain ⟨a4, c4, he4, h⟩ := owns_form hown3
    simp only [Value.slice.injEq, true_and] at he4
    obtain ⟨rfl, rfl⟩ := he4
    exact h
  have hrows : Rows w3 (fun b => S b ∨ w.heap.size + 2 ≤ b) (x.l.take q ++ x.l.drop (q + 1)) a2 := by
    have hcc := (Hncells.out.keep (hx3.kept _) (fun b h _ => h)).del q
    by_cases hm0 : m = 0
    · refine .inl (List.eq_nil_of_length_eq_zero ?_)
      simp [hm.out]; omega
    · obtain ⟨g7, cur, he7, hgb, hBg, hcz, hits⟩ := own_items (by omega) (by simp [hm.out]; omega) hown3 hcc
      exact .inr ⟨g7, 0, he7, .inr (by omega), fun i hi => by rw [Nat.zero_add]; exact (hits i hi).mono (fun b h => .inl h)⟩
  have Hrows := Lib.hid hrows
  clear hown3 hgrow3 hrows Hl2 Ho2 hb2 hx2
  have hc0 := hB0.cells; have hf0 := hB0.free; have hl0 := hB0.lt
  go_upto_region 7 with fail
  refine gen_world (R := fun wy => Box wy w.heap.size #[.int .i64 x.k, .int .i64 x.n, .string x.s, .slice ka x.keys.length kc, .slice a2 m c2] 25 ∧ Box wy (w.heap.size + 1) #[.int .i64 0, .int .i64 0, .string ⟨#[]⟩, .slice none 0 0, .slice none 0 0] 25 ∧ Held (fun b => b ≠ w.heap.size) w3 wy ∧ Ext w wy) ⟨Bxt, Bxt, Hxt, Xt⟩ ?_
  clear hB0 hB1 hc0 hf0 hl0
  rintro wy ⟨hB0, hB1, hhy, hxy⟩
  have hc0 := hB0.cells; have hf0 := hB0.free; have hl0 := hB0.lt
  have hc1 := hB1.cells; have hf1 := hB1.free; have hl1 := hB1.lt
  go_wp2_with fail
  (with_reducible apply bp_ret); (focus (go_light; simp [results, Tryz.results80, go_sem, *]; rfl))
  have e2 : (x.l.take q ++ x.l.drop (q + 1)).length = m := by simp [hm.out]; omega
  refine ⟨ka, kc, a2, c2, ?_, (V.in_iff ..).2 ⟨hok1, ?_, Hst.out.keep (Ext.kept Xt _) (fun b h _ => .inl h), ?_⟩, Xt⟩
  · simp only [V.val, V.delL, V.keys_mk, V.l_mk, V.k_mk, V.n_mk, V.s_mk, e2]
  · simp only [V.delL, V.l_mk, e2]; exact hok6
  · have h1 : Held (fun b => b ≠ w.heap.size ∧ b ≠ w.heap.size + 1) w3 wy := hhy.mono (fun b h => h.1)
    exact Hrows.out.keep (Held.kept (Held.mono (S := fun b => b ≠ w.heap.size ∧ b ≠ w.heap.size + 1) (a := w3) Hxt (fun b h => by rcases h with h | h; (have := hSl.out b h; simp; omega); (simp; omega)))) (fun b h _ => by rcases h with h | h; exact .inl h; exact .inr (by omega))

theorem does_rem (S : Nat → Prop) (w0 : World) (hS : ∀ b, S b → b < w0.heap.size) (hl : LibAt w0) : Does remF S 80 #[] w0 := by
  intro x ka kc la lc name w' hw hso hsz hn hin
  have hSl : ∀ b, S b → b < w'.heap.size := fun b h => Nat.lt_of_lt_of_le (hS b h) hw.size
  show Calls Tryz.prog 80 #[x.val ka kc la lc, .string name] w' (RetV2 S (remF x name).1 (.int .i64 (remF x name).2) w')
  unfold remF
  cases hc : x.child name with
  | none => exact rem1_no x ka kc la lc name S w' (hl.ext hw) hso hsz hn hin hc
  | some i =>
    have hi := child_lt hso hc
    by_cases h5 : x.k = 5
    · simp only [if_pos h5]
      exact rem1_obj x ka kc la lc name S w' hSl (hl.ext hw) hso hsz hn hin i hc h5
    · simp only [if_neg h5]
      obtain ⟨m, hm⟩ : ∃ m, x.l.length = m + 1 := ⟨x.l.length - 1, by omega⟩
      have := rem1_list x ka kc la lc name S w' hSl (hl.ext hw) hso hsz hn hin i m hc hm (by omega) h5
      rw [V.val, hm]
      exact this
theorem enters_rem (args : Array Value) (w : World) : (callFunc 80 args).run Tryz.prog w = .ok (.enter 80 args) w := enters Tryz.func80 (by kernel_rfl) (by rfl) args w
end Go.Proofs.YtnbappeiebameaaGreatDoor
