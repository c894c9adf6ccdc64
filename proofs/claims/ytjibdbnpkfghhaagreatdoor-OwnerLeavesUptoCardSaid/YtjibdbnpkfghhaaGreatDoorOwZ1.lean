/- The walk of owner.Apply: where its form is bad, where there is a conflict. -/
import Derived.Test.YtjibdbnpkfghhaaGreatDoorOwY
import Derived.Test.YtjibdbnpkfghhaaGreatDoorOwG2
set_option linter.all false
namespace Go.Proofs.YtjibdbnpkfghhaaGreatDoor
open Go.RowKit
attribute [local go_sem ↓] Go.wp_at_zero Go.wp_at_succ
set_option maxRecDepth 100000 in
set_option maxHeartbeats 8000000 in
theorem apply_bad (v : V) (ka : Option Addr) (kc : Nat) (la : Option Addr) (lc : Nat) (l : List Ow) (a : Option Addr) (c : Nat) (who : ByteArray) (want : V) (kb : Option Addr) (kd : Nat) (lb : Option Addr) (ld : Nat) (force : Bool) (S : Nat → Prop) (w : World)
    (hvz : v.size ≤ 1000000000) (hwz : want.size ≤ 1000000000) (hlz : owsSize l ≤ 2097152) (hhz : who.size ≤ 1073741824) (hok : SlOk a l.length c) (hin : v.In w S ka kc la lc) (hjn : OwsIn w S l a) (hkn : want.In w S kb kd lb ld) (hm : MaxAt w) (hb : formB v l who want = false) :
    Calls Tryz.prog 15 #[v.val ka kc la lc, .slice a l.length c, .string who, want.val kb kd lb ld, .bool force] w (RetApply S (v, l, [], 1) w) := by
  have Hin := Lib.hid (hin.mono (T := fun b => S b ∧ b < w.heap.size) (fun b h hl => ⟨h, hl⟩))
  have Hjn := Lib.hid (hjn.mono (T := fun b => S b ∧ b < w.heap.size) (fun b h hl => ⟨h, hl⟩))
  have Hkn := Lib.hid (hkn.mono (T := fun b => S b ∧ b < w.heap.size) (fun b h hl => ⟨h, hl⟩))
  have Hok := Lib.hid hok
  clear hin hjn hkn hok
  have hcase : v.fine = false ∨ (v.fine = true ∧ want.fine = false) ∨ (v.fine = true ∧ want.fine = true ∧ v.k ≠ 5) ∨ (v.fine = true ∧ want.fine = true ∧ v.k = 5 ∧ want.k ≠ 5) ∨ (v.fine = true ∧ want.fine = true ∧ v.k = 5 ∧ want.k = 5 ∧ goodOws l = false) ∨ (v.fine = true ∧ want.fine = true ∧ v.k = 5 ∧ want.k = 5 ∧ goodOws l = true ∧ namedB who = false) := by
    unfold formB at hb
    cases h1 : v.fine <;> cases h2 : want.fine <;> cases h5 : goodOws l <;> cases h6 : namedB who <;> by_cases h3 : v.k = 5 <;> by_cases h4 : want.k = 5 <;> simp_all
  clear hb
  rcases hcase with hf | ⟨hf, hg⟩ | ⟨hf, hg, h3⟩ | ⟨hf, hg, h3, h4⟩ | ⟨hf, hg, h3, h4, hl⟩ | ⟨hf, hg, h3, h4, hl, hw⟩
  · skip
    have Hf := Lib.hid hf
    clear hf
    go_enter Tryz.func15, Tryz.ntmps15
    go_upto_region 1 with fail
    refine gen_world (R := fun wx => Box wx w.heap.size #[.int .i64 v.k, .int .i64 v.n, .string v.s, .slice ka v.keys.length kc, .slice la v.l.length lc] 25 ∧ Box wx (w.heap.size + 1) #[.int .i64 want.k, .int .i64 want.n, .string want.s, .slice kb want.keys.length kd, .slice lb want.l.length ld] 25 ∧ Box wx (w.heap.size + 2) #[.int .i64 0, .int .i64 0, .string ⟨#[]⟩, .slice none 0 0, .slice none 0 0] 25 ∧ Ext w wx) ⟨Bxt, Bxt, Bxt, Xt⟩ ?_
    rintro wa ⟨hB0, hB1, hB2, hxa⟩
    have hza := hB2.lt
    have hc0 := hB0.cells; have hf0 := hB0.free; have hl0 := hB0.lt
    have hc1 := hB1.cells; have hf1 := hB1.free; have hl1 := hB1.lt
    go_wp2_with fail
    (refine (fine_any v ka kc la lc _ _ (by omega) (Hin.out.ext Xt)).mono ?_)
    rw [Hf.out]
    rintro e w1 ⟨rfl, h1_⟩
    have hB0 := Box.ext (w' := w1) Xt hB0
    have hB1 := Box.ext (w' := w1) Xt hB1
    have hB2 := Box.ext (w' := w1) Xt hB2
    have hx1_ : Ext w w1 := Xt
    clear h1_ hxa hc0 hf0 hl0 hc1 hf1 hl1
    have hc0 := hB0.cells; have hf0 := hB0.free; have hl0 := hB0.lt
    have hc1 := hB1.cells; have hf1 := hB1.free; have hl1 := hB1.lt
    have hc2 := hB2.cells; have hf2 := hB2.free; have hl2 := hB2.lt
    go_wp2_with fail
    (with_reducible apply bp_ret); (focus (go_light; simp [results, Tryz.results15, go_sem, *]; rfl))
    exact ⟨ka, kc, la, lc, a, c, none, 0, rfl, V.In.keep (S := fun b => S b ∧ b < w.heap.size) (Hin.out.ext hx1_) (Held.kept (a := w1) (T := fun b => S b ∧ b < w.heap.size) Hxt) (fun b h _ => .inl h.1), Hok.out, OwsIn.keep (S := fun b => S b ∧ b < w.heap.size) (Hjn.out.ext hx1_) (Held.kept (a := w1) (T := fun b => S b ∧ b < w.heap.size) Hxt) (fun b h _ => .inl h.1), SlOk.nil, .inl rfl, Xt⟩
  · skip
    have Hf := Lib.hid hf
    clear hf
    have Hg := Lib.hid hg
    clear hg
    go_enter Tryz.func15, Tryz.ntmps15
    go_upto_region 1 with fail
    refine gen_world (R := fun wx => Box wx w.heap.size #[.int .i64 v.k, .int .i64 v.n, .string v.s, .slice ka v.keys.length kc, .slice la v.l.length lc] 25 ∧ Box wx (w.heap.size + 1) #[.int .i64 want.k, .int .i64 want.n, .string want.s, .slice kb want.keys.length kd, .slice lb want.l.length ld] 25 ∧ Box wx (w.heap.size + 2) #[.int .i64 0, .int .i64 0, .string ⟨#[]⟩, .slice none 0 0, .slice none 0 0] 25 ∧ Ext w wx) ⟨Bxt, Bxt, Bxt, Xt⟩ ?_
    rintro wa ⟨hB0, hB1, hB2, hxa⟩
    have hza := hB2.lt
    have hc0 := hB0.cells; have hf0 := hB0.free; have hl0 := hB0.lt
    have hc1 := hB1.cells; have hf1 := hB1.free; have hl1 := hB1.lt
    go_wp2_with fail
    (refine (fine_any v ka kc la lc _ _ (by omega) (Hin.out.ext Xt)).mono ?_)
    rw [Hf.out]
    rintro e w1 ⟨rfl, h1_⟩
    have hB0 := Box.ext (w' := w1) Xt hB0
    have hB1 := Box.ext (w' := w1) Xt hB1
    have hB2 := Box.ext (w' := w1) Xt hB2
    have hx1_ : Ext w w1 := Xt
    clear h1_ hxa hc0 hf0 hl0 hc1 hf1 hl1
    have hc0 := hB0.cells; have hf0 := hB0.free; have hl0 := hB0.lt
    have hc1 := hB1.cells; have hf1 := hB1.free; have hl1 := hB1.lt
    go_wp2_with fail
    (refine (fine_any want kb kd lb ld _ _ (by omega) (Hkn.out.ext Xt)).mono ?_)
    rw [Hg.out]
    rintro e w2 ⟨rfl, h2_⟩
    have hB0 := Box.ext (w' := w2) Xt hB0
    have hB1 := Box.ext (w' := w2) Xt hB1
    have hB2 := Box.ext (w' := w2) Xt hB2
    have hx2_ : Ext w w2 := Xt
    clear h2_ hx1_ hc0 hf0 hl0 hc1 hf1 hl1
    have hc0 := hB0.cells; have hf0 := hB0.free; have hl0 := hB0.lt
    have hc1 := hB1.cells; have hf1 := hB1.free; have hl1 := hB1.lt
    have hc2 := hB2.cells; have hf2 := hB2.free; have hl2 := hB2.lt
    go_wp2_with fail
    (with_reducible apply bp_ret); (focus (go_light; simp [results, Tryz.results15, go_sem, *]; rfl))
    exact ⟨ka, kc, la, lc, a, c, none, 0, rfl, V.In.keep (S := fun b => S b ∧ b < w.heap.size) (Hin.out.ext hx2_) (Held.kept (a := w2) (T := fun b => S b ∧ b < w.heap.size) Hxt) (fun b h _ => .inl h.1), Hok.out, OwsIn.keep (S := fun b => S b ∧ b < w.heap.size) (Hjn.out.ext hx2_) (Held.kept (a := w2) (T := fun b => S b ∧ b < w.heap.size) Hxt) (fun b h _ => .inl h.1), SlOk.nil, .inl rfl, Xt⟩
  · skip
    have Hf := Lib.hid hf
    clear hf
    have Hg := Lib.hid hg
    clear hg
    have h3n : (v.k != 5) = true := by simpa using h3
    clear h3
    go_enter Tryz.func15, Tryz.ntmps15
    go_upto_region 1 with fail
    refine gen_world (R := fun wx => Box wx w.heap.size #[.int .i64 v.k, .int .i64 v.n, .string v.s, .slice ka v.keys.length kc, .slice la v.l.length lc] 25 ∧ Box wx (w.heap.size + 1) #[.int .i64 want.k, .int .i64 want.n, .string want.s, .slice kb want.keys.length kd, .slice lb want.l.length ld] 25 ∧ Box wx (w.heap.size + 2) #[.int .i64 0, .int .i64 0, .string ⟨#[]⟩, .slice none 0 0, .slice none 0 0] 25 ∧ Ext w wx) ⟨Bxt, Bxt, Bxt, Xt⟩ ?_
    rintro wa ⟨hB0, hB1, hB2, hxa⟩
    have hza := hB2.lt
    have hc0 := hB0.cells; have hf0 := hB0.free; have hl0 := hB0.lt
    have hc1 := hB1.cells; have hf1 := hB1.free; have hl1 := hB1.lt
    go_wp2_with fail
    (refine (fine_any v ka kc la lc _ _ (by omega) (Hin.out.ext Xt)).mono ?_)
    rw [Hf.out]
    rintro e w1 ⟨rfl, h1_⟩
    have hB0 := Box.ext (w' := w1) Xt hB0
    have hB1 := Box.ext (w' := w1) Xt hB1
    have hB2 := Box.ext (w' := w1) Xt hB2
    have hx1_ : Ext w w1 := Xt
    clear h1_ hxa hc0 hf0 hl0 hc1 hf1 hl1
    have hc0 := hB0.cells; have hf0 := hB0.free; have hl0 := hB0.lt
    have hc1 := hB1.cells; have hf1 := hB1.free; have hl1 := hB1.lt
    go_wp2_with fail
    (refine (fine_any want kb kd lb ld _ _ (by omega) (Hkn.out.ext Xt)).mono ?_)
    rw [Hg.out]
    rintro e w2 ⟨rfl, h2_⟩
    have hB0 := Box.ext (w' := w2) Xt hB0
    have hB1 := Box.ext (w' := w2) Xt hB1
    have hB2 := Box.ext (w' := w2) Xt hB2
    have hx2_ : Ext w w2 := Xt
    clear h2_ hx1_ hc0 hf0 hl0 hc1 hf1 hl1
    have hc0 := hB0.cells; have hf0 := hB0.free; have hl0 := hB0.lt
    have hc1 := hB1.cells; have hf1 := hB1.free; have hl1 := hB1.lt
    have hc2 := hB2.cells; have hf2 := hB2.free; have hl2 := hB2.lt
    go_wp2_with fail
    (with_reducible apply bp_ret); (focus (go_light; simp [results, Tryz.results15, go_sem, *]; rfl))
    exact ⟨ka, kc, la, lc, a, c, none, 0, rfl, V.In.keep (S := fun b => S b ∧ b < w.heap.size) (Hin.out.ext hx2_) (Held.kept (a := w2) (T := fun b => S b ∧ b < w.heap.size) Hxt) (fun b h _ => .inl h.1), Hok.out, OwsIn.keep (S := fun b => S b ∧ b < w.heap.size) (Hjn.out.ext hx2_) (Held.kept (a := w2) (T := fun b => S b ∧ b < w.heap.size) Hxt) (fun b h _ => .inl h.1), SlOk.nil, .inl rfl, Xt⟩
  · skip
    have Hf := Lib.hid hf
    clear hf
    have Hg := Lib.hid hg
    clear hg
    have h3n : (v.k != 5) = false := by simpa using h3
    have h4n : (want.k != 5) = true := by simpa using h4
    clear h3 h4
    go_enter Tryz.func15, Tryz.ntmps15
    go_upto_region 1 with fail
    refine gen_world (R := fun wx => Box wx w.heap.size #[.int .i64 v.k, .int .i64 v.n, .string v.s, .slice ka v.keys.length kc, .slice la v.l.length lc] 25 ∧ Box wx (w.heap.size + 1) #[.int .i64 want.k, .int .i64 want.n, .string want.s, .slice kb want.keys.length kd, .slice lb want.l.length ld] 25 ∧ Box wx (w.heap.size + 2) #[.int .i64 0, .int .i64 0, .string ⟨#[]⟩, .slice none 0 0, .slice none 0 0] 25 ∧ Ext w wx) ⟨Bxt, Bxt, Bxt, Xt⟩ ?_
    rintro wa ⟨hB0, hB1, hB2, hxa⟩
    have hza := hB2.lt
    have hc0 := hB0.cells; have hf0 := hB0.free; have hl0 := hB0.lt
    have hc1 := hB1.cells; have hf1 := hB1.free; have hl1 := hB1.lt
    go_wp2_with fail
    (refine (fine_any v ka kc la lc _ _ (by omega) (Hin.out.ext Xt)).mono ?_)
    rw [Hf.out]
    rintro e w1 ⟨rfl, h1_⟩
    have hB0 := Box.ext (w' := w1) Xt hB0
    have hB1 := Box.ext (w' := w1) Xt hB1
    have hB2 := Box.ext (w' := w1) Xt hB2
    have hx1_ : Ext w w1 := Xt
    clear h1_ hxa hc0 hf0 hl0 hc1 hf1 hl1
    have hc0 := hB0.cells; have hf0 := hB0.free; have hl0 := hB0.lt
    have hc1 := hB1.cells; have hf1 := hB1.free; have hl1 := hB1.lt
    go_wp2_with fail
    (refine (fine_any want kb kd lb ld _ _ (by omega) (Hkn.out.ext Xt)).mono ?_)
    rw [Hg.out]
    rintro e w2 ⟨rfl, h2_⟩
    have hB0 := Box.ext (w' := w2) Xt hB0
    have hB1 := Box.ext (w' := w2) Xt hB1
    have hB2 := Box.ext (w' := w2) Xt hB2
    have hx2_ : Ext w w2 := Xt
    clear h2_ hx1_ hc0 hf0 hl0 hc1 hf1 hl1
    have hc0 := hB0.cells; have hf0 := hB0.free; have hl0 := hB0.lt
    have hc1 := hB1.cells; have hf1 := hB1.free; have hl1 := hB1.lt
    have hc2 := hB2.cells; have hf2 := hB2.free; have hl2 := hB2.lt
    go_wp2_with fail
    (with_reducible apply bp_ret); (focus (go_light; simp [results, Tryz.results15, go_sem, *]; rfl))
    exact ⟨ka, kc, la, lc, a, c, none, 0, rfl, V.In.keep (S := fun b => S b ∧ b < w.heap.size) (Hin.out.ext hx2_) (Held.kept (a := w2) (T := fun b => S b ∧ b < w.heap.size) Hxt) (fun b h _ => .inl h.1), Hok.out, OwsIn.keep (S := fun b => S b ∧ b < w.heap.size) (Hjn.out.ext hx2_) (Held.kept (a := w2) (T := fun b => S b ∧ b < w.heap.size) Hxt) (fun b h _ => .inl h.1), SlOk.nil, .inl rfl, Xt⟩
  · skip
    have Hf := Lib.hid hf
    clear hf
    have Hg := Lib.hid hg
    clear hg
    have Hl := Lib.hid hl
    clear hl
    have h3n : (v.k != 5) = false := by simpa using h3
    have h4n : (want.k != 5) = false := by simpa using h4
    clear h3 h4
    go_enter Tryz.func15, Tryz.ntmps15
    go_upto_region 1 with fail
    refine gen_world (R := fun wx => Box wx w.heap.size #[.int .i64 v.k, .int .i64 v.n, .string v.s, .slice ka v.keys.length kc, .slice la v.l.length lc] 25 ∧ Box wx (w.heap.size + 1) #[.int .i64 want.k, .int .i64 want.n, .string want.s, .slice kb want.keys.length kd, .slice lb want.l.length ld] 25 ∧ Box wx (w.heap.size + 2) #[.int .i64 0, .int .i64 0, .string ⟨#[]⟩, .slice none 0 0, .slice none 0 0] 25 ∧ Ext w wx) ⟨Bxt, Bxt, Bxt, Xt⟩ ?_
    rintro wa ⟨hB0, hB1, hB2, hxa⟩
    have hza := hB2.lt
    have hc0 := hB0.cells; have hf0 := hB0.free; have hl0 := hB0.lt
    have hc1 := hB1.cells; have hf1 := hB1.free; have hl1 := hB1.lt
    go_wp2_with fail
    (refine (fine_any v ka kc la lc _ _ (by omega) (Hin.out.ext Xt)).mono ?_)
    rw [Hf.out]
    rintro e w1 ⟨rfl, h1_⟩
    have hB0 := Box.ext (w' := w1) Xt hB0
    have hB1 := Box.ext (w' := w1) Xt hB1
    have hB2 := Box.ext (w' := w1) Xt hB2
    have hx1_ : Ext w w1 := Xt
    clear h1_ hxa hc0 hf0 hl0 hc1 hf1 hl1
    have hc0 := hB0.cells; have hf0 := hB0.free; have hl0 := hB0.lt
    have hc1 := hB1.cells; have hf1 := hB1.free; have hl1 := hB1.lt
    go_wp2_with fail
    (refine (fine_any want kb kd lb ld _ _ (by omega) (Hkn.out.ext Xt)).mono ?_)
    rw [Hg.out]
    rintro e w2 ⟨rfl, h2_⟩
    have hB0 := Box.ext (w' := w2) Xt hB0
    have hB1 := Box.ext (w' := w2) Xt hB1
    have hB2 := Box.ext (w' := w2) Xt hB2
    have hx2_ : Ext w w2 := Xt
    clear h2_ hx1_ hc0 hf0 hl0 hc1 hf1 hl1
    have hc0 := hB0.cells; have hf0 := hB0.free; have hl0 := hB0.lt
    have hc1 := hB1.cells; have hf1 := hB1.free; have hl1 := hB1.lt
    go_wp2_with fail
    (refine (goodO_any l a c _ _ hlz (Hjn.out.ext Xt) (hm.ext Xt)).mono ?_)
    rw [Hl.out]
    rintro e w3 ⟨rfl, h3_⟩
    have hB0 := Box.ext (w' := w3) Xt hB0
    have hB1 := Box.ext (w' := w3) Xt hB1
    have hB2 := Box.ext (w' := w3) Xt hB2
    have hx3_ : Ext w w3 := Xt
    clear h3_ hx2_ hc0 hf0 hl0 hc1 hf1 hl1
    have hc0 := hB0.cells; have hf0 := hB0.free; have hl0 := hB0.lt
    have hc1 := hB1.cells; have hf1 := hB1.free; have hl1 := hB1.lt
    have hc2 := hB2.cells; have hf2 := hB2.free; have hl2 := hB2.lt
    go_wp2_with fail
    (with_reducible apply bp_ret); (focus (go_light; simp [results, Tryz.results15, go_sem, *]; rfl))
    exact ⟨ka, kc, la, lc, a, c, none, 0, rfl, V.In.keep (S := fun b => S b ∧ b < w.heap.size) (Hin.out.ext hx3_) (Held.kept (a := w3) (T := fun b => S b ∧ b < w.heap.size) Hxt) (fun b h _ => .inl h.1), Hok.out, OwsIn.keep (S := fun b => S b ∧ b < w.heap.size) (Hjn.out.ext hx3_) (Held.kept (a := w3) (T := fun b => S b ∧ b < w.heap.size) Hxt) (fun b h _ => .inl h.1), SlOk.nil, .inl rfl, Xt⟩
  · skip
    have Hf := Lib.hid hf
    clear hf
    have Hg := Lib.hid hg
    clear hg
    have Hl := Lib.hid hl
    clear hl
    have Hw := Lib.hid hw
    clear hw
    have h3n : (v.k != 5) = false := by simpa using h3
    have h4n : (want.k != 5) = false := by simpa using h4
    clear h3 h4
    go_enter Tryz.func15, Tryz.ntmps15
    go_upto_region 1 with fail
    refine gen_world (R := fun wx => Box wx w.heap.size #[.int .i64 v.k, .int .i64 v.n, .string v.s, .slice ka v.keys.length kc, .slice la v.l.length lc] 25 ∧ Box wx (w.heap.size + 1) #[.int .i64 want.k, .int .i64 want.n, .string want.s, .slice kb want.keys.length kd, .slice lb want.l.length ld] 25 ∧ Box wx (w.heap.size + 2) #[.int .i64 0, .int .i64 0, .string ⟨#[]⟩, .slice none 0 0, .slice none 0 0] 25 ∧ Ext w wx) ⟨Bxt, Bxt, Bxt, Xt⟩ ?_
    rintro wa ⟨hB0, hB1, hB2, hxa⟩
    have hza := hB2.lt
    have hc0 := hB0.cells; have hf0 := hB0.free; have hl0 := hB0.lt
    have hc1 := hB1.cells; have hf1 := hB1.free; have hl1 := hB1.lt
    go_wp2_with fail
    (refine (fine_any v ka kc la lc _ _ (by omega) (Hin.out.ext Xt)).mono ?_)
    rw [Hf.out]
    rintro e w1 ⟨rfl, h1_⟩
    have hB0 := Box.ext (w' := w1) Xt hB0
    have hB1 := Box.ext (w' := w1) Xt hB1
    have hB2 := Box.ext (w' := w1) Xt hB2
    have hx1_ : Ext w w1 := Xt
    clear h1_ hxa hc0 hf0 hl0 hc1 hf1 hl1
    have hc0 := hB0.cells; have hf0 := hB0.free; have hl0 := hB0.lt
    have hc1 := hB1.cells; have hf1 := hB1.free; have hl1 := hB1.lt
    go_wp2_with fail
    (refine (fine_any want kb kd lb ld _ _ (by omega) (Hkn.out.ext Xt)).mono ?_)
    rw [Hg.out]
    rintro e w2 ⟨rfl, h2_⟩
    have hB0 := Box.ext (w' := w2) Xt hB0
    have hB1 := Box.ext (w' := w2) Xt hB1
    have hB2 := Box.ext (w' := w2) Xt hB2
    have hx2_ : Ext w w2 := Xt
    clear h2_ hx1_ hc0 hf0 hl0 hc1 hf1 hl1
    have hc0 := hB0.cells; have hf0 := hB0.free; have hl0 := hB0.lt
    have hc1 := hB1.cells; have hf1 := hB1.free; have hl1 := hB1.lt
    go_wp2_with fail
    (refine (goodO_any l a c _ _ hlz (Hjn.out.ext Xt) (hm.ext Xt)).mono ?_)
    rw [Hl.out]
    rintro e w3 ⟨rfl, h3_⟩
    have hB0 := Box.ext (w' := w3) Xt hB0
    have hB1 := Box.ext (w' := w3) Xt hB1
    have hB2 := Box.ext (w' := w3) Xt hB2
    have hx3_ : Ext w w3 := Xt
    clear h3_ hx2_ hc0 hf0 hl0 hc1 hf1 hl1
    have hc0 := hB0.cells; have hf0 := hB0.free; have hl0 := hB0.lt
    have hc1 := hB1.cells; have hf1 := hB1.free; have hl1 := hB1.lt
    go_wp2_with fail
    (refine (named_any who _ hhz).mono ?_)
    rw [Hw.out]
    rintro e wn ⟨rfl, rfl⟩
    clear hc0 hf0 hl0 hc1 hf1 hl1
    have hc0 := hB0.cells; have hf0 := hB0.free; have hl0 := hB0.lt
    have hc1 := hB1.cells; have hf1 := hB1.free; have hl1 := hB1.lt
    have hc2 := hB2.cells; have hf2 := hB2.free; have hl2 := hB2.lt
    go_wp2_with fail
    (with_reducible apply bp_ret); (focus (go_light; simp [results, Tryz.results15, go_sem, *]; rfl))
    exact ⟨ka, kc, la, lc, a, c, none, 0, rfl, V.In.keep (S := fun b => S b ∧ b < w.heap.size) (Hin.out.ext hx3_) (Held.kept (a := w3) (T := fun b => S b ∧ b < w.heap.size) Hxt) (fun b h _ => .inl h.1), Hok.out, OwsIn.keep (S := fun b => S b ∧ b < w.heap.size) (Hjn.out.ext hx3_) (Held.kept (a := w3) (T := fun b => S b ∧ b < w.heap.size) Hxt) (fun b h _ => .inl h.1), SlOk.nil, .inl rfl, Xt⟩
set_option maxRecDepth 100000 in
set_option maxHeartbeats 8000000 in
theorem apply_conf (v : V) (ka : Option Addr) (kc : Nat) (la : Option Addr) (lc : Nat) (l : List Ow) (a : Option Addr) (c : Nat) (who : ByteArray) (want : V) (kb : Option Addr) (kd : Nat) (lb : Option Addr) (ld : Nat) (force : Bool) (S : Nat → Prop) (w : World)
    (hvz : v.size ≤ 1000000000) (hwz : want.size ≤ 1000000000) (hlz : owsSize l ≤ 2097152) (hhz : who.size ≤ 1073741824) (hok : SlOk a l.length c) (hin : v.In w S ka kc la lc) (hjn : OwsIn w S l a) (hkn : want.In w S kb kd lb ld) (hm : MaxAt w) (hb : formB v l who want = true) (hc : confL v l who want ≠ []) (hfo : force = false) :
    Calls Tryz.prog 15 #[v.val ka kc la lc, .slice a l.length c, .string who, want.val kb kd lb ld, .bool force] w (RetApply S (v, l, confL v l who want, 5) w) := by
  have Hin := Lib.hid (hin.mono (T := fun b => S b ∧ b < w.heap.size) (fun b h hl => ⟨h, hl⟩))
  have Hjn := Lib.hid (hjn.mono (T := fun b => S b ∧ b < w.heap.size) (fun b h hl => ⟨h, hl⟩))
  have Hkn := Lib.hid (hkn.mono (T := fun b => S b ∧ b < w.heap.size) (fun b h hl => ⟨h, hl⟩))
  have Hok := Lib.hid hok
  clear hin hjn hkn hok
  unfold formB at hb
  simp only [Bool.and_eq_true, decide_eq_true_eq] at hb
  obtain ⟨⟨⟨⟨⟨hf, hg⟩, h3⟩, h4⟩, hl⟩, hw⟩ := hb
  have Hf := Lib.hid hf
  have Hg := Lib.hid hg
  have Hl := Lib.hid hl
  have Hw := Lib.hid hw
  clear hf hg hl hw
  have h3n : (v.k != 5) = false := by simpa using h3
  have h4n : (want.k != 5) = false := by simpa using h4
  clear h3 h4
  subst hfo
  obtain ⟨cs, hcs⟩ : ∃ cs, confL v l who want = cs := ⟨_, rfl⟩
  rw [hcs] at hc ⊢
  have Hcs := Lib.hid hcs
  have hcl : (0 : Int) < (cs.length : Int) := by have := List.length_pos_iff.2 hc; omega
  clear hc hcs
  go_enter Tryz.func15, Tryz.ntmps15
  go_upto_region 1 with fail
  refine gen_world (R := fun wx => Box wx w.heap.size #[.int .i64 v.k, .int .i64 v.n, .string v.s, .slice ka v.keys.length kc, .slice la v.l.length lc] 25 ∧ Box wx (w.heap.size + 1) #[.int .i64 want.k, .int .i64 want.n, .string want.s, .slice kb want.keys.length kd, .slice lb want.l.length ld] 25 ∧ Box wx (w.heap.size + 2) #[.int .i64 0, .int .i64 0, .string ⟨#[]⟩, .slice none 0 0, .slice none 0 0] 25 ∧ Ext w wx) ⟨Bxt, Bxt, Bxt, Xt⟩ ?_
  rintro wa ⟨hB0, hB1, hB2, hxa⟩
  have hza := hB2.lt
  have hc0 := hB0.cells; have hf0 := hB0.free; have hl0 := hB0.lt
  have hc1 := hB1.cells; have hf1 := hB1.free; have hl1 := hB1.lt
  go_wp2_with fail
  (refine (fine_any v ka kc la lc _ _ (by omega) (Hin.out.ext Xt)).mono ?_)
  rw [Hf.out]
  rintro e w1 ⟨rfl, h1_⟩
  have hB0 := Box.ext (w' := w1) Xt hB0
  have hB1 := Box.ext (w' := w1) Xt hB1
  have hB2 := Box.ext (w' := w1) Xt hB2
  have hx1_ : Ext w w1 := Xt
  clear h1_ hxa hc0 hf0 hl0 hc1 hf1 hl1
  have hc0 := hB0.cells; have hf0 := hB0.free; have hl0 := hB0.lt
  have hc1 := hB1.cells; have hf1 := hB1.free; have hl1 := hB1.lt
  go_wp2_with fail
  (refine (fine_any want kb kd lb ld _ _ (by omega) (Hkn.out.ext Xt)).mono ?_)
  rw [Hg.out]
  rintro e w2 ⟨rfl, h2_⟩
  have hB0 := Box.ext (w' := w2) Xt hB0
  have hB1 := Box.ext (w' := w2) Xt hB1
  have hB2 := Box.ext (w' := w2) Xt hB2
  have hx2_ : Ext w w2 := Xt
  clear h2_ hx1_ hc0 hf0 hl0 hc1 hf1 hl1
  have hc0 := hB0.cells; have hf0 := hB0.free; have hl0 := hB0.lt
  have hc1 := hB1.cells; have hf1 := hB1.free; have hl1 := hB1.lt
  go_wp2_with fail
  (refine (goodO_any l a c _ _ hlz (Hjn.out.ext Xt) (hm.ext Xt)).mono ?_)
  rw [Hl.out]
  rintro e w3 ⟨rfl, h3_⟩
  have hB0 := Box.ext (w' := w3) Xt hB0
  have hB1 := Box.ext (w' := w3) Xt hB1
  have hB2 := Box.ext (w' := w3) Xt hB2
  have hx3_ : Ext w w3 := Xt
  clear h3_ hx2_ hc0 hf0 hl0 hc1 hf1 hl1
  have hc0 := hB0.cells; have hf0 := hB0.free; have hl0 := hB0.lt
  have hc1 := hB1.cells; have hf1 := hB1.free; have hl1 := hB1.lt
  go_wp2_with fail
  (refine (named_any who _ hhz).mono ?_)
  rw [Hw.out]
  rintro e wn ⟨rfl, rfl⟩
  clear hc0 hf0 hl0 hc1 hf1 hl1
  have hc0 := hB0.cells; have hf0 := hB0.free; have hl0 := hB0.lt
  have hc1 := hB1.cells; have hf1 := hB1.free; have hl1 := hB1.lt
  have hz2 := hB2.lt
  go_wp2_with fail
  (refine (conflicts_any v ka kc la lc _ l a c _ who want kb kd lb ld _ _ hvz hwz hlz (Hin.out.ext Xt) (Hjn.out.ext Xt) (Hkn.out.ext Xt) (hm.ext Xt)).mono ?_)
  rw [Hcs.out]
  rintro e w9 ⟨a9, c9, rfl, hok9, hcf9, h9⟩
  have hB0 := Box.ext (w' := w9) Xt hB0
  have hB2 := Box.ext (w' := w9) Xt hB2
  have hx9 : Ext w w9 := Xt
  have Hcf9 := Lib.hid (hcf9.mono (T := fun b => w.heap.size + 3 ≤ b) (fun b hb => by (try simp at hb); omega))
  clear h9 hx3_ hc0 hf0 hl0 hc1 hf1 hl1 hcf9
  have hc0 := hB0.cells; have hf0 := hB0.free; have hl0 := hB0.lt
  have hc2 := hB2.cells; have hf2 := hB2.free; have hl2 := hB2.lt
  go_wp2_with fail
  (with_reducible apply bp_ret); (focus (go_light; simp [results, Tryz.results15, go_sem, *]; rfl))
  exact ⟨ka, kc, la, lc, a, c, a9, c9, rfl, V.In.keep (S := fun b => S b ∧ b < w.heap.size) (Hin.out.ext hx9) (Held.kept (a := w9) (T := fun b => S b ∧ b < w.heap.size) Hxt) (fun b h _ => .inl h.1), Hok.out, OwsIn.keep (S := fun b => S b ∧ b < w.heap.size) (Hjn.out.ext hx9) (Held.kept (a := w9) (T := fun b => S b ∧ b < w.heap.size) Hxt) (fun b h _ => .inl h.1), hok9, cf_keep Hcf9.out (Held.kept (a := w9) (T := fun b => w.heap.size + 3 ≤ b) Hxt) (fun b h => .inr (by omega)), Xt⟩
end Go.Proofs.YtjibdbnpkfghhaaGreatDoor
