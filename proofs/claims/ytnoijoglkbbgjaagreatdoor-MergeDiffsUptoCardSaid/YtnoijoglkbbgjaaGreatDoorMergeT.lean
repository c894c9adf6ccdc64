/- The walks of merge.Merge, merge.Diff, and of the laws' own merges. -/
import Derived.Test.YtnoijoglkbbgjaaGreatDoorDiffW
import Derived.Test.YtnoijoglkbbgjaaGreatDoorRd9
set_option linter.all false
namespace Go.Proofs.YtnoijoglkbbgjaaGreatDoor
open Go.RowKit
attribute [local go_sem ↓] Go.wp_at_zero Go.wp_at_succ

/-- The call gives a value and an error. -/
def RetE (r : V × Int) (w : World) (e : Ending) (w' : World) : Prop := ∃ (ka : Option Addr) (kc : Nat) (la : Option Addr) (lc : Nat), e = .returned (.tuple #[r.1.val ka kc la lc, .int .i64 r.2]) ∧ r.1.In w' All ka kc la lc ∧ Ext w w'
theorem old_in {w w' : World} {x : V} {ka : Option Addr} {kc : Nat} {la : Option Addr} {lc : Nat} (h : x.In w (fun b => b < w.heap.size) ka kc la lc) (k : Held (fun b => b < w.heap.size) w w') : x.In w' All ka kc la lc := h.keep k.kept (fun _ _ _ => trivial)

set_option maxRecDepth 100000 in
set_option maxHeartbeats 8000000 in
theorem merge_any (x : V) (ka : Option Addr) (kc : Nat) (la : Option Addr) (lc : Nat) (y : V) (kb : Option Addr) (kd : Nat) (lb : Option Addr) (ld : Nat) (w : World) (hsx : x.size ≤ 1073741824) (hsy : y.size ≤ 1073741824) (hin : x.In w All ka kc la lc) (hjn : y.In w All kb kd lb ld) :
    Calls Tryz.prog 13 #[x.val ka kc la lc, y.val kb kd lb ld] w (RetE (mergeV x y) w) := by
  have Hin := Lib.hid (show x.In w (fun b => b < w.heap.size) ka kc la lc from hin.mono fun b _ h => h)
  have Hjn := Lib.hid (show y.In w (fun b => b < w.heap.size) kb kd lb ld from hjn.mono fun b _ h => h)
  clear hin hjn
  cases hfx : x.fine with
  | false =>
    have Hfx := Lib.hid hfx
    have Hr := Lib.hid (show mergeV x y = (x, 1) by unfold mergeV; rw [if_pos (.inl hfx)])
    clear hfx
    go_enter Tryz.func13, Tryz.ntmps13
    go_upto_region 1 with fail
    refine gen_world (R := fun wx => Box wx w.heap.size #[.int .i64 x.k, .int .i64 x.n, .string x.s, .slice ka x.keys.length kc, .slice la x.l.length lc] 25 ∧ Box wx (w.heap.size + 1) #[.int .i64 y.k, .int .i64 y.n, .string y.s, .slice kb y.keys.length kd, .slice lb y.l.length ld] 25 ∧ Box wx (w.heap.size + 2) #[.int .i64 0, .int .i64 0, .string ⟨#[]⟩, .slice none 0 0, .slice none 0 0] 25 ∧ Ext w wx) ⟨Bxt, Bxt, Bxt, Xt⟩ ?_
    rintro wa ⟨hB0, hB1, hB2, hxa⟩
    have hc0 := hB0.cells; have hf0 := hB0.free; have hl0 := hB0.lt
    go_wp2_with fail
    (refine (fine_any x ka kc la lc _ _ (by omega) (Hin.out.ext Xt)).mono ?_); rintro e w1 ⟨rfl, h_w1⟩
    rw [Hfx.out]
    clear hc0 hf0 hl0
    have hB0 := Box.ext h_w1 hB0
    have hB1 := Box.ext h_w1 hB1
    have hB2 := Box.ext h_w1 hB2
    have hx_w1 := hxa.trans h_w1
    clear h_w1 hxa
    have hc0 := hB0.cells; have hf0 := hB0.free; have hl0 := hB0.lt
    have hc2 := hB2.cells; have hf2 := hB2.free; have hl2 := hB2.lt
    go_wp2_with fail
    (with_reducible apply bp_ret); (focus (go_light; simp [results, Tryz.results13, go_sem, *]; rfl))
    rw [Hr.out]
    exact ⟨ka, kc, la, lc, rfl, old_in Hin.out Hxt, Xt⟩
  | true =>
    have Hfx := Lib.hid hfx
    clear hfx
    cases hfy : y.fine with
    | false =>
      have Hfy := Lib.hid hfy
      have Hr := Lib.hid (show mergeV x y = (x, 1) by unfold mergeV; rw [if_pos (.inr hfy)])
      clear hfy
      go_enter Tryz.func13, Tryz.ntmps13
      go_upto_region 1 with fail
      refine gen_world (R := fun wx => Box wx w.heap.size #[.int .i64 x.k, .int .i64 x.n, .string x.s, .slice ka x.keys.length kc, .slice la x.l.length lc] 25 ∧ Box wx (w.heap.size + 1) #[.int .i64 y.k, .int .i64 y.n, .string y.s, .slice kb y.keys.length kd, .slice lb y.l.length ld] 25 ∧ Box wx (w.heap.size + 2) #[.int .i64 0, .int .i64 0, .string ⟨#[]⟩, .slice none 0 0, .slice none 0 0] 25 ∧ Ext w wx) ⟨Bxt, Bxt, Bxt, Xt⟩ ?_
      rintro wa ⟨hB0, hB1, hB2, hxa⟩
      have hc0 := hB0.cells; have hf0 := hB0.free; have hl0 := hB0.lt
      go_wp2_with fail
      (refine (fine_any x ka kc la lc _ _ (by omega) (Hin.out.ext Xt)).mono ?_); rintro e w1 ⟨rfl, h_w1⟩
      rw [Hfx.out]
      clear hc0 hf0 hl0
      have hB0 := Box.ext h_w1 hB0
      have hB1 := Box.ext h_w1 hB1
      have hB2 := Box.ext h_w1 hB2
      have hx_w1 := hxa.trans h_w1
      clear h_w1 hxa
      have hc1 := hB1.cells; have hf1 := hB1.free; have hl1 := hB1.lt
      go_wp2_with fail
      (refine (fine_any y kb kd lb ld _ _ (by omega) (Hjn.out.ext Xt)).mono ?_); rintro e w2 ⟨rfl, h_w2⟩
      rw [Hfy.out]
      clear hc1 hf1 hl1
      have hB0 := Box.ext h_w2 hB0
      have hB1 := Box.ext h_w2 hB1
      have hB2 := Box.ext h_w2 hB2
      have hx_w2 := hx_w1.trans h_w2
      clear h_w2 hx_w1
      have hc0 := hB0.cells; have hf0 := hB0.free; have hl0 := hB0.lt
      have hc2 := hB2.cells; have hf2 := hB2.free; have hl2 := hB2.lt
      go_wp2_with fail
      (with_reducible apply bp_ret); (focus (go_light; simp [results, Tryz.results13, go_sem, *]; rfl))
      rw [Hr.out]
      exact ⟨ka, kc, la, lc, rfl, old_in Hin.out Hxt, Xt⟩
    | true =>
      have Hfy := Lib.hid hfy
      clear hfy
      have hcx := fine_count Hfx.out
      have hcy := fine_count Hfy.out
      have hsm := mrg_size Hfy.out Hfx.out
      obtain ⟨out, hout⟩ : ∃ out, y.mrg x = out := ⟨_, rfl⟩
      rw [hout] at hsm
      have Hout := Lib.hid hout
      clear hout
      cases hfo : out.fine with
      | true =>
        have Hfo := Lib.hid hfo
        have Hr := Lib.hid (show mergeV x y = (out, 0) by unfold mergeV; rw [if_neg (by rw [Hfx.out, Hfy.out]; decide), Hout.out, if_neg (by rw [hfo]; decide)])
        clear hfo
        go_enter Tryz.func13, Tryz.ntmps13
        go_upto_region 1 with fail
        refine gen_world (R := fun wx => Box wx w.heap.size #[.int .i64 x.k, .int .i64 x.n, .string x.s, .slice ka x.keys.length kc, .slice la x.l.length lc] 25 ∧ Box wx (w.heap.size + 1) #[.int .i64 y.k, .int .i64 y.n, .string y.s, .slice kb y.keys.length kd, .slice lb y.l.length ld] 25 ∧ Box wx (w.heap.size + 2) #[.int .i64 0, .int .i64 0, .string ⟨#[]⟩, .slice none 0 0, .slice none 0 0] 25 ∧ Ext w wx) ⟨Bxt, Bxt, Bxt, Xt⟩ ?_
        rintro wa ⟨hB0, hB1, hB2, hxa⟩
        have hc0 := hB0.cells; have hf0 := hB0.free; have hl0 := hB0.lt
        go_wp2_with fail
        (refine (fine_any x ka kc la lc _ _ (by omega) (Hin.out.ext Xt)).mono ?_); rintro e w1 ⟨rfl, h_w1⟩
        rw [Hfx.out]
        clear hc0 hf0 hl0
        have hB0 := Box.ext h_w1 hB0
        have hB1 := Box.ext h_w1 hB1
        have hB2 := Box.ext h_w1 hB2
        have hx_w1 := hxa.trans h_w1
        clear h_w1 hxa
        have hc1 := hB1.cells; have hf1 := hB1.free; have hl1 := hB1.lt
        go_wp2_with fail
        (refine (fine_any y kb kd lb ld _ _ (by omega) (Hjn.out.ext Xt)).mono ?_); rintro e w2 ⟨rfl, h_w2⟩
        rw [Hfy.out]
        clear hc1 hf1 hl1
        have hB0 := Box.ext h_w2 hB0
        have hB1 := Box.ext h_w2 hB1
        have hB2 := Box.ext h_w2 hB2
        have hx_w2 := hx_w1.trans h_w2
        clear h_w2 hx_w1
        have hc0 := hB0.cells; have hf0 := hB0.free; have hl0 := hB0.lt
        have hc1 := hB1.cells; have hf1 := hB1.free; have hl1 := hB1.lt
        go_wp2_with fail
        (refine (mergeI_any y.size y x ka kc la lc kb kd lb ld (fun b => b < w.heap.size) _ (Nat.le_refl _) (fine_sound Hfy.out) (fine_sound Hfx.out) (by omega) (Hin.out.ext Xt) (Hjn.out.ext Xt)).mono ?_)
        rw [Hout.out]
        rintro e w3 ⟨ka3, kc3, la3, lc3, rfl, hin3, h_w3⟩
        clear hc0 hf0 hl0 hc1 hf1 hl1
        have hzr := hB2.lt
        have Hin3 := Lib.hid (show out.In w3 (fun b => b ≠ w.heap.size + 2) ka3 kc3 la3 lc3 from hin3.mono fun b h _ => by rcases h with h | h; (have h := h; omega); omega)
        have hB0 := Box.ext h_w3 hB0
        have hB1 := Box.ext h_w3 hB1
        have hB2 := Box.ext h_w3 hB2
        have hx_w3 := hx_w2.trans h_w3
        clear h_w3 hx_w2
        clear hin3
        go_upto_region 4 with fail
        refine gen_world (R := fun wx => Box wx w.heap.size #[.int .i64 x.k, .int .i64 x.n, .string x.s, .slice ka x.keys.length kc, .slice la x.l.length lc] 25 ∧ Box wx (w.heap.size + 1) #[.int .i64 y.k, .int .i64 y.n, .string y.s, .slice kb y.keys.length kd, .slice lb y.l.length ld] 25 ∧ Box wx (w.heap.size + 2) #[.int .i64 0, .int .i64 0, .string ⟨#[]⟩, .slice none 0 0, .slice none 0 0] 25 ∧ Ext w wx ∧ Box wx w3.heap.size #[.int .i64 out.k, .int .i64 out.n, .string out.s, .slice ka3 out.keys.length kc3, .slice la3 out.l.length lc3] 25 ∧ out.In wx (fun b => b ≠ w.heap.size + 2) ka3 kc3 la3 lc3) ⟨Bxt, Bxt, Bxt, Xt, Bxt, Hin3.out.ext Xt⟩ ?_
        clear hB0 hB1 hB2 Hin3 hx_w3
        rintro wc ⟨hB0, hB1, hB2, hxc, hB3, hin3⟩
        have Hin3 := Lib.hid hin3
        clear hin3
        have hc3 := hB3.cells; have hf3 := hB3.free; have hl3 := hB3.lt
        go_wp2_with fail
        (refine (fine_any out ka3 kc3 la3 lc3 _ _ (by omega) (Hin3.out.ext Xt)).mono ?_); rintro e w4 ⟨rfl, h_w4⟩
        rw [Hfo.out]
        clear hc3 hf3 hl3
        have hB3 := Box.ext h_w4 hB3
        have Hin3 := Lib.hid (V.In.ext (w' := w4) Hin3.out h_w4)
        have hB0 := Box.ext h_w4 hB0
        have hB1 := Box.ext h_w4 hB1
        have hB2 := Box.ext h_w4 hB2
        have hx_w4 := hxc.trans h_w4
        clear h_w4 hxc
        have hc3 := hB3.cells; have hf3 := hB3.free; have hl3 := hB3.lt
        have hc2 := hB2.cells; have hf2 := hB2.free; have hl2 := hB2.lt
        go_wp2_with fail
        (with_reducible apply bp_ret); (focus (go_light; simp [results, Tryz.results13, go_sem, *]; rfl))
        rw [Hr.out]
        exact ⟨ka3, kc3, la3, lc3, rfl, Hin3.out.keep (Held.kept (a := w4) (T := fun b => b ≠ w.heap.size + 2) Hxt) (fun b _ _ => trivial), Xt⟩
      | false =>
        have Hfo := Lib.hid hfo
        have Hr := Lib.hid (show mergeV x y = (x, 2) by unfold mergeV; rw [if_neg (by rw [Hfx.out, Hfy.out]; decide), Hout.out, if_pos hfo])
        clear hfo
        go_enter Tryz.func13, Tryz.ntmps13
        go_upto_region 1 with fail
        refine gen_world (R := fun wx => Box wx w.heap.size #[.int .i64 x.k, .int .i64 x.n, .string x.s, .slice ka x.keys.length kc, .slice la x.l.length lc] 25 ∧ Box wx (w.heap.size + 1) #[.int .i64 y.k, .int .i64 y.n, .string y.s, .slice kb y.keys.length kd, .slice lb y.l.length ld] 25 ∧ Box wx (w.heap.size + 2) #[.int .i64 0, .int .i64 0, .string ⟨#[]⟩, .slice none 0 0, .slice none 0 0] 25 ∧ Ext w wx) ⟨Bxt, Bxt, Bxt, Xt⟩ ?_
        rintro wa ⟨hB0, hB1, hB2, hxa⟩
        have hc0 := hB0.cells; have hf0 := hB0.free; have hl0 := hB0.lt
        go_wp2_with fail
        (refine (fine_any x ka kc la lc _ _ (by omega) (Hin.out.ext Xt)).mono ?_); rintro e w1 ⟨rfl, h_w1⟩
        rw [Hfx.out]
        clear hc0 hf0 hl0
        have hB0 := Box.ext h_w1 hB0
        have hB1 := Box.ext h_w1 hB1
        have hB2 := Box.ext h_w1 hB2
        have hx_w1 := hxa.trans h_w1
        clear h_w1 hxa
        have hc1 := hB1.cells; have hf1 := hB1.free; have hl1 := hB1.lt
        go_wp2_with fail
        (refine (fine_any y kb kd lb ld _ _ (by omega) (Hjn.out.ext Xt)).mono ?_); rintro e w2 ⟨rfl, h_w2⟩
        rw [Hfy.out]
        clear hc1 hf1 hl1
        have hB0 := Box.ext h_w2 hB0
        have hB1 := Box.ext h_w2 hB1
        have hB2 := Box.ext h_w2 hB2
        have hx_w2 := hx_w1.trans h_w2
        clear h_w2 hx_w1
        have hc0 := hB0.cells; have hf0 := hB0.free; have hl0 := hB0.lt
        have hc1 := hB1.cells; have hf1 := hB1.free; have hl1 := hB1.lt
        go_wp2_with fail
        (refine (mergeI_any y.size y x ka kc la lc kb kd lb ld (fun b => b < w.heap.size) _ (Nat.le_refl _) (fine_sound Hfy.out) (fine_sound Hfx.out) (by omega) (Hin.out.ext Xt) (Hjn.out.ext Xt)).mono ?_)
        rw [Hout.out]
        rintro e w3 ⟨ka3, kc3, la3, lc3, rfl, hin3, h_w3⟩
        clear hc0 hf0 hl0 hc1 hf1 hl1
        have hzr := hB2.lt
        have Hin3 := Lib.hid (show out.In w3 (fun b => b ≠ w.heap.size + 2) ka3 kc3 la3 lc3 from hin3.mono fun b h _ => by rcases h with h | h; (have h := h; omega); omega)
        have hB0 := Box.ext h_w3 hB0
        have hB1 := Box.ext h_w3 hB1
        have hB2 := Box.ext h_w3 hB2
        have hx_w3 := hx_w2.trans h_w3
        clear h_w3 hx_w2
        clear hin3
        go_upto_region 4 with fail
        refine gen_world (R := fun wx => Box wx w.heap.size #[.int .i64 x.k, .int .i64 x.n, .string x.s, .slice ka x.keys.length kc, .slice la x.l.length lc] 25 ∧ Box wx (w.heap.size + 1) #[.int .i64 y.k, .int .i64 y.n, .string y.s, .slice kb y.keys.length kd, .slice lb y.l.length ld] 25 ∧ Box wx (w.heap.size + 2) #[.int .i64 0, .int .i64 0, .string ⟨#[]⟩, .slice none 0 0, .slice none 0 0] 25 ∧ Ext w wx ∧ Box wx w3.heap.size #[.int .i64 out.k, .int .i64 out.n, .string out.s, .slice ka3 out.keys.length kc3, .slice la3 out.l.length lc3] 25 ∧ out.In wx (fun b => b ≠ w.heap.size + 2) ka3 kc3 la3 lc3) ⟨Bxt, Bxt, Bxt, Xt, Bxt, Hin3.out.ext Xt⟩ ?_
        clear hB0 hB1 hB2 Hin3 hx_w3
        rintro wc ⟨hB0, hB1, hB2, hxc, hB3, hin3⟩
        have Hin3 := Lib.hid hin3
        clear hin3
        have hc3 := hB3.cells; have hf3 := hB3.free; have hl3 := hB3.lt
        go_wp2_with fail
        (refine (fine_any out ka3 kc3 la3 lc3 _ _ (by omega) (Hin3.out.ext Xt)).mono ?_); rintro e w4 ⟨rfl, h_w4⟩
        rw [Hfo.out]
        clear hc3 hf3 hl3
        have hB3 := Box.ext h_w4 hB3
        have Hin3 := Lib.hid (V.In.ext (w' := w4) Hin3.out h_w4)
        have hB0 := Box.ext h_w4 hB0
        have hB1 := Box.ext h_w4 hB1
        have hB2 := Box.ext h_w4 hB2
        have hx_w4 := hxc.trans h_w4
        clear h_w4 hxc
        have hc0 := hB0.cells; have hf0 := hB0.free; have hl0 := hB0.lt
        have hc2 := hB2.cells; have hf2 := hB2.free; have hl2 := hB2.lt
        go_wp2_with fail
        (with_reducible apply bp_ret); (focus (go_light; simp [results, Tryz.results13, go_sem, *]; rfl))
        rw [Hr.out]
        exact ⟨ka, kc, la, lc, rfl, old_in Hin.out Hxt, Xt⟩

set_option maxRecDepth 100000 in
set_option maxHeartbeats 8000000 in
theorem diff_any (x : V) (ka : Option Addr) (kc : Nat) (la : Option Addr) (lc : Nat) (y : V) (kb : Option Addr) (kd : Nat) (lb : Option Addr) (ld : Nat) (w : World) (hsx : x.size ≤ 1073741824) (hsy : y.size ≤ 1073741824) (hin : x.In w All ka kc la lc) (hjn : y.In w All kb kd lb ld) :
    Calls Tryz.prog 35 #[x.val ka kc la lc, y.val kb kd lb ld] w (RetE (diffV x y) w) := by
  have Hin := Lib.hid (show x.In w (fun b => b < w.heap.size) ka kc la lc from hin.mono fun b _ h => h)
  have Hjn := Lib.hid (show y.In w (fun b => b < w.heap.size) kb kd lb ld from hjn.mono fun b _ h => h)
  clear hin hjn
  cases hfx : x.fine with
  | false =>
    have Hfx := Lib.hid hfx
    have Hr := Lib.hid (show diffV x y = (V.zero, 1) by unfold diffV; rw [if_pos (.inl hfx)])
    clear hfx
    go_enter Tryz.func35, Tryz.ntmps35
    go_upto_region 1 with fail
    refine gen_world (R := fun wx => Box wx w.heap.size #[.int .i64 x.k, .int .i64 x.n, .string x.s, .slice ka x.keys.length kc, .slice la x.l.length lc] 25 ∧ Box wx (w.heap.size + 1) #[.int .i64 y.k, .int .i64 y.n, .string y.s, .slice kb y.keys.length kd, .slice lb y.l.length ld] 25 ∧ Box wx (w.heap.size + 2) #[.int .i64 0, .int .i64 0, .string ⟨#[]⟩, .slice none 0 0, .slice none 0 0] 25 ∧ Ext w wx) ⟨Bxt, Bxt, Bxt, Xt⟩ ?_
    rintro wa ⟨hB0, hB1, hB2, hxa⟩
    have hc0 := hB0.cells; have hf0 := hB0.free; have hl0 := hB0.lt
    go_wp2_with fail
    (refine (fine_any x ka kc la lc _ _ (by omega) (Hin.out.ext Xt)).mono ?_); rintro e w1 ⟨rfl, h_w1⟩
    rw [Hfx.out]
    clear hc0 hf0 hl0
    have hB0 := Box.ext h_w1 hB0
    have hB1 := Box.ext h_w1 hB1
    have hB2 := Box.ext h_w1 hB2
    have hx_w1 := hxa.trans h_w1
    clear h_w1 hxa
    have hc2 := hB2.cells; have hf2 := hB2.free; have hl2 := hB2.lt
    go_wp2_with fail
    (with_reducible apply bp_ret); (focus (go_light; simp [results, Tryz.results35, go_sem, *]; rfl))
    rw [Hr.out]
    exact ⟨none, 0, none, 0, rfl, V.zero_in _ _, Xt⟩
  | true =>
    have Hfx := Lib.hid hfx
    clear hfx
    cases hfy : y.fine with
    | false =>
      have Hfy := Lib.hid hfy
      have Hr := Lib.hid (show diffV x y = (V.zero, 1) by unfold diffV; rw [if_pos (.inr (.inl hfy))])
      clear hfy
      go_enter Tryz.func35, Tryz.ntmps35
      go_upto_region 1 with fail
      refine gen_world (R := fun wx => Box wx w.heap.size #[.int .i64 x.k, .int .i64 x.n, .string x.s, .slice ka x.keys.length kc, .slice la x.l.length lc] 25 ∧ Box wx (w.heap.size + 1) #[.int .i64 y.k, .int .i64 y.n, .string y.s, .slice kb y.keys.length kd, .slice lb y.l.length ld] 25 ∧ Box wx (w.heap.size + 2) #[.int .i64 0, .int .i64 0, .string ⟨#[]⟩, .slice none 0 0, .slice none 0 0] 25 ∧ Ext w wx) ⟨Bxt, Bxt, Bxt, Xt⟩ ?_
      rintro wa ⟨hB0, hB1, hB2, hxa⟩
      have hc0 := hB0.cells; have hf0 := hB0.free; have hl0 := hB0.lt
      go_wp2_with fail
      (refine (fine_any x ka kc la lc _ _ (by omega) (Hin.out.ext Xt)).mono ?_); rintro e w1 ⟨rfl, h_w1⟩
      rw [Hfx.out]
      clear hc0 hf0 hl0
      have hB0 := Box.ext h_w1 hB0
      have hB1 := Box.ext h_w1 hB1
      have hB2 := Box.ext h_w1 hB2
      have hx_w1 := hxa.trans h_w1
      clear h_w1 hxa
      have hc1 := hB1.cells; have hf1 := hB1.free; have hl1 := hB1.lt
      go_wp2_with fail
      (refine (fine_any y kb kd lb ld _ _ (by omega) (Hjn.out.ext Xt)).mono ?_); rintro e w2 ⟨rfl, h_w2⟩
      rw [Hfy.out]
      clear hc1 hf1 hl1
      have hB0 := Box.ext h_w2 hB0
      have hB1 := Box.ext h_w2 hB1
      have hB2 := Box.ext h_w2 hB2
      have hx_w2 := hx_w1.trans h_w2
      clear h_w2 hx_w1
      have hc2 := hB2.cells; have hf2 := hB2.free; have hl2 := hB2.lt
      go_wp2_with fail
      (with_reducible apply bp_ret); (focus (go_light; simp [results, Tryz.results35, go_sem, *]; rfl))
      rw [Hr.out]
      exact ⟨none, 0, none, 0, rfl, V.zero_in _ _, Xt⟩
    | true =>
      have Hfy := Lib.hid hfy
      clear hfy
      cases hcl : y.clean with
      | false =>
        have Hcl := Lib.hid hcl
        have Hr := Lib.hid (show diffV x y = (V.zero, 1) by unfold diffV; rw [if_pos (.inr (.inr hcl))])
        clear hcl
        go_enter Tryz.func35, Tryz.ntmps35
        go_upto_region 1 with fail
        refine gen_world (R := fun wx => Box wx w.heap.size #[.int .i64 x.k, .int .i64 x.n, .string x.s, .slice ka x.keys.length kc, .slice la x.l.length lc] 25 ∧ Box wx (w.heap.size + 1) #[.int .i64 y.k, .int .i64 y.n, .string y.s, .slice kb y.keys.length kd, .slice lb y.l.length ld] 25 ∧ Box wx (w.heap.size + 2) #[.int .i64 0, .int .i64 0, .string ⟨#[]⟩, .slice none 0 0, .slice none 0 0] 25 ∧ Ext w wx) ⟨Bxt, Bxt, Bxt, Xt⟩ ?_
        rintro wa ⟨hB0, hB1, hB2, hxa⟩
        have hc0 := hB0.cells; have hf0 := hB0.free; have hl0 := hB0.lt
        go_wp2_with fail
        (refine (fine_any x ka kc la lc _ _ (by omega) (Hin.out.ext Xt)).mono ?_); rintro e w1 ⟨rfl, h_w1⟩
        rw [Hfx.out]
        clear hc0 hf0 hl0
        have hB0 := Box.ext h_w1 hB0
        have hB1 := Box.ext h_w1 hB1
        have hB2 := Box.ext h_w1 hB2
        have hx_w1 := hxa.trans h_w1
        clear h_w1 hxa
        have hc1 := hB1.cells; have hf1 := hB1.free; have hl1 := hB1.lt
        go_wp2_with fail
        (refine (fine_any y kb kd lb ld _ _ (by omega) (Hjn.out.ext Xt)).mono ?_); rintro e w2 ⟨rfl, h_w2⟩
        rw [Hfy.out]
        clear hc1 hf1 hl1
        have hB0 := Box.ext h_w2 hB0
        have hB1 := Box.ext h_w2 hB1
        have hB2 := Box.ext h_w2 hB2
        have hx_w2 := hx_w1.trans h_w2
        clear h_w2 hx_w1
        have hc1 := hB1.cells; have hf1 := hB1.free; have hl1 := hB1.lt
        go_wp2_with fail
        (refine (clean_any y.size y kb kd lb ld _ _ (Nat.le_refl _) (by omega) (Hjn.out.ext Xt)).mono ?_); rintro e w2c ⟨rfl, h_w2c⟩
        rw [Hcl.out]
        clear hc1 hf1 hl1
        have hB0 := Box.ext h_w2c hB0
        have hB1 := Box.ext h_w2c hB1
        have hB2 := Box.ext h_w2c hB2
        have hx_w2c := hx_w2.trans h_w2c
        clear h_w2c hx_w2
        have hc2 := hB2.cells; have hf2 := hB2.free; have hl2 := hB2.lt
        go_wp2_with fail
        (with_reducible apply bp_ret); (focus (go_light; simp [results, Tryz.results35, go_sem, *]; rfl))
        rw [Hr.out]
        exact ⟨none, 0, none, 0, rfl, V.zero_in _ _, Xt⟩
      | true =>
        have Hcl := Lib.hid hcl
        clear hcl
        have hcx := fine_count Hfx.out
        have hcy := fine_count Hfy.out
        have hsm := dif_size Hfy.out Hfx.out
        obtain ⟨out, hout⟩ : ∃ out, y.dif x = out := ⟨_, rfl⟩
        rw [hout] at hsm
        have Hout := Lib.hid hout
        clear hout
        cases hfo : out.fine with
        | true =>
          have Hfo := Lib.hid hfo
          have Hr := Lib.hid (show diffV x y = (out, 0) by unfold diffV; rw [if_neg (by rw [Hfx.out, Hfy.out, Hcl.out]; decide), Hout.out, if_neg (by rw [hfo]; decide)])
          clear hfo
          go_enter Tryz.func35, Tryz.ntmps35
          go_upto_region 1 with fail
          refine gen_world (R := fun wx => Box wx w.heap.size #[.int .i64 x.k, .int .i64 x.n, .string x.s, .slice ka x.keys.length kc, .slice la x.l.length lc] 25 ∧ Box wx (w.heap.size + 1) #[.int .i64 y.k, .int .i64 y.n, .string y.s, .slice kb y.keys.length kd, .slice lb y.l.length ld] 25 ∧ Box wx (w.heap.size + 2) #[.int .i64 0, .int .i64 0, .string ⟨#[]⟩, .slice none 0 0, .slice none 0 0] 25 ∧ Ext w wx) ⟨Bxt, Bxt, Bxt, Xt⟩ ?_
          rintro wa ⟨hB0, hB1, hB2, hxa⟩
          have hc0 := hB0.cells; have hf0 := hB0.free; have hl0 := hB0.lt
          go_wp2_with fail
          (refine (fine_any x ka kc la lc _ _ (by omega) (Hin.out.ext Xt)).mono ?_); rintro e w1 ⟨rfl, h_w1⟩
          rw [Hfx.out]
          clear hc0 hf0 hl0
          have hB0 := Box.ext h_w1 hB0
          have hB1 := Box.ext h_w1 hB1
          have hB2 := Box.ext h_w1 hB2
          have hx_w1 := hxa.trans h_w1
          clear h_w1 hxa
          have hc1 := hB1.cells; have hf1 := hB1.free; have hl1 := hB1.lt
          go_wp2_with fail
          (refine (fine_any y kb kd lb ld _ _ (by omega) (Hjn.out.ext Xt)).mono ?_); rintro e w2 ⟨rfl, h_w2⟩
          rw [Hfy.out]
          clear hc1 hf1 hl1
          have hB0 := Box.ext h_w2 hB0
          have hB1 := Box.ext h_w2 hB1
          have hB2 := Box.ext h_w2 hB2
          have hx_w2 := hx_w1.trans h_w2
          clear h_w2 hx_w1
          have hc1 := hB1.cells; have hf1 := hB1.free; have hl1 := hB1.lt
          go_wp2_with fail
          (refine (clean_any y.size y kb kd lb ld _ _ (Nat.le_refl _) (by omega) (Hjn.out.ext Xt)).mono ?_); rintro e w2c ⟨rfl, h_w2c⟩
          rw [Hcl.out]
          clear hc1 hf1 hl1
          have hB0 := Box.ext h_w2c hB0
          have hB1 := Box.ext h_w2c hB1
          have hB2 := Box.ext h_w2c hB2
          have hx_w2c := hx_w2.trans h_w2c
          clear h_w2c hx_w2
          have hc0 := hB0.cells; have hf0 := hB0.free; have hl0 := hB0.lt
          have hc1 := hB1.cells; have hf1 := hB1.free; have hl1 := hB1.lt
          go_wp2_with fail
          (refine (diffI_any y.size y x ka kc la lc kb kd lb ld (fun b => b < w.heap.size) _ (Nat.le_refl _) (fine_sound Hfy.out) (fine_sound Hfx.out) (by omega) (by omega) (Hin.out.ext Xt) (Hjn.out.ext Xt)).mono ?_)
          rw [Hout.out]
          rintro e w3 ⟨ka3, kc3, la3, lc3, rfl, hin3, h_w3⟩
          clear hc0 hf0 hl0 hc1 hf1 hl1
          have hzr := hB2.lt
          have Hin3 := Lib.hid (show out.In w3 (fun b => b ≠ w.heap.size + 2) ka3 kc3 la3 lc3 from hin3.mono fun b h _ => by rcases h with h | h; (have h := h; omega); omega)
          have hB0 := Box.ext h_w3 hB0
          have hB1 := Box.ext h_w3 hB1
          have hB2 := Box.ext h_w3 hB2
          have hx_w3 := hx_w2c.trans h_w3
          clear h_w3 hx_w2c
          clear hin3
          go_upto_region 4 with fail
          refine gen_world (R := fun wx => Box wx w.heap.size #[.int .i64 x.k, .int .i64 x.n, .string x.s, .slice ka x.keys.length kc, .slice la x.l.length lc] 25 ∧ Box wx (w.heap.size + 1) #[.int .i64 y.k, .int .i64 y.n, .string y.s, .slice kb y.keys.length kd, .slice lb y.l.length ld] 25 ∧ Box wx (w.heap.size + 2) #[.int .i64 0, .int .i64 0, .string ⟨#[]⟩, .slice none 0 0, .slice none 0 0] 25 ∧ Ext w wx ∧ Box wx w3.heap.size #[.int .i64 out.k, .int .i64 out.n, .string out.s, .slice ka3 out.keys.length kc3, .slice la3 out.l.length lc3] 25 ∧ out.In wx (fun b => b ≠ w.heap.size + 2) ka3 kc3 la3 lc3) ⟨Bxt, Bxt, Bxt, Xt, Bxt, Hin3.out.ext Xt⟩ ?_
          clear hB0 hB1 hB2 Hin3 hx_w3
          rintro wc ⟨hB0, hB1, hB2, hxc, hB3, hin3⟩
          have Hin3 := Lib.hid hin3
          clear hin3
          have hc3 := hB3.cells; have hf3 := hB3.free; have hl3 := hB3.lt
          go_wp2_with fail
          (refine (fine_any out ka3 kc3 la3 lc3 _ _ (by omega) (Hin3.out.ext Xt)).mono ?_); rintro e w4 ⟨rfl, h_w4⟩
          rw [Hfo.out]
          clear hc3 hf3 hl3
          have hB3 := Box.ext h_w4 hB3
          have Hin3 := Lib.hid (V.In.ext (w' := w4) Hin3.out h_w4)
          have hB0 := Box.ext h_w4 hB0
          have hB1 := Box.ext h_w4 hB1
          have hB2 := Box.ext h_w4 hB2
          have hx_w4 := hxc.trans h_w4
          clear h_w4 hxc
          have hc3 := hB3.cells; have hf3 := hB3.free; have hl3 := hB3.lt
          have hc2 := hB2.cells; have hf2 := hB2.free; have hl2 := hB2.lt
          go_wp2_with fail
          (with_reducible apply bp_ret); (focus (go_light; simp [results, Tryz.results35, go_sem, *]; rfl))
          rw [Hr.out]
          exact ⟨ka3, kc3, la3, lc3, rfl, Hin3.out.keep (Held.kept (a := w4) (T := fun b => b ≠ w.heap.size + 2) Hxt) (fun b _ _ => trivial), Xt⟩
        | false =>
          have Hfo := Lib.hid hfo
          have Hr := Lib.hid (show diffV x y = (V.zero, 2) by unfold diffV; rw [if_neg (by rw [Hfx.out, Hfy.out, Hcl.out]; decide), Hout.out, if_pos hfo])
          clear hfo
          go_enter Tryz.func35, Tryz.ntmps35
          go_upto_region 1 with fail
          refine gen_world (R := fun wx => Box wx w.heap.size #[.int .i64 x.k, .int .i64 x.n, .string x.s, .slice ka x.keys.length kc, .slice la x.l.length lc] 25 ∧ Box wx (w.heap.size + 1) #[.int .i64 y.k, .int .i64 y.n, .string y.s, .slice kb y.keys.length kd, .slice lb y.l.length ld] 25 ∧ Box wx (w.heap.size + 2) #[.int .i64 0, .int .i64 0, .string ⟨#[]⟩, .slice none 0 0, .slice none 0 0] 25 ∧ Ext w wx) ⟨Bxt, Bxt, Bxt, Xt⟩ ?_
          rintro wa ⟨hB0, hB1, hB2, hxa⟩
          have hc0 := hB0.cells; have hf0 := hB0.free; have hl0 := hB0.lt
          go_wp2_with fail
          (refine (fine_any x ka kc la lc _ _ (by omega) (Hin.out.ext Xt)).mono ?_); rintro e w1 ⟨rfl, h_w1⟩
          rw [Hfx.out]
          clear hc0 hf0 hl0
          have hB0 := Box.ext h_w1 hB0
          have hB1 := Box.ext h_w1 hB1
          have hB2 := Box.ext h_w1 hB2
          have hx_w1 := hxa.trans h_w1
          clear h_w1 hxa
          have hc1 := hB1.cells; have hf1 := hB1.free; have hl1 := hB1.lt
          go_wp2_with fail
          (refine (fine_any y kb kd lb ld _ _ (by omega) (Hjn.out.ext Xt)).mono ?_); rintro e w2 ⟨rfl, h_w2⟩
          rw [Hfy.out]
          clear hc1 hf1 hl1
          have hB0 := Box.ext h_w2 hB0
          have hB1 := Box.ext h_w2 hB1
          have hB2 := Box.ext h_w2 hB2
          have hx_w2 := hx_w1.trans h_w2
          clear h_w2 hx_w1
          have hc1 := hB1.cells; have hf1 := hB1.free; have hl1 := hB1.lt
          go_wp2_with fail
          (refine (clean_any y.size y kb kd lb ld _ _ (Nat.le_refl _) (by omega) (Hjn.out.ext Xt)).mono ?_); rintro e w2c ⟨rfl, h_w2c⟩
          rw [Hcl.out]
          clear hc1 hf1 hl1
          have hB0 := Box.ext h_w2c hB0
          have hB1 := Box.ext h_w2c hB1
          have hB2 := Box.ext h_w2c hB2
          have hx_w2c := hx_w2.trans h_w2c
          clear h_w2c hx_w2
          have hc0 := hB0.cells; have hf0 := hB0.free; have hl0 := hB0.lt
          have hc1 := hB1.cells; have hf1 := hB1.free; have hl1 := hB1.lt
          go_wp2_with fail
          (refine (diffI_any y.size y x ka kc la lc kb kd lb ld (fun b => b < w.heap.size) _ (Nat.le_refl _) (fine_sound Hfy.out) (fine_sound Hfx.out) (by omega) (by omega) (Hin.out.ext Xt) (Hjn.out.ext Xt)).mono ?_)
          rw [Hout.out]
          rintro e w3 ⟨ka3, kc3, la3, lc3, rfl, hin3, h_w3⟩
          clear hc0 hf0 hl0 hc1 hf1 hl1
          have hzr := hB2.lt
          have Hin3 := Lib.hid (show out.In w3 (fun b => b ≠ w.heap.size + 2) ka3 kc3 la3 lc3 from hin3.mono fun b h _ => by rcases h with h | h; (have h := h; omega); omega)
          have hB0 := Box.ext h_w3 hB0
          have hB1 := Box.ext h_w3 hB1
          have hB2 := Box.ext h_w3 hB2
          have hx_w3 := hx_w2c.trans h_w3
          clear h_w3 hx_w2c
          clear hin3
          go_upto_region 4 with fail
          refine gen_world (R := fun wx => Box wx w.heap.size #[.int .i64 x.k, .int .i64 x.n, .string x.s, .slice ka x.keys.length kc, .slice la x.l.length lc] 25 ∧ Box wx (w.heap.size + 1) #[.int .i64 y.k, .int .i64 y.n, .string y.s, .slice kb y.keys.length kd, .slice lb y.l.length ld] 25 ∧ Box wx (w.heap.size + 2) #[.int .i64 0, .int .i64 0, .string ⟨#[]⟩, .slice none 0 0, .slice none 0 0] 25 ∧ Ext w wx ∧ Box wx w3.heap.size #[.int .i64 out.k, .int .i64 out.n, .string out.s, .slice ka3 out.keys.length kc3, .slice la3 out.l.length lc3] 25 ∧ out.In wx (fun b => b ≠ w.heap.size + 2) ka3 kc3 la3 lc3) ⟨Bxt, Bxt, Bxt, Xt, Bxt, Hin3.out.ext Xt⟩ ?_
          clear hB0 hB1 hB2 Hin3 hx_w3
          rintro wc ⟨hB0, hB1, hB2, hxc, hB3, hin3⟩
          have Hin3 := Lib.hid hin3
          clear hin3
          have hc3 := hB3.cells; have hf3 := hB3.free; have hl3 := hB3.lt
          go_wp2_with fail
          (refine (fine_any out ka3 kc3 la3 lc3 _ _ (by omega) (Hin3.out.ext Xt)).mono ?_); rintro e w4 ⟨rfl, h_w4⟩
          rw [Hfo.out]
          clear hc3 hf3 hl3
          have hB3 := Box.ext h_w4 hB3
          have Hin3 := Lib.hid (V.In.ext (w' := w4) Hin3.out h_w4)
          have hB0 := Box.ext h_w4 hB0
          have hB1 := Box.ext h_w4 hB1
          have hB2 := Box.ext h_w4 hB2
          have hx_w4 := hxc.trans h_w4
          clear h_w4 hxc
          have hc2 := hB2.cells; have hf2 := hB2.free; have hl2 := hB2.lt
          go_wp2_with fail
          (with_reducible apply bp_ret); (focus (go_light; simp [results, Tryz.results35, go_sem, *]; rfl))
          rw [Hr.out]
          exact ⟨none, 0, none, 0, rfl, V.zero_in _ _, Xt⟩

/-- What the laws' own merges asks. -/
theorem merges_facts : ∃ a p v : V, parseV (⟨#[123, 34, 97, 34, 58, 49, 44, 34, 98, 34, 58, 123, 34, 99, 34, 58, 50, 125, 125]⟩ : ByteArray).data.toList = (a, 0) ∧ parseV (⟨#[123, 34, 97, 34, 58, 110, 117, 108, 108, 44, 34, 98, 34, 58, 123, 34, 100, 34, 58, 51, 125, 125]⟩ : ByteArray).data.toList = (p, 0) ∧ mergeV a p = (v, 0) ∧
    printV v = ([123, 34, 98, 34, 58, 123, 34, 99, 34, 58, 50, 44, 34, 100, 34, 58, 51, 125, 125], 0) ∧ a.size ≤ 1073741824 ∧ p.size ≤ 1073741824 ∧ v.size ≤ 1073741824 :=
  ⟨.mk 5 0 ⟨#[]⟩ [⟨#[97]⟩, ⟨#[98]⟩] [.mk 2 1 ⟨#[]⟩ [] [], .mk 5 0 ⟨#[]⟩ [⟨#[99]⟩] [.mk 2 2 ⟨#[]⟩ [] []]], .mk 5 0 ⟨#[]⟩ [⟨#[97]⟩, ⟨#[98]⟩] [.mk 0 0 ⟨#[]⟩ [] [], .mk 5 0 ⟨#[]⟩ [⟨#[100]⟩] [.mk 2 3 ⟨#[]⟩ [] []]],
   .mk 5 0 ⟨#[]⟩ [⟨#[98]⟩] [.mk 5 0 ⟨#[]⟩ [⟨#[99]⟩, ⟨#[100]⟩] [.mk 2 2 ⟨#[]⟩ [] [], .mk 2 3 ⟨#[]⟩ [] []]], by kernel_rfl, by kernel_rfl, by kernel_rfl, by kernel_rfl, by decide +kernel, by decide +kernel, by decide +kernel⟩
set_option maxRecDepth 100000 in
set_option maxHeartbeats 8000000 in
theorem merges_keep (w : World) (hl : LibAt w) : Calls Tryz.prog 14 #[] w fun e w' => e = .returned (.bool true) ∧ Ext w w' := by
  obtain ⟨a, p, v, h1, h2, h3, h4, ha, hp, hv⟩ := merges_facts
  obtain ⟨q1, hq1⟩ : ∃ q : ByteArray, (⟨#[123, 34, 97, 34, 58, 49, 44, 34, 98, 34, 58, 123, 34, 99, 34, 58, 50, 125, 125]⟩ : ByteArray) = q := ⟨_, rfl⟩
  obtain ⟨q2, hq2⟩ : ∃ q : ByteArray, (⟨#[123, 34, 97, 34, 58, 110, 117, 108, 108, 44, 34, 98, 34, 58, 123, 34, 100, 34, 58, 51, 125, 125]⟩ : ByteArray) = q := ⟨_, rfl⟩
  have hs1 : q1.size ≤ 1099511627776 := by rw [← hq1]; decide
  have hs2 : q2.size ≤ 1099511627776 := by rw [← hq2]; decide
  have Hq1 := Lib.hid hq1
  have Hq2 := Lib.hid hq2
  rw [hq1] at h1
  rw [hq2] at h2
  have H1 := Lib.hid h1
  have H2 := Lib.hid h2
  have H3 := Lib.hid h3
  have H4 := Lib.hid h4
  clear hq1 hq2 h1 h2 h3 h4
  go_enter Tryz.func14, Tryz.ntmps14
  go_wp2_with fail
  rw [Hq1.out]
  (refine (parse_any q1 _ hs1 (hl.ext Xt)).mono ?_)
  rw [H1.out]
  rintro e w1 ⟨ka1, kc1, la1, lc1, rfl, hin1, h1⟩
  have hx1 : Ext w w1 := Xt
  have Hin1 := Lib.hid (all_in hin1)
  clear h1 hin1
  go_upto_region 2 with fail
  refine gen_world (R := fun wx => Box wx w1.heap.size #[.int .i64 a.k, .int .i64 a.n, .string a.s, .slice ka1 a.keys.length kc1, .slice la1 a.l.length lc1] 25 ∧ a.In wx All ka1 kc1 la1 lc1 ∧ Ext w wx) ⟨Bxt, Hin1.out.ext Xt, Xt⟩ ?_
  clear Hin1 hx1
  rintro wa ⟨hB1, hin1, hxa⟩
  have Hin1 := Lib.hid hin1
  clear hin1
  go_wp2_with fail
  rw [Hq2.out]
  (refine (parse_any q2 _ hs2 (hl.ext Xt)).mono ?_)
  rw [H2.out]
  rintro e w2 ⟨ka2, kc2, la2, lc2, rfl, hin2, h2⟩
  have hx2 := hxa.trans h2
  have hB1 := Box.ext h2 hB1
  have Hin1 := Lib.hid (V.In.ext (w' := w2) Hin1.out h2)
  have Hin2 := Lib.hid (all_in hin2)
  clear h2 hin2 hxa
  go_upto_region 3 with fail
  refine gen_world (R := fun wx => Box wx w1.heap.size #[.int .i64 a.k, .int .i64 a.n, .string a.s, .slice ka1 a.keys.length kc1, .slice la1 a.l.length lc1] 25 ∧ Box wx w2.heap.size #[.int .i64 p.k, .int .i64 p.n, .string p.s, .slice ka2 p.keys.length kc2, .slice la2 p.l.length lc2] 25 ∧ a.In wx All ka1 kc1 la1 lc1 ∧ p.In wx All ka2 kc2 la2 lc2 ∧ Ext w wx) ⟨Bxt, Bxt, Hin1.out.ext Xt, Hin2.out.ext Xt, Xt⟩ ?_
  clear hB1 Hin1 Hin2 hx2
  rintro wb ⟨hB1, hB2, hin1, hin2, hxb⟩
  have Hin1 := Lib.hid hin1
  have Hin2 := Lib.hid hin2
  clear hin1 hin2
  have hc1 := hB1.cells; have hf1 := hB1.free; have hl1 := hB1.lt
  have hc2 := hB2.cells; have hf2 := hB2.free; have hl2 := hB2.lt
  go_wp2_with fail
  (refine (merge_any a ka1 kc1 la1 lc1 p ka2 kc2 la2 lc2 _ ha hp (Hin1.out.ext Xt) (Hin2.out.ext Xt)).mono ?_)
  rw [H3.out]
  rintro e w3 ⟨ka3, kc3, la3, lc3, rfl, hin3, h3⟩
  have hx3 := hxb.trans h3
  have Hin3 := Lib.hid hin3
  clear h3 hin3 hxb hc1 hf1 hl1 hc2 hf2 hl2 hB1 hB2 Hin1 Hin2
  go_upto_region 4 with fail
  refine gen_world (R := fun wx => Box wx w3.heap.size #[.int .i64 v.k, .int .i64 v.n, .string v.s, .slice ka3 v.keys.length kc3, .slice la3 v.l.length lc3] 25 ∧ v.In wx All ka3 kc3 la3 lc3 ∧ Ext w wx) ⟨Bxt, Hin3.out.ext Xt, Xt⟩ ?_
  clear Hin3 hx3
  rintro wc ⟨hB3, hin3, hxc⟩
  have Hin3 := Lib.hid hin3
  clear hin3
  have hc3 := hB3.cells; have hf3 := hB3.free; have hl3 := hB3.lt
  go_wp2_with fail
  (refine (print_any v ka3 kc3 la3 lc3 _ _ hv (Hin3.out.ext Xt) (hl.ext Xt)).mono ?_)
  rw [H4.out]
  rintro e w4 ⟨rfl, h4⟩
  have e1 : (⟨([123, 34, 98, 34, 58, 123, 34, 99, 34, 58, 50, 44, 34, 100, 34, 58, 51, 125, 125] : Bytes).toArray⟩ : ByteArray) = ⟨#[123, 34, 98, 34, 58, 123, 34, 99, 34, 58, 50, 44, 34, 100, 34, 58, 51, 125, 125]⟩ := rfl
  simp only [e1]
  clear e1
  go_wp2_with fail
  go_ret
  exact ⟨by simp, Xt⟩
end Go.Proofs.YtnoijoglkbbgjaaGreatDoor
