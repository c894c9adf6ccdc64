/- PatchMoves: for every value and paths the law returns true (to move is to take away, and to add); the arguments hold together at most 1048576 values and letters; the library's listed variables as its text lays them. -/
import Derived.Test.YtnoijoglkbbgjaaGreatDoorPkC
import Derived.Test.YtnoijoglkbbgjaaGreatDoorLibAt
import Derived.Test.YtnoijoglkbbgjaaGreatDoorPkL
import Derived.Test.YtnoijoglkbbgjaaGreatDoorPatchK
import Derived.HandedShaped
import Derived.SevenTiedAt
set_option linter.all false
namespace Go.Proofs.YtnoijoglkbbgjaaGreatDoor.lawPatchMoves
open Go.ChangeShapes Go.WideShapes Go.ChangeAt Go.RowKit
open Go.ChangeMaps (open_string shut_string)
section
attribute [local go_sem ↓] Go.wp_at_zero Go.wp_at_succ

set_option maxRecDepth 100000 in
set_option maxHeartbeats 8000000 in
theorem walk (x : V) (ka0 : Option Addr) (kc0 : Nat) (la0 : Option Addr) (lc0 : Nat) (f p : ByteArray) (w : World) (hl : LibAt w) (hs0 : x.size ≤ 4194304) (hf : f.size ≤ 4194304) (hp : p.size ≤ 4194304) (hin0 : x.In w All ka0 kc0 la0 lc0) :
    Calls Tryz.prog 7 #[x.val ka0 kc0 la0 lc0, .string f, .string p] w fun e w' => e = .returned (.bool true) ∧ Ext w w' := by
  have Hin0 := Lib.hid hin0
  clear hin0
  obtain ⟨u, hu⟩ : ∃ u, (getP x f).1 = u := ⟨_, rfl⟩
  obtain ⟨e1, he1⟩ : ∃ e, (getP x f).2 = e := ⟨_, rfl⟩
  obtain ⟨v, hv⟩ : ∃ v, (oneV x ⟨4, p, f, V.zero⟩).1 = v := ⟨_, rfl⟩
  obtain ⟨e2, he2⟩ : ∃ e, (oneV x ⟨4, p, f, V.zero⟩).2 = e := ⟨_, rfl⟩
  have Hg := Lib.hid (show getP x f = (u, e1) from Prod.ext hu he1)
  have Ho := Lib.hid (show oneV x ⟨4, p, f, V.zero⟩ = (v, e2) from Prod.ext hv he2)
  have Hm := Lib.hid (show (v, e2) = if e1 ≠ 0 then (x, e1) else moveV x f p u by rw [← Ho.out, one_move, Hg.out])
  have hus := getP_size x f
  rw [hu] at hus
  have hvs := one_size x ⟨4, p, f, V.zero⟩
  rw [hv] at hvs
  have Hol := Lib.hid (show e2 ≠ 0 → v = x by have := (one_law x ⟨4, p, f, V.zero⟩).1; rw [hv, he2] at this; exact this)
  clear hu he1 hv he2
  by_cases h1 : e1 = 0
  · subst h1
    have Hm := Lib.hid (show (v, e2) = moveV x f p u by have := Hm.out; rwa [if_neg (by simp)] at this)
    by_cases h2 : e2 = 0
    · subst h2
      by_cases hfp : f = p
      · have Hvx := Lib.hid (show v = x by have := Hm.out; rw [hfp, move_self] at this; exact congrArg Prod.fst this)
        have hfb : (f.toList == p.toList) = true := by simp [hfp]
        have hfc : f.toList = p.toList := by rw [hfp]
        clear hfp
        go_enter Tryz.func7, Tryz.ntmps7
        go_upto_region 1 with fail
        refine gen_world (R := fun wx => Box wx w.heap.size #[.int .i64 x.k, .int .i64 x.n, .string x.s, .slice ka0 x.keys.length kc0, .slice la0 x.l.length lc0] 25 ∧ x.In wx All ka0 kc0 la0 lc0 ∧ Ext w wx) ⟨Bxt, Hin0.out.ext Xt, Xt⟩ ?_
        clear Hin0
        rintro wa ⟨hB0, hin0, hx_wa⟩
        have Hin0 := Lib.hid hin0
        clear hin0
        have hc0 := hB0.cells; have hf0 := hB0.free; have hl0 := hB0.lt
        go_wp2_with fail
        (refine (get_any x ka0 kc0 la0 lc0 All f _ (by omega) (Hin0.out.ext Xt) (by omega) (hl.ext Xt)).mono ?_)
        rw [Hg.out]
        rintro e w1 ⟨ka2, kc2, la2, lc2, rfl, hin_, h_w1⟩
        have hB0 := Box.ext h_w1 hB0
        have Hin0 := Lib.hid (V.In.ext (w' := w1) Hin0.out h_w1)
        have hx_w1 := hx_wa.trans h_w1
        clear hc0 hf0 hl0
        clear h_w1 hx_wa
        have Hin2 := Lib.hid (all_in hin_)
        clear hin_
        go_upto_region 2 with fail
        refine gen_world (R := fun wx => Box wx w.heap.size #[.int .i64 x.k, .int .i64 x.n, .string x.s, .slice ka0 x.keys.length kc0, .slice la0 x.l.length lc0] 25 ∧ x.In wx All ka0 kc0 la0 lc0 ∧ Box wx w1.heap.size #[.int .i64 u.k, .int .i64 u.n, .string u.s, .slice ka2 u.keys.length kc2, .slice la2 u.l.length lc2] 25 ∧ u.In wx All ka2 kc2 la2 lc2 ∧ Ext w wx) ⟨Bxt, Hin0.out.ext Xt, Bxt, Hin2.out.ext Xt, Xt⟩ ?_
        clear hB0 Hin0 Hin2 hx_w1
        rintro wvw1 ⟨hB0, hin0, hB2, hin2, hx_wvw1⟩
        have Hin0 := Lib.hid hin0
        have Hin2 := Lib.hid hin2
        clear hin0 hin2
        have hc0 := hB0.cells; have hf0 := hB0.free; have hl0 := hB0.lt
        go_wp2_with fail
        (refine (one_any x ka0 kc0 la0 lc0 4 p f V.zero none 0 none 0 _ (hl.ext Xt) (by omega) (by rw [V.size_eq]; decide) (by omega) (by omega) All (Hin0.out.ext Xt) (V.zero_in _ _)).mono ?_)
        rw [Ho.out]
        rintro e w2 ⟨ka3, kc3, la3, lc3, rfl, hin_, h_w2⟩
        have hB0 := Box.ext h_w2 hB0
        have Hin0 := Lib.hid (V.In.ext (w' := w2) Hin0.out h_w2)
        have hB2 := Box.ext h_w2 hB2
        have Hin2 := Lib.hid (V.In.ext (w' := w2) Hin2.out h_w2)
        have hx_w2 := hx_wvw1.trans h_w2
        clear hc0 hf0 hl0
        clear h_w2 hx_wvw1
        have Hin3 := Lib.hid (all_in hin_)
        clear hin_
        go_upto_region 3 with fail
        refine gen_world (R := fun wx => Box wx w.heap.size #[.int .i64 x.k, .int .i64 x.n, .string x.s, .slice ka0 x.keys.length kc0, .slice la0 x.l.length lc0] 25 ∧ x.In wx All ka0 kc0 la0 lc0 ∧ Box wx w1.heap.size #[.int .i64 u.k, .int .i64 u.n, .string u.s, .slice ka2 u.keys.length kc2, .slice la2 u.l.length lc2] 25 ∧ u.In wx All ka2 kc2 la2 lc2 ∧ Box wx w2.heap.size #[.int .i64 v.k, .int .i64 v.n, .string v.s, .slice ka3 v.keys.length kc3, .slice la3 v.l.length lc3] 25 ∧ v.In wx All ka3 kc3 la3 lc3 ∧ Ext w wx) ⟨Bxt, Hin0.out.ext Xt, Bxt, Hin2.out.ext Xt, Bxt, Hin3.out.ext Xt, Xt⟩ ?_
        clear hB0 Hin0 hB2 Hin2 Hin3 hx_w2
        rintro wvw2 ⟨hB0, hin0, hB2, hin2, hB3, hin3, hx_wvw2⟩
        have Hin0 := Lib.hid hin0
        have Hin2 := Lib.hid hin2
        have Hin3 := Lib.hid hin3
        clear hin0 hin2 hin3
        have hc0 := hB0.cells; have hf0 := hB0.free; have hl0 := hB0.lt
        have hc3 := hB3.cells; have hf3 := hB3.free; have hl3 := hB3.lt
        go_wp2_with fail
        (refine (same_any v x Hvx.out.symm (by omega) ka3 kc3 la3 lc3 ka0 kc0 la0 lc0 All All _ (Hin3.out.ext Xt) (Hin0.out.ext Xt)).mono ?_)
        rintro e w3 ⟨rfl, h_w3⟩
        have hB0 := Box.ext h_w3 hB0
        have Hin0 := Lib.hid (V.In.ext (w' := w3) Hin0.out h_w3)
        have hB2 := Box.ext h_w3 hB2
        have Hin2 := Lib.hid (V.In.ext (w' := w3) Hin2.out h_w3)
        have hB3 := Box.ext h_w3 hB3
        have Hin3 := Lib.hid (V.In.ext (w' := w3) Hin3.out h_w3)
        have hx_w3 := hx_wvw2.trans h_w3
        clear hc0 hf0 hl0 hc3 hf3 hl3
        clear h_w3 hx_wvw2
        go_wp2_with fail
        (refine (patches_keep _ (hl.ext Xt)).mono ?_)
        rintro e w4 ⟨rfl, h_w4⟩
        have hB0 := Box.ext h_w4 hB0
        have Hin0 := Lib.hid (V.In.ext (w' := w4) Hin0.out h_w4)
        have hB2 := Box.ext h_w4 hB2
        have Hin2 := Lib.hid (V.In.ext (w' := w4) Hin2.out h_w4)
        have hB3 := Box.ext h_w4 hB3
        have Hin3 := Lib.hid (V.In.ext (w' := w4) Hin3.out h_w4)
        have hx_w4 := hx_w3.trans h_w4
        clear h_w4 hx_w3
        go_wp2_with fail
        go_ret
        exact ⟨rfl, Xt⟩
      · have Hp := Lib.hid (move_parts (by rw [← Hm.out]) hfp)
        obtain ⟨r, hr⟩ : ∃ r, (remP x f).1 = r := ⟨_, rfl⟩
        have hrs := remP_size x f
        rw [hr] at hrs
        have Hrem := Lib.hid (show remP x f = (r, 0) from Prod.ext hr Hp.out.1)
        have Hadd := Lib.hid (show addP r p u = (v, 0) by
          obtain ⟨-, h3, h4⟩ := Hp.out
          rw [hr] at h3 h4
          rw [← Hm.out] at h4
          exact Prod.ext h4.symm h3)
        have hfb : (f.toList == p.toList) = false := by simpa using fun h => hfp (bytes_ext h)
        have hfc : ¬ f.toList = p.toList := fun h => hfp (bytes_ext h)
        clear hr hfp
        go_enter Tryz.func7, Tryz.ntmps7
        go_upto_region 1 with fail
        refine gen_world (R := fun wx => Box wx w.heap.size #[.int .i64 x.k, .int .i64 x.n, .string x.s, .slice ka0 x.keys.length kc0, .slice la0 x.l.length lc0] 25 ∧ x.In wx All ka0 kc0 la0 lc0 ∧ Ext w wx) ⟨Bxt, Hin0.out.ext Xt, Xt⟩ ?_
        clear Hin0
        rintro wa ⟨hB0, hin0, hx_wa⟩
        have Hin0 := Lib.hid hin0
        clear hin0
        have hc0 := hB0.cells; have hf0 := hB0.free; have hl0 := hB0.lt
        go_wp2_with fail
        (refine (get_any x ka0 kc0 la0 lc0 All f _ (by omega) (Hin0.out.ext Xt) (by omega) (hl.ext Xt)).mono ?_)
        rw [Hg.out]
        rintro e w1 ⟨ka2, kc2, la2, lc2, rfl, hin_, h_w1⟩
        have hB0 := Box.ext h_w1 hB0
        have Hin0 := Lib.hid (V.In.ext (w' := w1) Hin0.out h_w1)
        have hx_w1 := hx_wa.trans h_w1
        clear hc0 hf0 hl0
        clear h_w1 hx_wa
        have Hin2 := Lib.hid (all_in hin_)
        clear hin_
        go_upto_region 2 with fail
        refine gen_world (R := fun wx => Box wx w.heap.size #[.int .i64 x.k, .int .i64 x.n, .string x.s, .slice ka0 x.keys.length kc0, .slice la0 x.l.length lc0] 25 ∧ x.In wx All ka0 kc0 la0 lc0 ∧ Box wx w1.heap.size #[.int .i64 u.k, .int .i64 u.n, .string u.s, .slice ka2 u.keys.length kc2, .slice la2 u.l.length lc2] 25 ∧ u.In wx All ka2 kc2 la2 lc2 ∧ Ext w wx) ⟨Bxt, Hin0.out.ext Xt, Bxt, Hin2.out.ext Xt, Xt⟩ ?_
        clear hB0 Hin0 Hin2 hx_w1
        rintro wvw1 ⟨hB0, hin0, hB2, hin2, hx_wvw1⟩
        have Hin0 := Lib.hid hin0
        have Hin2 := Lib.hid hin2
        clear hin0 hin2
        have hc0 := hB0.cells; have hf0 := hB0.free; have hl0 := hB0.lt
        go_wp2_with fail
        (refine (one_any x ka0 kc0 la0 lc0 4 p f V.zero none 0 none 0 _ (hl.ext Xt) (by omega) (by rw [V.size_eq]; decide) (by omega) (by omega) All (Hin0.out.ext Xt) (V.zero_in _ _)).mono ?_)
        rw [Ho.out]
        rintro e w2 ⟨ka3, kc3, la3, lc3, rfl, hin_, h_w2⟩
        have hB0 := Box.ext h_w2 hB0
        have Hin0 := Lib.hid (V.In.ext (w' := w2) Hin0.out h_w2)
        have hB2 := Box.ext h_w2 hB2
        have Hin2 := Lib.hid (V.In.ext (w' := w2) Hin2.out h_w2)
        have hx_w2 := hx_wvw1.trans h_w2
        clear hc0 hf0 hl0
        clear h_w2 hx_wvw1
        have Hin3 := Lib.hid (all_in hin_)
        clear hin_
        go_upto_region 3 with fail
        refine gen_world (R := fun wx => Box wx w.heap.size #[.int .i64 x.k, .int .i64 x.n, .string x.s, .slice ka0 x.keys.length kc0, .slice la0 x.l.length lc0] 25 ∧ x.In wx All ka0 kc0 la0 lc0 ∧ Box wx w1.heap.size #[.int .i64 u.k, .int .i64 u.n, .string u.s, .slice ka2 u.keys.length kc2, .slice la2 u.l.length lc2] 25 ∧ u.In wx All ka2 kc2 la2 lc2 ∧ Box wx w2.heap.size #[.int .i64 v.k, .int .i64 v.n, .string v.s, .slice ka3 v.keys.length kc3, .slice la3 v.l.length lc3] 25 ∧ v.In wx All ka3 kc3 la3 lc3 ∧ Ext w wx) ⟨Bxt, Hin0.out.ext Xt, Bxt, Hin2.out.ext Xt, Bxt, Hin3.out.ext Xt, Xt⟩ ?_
        clear hB0 Hin0 hB2 Hin2 Hin3 hx_w2
        rintro wvw2 ⟨hB0, hin0, hB2, hin2, hB3, hin3, hx_wvw2⟩
        have Hin0 := Lib.hid hin0
        have Hin2 := Lib.hid hin2
        have Hin3 := Lib.hid hin3
        clear hin0 hin2 hin3
        go_wp2_with fail
        (refine (patches_keep _ (hl.ext Xt)).mono ?_)
        rintro e w3 ⟨rfl, h_w3⟩
        have hB0 := Box.ext h_w3 hB0
        have Hin0 := Lib.hid (V.In.ext (w' := w3) Hin0.out h_w3)
        have hB2 := Box.ext h_w3 hB2
        have Hin2 := Lib.hid (V.In.ext (w' := w3) Hin2.out h_w3)
        have hB3 := Box.ext h_w3 hB3
        have Hin3 := Lib.hid (V.In.ext (w' := w3) Hin3.out h_w3)
        have hx_w3 := hx_wvw2.trans h_w3
        clear h_w3 hx_wvw2
        have hc0 := hB0.cells; have hf0 := hB0.free; have hl0 := hB0.lt
        go_wp2_with fail
        (refine (rem_any x ka0 kc0 la0 lc0 f All _ (hl.ext Xt) (by omega) (by omega) (Hin0.out.ext Xt)).mono ?_)
        rw [Hrem.out]
        rintro e w4 ⟨ka4, kc4, la4, lc4, rfl, hin_, h_w4⟩
        have hB0 := Box.ext h_w4 hB0
        have Hin0 := Lib.hid (V.In.ext (w' := w4) Hin0.out h_w4)
        have hB2 := Box.ext h_w4 hB2
        have Hin2 := Lib.hid (V.In.ext (w' := w4) Hin2.out h_w4)
        have hB3 := Box.ext h_w4 hB3
        have Hin3 := Lib.hid (V.In.ext (w' := w4) Hin3.out h_w4)
        have hx_w4 := hx_w3.trans h_w4
        clear hc0 hf0 hl0
        clear h_w4 hx_w3
        have Hin4 := Lib.hid (all_in hin_)
        clear hin_
        go_upto_region 6 with fail
        refine gen_world (R := fun wx => Box wx w.heap.size #[.int .i64 x.k, .int .i64 x.n, .string x.s, .slice ka0 x.keys.length kc0, .slice la0 x.l.length lc0] 25 ∧ x.In wx All ka0 kc0 la0 lc0 ∧ Box wx w1.heap.size #[.int .i64 u.k, .int .i64 u.n, .string u.s, .slice ka2 u.keys.length kc2, .slice la2 u.l.length lc2] 25 ∧ u.In wx All ka2 kc2 la2 lc2 ∧ Box wx w2.heap.size #[.int .i64 v.k, .int .i64 v.n, .string v.s, .slice ka3 v.keys.length kc3, .slice la3 v.l.length lc3] 25 ∧ v.In wx All ka3 kc3 la3 lc3 ∧ Box wx w4.heap.size #[.int .i64 r.k, .int .i64 r.n, .string r.s, .slice ka4 r.keys.length kc4, .slice la4 r.l.length lc4] 25 ∧ r.In wx All ka4 kc4 la4 lc4 ∧ Ext w wx) ⟨Bxt, Hin0.out.ext Xt, Bxt, Hin2.out.ext Xt, Bxt, Hin3.out.ext Xt, Bxt, Hin4.out.ext Xt, Xt⟩ ?_
        clear hB0 Hin0 hB2 Hin2 hB3 Hin3 Hin4 hx_w4
        rintro wvw4 ⟨hB0, hin0, hB2, hin2, hB3, hin3, hB4, hin4, hx_wvw4⟩
        have Hin0 := Lib.hid hin0
        have Hin2 := Lib.hid hin2
        have Hin3 := Lib.hid hin3
        have Hin4 := Lib.hid hin4
        clear hin0 hin2 hin3 hin4
        have hc2 := hB2.cells; have hf2 := hB2.free; have hl2 := hB2.lt
        have hc4 := hB4.cells; have hf4 := hB4.free; have hl4 := hB4.lt
        go_wp2_with fail
        (refine (add_any u ka2 kc2 la2 lc2 r ka4 kc4 la4 lc4 p All _ (hl.ext Xt) (by omega) (by omega) (by omega) (Hin4.out.ext Xt) (Hin2.out.ext Xt)).mono ?_)
        rw [Hadd.out]
        rintro e w5 ⟨ka5, kc5, la5, lc5, rfl, hin_, h_w5⟩
        have hB0 := Box.ext h_w5 hB0
        have Hin0 := Lib.hid (V.In.ext (w' := w5) Hin0.out h_w5)
        have hB2 := Box.ext h_w5 hB2
        have Hin2 := Lib.hid (V.In.ext (w' := w5) Hin2.out h_w5)
        have hB3 := Box.ext h_w5 hB3
        have Hin3 := Lib.hid (V.In.ext (w' := w5) Hin3.out h_w5)
        have hB4 := Box.ext h_w5 hB4
        have Hin4 := Lib.hid (V.In.ext (w' := w5) Hin4.out h_w5)
        have hx_w5 := hx_wvw4.trans h_w5
        clear hc2 hf2 hl2 hc4 hf4 hl4
        clear h_w5 hx_wvw4
        have Hin5 := Lib.hid (all_in hin_)
        clear hin_
        go_upto_region 7 with fail
        refine gen_world (R := fun wx => Box wx w.heap.size #[.int .i64 x.k, .int .i64 x.n, .string x.s, .slice ka0 x.keys.length kc0, .slice la0 x.l.length lc0] 25 ∧ x.In wx All ka0 kc0 la0 lc0 ∧ Box wx w1.heap.size #[.int .i64 u.k, .int .i64 u.n, .string u.s, .slice ka2 u.keys.length kc2, .slice la2 u.l.length lc2] 25 ∧ u.In wx All ka2 kc2 la2 lc2 ∧ Box wx w2.heap.size #[.int .i64 v.k, .int .i64 v.n, .string v.s, .slice ka3 v.keys.length kc3, .slice la3 v.l.length lc3] 25 ∧ v.In wx All ka3 kc3 la3 lc3 ∧ Box wx w4.heap.size #[.int .i64 r.k, .int .i64 r.n, .string r.s, .slice ka4 r.keys.length kc4, .slice la4 r.l.length lc4] 25 ∧ r.In wx All ka4 kc4 la4 lc4 ∧ Box wx w5.heap.size #[.int .i64 v.k, .int .i64 v.n, .string v.s, .slice ka5 v.keys.length kc5, .slice la5 v.l.length lc5] 25 ∧ v.In wx All ka5 kc5 la5 lc5 ∧ Ext w wx) ⟨Bxt, Hin0.out.ext Xt, Bxt, Hin2.out.ext Xt, Bxt, Hin3.out.ext Xt, Bxt, Hin4.out.ext Xt, Bxt, Hin5.out.ext Xt, Xt⟩ ?_
        clear hB0 Hin0 hB2 Hin2 hB3 Hin3 hB4 Hin4 Hin5 hx_w5
        rintro wvw5 ⟨hB0, hin0, hB2, hin2, hB3, hin3, hB4, hin4, hB5, hin5, hx_wvw5⟩
        have Hin0 := Lib.hid hin0
        have Hin2 := Lib.hid hin2
        have Hin3 := Lib.hid hin3
        have Hin4 := Lib.hid hin4
        have Hin5 := Lib.hid hin5
        clear hin0 hin2 hin3 hin4 hin5
        have hc3 := hB3.cells; have hf3 := hB3.free; have hl3 := hB3.lt
        have hc5 := hB5.cells; have hf5 := hB5.free; have hl5 := hB5.lt
        go_wp2_with fail
        (refine (same_any v v rfl (by omega) ka5 kc5 la5 lc5 ka3 kc3 la3 lc3 All All _ (Hin5.out.ext Xt) (Hin3.out.ext Xt)).mono ?_)
        rintro e w6 ⟨rfl, h_w6⟩
        have hB0 := Box.ext h_w6 hB0
        have Hin0 := Lib.hid (V.In.ext (w' := w6) Hin0.out h_w6)
        have hB2 := Box.ext h_w6 hB2
        have Hin2 := Lib.hid (V.In.ext (w' := w6) Hin2.out h_w6)
        have hB3 := Box.ext h_w6 hB3
        have Hin3 := Lib.hid (V.In.ext (w' := w6) Hin3.out h_w6)
        have hB4 := Box.ext h_w6 hB4
        have Hin4 := Lib.hid (V.In.ext (w' := w6) Hin4.out h_w6)
        have hB5 := Box.ext h_w6 hB5
        have Hin5 := Lib.hid (V.In.ext (w' := w6) Hin5.out h_w6)
        have hx_w6 := hx_wvw5.trans h_w6
        clear hc3 hf3 hl3 hc5 hf5 hl5
        clear h_w6 hx_wvw5
        go_wp2_with fail
        go_ret
        exact ⟨rfl, Xt⟩
    · have h2b : (e2 != 0) = true := by simpa using h2
      have h2c : (e2 == 0) = false := by simpa using h2
      clear h2
      go_enter Tryz.func7, Tryz.ntmps7
      go_upto_region 1 with fail
      refine gen_world (R := fun wx => Box wx w.heap.size #[.int .i64 x.k, .int .i64 x.n, .string x.s, .slice ka0 x.keys.length kc0, .slice la0 x.l.length lc0] 25 ∧ x.In wx All ka0 kc0 la0 lc0 ∧ Ext w wx) ⟨Bxt, Hin0.out.ext Xt, Xt⟩ ?_
      clear Hin0
      rintro wa ⟨hB0, hin0, hx_wa⟩
      have Hin0 := Lib.hid hin0
      clear hin0
      have hc0 := hB0.cells; have hf0 := hB0.free; have hl0 := hB0.lt
      go_wp2_with fail
      (refine (get_any x ka0 kc0 la0 lc0 All f _ (by omega) (Hin0.out.ext Xt) (by omega) (hl.ext Xt)).mono ?_)
      rw [Hg.out]
      rintro e w1 ⟨ka2, kc2, la2, lc2, rfl, hin_, h_w1⟩
      have hB0 := Box.ext h_w1 hB0
      have Hin0 := Lib.hid (V.In.ext (w' := w1) Hin0.out h_w1)
      have hx_w1 := hx_wa.trans h_w1
      clear hc0 hf0 hl0
      clear h_w1 hx_wa
      have Hin2 := Lib.hid (all_in hin_)
      clear hin_
      go_upto_region 2 with fail
      refine gen_world (R := fun wx => Box wx w.heap.size #[.int .i64 x.k, .int .i64 x.n, .string x.s, .slice ka0 x.keys.length kc0, .slice la0 x.l.length lc0] 25 ∧ x.In wx All ka0 kc0 la0 lc0 ∧ Box wx w1.heap.size #[.int .i64 u.k, .int .i64 u.n, .string u.s, .slice ka2 u.keys.length kc2, .slice la2 u.l.length lc2] 25 ∧ u.In wx All ka2 kc2 la2 lc2 ∧ Ext w wx) ⟨Bxt, Hin0.out.ext Xt, Bxt, Hin2.out.ext Xt, Xt⟩ ?_
      clear hB0 Hin0 Hin2 hx_w1
      rintro wvw1 ⟨hB0, hin0, hB2, hin2, hx_wvw1⟩
      have Hin0 := Lib.hid hin0
      have Hin2 := Lib.hid hin2
      clear hin0 hin2
      have hc0 := hB0.cells; have hf0 := hB0.free; have hl0 := hB0.lt
      go_wp2_with fail
      (refine (one_any x ka0 kc0 la0 lc0 4 p f V.zero none 0 none 0 _ (hl.ext Xt) (by omega) (by rw [V.size_eq]; decide) (by omega) (by omega) All (Hin0.out.ext Xt) (V.zero_in _ _)).mono ?_)
      rw [Ho.out]
      rintro e w2 ⟨ka3, kc3, la3, lc3, rfl, hin_, h_w2⟩
      have hB0 := Box.ext h_w2 hB0
      have Hin0 := Lib.hid (V.In.ext (w' := w2) Hin0.out h_w2)
      have hB2 := Box.ext h_w2 hB2
      have Hin2 := Lib.hid (V.In.ext (w' := w2) Hin2.out h_w2)
      have hx_w2 := hx_wvw1.trans h_w2
      clear hc0 hf0 hl0
      clear h_w2 hx_wvw1
      have Hin3 := Lib.hid (all_in hin_)
      clear hin_
      go_upto_region 3 with fail
      refine gen_world (R := fun wx => Box wx w.heap.size #[.int .i64 x.k, .int .i64 x.n, .string x.s, .slice ka0 x.keys.length kc0, .slice la0 x.l.length lc0] 25 ∧ x.In wx All ka0 kc0 la0 lc0 ∧ Box wx w1.heap.size #[.int .i64 u.k, .int .i64 u.n, .string u.s, .slice ka2 u.keys.length kc2, .slice la2 u.l.length lc2] 25 ∧ u.In wx All ka2 kc2 la2 lc2 ∧ Box wx w2.heap.size #[.int .i64 v.k, .int .i64 v.n, .string v.s, .slice ka3 v.keys.length kc3, .slice la3 v.l.length lc3] 25 ∧ v.In wx All ka3 kc3 la3 lc3 ∧ Ext w wx) ⟨Bxt, Hin0.out.ext Xt, Bxt, Hin2.out.ext Xt, Bxt, Hin3.out.ext Xt, Xt⟩ ?_
      clear hB0 Hin0 hB2 Hin2 Hin3 hx_w2
      rintro wvw2 ⟨hB0, hin0, hB2, hin2, hB3, hin3, hx_wvw2⟩
      have Hin0 := Lib.hid hin0
      have Hin2 := Lib.hid hin2
      have Hin3 := Lib.hid hin3
      clear hin0 hin2 hin3
      go_wp2_with fail
      (refine (patches_keep _ (hl.ext Xt)).mono ?_)
      rintro e w3 ⟨rfl, h_w3⟩
      have hB0 := Box.ext h_w3 hB0
      have Hin0 := Lib.hid (V.In.ext (w' := w3) Hin0.out h_w3)
      have hB2 := Box.ext h_w3 hB2
      have Hin2 := Lib.hid (V.In.ext (w' := w3) Hin2.out h_w3)
      have hB3 := Box.ext h_w3 hB3
      have Hin3 := Lib.hid (V.In.ext (w' := w3) Hin3.out h_w3)
      have hx_w3 := hx_wvw2.trans h_w3
      clear h_w3 hx_wvw2
      go_wp2_with fail
      go_ret
      exact ⟨rfl, Xt⟩
  · have H2 := Lib.hid (show v = x ∧ e2 = e1 by have := Hm.out; rw [if_pos h1] at this; exact ⟨congrArg Prod.fst this, congrArg Prod.snd this⟩)
    obtain rfl : e2 = e1 := H2.out.2
    have h1b : (e2 != 0) = true := by simpa using h1
    have h1c : (e2 == 0) = false := by simpa using h1
    clear h1
    go_enter Tryz.func7, Tryz.ntmps7
    go_upto_region 1 with fail
    refine gen_world (R := fun wx => Box wx w.heap.size #[.int .i64 x.k, .int .i64 x.n, .string x.s, .slice ka0 x.keys.length kc0, .slice la0 x.l.length lc0] 25 ∧ x.In wx All ka0 kc0 la0 lc0 ∧ Ext w wx) ⟨Bxt, Hin0.out.ext Xt, Xt⟩ ?_
    clear Hin0
    rintro wa ⟨hB0, hin0, hx_wa⟩
    have Hin0 := Lib.hid hin0
    clear hin0
    have hc0 := hB0.cells; have hf0 := hB0.free; have hl0 := hB0.lt
    go_wp2_with fail
    (refine (get_any x ka0 kc0 la0 lc0 All f _ (by omega) (Hin0.out.ext Xt) (by omega) (hl.ext Xt)).mono ?_)
    rw [Hg.out]
    rintro e w1 ⟨ka2, kc2, la2, lc2, rfl, hin_, h_w1⟩
    have hB0 := Box.ext h_w1 hB0
    have Hin0 := Lib.hid (V.In.ext (w' := w1) Hin0.out h_w1)
    have hx_w1 := hx_wa.trans h_w1
    clear hc0 hf0 hl0
    clear h_w1 hx_wa
    have Hin2 := Lib.hid (all_in hin_)
    clear hin_
    go_upto_region 2 with fail
    refine gen_world (R := fun wx => Box wx w.heap.size #[.int .i64 x.k, .int .i64 x.n, .string x.s, .slice ka0 x.keys.length kc0, .slice la0 x.l.length lc0] 25 ∧ x.In wx All ka0 kc0 la0 lc0 ∧ Box wx w1.heap.size #[.int .i64 u.k, .int .i64 u.n, .string u.s, .slice ka2 u.keys.length kc2, .slice la2 u.l.length lc2] 25 ∧ u.In wx All ka2 kc2 la2 lc2 ∧ Ext w wx) ⟨Bxt, Hin0.out.ext Xt, Bxt, Hin2.out.ext Xt, Xt⟩ ?_
    clear hB0 Hin0 Hin2 hx_w1
    rintro wvw1 ⟨hB0, hin0, hB2, hin2, hx_wvw1⟩
    have Hin0 := Lib.hid hin0
    have Hin2 := Lib.hid hin2
    clear hin0 hin2
    have hc0 := hB0.cells; have hf0 := hB0.free; have hl0 := hB0.lt
    go_wp2_with fail
    (refine (one_any x ka0 kc0 la0 lc0 4 p f V.zero none 0 none 0 _ (hl.ext Xt) (by omega) (by rw [V.size_eq]; decide) (by omega) (by omega) All (Hin0.out.ext Xt) (V.zero_in _ _)).mono ?_)
    rw [Ho.out]
    rintro e w2 ⟨ka3, kc3, la3, lc3, rfl, hin_, h_w2⟩
    have hB0 := Box.ext h_w2 hB0
    have Hin0 := Lib.hid (V.In.ext (w' := w2) Hin0.out h_w2)
    have hB2 := Box.ext h_w2 hB2
    have Hin2 := Lib.hid (V.In.ext (w' := w2) Hin2.out h_w2)
    have hx_w2 := hx_wvw1.trans h_w2
    clear hc0 hf0 hl0
    clear h_w2 hx_wvw1
    have Hin3 := Lib.hid (all_in hin_)
    clear hin_
    go_upto_region 3 with fail
    refine gen_world (R := fun wx => Box wx w.heap.size #[.int .i64 x.k, .int .i64 x.n, .string x.s, .slice ka0 x.keys.length kc0, .slice la0 x.l.length lc0] 25 ∧ x.In wx All ka0 kc0 la0 lc0 ∧ Box wx w1.heap.size #[.int .i64 u.k, .int .i64 u.n, .string u.s, .slice ka2 u.keys.length kc2, .slice la2 u.l.length lc2] 25 ∧ u.In wx All ka2 kc2 la2 lc2 ∧ Box wx w2.heap.size #[.int .i64 v.k, .int .i64 v.n, .string v.s, .slice ka3 v.keys.length kc3, .slice la3 v.l.length lc3] 25 ∧ v.In wx All ka3 kc3 la3 lc3 ∧ Ext w wx) ⟨Bxt, Hin0.out.ext Xt, Bxt, Hin2.out.ext Xt, Bxt, Hin3.out.ext Xt, Xt⟩ ?_
    clear hB0 Hin0 hB2 Hin2 Hin3 hx_w2
    rintro wvw2 ⟨hB0, hin0, hB2, hin2, hB3, hin3, hx_wvw2⟩
    have Hin0 := Lib.hid hin0
    have Hin2 := Lib.hid hin2
    have Hin3 := Lib.hid hin3
    clear hin0 hin2 hin3
    go_wp2_with fail
    (refine (patches_keep _ (hl.ext Xt)).mono ?_)
    rintro e w3 ⟨rfl, h_w3⟩
    have hB0 := Box.ext h_w3 hB0
    have Hin0 := Lib.hid (V.In.ext (w' := w3) Hin0.out h_w3)
    have hB2 := Box.ext h_w3 hB2
    have Hin2 := Lib.hid (V.In.ext (w' := w3) Hin2.out h_w3)
    have hB3 := Box.ext h_w3 hB3
    have Hin3 := Lib.hid (V.In.ext (w' := w3) Hin3.out h_w3)
    have hx_w3 := hx_wvw2.trans h_w3
    clear h_w3 hx_wvw2
    go_wp2_with fail
    go_ret
    exact ⟨rfl, Xt⟩
end
set_option maxRecDepth 100000 in
theorem lifted (os : Os) (started : os.Started) (H : Type) (enc : TypeId × Value → H) (Fi : Stop.Interp) :
    ReturnsInHanded {} Tryz.checked os 7 .any ((Rows.OpenSpec.upto Rows.patchMovesSpec).preRow enc Tryz.prog Tryz.f7 Rows.patchMovesUptoRow.domain false Rows.patchMovesUptoRow.laid) (((Rows.OpenSpec.upto Rows.patchMovesSpec).at Fi).post enc Tryz.prog Tryz.f7 false true false false) := by
  obtain ⟨places, hx⟩ : ∃ places, DataW.whole enc Tryz.prog ((start.laidWorld os).forCall (fun _ _ => 0) ⟨#[], #[.agg #[.int .i64 0, .int .i64 0, .string ⟨#[]⟩, .slice none 0 0, .slice none 0 0], .string ⟨#[]⟩, .string ⟨#[]⟩], []⟩).memory Tryz.f7.params.toList Rows.patchMovesSpec.vars false (#[.agg #[.int .i64 0, .int .i64 0, .string ⟨#[]⟩, .slice none 0 0, .slice none 0 0], .string ⟨#[]⟩, .string ⟨#[]⟩]).toList 8 = some ([.agg [.lit (.int .i64 0), .lit (.int .i64 0), .lit (.string []), .nil, .nil], .lit (.string []), .lit (.string [])], [], places) := ⟨[], by kernel_rfl⟩
  refine returnsInHanded_of_row (C := Tryz.checked) (s := Rows.OpenSpec.upto Rows.patchMovesSpec) Tryz.own started (by kernel_rfl) Tryz.func7
    (witness_row_atRef (enc := enc) (C := Tryz.checked) false (start.laidWorld os) #[.agg #[.int .i64 0, .int .i64 0, .string ⟨#[]⟩, .slice none 0 0, .slice none 0 0], .string ⟨#[]⟩, .string ⟨#[]⟩] rfl (by kernel_rfl) (by kernel_rfl) (by kernel_rfl)
      (OpenSpec.preRow_of_cond 8 hx (by kernel_rfl) (fun k hk => by cases hk; kernel_rfl) (by kernel_rfl) (start.laid_met os _))) ?_
  intro W base args ds gs before hval0 hW _ hk _ hL hsh _
  have hkb := hk _ rfl
  have hval : ∀ (j : Nat) t v, Tryz.f7.params[j]? = some t → args[j]? = some v → Value.okWide Tryz.prog W .any base t v := hval0
  have hW' := hW
  obtain ⟨p, q, hA0, hV, rfl, hfz, hnd⟩ := hW
  have hA : DataW.TrodAll enc Tryz.prog W 0 (fun _ => true) true Tryz.f7.params.toList args.toList ds p := hA0
  rw [Tryz.params7] at hA hval
  obtain ⟨v0, vs0, d0, ds0, p0, q0, hargs, rfl, rfl, h0, r0⟩ := trodAll_cons hA
  obtain ⟨v1, vs1, d1, ds1, p1, q1, rfl, rfl, rfl, h1, r1⟩ := trodAll_cons r0
  obtain ⟨v2, vs2, d2, ds2, p2, q2, rfl, rfl, rfl, h2, r2⟩ := trodAll_cons r1
  obtain ⟨rfl, rfl, rfl⟩ := trodAll_nil r2
  obtain rfl : args = #[v0, v1, v2] := by cases args; simp_all
  obtain ⟨rfl, rfl⟩ := trodVars_none hV
  have hbulk : Rows.uptoBulkAll [d0, d1, d2] ≤ 1048576 := by simpa [Rows.uptoSmall] using hkb
  have k0 := h0
  have k1 := h1
  have k2 := h2
  have lt0 : ∀ x ∈ p0, x.block < W.heap.size := by obtain ⟨m, hm⟩ := k0; exact DataW.trod_lt m _ _ _ hm
  have lt1 : ∀ x ∈ p1, x.block < W.heap.size := by obtain ⟨m, hm⟩ := k1; exact DataW.trod_lt m _ _ _ hm
  have lt2 : ∀ x ∈ p2, x.block < W.heap.size := by obtain ⟨m, hm⟩ := k2; exact DataW.trod_lt m _ _ _ hm
  have hlib := libAt_of hsh hL
  obtain ⟨x0, ka0, kc0, la0, lc0, rfl, hin0, hxb0⟩ := open_value (hval 0 25 v0 rfl rfl) h0
  obtain ⟨s1, rfl, rfl, rfl, ws1⟩ := open_string Tryz.underlying9 (hval 1 9 v1 rfl rfl) h1
  obtain ⟨s2, rfl, rfl, rfl, ws2⟩ := open_string Tryz.underlying9 (hval 2 9 v2 rfl rfl) h2
  simp only [Rows.uptoBulkAll, Rows.uptoBulk] at hbulk
  have hlen1 : s1.data.toList.length = s1.size := Array.length_toList
  have hlen2 : s2.data.toList.length = s2.size := Array.length_toList
  clear hA0 hval0
  refine (walk x0 ka0 kc0 la0 lc0 s1 s2 W hlib (by omega) (by omega) (by omega) (all_in hin0)).mono fun e W' ⟨he, bel⟩ => ?_
  subst he
  exact ⟨_, rfl, _, _, _, [], _, [], hW', trodAll_mk1 (shut_bool Tryz.underlying4 _), (trodAll_cons_mk (Below.trod Tryz.laidOut (by kernel_rfl) (of_decide_eq_true (by kernel_rfl)) k0 bel lt0) (trodAll_cons_mk (Below.trod Tryz.laidOut (by kernel_rfl) (of_decide_eq_true (by kernel_rfl)) k1 bel lt1) (trodAll_cons_mk (Below.trod Tryz.laidOut (by kernel_rfl) (of_decide_eq_true (by kernel_rfl)) k2 bel lt2) trodAll_mk0))), rfl, Below.frame bel _, fun h => by cases h⟩
theorem said : Rows.PatchMovesUptoSaid :=
  OpenClaim.holds_of_cond 7 Tryz.f7 rfl rfl rfl rfl rfl rfl rfl ⟨rfl, rfl, rfl, rfl, rfl⟩ rfl rfl rfl rfl rfl (by kernel_rfl) Tryz.func7 (by kernel_rfl)
    (of_decide_eq_true (by kernel_rfl)) (by unfold Func.isWrapper; first | (rw [if_pos (by decide +kernel)]; kernel_rfl) | (rw [if_neg (by decide +kernel)]; exact ⟨rfl, rfl⟩))
    (fun os started H enc _ F => by rw [OpenClaim.pre_eq_preRow]; exact lifted os started H enc F)
theorem plain (f : FuncId) (fn : Func) (hf : Tryz.pinned.checked.prog.funcNamed "stairwell/stairwellkeep.PatchMoves" = some f) (hfn : Tryz.pinned.checked.prog.funcs[f]? = some fn) :
    true = Tryz.pinned.checked.prog.looks [] ∧ ∀ (j : Nat) t, fn.params[j]? = some t → Tryz.pinned.checked.prog.wantsStandIn t = false := by
  obtain rfl : f = 7 := Option.some.inj ((show Tryz.prog.funcNamed "stairwell/stairwellkeep.PatchMoves" = some 7 by kernel_rfl).symm.trans hf) |>.symm
  obtain rfl : fn = Tryz.f7 := (Option.some.inj (Tryz.func7.symm.trans hfn)).symm
  refine ⟨by kernel_rfl, fun j t ht => ?_⟩
  rw [Tryz.params7] at ht
  have h : t = 25 ∨ t = 9 := by simpa using Array.mem_of_getElem? ht
  rcases h with rfl | rfl
  · exact (show Tryz.prog.wantsStandIn 25 = false by kernel_rfl)
  · exact (show Tryz.prog.wantsStandIn 9 = false by kernel_rfl)
theorem proved : Rows.PatchMovesUptoCardSaid :=
  Claim7.holds_tied_plain_at .later [] _ _ _ _ said (fun _ h => by cases h) (by kernel_rfl) (fun _ h => by cases h) patchMovesUpto_row_tie rfl ⟨rfl, rfl⟩ (by kernel_rfl) rfl plain (by kernel_rfl)
end Go.Proofs.YtnoijoglkbbgjaaGreatDoor.lawPatchMoves
