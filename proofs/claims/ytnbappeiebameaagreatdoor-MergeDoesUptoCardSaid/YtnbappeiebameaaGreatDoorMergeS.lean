/- merge.Merge and merge.Diff, what comes of them beside blocks that are not theirs. -/
import Derived.Test.YtnbappeiebameaaGreatDoorMergeW
import Derived.Test.YtnbappeiebameaaGreatDoorDiffW
import Derived.Test.YtnbappeiebameaaGreatDoorPkD
set_option linter.all false
namespace Go.Proofs.YtnbappeiebameaaGreatDoor
open Go.RowKit
attribute [local go_sem ↓] Go.wp_at_zero Go.wp_at_succ

set_option maxRecDepth 100000 in
set_option maxHeartbeats 8000000 in
theorem mergeS_any (v : V) (ka : Option Addr) (kc : Nat) (la : Option Addr) (lc : Nat) (p : V) (kb : Option Addr) (kd : Nat) (lb : Option Addr) (ld : Nat) (S : Nat → Prop) (w : World) (hsv : v.size ≤ 1073741824) (hsp : p.size ≤ 1073741824) (hin0 : v.In w S ka kc la lc) (hjn0 : p.In w S kb kd lb ld) :
    Calls Tryz.prog 51 #[v.val ka kc la lc, p.val kb kd lb ld] w (RetV2 S (mergeV v p).1 (.int .i64 (mergeV v p).2) w) := by
  obtain ⟨SS, hSS⟩ : ∃ SS : Nat → Prop, SS = fun b => (S b ∧ b < w.heap.size) ∨ w.heap.size + 3 ≤ b := ⟨_, rfl⟩
  have Hin := Lib.hid (show v.In w SS ka kc la lc from hin0.mono fun b h hl => by rw [hSS]; exact .inl ⟨h, hl⟩)
  have Hjn := Lib.hid (show p.In w SS kb kd lb ld from hjn0.mono fun b h hl => by rw [hSS]; exact .inl ⟨h, hl⟩)
  have HSn := Lib.hid (show ∀ b, w.heap.size + 3 ≤ b → SS b from fun b h => by rw [hSS]; exact .inr h)
  have HSr := Lib.hid (show ∀ b, SS b → b ≠ w.heap.size + 2 from fun b h => by rw [hSS] at h; rcases h with h | h <;> omega)
  have HSp := Lib.hid (show ∀ b, SS b → Plus S w b from fun b h => by rw [hSS] at h; exact h.elim (fun h => .inl h.1) (fun h => .inr (by omega)))
  clear hSS hin0 hjn0
  obtain ⟨fv, hfv⟩ : ∃ fv, v.fine = fv := ⟨_, rfl⟩
  obtain ⟨fp, hfp⟩ : ∃ fp, p.fine = fp := ⟨_, rfl⟩
  obtain ⟨u, hu⟩ : ∃ u, p.mrg v = u := ⟨_, rfl⟩
  obtain ⟨fu, hfu⟩ : ∃ fu, u.fine = fu := ⟨_, rfl⟩
  have Hfv := Lib.hid hfv
  have Hfp := Lib.hid hfp
  have Hu := Lib.hid hu
  have Hfu := Lib.hid hfu
  have Hus := Lib.hid (show fv = true → fp = true → u.size ≤ 1073741824 from fun h1 h2 => by have := mrg_size (p := p) (v := v) (by rw [hfp, h2]) (by rw [hfv, h1]); rw [hu] at this; omega)
  have Hr := Lib.hid (show mergeV v p = if fv = false ∨ fp = false then (v, 1) else if fu = false then (v, 2) else (u, 0) by unfold mergeV; rw [hfv, hfp, hu, hfu])
  clear hfv hfp hu hfu
  go_enter Tryz.func51, Tryz.ntmps51
  go_upto_region 1 with fail
  refine gen_world (R := fun wx => Box wx w.heap.size #[.int .i64 v.k, .int .i64 v.n, .string v.s, .slice ka v.keys.length kc, .slice la v.l.length lc] 25 ∧ Box wx (w.heap.size + 1) #[.int .i64 p.k, .int .i64 p.n, .string p.s, .slice kb p.keys.length kd, .slice lb p.l.length ld] 25 ∧ Box wx (w.heap.size + 2) #[.int .i64 0, .int .i64 0, .string ⟨#[]⟩, .slice none 0 0, .slice none 0 0] 25 ∧ Ext w wx) ⟨Bxt, Bxt, Bxt, Xt⟩ ?_
  rintro wa ⟨hB0, hB1, hB2, hxa⟩
  have hza := hB2.lt
  have hc0 := hB0.cells; have hf0 := hB0.free; have hl0 := hB0.lt
  go_wp2_with fail
  (refine (fine_any v ka kc la lc SS _ hsv (Hin.out.ext Xt)).mono ?_)
  rw [Hfv.out]
  rintro e w1 ⟨rfl, h1⟩
  have hB0 := Box.ext h1 hB0
  have hB1 := Box.ext h1 hB1
  have hB2 := Box.ext h1 hB2
  have hx1 := hxa.trans h1
  have hz1 := h1.size
  clear h1 hxa hc0 hf0 hl0
  cases fv with
  | false =>
    have Hr := Lib.hid (show mergeV v p = (v, 1) by rw [Hr.out, if_pos (.inl rfl)])
    have hc0 := hB0.cells; have hf0 := hB0.free; have hl0 := hB0.lt
    have hc2 := hB2.cells; have hf2 := hB2.free; have hl2 := hB2.lt
    go_wp2_with fail
    (with_reducible apply bp_ret); (focus (go_light; simp [results, Tryz.results51, go_sem, *]; rfl))
    rw [Hr.out]
    exact ⟨ka, kc, la, lc, rfl, (Hin.out.ext Xt).mono (fun b h _ => HSp.out b h), Xt⟩
  | true =>
    have hc1 := hB1.cells; have hf1 := hB1.free; have hl1 := hB1.lt
    go_wp2_with fail
    (refine (fine_any p kb kd lb ld SS _ hsp (Hjn.out.ext Xt)).mono ?_)
    rw [Hfp.out]
    rintro e w2 ⟨rfl, h2⟩
    have hB0 := Box.ext h2 hB0
    have hB1 := Box.ext h2 hB1
    have hB2 := Box.ext h2 hB2
    have hx2 := hx1.trans h2
    have hz2 := h2.size
    clear h2 hx1 hc1 hf1 hl1
    cases fp with
    | false =>
      have Hr := Lib.hid (show mergeV v p = (v, 1) by rw [Hr.out, if_pos (.inr rfl)])
      have hc0 := hB0.cells; have hf0 := hB0.free; have hl0 := hB0.lt
      have hc2 := hB2.cells; have hf2 := hB2.free; have hl2 := hB2.lt
      go_wp2_with fail
      (with_reducible apply bp_ret); (focus (go_light; simp [results, Tryz.results51, go_sem, *]; rfl))
      rw [Hr.out]
      exact ⟨ka, kc, la, lc, rfl, (Hin.out.ext Xt).mono (fun b h _ => HSp.out b h), Xt⟩
    | true =>
      have hc0 := hB0.cells; have hf0 := hB0.free; have hl0 := hB0.lt
      have hc1 := hB1.cells; have hf1 := hB1.free; have hl1 := hB1.lt
      go_wp2_with fail
      (refine (mergeI_any _ p v ka kc la lc kb kd lb ld SS _ (Nat.le_refl _) (fine_sound Hfp.out) (fine_sound Hfv.out) (by have := fine_count Hfv.out; have := fine_count Hfp.out; omega) (Hin.out.ext Xt) (Hjn.out.ext Xt)).mono ?_)
      rw [Hu.out]
      rintro e w3 ⟨ka3, kc3, la3, lc3, rfl, hin3, h3⟩
      have hB0 := Box.ext h3 hB0
      have hB1 := Box.ext h3 hB1
      have hB2 := Box.ext h3 hB2
      have hx3 := hx2.trans h3
      have hz3 := h3.size
      have Hin3 := Lib.hid (show u.In w3 SS ka3 kc3 la3 lc3 from hin3.mono fun b h _ => by rcases h with h | h; exact h; exact HSn.out b (by (try simp at h); omega))
      have hus := Hus.out (by trivial) (by trivial)
      clear hin3 h3 hx2 hc0 hf0 hl0 hc1 hf1 hl1
      go_upto_region 4 with fail
      refine gen_world (R := fun wx => Box wx w.heap.size #[.int .i64 v.k, .int .i64 v.n, .string v.s, .slice ka v.keys.length kc, .slice la v.l.length lc] 25 ∧ Box wx (w.heap.size + 2) #[.int .i64 0, .int .i64 0, .string ⟨#[]⟩, .slice none 0 0, .slice none 0 0] 25 ∧ Box wx w3.heap.size #[.int .i64 u.k, .int .i64 u.n, .string u.s, .slice ka3 u.keys.length kc3, .slice la3 u.l.length lc3] 25 ∧ u.In wx SS ka3 kc3 la3 lc3 ∧ Ext w wx) ⟨Bxt, Bxt, Bxt, Hin3.out.ext Xt, Xt⟩ ?_
      clear hB0 hB1 hB2 Hin3 hx3
      rintro wb ⟨hB0, hB2, hB3, hin3, hxb⟩
      have Hin3 := Lib.hid hin3
      clear hin3
      have hc3 := hB3.cells; have hf3 := hB3.free; have hl3 := hB3.lt
      go_wp2_with fail
      (refine (fine_any u ka3 kc3 la3 lc3 SS _ hus (Hin3.out.ext Xt)).mono ?_)
      rw [Hfu.out]
      rintro e w4 ⟨rfl, h4⟩
      have hB0 := Box.ext h4 hB0
      have hB2 := Box.ext h4 hB2
      have hB3 := Box.ext h4 hB3
      have Hin3 := Lib.hid (Hin3.out.ext h4)
      have hx4 := hxb.trans h4
      clear h4 hxb hc3 hf3 hl3
      cases fu with
      | false =>
        have Hr := Lib.hid (show mergeV v p = (v, 2) by rw [Hr.out, if_neg (by simp), if_pos rfl])
        have hc0 := hB0.cells; have hf0 := hB0.free; have hl0 := hB0.lt
        have hc2 := hB2.cells; have hf2 := hB2.free; have hl2 := hB2.lt
        go_wp2_with fail
        (with_reducible apply bp_ret); (focus (go_light; simp [results, Tryz.results51, go_sem, *]; rfl))
        rw [Hr.out]
        exact ⟨ka, kc, la, lc, rfl, (Hin.out.ext Xt).mono (fun b h _ => HSp.out b h), Xt⟩
      | true =>
        have Hr := Lib.hid (show mergeV v p = (u, 0) by rw [Hr.out, if_neg (by simp), if_neg (by simp)])
        have hc3 := hB3.cells; have hf3 := hB3.free; have hl3 := hB3.lt
        have hc2 := hB2.cells; have hf2 := hB2.free; have hl2 := hB2.lt
        go_wp2_with fail
        (with_reducible apply bp_ret); (focus (go_light; simp [results, Tryz.results51, go_sem, *]; rfl))
        rw [Hr.out]
        exact ⟨ka3, kc3, la3, lc3, rfl, (Hin3.out.keep (Held.kept (Held.mono (a := w4) (S := fun b => b ≠ w.heap.size + 2) Hxt (fun b h => HSr.out b h))) (fun _ h _ => h)).mono (fun b h _ => HSp.out b h), Xt⟩
set_option maxRecDepth 100000 in
set_option maxHeartbeats 8000000 in
theorem diffS_any (v : V) (ka : Option Addr) (kc : Nat) (la : Option Addr) (lc : Nat) (p : V) (kb : Option Addr) (kd : Nat) (lb : Option Addr) (ld : Nat) (S : Nat → Prop) (w : World) (hsv : v.size ≤ 1073741824) (hsp : p.size ≤ 1073741824) (hin0 : v.In w S ka kc la lc) (hjn0 : p.In w S kb kd lb ld) :
    Calls Tryz.prog 55 #[v.val ka kc la lc, p.val kb kd lb ld] w (RetV2 S (diffV v p).1 (.int .i64 (diffV v p).2) w) := by
  obtain ⟨SS, hSS⟩ : ∃ SS : Nat → Prop, SS = fun b => (S b ∧ b < w.heap.size) ∨ w.heap.size + 3 ≤ b := ⟨_, rfl⟩
  have Hin := Lib.hid (show v.In w SS ka kc la lc from hin0.mono fun b h hl => by rw [hSS]; exact .inl ⟨h, hl⟩)
  have Hjn := Lib.hid (show p.In w SS kb kd lb ld from hjn0.mono fun b h hl => by rw [hSS]; exact .inl ⟨h, hl⟩)
  have HSn := Lib.hid (show ∀ b, w.heap.size + 3 ≤ b → SS b from fun b h => by rw [hSS]; exact .inr h)
  have HSr := Lib.hid (show ∀ b, SS b → b ≠ w.heap.size + 2 from fun b h => by rw [hSS] at h; rcases h with h | h <;> omega)
  have HSp := Lib.hid (show ∀ b, SS b → Plus S w b from fun b h => by rw [hSS] at h; exact h.elim (fun h => .inl h.1) (fun h => .inr (by omega)))
  clear hSS hin0 hjn0
  obtain ⟨fv, hfv⟩ : ∃ fv, v.fine = fv := ⟨_, rfl⟩
  obtain ⟨fp, hfp⟩ : ∃ fp, p.fine = fp := ⟨_, rfl⟩
  obtain ⟨u, hu⟩ : ∃ u, p.dif v = u := ⟨_, rfl⟩
  obtain ⟨fu, hfu⟩ : ∃ fu, u.fine = fu := ⟨_, rfl⟩
  obtain ⟨fc, hfc⟩ : ∃ fc, p.clean = fc := ⟨_, rfl⟩
  have Hfc := Lib.hid hfc
  have Hfv := Lib.hid hfv
  have Hfp := Lib.hid hfp
  have Hu := Lib.hid hu
  have Hfu := Lib.hid hfu
  have Hus := Lib.hid (show fv = true → fp = true → u.size ≤ 1073741824 from fun h1 h2 => by have := dif_size (b := p) (a := v) (by rw [hfp, h2]) (by rw [hfv, h1]); rw [hu] at this; omega)
  have Hr := Lib.hid (show diffV v p = if fv = false ∨ fp = false ∨ fc = false then (V.zero, 1) else if fu = false then (V.zero, 2) else (u, 0) by unfold diffV; rw [hfv, hfp, hfc, hu, hfu])
  clear hfv hfp hfc hu hfu
  go_enter Tryz.func55, Tryz.ntmps55
  go_upto_region 1 with fail
  refine gen_world (R := fun wx => Box wx w.heap.size #[.int .i64 v.k, .int .i64 v.n, .string v.s, .slice ka v.keys.length kc, .slice la v.l.length lc] 25 ∧ Box wx (w.heap.size + 1) #[.int .i64 p.k, .int .i64 p.n, .string p.s, .slice kb p.keys.length kd, .slice lb p.l.length ld] 25 ∧ Box wx (w.heap.size + 2) #[.int .i64 0, .int .i64 0, .string ⟨#[]⟩, .slice none 0 0, .slice none 0 0] 25 ∧ Ext w wx) ⟨Bxt, Bxt, Bxt, Xt⟩ ?_
  rintro wa ⟨hB0, hB1, hB2, hxa⟩
  have hza := hB2.lt
  have hc0 := hB0.cells; have hf0 := hB0.free; have hl0 := hB0.lt
  go_wp2_with fail
  (refine (fine_any v ka kc la lc SS _ hsv (Hin.out.ext Xt)).mono ?_)
  rw [Hfv.out]
  rintro e w1 ⟨rfl, h1⟩
  have hB0 := Box.ext h1 hB0
  have hB1 := Box.ext h1 hB1
  have hB2 := Box.ext h1 hB2
  have hx1 := hxa.trans h1
  have hz1 := h1.size
  clear h1 hxa hc0 hf0 hl0
  cases fv with
  | false =>
    have Hr := Lib.hid (show diffV v p = (V.zero, 1) by rw [Hr.out, if_pos (.inl rfl)])
    have hc0 := hB0.cells; have hf0 := hB0.free; have hl0 := hB0.lt
    have hc2 := hB2.cells; have hf2 := hB2.free; have hl2 := hB2.lt
    go_wp2_with fail
    (with_reducible apply bp_ret); (focus (go_light; simp [results, Tryz.results55, go_sem, *]; rfl))
    rw [Hr.out]
    exact ⟨none, 0, none, 0, rfl, V.zero_in _ _, Xt⟩
  | true =>
    have hc1 := hB1.cells; have hf1 := hB1.free; have hl1 := hB1.lt
    go_wp2_with fail
    (refine (fine_any p kb kd lb ld SS _ hsp (Hjn.out.ext Xt)).mono ?_)
    rw [Hfp.out]
    rintro e w2 ⟨rfl, h2⟩
    have hB0 := Box.ext h2 hB0
    have hB1 := Box.ext h2 hB1
    have hB2 := Box.ext h2 hB2
    have hx2 := hx1.trans h2
    have hz2 := h2.size
    clear h2 hx1 hc1 hf1 hl1
    cases fp with
    | false =>
      have Hr := Lib.hid (show diffV v p = (V.zero, 1) by rw [Hr.out, if_pos (.inr (.inl rfl))])
      have hc0 := hB0.cells; have hf0 := hB0.free; have hl0 := hB0.lt
      have hc2 := hB2.cells; have hf2 := hB2.free; have hl2 := hB2.lt
      go_wp2_with fail
      (with_reducible apply bp_ret); (focus (go_light; simp [results, Tryz.results55, go_sem, *]; rfl))
      rw [Hr.out]
      exact ⟨none, 0, none, 0, rfl, V.zero_in _ _, Xt⟩
    | true =>
      have hc1 := hB1.cells; have hf1 := hB1.free; have hl1 := hB1.lt
      go_wp2_with fail
      (refine (clean_any _ p kb kd lb ld SS _ (Nat.le_refl _) hsp (Hjn.out.ext Xt)).mono ?_)
      rw [Hfc.out]
      rintro e w2c ⟨rfl, h2⟩
      have hB0 := Box.ext h2 hB0
      have hB1 := Box.ext h2 hB1
      have hB2 := Box.ext h2 hB2
      have hx2 := hx2.trans h2
      have hz2 := Nat.le_trans hz2 h2.size
      clear h2 hc1 hf1 hl1
      cases fc with
      | false =>
       have Hr := Lib.hid (show diffV v p = (V.zero, 1) by rw [Hr.out, if_pos (.inr (.inr rfl))])
       have hc2 := hB2.cells; have hf2 := hB2.free; have hl2 := hB2.lt
       go_wp2_with fail
       (with_reducible apply bp_ret); (focus (go_light; simp [results, Tryz.results55, go_sem, *]; rfl))
       rw [Hr.out]
       exact ⟨none, 0, none, 0, rfl, V.zero_in _ _, Xt⟩
      | true =>
       have hc0 := hB0.cells; have hf0 := hB0.free; have hl0 := hB0.lt
       have hc1 := hB1.cells; have hf1 := hB1.free; have hl1 := hB1.lt
       go_wp2_with fail
       (refine (diffI_any _ p v ka kc la lc kb kd lb ld SS _ (Nat.le_refl _) (fine_sound Hfp.out) (fine_sound Hfv.out) (fine_count Hfv.out) (fine_count Hfp.out) (Hin.out.ext Xt) (Hjn.out.ext Xt)).mono ?_)
       rw [Hu.out]
       rintro e w3 ⟨ka3, kc3, la3, lc3, rfl, hin3, h3⟩
       have hB0 := Box.ext h3 hB0
       have hB1 := Box.ext h3 hB1
       have hB2 := Box.ext h3 hB2
       have hx3 := hx2.trans h3
       have hz3 := h3.size
       have Hin3 := Lib.hid (show u.In w3 SS ka3 kc3 la3 lc3 from hin3.mono fun b h _ => by rcases h with h | h; exact h; exact HSn.out b (by (try simp at h); omega))
       have hus := Hus.out (by trivial) (by trivial)
       clear hin3 h3 hx2 hc0 hf0 hl0 hc1 hf1 hl1
       go_upto_region 4 with fail
       refine gen_world (R := fun wx => Box wx w.heap.size #[.int .i64 v.k, .int .i64 v.n, .string v.s, .slice ka v.keys.length kc, .slice la v.l.length lc] 25 ∧ Box wx (w.heap.size + 2) #[.int .i64 0, .int .i64 0, .string ⟨#[]⟩, .slice none 0 0, .slice none 0 0] 25 ∧ Box wx w3.heap.size #[.int .i64 u.k, .int .i64 u.n, .string u.s, .slice ka3 u.keys.length kc3, .slice la3 u.l.length lc3] 25 ∧ u.In wx SS ka3 kc3 la3 lc3 ∧ Ext w wx) ⟨Bxt, Bxt, Bxt, Hin3.out.ext Xt, Xt⟩ ?_
       clear hB0 hB1 hB2 Hin3 hx3
       rintro wb ⟨hB0, hB2, hB3, hin3, hxb⟩
       have Hin3 := Lib.hid hin3
       clear hin3
       have hc3 := hB3.cells; have hf3 := hB3.free; have hl3 := hB3.lt
       go_wp2_with fail
       (refine (fine_any u ka3 kc3 la3 lc3 SS _ hus (Hin3.out.ext Xt)).mono ?_)
       rw [Hfu.out]
       rintro e w4 ⟨rfl, h4⟩
       have hB0 := Box.ext h4 hB0
       have hB2 := Box.ext h4 hB2
       have hB3 := Box.ext h4 hB3
       have Hin3 := Lib.hid (Hin3.out.ext h4)
       have hx4 := hxb.trans h4
       clear h4 hxb hc3 hf3 hl3
       cases fu with
       | false =>
         have Hr := Lib.hid (show diffV v p = (V.zero, 2) by rw [Hr.out, if_neg (by simp), if_pos rfl])
         have hc0 := hB0.cells; have hf0 := hB0.free; have hl0 := hB0.lt
         have hc2 := hB2.cells; have hf2 := hB2.free; have hl2 := hB2.lt
         go_wp2_with fail
         (with_reducible apply bp_ret); (focus (go_light; simp [results, Tryz.results55, go_sem, *]; rfl))
         rw [Hr.out]
         exact ⟨none, 0, none, 0, rfl, V.zero_in _ _, Xt⟩
       | true =>
         have Hr := Lib.hid (show diffV v p = (u, 0) by rw [Hr.out, if_neg (by simp), if_neg (by simp)])
         have hc3 := hB3.cells; have hf3 := hB3.free; have hl3 := hB3.lt
         have hc2 := hB2.cells; have hf2 := hB2.free; have hl2 := hB2.lt
         go_wp2_with fail
         (with_reducible apply bp_ret); (focus (go_light; simp [results, Tryz.results55, go_sem, *]; rfl))
         rw [Hr.out]
         exact ⟨ka3, kc3, la3, lc3, rfl, (Hin3.out.keep (Held.kept (Held.mono (a := w4) (S := fun b => b ≠ w.heap.size + 2) Hxt (fun b h => HSr.out b h))) (fun _ h _ => h)).mono (fun b h _ => HSp.out b h), Xt⟩
end Go.Proofs.YtnbappeiebameaaGreatDoor
