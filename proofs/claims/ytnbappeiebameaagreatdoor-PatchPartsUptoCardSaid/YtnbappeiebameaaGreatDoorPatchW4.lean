/- The walk of patch.One: to move. -/
import Derived.Test.YtnbappeiebameaaGreatDoorPatchW1
set_option linter.all false
namespace Go.Proofs.YtnbappeiebameaaGreatDoor
open Go.RowKit
attribute [local go_sem ↓] Go.wp_at_zero Go.wp_at_succ


set_option maxRecDepth 100000 in
set_option maxHeartbeats 8000000 in
theorem one_k4 (x : V) (ka : Option Addr) (kc : Nat) (la : Option Addr) (lc : Nat) (k : Int) (p f : ByteArray) (y : V) (kb : Option Addr) (kd : Nat) (lb : Option Addr) (ld : Nat) (w : World) (hl : LibAt w) (hsx : x.size ≤ 4194304) (hsy : y.size ≤ 4194304) (hp : p.size ≤ 4194304) (hf : f.size ≤ 4194304) (S : Nat → Prop) (hin : x.In w S ka kc la lc) (hjn : y.In w S kb kd lb ld) (hk : k = 4) :
    Calls Tryz.prog 42 #[x.val ka kc la lc, .agg #[.int .i64 k, .string p, .string f, .int .i64 y.k, .int .i64 y.n, .string y.s, .slice kb y.keys.length kd, .slice lb y.l.length ld]] w (RetV2 S (oneV x ⟨k, p, f, y⟩).1 (.int .i64 (oneV x ⟨k, p, f, y⟩).2) w) := by
  obtain ⟨SS, hSS⟩ : ∃ SS : Nat → Prop, SS = fun b => (S b ∧ b < w.heap.size) ∨ w.heap.size + 3 ≤ b := ⟨_, rfl⟩
  have Hin := Lib.hid (show x.In w SS ka kc la lc from hin.mono fun b h hl => by rw [hSS]; exact .inl ⟨h, hl⟩)
  have Hjn := Lib.hid (show y.In w SS kb kd lb ld from hjn.mono fun b h hl => by rw [hSS]; exact .inl ⟨h, hl⟩)
  have HS2 := Lib.hid (show ∀ b, w.heap.size + 3 ≤ b → SS b from fun b h => by rw [hSS]; exact .inr h)
  have HS5 := Lib.hid (show ∀ b, SS b → b ≠ w.heap.size + 2 from fun b h => by rw [hSS] at h; rcases h with h | h <;> omega)
  have HS4 := Lib.hid (show ∀ b, SS b → Plus S w b from fun b h => by rw [hSS] at h; exact h.elim (fun h => .inl h.1) (fun h => .inr (by omega)))
  clear hSS
  have hgs := getP_size x p
  have hgf := getP_size x f
  clear hin hjn
  · have b1 : (k == 1) = false := by simpa using (by omega : k ≠ 1)
    have b2 : (k == 2) = false := by simpa using (by omega : k ≠ 2)
    have b3 : (k == 3) = false := by simpa using (by omega : k ≠ 3)
    have b4 : (k == 4) = true := by simpa using hk
    have h5 : (k == 5) = false := by simpa using (by omega : k ≠ 5)
    have Hr := Lib.hid (show oneV x ⟨k, p, f, y⟩ = if (getP x f).2 ≠ 0 then (x, (getP x f).2) else moveV x f p (getP x f).1 by unfold oneV; simp [hk])
    obtain ⟨u, hu⟩ : ∃ u, (getP x f).1 = u := ⟨_, rfl⟩
    obtain ⟨er, her⟩ : ∃ er, (getP x f).2 = er := ⟨_, rfl⟩
    rw [hu] at hgf
    have Hg := Lib.hid (show getP x f = (u, er) from Prod.ext hu her)
    have Hr := Lib.hid (show oneV x ⟨k, p, f, y⟩ = if er ≠ 0 then (x, er) else moveV x f p u by have := Hr.out; rw [hu, her] at this; exact this)
    clear hk hu her
    by_cases h0 : er = 0
    · have h0b : (er != 0) = false := by simpa using h0
      have Hr2 := Lib.hid (show oneV x ⟨k, p, f, y⟩ = moveV x f p u by rw [Hr.out, if_neg (by simp [h0])])
      clear h0
      have hc1_ : ¬ f.size + (⟨#[47]⟩ : ByteArray).size > 9223372036854775807 := by have : (⟨#[47]⟩ : ByteArray).size = 1 := rfl; omega
      cases hb : belowB f p with
      | true =>
        have Hb := Lib.hid hb
        have Hr3 := Lib.hid (show oneV x ⟨k, p, f, y⟩ = (x, 1) by rw [Hr2.out]; unfold moveV; rw [if_pos hb])
        clear hb
        go_enter Tryz.func42, Tryz.ntmps42
        go_upto_region 1 with fail
        refine gen_world (R := fun wx => Box wx w.heap.size #[.int .i64 x.k, .int .i64 x.n, .string x.s, .slice ka x.keys.length kc, .slice la x.l.length lc] 25 ∧ Box wx (w.heap.size + 1) #[.int .i64 k, .string p, .string f, .int .i64 y.k, .int .i64 y.n, .string y.s, .slice kb y.keys.length kd, .slice lb y.l.length ld] 49 ∧ Box wx (w.heap.size + 2) #[.int .i64 0, .int .i64 0, .string ⟨#[]⟩, .slice none 0 0, .slice none 0 0] 25 ∧ Ext w wx) ⟨Bxt, Bxt, Bxt, Xt⟩ ?_
        rintro wa ⟨hB0, hB1, hB2, hxa⟩
        have hc0 := hB0.cells; have hf0 := hB0.free; have hl0 := hB0.lt
        have hc1 := hB1.cells; have hf1 := hB1.free; have hl1 := hB1.lt
        have hz2_ := hB2.lt
        go_wp2_with fail
        (refine (get_any x ka kc la lc SS f _ (by omega) (Hin.out.ext Xt) (by omega) (hl.ext Xt)).mono ?_)
        rw [Hg.out]
        rintro e w1 ⟨ka6, kc6, la6, lc6, rfl, hin_, h_w1⟩
        have hB0 := Box.ext h_w1 hB0
        have hB1 := Box.ext h_w1 hB1
        have hB2 := Box.ext h_w1 hB2
        have hx_w1 := hxa.trans h_w1
        clear hc0 hf0 hl0 hc1 hf1 hl1
        have Hin6 := Lib.hid (hin_.mono (T := SS) fun b h hlt_ => h.elim id (fun h => HS2.out b (by (try simp at h); omega)))
        clear hin_ h_w1 hxa hz2_
        go_upto_region 11 with fail
        refine gen_world (R := fun wx => Box wx w.heap.size #[.int .i64 x.k, .int .i64 x.n, .string x.s, .slice ka x.keys.length kc, .slice la x.l.length lc] 25 ∧ Box wx (w.heap.size + 1) #[.int .i64 k, .string p, .string f, .int .i64 y.k, .int .i64 y.n, .string y.s, .slice kb y.keys.length kd, .slice lb y.l.length ld] 49 ∧ Box wx (w.heap.size + 2) #[.int .i64 0, .int .i64 0, .string ⟨#[]⟩, .slice none 0 0, .slice none 0 0] 25 ∧ Box wx w1.heap.size #[.int .i64 u.k, .int .i64 u.n, .string u.s, .slice ka6 u.keys.length kc6, .slice la6 u.l.length lc6] 25 ∧ u.In wx SS ka6 kc6 la6 lc6 ∧ Ext w wx) ⟨Bxt, Bxt, Bxt, Bxt, Hin6.out.ext Xt, Xt⟩ ?_
        clear hB0 hB1 hB2 Hin6 hx_w1
        rintro wvw1 ⟨hB0, hB1, hB2, hB6, hin6, hx_vw1⟩
        have Hin6 := Lib.hid hin6
        clear hin6
        have hc0 := hB0.cells; have hf0 := hB0.free; have hl0 := hB0.lt
        have hc1 := hB1.cells; have hf1 := hB1.free; have hl1 := hB1.lt
        go_wp2_with fail
        have hpre := Tryz.strings_HasPrefix p (f ++ ⟨#[47]⟩ : ByteArray) wvw1
        refine hpre.mono ?_
        clear hpre
        rintro e w2 ⟨rfl, rfl⟩
        rw [below_has, Hb.out]
        have hc2 := hB2.cells; have hf2 := hB2.free; have hl2 := hB2.lt
        go_wp2_with fail
        (with_reducible apply bp_ret); (focus (go_light; simp [results, Tryz.results42, go_sem, *]; rfl))
        rw [Hr3.out]
        exact ⟨ka, kc, la, lc, rfl, Hin.out.keep (Held.kept (Held.mono (a := w) (S := fun b => b ≠ w.heap.size + 2) Hxt HS5.out)) (fun b hb _ => HS4.out b hb), Xt⟩
      | false =>
        have Hb := Lib.hid hb
        clear hb
        by_cases hfp : f = p
        · have Hr3 := Lib.hid (show oneV x ⟨k, p, f, y⟩ = (x, 0) by rw [Hr2.out, hfp]; exact move_self)
          have hfb : (f.toList == p.toList) = true := by simp [hfp]
          have hfc : f.toList = p.toList := by rw [hfp]
          clear hfp
          go_enter Tryz.func42, Tryz.ntmps42
          go_upto_region 1 with fail
          refine gen_world (R := fun wx => Box wx w.heap.size #[.int .i64 x.k, .int .i64 x.n, .string x.s, .slice ka x.keys.length kc, .slice la x.l.length lc] 25 ∧ Box wx (w.heap.size + 1) #[.int .i64 k, .string p, .string f, .int .i64 y.k, .int .i64 y.n, .string y.s, .slice kb y.keys.length kd, .slice lb y.l.length ld] 49 ∧ Box wx (w.heap.size + 2) #[.int .i64 0, .int .i64 0, .string ⟨#[]⟩, .slice none 0 0, .slice none 0 0] 25 ∧ Ext w wx) ⟨Bxt, Bxt, Bxt, Xt⟩ ?_
          rintro wa ⟨hB0, hB1, hB2, hxa⟩
          have hc0 := hB0.cells; have hf0 := hB0.free; have hl0 := hB0.lt
          have hc1 := hB1.cells; have hf1 := hB1.free; have hl1 := hB1.lt
          have hz2_ := hB2.lt
          go_wp2_with fail
          (refine (get_any x ka kc la lc SS f _ (by omega) (Hin.out.ext Xt) (by omega) (hl.ext Xt)).mono ?_)
          rw [Hg.out]
          rintro e w1 ⟨ka6, kc6, la6, lc6, rfl, hin_, h_w1⟩
          have hB0 := Box.ext h_w1 hB0
          have hB1 := Box.ext h_w1 hB1
          have hB2 := Box.ext h_w1 hB2
          have hx_w1 := hxa.trans h_w1
          clear hc0 hf0 hl0 hc1 hf1 hl1
          have Hin6 := Lib.hid (hin_.mono (T := SS) fun b h hlt_ => h.elim id (fun h => HS2.out b (by (try simp at h); omega)))
          clear hin_ h_w1 hxa hz2_
          go_upto_region 11 with fail
          refine gen_world (R := fun wx => Box wx w.heap.size #[.int .i64 x.k, .int .i64 x.n, .string x.s, .slice ka x.keys.length kc, .slice la x.l.length lc] 25 ∧ Box wx (w.heap.size + 1) #[.int .i64 k, .string p, .string f, .int .i64 y.k, .int .i64 y.n, .string y.s, .slice kb y.keys.length kd, .slice lb y.l.length ld] 49 ∧ Box wx (w.heap.size + 2) #[.int .i64 0, .int .i64 0, .string ⟨#[]⟩, .slice none 0 0, .slice none 0 0] 25 ∧ Box wx w1.heap.size #[.int .i64 u.k, .int .i64 u.n, .string u.s, .slice ka6 u.keys.length kc6, .slice la6 u.l.length lc6] 25 ∧ u.In wx SS ka6 kc6 la6 lc6 ∧ Ext w wx) ⟨Bxt, Bxt, Bxt, Bxt, Hin6.out.ext Xt, Xt⟩ ?_
          clear hB0 hB1 hB2 Hin6 hx_w1
          rintro wvw1 ⟨hB0, hB1, hB2, hB6, hin6, hx_vw1⟩
          have Hin6 := Lib.hid hin6
          clear hin6
          have hc0 := hB0.cells; have hf0 := hB0.free; have hl0 := hB0.lt
          have hc1 := hB1.cells; have hf1 := hB1.free; have hl1 := hB1.lt
          go_wp2_with fail
          have hpre := Tryz.strings_HasPrefix p (f ++ ⟨#[47]⟩ : ByteArray) wvw1
          refine hpre.mono ?_
          clear hpre
          rintro e w2 ⟨rfl, rfl⟩
          rw [below_has, Hb.out]
          have hc2 := hB2.cells; have hf2 := hB2.free; have hl2 := hB2.lt
          go_wp2_with fail
          (with_reducible apply bp_ret); (focus (go_light; simp [results, Tryz.results42, go_sem, *]; rfl))
          rw [Hr3.out]
          exact ⟨ka, kc, la, lc, rfl, Hin.out.keep (Held.kept (Held.mono (a := w) (S := fun b => b ≠ w.heap.size + 2) Hxt HS5.out)) (fun b hb _ => HS4.out b hb), Xt⟩
        · have hfb : (f.toList == p.toList) = false := by simpa using fun h => hfp (bytes_ext h)
          have hfc : ¬ f.toList = p.toList := fun h => hfp (bytes_ext h)
          obtain ⟨r, hr⟩ : ∃ r, (remP x f).1 = r := ⟨_, rfl⟩
          obtain ⟨e2, he2⟩ : ∃ e2, (remP x f).2 = e2 := ⟨_, rfl⟩
          have hrs := remP_size x f
          rw [hr] at hrs
          have Hrem := Lib.hid (show remP x f = (r, e2) from Prod.ext hr he2)
          have Hr3 := Lib.hid (show oneV x ⟨k, p, f, y⟩ = if e2 ≠ 0 then (x, e2) else if (addP r p u).2 ≠ 0 then (x, (addP r p u).2) else ((addP r p u).1, 0) by rw [Hr2.out]; unfold moveV; rw [Hb.out, if_neg (by decide), if_neg hfp, hr, he2])
          clear hr he2 hfp
          by_cases h2 : e2 = 0
          · have h2b : (e2 != 0) = false := by simpa using h2
            obtain ⟨s, hs⟩ : ∃ s, (addP r p u).1 = s := ⟨_, rfl⟩
            obtain ⟨e3, he3⟩ : ∃ e3, (addP r p u).2 = e3 := ⟨_, rfl⟩
            have Hadd := Lib.hid (show addP r p u = (s, e3) from Prod.ext hs he3)
            have Hr4 := Lib.hid (show oneV x ⟨k, p, f, y⟩ = if e3 ≠ 0 then (x, e3) else (s, 0) by rw [Hr3.out, if_neg (by simp [h2]), hs, he3])
            clear hs he3 h2
            by_cases h3 : e3 = 0
            · have h3b : (e3 != 0) = false := by simpa using h3
              have Hr5 := Lib.hid (show oneV x ⟨k, p, f, y⟩ = (s, 0) by rw [Hr4.out, if_neg (by simp [h3])])
              clear h3
              go_enter Tryz.func42, Tryz.ntmps42
              go_upto_region 1 with fail
              refine gen_world (R := fun wx => Box wx w.heap.size #[.int .i64 x.k, .int .i64 x.n, .string x.s, .slice ka x.keys.length kc, .slice la x.l.length lc] 25 ∧ Box wx (w.heap.size + 1) #[.int .i64 k, .string p, .string f, .int .i64 y.k, .int .i64 y.n, .string y.s, .slice kb y.keys.length kd, .slice lb y.l.length ld] 49 ∧ Box wx (w.heap.size + 2) #[.int .i64 0, .int .i64 0, .string ⟨#[]⟩, .slice none 0 0, .slice none 0 0] 25 ∧ Ext w wx) ⟨Bxt, Bxt, Bxt, Xt⟩ ?_
              rintro wa ⟨hB0, hB1, hB2, hxa⟩
              have hc0 := hB0.cells; have hf0 := hB0.free; have hl0 := hB0.lt
              have hc1 := hB1.cells; have hf1 := hB1.free; have hl1 := hB1.lt
              have hz2_ := hB2.lt
              go_wp2_with fail
              (refine (get_any x ka kc la lc SS f _ (by omega) (Hin.out.ext Xt) (by omega) (hl.ext Xt)).mono ?_)
              rw [Hg.out]
              rintro e w1 ⟨ka6, kc6, la6, lc6, rfl, hin_, h_w1⟩
              have hB0 := Box.ext h_w1 hB0
              have hB1 := Box.ext h_w1 hB1
              have hB2 := Box.ext h_w1 hB2
              have hx_w1 := hxa.trans h_w1
              clear hc0 hf0 hl0 hc1 hf1 hl1
              have Hin6 := Lib.hid (hin_.mono (T := SS) fun b h hlt_ => h.elim id (fun h => HS2.out b (by (try simp at h); omega)))
              clear hin_ h_w1 hxa hz2_
              go_upto_region 11 with fail
              refine gen_world (R := fun wx => Box wx w.heap.size #[.int .i64 x.k, .int .i64 x.n, .string x.s, .slice ka x.keys.length kc, .slice la x.l.length lc] 25 ∧ Box wx (w.heap.size + 1) #[.int .i64 k, .string p, .string f, .int .i64 y.k, .int .i64 y.n, .string y.s, .slice kb y.keys.length kd, .slice lb y.l.length ld] 49 ∧ Box wx (w.heap.size + 2) #[.int .i64 0, .int .i64 0, .string ⟨#[]⟩, .slice none 0 0, .slice none 0 0] 25 ∧ Box wx w1.heap.size #[.int .i64 u.k, .int .i64 u.n, .string u.s, .slice ka6 u.keys.length kc6, .slice la6 u.l.length lc6] 25 ∧ u.In wx SS ka6 kc6 la6 lc6 ∧ Ext w wx) ⟨Bxt, Bxt, Bxt, Bxt, Hin6.out.ext Xt, Xt⟩ ?_
              clear hB0 hB1 hB2 Hin6 hx_w1
              rintro wvw1 ⟨hB0, hB1, hB2, hB6, hin6, hx_vw1⟩
              have Hin6 := Lib.hid hin6
              clear hin6
              have hc0 := hB0.cells; have hf0 := hB0.free; have hl0 := hB0.lt
              have hc1 := hB1.cells; have hf1 := hB1.free; have hl1 := hB1.lt
              go_wp2_with fail
              have hpre := Tryz.strings_HasPrefix p (f ++ ⟨#[47]⟩ : ByteArray) wvw1
              refine hpre.mono ?_
              clear hpre
              rintro e w2 ⟨rfl, rfl⟩
              rw [below_has, Hb.out]
              clear hc0 hf0 hl0 hc1 hf1 hl1
              have hc0 := hB0.cells; have hf0 := hB0.free; have hl0 := hB0.lt
              have hc1 := hB1.cells; have hf1 := hB1.free; have hl1 := hB1.lt
              have hz2_ := hB2.lt
              go_wp2_with fail
              (refine (rem_any x ka kc la lc f SS _ (hl.ext Xt) (by omega) (by omega) (Hin.out.ext Xt)).mono ?_)
              rw [Hrem.out]
              rintro e w3 ⟨ka7, kc7, la7, lc7, rfl, hin_, h_w3⟩
              have hB0 := Box.ext h_w3 hB0
              have hB1 := Box.ext h_w3 hB1
              have hB2 := Box.ext h_w3 hB2
              have hB6 := Box.ext h_w3 hB6
              have Hin6 := Lib.hid (V.In.ext (w' := w3) Hin6.out h_w3)
              have hx_w3 := hx_vw1.trans h_w3
              clear hc0 hf0 hl0 hc1 hf1 hl1
              have Hin7 := Lib.hid (hin_.mono (T := (fun b => SS b ∧ b < w3.heap.size)) fun b h hlt_ => ⟨h.elim id (fun h => HS2.out b (by (try simp at h); omega)), hlt_⟩)
              have Hin6 := Lib.hid (Hin6.out.mono (T := (fun b => SS b ∧ b < w3.heap.size)) fun b h hlt_ => ⟨h, hlt_⟩)
              clear hin_ h_w3 hx_vw1 hz2_
              have hzk_ := hB2.lt
              go_upto_region 20 with fail
              refine gen_world (R := fun wx => Box wx w.heap.size #[.int .i64 x.k, .int .i64 x.n, .string x.s, .slice ka x.keys.length kc, .slice la x.l.length lc] 25 ∧ Box wx (w.heap.size + 1) #[.int .i64 k, .string p, .string f, .int .i64 y.k, .int .i64 y.n, .string y.s, .slice kb y.keys.length kd, .slice lb y.l.length ld] 49 ∧ Box wx (w.heap.size + 2) #[.int .i64 0, .int .i64 0, .string ⟨#[]⟩, .slice none 0 0, .slice none 0 0] 25 ∧ Box wx w1.heap.size #[.int .i64 u.k, .int .i64 u.n, .string u.s, .slice ka6 u.keys.length kc6, .slice la6 u.l.length lc6] 25 ∧ Box wx w3.heap.size #[.int .i64 r.k, .int .i64 r.n, .string r.s, .slice ka7 r.keys.length kc7, .slice la7 r.l.length lc7] 25 ∧ u.In wx (fun b => SS b ∧ b < w3.heap.size) ka6 kc6 la6 lc6 ∧ r.In wx (fun b => SS b ∧ b < w3.heap.size) ka7 kc7 la7 lc7 ∧ Ext w wx) ⟨Bxt, Bxt, Bxt, Bxt, Bxt, Hin6.out.ext Xt, Hin7.out.ext Xt, Xt⟩ ?_
              clear hB0 hB1 hB2 hB6 Hin6 Hin7 hx_w3
              rintro wvw3 ⟨hB0, hB1, hB2, hB6, hB7, hin6, hin7, hx_vw3⟩
              have Hin6 := Lib.hid hin6
              clear hin6
              have Hin7 := Lib.hid hin7
              clear hin7
              have hz7_ := hB7.lt
              have hc1 := hB1.cells; have hf1 := hB1.free; have hl1 := hB1.lt
              have hc6 := hB6.cells; have hf6 := hB6.free; have hl6 := hB6.lt
              have hc7 := hB7.cells; have hf7 := hB7.free; have hl7 := hB7.lt
              have hz2_ := hB2.lt
              go_wp2_with fail
              (refine (add_any u ka6 kc6 la6 lc6 r ka7 kc7 la7 lc7 p (fun b => SS b ∧ b < w3.heap.size) _ (hl.ext Xt) (by omega) (by omega) (by omega) (Hin7.out.ext Xt) (Hin6.out.ext Xt)).mono ?_)
              rw [Hadd.out]
              rintro e w4 ⟨ka8, kc8, la8, lc8, rfl, hin_, h_w4⟩
              have hB0 := Box.ext h_w4 hB0
              have hB1 := Box.ext h_w4 hB1
              have hB2 := Box.ext h_w4 hB2
              have hB6 := Box.ext h_w4 hB6
              have hB7 := Box.ext h_w4 hB7
              have Hin6 := Lib.hid (V.In.ext (w' := w4) Hin6.out h_w4)
              have Hin7 := Lib.hid (V.In.ext (w' := w4) Hin7.out h_w4)
              have hx_w4 := hx_vw3.trans h_w4
              clear hc1 hf1 hl1 hc6 hf6 hl6 hc7 hf7 hl7
              have Hin8 := Lib.hid (hin_.mono (T := (fun b => SS b ∧ b ≠ w3.heap.size)) fun b h hlt_ => by rcases h with h | h; exact ⟨h.1, by have := h.2; omega⟩; exact ⟨HS2.out b (by (try simp at h); omega), by (try simp at h); omega⟩)
              clear hin_ h_w4 hx_vw3 hz2_
              have hc7 := hB7.cells; have hf7 := hB7.free; have hl7 := hB7.lt
              go_upto_region 23 with fail
              refine gen_world (R := fun wx => Box wx w.heap.size #[.int .i64 x.k, .int .i64 x.n, .string x.s, .slice ka x.keys.length kc, .slice la x.l.length lc] 25 ∧ Box wx (w.heap.size + 2) #[.int .i64 0, .int .i64 0, .string ⟨#[]⟩, .slice none 0 0, .slice none 0 0] 25 ∧ Box wx w3.heap.size #[.int .i64 s.k, .int .i64 s.n, .string s.s, .slice ka8 s.keys.length kc8, .slice la8 s.l.length lc8] 25 ∧ Ext w wx ∧ Held (fun b => b ≠ w3.heap.size) w4 wx) ⟨Bxt, Bxt, Bxt, Xt, Hxt⟩ ?_
              clear hB0 hB1 hB2 hB6 hB7 hc7 hf7 hl7 hx_w4 Hin6 Hin7
              rintro wf ⟨hB0, hB2, hB7, hx_f, hhf⟩
              have Hin8 := Lib.hid (show s.In wf SS ka8 kc8 la8 lc8 from Hin8.out.keep (Held.kept (hhf.mono fun b h => h.2)) (fun b h _ => h.1))
              have hc2 := hB2.cells; have hf2 := hB2.free; have hl2 := hB2.lt
              have hc7 := hB7.cells; have hf7 := hB7.free; have hl7 := hB7.lt
              go_wp2_with fail
              (with_reducible apply bp_ret); (focus (go_light; simp [results, Tryz.results42, go_sem, *]; rfl))
              rw [Hr5.out]
              exact ⟨ka8, kc8, la8, lc8, rfl, Hin8.out.keep (Held.kept (Held.mono (a := wf) (S := fun b => b ≠ w.heap.size + 2) Hxt HS5.out)) (fun b hb _ => HS4.out b hb), Xt⟩
            · have h3b : (e3 != 0) = true := by simpa using h3
              have Hr5 := Lib.hid (show oneV x ⟨k, p, f, y⟩ = (x, e3) by rw [Hr4.out, if_pos (by simpa using h3)])
              clear h3
              go_enter Tryz.func42, Tryz.ntmps42
              go_upto_region 1 with fail
              refine gen_world (R := fun wx => Box wx w.heap.size #[.int .i64 x.k, .int .i64 x.n, .string x.s, .slice ka x.keys.length kc, .slice la x.l.length lc] 25 ∧ Box wx (w.heap.size + 1) #[.int .i64 k, .string p, .string f, .int .i64 y.k, .int .i64 y.n, .string y.s, .slice kb y.keys.length kd, .slice lb y.l.length ld] 49 ∧ Box wx (w.heap.size + 2) #[.int .i64 0, .int .i64 0, .string ⟨#[]⟩, .slice none 0 0, .slice none 0 0] 25 ∧ Ext w wx) ⟨Bxt, Bxt, Bxt, Xt⟩ ?_
              rintro wa ⟨hB0, hB1, hB2, hxa⟩
              have hc0 := hB0.cells; have hf0 := hB0.free; have hl0 := hB0.lt
              have hc1 := hB1.cells; have hf1 := hB1.free; have hl1 := hB1.lt
              have hz2_ := hB2.lt
              go_wp2_with fail
              (refine (get_any x ka kc la lc SS f _ (by omega) (Hin.out.ext Xt) (by omega) (hl.ext Xt)).mono ?_)
              rw [Hg.out]
              rintro e w1 ⟨ka6, kc6, la6, lc6, rfl, hin_, h_w1⟩
              have hB0 := Box.ext h_w1 hB0
              have hB1 := Box.ext h_w1 hB1
              have hB2 := Box.ext h_w1 hB2
              have hx_w1 := hxa.trans h_w1
              clear hc0 hf0 hl0 hc1 hf1 hl1
              have Hin6 := Lib.hid (hin_.mono (T := SS) fun b h hlt_ => h.elim id (fun h => HS2.out b (by (try simp at h); omega)))
              clear hin_ h_w1 hxa hz2_
              go_upto_region 11 with fail
              refine gen_world (R := fun wx => Box wx w.heap.size #[.int .i64 x.k, .int .i64 x.n, .string x.s, .slice ka x.keys.length kc, .slice la x.l.length lc] 25 ∧ Box wx (w.heap.size + 1) #[.int .i64 k, .string p, .string f, .int .i64 y.k, .int .i64 y.n, .string y.s, .slice kb y.keys.length kd, .slice lb y.l.length ld] 49 ∧ Box wx (w.heap.size + 2) #[.int .i64 0, .int .i64 0, .string ⟨#[]⟩, .slice none 0 0, .slice none 0 0] 25 ∧ Box wx w1.heap.size #[.int .i64 u.k, .int .i64 u.n, .string u.s, .slice ka6 u.keys.length kc6, .slice la6 u.l.length lc6] 25 ∧ u.In wx SS ka6 kc6 la6 lc6 ∧ Ext w wx) ⟨Bxt, Bxt, Bxt, Bxt, Hin6.out.ext Xt, Xt⟩ ?_
              clear hB0 hB1 hB2 Hin6 hx_w1
              rintro wvw1 ⟨hB0, hB1, hB2, hB6, hin6, hx_vw1⟩
              have Hin6 := Lib.hid hin6
              clear hin6
              have hc0 := hB0.cells; have hf0 := hB0.free; have hl0 := hB0.lt
              have hc1 := hB1.cells; have hf1 := hB1.free; have hl1 := hB1.lt
              go_wp2_with fail
              have hpre := Tryz.strings_HasPrefix p (f ++ ⟨#[47]⟩ : ByteArray) wvw1
              refine hpre.mono ?_
              clear hpre
              rintro e w2 ⟨rfl, rfl⟩
              rw [below_has, Hb.out]
              clear hc0 hf0 hl0 hc1 hf1 hl1
              have hc0 := hB0.cells; have hf0 := hB0.free; have hl0 := hB0.lt
              have hc1 := hB1.cells; have hf1 := hB1.free; have hl1 := hB1.lt
              have hz2_ := hB2.lt
              go_wp2_with fail
              (refine (rem_any x ka kc la lc f SS _ (hl.ext Xt) (by omega) (by omega) (Hin.out.ext Xt)).mono ?_)
              rw [Hrem.out]
              rintro e w3 ⟨ka7, kc7, la7, lc7, rfl, hin_, h_w3⟩
              have hB0 := Box.ext h_w3 hB0
              have hB1 := Box.ext h_w3 hB1
              have hB2 := Box.ext h_w3 hB2
              have hB6 := Box.ext h_w3 hB6
              have Hin6 := Lib.hid (V.In.ext (w' := w3) Hin6.out h_w3)
              have hx_w3 := hx_vw1.trans h_w3
              clear hc0 hf0 hl0 hc1 hf1 hl1
              have Hin7 := Lib.hid (hin_.mono (T := (fun b => SS b ∧ b < w3.heap.size)) fun b h hlt_ => ⟨h.elim id (fun h => HS2.out b (by (try simp at h); omega)), hlt_⟩)
              have Hin6 := Lib.hid (Hin6.out.mono (T := (fun b => SS b ∧ b < w3.heap.size)) fun b h hlt_ => ⟨h, hlt_⟩)
              clear hin_ h_w3 hx_vw1 hz2_
              have hzk_ := hB2.lt
              go_upto_region 20 with fail
              refine gen_world (R := fun wx => Box wx w.heap.size #[.int .i64 x.k, .int .i64 x.n, .string x.s, .slice ka x.keys.length kc, .slice la x.l.length lc] 25 ∧ Box wx (w.heap.size + 1) #[.int .i64 k, .string p, .string f, .int .i64 y.k, .int .i64 y.n, .string y.s, .slice kb y.keys.length kd, .slice lb y.l.length ld] 49 ∧ Box wx (w.heap.size + 2) #[.int .i64 0, .int .i64 0, .string ⟨#[]⟩, .slice none 0 0, .slice none 0 0] 25 ∧ Box wx w1.heap.size #[.int .i64 u.k, .int .i64 u.n, .string u.s, .slice ka6 u.keys.length kc6, .slice la6 u.l.length lc6] 25 ∧ Box wx w3.heap.size #[.int .i64 r.k, .int .i64 r.n, .string r.s, .slice ka7 r.keys.length kc7, .slice la7 r.l.length lc7] 25 ∧ u.In wx (fun b => SS b ∧ b < w3.heap.size) ka6 kc6 la6 lc6 ∧ r.In wx (fun b => SS b ∧ b < w3.heap.size) ka7 kc7 la7 lc7 ∧ Ext w wx) ⟨Bxt, Bxt, Bxt, Bxt, Bxt, Hin6.out.ext Xt, Hin7.out.ext Xt, Xt⟩ ?_
              clear hB0 hB1 hB2 hB6 Hin6 Hin7 hx_w3
              rintro wvw3 ⟨hB0, hB1, hB2, hB6, hB7, hin6, hin7, hx_vw3⟩
              have Hin6 := Lib.hid hin6
              clear hin6
              have Hin7 := Lib.hid hin7
              clear hin7
              have hz7_ := hB7.lt
              have hc1 := hB1.cells; have hf1 := hB1.free; have hl1 := hB1.lt
              have hc6 := hB6.cells; have hf6 := hB6.free; have hl6 := hB6.lt
              have hc7 := hB7.cells; have hf7 := hB7.free; have hl7 := hB7.lt
              have hz2_ := hB2.lt
              go_wp2_with fail
              (refine (add_any u ka6 kc6 la6 lc6 r ka7 kc7 la7 lc7 p (fun b => SS b ∧ b < w3.heap.size) _ (hl.ext Xt) (by omega) (by omega) (by omega) (Hin7.out.ext Xt) (Hin6.out.ext Xt)).mono ?_)
              rw [Hadd.out]
              rintro e w4 ⟨ka8, kc8, la8, lc8, rfl, hin_, h_w4⟩
              have hB0 := Box.ext h_w4 hB0
              have hB1 := Box.ext h_w4 hB1
              have hB2 := Box.ext h_w4 hB2
              have hB6 := Box.ext h_w4 hB6
              have hB7 := Box.ext h_w4 hB7
              have Hin6 := Lib.hid (V.In.ext (w' := w4) Hin6.out h_w4)
              have Hin7 := Lib.hid (V.In.ext (w' := w4) Hin7.out h_w4)
              have hx_w4 := hx_vw3.trans h_w4
              clear hc1 hf1 hl1 hc6 hf6 hl6 hc7 hf7 hl7
              have Hin8 := Lib.hid (hin_.mono (T := (fun b => SS b ∧ b ≠ w3.heap.size)) fun b h hlt_ => by rcases h with h | h; exact ⟨h.1, by have := h.2; omega⟩; exact ⟨HS2.out b (by (try simp at h); omega), by (try simp at h); omega⟩)
              clear hin_ h_w4 hx_vw3 hz2_
              have hc7 := hB7.cells; have hf7 := hB7.free; have hl7 := hB7.lt
              go_upto_region 23 with fail
              refine gen_world (R := fun wx => Box wx w.heap.size #[.int .i64 x.k, .int .i64 x.n, .string x.s, .slice ka x.keys.length kc, .slice la x.l.length lc] 25 ∧ Box wx (w.heap.size + 2) #[.int .i64 0, .int .i64 0, .string ⟨#[]⟩, .slice none 0 0, .slice none 0 0] 25 ∧ Box wx w3.heap.size #[.int .i64 s.k, .int .i64 s.n, .string s.s, .slice ka8 s.keys.length kc8, .slice la8 s.l.length lc8] 25 ∧ Ext w wx ∧ Held (fun b => b ≠ w3.heap.size) w4 wx) ⟨Bxt, Bxt, Bxt, Xt, Hxt⟩ ?_
              clear hB0 hB1 hB2 hB6 hB7 hc7 hf7 hl7 hx_w4 Hin6 Hin7
              rintro wf ⟨hB0, hB2, hB7, hx_f, hhf⟩
              have hc0 := hB0.cells; have hf0 := hB0.free; have hl0 := hB0.lt
              have hc2 := hB2.cells; have hf2 := hB2.free; have hl2 := hB2.lt
              go_wp2_with fail
              (with_reducible apply bp_ret); (focus (go_light; simp [results, Tryz.results42, go_sem, *]; rfl))
              rw [Hr5.out]
              exact ⟨ka, kc, la, lc, rfl, Hin.out.keep (Held.kept (Held.mono (a := w) (S := fun b => b ≠ w.heap.size + 2) Hxt HS5.out)) (fun b hb _ => HS4.out b hb), Xt⟩
          · have h2b : (e2 != 0) = true := by simpa using h2
            have Hr4 := Lib.hid (show oneV x ⟨k, p, f, y⟩ = (x, e2) by rw [Hr3.out, if_pos (by simpa using h2)])
            clear h2
            go_enter Tryz.func42, Tryz.ntmps42
            go_upto_region 1 with fail
            refine gen_world (R := fun wx => Box wx w.heap.size #[.int .i64 x.k, .int .i64 x.n, .string x.s, .slice ka x.keys.length kc, .slice la x.l.length lc] 25 ∧ Box wx (w.heap.size + 1) #[.int .i64 k, .string p, .string f, .int .i64 y.k, .int .i64 y.n, .string y.s, .slice kb y.keys.length kd, .slice lb y.l.length ld] 49 ∧ Box wx (w.heap.size + 2) #[.int .i64 0, .int .i64 0, .string ⟨#[]⟩, .slice none 0 0, .slice none 0 0] 25 ∧ Ext w wx) ⟨Bxt, Bxt, Bxt, Xt⟩ ?_
            rintro wa ⟨hB0, hB1, hB2, hxa⟩
            have hc0 := hB0.cells; have hf0 := hB0.free; have hl0 := hB0.lt
            have hc1 := hB1.cells; have hf1 := hB1.free; have hl1 := hB1.lt
            have hz2_ := hB2.lt
            go_wp2_with fail
            (refine (get_any x ka kc la lc SS f _ (by omega) (Hin.out.ext Xt) (by omega) (hl.ext Xt)).mono ?_)
            rw [Hg.out]
            rintro e w1 ⟨ka6, kc6, la6, lc6, rfl, hin_, h_w1⟩
            have hB0 := Box.ext h_w1 hB0
            have hB1 := Box.ext h_w1 hB1
            have hB2 := Box.ext h_w1 hB2
            have hx_w1 := hxa.trans h_w1
            clear hc0 hf0 hl0 hc1 hf1 hl1
            have Hin6 := Lib.hid (hin_.mono (T := SS) fun b h hlt_ => h.elim id (fun h => HS2.out b (by (try simp at h); omega)))
            clear hin_ h_w1 hxa hz2_
            go_upto_region 11 with fail
            refine gen_world (R := fun wx => Box wx w.heap.size #[.int .i64 x.k, .int .i64 x.n, .string x.s, .slice ka x.keys.length kc, .slice la x.l.length lc] 25 ∧ Box wx (w.heap.size + 1) #[.int .i64 k, .string p, .string f, .int .i64 y.k, .int .i64 y.n, .string y.s, .slice kb y.keys.length kd, .slice lb y.l.length ld] 49 ∧ Box wx (w.heap.size + 2) #[.int .i64 0, .int .i64 0, .string ⟨#[]⟩, .slice none 0 0, .slice none 0 0] 25 ∧ Box wx w1.heap.size #[.int .i64 u.k, .int .i64 u.n, .string u.s, .slice ka6 u.keys.length kc6, .slice la6 u.l.length lc6] 25 ∧ u.In wx SS ka6 kc6 la6 lc6 ∧ Ext w wx) ⟨Bxt, Bxt, Bxt, Bxt, Hin6.out.ext Xt, Xt⟩ ?_
            clear hB0 hB1 hB2 Hin6 hx_w1
            rintro wvw1 ⟨hB0, hB1, hB2, hB6, hin6, hx_vw1⟩
            have Hin6 := Lib.hid hin6
            clear hin6
            have hc0 := hB0.cells; have hf0 := hB0.free; have hl0 := hB0.lt
            have hc1 := hB1.cells; have hf1 := hB1.free; have hl1 := hB1.lt
            go_wp2_with fail
            have hpre := Tryz.strings_HasPrefix p (f ++ ⟨#[47]⟩ : ByteArray) wvw1
            refine hpre.mono ?_
            clear hpre
            rintro e w2 ⟨rfl, rfl⟩
            rw [below_has, Hb.out]
            clear hc0 hf0 hl0 hc1 hf1 hl1
            have hc0 := hB0.cells; have hf0 := hB0.free; have hl0 := hB0.lt
            have hc1 := hB1.cells; have hf1 := hB1.free; have hl1 := hB1.lt
            have hz2_ := hB2.lt
            go_wp2_with fail
            (refine (rem_any x ka kc la lc f SS _ (hl.ext Xt) (by omega) (by omega) (Hin.out.ext Xt)).mono ?_)
            rw [Hrem.out]
            rintro e w3 ⟨ka7, kc7, la7, lc7, rfl, hin_, h_w3⟩
            have hB0 := Box.ext h_w3 hB0
            have hB1 := Box.ext h_w3 hB1
            have hB2 := Box.ext h_w3 hB2
            have hB6 := Box.ext h_w3 hB6
            have Hin6 := Lib.hid (V.In.ext (w' := w3) Hin6.out h_w3)
            have hx_w3 := hx_vw1.trans h_w3
            clear hc0 hf0 hl0 hc1 hf1 hl1
            have Hin7 := Lib.hid (hin_.mono (T := SS) fun b h hlt_ => h.elim id (fun h => HS2.out b (by (try simp at h); omega)))
            clear hin_ h_w3 hx_vw1 hz2_
            go_upto_region 20 with fail
            refine gen_world (R := fun wx => Box wx w.heap.size #[.int .i64 x.k, .int .i64 x.n, .string x.s, .slice ka x.keys.length kc, .slice la x.l.length lc] 25 ∧ Box wx (w.heap.size + 1) #[.int .i64 k, .string p, .string f, .int .i64 y.k, .int .i64 y.n, .string y.s, .slice kb y.keys.length kd, .slice lb y.l.length ld] 49 ∧ Box wx (w.heap.size + 2) #[.int .i64 0, .int .i64 0, .string ⟨#[]⟩, .slice none 0 0, .slice none 0 0] 25 ∧ Box wx w1.heap.size #[.int .i64 u.k, .int .i64 u.n, .string u.s, .slice ka6 u.keys.length kc6, .slice la6 u.l.length lc6] 25 ∧ Box wx w3.heap.size #[.int .i64 r.k, .int .i64 r.n, .string r.s, .slice ka7 r.keys.length kc7, .slice la7 r.l.length lc7] 25 ∧ u.In wx SS ka6 kc6 la6 lc6 ∧ r.In wx SS ka7 kc7 la7 lc7 ∧ Ext w wx) ⟨Bxt, Bxt, Bxt, Bxt, Bxt, Hin6.out.ext Xt, Hin7.out.ext Xt, Xt⟩ ?_
            clear hB0 hB1 hB2 hB6 Hin6 Hin7 hx_w3
            rintro wvw3 ⟨hB0, hB1, hB2, hB6, hB7, hin6, hin7, hx_vw3⟩
            have Hin6 := Lib.hid hin6
            clear hin6
            have Hin7 := Lib.hid hin7
            clear hin7
            have hc0 := hB0.cells; have hf0 := hB0.free; have hl0 := hB0.lt
            have hc2 := hB2.cells; have hf2 := hB2.free; have hl2 := hB2.lt
            go_wp2_with fail
            (with_reducible apply bp_ret); (focus (go_light; simp [results, Tryz.results42, go_sem, *]; rfl))
            rw [Hr4.out]
            exact ⟨ka, kc, la, lc, rfl, Hin.out.keep (Held.kept (Held.mono (a := w) (S := fun b => b ≠ w.heap.size + 2) Hxt HS5.out)) (fun b hb _ => HS4.out b hb), Xt⟩
    · have h0b : (er != 0) = true := by simpa using h0
      have Hr2 := Lib.hid (show oneV x ⟨k, p, f, y⟩ = (x, er) by rw [Hr.out, if_pos (by simpa using h0)])
      clear h0
      go_enter Tryz.func42, Tryz.ntmps42
      go_upto_region 1 with fail
      refine gen_world (R := fun wx => Box wx w.heap.size #[.int .i64 x.k, .int .i64 x.n, .string x.s, .slice ka x.keys.length kc, .slice la x.l.length lc] 25 ∧ Box wx (w.heap.size + 1) #[.int .i64 k, .string p, .string f, .int .i64 y.k, .int .i64 y.n, .string y.s, .slice kb y.keys.length kd, .slice lb y.l.length ld] 49 ∧ Box wx (w.heap.size + 2) #[.int .i64 0, .int .i64 0, .string ⟨#[]⟩, .slice none 0 0, .slice none 0 0] 25 ∧ Ext w wx) ⟨Bxt, Bxt, Bxt, Xt⟩ ?_
      rintro wa ⟨hB0, hB1, hB2, hxa⟩
      have hc0 := hB0.cells; have hf0 := hB0.free; have hl0 := hB0.lt
      have hc1 := hB1.cells; have hf1 := hB1.free; have hl1 := hB1.lt
      have hz2_ := hB2.lt
      go_wp2_with fail
      (refine (get_any x ka kc la lc SS f _ (by omega) (Hin.out.ext Xt) (by omega) (hl.ext Xt)).mono ?_)
      rw [Hg.out]
      rintro e w1 ⟨ka6, kc6, la6, lc6, rfl, hin_, h_w1⟩
      have hB0 := Box.ext h_w1 hB0
      have hB1 := Box.ext h_w1 hB1
      have hB2 := Box.ext h_w1 hB2
      have hx_w1 := hxa.trans h_w1
      clear hc0 hf0 hl0 hc1 hf1 hl1
      have Hin6 := Lib.hid (hin_.mono (T := SS) fun b h hlt_ => h.elim id (fun h => HS2.out b (by (try simp at h); omega)))
      clear hin_ h_w1 hxa hz2_
      go_upto_region 11 with fail
      refine gen_world (R := fun wx => Box wx w.heap.size #[.int .i64 x.k, .int .i64 x.n, .string x.s, .slice ka x.keys.length kc, .slice la x.l.length lc] 25 ∧ Box wx (w.heap.size + 1) #[.int .i64 k, .string p, .string f, .int .i64 y.k, .int .i64 y.n, .string y.s, .slice kb y.keys.length kd, .slice lb y.l.length ld] 49 ∧ Box wx (w.heap.size + 2) #[.int .i64 0, .int .i64 0, .string ⟨#[]⟩, .slice none 0 0, .slice none 0 0] 25 ∧ Box wx w1.heap.size #[.int .i64 u.k, .int .i64 u.n, .string u.s, .slice ka6 u.keys.length kc6, .slice la6 u.l.length lc6] 25 ∧ u.In wx SS ka6 kc6 la6 lc6 ∧ Ext w wx) ⟨Bxt, Bxt, Bxt, Bxt, Hin6.out.ext Xt, Xt⟩ ?_
      clear hB0 hB1 hB2 Hin6 hx_w1
      rintro wvw1 ⟨hB0, hB1, hB2, hB6, hin6, hx_vw1⟩
      have Hin6 := Lib.hid hin6
      clear hin6
      have hc0 := hB0.cells; have hf0 := hB0.free; have hl0 := hB0.lt
      have hc2 := hB2.cells; have hf2 := hB2.free; have hl2 := hB2.lt
      go_wp2_with fail
      (with_reducible apply bp_ret); (focus (go_light; simp [results, Tryz.results42, go_sem, *]; rfl))
      rw [Hr2.out]
      exact ⟨ka, kc, la, lc, rfl, Hin.out.keep (Held.kept (Held.mono (a := w) (S := fun b => b ≠ w.heap.size + 2) Hxt HS5.out)) (fun b hb _ => HS4.out b hb), Xt⟩
end Go.Proofs.YtnbappeiebameaaGreatDoor
