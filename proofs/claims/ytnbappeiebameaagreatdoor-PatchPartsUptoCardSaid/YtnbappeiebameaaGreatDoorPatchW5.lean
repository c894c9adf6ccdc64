/- The walk of patch.One: to copy. -/
import Derived.Test.YtnbappeiebameaaGreatDoorPatchW1
set_option linter.all false
namespace Go.Proofs.YtnbappeiebameaaGreatDoor
open Go.RowKit
attribute [local go_sem ↓] Go.wp_at_zero Go.wp_at_succ


set_option maxRecDepth 100000 in
set_option maxHeartbeats 8000000 in
theorem one_k5 (x : V) (ka : Option Addr) (kc : Nat) (la : Option Addr) (lc : Nat) (k : Int) (p f : ByteArray) (y : V) (kb : Option Addr) (kd : Nat) (lb : Option Addr) (ld : Nat) (w : World) (hl : LibAt w) (hsx : x.size ≤ 4194304) (hsy : y.size ≤ 4194304) (hp : p.size ≤ 4194304) (hf : f.size ≤ 4194304) (S : Nat → Prop) (hin : x.In w S ka kc la lc) (hjn : y.In w S kb kd lb ld) (hk : k = 5) :
    Calls Tryz.prog 42 #[x.val ka kc la lc, .agg #[.int .i64 k, .string p, .string f, .int .i64 y.k, .int .i64 y.n, .string y.s, .slice kb y.keys.length kd, .slice lb y.l.length ld]] w (RetV2 S (oneV x ⟨k, p, f, y⟩).1 (.int .i64 (oneV x ⟨k, p, f, y⟩).2) w) := by
  obtain ⟨SS, hSS⟩ : ∃ SS : Nat → Prop, SS = fun b => (S b ∧ b < w.heap.size) ∨ w.heap.size + 3 ≤ b := ⟨_, rfl⟩
  have Hin := Lib.hid (show x.In w SS ka kc la lc from hin.mono fun b h hl => by rw [hSS]; exact .inl ⟨h, hl⟩)
  have Hjn := Lib.hid (show y.In w SS kb kd lb ld from hjn.mono fun b h hl => by rw [hSS]; exact .inl ⟨h, hl⟩)
  have HS2 := Lib.hid (show ∀ b, w.heap.size + 3 ≤ b → SS b from fun b h => by rw [hSS]; exact .inr h)
  have HS5 := Lib.hid (show ∀ b, SS b → b ≠ w.heap.size + 2 from fun b h => by rw [hSS] at h; rcases h with h | h <;> omega)
  have HS4 := Lib.hid (show ∀ b, SS b → Plus S w b from fun b h => by rw [hSS] at h; exact h.elim (fun h => .inl h.1) (fun h => .inr (by omega)))
  clear hSS
  have hgs := getP_size x p
  have hgf := getP_size x f
  clear hin hjn
  · have b1 : (k == 1) = false := by simpa using (by omega : k ≠ 1)
    have b2 : (k == 2) = false := by simpa using (by omega : k ≠ 2)
    have b3 : (k == 3) = false := by simpa using (by omega : k ≠ 3)
    have b4 : (k == 4) = false := by simpa using (by omega : k ≠ 4)
    have b5 : (k == 5) = true := by simpa using hk
    have Hr := Lib.hid (show oneV x ⟨k, p, f, y⟩ = if (getP x f).2 ≠ 0 then (x, (getP x f).2) else addP x p (getP x f).1 by unfold oneV; simp [hk])
    obtain ⟨u, hu⟩ : ∃ u, (getP x f).1 = u := ⟨_, rfl⟩
    obtain ⟨er, her⟩ : ∃ er, (getP x f).2 = er := ⟨_, rfl⟩
    rw [hu] at hgf
    have Hg := Lib.hid (show getP x f = (u, er) from Prod.ext hu her)
    have Hr := Lib.hid (show oneV x ⟨k, p, f, y⟩ = if er ≠ 0 then (x, er) else addP x p u by have := Hr.out; rw [hu, her] at this; exact this)
    clear hk hu her
    by_cases h0 : er = 0
    · have h0b : (er != 0) = false := by simpa using h0
      obtain ⟨r, hr⟩ : ∃ r, addP x p u = r := ⟨_, rfl⟩
      have Hrr := Lib.hid hr
      have Hr2 := Lib.hid (show oneV x ⟨k, p, f, y⟩ = r by rw [Hr.out, if_neg (by simp [h0]), hr])
      clear h0 hr
      go_enter Tryz.func42, Tryz.ntmps42
      go_upto_region 1 with fail
      refine gen_world (R := fun wx => Box wx w.heap.size #[.int .i64 x.k, .int .i64 x.n, .string x.s, .slice ka x.keys.length kc, .slice la x.l.length lc] 25 ∧ Box wx (w.heap.size + 1) #[.int .i64 k, .string p, .string f, .int .i64 y.k, .int .i64 y.n, .string y.s, .slice kb y.keys.length kd, .slice lb y.l.length ld] 49 ∧ Box wx (w.heap.size + 2) #[.int .i64 0, .int .i64 0, .string ⟨#[]⟩, .slice none 0 0, .slice none 0 0] 25 ∧ Ext w wx) ⟨Bxt, Bxt, Bxt, Xt⟩ ?_
      rintro wa ⟨hB0, hB1, hB2, hxa⟩
      have hc0 := hB0.cells; have hf0 := hB0.free; have hl0 := hB0.lt
      have hc1 := hB1.cells; have hf1 := hB1.free; have hl1 := hB1.lt
      have hz2_ := hB2.lt
      go_wp2_with fail
      (refine (get_any x ka kc la lc SS f _ (by omega) (Hin.out.ext Xt) (by omega) (hl.ext Xt)).mono ?_)
      rw [Hg.out]
      rintro e w1 ⟨ka6, kc6, la6, lc6, rfl, hin_, h_w1⟩
      have hB0 := Box.ext h_w1 hB0
      have hB1 := Box.ext h_w1 hB1
      have hB2 := Box.ext h_w1 hB2
      have hx_w1 := hxa.trans h_w1
      clear hc0 hf0 hl0 hc1 hf1 hl1
      have Hin6 := Lib.hid (hin_.mono (T := SS) fun b h hlt_ => h.elim id (fun h => HS2.out b (by (try simp at h); omega)))
      clear hin_ h_w1 hxa hz2_
      go_upto_region 11 with fail
      refine gen_world (R := fun wx => Box wx w.heap.size #[.int .i64 x.k, .int .i64 x.n, .string x.s, .slice ka x.keys.length kc, .slice la x.l.length lc] 25 ∧ Box wx (w.heap.size + 1) #[.int .i64 k, .string p, .string f, .int .i64 y.k, .int .i64 y.n, .string y.s, .slice kb y.keys.length kd, .slice lb y.l.length ld] 49 ∧ Box wx (w.heap.size + 2) #[.int .i64 0, .int .i64 0, .string ⟨#[]⟩, .slice none 0 0, .slice none 0 0] 25 ∧ Box wx w1.heap.size #[.int .i64 u.k, .int .i64 u.n, .string u.s, .slice ka6 u.keys.length kc6, .slice la6 u.l.length lc6] 25 ∧ u.In wx SS ka6 kc6 la6 lc6 ∧ Ext w wx) ⟨Bxt, Bxt, Bxt, Bxt, Hin6.out.ext Xt, Xt⟩ ?_
      clear hB0 hB1 hB2 Hin6 hx_w1
      rintro wvw1 ⟨hB0, hB1, hB2, hB6, hin6, hx_vw1⟩
      have Hin6 := Lib.hid hin6
      clear hin6
      have hc0 := hB0.cells; have hf0 := hB0.free; have hl0 := hB0.lt
      have hc1 := hB1.cells; have hf1 := hB1.free; have hl1 := hB1.lt
      have hc6 := hB6.cells; have hf6 := hB6.free; have hl6 := hB6.lt
      have hz2_ := hB2.lt
      go_wp2_with fail
      (refine (add_any u ka6 kc6 la6 lc6 x ka kc la lc p SS _ (hl.ext Xt) (by omega) (by omega) (by omega) ((Hin.out.ext Xt)) (Hin6.out.ext Xt)).mono ?_)
      rw [Hrr.out]
      rintro e w2 ⟨ka7, kc7, la7, lc7, rfl, hin_, h_w2⟩
      have hB0 := Box.ext h_w2 hB0
      have hB1 := Box.ext h_w2 hB1
      have hB2 := Box.ext h_w2 hB2
      have hB6 := Box.ext h_w2 hB6
      have Hin6 := Lib.hid (V.In.ext (w' := w2) Hin6.out h_w2)
      have hx_w2 := hx_vw1.trans h_w2
      clear hc0 hf0 hl0 hc1 hf1 hl1 hc6 hf6 hl6
      have Hin7 := Lib.hid (hin_.mono (T := SS) fun b h hlt_ => h.elim id (fun h => HS2.out b (by (try simp at h); omega)))
      clear hin_ h_w2 hx_vw1 hz2_
      have hc2 := hB2.cells; have hf2 := hB2.free; have hl2 := hB2.lt
      go_wp2_with fail
      (with_reducible apply bp_ret); (focus (go_light; simp [results, Tryz.results42, go_sem, *]; rfl))
      rw [Hr2.out]
      exact ⟨ka7, kc7, la7, lc7, rfl, Hin7.out.keep (Held.kept (Held.mono (a := w2) (S := fun b => b ≠ w.heap.size + 2) Hxt HS5.out)) (fun b hb _ => HS4.out b hb), Xt⟩
    · have h0b : (er != 0) = true := by simpa using h0
      have Hr2 := Lib.hid (show oneV x ⟨k, p, f, y⟩ = (x, er) by rw [Hr.out, if_pos (by simpa using h0)])
      clear h0
      go_enter Tryz.func42, Tryz.ntmps42
      go_upto_region 1 with fail
      refine gen_world (R := fun wx => Box wx w.heap.size #[.int .i64 x.k, .int .i64 x.n, .string x.s, .slice ka x.keys.length kc, .slice la x.l.length lc] 25 ∧ Box wx (w.heap.size + 1) #[.int .i64 k, .string p, .string f, .int .i64 y.k, .int .i64 y.n, .string y.s, .slice kb y.keys.length kd, .slice lb y.l.length ld] 49 ∧ Box wx (w.heap.size + 2) #[.int .i64 0, .int .i64 0, .string ⟨#[]⟩, .slice none 0 0, .slice none 0 0] 25 ∧ Ext w wx) ⟨Bxt, Bxt, Bxt, Xt⟩ ?_
      rintro wa ⟨hB0, hB1, hB2, hxa⟩
      have hc0 := hB0.cells; have hf0 := hB0.free; have hl0 := hB0.lt
      have hc1 := hB1.cells; have hf1 := hB1.free; have hl1 := hB1.lt
      have hz2_ := hB2.lt
      go_wp2_with fail
      (refine (get_any x ka kc la lc SS f _ (by omega) (Hin.out.ext Xt) (by omega) (hl.ext Xt)).mono ?_)
      rw [Hg.out]
      rintro e w1 ⟨ka6, kc6, la6, lc6, rfl, hin_, h_w1⟩
      have hB0 := Box.ext h_w1 hB0
      have hB1 := Box.ext h_w1 hB1
      have hB2 := Box.ext h_w1 hB2
      have hx_w1 := hxa.trans h_w1
      clear hc0 hf0 hl0 hc1 hf1 hl1
      have Hin6 := Lib.hid (hin_.mono (T := SS) fun b h hlt_ => h.elim id (fun h => HS2.out b (by (try simp at h); omega)))
      clear hin_ h_w1 hxa hz2_
      go_upto_region 11 with fail
      refine gen_world (R := fun wx => Box wx w.heap.size #[.int .i64 x.k, .int .i64 x.n, .string x.s, .slice ka x.keys.length kc, .slice la x.l.length lc] 25 ∧ Box wx (w.heap.size + 1) #[.int .i64 k, .string p, .string f, .int .i64 y.k, .int .i64 y.n, .string y.s, .slice kb y.keys.length kd, .slice lb y.l.length ld] 49 ∧ Box wx (w.heap.size + 2) #[.int .i64 0, .int .i64 0, .string ⟨#[]⟩, .slice none 0 0, .slice none 0 0] 25 ∧ Box wx w1.heap.size #[.int .i64 u.k, .int .i64 u.n, .string u.s, .slice ka6 u.keys.length kc6, .slice la6 u.l.length lc6] 25 ∧ u.In wx SS ka6 kc6 la6 lc6 ∧ Ext w wx) ⟨Bxt, Bxt, Bxt, Bxt, Hin6.out.ext Xt, Xt⟩ ?_
      clear hB0 hB1 hB2 Hin6 hx_w1
      rintro wvw1 ⟨hB0, hB1, hB2, hB6, hin6, hx_vw1⟩
      have Hin6 := Lib.hid hin6
      clear hin6
      have hc0 := hB0.cells; have hf0 := hB0.free; have hl0 := hB0.lt
      have hc2 := hB2.cells; have hf2 := hB2.free; have hl2 := hB2.lt
      go_wp2_with fail
      (with_reducible apply bp_ret); (focus (go_light; simp [results, Tryz.results42, go_sem, *]; rfl))
      rw [Hr2.out]
      exact ⟨ka, kc, la, lc, rfl, Hin.out.keep (Held.kept (Held.mono (a := w) (S := fun b => b ≠ w.heap.size + 2) Hxt HS5.out)) (fun b hb _ => HS4.out b hb), Xt⟩
end Go.Proofs.YtnbappeiebameaaGreatDoor
