/- The walk of patch.One: to add, to take away, to put, none of them. -/
import Derived.Test.YtnbappeiebameaaGreatDoorPatchP
import Derived.Test.YtnbappeiebameaaGreatDoorAdd
import Derived.Test.YtnbappeiebameaaGreatDoorSameJ
set_option linter.all false
namespace Go.Proofs.YtnbappeiebameaaGreatDoor
open Go.RowKit
attribute [local go_sem ↓] Go.wp_at_zero Go.wp_at_succ

theorem addP_size (x y : V) (p : ByteArray) : (addP x p y).1.size ≤ max x.size 14640 := by
  by_cases h : (addP x p y).2 = 0
  · have := fine_size ((add_law x y p).2 h).1; omega
  · rw [(add_law x y p).1 h]; omega
theorem remP_size (x : V) (p : ByteArray) : (remP x p).1.size ≤ max x.size 14640 := by
  by_cases h : (remP x p).2 = 0
  · have := fine_size ((rem_law x p).2 h); omega
  · rw [(rem_law x p).1 h]; omega
theorem below_has (f p : ByteArray) : Lib.hasPrefix p.data.toList (f ++ ⟨#[47]⟩ : ByteArray).data.toList = belowB f p := by
  unfold belowB Lib.hasPrefix
  simp


set_option maxRecDepth 100000 in
set_option maxHeartbeats 8000000 in
theorem one_k1 (x : V) (ka : Option Addr) (kc : Nat) (la : Option Addr) (lc : Nat) (k : Int) (p f : ByteArray) (y : V) (kb : Option Addr) (kd : Nat) (lb : Option Addr) (ld : Nat) (w : World) (hl : LibAt w) (hsx : x.size ≤ 4194304) (hsy : y.size ≤ 4194304) (hp : p.size ≤ 4194304) (hf : f.size ≤ 4194304) (S : Nat → Prop) (hin : x.In w S ka kc la lc) (hjn : y.In w S kb kd lb ld) (hk : k = 1) :
    Calls Tryz.prog 42 #[x.val ka kc la lc, .agg #[.int .i64 k, .string p, .string f, .int .i64 y.k, .int .i64 y.n, .string y.s, .slice kb y.keys.length kd, .slice lb y.l.length ld]] w (RetV2 S (oneV x ⟨k, p, f, y⟩).1 (.int .i64 (oneV x ⟨k, p, f, y⟩).2) w) := by
  obtain ⟨SS, hSS⟩ : ∃ SS : Nat → Prop, SS = fun b => (S b ∧ b < w.heap.size) ∨ w.heap.size + 3 ≤ b := ⟨_, rfl⟩
  have Hin := Lib.hid (show x.In w SS ka kc la lc from hin.mono fun b h hl => by rw [hSS]; exact .inl ⟨h, hl⟩)
  have Hjn := Lib.hid (show y.In w SS kb kd lb ld from hjn.mono fun b h hl => by rw [hSS]; exact .inl ⟨h, hl⟩)
  have HS2 := Lib.hid (show ∀ b, w.heap.size + 3 ≤ b → SS b from fun b h => by rw [hSS]; exact .inr h)
  have HS5 := Lib.hid (show ∀ b, SS b → b ≠ w.heap.size + 2 from fun b h => by rw [hSS] at h; rcases h with h | h <;> omega)
  have HS4 := Lib.hid (show ∀ b, SS b → Plus S w b from fun b h => by rw [hSS] at h; exact h.elim (fun h => .inl h.1) (fun h => .inr (by omega)))
  clear hSS
  have hgs := getP_size x p
  have hgf := getP_size x f
  clear hin hjn
  · have b1 : (k == 1) = true := by simpa using hk
    have Hr := Lib.hid (show oneV x ⟨k, p, f, y⟩ = addP x p y by unfold oneV; simp [hk])
    obtain ⟨r, hr⟩ : ∃ r, addP x p y = r := ⟨_, rfl⟩
    have Hrr := Lib.hid hr
    clear hk hr
    go_enter Tryz.func42, Tryz.ntmps42
    go_upto_region 1 with fail
    refine gen_world (R := fun wx => Box wx w.heap.size #[.int .i64 x.k, .int .i64 x.n, .string x.s, .slice ka x.keys.length kc, .slice la x.l.length lc] 25 ∧ Box wx (w.heap.size + 1) #[.int .i64 k, .string p, .string f, .int .i64 y.k, .int .i64 y.n, .string y.s, .slice kb y.keys.length kd, .slice lb y.l.length ld] 49 ∧ Box wx (w.heap.size + 2) #[.int .i64 0, .int .i64 0, .string ⟨#[]⟩, .slice none 0 0, .slice none 0 0] 25 ∧ Ext w wx) ⟨Bxt, Bxt, Bxt, Xt⟩ ?_
    rintro wa ⟨hB0, hB1, hB2, hxa⟩
    have hc0 := hB0.cells; have hf0 := hB0.free; have hl0 := hB0.lt
    have hc1 := hB1.cells; have hf1 := hB1.free; have hl1 := hB1.lt
    have hz2_ := hB2.lt
    go_wp2_with fail
    (refine (add_any y kb kd lb ld x ka kc la lc p SS _ (hl.ext Xt) (by omega) (by omega) (by omega) ((Hin.out.ext Xt)) ((Hjn.out.ext Xt))).mono ?_)
    rw [Hrr.out]
    rintro e w1 ⟨ka5, kc5, la5, lc5, rfl, hin_, h_w1⟩
    have hB0 := Box.ext h_w1 hB0
    have hB1 := Box.ext h_w1 hB1
    have hB2 := Box.ext h_w1 hB2
    have hx_w1 := hxa.trans h_w1
    clear hc0 hf0 hl0 hc1 hf1 hl1
    have Hin5 := Lib.hid (hin_.mono (T := SS) fun b h hlt_ => h.elim id (fun h => HS2.out b (by (try simp at h); omega)))
    clear hin_ h_w1 hxa hz2_
    have hc2 := hB2.cells; have hf2 := hB2.free; have hl2 := hB2.lt
    go_wp2_with fail
    (with_reducible apply bp_ret); (focus (go_light; simp [results, Tryz.results42, go_sem, *]; rfl))
    rw [Hr.out, Hrr.out]
    exact ⟨ka5, kc5, la5, lc5, rfl, Hin5.out.keep (Held.kept (Held.mono (a := w1) (S := fun b => b ≠ w.heap.size + 2) Hxt HS5.out)) (fun b hb _ => HS4.out b hb), Xt⟩

set_option maxRecDepth 100000 in
set_option maxHeartbeats 8000000 in
theorem one_k2 (x : V) (ka : Option Addr) (kc : Nat) (la : Option Addr) (lc : Nat) (k : Int) (p f : ByteArray) (y : V) (kb : Option Addr) (kd : Nat) (lb : Option Addr) (ld : Nat) (w : World) (hl : LibAt w) (hsx : x.size ≤ 4194304) (hsy : y.size ≤ 4194304) (hp : p.size ≤ 4194304) (hf : f.size ≤ 4194304) (S : Nat → Prop) (hin : x.In w S ka kc la lc) (hjn : y.In w S kb kd lb ld) (hk : k = 2) :
    Calls Tryz.prog 42 #[x.val ka kc la lc, .agg #[.int .i64 k, .string p, .string f, .int .i64 y.k, .int .i64 y.n, .string y.s, .slice kb y.keys.length kd, .slice lb y.l.length ld]] w (RetV2 S (oneV x ⟨k, p, f, y⟩).1 (.int .i64 (oneV x ⟨k, p, f, y⟩).2) w) := by
  obtain ⟨SS, hSS⟩ : ∃ SS : Nat → Prop, SS = fun b => (S b ∧ b < w.heap.size) ∨ w.heap.size + 3 ≤ b := ⟨_, rfl⟩
  have Hin := Lib.hid (show x.In w SS ka kc la lc from hin.mono fun b h hl => by rw [hSS]; exact .inl ⟨h, hl⟩)
  have Hjn := Lib.hid (show y.In w SS kb kd lb ld from hjn.mono fun b h hl => by rw [hSS]; exact .inl ⟨h, hl⟩)
  have HS2 := Lib.hid (show ∀ b, w.heap.size + 3 ≤ b → SS b from fun b h => by rw [hSS]; exact .inr h)
  have HS5 := Lib.hid (show ∀ b, SS b → b ≠ w.heap.size + 2 from fun b h => by rw [hSS] at h; rcases h with h | h <;> omega)
  have HS4 := Lib.hid (show ∀ b, SS b → Plus S w b from fun b h => by rw [hSS] at h; exact h.elim (fun h => .inl h.1) (fun h => .inr (by omega)))
  clear hSS
  have hgs := getP_size x p
  have hgf := getP_size x f
  clear hin hjn
  · have b1 : (k == 1) = false := by simpa using (by omega : k ≠ 1)
    have b2 : (k == 2) = true := by simpa using hk
    have Hr := Lib.hid (show oneV x ⟨k, p, f, y⟩ = remP x p by unfold oneV; simp [hk])
    obtain ⟨r, hr⟩ : ∃ r, remP x p = r := ⟨_, rfl⟩
    have Hrr := Lib.hid hr
    clear hk hr
    go_enter Tryz.func42, Tryz.ntmps42
    go_upto_region 1 with fail
    refine gen_world (R := fun wx => Box wx w.heap.size #[.int .i64 x.k, .int .i64 x.n, .string x.s, .slice ka x.keys.length kc, .slice la x.l.length lc] 25 ∧ Box wx (w.heap.size + 1) #[.int .i64 k, .string p, .string f, .int .i64 y.k, .int .i64 y.n, .string y.s, .slice kb y.keys.length kd, .slice lb y.l.length ld] 49 ∧ Box wx (w.heap.size + 2) #[.int .i64 0, .int .i64 0, .string ⟨#[]⟩, .slice none 0 0, .slice none 0 0] 25 ∧ Ext w wx) ⟨Bxt, Bxt, Bxt, Xt⟩ ?_
    rintro wa ⟨hB0, hB1, hB2, hxa⟩
    have hc0 := hB0.cells; have hf0 := hB0.free; have hl0 := hB0.lt
    have hc1 := hB1.cells; have hf1 := hB1.free; have hl1 := hB1.lt
    have hz2_ := hB2.lt
    go_wp2_with fail
    (refine (rem_any x ka kc la lc p SS _ (hl.ext Xt) (by omega) (by omega) (Hin.out.ext Xt)).mono ?_)
    rw [Hrr.out]
    rintro e w1 ⟨ka5, kc5, la5, lc5, rfl, hin_, h_w1⟩
    have hB0 := Box.ext h_w1 hB0
    have hB1 := Box.ext h_w1 hB1
    have hB2 := Box.ext h_w1 hB2
    have hx_w1 := hxa.trans h_w1
    clear hc0 hf0 hl0 hc1 hf1 hl1
    have Hin5 := Lib.hid (hin_.mono (T := SS) fun b h hlt_ => h.elim id (fun h => HS2.out b (by (try simp at h); omega)))
    clear hin_ h_w1 hxa hz2_
    have hc2 := hB2.cells; have hf2 := hB2.free; have hl2 := hB2.lt
    go_wp2_with fail
    (with_reducible apply bp_ret); (focus (go_light; simp [results, Tryz.results42, go_sem, *]; rfl))
    rw [Hr.out, Hrr.out]
    exact ⟨ka5, kc5, la5, lc5, rfl, Hin5.out.keep (Held.kept (Held.mono (a := w1) (S := fun b => b ≠ w.heap.size + 2) Hxt HS5.out)) (fun b hb _ => HS4.out b hb), Xt⟩

set_option maxRecDepth 100000 in
set_option maxHeartbeats 8000000 in
theorem one_k3 (x : V) (ka : Option Addr) (kc : Nat) (la : Option Addr) (lc : Nat) (k : Int) (p f : ByteArray) (y : V) (kb : Option Addr) (kd : Nat) (lb : Option Addr) (ld : Nat) (w : World) (hl : LibAt w) (hsx : x.size ≤ 4194304) (hsy : y.size ≤ 4194304) (hp : p.size ≤ 4194304) (hf : f.size ≤ 4194304) (S : Nat → Prop) (hin : x.In w S ka kc la lc) (hjn : y.In w S kb kd lb ld) (hk : k = 3) :
    Calls Tryz.prog 42 #[x.val ka kc la lc, .agg #[.int .i64 k, .string p, .string f, .int .i64 y.k, .int .i64 y.n, .string y.s, .slice kb y.keys.length kd, .slice lb y.l.length ld]] w (RetV2 S (oneV x ⟨k, p, f, y⟩).1 (.int .i64 (oneV x ⟨k, p, f, y⟩).2) w) := by
  obtain ⟨SS, hSS⟩ : ∃ SS : Nat → Prop, SS = fun b => (S b ∧ b < w.heap.size) ∨ w.heap.size + 3 ≤ b := ⟨_, rfl⟩
  have Hin := Lib.hid (show x.In w SS ka kc la lc from hin.mono fun b h hl => by rw [hSS]; exact .inl ⟨h, hl⟩)
  have Hjn := Lib.hid (show y.In w SS kb kd lb ld from hjn.mono fun b h hl => by rw [hSS]; exact .inl ⟨h, hl⟩)
  have HS2 := Lib.hid (show ∀ b, w.heap.size + 3 ≤ b → SS b from fun b h => by rw [hSS]; exact .inr h)
  have HS5 := Lib.hid (show ∀ b, SS b → b ≠ w.heap.size + 2 from fun b h => by rw [hSS] at h; rcases h with h | h <;> omega)
  have HS4 := Lib.hid (show ∀ b, SS b → Plus S w b from fun b h => by rw [hSS] at h; exact h.elim (fun h => .inl h.1) (fun h => .inr (by omega)))
  clear hSS
  have hgs := getP_size x p
  have hgf := getP_size x f
  clear hin hjn
  · have b1 : (k == 1) = false := by simpa using (by omega : k ≠ 1)
    have b2 : (k == 2) = false := by simpa using (by omega : k ≠ 2)
    have b3 : (k == 3) = true := by simpa using hk
    have Hr := Lib.hid (show oneV x ⟨k, p, f, y⟩ = putP x p y by unfold oneV; simp [hk])
    obtain ⟨r, hr⟩ : ∃ r, putP x p y = r := ⟨_, rfl⟩
    have Hrr := Lib.hid hr
    clear hk hr
    go_enter Tryz.func42, Tryz.ntmps42
    go_upto_region 1 with fail
    refine gen_world (R := fun wx => Box wx w.heap.size #[.int .i64 x.k, .int .i64 x.n, .string x.s, .slice ka x.keys.length kc, .slice la x.l.length lc] 25 ∧ Box wx (w.heap.size + 1) #[.int .i64 k, .string p, .string f, .int .i64 y.k, .int .i64 y.n, .string y.s, .slice kb y.keys.length kd, .slice lb y.l.length ld] 49 ∧ Box wx (w.heap.size + 2) #[.int .i64 0, .int .i64 0, .string ⟨#[]⟩, .slice none 0 0, .slice none 0 0] 25 ∧ Ext w wx) ⟨Bxt, Bxt, Bxt, Xt⟩ ?_
    rintro wa ⟨hB0, hB1, hB2, hxa⟩
    have hc0 := hB0.cells; have hf0 := hB0.free; have hl0 := hB0.lt
    have hc1 := hB1.cells; have hf1 := hB1.free; have hl1 := hB1.lt
    have hz2_ := hB2.lt
    go_wp2_with fail
    (refine (put_any y kb kd lb ld x ka kc la lc p SS _ (hl.ext Xt) (by omega) (by omega) (by omega) ((Hin.out.ext Xt)) ((Hjn.out.ext Xt))).mono ?_)
    rw [Hrr.out]
    rintro e w1 ⟨ka5, kc5, la5, lc5, rfl, hin_, h_w1⟩
    have hB0 := Box.ext h_w1 hB0
    have hB1 := Box.ext h_w1 hB1
    have hB2 := Box.ext h_w1 hB2
    have hx_w1 := hxa.trans h_w1
    clear hc0 hf0 hl0 hc1 hf1 hl1
    have Hin5 := Lib.hid (hin_.mono (T := SS) fun b h hlt_ => h.elim id (fun h => HS2.out b (by (try simp at h); omega)))
    clear hin_ h_w1 hxa hz2_
    have hc2 := hB2.cells; have hf2 := hB2.free; have hl2 := hB2.lt
    go_wp2_with fail
    (with_reducible apply bp_ret); (focus (go_light; simp [results, Tryz.results42, go_sem, *]; rfl))
    rw [Hr.out, Hrr.out]
    exact ⟨ka5, kc5, la5, lc5, rfl, Hin5.out.keep (Held.kept (Held.mono (a := w1) (S := fun b => b ≠ w.heap.size + 2) Hxt HS5.out)) (fun b hb _ => HS4.out b hb), Xt⟩

set_option maxRecDepth 100000 in
set_option maxHeartbeats 8000000 in
theorem one_k0 (x : V) (ka : Option Addr) (kc : Nat) (la : Option Addr) (lc : Nat) (k : Int) (p f : ByteArray) (y : V) (kb : Option Addr) (kd : Nat) (lb : Option Addr) (ld : Nat) (w : World) (hl : LibAt w) (hsx : x.size ≤ 4194304) (hsy : y.size ≤ 4194304) (hp : p.size ≤ 4194304) (hf : f.size ≤ 4194304) (S : Nat → Prop) (hin : x.In w S ka kc la lc) (hjn : y.In w S kb kd lb ld) (h1 : k ≠ 1) (h2 : k ≠ 2) (h3 : k ≠ 3) (h4 : k ≠ 4) (h5 : k ≠ 5) (h6 : k ≠ 6) :
    Calls Tryz.prog 42 #[x.val ka kc la lc, .agg #[.int .i64 k, .string p, .string f, .int .i64 y.k, .int .i64 y.n, .string y.s, .slice kb y.keys.length kd, .slice lb y.l.length ld]] w (RetV2 S (oneV x ⟨k, p, f, y⟩).1 (.int .i64 (oneV x ⟨k, p, f, y⟩).2) w) := by
  obtain ⟨SS, hSS⟩ : ∃ SS : Nat → Prop, SS = fun b => (S b ∧ b < w.heap.size) ∨ w.heap.size + 3 ≤ b := ⟨_, rfl⟩
  have Hin := Lib.hid (show x.In w SS ka kc la lc from hin.mono fun b h hl => by rw [hSS]; exact .inl ⟨h, hl⟩)
  have Hjn := Lib.hid (show y.In w SS kb kd lb ld from hjn.mono fun b h hl => by rw [hSS]; exact .inl ⟨h, hl⟩)
  have HS2 := Lib.hid (show ∀ b, w.heap.size + 3 ≤ b → SS b from fun b h => by rw [hSS]; exact .inr h)
  have HS5 := Lib.hid (show ∀ b, SS b → b ≠ w.heap.size + 2 from fun b h => by rw [hSS] at h; rcases h with h | h <;> omega)
  have HS4 := Lib.hid (show ∀ b, SS b → Plus S w b from fun b h => by rw [hSS] at h; exact h.elim (fun h => .inl h.1) (fun h => .inr (by omega)))
  clear hSS
  have hgs := getP_size x p
  have hgf := getP_size x f
  clear hin hjn
  have b1 : (k == 1) = false := by simpa using h1
  have b2 : (k == 2) = false := by simpa using h2
  have b3 : (k == 3) = false := by simpa using h3
  have b4 : (k == 4) = false := by simpa using h4
  have b5 : (k == 5) = false := by simpa using h5
  have b6 : (k == 6) = false := by simpa using h6
  have Hr := Lib.hid (show oneV x ⟨k, p, f, y⟩ = (x, 9) by unfold oneV; simp [h1, h2, h3, h4, h5, h6])
  clear h1 h2 h3 h4 h5 h6
  go_enter Tryz.func42, Tryz.ntmps42
  go_upto_region 1 with fail
  refine gen_world (R := fun wx => Box wx w.heap.size #[.int .i64 x.k, .int .i64 x.n, .string x.s, .slice ka x.keys.length kc, .slice la x.l.length lc] 25 ∧ Box wx (w.heap.size + 1) #[.int .i64 k, .string p, .string f, .int .i64 y.k, .int .i64 y.n, .string y.s, .slice kb y.keys.length kd, .slice lb y.l.length ld] 49 ∧ Box wx (w.heap.size + 2) #[.int .i64 0, .int .i64 0, .string ⟨#[]⟩, .slice none 0 0, .slice none 0 0] 25 ∧ Ext w wx) ⟨Bxt, Bxt, Bxt, Xt⟩ ?_
  rintro wa ⟨hB0, hB1, hB2, hxa⟩
  have hc0 := hB0.cells; have hf0 := hB0.free; have hl0 := hB0.lt
  have hc1 := hB1.cells; have hf1 := hB1.free; have hl1 := hB1.lt
  have hc2 := hB2.cells; have hf2 := hB2.free; have hl2 := hB2.lt
  go_wp2_with fail
  (with_reducible apply bp_ret); (focus (go_light; simp [results, Tryz.results42, go_sem, *]; rfl))
  rw [Hr.out]
  exact ⟨ka, kc, la, lc, rfl, Hin.out.keep (Held.kept (Held.mono (a := w) (S := fun b => b ≠ w.heap.size + 2) Hxt HS5.out)) (fun b hb _ => HS4.out b hb), Xt⟩
end Go.Proofs.YtnbappeiebameaaGreatDoor
