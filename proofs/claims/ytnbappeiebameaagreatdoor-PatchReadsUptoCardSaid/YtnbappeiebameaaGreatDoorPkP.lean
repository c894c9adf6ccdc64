/- Several texts in one. -/
import Derived.Test.YtnbappeiebameaaGreatDoorPatchP
import Derived.Test.YtnbappeiebameaaGreatDoorAdd
import Derived.Test.YtnbappeiebameaaGreatDoorSameJ
import Derived.Test.YtnbappeiebameaaGreatDoorOpenO
import Derived.Test.YtnbappeiebameaaGreatDoorPkC
set_option linter.all false
/- The walk of patch.One: to add, to take away, to put, none of them. -/
namespace Go.Proofs.YtnbappeiebameaaGreatDoor
open Go.RowKit
attribute [local go_sem ↓] Go.wp_at_zero Go.wp_at_succ

theorem addP_size (x y : V) (p : ByteArray) : (addP x p y).1.size ≤ max x.size 14640 := by
  by_cases h : (addP x p y).2 = 0
  · have := fine_size ((add_law x y p).2 h).1; omega
  · rw [(add_law x y p).1 h]; omega
theorem remP_size (x : V) (p : ByteArray) : (remP x p).1.size ≤ max x.size 14640 := by
  by_cases h : (remP x p).2 = 0
  · have := fine_size ((rem_law x p).2 h); omega
  · rw [(rem_law x p).1 h]; omega
theorem below_has (f p : ByteArray) : Lib.hasPrefix p.data.toList (f ++ ⟨#[47]⟩ : ByteArray).data.toList = belowB f p := by
  unfold belowB Lib.hasPrefix
  simp


set_option maxRecDepth 100000 in
set_option maxHeartbeats 8000000 in
theorem one_k1 (x : V) (ka : Option Addr) (kc : Nat) (la : Option Addr) (lc : Nat) (k : Int) (p f : ByteArray) (y : V) (kb : Option Addr) (kd : Nat) (lb : Option Addr) (ld : Nat) (w : World) (hl : LibAt w) (hsx : x.size ≤ 4194304) (hsy : y.size ≤ 4194304) (hp : p.size ≤ 4194304) (hf : f.size ≤ 4194304) (S : Nat → Prop) (hin : x.In w S ka kc la lc) (hjn : y.In w S kb kd lb ld) (hk : k = 1) :
    Calls Tryz.prog 42 #[x.val ka kc la lc, .agg #[.int .i64 k, .string p, .string f, .int .i64 y.k, .int .i64 y.n, .string y.s, .slice kb y.keys.length kd, .slice lb y.l.length ld]] w (RetV2 S (oneV x ⟨k, p, f, y⟩).1 (.int .i64 (oneV x ⟨k, p, f, y⟩).2) w) := by
  obtain ⟨SS, hSS⟩ : ∃ SS : Nat → Prop, SS = fun b => (S b ∧ b < w.heap.size) ∨ w.heap.size + 3 ≤ b := ⟨_, rfl⟩
  have Hin := Lib.hid (show x.In w SS ka kc la lc from hin.mono fun b h hl => by rw [hSS]; exact .inl ⟨h, hl⟩)
  have Hjn := Lib.hid (show y.In w SS kb kd lb ld from hjn.mono fun b h hl => by rw [hSS]; exact .inl ⟨h, hl⟩)
  have HS2 := Lib.hid (show ∀ b, w.heap.size + 3 ≤ b → SS b from fun b h => by rw [hSS]; exact .inr h)
  have HS5 := Lib.hid (show ∀ b, SS b → b ≠ w.heap.size + 2 from fun b h => by rw [hSS] at h; rcases h with h | h <;> omega)
  have HS4 := Lib.hid (show ∀ b, SS b → Plus S w b from fun b h => by rw [hSS] at h; exact h.elim (fun h => .inl h.1) (fun h => .inr (by omega)))
  clear hSS
  have hgs := getP_size x p
  have hgf := getP_size x f
  clear hin hjn
  · have b1 : (k == 1) = true := by simpa using hk
    have Hr := Lib.hid (show oneV x ⟨k, p, f, y⟩ = addP x p y by unfold oneV; simp [hk])
    obtain ⟨r, hr⟩ : ∃ r, addP x p y = r := ⟨_, rfl⟩
    have Hrr := Lib.hid hr
    clear hk hr
    go_enter Tryz.func42, Tryz.ntmps42
    go_upto_region 1 with fail
    refine gen_world (R := fun wx => Box wx w.heap.size #[.int .i64 x.k, .int .i64 x.n, .string x.s, .slice ka x.keys.length kc, .slice la x.l.length lc] 25 ∧ Box wx (w.heap.size + 1) #[.int .i64 k, .string p, .string f, .int .i64 y.k, .int .i64 y.n, .string y.s, .slice kb y.keys.length kd, .slice lb y.l.length ld] 49 ∧ Box wx (w.heap.size + 2) #[.int .i64 0, .int .i64 0, .string ⟨#[]⟩, .slice none 0 0, .slice none 0 0] 25 ∧ Ext w wx) ⟨Bxt, Bxt, Bxt, Xt⟩ ?_
    rintro wa ⟨hB0, hB1, hB2, hxa⟩
    have hc0 := hB0.cells; have hf0 := hB0.free; have hl0 := hB0.lt
    have hc1 := hB1.cells; have hf1 := hB1.free; have hl1 := hB1.lt
    have hz2_ := hB2.lt
    go_wp2_with fail
    (refine (add_any y kb kd lb ld x ka kc la lc p SS _ (hl.ext Xt) (by omega) (by omega) (by omega) ((Hin.out.ext Xt)) ((Hjn.out.ext Xt))).mono ?_)
    rw [Hrr.out]
    rintro e w1 ⟨ka5, kc5, la5, lc5, rfl, hin_, h_w1⟩
    have hB0 := Box.ext h_w1 hB0
    have hB1 := Box.ext h_w1 hB1
    have hB2 := Box.ext h_w1 hB2
    have hx_w1 := hxa.trans h_w1
    clear hc0 hf0 hl0 hc1 hf1 hl1
    have Hin5 := Lib.hid (hin_.mono (T := SS) fun b h hlt_ => h.elim id (fun h => HS2.out b (by (try simp at h); omega)))
    clear hin_ h_w1 hxa hz2_
    have hc2 := hB2.cells; have hf2 := hB2.free; have hl2 := hB2.lt
    go_wp2_with fail
    (with_reducible apply bp_ret); (focus (go_light; simp [results, Tryz.results42, go_sem, *]; rfl))
    rw [Hr.out, Hrr.out]
    exact ⟨ka5, kc5, la5, lc5, rfl, Hin5.out.keep (Held.kept (Held.mono (a := w1) (S := fun b => b ≠ w.heap.size + 2) Hxt HS5.out)) (fun b hb _ => HS4.out b hb), Xt⟩

set_option maxRecDepth 100000 in
set_option maxHeartbeats 8000000 in
theorem one_k2 (x : V) (ka : Option Addr) (kc : Nat) (la : Option Addr) (lc : Nat) (k : Int) (p f : ByteArray) (y : V) (kb : Option Addr) (kd : Nat) (lb : Option Addr) (ld : Nat) (w : World) (hl : LibAt w) (hsx : x.size ≤ 4194304) (hsy : y.size ≤ 4194304) (hp : p.size ≤ 4194304) (hf : f.size ≤ 4194304) (S : Nat → Prop) (hin : x.In w S ka kc la lc) (hjn : y.In w S kb kd lb ld) (hk : k = 2) :
    Calls Tryz.prog 42 #[x.val ka kc la lc, .agg #[.int .i64 k, .string p, .string f, .int .i64 y.k, .int .i64 y.n, .string y.s, .slice kb y.keys.length kd, .slice lb y.l.length ld]] w (RetV2 S (oneV x ⟨k, p, f, y⟩).1 (.int .i64 (oneV x ⟨k, p, f, y⟩).2) w) := by
  obtain ⟨SS, hSS⟩ : ∃ SS : Nat → Prop, SS = fun b => (S b ∧ b < w.heap.size) ∨ w.heap.size + 3 ≤ b := ⟨_, rfl⟩
  have Hin := Lib.hid (show x.In w SS ka kc la lc from hin.mono fun b h hl => by rw [hSS]; exact .inl ⟨h, hl⟩)
  have Hjn := Lib.hid (show y.In w SS kb kd lb ld from hjn.mono fun b h hl => by rw [hSS]; exact .inl ⟨h, hl⟩)
  have HS2 := Lib.hid (show ∀ b, w.heap.size + 3 ≤ b → SS b from fun b h => by rw [hSS]; exact .inr h)
  have HS5 := Lib.hid (show ∀ b, SS b → b ≠ w.heap.size + 2 from fun b h => by rw [hSS] at h; rcases h with h | h <;> omega)
  have HS4 := Lib.hid (show ∀ b, SS b → Plus S w b from fun b h => by rw [hSS] at h; exact h.elim (fun h => .inl h.1) (fun h => .inr (by omega)))
  clear hSS
  have hgs := getP_size x p
  have hgf := getP_size x f
  clear hin hjn
  · have b1 : (k == 1) = false := by simpa using (by omega : k ≠ 1)
    have b2 : (k == 2) = true := by simpa using hk
    have Hr := Lib.hid (show oneV x ⟨k, p, f, y⟩ = remP x p by unfold oneV; simp [hk])
    obtain ⟨r, hr⟩ : ∃ r, remP x p = r := ⟨_, rfl⟩
    have Hrr := Lib.hid hr
    clear hk hr
    go_enter Tryz.func42, Tryz.ntmps42
    go_upto_region 1 with fail
    refine gen_world (R := fun wx => Box wx w.heap.size #[.int .i64 x.k, .int .i64 x.n, .string x.s, .slice ka x.keys.length kc, .slice la x.l.length lc] 25 ∧ Box wx (w.heap.size + 1) #[.int .i64 k, .string p, .string f, .int .i64 y.k, .int .i64 y.n, .string y.s, .slice kb y.keys.length kd, .slice lb y.l.length ld] 49 ∧ Box wx (w.heap.size + 2) #[.int .i64 0, .int .i64 0, .string ⟨#[]⟩, .slice none 0 0, .slice none 0 0] 25 ∧ Ext w wx) ⟨Bxt, Bxt, Bxt, Xt⟩ ?_
    rintro wa ⟨hB0, hB1, hB2, hxa⟩
    have hc0 := hB0.cells; have hf0 := hB0.free; have hl0 := hB0.lt
    have hc1 := hB1.cells; have hf1 := hB1.free; have hl1 := hB1.lt
    have hz2_ := hB2.lt
    go_wp2_with fail
    (refine (rem_any x ka kc la lc p SS _ (hl.ext Xt) (by omega) (by omega) (Hin.out.ext Xt)).mono ?_)
    rw [Hrr.out]
    rintro e w1 ⟨ka5, kc5, la5, lc5, rfl, hin_, h_w1⟩
    have hB0 := Box.ext h_w1 hB0
    have hB1 := Box.ext h_w1 hB1
    have hB2 := Box.ext h_w1 hB2
    have hx_w1 := hxa.trans h_w1
    clear hc0 hf0 hl0 hc1 hf1 hl1
    have Hin5 := Lib.hid (hin_.mono (T := SS) fun b h hlt_ => h.elim id (fun h => HS2.out b (by (try simp at h); omega)))
    clear hin_ h_w1 hxa hz2_
    have hc2 := hB2.cells; have hf2 := hB2.free; have hl2 := hB2.lt
    go_wp2_with fail
    (with_reducible apply bp_ret); (focus (go_light; simp [results, Tryz.results42, go_sem, *]; rfl))
    rw [Hr.out, Hrr.out]
    exact ⟨ka5, kc5, la5, lc5, rfl, Hin5.out.keep (Held.kept (Held.mono (a := w1) (S := fun b => b ≠ w.heap.size + 2) Hxt HS5.out)) (fun b hb _ => HS4.out b hb), Xt⟩

set_option maxRecDepth 100000 in
set_option maxHeartbeats 8000000 in
theorem one_k3 (x : V) (ka : Option Addr) (kc : Nat) (la : Option Addr) (lc : Nat) (k : Int) (p f : ByteArray) (y : V) (kb : Option Addr) (kd : Nat) (lb : Option Addr) (ld : Nat) (w : World) (hl : LibAt w) (hsx : x.size ≤ 4194304) (hsy : y.size ≤ 4194304) (hp : p.size ≤ 4194304) (hf : f.size ≤ 4194304) (S : Nat → Prop) (hin : x.In w S ka kc la lc) (hjn : y.In w S kb kd lb ld) (hk : k = 3) :
    Calls Tryz.prog 42 #[x.val ka kc la lc, .agg #[.int .i64 k, .string p, .string f, .int .i64 y.k, .int .i64 y.n, .string y.s, .slice kb y.keys.length kd, .slice lb y.l.length ld]] w (RetV2 S (oneV x ⟨k, p, f, y⟩).1 (.int .i64 (oneV x ⟨k, p, f, y⟩).2) w) := by
  obtain ⟨SS, hSS⟩ : ∃ SS : Nat → Prop, SS = fun b => (S b ∧ b < w.heap.size) ∨ w.heap.size + 3 ≤ b := ⟨_, rfl⟩
  have Hin := Lib.hid (show x.In w SS ka kc la lc from hin.mono fun b h hl => by rw [hSS]; exact .inl ⟨h, hl⟩)
  have Hjn := Lib.hid (show y.In w SS kb kd lb ld from hjn.mono fun b h hl => by rw [hSS]; exact .inl ⟨h, hl⟩)
  have HS2 := Lib.hid (show ∀ b, w.heap.size + 3 ≤ b → SS b from fun b h => by rw [hSS]; exact .inr h)
  have HS5 := Lib.hid (show ∀ b, SS b → b ≠ w.heap.size + 2 from fun b h => by rw [hSS] at h; rcases h with h | h <;> omega)
  have HS4 := Lib.hid (show ∀ b, SS b → Plus S w b from fun b h => by rw [hSS] at h; exact h.elim (fun h => .inl h.1) (fun h => .inr (by omega)))
  clear hSS
  have hgs := getP_size x p
  have hgf := getP_size x f
  clear hin hjn
  · have b1 : (k == 1) = false := by simpa using (by omega : k ≠ 1)
    have b2 : (k == 2) = false := by simpa using (by omega : k ≠ 2)
    have b3 : (k == 3) = true := by simpa using hk
    have Hr := Lib.hid (show oneV x ⟨k, p, f, y⟩ = putP x p y by unfold oneV; simp [hk])
    obtain ⟨r, hr⟩ : ∃ r, putP x p y = r := ⟨_, rfl⟩
    have Hrr := Lib.hid hr
    clear hk hr
    go_enter Tryz.func42, Tryz.ntmps42
    go_upto_region 1 with fail
    refine gen_world (R := fun wx => Box wx w.heap.size #[.int .i64 x.k, .int .i64 x.n, .string x.s, .slice ka x.keys.length kc, .slice la x.l.length lc] 25 ∧ Box wx (w.heap.size + 1) #[.int .i64 k, .string p, .string f, .int .i64 y.k, .int .i64 y.n, .string y.s, .slice kb y.keys.length kd, .slice lb y.l.length ld] 49 ∧ Box wx (w.heap.size + 2) #[.int .i64 0, .int .i64 0, .string ⟨#[]⟩, .slice none 0 0, .slice none 0 0] 25 ∧ Ext w wx) ⟨Bxt, Bxt, Bxt, Xt⟩ ?_
    rintro wa ⟨hB0, hB1, hB2, hxa⟩
    have hc0 := hB0.cells; have hf0 := hB0.free; have hl0 := hB0.lt
    have hc1 := hB1.cells; have hf1 := hB1.free; have hl1 := hB1.lt
    have hz2_ := hB2.lt
    go_wp2_with fail
    (refine (put_any y kb kd lb ld x ka kc la lc p SS _ (hl.ext Xt) (by omega) (by omega) (by omega) ((Hin.out.ext Xt)) ((Hjn.out.ext Xt))).mono ?_)
    rw [Hrr.out]
    rintro e w1 ⟨ka5, kc5, la5, lc5, rfl, hin_, h_w1⟩
    have hB0 := Box.ext h_w1 hB0
    have hB1 := Box.ext h_w1 hB1
    have hB2 := Box.ext h_w1 hB2
    have hx_w1 := hxa.trans h_w1
    clear hc0 hf0 hl0 hc1 hf1 hl1
    have Hin5 := Lib.hid (hin_.mono (T := SS) fun b h hlt_ => h.elim id (fun h => HS2.out b (by (try simp at h); omega)))
    clear hin_ h_w1 hxa hz2_
    have hc2 := hB2.cells; have hf2 := hB2.free; have hl2 := hB2.lt
    go_wp2_with fail
    (with_reducible apply bp_ret); (focus (go_light; simp [results, Tryz.results42, go_sem, *]; rfl))
    rw [Hr.out, Hrr.out]
    exact ⟨ka5, kc5, la5, lc5, rfl, Hin5.out.keep (Held.kept (Held.mono (a := w1) (S := fun b => b ≠ w.heap.size + 2) Hxt HS5.out)) (fun b hb _ => HS4.out b hb), Xt⟩

set_option maxRecDepth 100000 in
set_option maxHeartbeats 8000000 in
theorem one_k0 (x : V) (ka : Option Addr) (kc : Nat) (la : Option Addr) (lc : Nat) (k : Int) (p f : ByteArray) (y : V) (kb : Option Addr) (kd : Nat) (lb : Option Addr) (ld : Nat) (w : World) (hl : LibAt w) (hsx : x.size ≤ 4194304) (hsy : y.size ≤ 4194304) (hp : p.size ≤ 4194304) (hf : f.size ≤ 4194304) (S : Nat → Prop) (hin : x.In w S ka kc la lc) (hjn : y.In w S kb kd lb ld) (h1 : k ≠ 1) (h2 : k ≠ 2) (h3 : k ≠ 3) (h4 : k ≠ 4) (h5 : k ≠ 5) (h6 : k ≠ 6) :
    Calls Tryz.prog 42 #[x.val ka kc la lc, .agg #[.int .i64 k, .string p, .string f, .int .i64 y.k, .int .i64 y.n, .string y.s, .slice kb y.keys.length kd, .slice lb y.l.length ld]] w (RetV2 S (oneV x ⟨k, p, f, y⟩).1 (.int .i64 (oneV x ⟨k, p, f, y⟩).2) w) := by
  obtain ⟨SS, hSS⟩ : ∃ SS : Nat → Prop, SS = fun b => (S b ∧ b < w.heap.size) ∨ w.heap.size + 3 ≤ b := ⟨_, rfl⟩
  have Hin := Lib.hid (show x.In w SS ka kc la lc from hin.mono fun b h hl => by rw [hSS]; exact .inl ⟨h, hl⟩)
  have Hjn := Lib.hid (show y.In w SS kb kd lb ld from hjn.mono fun b h hl => by rw [hSS]; exact .inl ⟨h, hl⟩)
  have HS2 := Lib.hid (show ∀ b, w.heap.size + 3 ≤ b → SS b from fun b h => by rw [hSS]; exact .inr h)
  have HS5 := Lib.hid (show ∀ b, SS b → b ≠ w.heap.size + 2 from fun b h => by rw [hSS] at h; rcases h with h | h <;> omega)
  have HS4 := Lib.hid (show ∀ b, SS b → Plus S w b from fun b h => by rw [hSS] at h; exact h.elim (fun h => .inl h.1) (fun h => .inr (by omega)))
  clear hSS
  have hgs := getP_size x p
  have hgf := getP_size x f
  clear hin hjn
  have b1 : (k == 1) = false := by simpa using h1
  have b2 : (k == 2) = false := by simpa using h2
  have b3 : (k == 3) = false := by simpa using h3
  have b4 : (k == 4) = false := by simpa using h4
  have b5 : (k == 5) = false := by simpa using h5
  have b6 : (k == 6) = false := by simpa using h6
  have Hr := Lib.hid (show oneV x ⟨k, p, f, y⟩ = (x, 9) by unfold oneV; simp [h1, h2, h3, h4, h5, h6])
  clear h1 h2 h3 h4 h5 h6
  go_enter Tryz.func42, Tryz.ntmps42
  go_upto_region 1 with fail
  refine gen_world (R := fun wx => Box wx w.heap.size #[.int .i64 x.k, .int .i64 x.n, .string x.s, .slice ka x.keys.length kc, .slice la x.l.length lc] 25 ∧ Box wx (w.heap.size + 1) #[.int .i64 k, .string p, .string f, .int .i64 y.k, .int .i64 y.n, .string y.s, .slice kb y.keys.length kd, .slice lb y.l.length ld] 49 ∧ Box wx (w.heap.size + 2) #[.int .i64 0, .int .i64 0, .string ⟨#[]⟩, .slice none 0 0, .slice none 0 0] 25 ∧ Ext w wx) ⟨Bxt, Bxt, Bxt, Xt⟩ ?_
  rintro wa ⟨hB0, hB1, hB2, hxa⟩
  have hc0 := hB0.cells; have hf0 := hB0.free; have hl0 := hB0.lt
  have hc1 := hB1.cells; have hf1 := hB1.free; have hl1 := hB1.lt
  have hc2 := hB2.cells; have hf2 := hB2.free; have hl2 := hB2.lt
  go_wp2_with fail
  (with_reducible apply bp_ret); (focus (go_light; simp [results, Tryz.results42, go_sem, *]; rfl))
  rw [Hr.out]
  exact ⟨ka, kc, la, lc, rfl, Hin.out.keep (Held.kept (Held.mono (a := w) (S := fun b => b ≠ w.heap.size + 2) Hxt HS5.out)) (fun b hb _ => HS4.out b hb), Xt⟩
end Go.Proofs.YtnbappeiebameaaGreatDoor

/- The walk of patch.One: to move. -/
namespace Go.Proofs.YtnbappeiebameaaGreatDoor
open Go.RowKit
attribute [local go_sem ↓] Go.wp_at_zero Go.wp_at_succ


set_option maxRecDepth 100000 in
set_option maxHeartbeats 8000000 in
theorem one_k4 (x : V) (ka : Option Addr) (kc : Nat) (la : Option Addr) (lc : Nat) (k : Int) (p f : ByteArray) (y : V) (kb : Option Addr) (kd : Nat) (lb : Option Addr) (ld : Nat) (w : World) (hl : LibAt w) (hsx : x.size ≤ 4194304) (hsy : y.size ≤ 4194304) (hp : p.size ≤ 4194304) (hf : f.size ≤ 4194304) (S : Nat → Prop) (hin : x.In w S ka kc la lc) (hjn : y.In w S kb kd lb ld) (hk : k = 4) :
    Calls Tryz.prog 42 #[x.val ka kc la lc, .agg #[.int .i64 k, .string p, .string f, .int .i64 y.k, .int .i64 y.n, .string y.s, .slice kb y.keys.length kd, .slice lb y.l.length ld]] w (RetV2 S (oneV x ⟨k, p, f, y⟩).1 (.int .i64 (oneV x ⟨k, p, f, y⟩).2) w) := by
  obtain ⟨SS, hSS⟩ : ∃ SS : Nat → Prop, SS = fun b => (S b ∧ b < w.heap.size) ∨ w.heap.size + 3 ≤ b := ⟨_, rfl⟩
  have Hin := Lib.hid (show x.In w SS ka kc la lc from hin.mono fun b h hl => by rw [hSS]; exact .inl ⟨h, hl⟩)
  have Hjn := Lib.hid (show y.In w SS kb kd lb ld from hjn.mono fun b h hl => by rw [hSS]; exact .inl ⟨h, hl⟩)
  have HS2 := Lib.hid (show ∀ b, w.heap.size + 3 ≤ b → SS b from fun b h => by rw [hSS]; exact .inr h)
  have HS5 := Lib.hid (show ∀ b, SS b → b ≠ w.heap.size + 2 from fun b h => by rw [hSS] at h; rcases h with h | h <;> omega)
  have HS4 := Lib.hid (show ∀ b, SS b → Plus S w b from fun b h => by rw [hSS] at h; exact h.elim (fun h => .inl h.1) (fun h => .inr (by omega)))
  clear hSS
  have hgs := getP_size x p
  have hgf := getP_size x f
  clear hin hjn
  · have b1 : (k == 1) = false := by simpa using (by omega : k ≠ 1)
    have b2 : (k == 2) = false := by simpa using (by omega : k ≠ 2)
    have b3 : (k == 3) = false := by simpa using (by omega : k ≠ 3)
    have b4 : (k == 4) = true := by simpa using hk
    have h5 : (k == 5) = false := by simpa using (by omega : k ≠ 5)
    have Hr := Lib.hid (show oneV x ⟨k, p, f, y⟩ = if (getP x f).2 ≠ 0 then (x, (getP x f).2) else moveV x f p (getP x f).1 by unfold oneV; simp [hk])
    obtain ⟨u, hu⟩ : ∃ u, (getP x f).1 = u := ⟨_, rfl⟩
    obtain ⟨er, her⟩ : ∃ er, (getP x f).2 = er := ⟨_, rfl⟩
    rw [hu] at hgf
    have Hg := Lib.hid (show getP x f = (u, er) from Prod.ext hu her)
    have Hr := Lib.hid (show oneV x ⟨k, p, f, y⟩ = if er ≠ 0 then (x, er) else moveV x f p u by have := Hr.out; rw [hu, her] at this; exact this)
    clear hk hu her
    by_cases h0 : er = 0
    · have h0b : (er != 0) = false := by simpa using h0
      have Hr2 := Lib.hid (show oneV x ⟨k, p, f, y⟩ = moveV x f p u by rw [Hr.out, if_neg (by simp [h0])])
      clear h0
      have hc1_ : ¬ f.size + (⟨#[47]⟩ : ByteArray).size > 9223372036854775807 := by have : (⟨#[47]⟩ : ByteArray).size = 1 := rfl; omega
      cases hb : belowB f p with
      | true =>
        have Hb := Lib.hid hb
        have Hr3 := Lib.hid (show oneV x ⟨k, p, f, y⟩ = (x, 1) by rw [Hr2.out]; unfold moveV; rw [if_pos hb])
        clear hb
        go_enter Tryz.func42, Tryz.ntmps42
        go_upto_region 1 with fail
        refine gen_world (R := fun wx => Box wx w.heap.size #[.int .i64 x.k, .int .i64 x.n, .string x.s, .slice ka x.keys.length kc, .slice la x.l.length lc] 25 ∧ Box wx (w.heap.size + 1) #[.int .i64 k, .string p, .string f, .int .i64 y.k, .int .i64 y.n, .string y.s, .slice kb y.keys.length kd, .slice lb y.l.length ld] 49 ∧ Box wx (w.heap.size + 2) #[.int .i64 0, .int .i64 0, .string ⟨#[]⟩, .slice none 0 0, .slice none 0 0] 25 ∧ Ext w wx) ⟨Bxt, Bxt, Bxt, Xt⟩ ?_
        rintro wa ⟨hB0, hB1, hB2, hxa⟩
        have hc0 := hB0.cells; have hf0 := hB0.free; have hl0 := hB0.lt
        have hc1 := hB1.cells; have hf1 := hB1.free; have hl1 := hB1.lt
        have hz2_ := hB2.lt
        go_wp2_with fail
        (refine (get_any x ka kc la lc SS f _ (by omega) (Hin.out.ext Xt) (by omega) (hl.ext Xt)).mono ?_)
        rw [Hg.out]
        rintro e w1 ⟨ka6, kc6, la6, lc6, rfl, hin_, h_w1⟩
        have hB0 := Box.ext h_w1 hB0
        have hB1 := Box.ext h_w1 hB1
        have hB2 := Box.ext h_w1 hB2
        have hx_w1 := hxa.trans h_w1
        clear hc0 hf0 hl0 hc1 hf1 hl1
        have Hin6 := Lib.hid (hin_.mono (T := SS) fun b h hlt_ => h.elim id (fun h => HS2.out b (by (try simp at h); omega)))
        clear hin_ h_w1 hxa hz2_
        go_upto_region 11 with fail
        refine gen_world (R := fun wx => Box wx w.heap.size #[.int .i64 x.k, .int .i64 x.n, .string x.s, .slice ka x.keys.length kc, .slice la x.l.length lc] 25 ∧ Box wx (w.heap.size + 1) #[.int .i64 k, .string p, .string f, .int .i64 y.k, .int .i64 y.n, .string y.s, .slice kb y.keys.length kd, .slice lb y.l.length ld] 49 ∧ Box wx (w.heap.size + 2) #[.int .i64 0, .int .i64 0, .string ⟨#[]⟩, .slice none 0 0, .slice none 0 0] 25 ∧ Box wx w1.heap.size #[.int .i64 u.k, .int .i64 u.n, .string u.s, .slice ka6 u.keys.length kc6, .slice la6 u.l.length lc6] 25 ∧ u.In wx SS ka6 kc6 la6 lc6 ∧ Ext w wx) ⟨Bxt, Bxt, Bxt, Bxt, Hin6.out.ext Xt, Xt⟩ ?_
        clear hB0 hB1 hB2 Hin6 hx_w1
        rintro wvw1 ⟨hB0, hB1, hB2, hB6, hin6, hx_vw1⟩
        have Hin6 := Lib.hid hin6
        clear hin6
        have hc0 := hB0.cells; have hf0 := hB0.free; have hl0 := hB0.lt
        have hc1 := hB1.cells; have hf1 := hB1.free; have hl1 := hB1.lt
        go_wp2_with fail
        have hpre := Tryz.strings_HasPrefix p (f ++ ⟨#[47]⟩ : ByteArray) wvw1
        refine hpre.mono ?_
        clear hpre
        rintro e w2 ⟨rfl, rfl⟩
        rw [below_has, Hb.out]
        have hc2 := hB2.cells; have hf2 := hB2.free; have hl2 := hB2.lt
        go_wp2_with fail
        (with_reducible apply bp_ret); (focus (go_light; simp [results, Tryz.results42, go_sem, *]; rfl))
        rw [Hr3.out]
        exact ⟨ka, kc, la, lc, rfl, Hin.out.keep (Held.kept (Held.mono (a := w) (S := fun b => b ≠ w.heap.size + 2) Hxt HS5.out)) (fun b hb _ => HS4.out b hb), Xt⟩
      | false =>
        have Hb := Lib.hid hb
        clear hb
        by_cases hfp : f = p
        · have Hr3 := Lib.hid (show oneV x ⟨k, p, f, y⟩ = (x, 0) by rw [Hr2.out, hfp]; exact move_self)
          have hfb : (f.toList == p.toList) = true := by simp [hfp]
          have hfc : f.toList = p.toList := by rw [hfp]
          clear hfp
          go_enter Tryz.func42, Tryz.ntmps42
          go_upto_region 1 with fail
          refine gen_world (R := fun wx => Box wx w.heap.size #[.int .i64 x.k, .int .i64 x.n, .string x.s, .slice ka x.keys.length kc, .slice la x.l.length lc] 25 ∧ Box wx (w.heap.size + 1) #[.int .i64 k, .string p, .string f, .int .i64 y.k, .int .i64 y.n, .string y.s, .slice kb y.keys.length kd, .slice lb y.l.length ld] 49 ∧ Box wx (w.heap.size + 2) #[.int .i64 0, .int .i64 0, .string ⟨#[]⟩, .slice none 0 0, .slice none 0 0] 25 ∧ Ext w wx) ⟨Bxt, Bxt, Bxt, Xt⟩ ?_
          rintro wa ⟨hB0, hB1, hB2, hxa⟩
          have hc0 := hB0.cells; have hf0 := hB0.free; have hl0 := hB0.lt
          have hc1 := hB1.cells; have hf1 := hB1.free; have hl1 := hB1.lt
          have hz2_ := hB2.lt
          go_wp2_with fail
          (refine (get_any x ka kc la lc SS f _ (by omega) (Hin.out.ext Xt) (by omega) (hl.ext Xt)).mono ?_)
          rw [Hg.out]
          rintro e w1 ⟨ka6, kc6, la6, lc6, rfl, hin_, h_w1⟩
          have hB0 := Box.ext h_w1 hB0
          have hB1 := Box.ext h_w1 hB1
          have hB2 := Box.ext h_w1 hB2
          have hx_w1 := hxa.trans h_w1
          clear hc0 hf0 hl0 hc1 hf1 hl1
          have Hin6 := Lib.hid (hin_.mono (T := SS) fun b h hlt_ => h.elim id (fun h => HS2.out b (by (try simp at h); omega)))
          clear hin_ h_w1 hxa hz2_
          go_upto_region 11 with fail
          refine gen_world (R := fun wx => Box wx w.heap.size #[.int .i64 x.k, .int .i64 x.n, .string x.s, .slice ka x.keys.length kc, .slice la x.l.length lc] 25 ∧ Box wx (w.heap.size + 1) #[.int .i64 k, .string p, .string f, .int .i64 y.k, .int .i64 y.n, .string y.s, .slice kb y.keys.length kd, .slice lb y.l.length ld] 49 ∧ Box wx (w.heap.size + 2) #[.int .i64 0, .int .i64 0, .string ⟨#[]⟩, .slice none 0 0, .slice none 0 0] 25 ∧ Box wx w1.heap.size #[.int .i64 u.k, .int .i64 u.n, .string u.s, .slice ka6 u.keys.length kc6, .slice la6 u.l.length lc6] 25 ∧ u.In wx SS ka6 kc6 la6 lc6 ∧ Ext w wx) ⟨Bxt, Bxt, Bxt, Bxt, Hin6.out.ext Xt, Xt⟩ ?_
          clear hB0 hB1 hB2 Hin6 hx_w1
          rintro wvw1 ⟨hB0, hB1, hB2, hB6, hin6, hx_vw1⟩
          have Hin6 := Lib.hid hin6
          clear hin6
          have hc0 := hB0.cells; have hf0 := hB0.free; have hl0 := hB0.lt
          have hc1 := hB1.cells; have hf1 := hB1.free; have hl1 := hB1.lt
          go_wp2_with fail
          have hpre := Tryz.strings_HasPrefix p (f ++ ⟨#[47]⟩ : ByteArray) wvw1
          refine hpre.mono ?_
          clear hpre
          rintro e w2 ⟨rfl, rfl⟩
          rw [below_has, Hb.out]
          have hc2 := hB2.cells; have hf2 := hB2.free; have hl2 := hB2.lt
          go_wp2_with fail
          (with_reducible apply bp_ret); (focus (go_light; simp [results, Tryz.results42, go_sem, *]; rfl))
          rw [Hr3.out]
          exact ⟨ka, kc, la, lc, rfl, Hin.out.keep (Held.kept (Held.mono (a := w) (S := fun b => b ≠ w.heap.size + 2) Hxt HS5.out)) (fun b hb _ => HS4.out b hb), Xt⟩
        · have hfb : (f.toList == p.toList) = false := by simpa using fun h => hfp (bytes_ext h)
          have hfc : ¬ f.toList = p.toList := fun h => hfp (bytes_ext h)
          obtain ⟨r, hr⟩ : ∃ r, (remP x f).1 = r := ⟨_, rfl⟩
          obtain ⟨e2, he2⟩ : ∃ e2, (remP x f).2 = e2 := ⟨_, rfl⟩
          have hrs := remP_size x f
          rw [hr] at hrs
          have Hrem := Lib.hid (show remP x f = (r, e2) from Prod.ext hr he2)
          have Hr3 := Lib.hid (show oneV x ⟨k, p, f, y⟩ = if e2 ≠ 0 then (x, e2) else if (addP r p u).2 ≠ 0 then (x, (addP r p u).2) else ((addP r p u).1, 0) by rw [Hr2.out]; unfold moveV; rw [Hb.out, if_neg (by decide), if_neg hfp, hr, he2])
          clear hr he2 hfp
          by_cases h2 : e2 = 0
          · have h2b : (e2 != 0) = false := by simpa using h2
            obtain ⟨s, hs⟩ : ∃ s, (addP r p u).1 = s := ⟨_, rfl⟩
            obtain ⟨e3, he3⟩ : ∃ e3, (addP r p u).2 = e3 := ⟨_, rfl⟩
            have Hadd := Lib.hid (show addP r p u = (s, e3) from Prod.ext hs he3)
            have Hr4 := Lib.hid (show oneV x ⟨k, p, f, y⟩ = if e3 ≠ 0 then (x, e3) else (s, 0) by rw [Hr3.out, if_neg (by simp [h2]), hs, he3])
            clear hs he3 h2
            by_cases h3 : e3 = 0
            · have h3b : (e3 != 0) = false := by simpa using h3
              have Hr5 := Lib.hid (show oneV x ⟨k, p, f, y⟩ = (s, 0) by rw [Hr4.out, if_neg (by simp [h3])])
              clear h3
              go_enter Tryz.func42, Tryz.ntmps42
              go_upto_region 1 with fail
              refine gen_world (R := fun wx => Box wx w.heap.size #[.int .i64 x.k, .int .i64 x.n, .string x.s, .slice ka x.keys.length kc, .slice la x.l.length lc] 25 ∧ Box wx (w.heap.size + 1) #[.int .i64 k, .string p, .string f, .int .i64 y.k, .int .i64 y.n, .string y.s, .slice kb y.keys.length kd, .slice lb y.l.length ld] 49 ∧ Box wx (w.heap.size + 2) #[.int .i64 0, .int .i64 0, .string ⟨#[]⟩, .slice none 0 0, .slice none 0 0] 25 ∧ Ext w wx) ⟨Bxt, Bxt, Bxt, Xt⟩ ?_
              rintro wa ⟨hB0, hB1, hB2, hxa⟩
              have hc0 := hB0.cells; have hf0 := hB0.free; have hl0 := hB0.lt
              have hc1 := hB1.cells; have hf1 := hB1.free; have hl1 := hB1.lt
              have hz2_ := hB2.lt
              go_wp2_with fail
              (refine (get_any x ka kc la lc SS f _ (by omega) (Hin.out.ext Xt) (by omega) (hl.ext Xt)).mono ?_)
              rw [Hg.out]
              rintro e w1 ⟨ka6, kc6, la6, lc6, rfl, hin_, h_w1⟩
              have hB0 := Box.ext h_w1 hB0
              have hB1 := Box.ext h_w1 hB1
              have hB2 := Box.ext h_w1 hB2
              have hx_w1 := hxa.trans h_w1
              clear hc0 hf0 hl0 hc1 hf1 hl1
              have Hin6 := Lib.hid (hin_.mono (T := SS) fun b h hlt_ => h.elim id (fun h => HS2.out b (by (try simp at h); omega)))
              clear hin_ h_w1 hxa hz2_
              go_upto_region 11 with fail
              refine gen_world (R := fun wx => Box wx w.heap.size #[.int .i64 x.k, .int .i64 x.n, .string x.s, .slice ka x.keys.length kc, .slice la x.l.length lc] 25 ∧ Box wx (w.heap.size + 1) #[.int .i64 k, .string p, .string f, .int .i64 y.k, .int .i64 y.n, .string y.s, .slice kb y.keys.length kd, .slice lb y.l.length ld] 49 ∧ Box wx (w.heap.size + 2) #[.int .i64 0, .int .i64 0, .string ⟨#[]⟩, .slice none 0 0, .slice none 0 0] 25 ∧ Box wx w1.heap.size #[.int .i64 u.k, .int .i64 u.n, .string u.s, .slice ka6 u.keys.length kc6, .slice la6 u.l.length lc6] 25 ∧ u.In wx SS ka6 kc6 la6 lc6 ∧ Ext w wx) ⟨Bxt, Bxt, Bxt, Bxt, Hin6.out.ext Xt, Xt⟩ ?_
              clear hB0 hB1 hB2 Hin6 hx_w1
              rintro wvw1 ⟨hB0, hB1, hB2, hB6, hin6, hx_vw1⟩
              have Hin6 := Lib.hid hin6
              clear hin6
              have hc0 := hB0.cells; have hf0 := hB0.free; have hl0 := hB0.lt
              have hc1 := hB1.cells; have hf1 := hB1.free; have hl1 := hB1.lt
              go_wp2_with fail
              have hpre := Tryz.strings_HasPrefix p (f ++ ⟨#[47]⟩ : ByteArray) wvw1
              refine hpre.mono ?_
              clear hpre
              rintro e w2 ⟨rfl, rfl⟩
              rw [below_has, Hb.out]
              clear hc0 hf0 hl0 hc1 hf1 hl1
              have hc0 := hB0.cells; have hf0 := hB0.free; have hl0 := hB0.lt
              have hc1 := hB1.cells; have hf1 := hB1.free; have hl1 := hB1.lt
              have hz2_ := hB2.lt
              go_wp2_with fail
              (refine (rem_any x ka kc la lc f SS _ (hl.ext Xt) (by omega) (by omega) (Hin.out.ext Xt)).mono ?_)
              rw [Hrem.out]
              rintro e w3 ⟨ka7, kc7, la7, lc7, rfl, hin_, h_w3⟩
              have hB0 := Box.ext h_w3 hB0
              have hB1 := Box.ext h_w3 hB1
              have hB2 := Box.ext h_w3 hB2
              have hB6 := Box.ext h_w3 hB6
              have Hin6 := Lib.hid (V.In.ext (w' := w3) Hin6.out h_w3)
              have hx_w3 := hx_vw1.trans h_w3
              clear hc0 hf0 hl0 hc1 hf1 hl1
              have Hin7 := Lib.hid (hin_.mono (T := (fun b => SS b ∧ b < w3.heap.size)) fun b h hlt_ => ⟨h.elim id (fun h => HS2.out b (by (try simp at h); omega)), hlt_⟩)
              have Hin6 := Lib.hid (Hin6.out.mono (T := (fun b => SS b ∧ b < w3.heap.size)) fun b h hlt_ => ⟨h, hlt_⟩)
              clear hin_ h_w3 hx_vw1 hz2_
              have hzk_ := hB2.lt
              go_upto_region 20 with fail
              refine gen_world (R := fun wx => Box wx w.heap.size #[.int .i64 x.k, .int .i64 x.n, .string x.s, .slice ka x.keys.length kc, .slice la x.l.length lc] 25 ∧ Box wx (w.heap.size + 1) #[.int .i64 k, .string p, .string f, .int .i64 y.k, .int .i64 y.n, .string y.s, .slice kb y.keys.length kd, .slice lb y.l.length ld] 49 ∧ Box wx (w.heap.size + 2) #[.int .i64 0, .int .i64 0, .string ⟨#[]⟩, .slice none 0 0, .slice none 0 0] 25 ∧ Box wx w1.heap.size #[.int .i64 u.k, .int .i64 u.n, .string u.s, .slice ka6 u.keys.length kc6, .slice la6 u.l.length lc6] 25 ∧ Box wx w3.heap.size #[.int .i64 r.k, .int .i64 r.n, .string r.s, .slice ka7 r.keys.length kc7, .slice la7 r.l.length lc7] 25 ∧ u.In wx (fun b => SS b ∧ b < w3.heap.size) ka6 kc6 la6 lc6 ∧ r.In wx (fun b => SS b ∧ b < w3.heap.size) ka7 kc7 la7 lc7 ∧ Ext w wx) ⟨Bxt, Bxt, Bxt, Bxt, Bxt, Hin6.out.ext Xt, Hin7.out.ext Xt, Xt⟩ ?_
              clear hB0 hB1 hB2 hB6 Hin6 Hin7 hx_w3
              rintro wvw3 ⟨hB0, hB1, hB2, hB6, hB7, hin6, hin7, hx_vw3⟩
              have Hin6 := Lib.hid hin6
              clear hin6
              have Hin7 := Lib.hid hin7
              clear hin7
              have hz7_ := hB7.lt
              have hc1 := hB1.cells; have hf1 := hB1.free; have hl1 := hB1.lt
              have hc6 := hB6.cells; have hf6 := hB6.free; have hl6 := hB6.lt
              have hc7 := hB7.cells; have hf7 := hB7.free; have hl7 := hB7.lt
              have hz2_ := hB2.lt
              go_wp2_with fail
              (refine (add_any u ka6 kc6 la6 lc6 r ka7 kc7 la7 lc7 p (fun b => SS b ∧ b < w3.heap.size) _ (hl.ext Xt) (by omega) (by omega) (by omega) (Hin7.out.ext Xt) (Hin6.out.ext Xt)).mono ?_)
              rw [Hadd.out]
              rintro e w4 ⟨ka8, kc8, la8, lc8, rfl, hin_, h_w4⟩
              have hB0 := Box.ext h_w4 hB0
              have hB1 := Box.ext h_w4 hB1
              have hB2 := Box.ext h_w4 hB2
              have hB6 := Box.ext h_w4 hB6
              have hB7 := Box.ext h_w4 hB7
              have Hin6 := Lib.hid (V.In.ext (w' := w4) Hin6.out h_w4)
              have Hin7 := Lib.hid (V.In.ext (w' := w4) Hin7.out h_w4)
              have hx_w4 := hx_vw3.trans h_w4
              clear hc1 hf1 hl1 hc6 hf6 hl6 hc7 hf7 hl7
              have Hin8 := Lib.hid (hin_.mono (T := (fun b => SS b ∧ b ≠ w3.heap.size)) fun b h hlt_ => by rcases h with h | h; exact ⟨h.1, by have := h.2; omega⟩; exact ⟨HS2.out b (by (try simp at h); omega), by (try simp at h); omega⟩)
              clear hin_ h_w4 hx_vw3 hz2_
              have hc7 := hB7.cells; have hf7 := hB7.free; have hl7 := hB7.lt
              go_upto_region 23 with fail
              refine gen_world (R := fun wx => Box wx w.heap.size #[.int .i64 x.k, .int .i64 x.n, .string x.s, .slice ka x.keys.length kc, .slice la x.l.length lc] 25 ∧ Box wx (w.heap.size + 2) #[.int .i64 0, .int .i64 0, .string ⟨#[]⟩, .slice none 0 0, .slice none 0 0] 25 ∧ Box wx w3.heap.size #[.int .i64 s.k, .int .i64 s.n, .string s.s, .slice ka8 s.keys.length kc8, .slice la8 s.l.length lc8] 25 ∧ Ext w wx ∧ Held (fun b => b ≠ w3.heap.size) w4 wx) ⟨Bxt, Bxt, Bxt, Xt, Hxt⟩ ?_
              clear hB0 hB1 hB2 hB6 hB7 hc7 hf7 hl7 hx_w4 Hin6 Hin7
              rintro wf ⟨hB0, hB2, hB7, hx_f, hhf⟩
              have Hin8 := Lib.hid (show s.In wf SS ka8 kc8 la8 lc8 from Hin8.out.keep (Held.kept (hhf.mono fun b h => h.2)) (fun b h _ => h.1))
              have hc2 := hB2.cells; have hf2 := hB2.free; have hl2 := hB2.lt
              have hc7 := hB7.cells; have hf7 := hB7.free; have hl7 := hB7.lt
              go_wp2_with fail
              (with_reducible apply bp_ret); (focus (go_light; simp [results, Tryz.results42, go_sem, *]; rfl))
              rw [Hr5.out]
              exact ⟨ka8, kc8, la8, lc8, rfl, Hin8.out.keep (Held.kept (Held.mono (a := wf) (S := fun b => b ≠ w.heap.size + 2) Hxt HS5.out)) (fun b hb _ => HS4.out b hb), Xt⟩
            · have h3b : (e3 != 0) = true := by simpa using h3
              have Hr5 := Lib.hid (show oneV x ⟨k, p, f, y⟩ = (x, e3) by rw [Hr4.out, if_pos (by simpa using h3)])
              clear h3
              go_enter Tryz.func42, Tryz.ntmps42
              go_upto_region 1 with fail
              refine gen_world (R := fun wx => Box wx w.heap.size #[.int .i64 x.k, .int .i64 x.n, .string x.s, .slice ka x.keys.length kc, .slice la x.l.length lc] 25 ∧ Box wx (w.heap.size + 1) #[.int .i64 k, .string p, .string f, .int .i64 y.k, .int .i64 y.n, .string y.s, .slice kb y.keys.length kd, .slice lb y.l.length ld] 49 ∧ Box wx (w.heap.size + 2) #[.int .i64 0, .int .i64 0, .string ⟨#[]⟩, .slice none 0 0, .slice none 0 0] 25 ∧ Ext w wx) ⟨Bxt, Bxt, Bxt, Xt⟩ ?_
              rintro wa ⟨hB0, hB1, hB2, hxa⟩
              have hc0 := hB0.cells; have hf0 := hB0.free; have hl0 := hB0.lt
              have hc1 := hB1.cells; have hf1 := hB1.free; have hl1 := hB1.lt
              have hz2_ := hB2.lt
              go_wp2_with fail
              (refine (get_any x ka kc la lc SS f _ (by omega) (Hin.out.ext Xt) (by omega) (hl.ext Xt)).mono ?_)
              rw [Hg.out]
              rintro e w1 ⟨ka6, kc6, la6, lc6, rfl, hin_, h_w1⟩
              have hB0 := Box.ext h_w1 hB0
              have hB1 := Box.ext h_w1 hB1
              have hB2 := Box.ext h_w1 hB2
              have hx_w1 := hxa.trans h_w1
              clear hc0 hf0 hl0 hc1 hf1 hl1
              have Hin6 := Lib.hid (hin_.mono (T := SS) fun b h hlt_ => h.elim id (fun h => HS2.out b (by (try simp at h); omega)))
              clear hin_ h_w1 hxa hz2_
              go_upto_region 11 with fail
              refine gen_world (R := fun wx => Box wx w.heap.size #[.int .i64 x.k, .int .i64 x.n, .string x.s, .slice ka x.keys.length kc, .slice la x.l.length lc] 25 ∧ Box wx (w.heap.size + 1) #[.int .i64 k, .string p, .string f, .int .i64 y.k, .int .i64 y.n, .string y.s, .slice kb y.keys.length kd, .slice lb y.l.length ld] 49 ∧ Box wx (w.heap.size + 2) #[.int .i64 0, .int .i64 0, .string ⟨#[]⟩, .slice none 0 0, .slice none 0 0] 25 ∧ Box wx w1.heap.size #[.int .i64 u.k, .int .i64 u.n, .string u.s, .slice ka6 u.keys.length kc6, .slice la6 u.l.length lc6] 25 ∧ u.In wx SS ka6 kc6 la6 lc6 ∧ Ext w wx) ⟨Bxt, Bxt, Bxt, Bxt, Hin6.out.ext Xt, Xt⟩ ?_
              clear hB0 hB1 hB2 Hin6 hx_w1
              rintro wvw1 ⟨hB0, hB1, hB2, hB6, hin6, hx_vw1⟩
              have Hin6 := Lib.hid hin6
              clear hin6
              have hc0 := hB0.cells; have hf0 := hB0.free; have hl0 := hB0.lt
              have hc1 := hB1.cells; have hf1 := hB1.free; have hl1 := hB1.lt
              go_wp2_with fail
              have hpre := Tryz.strings_HasPrefix p (f ++ ⟨#[47]⟩ : ByteArray) wvw1
              refine hpre.mono ?_
              clear hpre
              rintro e w2 ⟨rfl, rfl⟩
              rw [below_has, Hb.out]
              clear hc0 hf0 hl0 hc1 hf1 hl1
              have hc0 := hB0.cells; have hf0 := hB0.free; have hl0 := hB0.lt
              have hc1 := hB1.cells; have hf1 := hB1.free; have hl1 := hB1.lt
              have hz2_ := hB2.lt
              go_wp2_with fail
              (refine (rem_any x ka kc la lc f SS _ (hl.ext Xt) (by omega) (by omega) (Hin.out.ext Xt)).mono ?_)
              rw [Hrem.out]
              rintro e w3 ⟨ka7, kc7, la7, lc7, rfl, hin_, h_w3⟩
              have hB0 := Box.ext h_w3 hB0
              have hB1 := Box.ext h_w3 hB1
              have hB2 := Box.ext h_w3 hB2
              have hB6 := Box.ext h_w3 hB6
              have Hin6 := Lib.hid (V.In.ext (w' := w3) Hin6.out h_w3)
              have hx_w3 := hx_vw1.trans h_w3
              clear hc0 hf0 hl0 hc1 hf1 hl1
              have Hin7 := Lib.hid (hin_.mono (T := (fun b => SS b ∧ b < w3.heap.size)) fun b h hlt_ => ⟨h.elim id (fun h => HS2.out b (by (try simp at h); omega)), hlt_⟩)
              have Hin6 := Lib.hid (Hin6.out.mono (T := (fun b => SS b ∧ b < w3.heap.size)) fun b h hlt_ => ⟨h, hlt_⟩)
              clear hin_ h_w3 hx_vw1 hz2_
              have hzk_ := hB2.lt
              go_upto_region 20 with fail
              refine gen_world (R := fun wx => Box wx w.heap.size #[.int .i64 x.k, .int .i64 x.n, .string x.s, .slice ka x.keys.length kc, .slice la x.l.length lc] 25 ∧ Box wx (w.heap.size + 1) #[.int .i64 k, .string p, .string f, .int .i64 y.k, .int .i64 y.n, .string y.s, .slice kb y.keys.length kd, .slice lb y.l.length ld] 49 ∧ Box wx (w.heap.size + 2) #[.int .i64 0, .int .i64 0, .string ⟨#[]⟩, .slice none 0 0, .slice none 0 0] 25 ∧ Box wx w1.heap.size #[.int .i64 u.k, .int .i64 u.n, .string u.s, .slice ka6 u.keys.length kc6, .slice la6 u.l.length lc6] 25 ∧ Box wx w3.heap.size #[.int .i64 r.k, .int .i64 r.n, .string r.s, .slice ka7 r.keys.length kc7, .slice la7 r.l.length lc7] 25 ∧ u.In wx (fun b => SS b ∧ b < w3.heap.size) ka6 kc6 la6 lc6 ∧ r.In wx (fun b => SS b ∧ b < w3.heap.size) ka7 kc7 la7 lc7 ∧ Ext w wx) ⟨Bxt, Bxt, Bxt, Bxt, Bxt, Hin6.out.ext Xt, Hin7.out.ext Xt, Xt⟩ ?_
              clear hB0 hB1 hB2 hB6 Hin6 Hin7 hx_w3
              rintro wvw3 ⟨hB0, hB1, hB2, hB6, hB7, hin6, hin7, hx_vw3⟩
              have Hin6 := Lib.hid hin6
              clear hin6
              have Hin7 := Lib.hid hin7
              clear hin7
              have hz7_ := hB7.lt
              have hc1 := hB1.cells; have hf1 := hB1.free; have hl1 := hB1.lt
              have hc6 := hB6.cells; have hf6 := hB6.free; have hl6 := hB6.lt
              have hc7 := hB7.cells; have hf7 := hB7.free; have hl7 := hB7.lt
              have hz2_ := hB2.lt
              go_wp2_with fail
              (refine (add_any u ka6 kc6 la6 lc6 r ka7 kc7 la7 lc7 p (fun b => SS b ∧ b < w3.heap.size) _ (hl.ext Xt) (by omega) (by omega) (by omega) (Hin7.out.ext Xt) (Hin6.out.ext Xt)).mono ?_)
              rw [Hadd.out]
              rintro e w4 ⟨ka8, kc8, la8, lc8, rfl, hin_, h_w4⟩
              have hB0 := Box.ext h_w4 hB0
              have hB1 := Box.ext h_w4 hB1
              have hB2 := Box.ext h_w4 hB2
              have hB6 := Box.ext h_w4 hB6
              have hB7 := Box.ext h_w4 hB7
              have Hin6 := Lib.hid (V.In.ext (w' := w4) Hin6.out h_w4)
              have Hin7 := Lib.hid (V.In.ext (w' := w4) Hin7.out h_w4)
              have hx_w4 := hx_vw3.trans h_w4
              clear hc1 hf1 hl1 hc6 hf6 hl6 hc7 hf7 hl7
              have Hin8 := Lib.hid (hin_.mono (T := (fun b => SS b ∧ b ≠ w3.heap.size)) fun b h hlt_ => by rcases h with h | h; exact ⟨h.1, by have := h.2; omega⟩; exact ⟨HS2.out b (by (try simp at h); omega), by (try simp at h); omega⟩)
              clear hin_ h_w4 hx_vw3 hz2_
              have hc7 := hB7.cells; have hf7 := hB7.free; have hl7 := hB7.lt
              go_upto_region 23 with fail
              refine gen_world (R := fun wx => Box wx w.heap.size #[.int .i64 x.k, .int .i64 x.n, .string x.s, .slice ka x.keys.length kc, .slice la x.l.length lc] 25 ∧ Box wx (w.heap.size + 2) #[.int .i64 0, .int .i64 0, .string ⟨#[]⟩, .slice none 0 0, .slice none 0 0] 25 ∧ Box wx w3.heap.size #[.int .i64 s.k, .int .i64 s.n, .string s.s, .slice ka8 s.keys.length kc8, .slice la8 s.l.length lc8] 25 ∧ Ext w wx ∧ Held (fun b => b ≠ w3.heap.size) w4 wx) ⟨Bxt, Bxt, Bxt, Xt, Hxt⟩ ?_
              clear hB0 hB1 hB2 hB6 hB7 hc7 hf7 hl7 hx_w4 Hin6 Hin7
              rintro wf ⟨hB0, hB2, hB7, hx_f, hhf⟩
              have hc0 := hB0.cells; have hf0 := hB0.free; have hl0 := hB0.lt
              have hc2 := hB2.cells; have hf2 := hB2.free; have hl2 := hB2.lt
              go_wp2_with fail
              (with_reducible apply bp_ret); (focus (go_light; simp [results, Tryz.results42, go_sem, *]; rfl))
              rw [Hr5.out]
              exact ⟨ka, kc, la, lc, rfl, Hin.out.keep (Held.kept (Held.mono (a := w) (S := fun b => b ≠ w.heap.size + 2) Hxt HS5.out)) (fun b hb _ => HS4.out b hb), Xt⟩
          · have h2b : (e2 != 0) = true := by simpa using h2
            have Hr4 := Lib.hid (show oneV x ⟨k, p, f, y⟩ = (x, e2) by rw [Hr3.out, if_pos (by simpa using h2)])
            clear h2
            go_enter Tryz.func42, Tryz.ntmps42
            go_upto_region 1 with fail
            refine gen_world (R := fun wx => Box wx w.heap.size #[.int .i64 x.k, .int .i64 x.n, .string x.s, .slice ka x.keys.length kc, .slice la x.l.length lc] 25 ∧ Box wx (w.heap.size + 1) #[.int .i64 k, .string p, .string f, .int .i64 y.k, .int .i64 y.n, .string y.s, .slice kb y.keys.length kd, .slice lb y.l.length ld] 49 ∧ Box wx (w.heap.size + 2) #[.int .i64 0, .int .i64 0, .string ⟨#[]⟩, .slice none 0 0, .slice none 0 0] 25 ∧ Ext w wx) ⟨Bxt, Bxt, Bxt, Xt⟩ ?_
            rintro wa ⟨hB0, hB1, hB2, hxa⟩
            have hc0 := hB0.cells; have hf0 := hB0.free; have hl0 := hB0.lt
            have hc1 := hB1.cells; have hf1 := hB1.free; have hl1 := hB1.lt
            have hz2_ := hB2.lt
            go_wp2_with fail
            (refine (get_any x ka kc la lc SS f _ (by omega) (Hin.out.ext Xt) (by omega) (hl.ext Xt)).mono ?_)
            rw [Hg.out]
            rintro e w1 ⟨ka6, kc6, la6, lc6, rfl, hin_, h_w1⟩
            have hB0 := Box.ext h_w1 hB0
            have hB1 := Box.ext h_w1 hB1
            have hB2 := Box.ext h_w1 hB2
            have hx_w1 := hxa.trans h_w1
            clear hc0 hf0 hl0 hc1 hf1 hl1
            have Hin6 := Lib.hid (hin_.mono (T := SS) fun b h hlt_ => h.elim id (fun h => HS2.out b (by (try simp at h); omega)))
            clear hin_ h_w1 hxa hz2_
            go_upto_region 11 with fail
            refine gen_world (R := fun wx => Box wx w.heap.size #[.int .i64 x.k, .int .i64 x.n, .string x.s, .slice ka x.keys.length kc, .slice la x.l.length lc] 25 ∧ Box wx (w.heap.size + 1) #[.int .i64 k, .string p, .string f, .int .i64 y.k, .int .i64 y.n, .string y.s, .slice kb y.keys.length kd, .slice lb y.l.length ld] 49 ∧ Box wx (w.heap.size + 2) #[.int .i64 0, .int .i64 0, .string ⟨#[]⟩, .slice none 0 0, .slice none 0 0] 25 ∧ Box wx w1.heap.size #[.int .i64 u.k, .int .i64 u.n, .string u.s, .slice ka6 u.keys.length kc6, .slice la6 u.l.length lc6] 25 ∧ u.In wx SS ka6 kc6 la6 lc6 ∧ Ext w wx) ⟨Bxt, Bxt, Bxt, Bxt, Hin6.out.ext Xt, Xt⟩ ?_
            clear hB0 hB1 hB2 Hin6 hx_w1
            rintro wvw1 ⟨hB0, hB1, hB2, hB6, hin6, hx_vw1⟩
            have Hin6 := Lib.hid hin6
            clear hin6
            have hc0 := hB0.cells; have hf0 := hB0.free; have hl0 := hB0.lt
            have hc1 := hB1.cells; have hf1 := hB1.free; have hl1 := hB1.lt
            go_wp2_with fail
            have hpre := Tryz.strings_HasPrefix p (f ++ ⟨#[47]⟩ : ByteArray) wvw1
            refine hpre.mono ?_
            clear hpre
            rintro e w2 ⟨rfl, rfl⟩
            rw [below_has, Hb.out]
            clear hc0 hf0 hl0 hc1 hf1 hl1
            have hc0 := hB0.cells; have hf0 := hB0.free; have hl0 := hB0.lt
            have hc1 := hB1.cells; have hf1 := hB1.free; have hl1 := hB1.lt
            have hz2_ := hB2.lt
            go_wp2_with fail
            (refine (rem_any x ka kc la lc f SS _ (hl.ext Xt) (by omega) (by omega) (Hin.out.ext Xt)).mono ?_)
            rw [Hrem.out]
            rintro e w3 ⟨ka7, kc7, la7, lc7, rfl, hin_, h_w3⟩
            have hB0 := Box.ext h_w3 hB0
            have hB1 := Box.ext h_w3 hB1
            have hB2 := Box.ext h_w3 hB2
            have hB6 := Box.ext h_w3 hB6
            have Hin6 := Lib.hid (V.In.ext (w' := w3) Hin6.out h_w3)
            have hx_w3 := hx_vw1.trans h_w3
            clear hc0 hf0 hl0 hc1 hf1 hl1
            have Hin7 := Lib.hid (hin_.mono (T := SS) fun b h hlt_ => h.elim id (fun h => HS2.out b (by (try simp at h); omega)))
            clear hin_ h_w3 hx_vw1 hz2_
            go_upto_region 20 with fail
            refine gen_world (R := fun wx => Box wx w.heap.size #[.int .i64 x.k, .int .i64 x.n, .string x.s, .slice ka x.keys.length kc, .slice la x.l.length lc] 25 ∧ Box wx (w.heap.size + 1) #[.int .i64 k, .string p, .string f, .int .i64 y.k, .int .i64 y.n, .string y.s, .slice kb y.keys.length kd, .slice lb y.l.length ld] 49 ∧ Box wx (w.heap.size + 2) #[.int .i64 0, .int .i64 0, .string ⟨#[]⟩, .slice none 0 0, .slice none 0 0] 25 ∧ Box wx w1.heap.size #[.int .i64 u.k, .int .i64 u.n, .string u.s, .slice ka6 u.keys.length kc6, .slice la6 u.l.length lc6] 25 ∧ Box wx w3.heap.size #[.int .i64 r.k, .int .i64 r.n, .string r.s, .slice ka7 r.keys.length kc7, .slice la7 r.l.length lc7] 25 ∧ u.In wx SS ka6 kc6 la6 lc6 ∧ r.In wx SS ka7 kc7 la7 lc7 ∧ Ext w wx) ⟨Bxt, Bxt, Bxt, Bxt, Bxt, Hin6.out.ext Xt, Hin7.out.ext Xt, Xt⟩ ?_
            clear hB0 hB1 hB2 hB6 Hin6 Hin7 hx_w3
            rintro wvw3 ⟨hB0, hB1, hB2, hB6, hB7, hin6, hin7, hx_vw3⟩
            have Hin6 := Lib.hid hin6
            clear hin6
            have Hin7 := Lib.hid hin7
            clear hin7
            have hc0 := hB0.cells; have hf0 := hB0.free; have hl0 := hB0.lt
            have hc2 := hB2.cells; have hf2 := hB2.free; have hl2 := hB2.lt
            go_wp2_with fail
            (with_reducible apply bp_ret); (focus (go_light; simp [results, Tryz.results42, go_sem, *]; rfl))
            rw [Hr4.out]
            exact ⟨ka, kc, la, lc, rfl, Hin.out.keep (Held.kept (Held.mono (a := w) (S := fun b => b ≠ w.heap.size + 2) Hxt HS5.out)) (fun b hb _ => HS4.out b hb), Xt⟩
    · have h0b : (er != 0) = true := by simpa using h0
      have Hr2 := Lib.hid (show oneV x ⟨k, p, f, y⟩ = (x, er) by rw [Hr.out, if_pos (by simpa using h0)])
      clear h0
      go_enter Tryz.func42, Tryz.ntmps42
      go_upto_region 1 with fail
      refine gen_world (R := fun wx => Box wx w.heap.size #[.int .i64 x.k, .int .i64 x.n, .string x.s, .slice ka x.keys.length kc, .slice la x.l.length lc] 25 ∧ Box wx (w.heap.size + 1) #[.int .i64 k, .string p, .string f, .int .i64 y.k, .int .i64 y.n, .string y.s, .slice kb y.keys.length kd, .slice lb y.l.length ld] 49 ∧ Box wx (w.heap.size + 2) #[.int .i64 0, .int .i64 0, .string ⟨#[]⟩, .slice none 0 0, .slice none 0 0] 25 ∧ Ext w wx) ⟨Bxt, Bxt, Bxt, Xt⟩ ?_
      rintro wa ⟨hB0, hB1, hB2, hxa⟩
      have hc0 := hB0.cells; have hf0 := hB0.free; have hl0 := hB0.lt
      have hc1 := hB1.cells; have hf1 := hB1.free; have hl1 := hB1.lt
      have hz2_ := hB2.lt
      go_wp2_with fail
      (refine (get_any x ka kc la lc SS f _ (by omega) (Hin.out.ext Xt) (by omega) (hl.ext Xt)).mono ?_)
      rw [Hg.out]
      rintro e w1 ⟨ka6, kc6, la6, lc6, rfl, hin_, h_w1⟩
      have hB0 := Box.ext h_w1 hB0
      have hB1 := Box.ext h_w1 hB1
      have hB2 := Box.ext h_w1 hB2
      have hx_w1 := hxa.trans h_w1
      clear hc0 hf0 hl0 hc1 hf1 hl1
      have Hin6 := Lib.hid (hin_.mono (T := SS) fun b h hlt_ => h.elim id (fun h => HS2.out b (by (try simp at h); omega)))
      clear hin_ h_w1 hxa hz2_
      go_upto_region 11 with fail
      refine gen_world (R := fun wx => Box wx w.heap.size #[.int .i64 x.k, .int .i64 x.n, .string x.s, .slice ka x.keys.length kc, .slice la x.l.length lc] 25 ∧ Box wx (w.heap.size + 1) #[.int .i64 k, .string p, .string f, .int .i64 y.k, .int .i64 y.n, .string y.s, .slice kb y.keys.length kd, .slice lb y.l.length ld] 49 ∧ Box wx (w.heap.size + 2) #[.int .i64 0, .int .i64 0, .string ⟨#[]⟩, .slice none 0 0, .slice none 0 0] 25 ∧ Box wx w1.heap.size #[.int .i64 u.k, .int .i64 u.n, .string u.s, .slice ka6 u.keys.length kc6, .slice la6 u.l.length lc6] 25 ∧ u.In wx SS ka6 kc6 la6 lc6 ∧ Ext w wx) ⟨Bxt, Bxt, Bxt, Bxt, Hin6.out.ext Xt, Xt⟩ ?_
      clear hB0 hB1 hB2 Hin6 hx_w1
      rintro wvw1 ⟨hB0, hB1, hB2, hB6, hin6, hx_vw1⟩
      have Hin6 := Lib.hid hin6
      clear hin6
      have hc0 := hB0.cells; have hf0 := hB0.free; have hl0 := hB0.lt
      have hc2 := hB2.cells; have hf2 := hB2.free; have hl2 := hB2.lt
      go_wp2_with fail
      (with_reducible apply bp_ret); (focus (go_light; simp [results, Tryz.results42, go_sem, *]; rfl))
      rw [Hr2.out]
      exact ⟨ka, kc, la, lc, rfl, Hin.out.keep (Held.kept (Held.mono (a := w) (S := fun b => b ≠ w.heap.size + 2) Hxt HS5.out)) (fun b hb _ => HS4.out b hb), Xt⟩
end Go.Proofs.YtnbappeiebameaaGreatDoor

/- The walk of patch.One: to copy. -/
namespace Go.Proofs.YtnbappeiebameaaGreatDoor
open Go.RowKit
attribute [local go_sem ↓] Go.wp_at_zero Go.wp_at_succ


set_option maxRecDepth 100000 in
set_option maxHeartbeats 8000000 in
theorem one_k5 (x : V) (ka : Option Addr) (kc : Nat) (la : Option Addr) (lc : Nat) (k : Int) (p f : ByteArray) (y : V) (kb : Option Addr) (kd : Nat) (lb : Option Addr) (ld : Nat) (w : World) (hl : LibAt w) (hsx : x.size ≤ 4194304) (hsy : y.size ≤ 4194304) (hp : p.size ≤ 4194304) (hf : f.size ≤ 4194304) (S : Nat → Prop) (hin : x.In w S ka kc la lc) (hjn : y.In w S kb kd lb ld) (hk : k = 5) :
    Calls Tryz.prog 42 #[x.val ka kc la lc, .agg #[.int .i64 k, .string p, .string f, .int .i64 y.k, .int .i64 y.n, .string y.s, .slice kb y.keys.length kd, .slice lb y.l.length ld]] w (RetV2 S (oneV x ⟨k, p, f, y⟩).1 (.int .i64 (oneV x ⟨k, p, f, y⟩).2) w) := by
  obtain ⟨SS, hSS⟩ : ∃ SS : Nat → Prop, SS = fun b => (S b ∧ b < w.heap.size) ∨ w.heap.size + 3 ≤ b := ⟨_, rfl⟩
  have Hin := Lib.hid (show x.In w SS ka kc la lc from hin.mono fun b h hl => by rw [hSS]; exact .inl ⟨h, hl⟩)
  have Hjn := Lib.hid (show y.In w SS kb kd lb ld from hjn.mono fun b h hl => by rw [hSS]; exact .inl ⟨h, hl⟩)
  have HS2 := Lib.hid (show ∀ b, w.heap.size + 3 ≤ b → SS b from fun b h => by rw [hSS]; exact .inr h)
  have HS5 := Lib.hid (show ∀ b, SS b → b ≠ w.heap.size + 2 from fun b h => by rw [hSS] at h; rcases h with h | h <;> omega)
  have HS4 := Lib.hid (show ∀ b, SS b → Plus S w b from fun b h => by rw [hSS] at h; exact h.elim (fun h => .inl h.1) (fun h => .inr (by omega)))
  clear hSS
  have hgs := getP_size x p
  have hgf := getP_size x f
  clear hin hjn
  · have b1 : (k == 1) = false := by simpa using (by omega : k ≠ 1)
    have b2 : (k == 2) = false := by simpa using (by omega : k ≠ 2)
    have b3 : (k == 3) = false := by simpa using (by omega : k ≠ 3)
    have b4 : (k == 4) = false := by simpa using (by omega : k ≠ 4)
    have b5 : (k == 5) = true := by simpa using hk
    have Hr := Lib.hid (show oneV x ⟨k, p, f, y⟩ = if (getP x f).2 ≠ 0 then (x, (getP x f).2) else addP x p (getP x f).1 by unfold oneV; simp [hk])
    obtain ⟨u, hu⟩ : ∃ u, (getP x f).1 = u := ⟨_, rfl⟩
    obtain ⟨er, her⟩ : ∃ er, (getP x f).2 = er := ⟨_, rfl⟩
    rw [hu] at hgf
    have Hg := Lib.hid (show getP x f = (u, er) from Prod.ext hu her)
    have Hr := Lib.hid (show oneV x ⟨k, p, f, y⟩ = if er ≠ 0 then (x, er) else addP x p u by have := Hr.out; rw [hu, her] at this; exact this)
    clear hk hu her
    by_cases h0 : er = 0
    · have h0b : (er != 0) = false := by simpa using h0
      obtain ⟨r, hr⟩ : ∃ r, addP x p u = r := ⟨_, rfl⟩
      have Hrr := Lib.hid hr
      have Hr2 := Lib.hid (show oneV x ⟨k, p, f, y⟩ = r by rw [Hr.out, if_neg (by simp [h0]), hr])
      clear h0 hr
      go_enter Tryz.func42, Tryz.ntmps42
      go_upto_region 1 with fail
      refine gen_world (R := fun wx => Box wx w.heap.size #[.int .i64 x.k, .int .i64 x.n, .string x.s, .slice ka x.keys.length kc, .slice la x.l.length lc] 25 ∧ Box wx (w.heap.size + 1) #[.int .i64 k, .string p, .string f, .int .i64 y.k, .int .i64 y.n, .string y.s, .slice kb y.keys.length kd, .slice lb y.l.length ld] 49 ∧ Box wx (w.heap.size + 2) #[.int .i64 0, .int .i64 0, .string ⟨#[]⟩, .slice none 0 0, .slice none 0 0] 25 ∧ Ext w wx) ⟨Bxt, Bxt, Bxt, Xt⟩ ?_
      rintro wa ⟨hB0, hB1, hB2, hxa⟩
      have hc0 := hB0.cells; have hf0 := hB0.free; have hl0 := hB0.lt
      have hc1 := hB1.cells; have hf1 := hB1.free; have hl1 := hB1.lt
      have hz2_ := hB2.lt
      go_wp2_with fail
      (refine (get_any x ka kc la lc SS f _ (by omega) (Hin.out.ext Xt) (by omega) (hl.ext Xt)).mono ?_)
      rw [Hg.out]
      rintro e w1 ⟨ka6, kc6, la6, lc6, rfl, hin_, h_w1⟩
      have hB0 := Box.ext h_w1 hB0
      have hB1 := Box.ext h_w1 hB1
      have hB2 := Box.ext h_w1 hB2
      have hx_w1 := hxa.trans h_w1
      clear hc0 hf0 hl0 hc1 hf1 hl1
      have Hin6 := Lib.hid (hin_.mono (T := SS) fun b h hlt_ => h.elim id (fun h => HS2.out b (by (try simp at h); omega)))
      clear hin_ h_w1 hxa hz2_
      go_upto_region 11 with fail
      refine gen_world (R := fun wx => Box wx w.heap.size #[.int .i64 x.k, .int .i64 x.n, .string x.s, .slice ka x.keys.length kc, .slice la x.l.length lc] 25 ∧ Box wx (w.heap.size + 1) #[.int .i64 k, .string p, .string f, .int .i64 y.k, .int .i64 y.n, .string y.s, .slice kb y.keys.length kd, .slice lb y.l.length ld] 49 ∧ Box wx (w.heap.size + 2) #[.int .i64 0, .int .i64 0, .string ⟨#[]⟩, .slice none 0 0, .slice none 0 0] 25 ∧ Box wx w1.heap.size #[.int .i64 u.k, .int .i64 u.n, .string u.s, .slice ka6 u.keys.length kc6, .slice la6 u.l.length lc6] 25 ∧ u.In wx SS ka6 kc6 la6 lc6 ∧ Ext w wx) ⟨Bxt, Bxt, Bxt, Bxt, Hin6.out.ext Xt, Xt⟩ ?_
      clear hB0 hB1 hB2 Hin6 hx_w1
      rintro wvw1 ⟨hB0, hB1, hB2, hB6, hin6, hx_vw1⟩
      have Hin6 := Lib.hid hin6
      clear hin6
      have hc0 := hB0.cells; have hf0 := hB0.free; have hl0 := hB0.lt
      have hc1 := hB1.cells; have hf1 := hB1.free; have hl1 := hB1.lt
      have hc6 := hB6.cells; have hf6 := hB6.free; have hl6 := hB6.lt
      have hz2_ := hB2.lt
      go_wp2_with fail
      (refine (add_any u ka6 kc6 la6 lc6 x ka kc la lc p SS _ (hl.ext Xt) (by omega) (by omega) (by omega) ((Hin.out.ext Xt)) (Hin6.out.ext Xt)).mono ?_)
      rw [Hrr.out]
      rintro e w2 ⟨ka7, kc7, la7, lc7, rfl, hin_, h_w2⟩
      have hB0 := Box.ext h_w2 hB0
      have hB1 := Box.ext h_w2 hB1
      have hB2 := Box.ext h_w2 hB2
      have hB6 := Box.ext h_w2 hB6
      have Hin6 := Lib.hid (V.In.ext (w' := w2) Hin6.out h_w2)
      have hx_w2 := hx_vw1.trans h_w2
      clear hc0 hf0 hl0 hc1 hf1 hl1 hc6 hf6 hl6
      have Hin7 := Lib.hid (hin_.mono (T := SS) fun b h hlt_ => h.elim id (fun h => HS2.out b (by (try simp at h); omega)))
      clear hin_ h_w2 hx_vw1 hz2_
      have hc2 := hB2.cells; have hf2 := hB2.free; have hl2 := hB2.lt
      go_wp2_with fail
      (with_reducible apply bp_ret); (focus (go_light; simp [results, Tryz.results42, go_sem, *]; rfl))
      rw [Hr2.out]
      exact ⟨ka7, kc7, la7, lc7, rfl, Hin7.out.keep (Held.kept (Held.mono (a := w2) (S := fun b => b ≠ w.heap.size + 2) Hxt HS5.out)) (fun b hb _ => HS4.out b hb), Xt⟩
    · have h0b : (er != 0) = true := by simpa using h0
      have Hr2 := Lib.hid (show oneV x ⟨k, p, f, y⟩ = (x, er) by rw [Hr.out, if_pos (by simpa using h0)])
      clear h0
      go_enter Tryz.func42, Tryz.ntmps42
      go_upto_region 1 with fail
      refine gen_world (R := fun wx => Box wx w.heap.size #[.int .i64 x.k, .int .i64 x.n, .string x.s, .slice ka x.keys.length kc, .slice la x.l.length lc] 25 ∧ Box wx (w.heap.size + 1) #[.int .i64 k, .string p, .string f, .int .i64 y.k, .int .i64 y.n, .string y.s, .slice kb y.keys.length kd, .slice lb y.l.length ld] 49 ∧ Box wx (w.heap.size + 2) #[.int .i64 0, .int .i64 0, .string ⟨#[]⟩, .slice none 0 0, .slice none 0 0] 25 ∧ Ext w wx) ⟨Bxt, Bxt, Bxt, Xt⟩ ?_
      rintro wa ⟨hB0, hB1, hB2, hxa⟩
      have hc0 := hB0.cells; have hf0 := hB0.free; have hl0 := hB0.lt
      have hc1 := hB1.cells; have hf1 := hB1.free; have hl1 := hB1.lt
      have hz2_ := hB2.lt
      go_wp2_with fail
      (refine (get_any x ka kc la lc SS f _ (by omega) (Hin.out.ext Xt) (by omega) (hl.ext Xt)).mono ?_)
      rw [Hg.out]
      rintro e w1 ⟨ka6, kc6, la6, lc6, rfl, hin_, h_w1⟩
      have hB0 := Box.ext h_w1 hB0
      have hB1 := Box.ext h_w1 hB1
      have hB2 := Box.ext h_w1 hB2
      have hx_w1 := hxa.trans h_w1
      clear hc0 hf0 hl0 hc1 hf1 hl1
      have Hin6 := Lib.hid (hin_.mono (T := SS) fun b h hlt_ => h.elim id (fun h => HS2.out b (by (try simp at h); omega)))
      clear hin_ h_w1 hxa hz2_
      go_upto_region 11 with fail
      refine gen_world (R := fun wx => Box wx w.heap.size #[.int .i64 x.k, .int .i64 x.n, .string x.s, .slice ka x.keys.length kc, .slice la x.l.length lc] 25 ∧ Box wx (w.heap.size + 1) #[.int .i64 k, .string p, .string f, .int .i64 y.k, .int .i64 y.n, .string y.s, .slice kb y.keys.length kd, .slice lb y.l.length ld] 49 ∧ Box wx (w.heap.size + 2) #[.int .i64 0, .int .i64 0, .string ⟨#[]⟩, .slice none 0 0, .slice none 0 0] 25 ∧ Box wx w1.heap.size #[.int .i64 u.k, .int .i64 u.n, .string u.s, .slice ka6 u.keys.length kc6, .slice la6 u.l.length lc6] 25 ∧ u.In wx SS ka6 kc6 la6 lc6 ∧ Ext w wx) ⟨Bxt, Bxt, Bxt, Bxt, Hin6.out.ext Xt, Xt⟩ ?_
      clear hB0 hB1 hB2 Hin6 hx_w1
      rintro wvw1 ⟨hB0, hB1, hB2, hB6, hin6, hx_vw1⟩
      have Hin6 := Lib.hid hin6
      clear hin6
      have hc0 := hB0.cells; have hf0 := hB0.free; have hl0 := hB0.lt
      have hc2 := hB2.cells; have hf2 := hB2.free; have hl2 := hB2.lt
      go_wp2_with fail
      (with_reducible apply bp_ret); (focus (go_light; simp [results, Tryz.results42, go_sem, *]; rfl))
      rw [Hr2.out]
      exact ⟨ka, kc, la, lc, rfl, Hin.out.keep (Held.kept (Held.mono (a := w) (S := fun b => b ≠ w.heap.size + 2) Hxt HS5.out)) (fun b hb _ => HS4.out b hb), Xt⟩
end Go.Proofs.YtnbappeiebameaaGreatDoor

/- The walk of patch.One: to test. -/
namespace Go.Proofs.YtnbappeiebameaaGreatDoor
open Go.RowKit
attribute [local go_sem ↓] Go.wp_at_zero Go.wp_at_succ


set_option maxRecDepth 100000 in
set_option maxHeartbeats 8000000 in
theorem one_k6 (x : V) (ka : Option Addr) (kc : Nat) (la : Option Addr) (lc : Nat) (k : Int) (p f : ByteArray) (y : V) (kb : Option Addr) (kd : Nat) (lb : Option Addr) (ld : Nat) (w : World) (hl : LibAt w) (hsx : x.size ≤ 4194304) (hsy : y.size ≤ 4194304) (hp : p.size ≤ 4194304) (hf : f.size ≤ 4194304) (S : Nat → Prop) (hin : x.In w S ka kc la lc) (hjn : y.In w S kb kd lb ld) (hk : k = 6) :
    Calls Tryz.prog 42 #[x.val ka kc la lc, .agg #[.int .i64 k, .string p, .string f, .int .i64 y.k, .int .i64 y.n, .string y.s, .slice kb y.keys.length kd, .slice lb y.l.length ld]] w (RetV2 S (oneV x ⟨k, p, f, y⟩).1 (.int .i64 (oneV x ⟨k, p, f, y⟩).2) w) := by
  obtain ⟨SS, hSS⟩ : ∃ SS : Nat → Prop, SS = fun b => (S b ∧ b < w.heap.size) ∨ w.heap.size + 3 ≤ b := ⟨_, rfl⟩
  have Hin := Lib.hid (show x.In w SS ka kc la lc from hin.mono fun b h hl => by rw [hSS]; exact .inl ⟨h, hl⟩)
  have Hjn := Lib.hid (show y.In w SS kb kd lb ld from hjn.mono fun b h hl => by rw [hSS]; exact .inl ⟨h, hl⟩)
  have HS2 := Lib.hid (show ∀ b, w.heap.size + 3 ≤ b → SS b from fun b h => by rw [hSS]; exact .inr h)
  have HS5 := Lib.hid (show ∀ b, SS b → b ≠ w.heap.size + 2 from fun b h => by rw [hSS] at h; rcases h with h | h <;> omega)
  have HS4 := Lib.hid (show ∀ b, SS b → Plus S w b from fun b h => by rw [hSS] at h; exact h.elim (fun h => .inl h.1) (fun h => .inr (by omega)))
  clear hSS
  have hgs := getP_size x p
  have hgf := getP_size x f
  clear hin hjn
  · have b1 : (k == 1) = false := by simpa using (by omega : k ≠ 1)
    have b2 : (k == 2) = false := by simpa using (by omega : k ≠ 2)
    have b3 : (k == 3) = false := by simpa using (by omega : k ≠ 3)
    have b4 : (k == 4) = false := by simpa using (by omega : k ≠ 4)
    have b5 : (k == 5) = false := by simpa using (by omega : k ≠ 5)
    have b6 : (k == 6) = true := by simpa using hk
    have Hr := Lib.hid (show oneV x ⟨k, p, f, y⟩ = if (getP x p).2 ≠ 0 then (x, (getP x p).2) else if (getP x p).1.same y = true then (x, 0) else (x, 4) by unfold oneV; simp [hk])
    obtain ⟨u, hu⟩ : ∃ u, (getP x p).1 = u := ⟨_, rfl⟩
    obtain ⟨er, her⟩ : ∃ er, (getP x p).2 = er := ⟨_, rfl⟩
    rw [hu] at hgs
    have Hg := Lib.hid (show getP x p = (u, er) from Prod.ext hu her)
    have Hr := Lib.hid (show oneV x ⟨k, p, f, y⟩ = if er ≠ 0 then (x, er) else if u.same y = true then (x, 0) else (x, 4) by have := Hr.out; rw [hu, her] at this; exact this)
    clear hk hu her
    by_cases h0 : er = 0
    · have h0b : (er != 0) = false := by simpa using h0
      have Hr2 := Lib.hid (show oneV x ⟨k, p, f, y⟩ = if u.same y = true then (x, 0) else (x, 4) by rw [Hr.out, if_neg (by simp [h0])])
      clear h0
      cases hs : u.same y with
      | true =>
        have Hs := Lib.hid hs
        have Hr3 := Lib.hid (show oneV x ⟨k, p, f, y⟩ = (x, 0) by rw [Hr2.out, if_pos hs])
        clear hs
        go_enter Tryz.func42, Tryz.ntmps42
        go_upto_region 1 with fail
        refine gen_world (R := fun wx => Box wx w.heap.size #[.int .i64 x.k, .int .i64 x.n, .string x.s, .slice ka x.keys.length kc, .slice la x.l.length lc] 25 ∧ Box wx (w.heap.size + 1) #[.int .i64 k, .string p, .string f, .int .i64 y.k, .int .i64 y.n, .string y.s, .slice kb y.keys.length kd, .slice lb y.l.length ld] 49 ∧ Box wx (w.heap.size + 2) #[.int .i64 0, .int .i64 0, .string ⟨#[]⟩, .slice none 0 0, .slice none 0 0] 25 ∧ Ext w wx) ⟨Bxt, Bxt, Bxt, Xt⟩ ?_
        rintro wa ⟨hB0, hB1, hB2, hxa⟩
        have hc0 := hB0.cells; have hf0 := hB0.free; have hl0 := hB0.lt
        have hc1 := hB1.cells; have hf1 := hB1.free; have hl1 := hB1.lt
        have hz2_ := hB2.lt
        go_wp2_with fail
        (refine (get_any x ka kc la lc SS p _ (by omega) (Hin.out.ext Xt) (by omega) (hl.ext Xt)).mono ?_)
        rw [Hg.out]
        rintro e w1 ⟨ka6, kc6, la6, lc6, rfl, hin_, h_w1⟩
        have hB0 := Box.ext h_w1 hB0
        have hB1 := Box.ext h_w1 hB1
        have hB2 := Box.ext h_w1 hB2
        have hx_w1 := hxa.trans h_w1
        clear hc0 hf0 hl0 hc1 hf1 hl1
        have Hin6 := Lib.hid (hin_.mono (T := SS) fun b h hlt_ => h.elim id (fun h => HS2.out b (by (try simp at h); omega)))
        clear hin_ h_w1 hxa hz2_
        go_upto_region 28 with fail
        refine gen_world (R := fun wx => Box wx w.heap.size #[.int .i64 x.k, .int .i64 x.n, .string x.s, .slice ka x.keys.length kc, .slice la x.l.length lc] 25 ∧ Box wx (w.heap.size + 1) #[.int .i64 k, .string p, .string f, .int .i64 y.k, .int .i64 y.n, .string y.s, .slice kb y.keys.length kd, .slice lb y.l.length ld] 49 ∧ Box wx (w.heap.size + 2) #[.int .i64 0, .int .i64 0, .string ⟨#[]⟩, .slice none 0 0, .slice none 0 0] 25 ∧ Box wx w1.heap.size #[.int .i64 u.k, .int .i64 u.n, .string u.s, .slice ka6 u.keys.length kc6, .slice la6 u.l.length lc6] 25 ∧ u.In wx SS ka6 kc6 la6 lc6 ∧ Ext w wx) ⟨Bxt, Bxt, Bxt, Bxt, Hin6.out.ext Xt, Xt⟩ ?_
        clear hB0 hB1 hB2 Hin6 hx_w1
        rintro wvw1 ⟨hB0, hB1, hB2, hB6, hin6, hx_vw1⟩
        have Hin6 := Lib.hid hin6
        clear hin6
        have hc1 := hB1.cells; have hf1 := hB1.free; have hl1 := hB1.lt
        have hc6 := hB6.cells; have hf6 := hB6.free; have hl6 := hB6.lt
        have hz2_ := hB2.lt
        go_wp2_with fail
        (refine (sameJ_any u y ka6 kc6 la6 lc6 SS kb kd lb ld SS _ (by omega) (by omega) (Hin6.out.ext Xt) (Hjn.out.ext Xt)).mono ?_)
        rintro e w2 ⟨rfl, h_w2⟩
        have hB0 := Box.ext h_w2 hB0
        have hB1 := Box.ext h_w2 hB1
        have hB2 := Box.ext h_w2 hB2
        have hB6 := Box.ext h_w2 hB6
        have Hin6 := Lib.hid (V.In.ext (w' := w2) Hin6.out h_w2)
        have hx_w2 := hx_vw1.trans h_w2
        clear hc1 hf1 hl1 hc6 hf6 hl6
        rw [Hs.out]
        clear h_w2 hx_vw1 hz2_
        have hc0 := hB0.cells; have hf0 := hB0.free; have hl0 := hB0.lt
        have hc2 := hB2.cells; have hf2 := hB2.free; have hl2 := hB2.lt
        go_wp2_with fail
        (with_reducible apply bp_ret); (focus (go_light; simp [results, Tryz.results42, go_sem, *]; rfl))
        rw [Hr3.out]
        exact ⟨ka, kc, la, lc, rfl, Hin.out.keep (Held.kept (Held.mono (a := w) (S := fun b => b ≠ w.heap.size + 2) Hxt HS5.out)) (fun b hb _ => HS4.out b hb), Xt⟩
      | false =>
        have Hs := Lib.hid hs
        have Hr3 := Lib.hid (show oneV x ⟨k, p, f, y⟩ = (x, 4) by rw [Hr2.out, if_neg (by rw [hs]; decide)])
        clear hs
        go_enter Tryz.func42, Tryz.ntmps42
        go_upto_region 1 with fail
        refine gen_world (R := fun wx => Box wx w.heap.size #[.int .i64 x.k, .int .i64 x.n, .string x.s, .slice ka x.keys.length kc, .slice la x.l.length lc] 25 ∧ Box wx (w.heap.size + 1) #[.int .i64 k, .string p, .string f, .int .i64 y.k, .int .i64 y.n, .string y.s, .slice kb y.keys.length kd, .slice lb y.l.length ld] 49 ∧ Box wx (w.heap.size + 2) #[.int .i64 0, .int .i64 0, .string ⟨#[]⟩, .slice none 0 0, .slice none 0 0] 25 ∧ Ext w wx) ⟨Bxt, Bxt, Bxt, Xt⟩ ?_
        rintro wa ⟨hB0, hB1, hB2, hxa⟩
        have hc0 := hB0.cells; have hf0 := hB0.free; have hl0 := hB0.lt
        have hc1 := hB1.cells; have hf1 := hB1.free; have hl1 := hB1.lt
        have hz2_ := hB2.lt
        go_wp2_with fail
        (refine (get_any x ka kc la lc SS p _ (by omega) (Hin.out.ext Xt) (by omega) (hl.ext Xt)).mono ?_)
        rw [Hg.out]
        rintro e w1 ⟨ka6, kc6, la6, lc6, rfl, hin_, h_w1⟩
        have hB0 := Box.ext h_w1 hB0
        have hB1 := Box.ext h_w1 hB1
        have hB2 := Box.ext h_w1 hB2
        have hx_w1 := hxa.trans h_w1
        clear hc0 hf0 hl0 hc1 hf1 hl1
        have Hin6 := Lib.hid (hin_.mono (T := SS) fun b h hlt_ => h.elim id (fun h => HS2.out b (by (try simp at h); omega)))
        clear hin_ h_w1 hxa hz2_
        go_upto_region 28 with fail
        refine gen_world (R := fun wx => Box wx w.heap.size #[.int .i64 x.k, .int .i64 x.n, .string x.s, .slice ka x.keys.length kc, .slice la x.l.length lc] 25 ∧ Box wx (w.heap.size + 1) #[.int .i64 k, .string p, .string f, .int .i64 y.k, .int .i64 y.n, .string y.s, .slice kb y.keys.length kd, .slice lb y.l.length ld] 49 ∧ Box wx (w.heap.size + 2) #[.int .i64 0, .int .i64 0, .string ⟨#[]⟩, .slice none 0 0, .slice none 0 0] 25 ∧ Box wx w1.heap.size #[.int .i64 u.k, .int .i64 u.n, .string u.s, .slice ka6 u.keys.length kc6, .slice la6 u.l.length lc6] 25 ∧ u.In wx SS ka6 kc6 la6 lc6 ∧ Ext w wx) ⟨Bxt, Bxt, Bxt, Bxt, Hin6.out.ext Xt, Xt⟩ ?_
        clear hB0 hB1 hB2 Hin6 hx_w1
        rintro wvw1 ⟨hB0, hB1, hB2, hB6, hin6, hx_vw1⟩
        have Hin6 := Lib.hid hin6
        clear hin6
        have hc1 := hB1.cells; have hf1 := hB1.free; have hl1 := hB1.lt
        have hc6 := hB6.cells; have hf6 := hB6.free; have hl6 := hB6.lt
        have hz2_ := hB2.lt
        go_wp2_with fail
        (refine (sameJ_any u y ka6 kc6 la6 lc6 SS kb kd lb ld SS _ (by omega) (by omega) (Hin6.out.ext Xt) (Hjn.out.ext Xt)).mono ?_)
        rintro e w2 ⟨rfl, h_w2⟩
        have hB0 := Box.ext h_w2 hB0
        have hB1 := Box.ext h_w2 hB1
        have hB2 := Box.ext h_w2 hB2
        have hB6 := Box.ext h_w2 hB6
        have Hin6 := Lib.hid (V.In.ext (w' := w2) Hin6.out h_w2)
        have hx_w2 := hx_vw1.trans h_w2
        clear hc1 hf1 hl1 hc6 hf6 hl6
        rw [Hs.out]
        clear h_w2 hx_vw1 hz2_
        have hc0 := hB0.cells; have hf0 := hB0.free; have hl0 := hB0.lt
        have hc2 := hB2.cells; have hf2 := hB2.free; have hl2 := hB2.lt
        go_wp2_with fail
        (with_reducible apply bp_ret); (focus (go_light; simp [results, Tryz.results42, go_sem, *]; rfl))
        rw [Hr3.out]
        exact ⟨ka, kc, la, lc, rfl, Hin.out.keep (Held.kept (Held.mono (a := w) (S := fun b => b ≠ w.heap.size + 2) Hxt HS5.out)) (fun b hb _ => HS4.out b hb), Xt⟩
    · have h0b : (er != 0) = true := by simpa using h0
      have Hr2 := Lib.hid (show oneV x ⟨k, p, f, y⟩ = (x, er) by rw [Hr.out, if_pos (by simpa using h0)])
      clear h0
      go_enter Tryz.func42, Tryz.ntmps42
      go_upto_region 1 with fail
      refine gen_world (R := fun wx => Box wx w.heap.size #[.int .i64 x.k, .int .i64 x.n, .string x.s, .slice ka x.keys.length kc, .slice la x.l.length lc] 25 ∧ Box wx (w.heap.size + 1) #[.int .i64 k, .string p, .string f, .int .i64 y.k, .int .i64 y.n, .string y.s, .slice kb y.keys.length kd, .slice lb y.l.length ld] 49 ∧ Box wx (w.heap.size + 2) #[.int .i64 0, .int .i64 0, .string ⟨#[]⟩, .slice none 0 0, .slice none 0 0] 25 ∧ Ext w wx) ⟨Bxt, Bxt, Bxt, Xt⟩ ?_
      rintro wa ⟨hB0, hB1, hB2, hxa⟩
      have hc0 := hB0.cells; have hf0 := hB0.free; have hl0 := hB0.lt
      have hc1 := hB1.cells; have hf1 := hB1.free; have hl1 := hB1.lt
      have hz2_ := hB2.lt
      go_wp2_with fail
      (refine (get_any x ka kc la lc SS p _ (by omega) (Hin.out.ext Xt) (by omega) (hl.ext Xt)).mono ?_)
      rw [Hg.out]
      rintro e w1 ⟨ka6, kc6, la6, lc6, rfl, hin_, h_w1⟩
      have hB0 := Box.ext h_w1 hB0
      have hB1 := Box.ext h_w1 hB1
      have hB2 := Box.ext h_w1 hB2
      have hx_w1 := hxa.trans h_w1
      clear hc0 hf0 hl0 hc1 hf1 hl1
      have Hin6 := Lib.hid (hin_.mono (T := SS) fun b h hlt_ => h.elim id (fun h => HS2.out b (by (try simp at h); omega)))
      clear hin_ h_w1 hxa hz2_
      go_upto_region 28 with fail
      refine gen_world (R := fun wx => Box wx w.heap.size #[.int .i64 x.k, .int .i64 x.n, .string x.s, .slice ka x.keys.length kc, .slice la x.l.length lc] 25 ∧ Box wx (w.heap.size + 1) #[.int .i64 k, .string p, .string f, .int .i64 y.k, .int .i64 y.n, .string y.s, .slice kb y.keys.length kd, .slice lb y.l.length ld] 49 ∧ Box wx (w.heap.size + 2) #[.int .i64 0, .int .i64 0, .string ⟨#[]⟩, .slice none 0 0, .slice none 0 0] 25 ∧ Box wx w1.heap.size #[.int .i64 u.k, .int .i64 u.n, .string u.s, .slice ka6 u.keys.length kc6, .slice la6 u.l.length lc6] 25 ∧ u.In wx SS ka6 kc6 la6 lc6 ∧ Ext w wx) ⟨Bxt, Bxt, Bxt, Bxt, Hin6.out.ext Xt, Xt⟩ ?_
      clear hB0 hB1 hB2 Hin6 hx_w1
      rintro wvw1 ⟨hB0, hB1, hB2, hB6, hin6, hx_vw1⟩
      have Hin6 := Lib.hid hin6
      clear hin6
      have hc0 := hB0.cells; have hf0 := hB0.free; have hl0 := hB0.lt
      have hc2 := hB2.cells; have hf2 := hB2.free; have hl2 := hB2.lt
      go_wp2_with fail
      (with_reducible apply bp_ret); (focus (go_light; simp [results, Tryz.results42, go_sem, *]; rfl))
      rw [Hr2.out]
      exact ⟨ka, kc, la, lc, rfl, Hin.out.keep (Held.kept (Held.mono (a := w) (S := fun b => b ≠ w.heap.size + 2) Hxt HS5.out)) (fun b hb _ => HS4.out b hb), Xt⟩
end Go.Proofs.YtnbappeiebameaaGreatDoor

/- The walk of patch.One. -/
namespace Go.Proofs.YtnbappeiebameaaGreatDoor
open Go.RowKit
attribute [local go_sem ↓] Go.wp_at_zero Go.wp_at_succ

theorem one_any (x : V) (ka : Option Addr) (kc : Nat) (la : Option Addr) (lc : Nat) (k : Int) (p f : ByteArray) (y : V) (kb : Option Addr) (kd : Nat) (lb : Option Addr) (ld : Nat) (w : World) (hl : LibAt w) (hsx : x.size ≤ 4194304) (hsy : y.size ≤ 4194304) (hp : p.size ≤ 4194304) (hf : f.size ≤ 4194304) (S : Nat → Prop) (hin : x.In w S ka kc la lc) (hjn : y.In w S kb kd lb ld) :
    Calls Tryz.prog 42 #[x.val ka kc la lc, .agg #[.int .i64 k, .string p, .string f, .int .i64 y.k, .int .i64 y.n, .string y.s, .slice kb y.keys.length kd, .slice lb y.l.length ld]] w (RetV2 S (oneV x ⟨k, p, f, y⟩).1 (.int .i64 (oneV x ⟨k, p, f, y⟩).2) w) := by
  by_cases h1 : k = 1
  · exact one_k1 x ka kc la lc k p f y kb kd lb ld w hl hsx hsy hp hf S hin hjn h1
  by_cases h2 : k = 2
  · exact one_k2 x ka kc la lc k p f y kb kd lb ld w hl hsx hsy hp hf S hin hjn h2
  by_cases h3 : k = 3
  · exact one_k3 x ka kc la lc k p f y kb kd lb ld w hl hsx hsy hp hf S hin hjn h3
  by_cases h4 : k = 4
  · exact one_k4 x ka kc la lc k p f y kb kd lb ld w hl hsx hsy hp hf S hin hjn h4
  by_cases h5 : k = 5
  · exact one_k5 x ka kc la lc k p f y kb kd lb ld w hl hsx hsy hp hf S hin hjn h5
  by_cases h6 : k = 6
  · exact one_k6 x ka kc la lc k p f y kb kd lb ld w hl hsx hsy hp hf S hin hjn h6
  exact one_k0 x ka kc la lc k p f y kb kd lb ld w hl hsx hsy hp hf S hin hjn h1 h2 h3 h4 h5 h6
end Go.Proofs.YtnbappeiebameaaGreatDoor

/- The walk of patch.All. -/
namespace Go.Proofs.YtnbappeiebameaaGreatDoor
open Go.RowKit
attribute [local go_sem ↓] Go.wp_at_zero Go.wp_at_succ

theorem all_next {x acc r : V} {l : List OpV} {k : Nat} {e : Int} (hk : k < l.length) (h : goV (l.take k) x = (acc, 0)) (h1 : oneV acc l[k] = (r, e)) : goV (l.take (k + 1)) x = (r, e) := by
  rw [List.take_succ_eq_append_getElem hk, go_snoc _ _ _ (by rw [h]), h]; exact h1
theorem all_err {x r : V} {l : List OpV} {k : Nat} {e : Int} (hl : ¬ 20 < l.length) (h : goV (l.take k) x = (r, e)) (he : e ≠ 0) : allV x l = (x, e) := by
  have hg : goV l x = (r, e) := by
    have : l = l.take k ++ l.drop k := (List.take_append_drop k l).symm
    rw [this, go_app, h, if_pos he]
  unfold allV
  rw [if_neg hl, hg, if_pos he]
theorem all_ok {x acc : V} {l : List OpV} (hl : ¬ 20 < l.length) (h : goV l x = (acc, 0)) : allV x l = (acc, 0) := by
  unfold allV
  rw [if_neg hl, h, if_neg (by simp)]
theorem ops_item {l : List OpV} {i : Nat} (h : i < l.length) (hs : (l.map OpV.size).sum ≤ 4194304) : (l[i]).p.size ≤ 4194304 ∧ (l[i]).f.size ≤ 4194304 ∧ (l[i]).v.size ≤ 4194304 := by
  have h1 := sum_ge OpV.size (List.getElem_mem h)
  have h2 : OpV.size l[i] = 1 + (l[i]).p.size + (l[i]).f.size + (l[i]).v.size := rfl
  omega

set_option maxRecDepth 100000 in
set_option maxHeartbeats 8000000 in
theorem all_any (x : V) (ka : Option Addr) (kc : Nat) (la : Option Addr) (lc : Nat) (a : Option Addr) (cap : Nat) (l : List OpV) (n : Nat) (w : World) (hn : Hid (l.length = n)) (hl : LibAt w) (hsx : x.size ≤ 4194304) (hls : (l.map OpV.size).sum ≤ 4194304) (hn2 : n ≤ 4194304) (S : Nat → Prop) (hin : x.In w S ka kc la lc) (hops : OpsIn w S a l) :
    Calls Tryz.prog 40 #[x.val ka kc la lc, .slice a n cap] w (RetV2 S (allV x l).1 (.int .i64 (allV x l).2) w) := by
  obtain ⟨SS, hSS⟩ : ∃ SS : Nat → Prop, SS = fun b => (S b ∧ b < w.heap.size) ∨ w.heap.size + 3 ≤ b := ⟨_, rfl⟩
  have Hin := Lib.hid (show x.In w SS ka kc la lc from hin.mono fun b h hl => by rw [hSS]; exact .inl ⟨h, hl⟩)
  have HSo := Lib.hid (show ∀ b, S b → b < w.heap.size → SS b from fun b h hl => by rw [hSS]; exact .inl ⟨h, hl⟩)
  have HS2 := Lib.hid (show ∀ b, w.heap.size + 3 ≤ b → SS b from fun b h => by rw [hSS]; exact .inr h)
  have HS3 := Lib.hid (show ∀ b, SS b → b ≠ w.heap.size + 2 from fun b h => by rw [hSS] at h; rcases h with h | h <;> omega)
  have HS5 := Lib.hid (show ∀ b, SS b → b ≠ w.heap.size + 1 from fun b h => by rw [hSS] at h; rcases h with h | h <;> omega)
  have HS4 := Lib.hid (show ∀ b, SS b → Plus S w b from fun b h => by rw [hSS] at h; exact h.elim (fun h => .inl h.1) (fun h => .inr (by omega)))
  have Hops := Lib.hid hops
  have Hls := Lib.hid hls
  clear hSS hin hops hls
  by_cases h20 : 20 < n
  · have h20i : (20 : Int) < (n : Int) := by omega
    have Hr := Lib.hid (show allV x l = (x, 2) by unfold allV; rw [if_pos (by rw [hn.out]; exact h20)])
    go_enter Tryz.func40, Tryz.ntmps40
    go_wp2_with fail
    (with_reducible apply bp_ret); (focus (go_light; simp [results, Tryz.results40, go_sem, *]; rfl))
    rw [Hr.out]
    exact ⟨ka, kc, la, lc, rfl, Hin.out.keep (Held.kept (Held.mono (a := w) (S := fun b => b ≠ w.heap.size + 1) Hxt HS5.out)) (fun b hb _ => HS4.out b hb), Xt⟩
  · have h20i : ¬ (20 : Int) < (n : Int) := by omega
    have Hl20 := Lib.hid (show ¬ 20 < l.length by rw [hn.out]; exact h20)
    go_enter Tryz.func40, Tryz.ntmps40
    go_upto_region 4 with fail
    refine gen_world (R := fun wx => Box wx w.heap.size #[.int .i64 x.k, .int .i64 x.n, .string x.s, .slice ka x.keys.length kc, .slice la x.l.length lc] 25 ∧ Box wx (w.heap.size + 1) #[.int .i64 0, .int .i64 0, .string ⟨#[]⟩, .slice none 0 0, .slice none 0 0] 25 ∧ Box wx (w.heap.size + 2) #[.int .i64 x.k, .int .i64 x.n, .string x.s, .slice ka x.keys.length kc, .slice la x.l.length lc] 25 ∧ Ext w wx) ⟨Bxt, Bxt, Bxt, Xt⟩ ?_
    rintro wa ⟨hB0, hB1, hB2, hxa⟩
    go_wp2_with fail
    go_loopg [8, 9, 17] n (fun g _ _ i wr => ∃ (k : Nat) (acc : V) (ka2 : Option Addr) (kc2 : Nat) (la2 : Option Addr) (lc2 : Nat), k ≤ n ∧ i = .int .i64 k ∧ g = n - k ∧ Box wr (w.heap.size + 2) #[.int .i64 acc.k, .int .i64 acc.n, .string acc.s, .slice ka2 acc.keys.length kc2, .slice la2 acc.l.length lc2] 25 ∧ acc.In wr SS ka2 kc2 la2 lc2 ∧ Hid (goV (l.take k) x = (acc, 0)) ∧
      Box wr w.heap.size #[.int .i64 x.k, .int .i64 x.n, .string x.s, .slice ka x.keys.length kc, .slice la x.l.length lc] 25 ∧ Box wr (w.heap.size + 1) #[.int .i64 0, .int .i64 0, .string ⟨#[]⟩, .slice none 0 0, .slice none 0 0] 25 ∧ Ext w wr)
    case atStart => exact ⟨0, x, ka, kc, la, lc, by omega, rfl, rfl, hB2, Hin.out.ext Xt, Lib.hid (by rw [List.take_zero, goV]), hB0, hB1, hxa⟩
    case round =>
      clear hB0 hB1 hB2 hxa
      obtain ⟨k, acc, ka2, kc2, la2, lc2, hk, rfl, rfl, hB2, hin2, Hacc, hB0, hB1, hx⟩ := hrel
      have Hin2 := Lib.hid hin2
      clear hin2
      have hz := hB2.lt
      have hacs : acc.size ≤ 4194304 := by
        have h := go_size (l.take k) x (by rw [Hacc.out])
        rw [Hacc.out] at h
        simp only at h
        omega
      by_cases hlt : k < n
      · have hlt2 : k < l.length := by rw [hn.out]; exact hlt
        obtain ⟨b, o, rfl, hSb, hit⟩ := Hops.out.resolve_left (by intro e; rw [e] at hlt2; simp at hlt2)
        obtain ⟨d0, d1, d2, ka3, kc3, la3, lc3, ⟨d3, d4, d5, d6, d7⟩, hin3⟩ := hit k hlt2
        obtain ⟨hq1, hq2, hq3⟩ := ops_item hlt2 Hls.out
        have Hsn := Lib.hid (fun (r : V) (e : Int) (h : oneV acc l[k] = (r, e)) => all_next hlt2 Hacc.out h)
        obtain ⟨⟨qk, qp, qf, qv⟩, hq⟩ : ∃ q, l[k] = q := ⟨_, rfl⟩
        have Hsn := Lib.hid (show ∀ (r : V) (e : Int), oneV acc ⟨qk, qp, qf, qv⟩ = (r, e) → goV (l.take (k + 1)) x = (r, e) by rw [← hq]; exact Hsn.out)
        rw [hq] at d0 d1 d2 d3 d4 d5 d6 d7 hin3 hq1 hq2 hq3
        simp only at d0 d1 d2 d3 d4 d5 d6 d7 hin3 hq1 hq2 hq3
        have Hin3 := Lib.hid (V.In.ext (w' := wr) (hin3.mono (T := SS) fun b h hl => HSo.out b h hl) hx)
        have d0 := hx.cell d0
        have d1 := hx.cell d1
        have d2 := hx.cell d2
        have d3 := hx.cell d3
        have d4 := hx.cell d4
        have d5 := hx.cell d5
        have d6 := hx.cell d6
        have d7 := hx.cell d7
        have hki0 : (0 : Int) ≤ (k : Int) := by omega
        have hki1 : (k : Int) < (n : Int) := by omega
        clear hin3 hit hq
        go_upto_region 8 with fail
        refine gen_world (R := fun wx => Box wx w.heap.size #[.int .i64 x.k, .int .i64 x.n, .string x.s, .slice ka x.keys.length kc, .slice la x.l.length lc] 25 ∧ Box wx (w.heap.size + 1) #[.int .i64 0, .int .i64 0, .string ⟨#[]⟩, .slice none 0 0, .slice none 0 0] 25 ∧ Box wx (w.heap.size + 2) #[.int .i64 acc.k, .int .i64 acc.n, .string acc.s, .slice ka2 acc.keys.length kc2, .slice la2 acc.l.length lc2] 25 ∧ Box wx wr.heap.size #[.int .i64 qk, .string qp, .string qf, .int .i64 qv.k, .int .i64 qv.n, .string qv.s, .slice ka3 qv.keys.length kc3, .slice la3 qv.l.length lc3] 49 ∧ acc.In wx SS ka2 kc2 la2 lc2 ∧ qv.In wx SS ka3 kc3 la3 lc3 ∧ Ext w wx) ⟨Bxt, Bxt, Bxt, Bxt, Hin2.out.ext Xt, Hin3.out.ext Xt, Xt⟩ ?_
        clear hB0 hB1 hB2 Hin2 Hin3 hx d0 d1 d2 d3 d4 d5 d6 d7 hki0 hki1
        rintro wb ⟨hB0, hB1, hB2, hB4, hin2, hin3, hx⟩
        have Hin2 := Lib.hid hin2
        have Hin3 := Lib.hid hin3
        clear hin2 hin3
        obtain ⟨r, hr⟩ : ∃ r, (oneV acc ⟨qk, qp, qf, qv⟩).1 = r := ⟨_, rfl⟩
        obtain ⟨er, her⟩ : ∃ er, (oneV acc ⟨qk, qp, qf, qv⟩).2 = er := ⟨_, rfl⟩
        have Hone := Lib.hid (show oneV acc ⟨qk, qp, qf, qv⟩ = (r, er) from Prod.ext hr her)
        have Hnx := Lib.hid (Hsn.out r er Hone.out)
        clear hr her
        have hz2_ := hB2.lt
        have hc2 := hB2.cells; have hf2 := hB2.free; have hl2 := hB2.lt
        have hc4 := hB4.cells; have hf4 := hB4.free; have hl4 := hB4.lt
        go_wp2_with fail
        (refine (one_any acc ka2 kc2 la2 lc2 qk qp qf qv ka3 kc3 la3 lc3 _ (hl.ext Xt) hacs hq3 hq1 hq2 SS (Hin2.out.ext Xt) (Hin3.out.ext Xt)).mono ?_)
        rw [Hone.out]
        rintro e w1 ⟨ka5, kc5, la5, lc5, rfl, hin_, h1⟩
        have Hin5 := Lib.hid (hin_.mono (T := SS) fun b h hlt_ => h.elim id (fun h => HS2.out b (by (try simp at h); omega)))
        have hB0 := Box.ext h1 hB0
        have hB1 := Box.ext h1 hB1
        have hB2 := Box.ext h1 hB2
        have hx1 := hx.trans h1
        clear hin_ h1 hx hB4 hc2 hf2 hl2 hc4 hf4 hl4 hz2_ Hin2 Hin3
        by_cases h0 : er = 0
        · subst h0
          have hc2 := hB2.cells; have hf2 := hB2.free; have hl2 := hB2.lt
          go_wp2_with fail
          go_roundg (n - (k + 1))
          case measure => omega
          case rel => exact ⟨k + 1, r, ka5, kc5, la5, lc5, by omega, by go_num, rfl, Bxt, Hin5.out.keep (Held.kept (Held.mono (a := w1) (S := fun b => b ≠ w.heap.size + 2) Hxt HS3.out)) (fun b hb _ => hb), Hnx, Bxt, Bxt, Xt⟩
        · have h0b : (er != 0) = true := by simpa using h0
          have Hr := Lib.hid (all_err Hl20.out Hnx.out h0)
          clear h0
          have hc0 := hB0.cells; have hf0 := hB0.free; have hl0 := hB0.lt
          have hc1 := hB1.cells; have hf1 := hB1.free; have hl1 := hB1.lt
          have hc2 := hB2.cells; have hf2 := hB2.free; have hl2 := hB2.lt
          go_wp2_with fail
          (with_reducible apply bp_ret); (focus (go_light; simp [results, Tryz.results40, go_sem, *]; rfl))
          rw [Hr.out]
          exact ⟨ka, kc, la, lc, rfl, Hin.out.keep (Held.kept (Held.mono (a := w) (S := fun b => b ≠ w.heap.size + 1 ∧ b ≠ w.heap.size + 2) Hxt fun b h => ⟨HS5.out b h, HS3.out b h⟩)) (fun b hb _ => HS4.out b hb), Xt⟩
      · obtain rfl : k = n := by omega
        have Hr := Lib.hid (all_ok Hl20.out (by have := Hacc.out; rwa [List.take_of_length_le (by rw [hn.out]; exact Nat.le_refl _)] at this))
        have hc2 := hB2.cells; have hf2 := hB2.free; have hl2 := hB2.lt
        have hc1 := hB1.cells; have hf1 := hB1.free; have hl1 := hB1.lt
        go_wp2_with fail
        (with_reducible apply bp_ret); (focus (go_light; simp [results, Tryz.results40, go_sem, *]; rfl))
        rw [Hr.out]
        exact ⟨ka2, kc2, la2, lc2, rfl, Hin2.out.keep (Held.kept (Held.mono (a := wr) (S := fun b => b ≠ w.heap.size + 1) Hxt HS5.out)) (fun b hb _ => HS4.out b hb), Xt⟩
end Go.Proofs.YtnbappeiebameaaGreatDoor

/- The law's own example of a patch. -/
namespace Go.Proofs.YtnbappeiebameaaGreatDoor
open Go.RowKit
attribute [local go_sem ↓] Go.wp_at_zero Go.wp_at_succ

theorem ops_len : ∀ l : List OpV, l.length ≤ (l.map OpV.size).sum
  | [] => Nat.le_refl _
  | o :: r => by
    have h1 := ops_len r
    have h2 : OpV.size o = 1 + o.p.size + o.f.size + o.v.size := rfl
    simp only [List.length_cons, List.map_cons, List.sum_cons]
    omega
theorem all_size (x : V) (l : List OpV) : (allV x l).1.size ≤ max x.size 14640 := by
  by_cases h : (allV x l).2 = 0
  · unfold allV at h ⊢
    by_cases h20 : 20 < l.length
    · rw [if_pos h20] at h; simp at h
    · rw [if_neg h20] at h ⊢
      by_cases hg : (goV l x).2 = 0
      · rw [if_neg (by simpa using hg)]; exact go_size l x hg
      · rw [if_pos hg] at h; exact absurd h hg
  · rw [(all_whole x l).1 h]; omega
theorem names_dash : namesB ⟨#[47, 45]⟩ = some [⟨#[45]⟩] := namesB_of (by
  have h := names_join [[45]] (by rw [joinL, List.flatMap_cons, escN_eq]; decide)
  simpa [joinL, escN_eq, escB] using h)
theorem names_nul : namesB ⟨#[47, 48]⟩ = some [⟨#[48]⟩] := namesB_of (by
  have h := names_join [[48]] (by rw [joinL, List.flatMap_cons, escN_eq]; decide)
  simpa [joinL, escN_eq, escB] using h)
abbrev one_ : V := .mk 1 0 ⟨#[]⟩ [] []
abbrev ops2 : List OpV := [⟨1, ⟨#[47, 45]⟩, ⟨#[]⟩, one_⟩, ⟨5, ⟨#[47, 48]⟩, ⟨#[47, 48]⟩, V.zero⟩]
abbrev arr0 : V := .mk 4 0 ⟨#[]⟩ [] []
abbrev arr1 : V := .mk 4 0 ⟨#[]⟩ [] [one_]
abbrev arr2 : V := .mk 4 0 ⟨#[]⟩ [] [one_, one_]
theorem arr_add : addP arr0 ⟨#[47, 45]⟩ one_ = (arr1, 0) := by
  unfold addP
  rw [if_neg (by decide +kernel), if_neg (by decide), change_mk names_dash (by decide) (by decide +kernel) (by decide +kernel) (by decide +kernel)]
  kernel_rfl
theorem arr_get : getP arr1 ⟨#[47, 48]⟩ = (one_, 0) := by
  unfold getP
  rw [names_nul]
  simp only
  rw [if_neg (by decide +kernel)]
  kernel_rfl
theorem arr_copy : addP arr1 ⟨#[47, 48]⟩ one_ = (arr2, 0) := by
  unfold addP
  rw [if_neg (by decide +kernel), if_neg (by decide), change_mk names_nul (by decide) (by decide +kernel) (by decide +kernel) (by decide +kernel)]
  kernel_rfl
theorem arr_all : allV arr0 ops2 = (arr2, 0) := by
  have h1 : oneV arr0 ⟨1, ⟨#[47, 45]⟩, ⟨#[]⟩, one_⟩ = (arr1, 0) := by unfold oneV; rw [if_pos rfl]; exact arr_add
  have h2 : oneV arr1 ⟨5, ⟨#[47, 48]⟩, ⟨#[47, 48]⟩, V.zero⟩ = (arr2, 0) := by
    unfold oneV
    simp only
    rw [if_neg (by decide), if_neg (by decide), if_neg (by decide), if_pos (by decide), arr_get, if_neg (by decide), if_pos trivial]; exact arr_copy
  have h3 : goV ops2 arr0 = (arr2, 0) := by
    rw [goV, h1, if_neg (by simp), goV, h2, if_neg (by simp), goV]
  exact all_ok (by simp) h3
theorem nil_in (w : World) (S : Nat → Prop) {k n : Int} {s : ByteArray} : (V.mk k n s [] []).In w S none 0 none 0 := (V.in_iff ..).2 ⟨SlOk.nil, SlOk.nil, .inl rfl, .inl rfl⟩
theorem ops2_in {w : World} {n : Nat} (h : Box w n #[.int .i64 1, .string ⟨#[47, 45]⟩, .string ⟨#[]⟩, .int .i64 1, .int .i64 0, .string ⟨#[]⟩, .slice none 0 0, .slice none 0 0, .int .i64 5, .string ⟨#[47, 48]⟩, .string ⟨#[47, 48]⟩, .int .i64 0, .int .i64 0, .string ⟨#[]⟩, .slice none 0 0, .slice none 0 0] 49) : OpsIn w All (some ⟨n, 0, none⟩) ops2 := by
  refine .inr ⟨n, 0, rfl, trivial, fun i hi => ?_⟩
  match i, hi with
  | 0, _ => exact ⟨h.cells 0, h.cells 1, h.cells 2, none, 0, none, 0, ⟨h.cells 3, h.cells 4, h.cells 5, h.cells 6, h.cells 7⟩, nil_in w All⟩
  | 1, _ => exact ⟨h.cells 8, h.cells 9, h.cells 10, none, 0, none, 0, ⟨h.cells 11, h.cells 12, h.cells 13, h.cells 14, h.cells 15⟩, nil_in w All⟩
set_option maxRecDepth 100000 in
set_option maxHeartbeats 4000000 in
theorem patches_keep (w : World) (hl : LibAt w) : Calls Tryz.prog 45 #[] w fun e w' => e = .returned (.bool true) ∧ Ext w w' := by
  obtain ⟨a2, ha2⟩ : ∃ a, arr2 = a := ⟨_, rfl⟩
  have Hall := Lib.hid (show allV arr0 ops2 = (a2, 0) by rw [← ha2]; exact arr_all)
  have hlen : a2.l.length = 2 := by rw [← ha2]; rfl
  clear ha2
  go_enter Tryz.func45, Tryz.ntmps45
  go_wp2_with fail
  refine (all_any arr0 none 0 none 0 _ 2 ops2 2 _ (Lib.hid rfl) (hl.ext Xt) ?_ ?_ (by omega) All ?_ ?_).mono ?_
  · rw [V.size_eq]; decide
  · show (List.map OpV.size ops2).sum ≤ _
    unfold ops2 OpV.size
    simp only [List.map_cons, List.map_nil, V.size_eq]
    decide
  · exact nil_in _ _
  · exact ops2_in Bxt
  rw [Hall.out]
  rintro e w1 ⟨ka1, kc1, la1, lc1, rfl, hin1, h1⟩
  have hx1 : Ext w w1 := Xt
  clear h1 hin1
  go_wp2_with fail
  go_ret
  exact ⟨rfl, Xt⟩
end Go.Proofs.YtnbappeiebameaaGreatDoor

/- The laws' patches (package stairwelllaw). -/
namespace Go.Proofs.YtnbappeiebameaaGreatDoor
open Go.RowKit
attribute [local go_sem ↓] Go.wp_at_zero Go.wp_at_succ

set_option maxRecDepth 100000 in
set_option maxHeartbeats 4000000 in
theorem patches_law (w : World) (hl : LibAt w) : Calls Tryz.prog 44 #[] w fun e w' => e = .returned (.bool true) ∧ Ext w w' := by
  obtain ⟨a2, ha2⟩ : ∃ a, arr2 = a := ⟨_, rfl⟩
  have Hall := Lib.hid (show allV arr0 ops2 = (a2, 0) by rw [← ha2]; exact arr_all)
  have hlen : a2.l.length = 2 := by rw [← ha2]; rfl
  clear ha2
  go_enter Tryz.func44, Tryz.ntmps44
  go_wp2_with fail
  refine (all_any arr0 none 0 none 0 _ 2 ops2 2 _ (Lib.hid rfl) (hl.ext Xt) ?_ ?_ (by omega) All ?_ ?_).mono ?_
  · rw [V.size_eq]; decide
  · show (List.map OpV.size ops2).sum ≤ _
    unfold ops2 OpV.size
    simp only [List.map_cons, List.map_nil, V.size_eq]
    decide
  · exact nil_in _ _
  · exact ops2_in Bxt
  rw [Hall.out]
  rintro e w1 ⟨ka1, kc1, la1, lc1, rfl, hin1, h1⟩
  have hx1 : Ext w w1 := Xt
  clear h1 hin1
  go_wp2_with fail
  go_ret
  exact ⟨rfl, Xt⟩
end Go.Proofs.YtnbappeiebameaaGreatDoor
