/- Several texts in one. -/
import Derived.Test.YtnbappeiebameaaGreatDoorPkP
import Derived.Test.YtnbappeiebameaaGreatDoorPkN
import Derived.Test.YtnbappeiebameaaGreatDoorGetR
import Derived.Test.YtnbappeiebameaaGreatDoorSameR
set_option linter.all false
/- The walk of stairwellref.DoOp: to add, to take away, to put, none of them. -/
namespace Go.Proofs.YtnbappeiebameaaGreatDoor
open Go.RowKit
attribute [local go_sem ↓] Go.wp_at_zero Go.wp_at_succ


/-- The reference's begins. -/
theorem pre_take (p q : List UInt8) (h : q.length ≤ p.length) : (p.take q.length == q) = q.isPrefixOf p := by
  rw [Bool.eq_iff_iff, beq_iff_eq, List.isPrefixOf_iff_prefix, List.prefix_iff_eq_take]
  exact ⟨fun h => h.symm, fun h => h.symm⟩
theorem ext_take (s : ByteArray) (n : Nat) : (s.extract 0 n).data.toList = s.data.toList.take n := by
  rw [Lib.extract_data, List.drop_zero, Nat.sub_zero]
theorem begins_any (p q : ByteArray) (hp : p.size ≤ 1073741824) (hq : q.size ≤ 1073741824) (w : World) : Calls Tryz.prog 99 #[.string p, .string q] w fun e w' => e = .returned (.bool (Lib.hasPrefix p.data.toList q.data.toList)) ∧ Ext w w' := by
  have e1 : p.data.toList.length = p.size := Array.length_toList
  have e2 : q.data.toList.length = q.size := Array.length_toList
  by_cases h : q.size ≤ p.size
  · have hi : (q.size : Int) ≤ (p.size : Int) := by omega
    have hi0 : (0 : Int) ≤ (q.size : Int) := by omega
    have hb := Lib.hid (show ((p.extract 0 q.size).toList == q.toList) = Lib.hasPrefix p.data.toList q.data.toList by
      rw [ByteArray.toList_eq, ByteArray.toList_eq, ext_take, ← e2]
      exact pre_take _ _ (by omega))
    clear e1 e2
    go_enter Tryz.func99, Tryz.ntmps99
    go_wp2_with fail
    go_ret
    exact ⟨by rw [← hb.out]; rfl, Xt⟩
  · have hi : ¬ (q.size : Int) ≤ (p.size : Int) := by omega
    have hb := Lib.hid (show Lib.hasPrefix p.data.toList q.data.toList = false by
      rw [Bool.eq_false_iff]
      intro h'
      have := (List.isPrefixOf_iff_prefix.1 h').length_le
      omega)
    clear e1 e2
    go_enter Tryz.func99, Tryz.ntmps99
    go_wp2_with fail
    go_ret
    exact ⟨by rw [hb.out]; rfl, Xt⟩

set_option maxRecDepth 100000 in
set_option maxHeartbeats 8000000 in
theorem do_k1 (x : V) (ka : Option Addr) (kc : Nat) (la : Option Addr) (lc : Nat) (k : Int) (p f : ByteArray) (y : V) (kb : Option Addr) (kd : Nat) (lb : Option Addr) (ld : Nat) (w : World) (hl : LibAt w) (hsx : x.size ≤ 4194304) (hsy : y.size ≤ 4194304) (hp : p.size ≤ 4194304) (hf : f.size ≤ 4194304) (S : Nat → Prop) (hin : x.In w S ka kc la lc) (hjn : y.In w S kb kd lb ld) (hk : k = 1) :
    Calls Tryz.prog 43 #[x.val ka kc la lc, .agg #[.int .i64 k, .string p, .string f, .int .i64 y.k, .int .i64 y.n, .string y.s, .slice kb y.keys.length kd, .slice lb y.l.length ld]] w (RetV2 S (oneV x ⟨k, p, f, y⟩).1 (.int .i64 (oneV x ⟨k, p, f, y⟩).2) w) := by
  obtain ⟨SS, hSS⟩ : ∃ SS : Nat → Prop, SS = fun b => (S b ∧ b < w.heap.size) ∨ w.heap.size + 3 ≤ b := ⟨_, rfl⟩
  have Hin := Lib.hid (show x.In w SS ka kc la lc from hin.mono fun b h hl => by rw [hSS]; exact .inl ⟨h, hl⟩)
  have Hjn := Lib.hid (show y.In w SS kb kd lb ld from hjn.mono fun b h hl => by rw [hSS]; exact .inl ⟨h, hl⟩)
  have HS2 := Lib.hid (show ∀ b, w.heap.size + 3 ≤ b → SS b from fun b h => by rw [hSS]; exact .inr h)
  have HS5 := Lib.hid (show ∀ b, SS b → b ≠ w.heap.size + 2 from fun b h => by rw [hSS] at h; rcases h with h | h <;> omega)
  have HS4 := Lib.hid (show ∀ b, SS b → Plus S w b from fun b h => by rw [hSS] at h; exact h.elim (fun h => .inl h.1) (fun h => .inr (by omega)))
  clear hSS
  have hgs := getP_size x p
  have hgf := getP_size x f
  clear hin hjn
  · have b1 : (k == 1) = true := by simpa using hk
    have Hr := Lib.hid (show oneV x ⟨k, p, f, y⟩ = addP x p y by unfold oneV; simp [hk])
    obtain ⟨r, hr⟩ : ∃ r, addP x p y = r := ⟨_, rfl⟩
    have Hrr := Lib.hid hr
    clear hk hr
    go_enter Tryz.func43, Tryz.ntmps43
    go_upto_region 1 with fail
    refine gen_world (R := fun wx => Box wx w.heap.size #[.int .i64 x.k, .int .i64 x.n, .string x.s, .slice ka x.keys.length kc, .slice la x.l.length lc] 25 ∧ Box wx (w.heap.size + 1) #[.int .i64 k, .string p, .string f, .int .i64 y.k, .int .i64 y.n, .string y.s, .slice kb y.keys.length kd, .slice lb y.l.length ld] 49 ∧ Box wx (w.heap.size + 2) #[.int .i64 0, .int .i64 0, .string ⟨#[]⟩, .slice none 0 0, .slice none 0 0] 25 ∧ Ext w wx) ⟨Bxt, Bxt, Bxt, Xt⟩ ?_
    rintro wa ⟨hB0, hB1, hB2, hxa⟩
    have hc0 := hB0.cells; have hf0 := hB0.free; have hl0 := hB0.lt
    have hc1 := hB1.cells; have hf1 := hB1.free; have hl1 := hB1.lt
    have hz2_ := hB2.lt
    go_wp2_with fail
    (refine (alterR_any 1 (by decide) x ka kc la lc y kb kd lb ld p SS _ (by omega) (by omega) (by omega) (Hin.out.ext Xt) (Hjn.out.ext Xt)).mono ?_)
    rw [show altP 1 x p y = r from Hrr.out]
    rintro e w1 ⟨ka5, kc5, la5, lc5, rfl, hin_, h_w1⟩
    have hB0 := Box.ext h_w1 hB0
    have hB1 := Box.ext h_w1 hB1
    have hB2 := Box.ext h_w1 hB2
    have hx_w1 := hxa.trans h_w1
    clear hc0 hf0 hl0 hc1 hf1 hl1
    have Hin5 := Lib.hid (hin_.mono (T := SS) fun b h hlt_ => h.elim id (fun h => HS2.out b (by (try simp at h); omega)))
    clear hin_ h_w1 hxa hz2_
    have hc2 := hB2.cells; have hf2 := hB2.free; have hl2 := hB2.lt
    go_wp2_with fail
    (with_reducible apply bp_ret); (focus (go_light; simp [results, Tryz.results43, go_sem, *]; rfl))
    rw [Hr.out, Hrr.out]
    exact ⟨ka5, kc5, la5, lc5, rfl, Hin5.out.keep (Held.kept (Held.mono (a := w1) (S := fun b => b ≠ w.heap.size + 2) Hxt HS5.out)) (fun b hb _ => HS4.out b hb), Xt⟩

set_option maxRecDepth 100000 in
set_option maxHeartbeats 8000000 in
theorem do_k2 (x : V) (ka : Option Addr) (kc : Nat) (la : Option Addr) (lc : Nat) (k : Int) (p f : ByteArray) (y : V) (kb : Option Addr) (kd : Nat) (lb : Option Addr) (ld : Nat) (w : World) (hl : LibAt w) (hsx : x.size ≤ 4194304) (hsy : y.size ≤ 4194304) (hp : p.size ≤ 4194304) (hf : f.size ≤ 4194304) (S : Nat → Prop) (hin : x.In w S ka kc la lc) (hjn : y.In w S kb kd lb ld) (hk : k = 2) :
    Calls Tryz.prog 43 #[x.val ka kc la lc, .agg #[.int .i64 k, .string p, .string f, .int .i64 y.k, .int .i64 y.n, .string y.s, .slice kb y.keys.length kd, .slice lb y.l.length ld]] w (RetV2 S (oneV x ⟨k, p, f, y⟩).1 (.int .i64 (oneV x ⟨k, p, f, y⟩).2) w) := by
  obtain ⟨SS, hSS⟩ : ∃ SS : Nat → Prop, SS = fun b => (S b ∧ b < w.heap.size) ∨ w.heap.size + 3 ≤ b := ⟨_, rfl⟩
  have Hin := Lib.hid (show x.In w SS ka kc la lc from hin.mono fun b h hl => by rw [hSS]; exact .inl ⟨h, hl⟩)
  have Hjn := Lib.hid (show y.In w SS kb kd lb ld from hjn.mono fun b h hl => by rw [hSS]; exact .inl ⟨h, hl⟩)
  have HS2 := Lib.hid (show ∀ b, w.heap.size + 3 ≤ b → SS b from fun b h => by rw [hSS]; exact .inr h)
  have HS5 := Lib.hid (show ∀ b, SS b → b ≠ w.heap.size + 2 from fun b h => by rw [hSS] at h; rcases h with h | h <;> omega)
  have HS4 := Lib.hid (show ∀ b, SS b → Plus S w b from fun b h => by rw [hSS] at h; exact h.elim (fun h => .inl h.1) (fun h => .inr (by omega)))
  clear hSS
  have hgs := getP_size x p
  have hgf := getP_size x f
  clear hin hjn
  · have b1 : (k == 1) = false := by simpa using (by omega : k ≠ 1)
    have b2 : (k == 2) = true := by simpa using hk
    have Hr := Lib.hid (show oneV x ⟨k, p, f, y⟩ = remP x p by unfold oneV; simp [hk])
    obtain ⟨r, hr⟩ : ∃ r, remP x p = r := ⟨_, rfl⟩
    have Hrr := Lib.hid hr
    clear hk hr
    go_enter Tryz.func43, Tryz.ntmps43
    go_upto_region 1 with fail
    refine gen_world (R := fun wx => Box wx w.heap.size #[.int .i64 x.k, .int .i64 x.n, .string x.s, .slice ka x.keys.length kc, .slice la x.l.length lc] 25 ∧ Box wx (w.heap.size + 1) #[.int .i64 k, .string p, .string f, .int .i64 y.k, .int .i64 y.n, .string y.s, .slice kb y.keys.length kd, .slice lb y.l.length ld] 49 ∧ Box wx (w.heap.size + 2) #[.int .i64 0, .int .i64 0, .string ⟨#[]⟩, .slice none 0 0, .slice none 0 0] 25 ∧ Ext w wx) ⟨Bxt, Bxt, Bxt, Xt⟩ ?_
    rintro wa ⟨hB0, hB1, hB2, hxa⟩
    have hc0 := hB0.cells; have hf0 := hB0.free; have hl0 := hB0.lt
    have hc1 := hB1.cells; have hf1 := hB1.free; have hl1 := hB1.lt
    have hz2_ := hB2.lt
    go_wp2_with fail
    (refine (alterR_any 2 (by decide) x ka kc la lc V.zero none 0 none 0 p SS _ (by omega) (by rw [V.size_eq]; decide) (by omega) (Hin.out.ext Xt) (V.zero_in _ _)).mono ?_)
    rw [show altP 2 x p V.zero = r from Hrr.out]
    rintro e w1 ⟨ka5, kc5, la5, lc5, rfl, hin_, h_w1⟩
    have hB0 := Box.ext h_w1 hB0
    have hB1 := Box.ext h_w1 hB1
    have hB2 := Box.ext h_w1 hB2
    have hx_w1 := hxa.trans h_w1
    clear hc0 hf0 hl0 hc1 hf1 hl1
    have Hin5 := Lib.hid (hin_.mono (T := SS) fun b h hlt_ => h.elim id (fun h => HS2.out b (by (try simp at h); omega)))
    clear hin_ h_w1 hxa hz2_
    have hc2 := hB2.cells; have hf2 := hB2.free; have hl2 := hB2.lt
    go_wp2_with fail
    (with_reducible apply bp_ret); (focus (go_light; simp [results, Tryz.results43, go_sem, *]; rfl))
    rw [Hr.out, Hrr.out]
    exact ⟨ka5, kc5, la5, lc5, rfl, Hin5.out.keep (Held.kept (Held.mono (a := w1) (S := fun b => b ≠ w.heap.size + 2) Hxt HS5.out)) (fun b hb _ => HS4.out b hb), Xt⟩

set_option maxRecDepth 100000 in
set_option maxHeartbeats 8000000 in
theorem do_k3 (x : V) (ka : Option Addr) (kc : Nat) (la : Option Addr) (lc : Nat) (k : Int) (p f : ByteArray) (y : V) (kb : Option Addr) (kd : Nat) (lb : Option Addr) (ld : Nat) (w : World) (hl : LibAt w) (hsx : x.size ≤ 4194304) (hsy : y.size ≤ 4194304) (hp : p.size ≤ 4194304) (hf : f.size ≤ 4194304) (S : Nat → Prop) (hin : x.In w S ka kc la lc) (hjn : y.In w S kb kd lb ld) (hk : k = 3) :
    Calls Tryz.prog 43 #[x.val ka kc la lc, .agg #[.int .i64 k, .string p, .string f, .int .i64 y.k, .int .i64 y.n, .string y.s, .slice kb y.keys.length kd, .slice lb y.l.length ld]] w (RetV2 S (oneV x ⟨k, p, f, y⟩).1 (.int .i64 (oneV x ⟨k, p, f, y⟩).2) w) := by
  obtain ⟨SS, hSS⟩ : ∃ SS : Nat → Prop, SS = fun b => (S b ∧ b < w.heap.size) ∨ w.heap.size + 3 ≤ b := ⟨_, rfl⟩
  have Hin := Lib.hid (show x.In w SS ka kc la lc from hin.mono fun b h hl => by rw [hSS]; exact .inl ⟨h, hl⟩)
  have Hjn := Lib.hid (show y.In w SS kb kd lb ld from hjn.mono fun b h hl => by rw [hSS]; exact .inl ⟨h, hl⟩)
  have HS2 := Lib.hid (show ∀ b, w.heap.size + 3 ≤ b → SS b from fun b h => by rw [hSS]; exact .inr h)
  have HS5 := Lib.hid (show ∀ b, SS b → b ≠ w.heap.size + 2 from fun b h => by rw [hSS] at h; rcases h with h | h <;> omega)
  have HS4 := Lib.hid (show ∀ b, SS b → Plus S w b from fun b h => by rw [hSS] at h; exact h.elim (fun h => .inl h.1) (fun h => .inr (by omega)))
  clear hSS
  have hgs := getP_size x p
  have hgf := getP_size x f
  clear hin hjn
  · have b1 : (k == 1) = false := by simpa using (by omega : k ≠ 1)
    have b2 : (k == 2) = false := by simpa using (by omega : k ≠ 2)
    have b3 : (k == 3) = true := by simpa using hk
    have Hr := Lib.hid (show oneV x ⟨k, p, f, y⟩ = putP x p y by unfold oneV; simp [hk])
    obtain ⟨r, hr⟩ : ∃ r, putP x p y = r := ⟨_, rfl⟩
    have Hrr := Lib.hid hr
    clear hk hr
    go_enter Tryz.func43, Tryz.ntmps43
    go_upto_region 1 with fail
    refine gen_world (R := fun wx => Box wx w.heap.size #[.int .i64 x.k, .int .i64 x.n, .string x.s, .slice ka x.keys.length kc, .slice la x.l.length lc] 25 ∧ Box wx (w.heap.size + 1) #[.int .i64 k, .string p, .string f, .int .i64 y.k, .int .i64 y.n, .string y.s, .slice kb y.keys.length kd, .slice lb y.l.length ld] 49 ∧ Box wx (w.heap.size + 2) #[.int .i64 0, .int .i64 0, .string ⟨#[]⟩, .slice none 0 0, .slice none 0 0] 25 ∧ Ext w wx) ⟨Bxt, Bxt, Bxt, Xt⟩ ?_
    rintro wa ⟨hB0, hB1, hB2, hxa⟩
    have hc0 := hB0.cells; have hf0 := hB0.free; have hl0 := hB0.lt
    have hc1 := hB1.cells; have hf1 := hB1.free; have hl1 := hB1.lt
    have hz2_ := hB2.lt
    go_wp2_with fail
    (refine (alterR_any 3 (by decide) x ka kc la lc y kb kd lb ld p SS _ (by omega) (by omega) (by omega) (Hin.out.ext Xt) (Hjn.out.ext Xt)).mono ?_)
    rw [show altP 3 x p y = r from Hrr.out]
    rintro e w1 ⟨ka5, kc5, la5, lc5, rfl, hin_, h_w1⟩
    have hB0 := Box.ext h_w1 hB0
    have hB1 := Box.ext h_w1 hB1
    have hB2 := Box.ext h_w1 hB2
    have hx_w1 := hxa.trans h_w1
    clear hc0 hf0 hl0 hc1 hf1 hl1
    have Hin5 := Lib.hid (hin_.mono (T := SS) fun b h hlt_ => h.elim id (fun h => HS2.out b (by (try simp at h); omega)))
    clear hin_ h_w1 hxa hz2_
    have hc2 := hB2.cells; have hf2 := hB2.free; have hl2 := hB2.lt
    go_wp2_with fail
    (with_reducible apply bp_ret); (focus (go_light; simp [results, Tryz.results43, go_sem, *]; rfl))
    rw [Hr.out, Hrr.out]
    exact ⟨ka5, kc5, la5, lc5, rfl, Hin5.out.keep (Held.kept (Held.mono (a := w1) (S := fun b => b ≠ w.heap.size + 2) Hxt HS5.out)) (fun b hb _ => HS4.out b hb), Xt⟩

set_option maxRecDepth 100000 in
set_option maxHeartbeats 8000000 in
theorem do_k0 (x : V) (ka : Option Addr) (kc : Nat) (la : Option Addr) (lc : Nat) (k : Int) (p f : ByteArray) (y : V) (kb : Option Addr) (kd : Nat) (lb : Option Addr) (ld : Nat) (w : World) (hl : LibAt w) (hsx : x.size ≤ 4194304) (hsy : y.size ≤ 4194304) (hp : p.size ≤ 4194304) (hf : f.size ≤ 4194304) (S : Nat → Prop) (hin : x.In w S ka kc la lc) (hjn : y.In w S kb kd lb ld) (h1 : k ≠ 1) (h2 : k ≠ 2) (h3 : k ≠ 3) (h4 : k ≠ 4) (h5 : k ≠ 5) (h6 : k ≠ 6) :
    Calls Tryz.prog 43 #[x.val ka kc la lc, .agg #[.int .i64 k, .string p, .string f, .int .i64 y.k, .int .i64 y.n, .string y.s, .slice kb y.keys.length kd, .slice lb y.l.length ld]] w (RetV2 S (oneV x ⟨k, p, f, y⟩).1 (.int .i64 (oneV x ⟨k, p, f, y⟩).2) w) := by
  obtain ⟨SS, hSS⟩ : ∃ SS : Nat → Prop, SS = fun b => (S b ∧ b < w.heap.size) ∨ w.heap.size + 3 ≤ b := ⟨_, rfl⟩
  have Hin := Lib.hid (show x.In w SS ka kc la lc from hin.mono fun b h hl => by rw [hSS]; exact .inl ⟨h, hl⟩)
  have Hjn := Lib.hid (show y.In w SS kb kd lb ld from hjn.mono fun b h hl => by rw [hSS]; exact .inl ⟨h, hl⟩)
  have HS2 := Lib.hid (show ∀ b, w.heap.size + 3 ≤ b → SS b from fun b h => by rw [hSS]; exact .inr h)
  have HS5 := Lib.hid (show ∀ b, SS b → b ≠ w.heap.size + 2 from fun b h => by rw [hSS] at h; rcases h with h | h <;> omega)
  have HS4 := Lib.hid (show ∀ b, SS b → Plus S w b from fun b h => by rw [hSS] at h; exact h.elim (fun h => .inl h.1) (fun h => .inr (by omega)))
  clear hSS
  have hgs := getP_size x p
  have hgf := getP_size x f
  clear hin hjn
  have b1 : (k == 1) = false := by simpa using h1
  have b2 : (k == 2) = false := by simpa using h2
  have b3 : (k == 3) = false := by simpa using h3
  have b4 : (k == 4) = false := by simpa using h4
  have b5 : (k == 5) = false := by simpa using h5
  have b6 : (k == 6) = false := by simpa using h6
  have Hr := Lib.hid (show oneV x ⟨k, p, f, y⟩ = (x, 9) by unfold oneV; simp [h1, h2, h3, h4, h5, h6])
  clear h1 h2 h3 h4 h5 h6
  go_enter Tryz.func43, Tryz.ntmps43
  go_upto_region 1 with fail
  refine gen_world (R := fun wx => Box wx w.heap.size #[.int .i64 x.k, .int .i64 x.n, .string x.s, .slice ka x.keys.length kc, .slice la x.l.length lc] 25 ∧ Box wx (w.heap.size + 1) #[.int .i64 k, .string p, .string f, .int .i64 y.k, .int .i64 y.n, .string y.s, .slice kb y.keys.length kd, .slice lb y.l.length ld] 49 ∧ Box wx (w.heap.size + 2) #[.int .i64 0, .int .i64 0, .string ⟨#[]⟩, .slice none 0 0, .slice none 0 0] 25 ∧ Ext w wx) ⟨Bxt, Bxt, Bxt, Xt⟩ ?_
  rintro wa ⟨hB0, hB1, hB2, hxa⟩
  have hc0 := hB0.cells; have hf0 := hB0.free; have hl0 := hB0.lt
  have hc1 := hB1.cells; have hf1 := hB1.free; have hl1 := hB1.lt
  have hc2 := hB2.cells; have hf2 := hB2.free; have hl2 := hB2.lt
  go_wp2_with fail
  (with_reducible apply bp_ret); (focus (go_light; simp [results, Tryz.results43, go_sem, *]; rfl))
  rw [Hr.out]
  exact ⟨ka, kc, la, lc, rfl, Hin.out.keep (Held.kept (Held.mono (a := w) (S := fun b => b ≠ w.heap.size + 2) Hxt HS5.out)) (fun b hb _ => HS4.out b hb), Xt⟩
end Go.Proofs.YtnbappeiebameaaGreatDoor

/- The walk of stairwellref.DoOp: to move. -/
namespace Go.Proofs.YtnbappeiebameaaGreatDoor
open Go.RowKit
attribute [local go_sem ↓] Go.wp_at_zero Go.wp_at_succ


set_option maxRecDepth 100000 in
set_option maxHeartbeats 8000000 in
theorem do_k4 (x : V) (ka : Option Addr) (kc : Nat) (la : Option Addr) (lc : Nat) (k : Int) (p f : ByteArray) (y : V) (kb : Option Addr) (kd : Nat) (lb : Option Addr) (ld : Nat) (w : World) (hl : LibAt w) (hsx : x.size ≤ 4194304) (hsy : y.size ≤ 4194304) (hp : p.size ≤ 4194304) (hf : f.size ≤ 4194304) (S : Nat → Prop) (hin : x.In w S ka kc la lc) (hjn : y.In w S kb kd lb ld) (hk : k = 4) :
    Calls Tryz.prog 43 #[x.val ka kc la lc, .agg #[.int .i64 k, .string p, .string f, .int .i64 y.k, .int .i64 y.n, .string y.s, .slice kb y.keys.length kd, .slice lb y.l.length ld]] w (RetV2 S (oneV x ⟨k, p, f, y⟩).1 (.int .i64 (oneV x ⟨k, p, f, y⟩).2) w) := by
  obtain ⟨SS, hSS⟩ : ∃ SS : Nat → Prop, SS = fun b => (S b ∧ b < w.heap.size) ∨ w.heap.size + 3 ≤ b := ⟨_, rfl⟩
  have Hin := Lib.hid (show x.In w SS ka kc la lc from hin.mono fun b h hl => by rw [hSS]; exact .inl ⟨h, hl⟩)
  have Hjn := Lib.hid (show y.In w SS kb kd lb ld from hjn.mono fun b h hl => by rw [hSS]; exact .inl ⟨h, hl⟩)
  have HS2 := Lib.hid (show ∀ b, w.heap.size + 3 ≤ b → SS b from fun b h => by rw [hSS]; exact .inr h)
  have HS5 := Lib.hid (show ∀ b, SS b → b ≠ w.heap.size + 2 from fun b h => by rw [hSS] at h; rcases h with h | h <;> omega)
  have HS4 := Lib.hid (show ∀ b, SS b → Plus S w b from fun b h => by rw [hSS] at h; exact h.elim (fun h => .inl h.1) (fun h => .inr (by omega)))
  clear hSS
  have hgs := getP_size x p
  have hgf := getP_size x f
  clear hin hjn
  · have b1 : (k == 1) = false := by simpa using (by omega : k ≠ 1)
    have b2 : (k == 2) = false := by simpa using (by omega : k ≠ 2)
    have b3 : (k == 3) = false := by simpa using (by omega : k ≠ 3)
    have b4 : (k == 4) = true := by simpa using hk
    have b5 : (k == 5) = false := by simpa using (by omega : k ≠ 5)
    have b6 : (k == 6) = false := by simpa using (by omega : k ≠ 6)
    have Hr := Lib.hid (show oneV x ⟨k, p, f, y⟩ = if (getP x f).2 ≠ 0 then (x, (getP x f).2) else moveV x f p (getP x f).1 by unfold oneV; simp [hk])
    obtain ⟨u, hu⟩ : ∃ u, (getP x f).1 = u := ⟨_, rfl⟩
    obtain ⟨er, her⟩ : ∃ er, (getP x f).2 = er := ⟨_, rfl⟩
    rw [hu] at hgf
    have Hg := Lib.hid (show getP x f = (u, er) from Prod.ext hu her)
    have Hr := Lib.hid (show oneV x ⟨k, p, f, y⟩ = if er ≠ 0 then (x, er) else moveV x f p u by have := Hr.out; rw [hu, her] at this; exact this)
    clear hk hu her
    by_cases h0 : er = 0
    · have h0b : (er != 0) = false := by simpa using h0
      have Hr2 := Lib.hid (show oneV x ⟨k, p, f, y⟩ = moveV x f p u by rw [Hr.out, if_neg (by simp [h0])])
      clear h0
      have hc1_ : ¬ f.size + (⟨#[47]⟩ : ByteArray).size > 9223372036854775807 := by have : (⟨#[47]⟩ : ByteArray).size = 1 := rfl; omega
      have hc2_ : (f ++ ⟨#[47]⟩ : ByteArray).size ≤ 1073741824 := by have h1 : (⟨#[47]⟩ : ByteArray).size = 1 := rfl; rw [ByteArray.size_append]; omega
      cases hb : belowB f p with
      | true =>
        have Hb := Lib.hid hb
        have Hr3 := Lib.hid (show oneV x ⟨k, p, f, y⟩ = (x, 1) by rw [Hr2.out]; unfold moveV; rw [if_pos hb])
        clear hb
        go_enter Tryz.func43, Tryz.ntmps43
        go_upto_region 1 with fail
        refine gen_world (R := fun wx => Box wx w.heap.size #[.int .i64 x.k, .int .i64 x.n, .string x.s, .slice ka x.keys.length kc, .slice la x.l.length lc] 25 ∧ Box wx (w.heap.size + 1) #[.int .i64 k, .string p, .string f, .int .i64 y.k, .int .i64 y.n, .string y.s, .slice kb y.keys.length kd, .slice lb y.l.length ld] 49 ∧ Box wx (w.heap.size + 2) #[.int .i64 0, .int .i64 0, .string ⟨#[]⟩, .slice none 0 0, .slice none 0 0] 25 ∧ Ext w wx) ⟨Bxt, Bxt, Bxt, Xt⟩ ?_
        rintro wa ⟨hB0, hB1, hB2, hxa⟩
        have hc0 := hB0.cells; have hf0 := hB0.free; have hl0 := hB0.lt
        have hc1 := hB1.cells; have hf1 := hB1.free; have hl1 := hB1.lt
        have hz2_ := hB2.lt
        go_wp2_with fail
        (refine (getAt_any x ka kc la lc SS f _ (by omega) (Hin.out.ext Xt) (by omega)).mono ?_)
        rw [Hg.out]
        rintro e w1 ⟨ka6, kc6, la6, lc6, rfl, hin_, h_w1⟩
        have hB0 := Box.ext h_w1 hB0
        have hB1 := Box.ext h_w1 hB1
        have hB2 := Box.ext h_w1 hB2
        have hx_w1 := hxa.trans h_w1
        clear hc0 hf0 hl0 hc1 hf1 hl1
        have Hin6 := Lib.hid (hin_.mono (T := SS) fun b h hlt_ => h.elim id (fun h => HS2.out b (by (try simp at h); omega)))
        clear hin_ h_w1 hxa hz2_
        go_upto_region 18 with fail
        refine gen_world (R := fun wx => Box wx w.heap.size #[.int .i64 x.k, .int .i64 x.n, .string x.s, .slice ka x.keys.length kc, .slice la x.l.length lc] 25 ∧ Box wx (w.heap.size + 1) #[.int .i64 k, .string p, .string f, .int .i64 y.k, .int .i64 y.n, .string y.s, .slice kb y.keys.length kd, .slice lb y.l.length ld] 49 ∧ Box wx (w.heap.size + 2) #[.int .i64 0, .int .i64 0, .string ⟨#[]⟩, .slice none 0 0, .slice none 0 0] 25 ∧ Box wx w1.heap.size #[.int .i64 u.k, .int .i64 u.n, .string u.s, .slice ka6 u.keys.length kc6, .slice la6 u.l.length lc6] 25 ∧ u.In wx SS ka6 kc6 la6 lc6 ∧ Ext w wx) ⟨Bxt, Bxt, Bxt, Bxt, Hin6.out.ext Xt, Xt⟩ ?_
        clear hB0 hB1 hB2 Hin6 hx_w1
        rintro wvw1 ⟨hB0, hB1, hB2, hB6, hin6, hx_vw1⟩
        have Hin6 := Lib.hid hin6
        clear hin6
        have hc0 := hB0.cells; have hf0 := hB0.free; have hl0 := hB0.lt
        have hc1 := hB1.cells; have hf1 := hB1.free; have hl1 := hB1.lt
        go_wp2_with fail
        have hpre := begins_any p (f ++ ⟨#[47]⟩ : ByteArray) (by omega) hc2_ wvw1
        refine hpre.mono ?_
        clear hpre
        rintro e w2 ⟨rfl, h_w2⟩
        rw [below_has, Hb.out]
        have hB0 := Box.ext h_w2 hB0
        have hB1 := Box.ext h_w2 hB1
        have hB2 := Box.ext h_w2 hB2
        have hB6 := Box.ext h_w2 hB6
        have Hin6 := Lib.hid (V.In.ext (w' := w2) Hin6.out h_w2)
        have hx_w2 := hx_vw1.trans h_w2
        clear hc0 hf0 hl0 hc1 hf1 hl1 h_w2 hx_vw1
        have hc0 := hB0.cells; have hf0 := hB0.free; have hl0 := hB0.lt
        have hc1 := hB1.cells; have hf1 := hB1.free; have hl1 := hB1.lt
        have hc2 := hB2.cells; have hf2 := hB2.free; have hl2 := hB2.lt
        go_wp2_with fail
        (with_reducible apply bp_ret); (focus (go_light; simp [results, Tryz.results43, go_sem, *]; rfl))
        rw [Hr3.out]
        exact ⟨ka, kc, la, lc, rfl, Hin.out.keep (Held.kept (Held.mono (a := w) (S := fun b => b ≠ w.heap.size + 2) Hxt HS5.out)) (fun b hb _ => HS4.out b hb), Xt⟩
      | false =>
        have Hb := Lib.hid hb
        clear hb
        by_cases hfp : f = p
        · have Hr3 := Lib.hid (show oneV x ⟨k, p, f, y⟩ = (x, 0) by rw [Hr2.out, hfp]; exact move_self)
          have hfb : (p.toList == f.toList) = true := by simp [hfp]
          have hfc : p.toList = f.toList := by rw [hfp]
          clear hfp
          go_enter Tryz.func43, Tryz.ntmps43
          go_upto_region 1 with fail
          refine gen_world (R := fun wx => Box wx w.heap.size #[.int .i64 x.k, .int .i64 x.n, .string x.s, .slice ka x.keys.length kc, .slice la x.l.length lc] 25 ∧ Box wx (w.heap.size + 1) #[.int .i64 k, .string p, .string f, .int .i64 y.k, .int .i64 y.n, .string y.s, .slice kb y.keys.length kd, .slice lb y.l.length ld] 49 ∧ Box wx (w.heap.size + 2) #[.int .i64 0, .int .i64 0, .string ⟨#[]⟩, .slice none 0 0, .slice none 0 0] 25 ∧ Ext w wx) ⟨Bxt, Bxt, Bxt, Xt⟩ ?_
          rintro wa ⟨hB0, hB1, hB2, hxa⟩
          have hc0 := hB0.cells; have hf0 := hB0.free; have hl0 := hB0.lt
          have hc1 := hB1.cells; have hf1 := hB1.free; have hl1 := hB1.lt
          have hz2_ := hB2.lt
          go_wp2_with fail
          (refine (getAt_any x ka kc la lc SS f _ (by omega) (Hin.out.ext Xt) (by omega)).mono ?_)
          rw [Hg.out]
          rintro e w1 ⟨ka6, kc6, la6, lc6, rfl, hin_, h_w1⟩
          have hB0 := Box.ext h_w1 hB0
          have hB1 := Box.ext h_w1 hB1
          have hB2 := Box.ext h_w1 hB2
          have hx_w1 := hxa.trans h_w1
          clear hc0 hf0 hl0 hc1 hf1 hl1
          have Hin6 := Lib.hid (hin_.mono (T := SS) fun b h hlt_ => h.elim id (fun h => HS2.out b (by (try simp at h); omega)))
          clear hin_ h_w1 hxa hz2_
          go_upto_region 18 with fail
          refine gen_world (R := fun wx => Box wx w.heap.size #[.int .i64 x.k, .int .i64 x.n, .string x.s, .slice ka x.keys.length kc, .slice la x.l.length lc] 25 ∧ Box wx (w.heap.size + 1) #[.int .i64 k, .string p, .string f, .int .i64 y.k, .int .i64 y.n, .string y.s, .slice kb y.keys.length kd, .slice lb y.l.length ld] 49 ∧ Box wx (w.heap.size + 2) #[.int .i64 0, .int .i64 0, .string ⟨#[]⟩, .slice none 0 0, .slice none 0 0] 25 ∧ Box wx w1.heap.size #[.int .i64 u.k, .int .i64 u.n, .string u.s, .slice ka6 u.keys.length kc6, .slice la6 u.l.length lc6] 25 ∧ u.In wx SS ka6 kc6 la6 lc6 ∧ Ext w wx) ⟨Bxt, Bxt, Bxt, Bxt, Hin6.out.ext Xt, Xt⟩ ?_
          clear hB0 hB1 hB2 Hin6 hx_w1
          rintro wvw1 ⟨hB0, hB1, hB2, hB6, hin6, hx_vw1⟩
          have Hin6 := Lib.hid hin6
          clear hin6
          have hc0 := hB0.cells; have hf0 := hB0.free; have hl0 := hB0.lt
          have hc1 := hB1.cells; have hf1 := hB1.free; have hl1 := hB1.lt
          go_wp2_with fail
          have hpre := begins_any p (f ++ ⟨#[47]⟩ : ByteArray) (by omega) hc2_ wvw1
          refine hpre.mono ?_
          clear hpre
          rintro e w2 ⟨rfl, h_w2⟩
          rw [below_has, Hb.out]
          have hB0 := Box.ext h_w2 hB0
          have hB1 := Box.ext h_w2 hB1
          have hB2 := Box.ext h_w2 hB2
          have hB6 := Box.ext h_w2 hB6
          have Hin6 := Lib.hid (V.In.ext (w' := w2) Hin6.out h_w2)
          have hx_w2 := hx_vw1.trans h_w2
          clear hc0 hf0 hl0 hc1 hf1 hl1 h_w2 hx_vw1
          have hc0 := hB0.cells; have hf0 := hB0.free; have hl0 := hB0.lt
          have hc1 := hB1.cells; have hf1 := hB1.free; have hl1 := hB1.lt
          have hc2 := hB2.cells; have hf2 := hB2.free; have hl2 := hB2.lt
          go_wp2_with fail
          (with_reducible apply bp_ret); (focus (go_light; simp [results, Tryz.results43, go_sem, *]; rfl))
          rw [Hr3.out]
          exact ⟨ka, kc, la, lc, rfl, Hin.out.keep (Held.kept (Held.mono (a := w) (S := fun b => b ≠ w.heap.size + 2) Hxt HS5.out)) (fun b hb _ => HS4.out b hb), Xt⟩
        · have hfb : (p.toList == f.toList) = false := by simpa using fun h => hfp (bytes_ext h).symm
          have hfc : ¬ p.toList = f.toList := fun h => hfp (bytes_ext h).symm
          obtain ⟨r, hr⟩ : ∃ r, (remP x f).1 = r := ⟨_, rfl⟩
          obtain ⟨e2, he2⟩ : ∃ e2, (remP x f).2 = e2 := ⟨_, rfl⟩
          have hrs := remP_size x f
          rw [hr] at hrs
          have Hrem := Lib.hid (show remP x f = (r, e2) from Prod.ext hr he2)
          have Hr3 := Lib.hid (show oneV x ⟨k, p, f, y⟩ = if e2 ≠ 0 then (x, e2) else if (addP r p u).2 ≠ 0 then (x, (addP r p u).2) else ((addP r p u).1, 0) by rw [Hr2.out]; unfold moveV; rw [Hb.out, if_neg (by decide), if_neg hfp, hr, he2])
          clear hr he2 hfp
          by_cases h2 : e2 = 0
          · have h2b : (e2 == 0) = true := by simpa using h2
            obtain ⟨s, hs⟩ : ∃ s, (addP r p u).1 = s := ⟨_, rfl⟩
            obtain ⟨e3, he3⟩ : ∃ e3, (addP r p u).2 = e3 := ⟨_, rfl⟩
            have Hadd := Lib.hid (show addP r p u = (s, e3) from Prod.ext hs he3)
            have Hr4 := Lib.hid (show oneV x ⟨k, p, f, y⟩ = if e3 ≠ 0 then (x, e3) else (s, 0) by rw [Hr3.out, if_neg (by simp [h2]), hs, he3])
            clear hs he3 h2
            by_cases h3 : e3 = 0
            · have h3b : (e3 != 0) = false := by simpa using h3
              have Hr5 := Lib.hid (show oneV x ⟨k, p, f, y⟩ = (s, 0) by rw [Hr4.out, if_neg (by simp [h3])])
              clear h3
              go_enter Tryz.func43, Tryz.ntmps43
              go_upto_region 1 with fail
              refine gen_world (R := fun wx => Box wx w.heap.size #[.int .i64 x.k, .int .i64 x.n, .string x.s, .slice ka x.keys.length kc, .slice la x.l.length lc] 25 ∧ Box wx (w.heap.size + 1) #[.int .i64 k, .string p, .string f, .int .i64 y.k, .int .i64 y.n, .string y.s, .slice kb y.keys.length kd, .slice lb y.l.length ld] 49 ∧ Box wx (w.heap.size + 2) #[.int .i64 0, .int .i64 0, .string ⟨#[]⟩, .slice none 0 0, .slice none 0 0] 25 ∧ Ext w wx) ⟨Bxt, Bxt, Bxt, Xt⟩ ?_
              rintro wa ⟨hB0, hB1, hB2, hxa⟩
              have hc0 := hB0.cells; have hf0 := hB0.free; have hl0 := hB0.lt
              have hc1 := hB1.cells; have hf1 := hB1.free; have hl1 := hB1.lt
              have hz2_ := hB2.lt
              go_wp2_with fail
              (refine (getAt_any x ka kc la lc SS f _ (by omega) (Hin.out.ext Xt) (by omega)).mono ?_)
              rw [Hg.out]
              rintro e w1 ⟨ka6, kc6, la6, lc6, rfl, hin_, h_w1⟩
              have hB0 := Box.ext h_w1 hB0
              have hB1 := Box.ext h_w1 hB1
              have hB2 := Box.ext h_w1 hB2
              have hx_w1 := hxa.trans h_w1
              clear hc0 hf0 hl0 hc1 hf1 hl1
              have Hin6 := Lib.hid (hin_.mono (T := SS) fun b h hlt_ => h.elim id (fun h => HS2.out b (by (try simp at h); omega)))
              clear hin_ h_w1 hxa hz2_
              go_upto_region 18 with fail
              refine gen_world (R := fun wx => Box wx w.heap.size #[.int .i64 x.k, .int .i64 x.n, .string x.s, .slice ka x.keys.length kc, .slice la x.l.length lc] 25 ∧ Box wx (w.heap.size + 1) #[.int .i64 k, .string p, .string f, .int .i64 y.k, .int .i64 y.n, .string y.s, .slice kb y.keys.length kd, .slice lb y.l.length ld] 49 ∧ Box wx (w.heap.size + 2) #[.int .i64 0, .int .i64 0, .string ⟨#[]⟩, .slice none 0 0, .slice none 0 0] 25 ∧ Box wx w1.heap.size #[.int .i64 u.k, .int .i64 u.n, .string u.s, .slice ka6 u.keys.length kc6, .slice la6 u.l.length lc6] 25 ∧ u.In wx SS ka6 kc6 la6 lc6 ∧ Ext w wx) ⟨Bxt, Bxt, Bxt, Bxt, Hin6.out.ext Xt, Xt⟩ ?_
              clear hB0 hB1 hB2 Hin6 hx_w1
              rintro wvw1 ⟨hB0, hB1, hB2, hB6, hin6, hx_vw1⟩
              have Hin6 := Lib.hid hin6
              clear hin6
              have hc0 := hB0.cells; have hf0 := hB0.free; have hl0 := hB0.lt
              have hc1 := hB1.cells; have hf1 := hB1.free; have hl1 := hB1.lt
              go_wp2_with fail
              have hpre := begins_any p (f ++ ⟨#[47]⟩ : ByteArray) (by omega) hc2_ wvw1
              refine hpre.mono ?_
              clear hpre
              rintro e w2 ⟨rfl, h_w2⟩
              rw [below_has, Hb.out]
              have hB0 := Box.ext h_w2 hB0
              have hB1 := Box.ext h_w2 hB1
              have hB2 := Box.ext h_w2 hB2
              have hB6 := Box.ext h_w2 hB6
              have Hin6 := Lib.hid (V.In.ext (w' := w2) Hin6.out h_w2)
              have hx_w2 := hx_vw1.trans h_w2
              clear hc0 hf0 hl0 hc1 hf1 hl1 h_w2 hx_vw1
              have hc0 := hB0.cells; have hf0 := hB0.free; have hl0 := hB0.lt
              have hc1 := hB1.cells; have hf1 := hB1.free; have hl1 := hB1.lt
              clear hc0 hf0 hl0 hc1 hf1 hl1
              have hc0 := hB0.cells; have hf0 := hB0.free; have hl0 := hB0.lt
              have hc1 := hB1.cells; have hf1 := hB1.free; have hl1 := hB1.lt
              have hz2_ := hB2.lt
              go_wp2_with fail
              (refine (alterR_any 2 (by decide) x ka kc la lc V.zero none 0 none 0 f SS _ (by omega) (by rw [V.size_eq]; decide) (by omega) (Hin.out.ext Xt) (V.zero_in _ _)).mono ?_)
              rw [show altP 2 x f V.zero = (r, e2) from Hrem.out]
              rintro e w3 ⟨ka7, kc7, la7, lc7, rfl, hin_, h_w3⟩
              have hB0 := Box.ext h_w3 hB0
              have hB1 := Box.ext h_w3 hB1
              have hB2 := Box.ext h_w3 hB2
              have hB6 := Box.ext h_w3 hB6
              have Hin6 := Lib.hid (V.In.ext (w' := w3) Hin6.out h_w3)
              have hx_w3 := hx_w2.trans h_w3
              clear hc0 hf0 hl0 hc1 hf1 hl1
              have Hin7 := Lib.hid (hin_.mono (T := (fun b => SS b ∧ b < w3.heap.size)) fun b h hlt_ => ⟨h.elim id (fun h => HS2.out b (by (try simp at h); omega)), hlt_⟩)
              have Hin6 := Lib.hid (Hin6.out.mono (T := (fun b => SS b ∧ b < w3.heap.size)) fun b h hlt_ => ⟨h, hlt_⟩)
              clear hin_ h_w3 hx_w2 hz2_
              have hzk_ := hB2.lt
              go_upto_region 29 with fail
              refine gen_world (R := fun wx => Box wx w.heap.size #[.int .i64 x.k, .int .i64 x.n, .string x.s, .slice ka x.keys.length kc, .slice la x.l.length lc] 25 ∧ Box wx (w.heap.size + 1) #[.int .i64 k, .string p, .string f, .int .i64 y.k, .int .i64 y.n, .string y.s, .slice kb y.keys.length kd, .slice lb y.l.length ld] 49 ∧ Box wx (w.heap.size + 2) #[.int .i64 0, .int .i64 0, .string ⟨#[]⟩, .slice none 0 0, .slice none 0 0] 25 ∧ Box wx w1.heap.size #[.int .i64 u.k, .int .i64 u.n, .string u.s, .slice ka6 u.keys.length kc6, .slice la6 u.l.length lc6] 25 ∧ Box wx w3.heap.size #[.int .i64 r.k, .int .i64 r.n, .string r.s, .slice ka7 r.keys.length kc7, .slice la7 r.l.length lc7] 25 ∧ u.In wx (fun b => SS b ∧ b < w3.heap.size) ka6 kc6 la6 lc6 ∧ r.In wx (fun b => SS b ∧ b < w3.heap.size) ka7 kc7 la7 lc7 ∧ Ext w wx) ⟨Bxt, Bxt, Bxt, Bxt, Bxt, Hin6.out.ext Xt, Hin7.out.ext Xt, Xt⟩ ?_
              clear hB0 hB1 hB2 hB6 Hin6 Hin7 hx_w3
              rintro wvw3 ⟨hB0, hB1, hB2, hB6, hB7, hin6, hin7, hx_vw3⟩
              have Hin6 := Lib.hid hin6
              clear hin6
              have Hin7 := Lib.hid hin7
              clear hin7
              have hz7_ := hB7.lt
              have hc1 := hB1.cells; have hf1 := hB1.free; have hl1 := hB1.lt
              have hc6 := hB6.cells; have hf6 := hB6.free; have hl6 := hB6.lt
              have hc7 := hB7.cells; have hf7 := hB7.free; have hl7 := hB7.lt
              have hz2_ := hB2.lt
              go_wp2_with fail
              (refine (alterR_any 1 (by decide) r ka7 kc7 la7 lc7 u ka6 kc6 la6 lc6 p (fun b => SS b ∧ b < w3.heap.size) _ (by omega) (by omega) (by omega) (Hin7.out.ext Xt) (Hin6.out.ext Xt)).mono ?_)
              rw [show altP 1 r p u = (s, e3) from Hadd.out]
              rintro e w4 ⟨ka8, kc8, la8, lc8, rfl, hin_, h_w4⟩
              have hB0 := Box.ext h_w4 hB0
              have hB1 := Box.ext h_w4 hB1
              have hB2 := Box.ext h_w4 hB2
              have hB6 := Box.ext h_w4 hB6
              have hB7 := Box.ext h_w4 hB7
              have Hin6 := Lib.hid (V.In.ext (w' := w4) Hin6.out h_w4)
              have Hin7 := Lib.hid (V.In.ext (w' := w4) Hin7.out h_w4)
              have hx_w4 := hx_vw3.trans h_w4
              clear hc1 hf1 hl1 hc6 hf6 hl6 hc7 hf7 hl7
              have Hin8 := Lib.hid (hin_.mono (T := (fun b => SS b ∧ b ≠ w3.heap.size)) fun b h hlt_ => by rcases h with h | h; exact ⟨h.1, by have := h.2; omega⟩; exact ⟨HS2.out b (by (try simp at h); omega), by (try simp at h); omega⟩)
              clear hin_ h_w4 hx_vw3 hz2_
              have hc7 := hB7.cells; have hf7 := hB7.free; have hl7 := hB7.lt
              go_upto_region 31 with fail
              refine gen_world (R := fun wx => Box wx w.heap.size #[.int .i64 x.k, .int .i64 x.n, .string x.s, .slice ka x.keys.length kc, .slice la x.l.length lc] 25 ∧ Box wx (w.heap.size + 2) #[.int .i64 0, .int .i64 0, .string ⟨#[]⟩, .slice none 0 0, .slice none 0 0] 25 ∧ Box wx w3.heap.size #[.int .i64 s.k, .int .i64 s.n, .string s.s, .slice ka8 s.keys.length kc8, .slice la8 s.l.length lc8] 25 ∧ Ext w wx ∧ Held (fun b => b ≠ w3.heap.size) w4 wx) ⟨Bxt, Bxt, Bxt, Xt, Hxt⟩ ?_
              clear hB0 hB1 hB2 hB6 hB7 hc7 hf7 hl7 hx_w4 Hin6 Hin7
              rintro wf ⟨hB0, hB2, hB7, hx_f, hhf⟩
              have Hin8 := Lib.hid (show s.In wf SS ka8 kc8 la8 lc8 from Hin8.out.keep (Held.kept (hhf.mono fun b h => h.2)) (fun b h _ => h.1))
              have hc2 := hB2.cells; have hf2 := hB2.free; have hl2 := hB2.lt
              have hc7 := hB7.cells; have hf7 := hB7.free; have hl7 := hB7.lt
              go_wp2_with fail
              (with_reducible apply bp_ret); (focus (go_light; simp [results, Tryz.results43, go_sem, *]; rfl))
              rw [Hr5.out]
              exact ⟨ka8, kc8, la8, lc8, rfl, Hin8.out.keep (Held.kept (Held.mono (a := wf) (S := fun b => b ≠ w.heap.size + 2) Hxt HS5.out)) (fun b hb _ => HS4.out b hb), Xt⟩
            · have h3b : (e3 != 0) = true := by simpa using h3
              have Hr5 := Lib.hid (show oneV x ⟨k, p, f, y⟩ = (x, e3) by rw [Hr4.out, if_pos (by simpa using h3)])
              clear h3
              go_enter Tryz.func43, Tryz.ntmps43
              go_upto_region 1 with fail
              refine gen_world (R := fun wx => Box wx w.heap.size #[.int .i64 x.k, .int .i64 x.n, .string x.s, .slice ka x.keys.length kc, .slice la x.l.length lc] 25 ∧ Box wx (w.heap.size + 1) #[.int .i64 k, .string p, .string f, .int .i64 y.k, .int .i64 y.n, .string y.s, .slice kb y.keys.length kd, .slice lb y.l.length ld] 49 ∧ Box wx (w.heap.size + 2) #[.int .i64 0, .int .i64 0, .string ⟨#[]⟩, .slice none 0 0, .slice none 0 0] 25 ∧ Ext w wx) ⟨Bxt, Bxt, Bxt, Xt⟩ ?_
              rintro wa ⟨hB0, hB1, hB2, hxa⟩
              have hc0 := hB0.cells; have hf0 := hB0.free; have hl0 := hB0.lt
              have hc1 := hB1.cells; have hf1 := hB1.free; have hl1 := hB1.lt
              have hz2_ := hB2.lt
              go_wp2_with fail
              (refine (getAt_any x ka kc la lc SS f _ (by omega) (Hin.out.ext Xt) (by omega)).mono ?_)
              rw [Hg.out]
              rintro e w1 ⟨ka6, kc6, la6, lc6, rfl, hin_, h_w1⟩
              have hB0 := Box.ext h_w1 hB0
              have hB1 := Box.ext h_w1 hB1
              have hB2 := Box.ext h_w1 hB2
              have hx_w1 := hxa.trans h_w1
              clear hc0 hf0 hl0 hc1 hf1 hl1
              have Hin6 := Lib.hid (hin_.mono (T := SS) fun b h hlt_ => h.elim id (fun h => HS2.out b (by (try simp at h); omega)))
              clear hin_ h_w1 hxa hz2_
              go_upto_region 18 with fail
              refine gen_world (R := fun wx => Box wx w.heap.size #[.int .i64 x.k, .int .i64 x.n, .string x.s, .slice ka x.keys.length kc, .slice la x.l.length lc] 25 ∧ Box wx (w.heap.size + 1) #[.int .i64 k, .string p, .string f, .int .i64 y.k, .int .i64 y.n, .string y.s, .slice kb y.keys.length kd, .slice lb y.l.length ld] 49 ∧ Box wx (w.heap.size + 2) #[.int .i64 0, .int .i64 0, .string ⟨#[]⟩, .slice none 0 0, .slice none 0 0] 25 ∧ Box wx w1.heap.size #[.int .i64 u.k, .int .i64 u.n, .string u.s, .slice ka6 u.keys.length kc6, .slice la6 u.l.length lc6] 25 ∧ u.In wx SS ka6 kc6 la6 lc6 ∧ Ext w wx) ⟨Bxt, Bxt, Bxt, Bxt, Hin6.out.ext Xt, Xt⟩ ?_
              clear hB0 hB1 hB2 Hin6 hx_w1
              rintro wvw1 ⟨hB0, hB1, hB2, hB6, hin6, hx_vw1⟩
              have Hin6 := Lib.hid hin6
              clear hin6
              have hc0 := hB0.cells; have hf0 := hB0.free; have hl0 := hB0.lt
              have hc1 := hB1.cells; have hf1 := hB1.free; have hl1 := hB1.lt
              go_wp2_with fail
              have hpre := begins_any p (f ++ ⟨#[47]⟩ : ByteArray) (by omega) hc2_ wvw1
              refine hpre.mono ?_
              clear hpre
              rintro e w2 ⟨rfl, h_w2⟩
              rw [below_has, Hb.out]
              have hB0 := Box.ext h_w2 hB0
              have hB1 := Box.ext h_w2 hB1
              have hB2 := Box.ext h_w2 hB2
              have hB6 := Box.ext h_w2 hB6
              have Hin6 := Lib.hid (V.In.ext (w' := w2) Hin6.out h_w2)
              have hx_w2 := hx_vw1.trans h_w2
              clear hc0 hf0 hl0 hc1 hf1 hl1 h_w2 hx_vw1
              have hc0 := hB0.cells; have hf0 := hB0.free; have hl0 := hB0.lt
              have hc1 := hB1.cells; have hf1 := hB1.free; have hl1 := hB1.lt
              clear hc0 hf0 hl0 hc1 hf1 hl1
              have hc0 := hB0.cells; have hf0 := hB0.free; have hl0 := hB0.lt
              have hc1 := hB1.cells; have hf1 := hB1.free; have hl1 := hB1.lt
              have hz2_ := hB2.lt
              go_wp2_with fail
              (refine (alterR_any 2 (by decide) x ka kc la lc V.zero none 0 none 0 f SS _ (by omega) (by rw [V.size_eq]; decide) (by omega) (Hin.out.ext Xt) (V.zero_in _ _)).mono ?_)
              rw [show altP 2 x f V.zero = (r, e2) from Hrem.out]
              rintro e w3 ⟨ka7, kc7, la7, lc7, rfl, hin_, h_w3⟩
              have hB0 := Box.ext h_w3 hB0
              have hB1 := Box.ext h_w3 hB1
              have hB2 := Box.ext h_w3 hB2
              have hB6 := Box.ext h_w3 hB6
              have Hin6 := Lib.hid (V.In.ext (w' := w3) Hin6.out h_w3)
              have hx_w3 := hx_w2.trans h_w3
              clear hc0 hf0 hl0 hc1 hf1 hl1
              have Hin7 := Lib.hid (hin_.mono (T := (fun b => SS b ∧ b < w3.heap.size)) fun b h hlt_ => ⟨h.elim id (fun h => HS2.out b (by (try simp at h); omega)), hlt_⟩)
              have Hin6 := Lib.hid (Hin6.out.mono (T := (fun b => SS b ∧ b < w3.heap.size)) fun b h hlt_ => ⟨h, hlt_⟩)
              clear hin_ h_w3 hx_w2 hz2_
              have hzk_ := hB2.lt
              go_upto_region 29 with fail
              refine gen_world (R := fun wx => Box wx w.heap.size #[.int .i64 x.k, .int .i64 x.n, .string x.s, .slice ka x.keys.length kc, .slice la x.l.length lc] 25 ∧ Box wx (w.heap.size + 1) #[.int .i64 k, .string p, .string f, .int .i64 y.k, .int .i64 y.n, .string y.s, .slice kb y.keys.length kd, .slice lb y.l.length ld] 49 ∧ Box wx (w.heap.size + 2) #[.int .i64 0, .int .i64 0, .string ⟨#[]⟩, .slice none 0 0, .slice none 0 0] 25 ∧ Box wx w1.heap.size #[.int .i64 u.k, .int .i64 u.n, .string u.s, .slice ka6 u.keys.length kc6, .slice la6 u.l.length lc6] 25 ∧ Box wx w3.heap.size #[.int .i64 r.k, .int .i64 r.n, .string r.s, .slice ka7 r.keys.length kc7, .slice la7 r.l.length lc7] 25 ∧ u.In wx (fun b => SS b ∧ b < w3.heap.size) ka6 kc6 la6 lc6 ∧ r.In wx (fun b => SS b ∧ b < w3.heap.size) ka7 kc7 la7 lc7 ∧ Ext w wx) ⟨Bxt, Bxt, Bxt, Bxt, Bxt, Hin6.out.ext Xt, Hin7.out.ext Xt, Xt⟩ ?_
              clear hB0 hB1 hB2 hB6 Hin6 Hin7 hx_w3
              rintro wvw3 ⟨hB0, hB1, hB2, hB6, hB7, hin6, hin7, hx_vw3⟩
              have Hin6 := Lib.hid hin6
              clear hin6
              have Hin7 := Lib.hid hin7
              clear hin7
              have hz7_ := hB7.lt
              have hc1 := hB1.cells; have hf1 := hB1.free; have hl1 := hB1.lt
              have hc6 := hB6.cells; have hf6 := hB6.free; have hl6 := hB6.lt
              have hc7 := hB7.cells; have hf7 := hB7.free; have hl7 := hB7.lt
              have hz2_ := hB2.lt
              go_wp2_with fail
              (refine (alterR_any 1 (by decide) r ka7 kc7 la7 lc7 u ka6 kc6 la6 lc6 p (fun b => SS b ∧ b < w3.heap.size) _ (by omega) (by omega) (by omega) (Hin7.out.ext Xt) (Hin6.out.ext Xt)).mono ?_)
              rw [show altP 1 r p u = (s, e3) from Hadd.out]
              rintro e w4 ⟨ka8, kc8, la8, lc8, rfl, hin_, h_w4⟩
              have hB0 := Box.ext h_w4 hB0
              have hB1 := Box.ext h_w4 hB1
              have hB2 := Box.ext h_w4 hB2
              have hB6 := Box.ext h_w4 hB6
              have hB7 := Box.ext h_w4 hB7
              have Hin6 := Lib.hid (V.In.ext (w' := w4) Hin6.out h_w4)
              have Hin7 := Lib.hid (V.In.ext (w' := w4) Hin7.out h_w4)
              have hx_w4 := hx_vw3.trans h_w4
              clear hc1 hf1 hl1 hc6 hf6 hl6 hc7 hf7 hl7
              have Hin8 := Lib.hid (hin_.mono (T := (fun b => SS b ∧ b ≠ w3.heap.size)) fun b h hlt_ => by rcases h with h | h; exact ⟨h.1, by have := h.2; omega⟩; exact ⟨HS2.out b (by (try simp at h); omega), by (try simp at h); omega⟩)
              clear hin_ h_w4 hx_vw3 hz2_
              have hc7 := hB7.cells; have hf7 := hB7.free; have hl7 := hB7.lt
              go_upto_region 31 with fail
              refine gen_world (R := fun wx => Box wx w.heap.size #[.int .i64 x.k, .int .i64 x.n, .string x.s, .slice ka x.keys.length kc, .slice la x.l.length lc] 25 ∧ Box wx (w.heap.size + 2) #[.int .i64 0, .int .i64 0, .string ⟨#[]⟩, .slice none 0 0, .slice none 0 0] 25 ∧ Box wx w3.heap.size #[.int .i64 s.k, .int .i64 s.n, .string s.s, .slice ka8 s.keys.length kc8, .slice la8 s.l.length lc8] 25 ∧ Ext w wx ∧ Held (fun b => b ≠ w3.heap.size) w4 wx) ⟨Bxt, Bxt, Bxt, Xt, Hxt⟩ ?_
              clear hB0 hB1 hB2 hB6 hB7 hc7 hf7 hl7 hx_w4 Hin6 Hin7
              rintro wf ⟨hB0, hB2, hB7, hx_f, hhf⟩
              have hc0 := hB0.cells; have hf0 := hB0.free; have hl0 := hB0.lt
              have hc2 := hB2.cells; have hf2 := hB2.free; have hl2 := hB2.lt
              go_wp2_with fail
              (with_reducible apply bp_ret); (focus (go_light; simp [results, Tryz.results43, go_sem, *]; rfl))
              rw [Hr5.out]
              exact ⟨ka, kc, la, lc, rfl, Hin.out.keep (Held.kept (Held.mono (a := w) (S := fun b => b ≠ w.heap.size + 2) Hxt HS5.out)) (fun b hb _ => HS4.out b hb), Xt⟩
          · have h2b : (e2 == 0) = false := by simpa using h2
            have h2c : (e2 != 0) = true := by simpa using h2
            have Hr4 := Lib.hid (show oneV x ⟨k, p, f, y⟩ = (x, e2) by rw [Hr3.out, if_pos (by simpa using h2)])
            clear h2
            go_enter Tryz.func43, Tryz.ntmps43
            go_upto_region 1 with fail
            refine gen_world (R := fun wx => Box wx w.heap.size #[.int .i64 x.k, .int .i64 x.n, .string x.s, .slice ka x.keys.length kc, .slice la x.l.length lc] 25 ∧ Box wx (w.heap.size + 1) #[.int .i64 k, .string p, .string f, .int .i64 y.k, .int .i64 y.n, .string y.s, .slice kb y.keys.length kd, .slice lb y.l.length ld] 49 ∧ Box wx (w.heap.size + 2) #[.int .i64 0, .int .i64 0, .string ⟨#[]⟩, .slice none 0 0, .slice none 0 0] 25 ∧ Ext w wx) ⟨Bxt, Bxt, Bxt, Xt⟩ ?_
            rintro wa ⟨hB0, hB1, hB2, hxa⟩
            have hc0 := hB0.cells; have hf0 := hB0.free; have hl0 := hB0.lt
            have hc1 := hB1.cells; have hf1 := hB1.free; have hl1 := hB1.lt
            have hz2_ := hB2.lt
            go_wp2_with fail
            (refine (getAt_any x ka kc la lc SS f _ (by omega) (Hin.out.ext Xt) (by omega)).mono ?_)
            rw [Hg.out]
            rintro e w1 ⟨ka6, kc6, la6, lc6, rfl, hin_, h_w1⟩
            have hB0 := Box.ext h_w1 hB0
            have hB1 := Box.ext h_w1 hB1
            have hB2 := Box.ext h_w1 hB2
            have hx_w1 := hxa.trans h_w1
            clear hc0 hf0 hl0 hc1 hf1 hl1
            have Hin6 := Lib.hid (hin_.mono (T := SS) fun b h hlt_ => h.elim id (fun h => HS2.out b (by (try simp at h); omega)))
            clear hin_ h_w1 hxa hz2_
            go_upto_region 18 with fail
            refine gen_world (R := fun wx => Box wx w.heap.size #[.int .i64 x.k, .int .i64 x.n, .string x.s, .slice ka x.keys.length kc, .slice la x.l.length lc] 25 ∧ Box wx (w.heap.size + 1) #[.int .i64 k, .string p, .string f, .int .i64 y.k, .int .i64 y.n, .string y.s, .slice kb y.keys.length kd, .slice lb y.l.length ld] 49 ∧ Box wx (w.heap.size + 2) #[.int .i64 0, .int .i64 0, .string ⟨#[]⟩, .slice none 0 0, .slice none 0 0] 25 ∧ Box wx w1.heap.size #[.int .i64 u.k, .int .i64 u.n, .string u.s, .slice ka6 u.keys.length kc6, .slice la6 u.l.length lc6] 25 ∧ u.In wx SS ka6 kc6 la6 lc6 ∧ Ext w wx) ⟨Bxt, Bxt, Bxt, Bxt, Hin6.out.ext Xt, Xt⟩ ?_
            clear hB0 hB1 hB2 Hin6 hx_w1
            rintro wvw1 ⟨hB0, hB1, hB2, hB6, hin6, hx_vw1⟩
            have Hin6 := Lib.hid hin6
            clear hin6
            have hc0 := hB0.cells; have hf0 := hB0.free; have hl0 := hB0.lt
            have hc1 := hB1.cells; have hf1 := hB1.free; have hl1 := hB1.lt
            go_wp2_with fail
            have hpre := begins_any p (f ++ ⟨#[47]⟩ : ByteArray) (by omega) hc2_ wvw1
            refine hpre.mono ?_
            clear hpre
            rintro e w2 ⟨rfl, h_w2⟩
            rw [below_has, Hb.out]
            have hB0 := Box.ext h_w2 hB0
            have hB1 := Box.ext h_w2 hB1
            have hB2 := Box.ext h_w2 hB2
            have hB6 := Box.ext h_w2 hB6
            have Hin6 := Lib.hid (V.In.ext (w' := w2) Hin6.out h_w2)
            have hx_w2 := hx_vw1.trans h_w2
            clear hc0 hf0 hl0 hc1 hf1 hl1 h_w2 hx_vw1
            have hc0 := hB0.cells; have hf0 := hB0.free; have hl0 := hB0.lt
            have hc1 := hB1.cells; have hf1 := hB1.free; have hl1 := hB1.lt
            clear hc0 hf0 hl0 hc1 hf1 hl1
            have hc0 := hB0.cells; have hf0 := hB0.free; have hl0 := hB0.lt
            have hc1 := hB1.cells; have hf1 := hB1.free; have hl1 := hB1.lt
            have hz2_ := hB2.lt
            go_wp2_with fail
            (refine (alterR_any 2 (by decide) x ka kc la lc V.zero none 0 none 0 f SS _ (by omega) (by rw [V.size_eq]; decide) (by omega) (Hin.out.ext Xt) (V.zero_in _ _)).mono ?_)
            rw [show altP 2 x f V.zero = (r, e2) from Hrem.out]
            rintro e w3 ⟨ka7, kc7, la7, lc7, rfl, hin_, h_w3⟩
            have hB0 := Box.ext h_w3 hB0
            have hB1 := Box.ext h_w3 hB1
            have hB2 := Box.ext h_w3 hB2
            have hB6 := Box.ext h_w3 hB6
            have Hin6 := Lib.hid (V.In.ext (w' := w3) Hin6.out h_w3)
            have hx_w3 := hx_w2.trans h_w3
            clear hc0 hf0 hl0 hc1 hf1 hl1
            have Hin7 := Lib.hid (hin_.mono (T := SS) fun b h hlt_ => h.elim id (fun h => HS2.out b (by (try simp at h); omega)))
            clear hin_ h_w3 hx_w2 hz2_
            go_upto_region 29 with fail
            refine gen_world (R := fun wx => Box wx w.heap.size #[.int .i64 x.k, .int .i64 x.n, .string x.s, .slice ka x.keys.length kc, .slice la x.l.length lc] 25 ∧ Box wx (w.heap.size + 1) #[.int .i64 k, .string p, .string f, .int .i64 y.k, .int .i64 y.n, .string y.s, .slice kb y.keys.length kd, .slice lb y.l.length ld] 49 ∧ Box wx (w.heap.size + 2) #[.int .i64 0, .int .i64 0, .string ⟨#[]⟩, .slice none 0 0, .slice none 0 0] 25 ∧ Box wx w1.heap.size #[.int .i64 u.k, .int .i64 u.n, .string u.s, .slice ka6 u.keys.length kc6, .slice la6 u.l.length lc6] 25 ∧ Box wx w3.heap.size #[.int .i64 r.k, .int .i64 r.n, .string r.s, .slice ka7 r.keys.length kc7, .slice la7 r.l.length lc7] 25 ∧ u.In wx SS ka6 kc6 la6 lc6 ∧ r.In wx SS ka7 kc7 la7 lc7 ∧ Ext w wx) ⟨Bxt, Bxt, Bxt, Bxt, Bxt, Hin6.out.ext Xt, Hin7.out.ext Xt, Xt⟩ ?_
            clear hB0 hB1 hB2 hB6 Hin6 Hin7 hx_w3
            rintro wvw3 ⟨hB0, hB1, hB2, hB6, hB7, hin6, hin7, hx_vw3⟩
            have Hin6 := Lib.hid hin6
            clear hin6
            have Hin7 := Lib.hid hin7
            clear hin7
            have hc0 := hB0.cells; have hf0 := hB0.free; have hl0 := hB0.lt
            have hc2 := hB2.cells; have hf2 := hB2.free; have hl2 := hB2.lt
            go_wp2_with fail
            (with_reducible apply bp_ret); (focus (go_light; simp [results, Tryz.results43, go_sem, *]; rfl))
            rw [Hr4.out]
            exact ⟨ka, kc, la, lc, rfl, Hin.out.keep (Held.kept (Held.mono (a := w) (S := fun b => b ≠ w.heap.size + 2) Hxt HS5.out)) (fun b hb _ => HS4.out b hb), Xt⟩
    · have h0b : (er != 0) = true := by simpa using h0
      have Hr2 := Lib.hid (show oneV x ⟨k, p, f, y⟩ = (x, er) by rw [Hr.out, if_pos (by simpa using h0)])
      clear h0
      go_enter Tryz.func43, Tryz.ntmps43
      go_upto_region 1 with fail
      refine gen_world (R := fun wx => Box wx w.heap.size #[.int .i64 x.k, .int .i64 x.n, .string x.s, .slice ka x.keys.length kc, .slice la x.l.length lc] 25 ∧ Box wx (w.heap.size + 1) #[.int .i64 k, .string p, .string f, .int .i64 y.k, .int .i64 y.n, .string y.s, .slice kb y.keys.length kd, .slice lb y.l.length ld] 49 ∧ Box wx (w.heap.size + 2) #[.int .i64 0, .int .i64 0, .string ⟨#[]⟩, .slice none 0 0, .slice none 0 0] 25 ∧ Ext w wx) ⟨Bxt, Bxt, Bxt, Xt⟩ ?_
      rintro wa ⟨hB0, hB1, hB2, hxa⟩
      have hc0 := hB0.cells; have hf0 := hB0.free; have hl0 := hB0.lt
      have hc1 := hB1.cells; have hf1 := hB1.free; have hl1 := hB1.lt
      have hz2_ := hB2.lt
      go_wp2_with fail
      (refine (getAt_any x ka kc la lc SS f _ (by omega) (Hin.out.ext Xt) (by omega)).mono ?_)
      rw [Hg.out]
      rintro e w1 ⟨ka6, kc6, la6, lc6, rfl, hin_, h_w1⟩
      have hB0 := Box.ext h_w1 hB0
      have hB1 := Box.ext h_w1 hB1
      have hB2 := Box.ext h_w1 hB2
      have hx_w1 := hxa.trans h_w1
      clear hc0 hf0 hl0 hc1 hf1 hl1
      have Hin6 := Lib.hid (hin_.mono (T := SS) fun b h hlt_ => h.elim id (fun h => HS2.out b (by (try simp at h); omega)))
      clear hin_ h_w1 hxa hz2_
      go_upto_region 16 with fail
      refine gen_world (R := fun wx => Box wx w.heap.size #[.int .i64 x.k, .int .i64 x.n, .string x.s, .slice ka x.keys.length kc, .slice la x.l.length lc] 25 ∧ Box wx (w.heap.size + 1) #[.int .i64 k, .string p, .string f, .int .i64 y.k, .int .i64 y.n, .string y.s, .slice kb y.keys.length kd, .slice lb y.l.length ld] 49 ∧ Box wx (w.heap.size + 2) #[.int .i64 0, .int .i64 0, .string ⟨#[]⟩, .slice none 0 0, .slice none 0 0] 25 ∧ Box wx w1.heap.size #[.int .i64 u.k, .int .i64 u.n, .string u.s, .slice ka6 u.keys.length kc6, .slice la6 u.l.length lc6] 25 ∧ u.In wx SS ka6 kc6 la6 lc6 ∧ Ext w wx) ⟨Bxt, Bxt, Bxt, Bxt, Hin6.out.ext Xt, Xt⟩ ?_
      clear hB0 hB1 hB2 Hin6 hx_w1
      rintro wvw1 ⟨hB0, hB1, hB2, hB6, hin6, hx_vw1⟩
      have Hin6 := Lib.hid hin6
      clear hin6
      have hc0 := hB0.cells; have hf0 := hB0.free; have hl0 := hB0.lt
      have hc2 := hB2.cells; have hf2 := hB2.free; have hl2 := hB2.lt
      go_wp2_with fail
      (with_reducible apply bp_ret); (focus (go_light; simp [results, Tryz.results43, go_sem, *]; rfl))
      rw [Hr2.out]
      exact ⟨ka, kc, la, lc, rfl, Hin.out.keep (Held.kept (Held.mono (a := w) (S := fun b => b ≠ w.heap.size + 2) Hxt HS5.out)) (fun b hb _ => HS4.out b hb), Xt⟩
end Go.Proofs.YtnbappeiebameaaGreatDoor

/- The walk of stairwellref.DoOp: to copy. -/
namespace Go.Proofs.YtnbappeiebameaaGreatDoor
open Go.RowKit
attribute [local go_sem ↓] Go.wp_at_zero Go.wp_at_succ


set_option maxRecDepth 100000 in
set_option maxHeartbeats 8000000 in
theorem do_k5 (x : V) (ka : Option Addr) (kc : Nat) (la : Option Addr) (lc : Nat) (k : Int) (p f : ByteArray) (y : V) (kb : Option Addr) (kd : Nat) (lb : Option Addr) (ld : Nat) (w : World) (hl : LibAt w) (hsx : x.size ≤ 4194304) (hsy : y.size ≤ 4194304) (hp : p.size ≤ 4194304) (hf : f.size ≤ 4194304) (S : Nat → Prop) (hin : x.In w S ka kc la lc) (hjn : y.In w S kb kd lb ld) (hk : k = 5) :
    Calls Tryz.prog 43 #[x.val ka kc la lc, .agg #[.int .i64 k, .string p, .string f, .int .i64 y.k, .int .i64 y.n, .string y.s, .slice kb y.keys.length kd, .slice lb y.l.length ld]] w (RetV2 S (oneV x ⟨k, p, f, y⟩).1 (.int .i64 (oneV x ⟨k, p, f, y⟩).2) w) := by
  obtain ⟨SS, hSS⟩ : ∃ SS : Nat → Prop, SS = fun b => (S b ∧ b < w.heap.size) ∨ w.heap.size + 3 ≤ b := ⟨_, rfl⟩
  have Hin := Lib.hid (show x.In w SS ka kc la lc from hin.mono fun b h hl => by rw [hSS]; exact .inl ⟨h, hl⟩)
  have Hjn := Lib.hid (show y.In w SS kb kd lb ld from hjn.mono fun b h hl => by rw [hSS]; exact .inl ⟨h, hl⟩)
  have HS2 := Lib.hid (show ∀ b, w.heap.size + 3 ≤ b → SS b from fun b h => by rw [hSS]; exact .inr h)
  have HS5 := Lib.hid (show ∀ b, SS b → b ≠ w.heap.size + 2 from fun b h => by rw [hSS] at h; rcases h with h | h <;> omega)
  have HS4 := Lib.hid (show ∀ b, SS b → Plus S w b from fun b h => by rw [hSS] at h; exact h.elim (fun h => .inl h.1) (fun h => .inr (by omega)))
  clear hSS
  have hgs := getP_size x p
  have hgf := getP_size x f
  clear hin hjn
  · have b1 : (k == 1) = false := by simpa using (by omega : k ≠ 1)
    have b2 : (k == 2) = false := by simpa using (by omega : k ≠ 2)
    have b3 : (k == 3) = false := by simpa using (by omega : k ≠ 3)
    have b4 : (k == 4) = false := by simpa using (by omega : k ≠ 4)
    have b5 : (k == 5) = true := by simpa using hk
    have b6 : (k == 6) = false := by simpa using (by omega : k ≠ 6)
    have Hr := Lib.hid (show oneV x ⟨k, p, f, y⟩ = if (getP x f).2 ≠ 0 then (x, (getP x f).2) else addP x p (getP x f).1 by unfold oneV; simp [hk])
    obtain ⟨u, hu⟩ : ∃ u, (getP x f).1 = u := ⟨_, rfl⟩
    obtain ⟨er, her⟩ : ∃ er, (getP x f).2 = er := ⟨_, rfl⟩
    rw [hu] at hgf
    have Hg := Lib.hid (show getP x f = (u, er) from Prod.ext hu her)
    have Hr := Lib.hid (show oneV x ⟨k, p, f, y⟩ = if er ≠ 0 then (x, er) else addP x p u by have := Hr.out; rw [hu, her] at this; exact this)
    clear hk hu her
    by_cases h0 : er = 0
    · have h0b : (er != 0) = false := by simpa using h0
      obtain ⟨r, hr⟩ : ∃ r, addP x p u = r := ⟨_, rfl⟩
      have Hrr := Lib.hid hr
      have Hr2 := Lib.hid (show oneV x ⟨k, p, f, y⟩ = r by rw [Hr.out, if_neg (by simp [h0]), hr])
      clear h0 hr
      go_enter Tryz.func43, Tryz.ntmps43
      go_upto_region 1 with fail
      refine gen_world (R := fun wx => Box wx w.heap.size #[.int .i64 x.k, .int .i64 x.n, .string x.s, .slice ka x.keys.length kc, .slice la x.l.length lc] 25 ∧ Box wx (w.heap.size + 1) #[.int .i64 k, .string p, .string f, .int .i64 y.k, .int .i64 y.n, .string y.s, .slice kb y.keys.length kd, .slice lb y.l.length ld] 49 ∧ Box wx (w.heap.size + 2) #[.int .i64 0, .int .i64 0, .string ⟨#[]⟩, .slice none 0 0, .slice none 0 0] 25 ∧ Ext w wx) ⟨Bxt, Bxt, Bxt, Xt⟩ ?_
      rintro wa ⟨hB0, hB1, hB2, hxa⟩
      have hc0 := hB0.cells; have hf0 := hB0.free; have hl0 := hB0.lt
      have hc1 := hB1.cells; have hf1 := hB1.free; have hl1 := hB1.lt
      have hz2_ := hB2.lt
      go_wp2_with fail
      (refine (getAt_any x ka kc la lc SS f _ (by omega) (Hin.out.ext Xt) (by omega)).mono ?_)
      rw [Hg.out]
      rintro e w1 ⟨ka6, kc6, la6, lc6, rfl, hin_, h_w1⟩
      have hB0 := Box.ext h_w1 hB0
      have hB1 := Box.ext h_w1 hB1
      have hB2 := Box.ext h_w1 hB2
      have hx_w1 := hxa.trans h_w1
      clear hc0 hf0 hl0 hc1 hf1 hl1
      have Hin6 := Lib.hid (hin_.mono (T := SS) fun b h hlt_ => h.elim id (fun h => HS2.out b (by (try simp at h); omega)))
      clear hin_ h_w1 hxa hz2_
      go_upto_region 18 with fail
      refine gen_world (R := fun wx => Box wx w.heap.size #[.int .i64 x.k, .int .i64 x.n, .string x.s, .slice ka x.keys.length kc, .slice la x.l.length lc] 25 ∧ Box wx (w.heap.size + 1) #[.int .i64 k, .string p, .string f, .int .i64 y.k, .int .i64 y.n, .string y.s, .slice kb y.keys.length kd, .slice lb y.l.length ld] 49 ∧ Box wx (w.heap.size + 2) #[.int .i64 0, .int .i64 0, .string ⟨#[]⟩, .slice none 0 0, .slice none 0 0] 25 ∧ Box wx w1.heap.size #[.int .i64 u.k, .int .i64 u.n, .string u.s, .slice ka6 u.keys.length kc6, .slice la6 u.l.length lc6] 25 ∧ u.In wx SS ka6 kc6 la6 lc6 ∧ Ext w wx) ⟨Bxt, Bxt, Bxt, Bxt, Hin6.out.ext Xt, Xt⟩ ?_
      clear hB0 hB1 hB2 Hin6 hx_w1
      rintro wvw1 ⟨hB0, hB1, hB2, hB6, hin6, hx_vw1⟩
      have Hin6 := Lib.hid hin6
      clear hin6
      have hc0 := hB0.cells; have hf0 := hB0.free; have hl0 := hB0.lt
      have hc1 := hB1.cells; have hf1 := hB1.free; have hl1 := hB1.lt
      have hc6 := hB6.cells; have hf6 := hB6.free; have hl6 := hB6.lt
      have hz2_ := hB2.lt
      go_wp2_with fail
      (refine (alterR_any 1 (by decide) x ka kc la lc u ka6 kc6 la6 lc6 p SS _ (by omega) (by omega) (by omega) (Hin.out.ext Xt) (Hin6.out.ext Xt)).mono ?_)
      rw [show altP 1 x p u = r from Hrr.out]
      rintro e w2 ⟨ka7, kc7, la7, lc7, rfl, hin_, h_w2⟩
      have hB0 := Box.ext h_w2 hB0
      have hB1 := Box.ext h_w2 hB1
      have hB2 := Box.ext h_w2 hB2
      have hB6 := Box.ext h_w2 hB6
      have Hin6 := Lib.hid (V.In.ext (w' := w2) Hin6.out h_w2)
      have hx_w2 := hx_vw1.trans h_w2
      clear hc0 hf0 hl0 hc1 hf1 hl1 hc6 hf6 hl6
      have Hin7 := Lib.hid (hin_.mono (T := SS) fun b h hlt_ => h.elim id (fun h => HS2.out b (by (try simp at h); omega)))
      clear hin_ h_w2 hx_vw1 hz2_
      have hc2 := hB2.cells; have hf2 := hB2.free; have hl2 := hB2.lt
      go_wp2_with fail
      (with_reducible apply bp_ret); (focus (go_light; simp [results, Tryz.results43, go_sem, *]; rfl))
      rw [Hr2.out]
      exact ⟨ka7, kc7, la7, lc7, rfl, Hin7.out.keep (Held.kept (Held.mono (a := w2) (S := fun b => b ≠ w.heap.size + 2) Hxt HS5.out)) (fun b hb _ => HS4.out b hb), Xt⟩
    · have h0b : (er != 0) = true := by simpa using h0
      have Hr2 := Lib.hid (show oneV x ⟨k, p, f, y⟩ = (x, er) by rw [Hr.out, if_pos (by simpa using h0)])
      clear h0
      go_enter Tryz.func43, Tryz.ntmps43
      go_upto_region 1 with fail
      refine gen_world (R := fun wx => Box wx w.heap.size #[.int .i64 x.k, .int .i64 x.n, .string x.s, .slice ka x.keys.length kc, .slice la x.l.length lc] 25 ∧ Box wx (w.heap.size + 1) #[.int .i64 k, .string p, .string f, .int .i64 y.k, .int .i64 y.n, .string y.s, .slice kb y.keys.length kd, .slice lb y.l.length ld] 49 ∧ Box wx (w.heap.size + 2) #[.int .i64 0, .int .i64 0, .string ⟨#[]⟩, .slice none 0 0, .slice none 0 0] 25 ∧ Ext w wx) ⟨Bxt, Bxt, Bxt, Xt⟩ ?_
      rintro wa ⟨hB0, hB1, hB2, hxa⟩
      have hc0 := hB0.cells; have hf0 := hB0.free; have hl0 := hB0.lt
      have hc1 := hB1.cells; have hf1 := hB1.free; have hl1 := hB1.lt
      have hz2_ := hB2.lt
      go_wp2_with fail
      (refine (getAt_any x ka kc la lc SS f _ (by omega) (Hin.out.ext Xt) (by omega)).mono ?_)
      rw [Hg.out]
      rintro e w1 ⟨ka6, kc6, la6, lc6, rfl, hin_, h_w1⟩
      have hB0 := Box.ext h_w1 hB0
      have hB1 := Box.ext h_w1 hB1
      have hB2 := Box.ext h_w1 hB2
      have hx_w1 := hxa.trans h_w1
      clear hc0 hf0 hl0 hc1 hf1 hl1
      have Hin6 := Lib.hid (hin_.mono (T := SS) fun b h hlt_ => h.elim id (fun h => HS2.out b (by (try simp at h); omega)))
      clear hin_ h_w1 hxa hz2_
      go_upto_region 16 with fail
      refine gen_world (R := fun wx => Box wx w.heap.size #[.int .i64 x.k, .int .i64 x.n, .string x.s, .slice ka x.keys.length kc, .slice la x.l.length lc] 25 ∧ Box wx (w.heap.size + 1) #[.int .i64 k, .string p, .string f, .int .i64 y.k, .int .i64 y.n, .string y.s, .slice kb y.keys.length kd, .slice lb y.l.length ld] 49 ∧ Box wx (w.heap.size + 2) #[.int .i64 0, .int .i64 0, .string ⟨#[]⟩, .slice none 0 0, .slice none 0 0] 25 ∧ Box wx w1.heap.size #[.int .i64 u.k, .int .i64 u.n, .string u.s, .slice ka6 u.keys.length kc6, .slice la6 u.l.length lc6] 25 ∧ u.In wx SS ka6 kc6 la6 lc6 ∧ Ext w wx) ⟨Bxt, Bxt, Bxt, Bxt, Hin6.out.ext Xt, Xt⟩ ?_
      clear hB0 hB1 hB2 Hin6 hx_w1
      rintro wvw1 ⟨hB0, hB1, hB2, hB6, hin6, hx_vw1⟩
      have Hin6 := Lib.hid hin6
      clear hin6
      have hc0 := hB0.cells; have hf0 := hB0.free; have hl0 := hB0.lt
      have hc2 := hB2.cells; have hf2 := hB2.free; have hl2 := hB2.lt
      go_wp2_with fail
      (with_reducible apply bp_ret); (focus (go_light; simp [results, Tryz.results43, go_sem, *]; rfl))
      rw [Hr2.out]
      exact ⟨ka, kc, la, lc, rfl, Hin.out.keep (Held.kept (Held.mono (a := w) (S := fun b => b ≠ w.heap.size + 2) Hxt HS5.out)) (fun b hb _ => HS4.out b hb), Xt⟩
end Go.Proofs.YtnbappeiebameaaGreatDoor

/- The walk of stairwellref.DoOp: to test. -/
namespace Go.Proofs.YtnbappeiebameaaGreatDoor
open Go.RowKit
attribute [local go_sem ↓] Go.wp_at_zero Go.wp_at_succ


set_option maxRecDepth 100000 in
set_option maxHeartbeats 8000000 in
theorem do_k6 (x : V) (ka : Option Addr) (kc : Nat) (la : Option Addr) (lc : Nat) (k : Int) (p f : ByteArray) (y : V) (kb : Option Addr) (kd : Nat) (lb : Option Addr) (ld : Nat) (w : World) (hl : LibAt w) (hsx : x.size ≤ 4194304) (hsy : y.size ≤ 4194304) (hp : p.size ≤ 4194304) (hf : f.size ≤ 4194304) (S : Nat → Prop) (hin : x.In w S ka kc la lc) (hjn : y.In w S kb kd lb ld) (hk : k = 6) :
    Calls Tryz.prog 43 #[x.val ka kc la lc, .agg #[.int .i64 k, .string p, .string f, .int .i64 y.k, .int .i64 y.n, .string y.s, .slice kb y.keys.length kd, .slice lb y.l.length ld]] w (RetV2 S (oneV x ⟨k, p, f, y⟩).1 (.int .i64 (oneV x ⟨k, p, f, y⟩).2) w) := by
  obtain ⟨SS, hSS⟩ : ∃ SS : Nat → Prop, SS = fun b => (S b ∧ b < w.heap.size) ∨ w.heap.size + 3 ≤ b := ⟨_, rfl⟩
  have Hin := Lib.hid (show x.In w SS ka kc la lc from hin.mono fun b h hl => by rw [hSS]; exact .inl ⟨h, hl⟩)
  have Hjn := Lib.hid (show y.In w SS kb kd lb ld from hjn.mono fun b h hl => by rw [hSS]; exact .inl ⟨h, hl⟩)
  have HS2 := Lib.hid (show ∀ b, w.heap.size + 3 ≤ b → SS b from fun b h => by rw [hSS]; exact .inr h)
  have HS5 := Lib.hid (show ∀ b, SS b → b ≠ w.heap.size + 2 from fun b h => by rw [hSS] at h; rcases h with h | h <;> omega)
  have HS4 := Lib.hid (show ∀ b, SS b → Plus S w b from fun b h => by rw [hSS] at h; exact h.elim (fun h => .inl h.1) (fun h => .inr (by omega)))
  clear hSS
  have hgs := getP_size x p
  have hgf := getP_size x f
  clear hin hjn
  · have b1 : (k == 1) = false := by simpa using (by omega : k ≠ 1)
    have b2 : (k == 2) = false := by simpa using (by omega : k ≠ 2)
    have b3 : (k == 3) = false := by simpa using (by omega : k ≠ 3)
    have b4 : (k == 4) = false := by simpa using (by omega : k ≠ 4)
    have b5 : (k == 5) = false := by simpa using (by omega : k ≠ 5)
    have b6 : (k == 6) = true := by simpa using hk
    have Hr := Lib.hid (show oneV x ⟨k, p, f, y⟩ = if (getP x p).2 ≠ 0 then (x, (getP x p).2) else if (getP x p).1.same y = true then (x, 0) else (x, 4) by unfold oneV; simp [hk])
    obtain ⟨u, hu⟩ : ∃ u, (getP x p).1 = u := ⟨_, rfl⟩
    obtain ⟨er, her⟩ : ∃ er, (getP x p).2 = er := ⟨_, rfl⟩
    rw [hu] at hgs
    have Hg := Lib.hid (show getP x p = (u, er) from Prod.ext hu her)
    have Hr := Lib.hid (show oneV x ⟨k, p, f, y⟩ = if er ≠ 0 then (x, er) else if u.same y = true then (x, 0) else (x, 4) by have := Hr.out; rw [hu, her] at this; exact this)
    clear hk hu her
    by_cases h0 : er = 0
    · have h0b : (er != 0) = false := by simpa using h0
      have Hr2 := Lib.hid (show oneV x ⟨k, p, f, y⟩ = if u.same y = true then (x, 0) else (x, 4) by rw [Hr.out, if_neg (by simp [h0])])
      clear h0
      cases hs : u.same y with
      | true =>
        have Hs := Lib.hid hs
        have Hr3 := Lib.hid (show oneV x ⟨k, p, f, y⟩ = (x, 0) by rw [Hr2.out, if_pos hs])
        clear hs
        go_enter Tryz.func43, Tryz.ntmps43
        go_upto_region 1 with fail
        refine gen_world (R := fun wx => Box wx w.heap.size #[.int .i64 x.k, .int .i64 x.n, .string x.s, .slice ka x.keys.length kc, .slice la x.l.length lc] 25 ∧ Box wx (w.heap.size + 1) #[.int .i64 k, .string p, .string f, .int .i64 y.k, .int .i64 y.n, .string y.s, .slice kb y.keys.length kd, .slice lb y.l.length ld] 49 ∧ Box wx (w.heap.size + 2) #[.int .i64 0, .int .i64 0, .string ⟨#[]⟩, .slice none 0 0, .slice none 0 0] 25 ∧ Ext w wx) ⟨Bxt, Bxt, Bxt, Xt⟩ ?_
        rintro wa ⟨hB0, hB1, hB2, hxa⟩
        have hc1 := hB1.cells; have hf1 := hB1.free; have hl1 := hB1.lt
        have hc0 := hB0.cells; have hf0 := hB0.free; have hl0 := hB0.lt
        have hz2_ := hB2.lt
        go_wp2_with fail
        (refine (getAt_any x ka kc la lc SS p _ (by omega) (Hin.out.ext Xt) (by omega)).mono ?_)
        rw [Hg.out]
        rintro e w1 ⟨ka6, kc6, la6, lc6, rfl, hin_, h_w1⟩
        have hB0 := Box.ext h_w1 hB0
        have hB1 := Box.ext h_w1 hB1
        have hB2 := Box.ext h_w1 hB2
        have hx_w1 := hxa.trans h_w1
        clear hc1 hf1 hl1 hc0 hf0 hl0
        have Hin6 := Lib.hid (hin_.mono (T := SS) fun b h hlt_ => h.elim id (fun h => HS2.out b (by (try simp at h); omega)))
        clear hin_ h_w1 hxa hz2_
        go_upto_region 16 with fail
        refine gen_world (R := fun wx => Box wx w.heap.size #[.int .i64 x.k, .int .i64 x.n, .string x.s, .slice ka x.keys.length kc, .slice la x.l.length lc] 25 ∧ Box wx (w.heap.size + 1) #[.int .i64 k, .string p, .string f, .int .i64 y.k, .int .i64 y.n, .string y.s, .slice kb y.keys.length kd, .slice lb y.l.length ld] 49 ∧ Box wx (w.heap.size + 2) #[.int .i64 0, .int .i64 0, .string ⟨#[]⟩, .slice none 0 0, .slice none 0 0] 25 ∧ Box wx w1.heap.size #[.int .i64 u.k, .int .i64 u.n, .string u.s, .slice ka6 u.keys.length kc6, .slice la6 u.l.length lc6] 25 ∧ u.In wx SS ka6 kc6 la6 lc6 ∧ Ext w wx) ⟨Bxt, Bxt, Bxt, Bxt, Hin6.out.ext Xt, Xt⟩ ?_
        clear hB0 hB1 hB2 Hin6 hx_w1
        rintro wvw1 ⟨hB0, hB1, hB2, hB6, hin6, hx_vw1⟩
        have Hin6 := Lib.hid hin6
        clear hin6
        have hc1 := hB1.cells; have hf1 := hB1.free; have hl1 := hB1.lt
        have hc6 := hB6.cells; have hf6 := hB6.free; have hl6 := hB6.lt
        have hz2_ := hB2.lt
        go_wp2_with fail
        (refine (sameR_any u y ka6 kc6 la6 lc6 SS kb kd lb ld SS _ (by omega) (by omega) (Hin6.out.ext Xt) (Hjn.out.ext Xt)).mono ?_)
        rintro e w2 ⟨rfl, h_w2⟩
        have hB0 := Box.ext h_w2 hB0
        have hB1 := Box.ext h_w2 hB1
        have hB2 := Box.ext h_w2 hB2
        have hB6 := Box.ext h_w2 hB6
        have Hin6 := Lib.hid (V.In.ext (w' := w2) Hin6.out h_w2)
        have hx_w2 := hx_vw1.trans h_w2
        clear hc1 hf1 hl1 hc6 hf6 hl6
        rw [Hs.out]
        clear h_w2 hx_vw1 hz2_
        have hc0 := hB0.cells; have hf0 := hB0.free; have hl0 := hB0.lt
        have hc2 := hB2.cells; have hf2 := hB2.free; have hl2 := hB2.lt
        go_wp2_with fail
        (with_reducible apply bp_ret); (focus (go_light; simp [results, Tryz.results43, go_sem, *]; rfl))
        rw [Hr3.out]
        exact ⟨ka, kc, la, lc, rfl, Hin.out.keep (Held.kept (Held.mono (a := w) (S := fun b => b ≠ w.heap.size + 2) Hxt HS5.out)) (fun b hb _ => HS4.out b hb), Xt⟩
      | false =>
        have Hs := Lib.hid hs
        have Hr3 := Lib.hid (show oneV x ⟨k, p, f, y⟩ = (x, 4) by rw [Hr2.out, if_neg (by rw [hs]; decide)])
        clear hs
        go_enter Tryz.func43, Tryz.ntmps43
        go_upto_region 1 with fail
        refine gen_world (R := fun wx => Box wx w.heap.size #[.int .i64 x.k, .int .i64 x.n, .string x.s, .slice ka x.keys.length kc, .slice la x.l.length lc] 25 ∧ Box wx (w.heap.size + 1) #[.int .i64 k, .string p, .string f, .int .i64 y.k, .int .i64 y.n, .string y.s, .slice kb y.keys.length kd, .slice lb y.l.length ld] 49 ∧ Box wx (w.heap.size + 2) #[.int .i64 0, .int .i64 0, .string ⟨#[]⟩, .slice none 0 0, .slice none 0 0] 25 ∧ Ext w wx) ⟨Bxt, Bxt, Bxt, Xt⟩ ?_
        rintro wa ⟨hB0, hB1, hB2, hxa⟩
        have hc1 := hB1.cells; have hf1 := hB1.free; have hl1 := hB1.lt
        have hc0 := hB0.cells; have hf0 := hB0.free; have hl0 := hB0.lt
        have hz2_ := hB2.lt
        go_wp2_with fail
        (refine (getAt_any x ka kc la lc SS p _ (by omega) (Hin.out.ext Xt) (by omega)).mono ?_)
        rw [Hg.out]
        rintro e w1 ⟨ka6, kc6, la6, lc6, rfl, hin_, h_w1⟩
        have hB0 := Box.ext h_w1 hB0
        have hB1 := Box.ext h_w1 hB1
        have hB2 := Box.ext h_w1 hB2
        have hx_w1 := hxa.trans h_w1
        clear hc1 hf1 hl1 hc0 hf0 hl0
        have Hin6 := Lib.hid (hin_.mono (T := SS) fun b h hlt_ => h.elim id (fun h => HS2.out b (by (try simp at h); omega)))
        clear hin_ h_w1 hxa hz2_
        go_upto_region 16 with fail
        refine gen_world (R := fun wx => Box wx w.heap.size #[.int .i64 x.k, .int .i64 x.n, .string x.s, .slice ka x.keys.length kc, .slice la x.l.length lc] 25 ∧ Box wx (w.heap.size + 1) #[.int .i64 k, .string p, .string f, .int .i64 y.k, .int .i64 y.n, .string y.s, .slice kb y.keys.length kd, .slice lb y.l.length ld] 49 ∧ Box wx (w.heap.size + 2) #[.int .i64 0, .int .i64 0, .string ⟨#[]⟩, .slice none 0 0, .slice none 0 0] 25 ∧ Box wx w1.heap.size #[.int .i64 u.k, .int .i64 u.n, .string u.s, .slice ka6 u.keys.length kc6, .slice la6 u.l.length lc6] 25 ∧ u.In wx SS ka6 kc6 la6 lc6 ∧ Ext w wx) ⟨Bxt, Bxt, Bxt, Bxt, Hin6.out.ext Xt, Xt⟩ ?_
        clear hB0 hB1 hB2 Hin6 hx_w1
        rintro wvw1 ⟨hB0, hB1, hB2, hB6, hin6, hx_vw1⟩
        have Hin6 := Lib.hid hin6
        clear hin6
        have hc1 := hB1.cells; have hf1 := hB1.free; have hl1 := hB1.lt
        have hc6 := hB6.cells; have hf6 := hB6.free; have hl6 := hB6.lt
        have hz2_ := hB2.lt
        go_wp2_with fail
        (refine (sameR_any u y ka6 kc6 la6 lc6 SS kb kd lb ld SS _ (by omega) (by omega) (Hin6.out.ext Xt) (Hjn.out.ext Xt)).mono ?_)
        rintro e w2 ⟨rfl, h_w2⟩
        have hB0 := Box.ext h_w2 hB0
        have hB1 := Box.ext h_w2 hB1
        have hB2 := Box.ext h_w2 hB2
        have hB6 := Box.ext h_w2 hB6
        have Hin6 := Lib.hid (V.In.ext (w' := w2) Hin6.out h_w2)
        have hx_w2 := hx_vw1.trans h_w2
        clear hc1 hf1 hl1 hc6 hf6 hl6
        rw [Hs.out]
        clear h_w2 hx_vw1 hz2_
        have hc0 := hB0.cells; have hf0 := hB0.free; have hl0 := hB0.lt
        have hc2 := hB2.cells; have hf2 := hB2.free; have hl2 := hB2.lt
        go_wp2_with fail
        (with_reducible apply bp_ret); (focus (go_light; simp [results, Tryz.results43, go_sem, *]; rfl))
        rw [Hr3.out]
        exact ⟨ka, kc, la, lc, rfl, Hin.out.keep (Held.kept (Held.mono (a := w) (S := fun b => b ≠ w.heap.size + 2) Hxt HS5.out)) (fun b hb _ => HS4.out b hb), Xt⟩
    · have h0b : (er != 0) = true := by simpa using h0
      have Hr2 := Lib.hid (show oneV x ⟨k, p, f, y⟩ = (x, er) by rw [Hr.out, if_pos (by simpa using h0)])
      clear h0
      go_enter Tryz.func43, Tryz.ntmps43
      go_upto_region 1 with fail
      refine gen_world (R := fun wx => Box wx w.heap.size #[.int .i64 x.k, .int .i64 x.n, .string x.s, .slice ka x.keys.length kc, .slice la x.l.length lc] 25 ∧ Box wx (w.heap.size + 1) #[.int .i64 k, .string p, .string f, .int .i64 y.k, .int .i64 y.n, .string y.s, .slice kb y.keys.length kd, .slice lb y.l.length ld] 49 ∧ Box wx (w.heap.size + 2) #[.int .i64 0, .int .i64 0, .string ⟨#[]⟩, .slice none 0 0, .slice none 0 0] 25 ∧ Ext w wx) ⟨Bxt, Bxt, Bxt, Xt⟩ ?_
      rintro wa ⟨hB0, hB1, hB2, hxa⟩
      have hc1 := hB1.cells; have hf1 := hB1.free; have hl1 := hB1.lt
      have hc0 := hB0.cells; have hf0 := hB0.free; have hl0 := hB0.lt
      have hz2_ := hB2.lt
      go_wp2_with fail
      (refine (getAt_any x ka kc la lc SS p _ (by omega) (Hin.out.ext Xt) (by omega)).mono ?_)
      rw [Hg.out]
      rintro e w1 ⟨ka6, kc6, la6, lc6, rfl, hin_, h_w1⟩
      have hB0 := Box.ext h_w1 hB0
      have hB1 := Box.ext h_w1 hB1
      have hB2 := Box.ext h_w1 hB2
      have hx_w1 := hxa.trans h_w1
      clear hc1 hf1 hl1 hc0 hf0 hl0
      have Hin6 := Lib.hid (hin_.mono (T := SS) fun b h hlt_ => h.elim id (fun h => HS2.out b (by (try simp at h); omega)))
      clear hin_ h_w1 hxa hz2_
      go_upto_region 16 with fail
      refine gen_world (R := fun wx => Box wx w.heap.size #[.int .i64 x.k, .int .i64 x.n, .string x.s, .slice ka x.keys.length kc, .slice la x.l.length lc] 25 ∧ Box wx (w.heap.size + 1) #[.int .i64 k, .string p, .string f, .int .i64 y.k, .int .i64 y.n, .string y.s, .slice kb y.keys.length kd, .slice lb y.l.length ld] 49 ∧ Box wx (w.heap.size + 2) #[.int .i64 0, .int .i64 0, .string ⟨#[]⟩, .slice none 0 0, .slice none 0 0] 25 ∧ Box wx w1.heap.size #[.int .i64 u.k, .int .i64 u.n, .string u.s, .slice ka6 u.keys.length kc6, .slice la6 u.l.length lc6] 25 ∧ u.In wx SS ka6 kc6 la6 lc6 ∧ Ext w wx) ⟨Bxt, Bxt, Bxt, Bxt, Hin6.out.ext Xt, Xt⟩ ?_
      clear hB0 hB1 hB2 Hin6 hx_w1
      rintro wvw1 ⟨hB0, hB1, hB2, hB6, hin6, hx_vw1⟩
      have Hin6 := Lib.hid hin6
      clear hin6
      have hc0 := hB0.cells; have hf0 := hB0.free; have hl0 := hB0.lt
      have hc2 := hB2.cells; have hf2 := hB2.free; have hl2 := hB2.lt
      go_wp2_with fail
      (with_reducible apply bp_ret); (focus (go_light; simp [results, Tryz.results43, go_sem, *]; rfl))
      rw [Hr2.out]
      exact ⟨ka, kc, la, lc, rfl, Hin.out.keep (Held.kept (Held.mono (a := w) (S := fun b => b ≠ w.heap.size + 2) Hxt HS5.out)) (fun b hb _ => HS4.out b hb), Xt⟩
end Go.Proofs.YtnbappeiebameaaGreatDoor

/- The walk of stairwellref.DoOp. -/
namespace Go.Proofs.YtnbappeiebameaaGreatDoor
open Go.RowKit
attribute [local go_sem ↓] Go.wp_at_zero Go.wp_at_succ

theorem doOp_any (x : V) (ka : Option Addr) (kc : Nat) (la : Option Addr) (lc : Nat) (k : Int) (p f : ByteArray) (y : V) (kb : Option Addr) (kd : Nat) (lb : Option Addr) (ld : Nat) (w : World) (hl : LibAt w) (hsx : x.size ≤ 4194304) (hsy : y.size ≤ 4194304) (hp : p.size ≤ 4194304) (hf : f.size ≤ 4194304) (S : Nat → Prop) (hin : x.In w S ka kc la lc) (hjn : y.In w S kb kd lb ld) :
    Calls Tryz.prog 43 #[x.val ka kc la lc, .agg #[.int .i64 k, .string p, .string f, .int .i64 y.k, .int .i64 y.n, .string y.s, .slice kb y.keys.length kd, .slice lb y.l.length ld]] w (RetV2 S (oneV x ⟨k, p, f, y⟩).1 (.int .i64 (oneV x ⟨k, p, f, y⟩).2) w) := by
  by_cases h1 : k = 1
  · exact do_k1 x ka kc la lc k p f y kb kd lb ld w hl hsx hsy hp hf S hin hjn h1
  by_cases h2 : k = 2
  · exact do_k2 x ka kc la lc k p f y kb kd lb ld w hl hsx hsy hp hf S hin hjn h2
  by_cases h3 : k = 3
  · exact do_k3 x ka kc la lc k p f y kb kd lb ld w hl hsx hsy hp hf S hin hjn h3
  by_cases h4 : k = 4
  · exact do_k4 x ka kc la lc k p f y kb kd lb ld w hl hsx hsy hp hf S hin hjn h4
  by_cases h5 : k = 5
  · exact do_k5 x ka kc la lc k p f y kb kd lb ld w hl hsx hsy hp hf S hin hjn h5
  by_cases h6 : k = 6
  · exact do_k6 x ka kc la lc k p f y kb kd lb ld w hl hsx hsy hp hf S hin hjn h6
  exact do_k0 x ka kc la lc k p f y kb kd lb ld w hl hsx hsy hp hf S hin hjn h1 h2 h3 h4 h5 h6
end Go.Proofs.YtnbappeiebameaaGreatDoor

/- The walk of the reference's DoOps. -/
namespace Go.Proofs.YtnbappeiebameaaGreatDoor
open Go.RowKit
attribute [local go_sem ↓] Go.wp_at_zero Go.wp_at_succ

set_option maxRecDepth 100000 in
set_option maxHeartbeats 8000000 in
theorem doOps_any (x : V) (ka : Option Addr) (kc : Nat) (la : Option Addr) (lc : Nat) (a : Option Addr) (cap : Nat) (l : List OpV) (n : Nat) (w : World) (hn : Hid (l.length = n)) (hl : LibAt w) (hsx : x.size ≤ 4194304) (hls : (l.map OpV.size).sum ≤ 4194304) (hn2 : n ≤ 4194304) (S : Nat → Prop) (hin : x.In w S ka kc la lc) (hops : OpsIn w S a l) :
    Calls Tryz.prog 41 #[x.val ka kc la lc, .slice a n cap] w (RetV2 S (allV x l).1 (.int .i64 (allV x l).2) w) := by
  obtain ⟨SS, hSS⟩ : ∃ SS : Nat → Prop, SS = fun b => (S b ∧ b < w.heap.size) ∨ w.heap.size + 3 ≤ b := ⟨_, rfl⟩
  have Hin := Lib.hid (show x.In w SS ka kc la lc from hin.mono fun b h hl => by rw [hSS]; exact .inl ⟨h, hl⟩)
  have HSo := Lib.hid (show ∀ b, S b → b < w.heap.size → SS b from fun b h hl => by rw [hSS]; exact .inl ⟨h, hl⟩)
  have HS2 := Lib.hid (show ∀ b, w.heap.size + 3 ≤ b → SS b from fun b h => by rw [hSS]; exact .inr h)
  have HS3 := Lib.hid (show ∀ b, SS b → b ≠ w.heap.size + 2 from fun b h => by rw [hSS] at h; rcases h with h | h <;> omega)
  have HS5 := Lib.hid (show ∀ b, SS b → b ≠ w.heap.size + 1 from fun b h => by rw [hSS] at h; rcases h with h | h <;> omega)
  have HS4 := Lib.hid (show ∀ b, SS b → Plus S w b from fun b h => by rw [hSS] at h; exact h.elim (fun h => .inl h.1) (fun h => .inr (by omega)))
  have Hops := Lib.hid hops
  have Hls := Lib.hid hls
  clear hSS hin hops hls
  by_cases h20 : 20 < n
  · have h20i : (20 : Int) < (n : Int) := by omega
    have Hr := Lib.hid (show allV x l = (x, 2) by unfold allV; rw [if_pos (by rw [hn.out]; exact h20)])
    go_enter Tryz.func41, Tryz.ntmps41
    go_wp2_with fail
    (with_reducible apply bp_ret); (focus (go_light; simp [results, Tryz.results41, go_sem, *]; rfl))
    rw [Hr.out]
    exact ⟨ka, kc, la, lc, rfl, Hin.out.keep (Held.kept (Held.mono (a := w) (S := fun b => b ≠ w.heap.size + 1) Hxt HS5.out)) (fun b hb _ => HS4.out b hb), Xt⟩
  · have h20i : ¬ (20 : Int) < (n : Int) := by omega
    have Hl20 := Lib.hid (show ¬ 20 < l.length by rw [hn.out]; exact h20)
    go_enter Tryz.func41, Tryz.ntmps41
    go_upto_region 4 with fail
    refine gen_world (R := fun wx => Box wx w.heap.size #[.int .i64 x.k, .int .i64 x.n, .string x.s, .slice ka x.keys.length kc, .slice la x.l.length lc] 25 ∧ Box wx (w.heap.size + 1) #[.int .i64 0, .int .i64 0, .string ⟨#[]⟩, .slice none 0 0, .slice none 0 0] 25 ∧ Box wx (w.heap.size + 2) #[.int .i64 x.k, .int .i64 x.n, .string x.s, .slice ka x.keys.length kc, .slice la x.l.length lc] 25 ∧ Ext w wx) ⟨Bxt, Bxt, Bxt, Xt⟩ ?_
    rintro wa ⟨hB0, hB1, hB2, hxa⟩
    go_wp2_with fail
    go_loopg [7, 8, 9, 17] n (fun g _ _ _ i wr => ∃ (k : Nat) (acc : V) (ka2 : Option Addr) (kc2 : Nat) (la2 : Option Addr) (lc2 : Nat), k ≤ n ∧ i = .int .i64 k ∧ g = n - k ∧ Box wr (w.heap.size + 2) #[.int .i64 acc.k, .int .i64 acc.n, .string acc.s, .slice ka2 acc.keys.length kc2, .slice la2 acc.l.length lc2] 25 ∧ acc.In wr SS ka2 kc2 la2 lc2 ∧ Hid (goV (l.take k) x = (acc, 0)) ∧
      Box wr w.heap.size #[.int .i64 x.k, .int .i64 x.n, .string x.s, .slice ka x.keys.length kc, .slice la x.l.length lc] 25 ∧ Box wr (w.heap.size + 1) #[.int .i64 0, .int .i64 0, .string ⟨#[]⟩, .slice none 0 0, .slice none 0 0] 25 ∧ Ext w wr)
    case atStart => exact ⟨0, x, ka, kc, la, lc, by omega, rfl, rfl, hB2, Hin.out.ext Xt, Lib.hid (by rw [List.take_zero, goV]), hB0, hB1, hxa⟩
    case round =>
      clear hB0 hB1 hB2 hxa
      obtain ⟨k, acc, ka2, kc2, la2, lc2, hk, rfl, rfl, hB2, hin2, Hacc, hB0, hB1, hx⟩ := hrel
      have Hin2 := Lib.hid hin2
      clear hin2
      have hz := hB2.lt
      have hacs : acc.size ≤ 4194304 := by
        have h := go_size (l.take k) x (by rw [Hacc.out])
        rw [Hacc.out] at h
        simp only at h
        omega
      by_cases hlt : k < n
      · have hlt2 : k < l.length := by rw [hn.out]; exact hlt
        obtain ⟨b, o, rfl, hSb, hit⟩ := Hops.out.resolve_left (by intro e; rw [e] at hlt2; simp at hlt2)
        obtain ⟨d0, d1, d2, ka3, kc3, la3, lc3, ⟨d3, d4, d5, d6, d7⟩, hin3⟩ := hit k hlt2
        obtain ⟨hq1, hq2, hq3⟩ := ops_item hlt2 Hls.out
        have Hsn := Lib.hid (fun (r : V) (e : Int) (h : oneV acc l[k] = (r, e)) => all_next hlt2 Hacc.out h)
        obtain ⟨⟨qk, qp, qf, qv⟩, hq⟩ : ∃ q, l[k] = q := ⟨_, rfl⟩
        have Hsn := Lib.hid (show ∀ (r : V) (e : Int), oneV acc ⟨qk, qp, qf, qv⟩ = (r, e) → goV (l.take (k + 1)) x = (r, e) by rw [← hq]; exact Hsn.out)
        rw [hq] at d0 d1 d2 d3 d4 d5 d6 d7 hin3 hq1 hq2 hq3
        simp only at d0 d1 d2 d3 d4 d5 d6 d7 hin3 hq1 hq2 hq3
        have Hin3 := Lib.hid (V.In.ext (w' := wr) (hin3.mono (T := SS) fun b h hl => HSo.out b h hl) hx)
        have d0 := hx.cell d0
        have d1 := hx.cell d1
        have d2 := hx.cell d2
        have d3 := hx.cell d3
        have d4 := hx.cell d4
        have d5 := hx.cell d5
        have d6 := hx.cell d6
        have d7 := hx.cell d7
        have hki0 : (0 : Int) ≤ (k : Int) := by omega
        have hki1 : (k : Int) < (n : Int) := by omega
        clear hin3 hit hq
        obtain ⟨r, hr⟩ : ∃ r, (oneV acc ⟨qk, qp, qf, qv⟩).1 = r := ⟨_, rfl⟩
        obtain ⟨er, her⟩ : ∃ er, (oneV acc ⟨qk, qp, qf, qv⟩).2 = er := ⟨_, rfl⟩
        have Hone := Lib.hid (show oneV acc ⟨qk, qp, qf, qv⟩ = (r, er) from Prod.ext hr her)
        have Hnx := Lib.hid (Hsn.out r er Hone.out)
        clear hr her
        have Hin2 := Lib.hid (show acc.In wr (fun q => SS q ∧ q < wr.heap.size) ka2 kc2 la2 lc2 from Hin2.out.mono fun q h hl => ⟨h, hl⟩)
        have Hin3 := Lib.hid (show qv.In wr (fun q => SS q ∧ q < wr.heap.size) ka3 kc3 la3 lc3 from Hin3.out.mono fun q h hl => ⟨h, hl⟩)
        have hc2 := hB2.cells; have hf2 := hB2.free; have hl2 := hB2.lt
        go_upto_region 7 with fail
        clear hc2 hf2 hl2
        have Sof : ∀ w', Ext wr w' → (w'.cell? ⟨w.heap.size + 2, 0, none⟩ = some (.int .i64 acc.k) ∧ w'.cell? ⟨w.heap.size + 2, 1, none⟩ = some (.int .i64 acc.n) ∧ w'.cell? ⟨w.heap.size + 2, 2, none⟩ = some (.string acc.s) ∧ w'.cell? ⟨w.heap.size + 2, 3, none⟩ = some (.slice ka2 acc.keys.length kc2) ∧ w'.cell? ⟨w.heap.size + 2, 4, none⟩ = some (.slice la2 acc.l.length lc2) ∧ w'.cell? ⟨b, o + k * 8, none⟩ = some (.int .i64 qk) ∧ w'.cell? ⟨b, o + k * 8 + 1, none⟩ = some (.string qp) ∧ w'.cell? ⟨b, o + k * 8 + 2, none⟩ = some (.string qf) ∧ w'.cell? ⟨b, o + k * 8 + 3, none⟩ = some (.int .i64 qv.k) ∧ w'.cell? ⟨b, o + k * 8 + 4, none⟩ = some (.int .i64 qv.n) ∧ w'.cell? ⟨b, o + k * 8 + 5, none⟩ = some (.string qv.s) ∧ w'.cell? ⟨b, o + k * 8 + 6, none⟩ = some (.slice ka3 qv.keys.length kc3) ∧ w'.cell? ⟨b, o + k * 8 + 7, none⟩ = some (.slice la3 qv.l.length lc3)) := fun w' e => ⟨e.cell (hB2.cells 0), e.cell (hB2.cells 1), e.cell (hB2.cells 2), e.cell (hB2.cells 3), e.cell (hB2.cells 4), e.cell d0, e.cell d1, e.cell d2, e.cell d3, e.cell d4, e.cell d5, e.cell d6, e.cell d7⟩
        refine wp_region_till (S := fun w' => w'.cell? ⟨w.heap.size + 2, 0, none⟩ = some (.int .i64 acc.k) ∧ w'.cell? ⟨w.heap.size + 2, 1, none⟩ = some (.int .i64 acc.n) ∧ w'.cell? ⟨w.heap.size + 2, 2, none⟩ = some (.string acc.s) ∧ w'.cell? ⟨w.heap.size + 2, 3, none⟩ = some (.slice ka2 acc.keys.length kc2) ∧ w'.cell? ⟨w.heap.size + 2, 4, none⟩ = some (.slice la2 acc.l.length lc2) ∧ w'.cell? ⟨b, o + k * 8, none⟩ = some (.int .i64 qk) ∧ w'.cell? ⟨b, o + k * 8 + 1, none⟩ = some (.string qp) ∧ w'.cell? ⟨b, o + k * 8 + 2, none⟩ = some (.string qf) ∧ w'.cell? ⟨b, o + k * 8 + 3, none⟩ = some (.int .i64 qv.k) ∧ w'.cell? ⟨b, o + k * 8 + 4, none⟩ = some (.int .i64 qv.n) ∧ w'.cell? ⟨b, o + k * 8 + 5, none⟩ = some (.string qv.s) ∧ w'.cell? ⟨b, o + k * 8 + 6, none⟩ = some (.slice ka3 qv.keys.length kc3) ∧ w'.cell? ⟨b, o + k * 8 + 7, none⟩ = some (.slice la3 qv.l.length lc3)) (c := 11) (by kernel_rfl) ?_
        (refine wpAnyT_take (i := 0) (v := ?_) [11] (Array.getElem?_eq_getElem (by decide)) (by kernel_rfl) (by kernel_rfl) (by kernel_rfl) (by kernel_rfl) rfl rfl (by kernel_rfl) (fun _ _ _ h => h) (Or.inl ⟨by kernel_rfl, ?_⟩) (Sof _ Xt) ?_); rotate_left; (focus (intro w hSw; (try dsimp only at hSw); (try simp only [rl]); go_simp; (try with_reducible rfl))); (try simp only [rl])
        (refine wpAnyT_take (i := 1) (v := ?_) [11] (Array.getElem?_eq_getElem (by decide)) (by kernel_rfl) (by kernel_rfl) (by kernel_rfl) (by kernel_rfl) rfl rfl (by kernel_rfl) (fun _ _ _ h => h) (Or.inl ⟨by kernel_rfl, ?_⟩) (Sof _ Xt) ?_); rotate_left; (focus (intro w hSw; (try dsimp only at hSw); (try simp only [rl]); go_simp; (try with_reducible rfl))); (try simp only [rl])
        (refine wpAnyT_take (i := 2) (v := ?_) [11] (Array.getElem?_eq_getElem (by decide)) (by kernel_rfl) (by kernel_rfl) (by kernel_rfl) (by kernel_rfl) rfl rfl (by kernel_rfl) (fun _ _ _ h => h) (Or.inl ⟨by kernel_rfl, ?_⟩) (Sof _ Xt) ?_); rotate_left; (focus (intro w hSw; (try dsimp only at hSw); (try simp only [rl]); go_simp; (try with_reducible rfl))); (try simp only [rl])
        (refine wpAnyT_take (i := 3) (v := ?_) [11] (Array.getElem?_eq_getElem (by decide)) (by kernel_rfl) (by kernel_rfl) (by kernel_rfl) (by kernel_rfl) rfl rfl (by kernel_rfl) (fun _ _ _ h => h) (Or.inl ⟨by kernel_rfl, ?_⟩) (Sof _ Xt) ?_); rotate_left; (focus (intro w hSw; (try dsimp only at hSw); (try simp only [rl]); go_simp; (try with_reducible rfl))); (try simp only [rl])
        (refine wpAnyT_take (i := 4) (v := ?_) [11] (Array.getElem?_eq_getElem (by decide)) (by kernel_rfl) (by kernel_rfl) (by kernel_rfl) (by kernel_rfl) rfl rfl (by kernel_rfl) (fun _ _ _ h => h) (Or.inl ⟨by kernel_rfl, ?_⟩) (Sof _ Xt) ?_); rotate_left; (focus (intro w hSw; (try dsimp only at hSw); (try simp only [rl]); go_simp; (try with_reducible rfl))); (try simp only [rl])
        refine wpAnyT_ready (rs := [5, 9]) (by kernel_rfl) (by simp) ?_
        refine AllReadyT.cons (Array.getElem?_eq_getElem (by decide)) (fun K hK => ?_) (AllReadyT.cons (Array.getElem?_eq_getElem (by decide)) (fun K hK => ?_) AllReadyT.nil)
        · (try simp only [rl])
          (try go_simp)
          (refine (doOp_any acc ka2 kc2 la2 lc2 qk qp qf qv ka3 kc3 la3 lc3 _ (hl.ext Xt) hacs hq3 hq1 hq2 (fun q => SS q ∧ q < wr.heap.size) (Hin2.out.ext Xt) (Hin3.out.ext Xt)).mono ?_)
          rw [Hone.out]
          rintro e w1 ⟨ka5, kc5, la5, lc5, rfl, hin_, h1⟩
          (try go_simp)
          have hb1 : Ext wr w1 := Xt
          have hz1 := hb1.size
          clear h1
          refine hK.out _ _ (fun _ => Sof _ Xt) ?_; clear hK K; (try simp only [rl])
          (refine wpAnyT_take (i := 6) (v := ?_) [11] (Array.getElem?_eq_getElem (by decide)) (by kernel_rfl) (by kernel_rfl) (by kernel_rfl) (by kernel_rfl) rfl rfl (by kernel_rfl) (fun _ _ _ h => h) (Or.inl ⟨by kernel_rfl, ?_⟩) (Sof _ Xt) ?_); rotate_left; (focus (intro w hSw; (try dsimp only at hSw); (try simp only [rl]); go_simp; (try with_reducible rfl))); (try simp only [rl])
          (refine wpAnyT_take (i := 7) (v := ?_) [11] (Array.getElem?_eq_getElem (by decide)) (by kernel_rfl) (by kernel_rfl) (by kernel_rfl) (by kernel_rfl) rfl rfl (by kernel_rfl) (fun _ _ _ h => h) (Or.inl ⟨by kernel_rfl, ?_⟩) (Sof _ Xt) ?_); rotate_left; (focus (intro w hSw; (try dsimp only at hSw); (try simp only [rl]); go_simp; (try with_reducible rfl))); (try simp only [rl])
          (refine wpAnyT_take (i := 8) (v := ?_) [11] (Array.getElem?_eq_getElem (by decide)) (by kernel_rfl) (by kernel_rfl) (by kernel_rfl) (by kernel_rfl) rfl rfl (by kernel_rfl) (fun _ _ _ h => h) (Or.inl ⟨by kernel_rfl, ?_⟩) (Sof _ Xt) ?_); rotate_left; (focus (intro w hSw; (try dsimp only at hSw); (try simp only [rl]); go_simp; (try with_reducible rfl))); (try simp only [rl])
          (refine wpAnyT_one (i := 9) (by kernel_rfl) (Array.getElem?_eq_getElem (by decide)) fun K hK => ?_); (try simp only [rl])
          go_simp
          refine hK.out _ _ (fun _ => Sof _ Xt) ?_; clear hK K; (try simp only [rl])
          (refine wpAnyT_one (i := 10) (by kernel_rfl) (Array.getElem?_eq_getElem (by decide)) fun K hK => ?_); (try simp only [rl])
          go_simp
          refine hK.out _ _ (fun _ => Sof _ Xt) ?_; clear hK K; (try simp only [rl])
          (refine wpAnyT_one (i := 11) (by kernel_rfl) (Array.getElem?_eq_getElem (by decide)) fun K hK => ?_); (try simp only [rl])
          go_simp
          (refine hK.out _ _ (fun h => Bool.noConfusion (show true = false from h)) ?_); clear hK K; (try simp only [rl])
          refine wpAnyT_done (by kernel_rfl) ?_ _
          have Hin5 := Lib.hid (show r.In w1 (fun q => SS q ∧ q ≠ w1.heap.size) ka5 kc5 la5 lc5 from hin_.mono fun q h hlt => by
            rcases h with h | h
            · exact ⟨h.1, by have := h.2; omega⟩
            · simp at h; exact ⟨HS2.out q (by omega), by omega⟩)
          have hB0 := Box.ext hb1 hB0
          have hB1 := Box.ext hb1 hB1
          have hB2 := Box.ext hb1 hB2
          have hx1 := hx.trans hb1
          clear hin_ Sof d0 d1 d2 d3 d4 d5 d6 d7 Hin2 Hin3 hb1 hx
          go_upto_region 8 with fail
          refine gen_world (R := fun wx => Box wx w.heap.size #[.int .i64 x.k, .int .i64 x.n, .string x.s, .slice ka x.keys.length kc, .slice la x.l.length lc] 25 ∧ Box wx (w.heap.size + 1) #[.int .i64 0, .int .i64 0, .string ⟨#[]⟩, .slice none 0 0, .slice none 0 0] 25 ∧ Box wx (w.heap.size + 2) #[.int .i64 acc.k, .int .i64 acc.n, .string acc.s, .slice ka2 acc.keys.length kc2, .slice la2 acc.l.length lc2] 25 ∧ Box wx w1.heap.size #[.int .i64 r.k, .int .i64 r.n, .string r.s, .slice ka5 r.keys.length kc5, .slice la5 r.l.length lc5] 25 ∧ r.In wx SS ka5 kc5 la5 lc5 ∧ Ext w wx)
            ⟨Bxt, Bxt, Bxt, Bxt, Hin5.out.keep (Held.kept (Held.mono (S := fun b => b ≠ w1.heap.size) (a := w1) Hxt (fun b h => h.2))) (fun _ h _ => h.1), Xt⟩ ?_
          clear hB0 hB1 hB2 Hin5 hx1
          rintro wd ⟨hB0, hB1, hB2, hBu, hin5, hx⟩
          have Hin5 := Lib.hid hin5
          clear hin5
          by_cases h0 : er = 0
          · subst h0
            have hc2 := hB2.cells; have hf2 := hB2.free; have hl2 := hB2.lt
            have hcu := hBu.cells; have hfu := hBu.free; have hlu := hBu.lt
            go_wp2_with fail
            go_roundg (n - (k + 1))
            case measure => omega
            case rel => exact ⟨k + 1, r, ka5, kc5, la5, lc5, by omega, by go_num, rfl, Bxt, Hin5.out.keep (Held.kept (Held.mono (a := wd) (S := fun b => b ≠ w.heap.size + 2) Hxt HS3.out)) (fun b hb _ => hb), Hnx, Bxt, Bxt, Xt⟩
          · have h0b : (er != 0) = true := by simpa using h0
            have Hr := Lib.hid (all_err Hl20.out Hnx.out h0)
            clear h0
            have hc0 := hB0.cells; have hf0 := hB0.free; have hl0 := hB0.lt
            have hc1 := hB1.cells; have hf1 := hB1.free; have hl1 := hB1.lt
            go_wp2_with fail
            (with_reducible apply bp_ret); (focus (go_light; simp [results, Tryz.results41, go_sem, *]; rfl))
            rw [Hr.out]
            exact ⟨ka, kc, la, lc, rfl, Hin.out.keep (Held.kept (Held.mono (a := w) (S := fun b => b ≠ w.heap.size + 1 ∧ b ≠ w.heap.size + 2) Hxt fun b h => ⟨HS5.out b h, HS3.out b h⟩)) (fun b hb _ => HS4.out b hb), Xt⟩
        · (try simp only [rl])
          go_simp
          refine hK.out _ _ (fun _ => Sof _ Xt) ?_; clear hK K; (try simp only [rl])
          (refine wpAnyT_one (i := 5) (by kernel_rfl) (Array.getElem?_eq_getElem (by decide)) fun K hK => ?_); (try simp only [rl])
          (try go_simp)
          (refine (doOp_any acc ka2 kc2 la2 lc2 qk qp qf qv ka3 kc3 la3 lc3 _ (hl.ext Xt) hacs hq3 hq1 hq2 (fun q => SS q ∧ q < wr.heap.size) (Hin2.out.ext Xt) (Hin3.out.ext Xt)).mono ?_)
          rw [Hone.out]
          rintro e w1 ⟨ka5, kc5, la5, lc5, rfl, hin_, h1⟩
          (try go_simp)
          have hb1 : Ext wr w1 := Xt
          have hz1 := hb1.size
          have hBu : Box w1 wr.heap.size #[.int .i64 0, .int .i64 0, .string ⟨#[]⟩, .slice none 0 0, .slice none 0 0] 25 := Box.ext h1 (Box.new _ _ _ (by simp))
          clear h1
          have hcu := hBu.cells; have hfu := hBu.free; have hlu := hBu.lt
          refine hK.out _ _ (fun _ => Sof _ Xt) ?_; clear hK K; (try simp only [rl])
          (refine wpAnyT_take (i := 6) (v := ?_) [11] (Array.getElem?_eq_getElem (by decide)) (by kernel_rfl) (by kernel_rfl) (by kernel_rfl) (by kernel_rfl) rfl rfl (by kernel_rfl) (fun _ _ _ h => h) (Or.inl ⟨by kernel_rfl, ?_⟩) (Sof _ Xt) ?_); rotate_left; (focus (intro w hSw; (try dsimp only at hSw); (try simp only [rl]); go_simp; (try with_reducible rfl))); (try simp only [rl])
          (refine wpAnyT_take (i := 7) (v := ?_) [11] (Array.getElem?_eq_getElem (by decide)) (by kernel_rfl) (by kernel_rfl) (by kernel_rfl) (by kernel_rfl) rfl rfl (by kernel_rfl) (fun _ _ _ h => h) (Or.inl ⟨by kernel_rfl, ?_⟩) (Sof _ Xt) ?_); rotate_left; (focus (intro w hSw; (try dsimp only at hSw); (try simp only [rl]); go_simp; (try with_reducible rfl))); (try simp only [rl])
          (refine wpAnyT_take (i := 8) (v := ?_) [11] (Array.getElem?_eq_getElem (by decide)) (by kernel_rfl) (by kernel_rfl) (by kernel_rfl) (by kernel_rfl) rfl rfl (by kernel_rfl) (fun _ _ _ h => h) (Or.inl ⟨by kernel_rfl, ?_⟩) (Sof _ Xt) ?_); rotate_left; (focus (intro w hSw; (try dsimp only at hSw); (try simp only [rl]); go_simp; (try with_reducible rfl))); (try simp only [rl])
          (refine wpAnyT_one (i := 10) (by kernel_rfl) (Array.getElem?_eq_getElem (by decide)) fun K hK => ?_); (try simp only [rl])
          go_simp
          refine hK.out _ _ (fun _ => Sof _ Xt) ?_; clear hK K; (try simp only [rl])
          (refine wpAnyT_one (i := 11) (by kernel_rfl) (Array.getElem?_eq_getElem (by decide)) fun K hK => ?_); (try simp only [rl])
          go_simp
          (refine hK.out _ _ (fun h => Bool.noConfusion (show true = false from h)) ?_); clear hK K; (try simp only [rl])
          refine wpAnyT_done (by kernel_rfl) ?_ _
          have Hin5 := Lib.hid (show r.In w1 (fun q => SS q ∧ q ≠ wr.heap.size) ka5 kc5 la5 lc5 from hin_.mono fun q h hlt => by
            rcases h with h | h
            · exact ⟨h.1, by have := h.2; omega⟩
            · simp at h; exact ⟨HS2.out q (by omega), by omega⟩)
          have hB0 := Box.ext hb1 hB0
          have hB1 := Box.ext hb1 hB1
          have hB2 := Box.ext hb1 hB2
          have hx1 := hx.trans hb1
          clear hin_ Sof d0 d1 d2 d3 d4 d5 d6 d7 Hin2 Hin3 hb1 hx
          go_upto_region 8 with fail
          refine gen_world (R := fun wx => Box wx w.heap.size #[.int .i64 x.k, .int .i64 x.n, .string x.s, .slice ka x.keys.length kc, .slice la x.l.length lc] 25 ∧ Box wx (w.heap.size + 1) #[.int .i64 0, .int .i64 0, .string ⟨#[]⟩, .slice none 0 0, .slice none 0 0] 25 ∧ Box wx (w.heap.size + 2) #[.int .i64 acc.k, .int .i64 acc.n, .string acc.s, .slice ka2 acc.keys.length kc2, .slice la2 acc.l.length lc2] 25 ∧ Box wx wr.heap.size #[.int .i64 r.k, .int .i64 r.n, .string r.s, .slice ka5 r.keys.length kc5, .slice la5 r.l.length lc5] 25 ∧ r.In wx SS ka5 kc5 la5 lc5 ∧ Ext w wx)
            ⟨Bxt, Bxt, Bxt, Bxt, Hin5.out.keep (Held.kept (Held.mono (S := fun b => b ≠ wr.heap.size) (a := w1) Hxt (fun b h => h.2))) (fun _ h _ => h.1), Xt⟩ ?_
          clear hB0 hB1 hB2 Hin5 hx1 hBu hcu hfu hlu
          rintro wd ⟨hB0, hB1, hB2, hBu, hin5, hx⟩
          have Hin5 := Lib.hid hin5
          clear hin5
          by_cases h0 : er = 0
          · subst h0
            have hc2 := hB2.cells; have hf2 := hB2.free; have hl2 := hB2.lt
            have hcu := hBu.cells; have hfu := hBu.free; have hlu := hBu.lt
            go_wp2_with fail
            go_roundg (n - (k + 1))
            case measure => omega
            case rel => exact ⟨k + 1, r, ka5, kc5, la5, lc5, by omega, by go_num, rfl, Bxt, Hin5.out.keep (Held.kept (Held.mono (a := wd) (S := fun b => b ≠ w.heap.size + 2) Hxt HS3.out)) (fun b hb _ => hb), Hnx, Bxt, Bxt, Xt⟩
          · have h0b : (er != 0) = true := by simpa using h0
            have Hr := Lib.hid (all_err Hl20.out Hnx.out h0)
            clear h0
            have hc0 := hB0.cells; have hf0 := hB0.free; have hl0 := hB0.lt
            have hc1 := hB1.cells; have hf1 := hB1.free; have hl1 := hB1.lt
            go_wp2_with fail
            (with_reducible apply bp_ret); (focus (go_light; simp [results, Tryz.results41, go_sem, *]; rfl))
            rw [Hr.out]
            exact ⟨ka, kc, la, lc, rfl, Hin.out.keep (Held.kept (Held.mono (a := w) (S := fun b => b ≠ w.heap.size + 1 ∧ b ≠ w.heap.size + 2) Hxt fun b h => ⟨HS5.out b h, HS3.out b h⟩)) (fun b hb _ => HS4.out b hb), Xt⟩
      · obtain rfl : k = n := by omega
        have Hr := Lib.hid (all_ok Hl20.out (by have := Hacc.out; rwa [List.take_of_length_le (by rw [hn.out]; exact Nat.le_refl _)] at this))
        have hc2 := hB2.cells; have hf2 := hB2.free; have hl2 := hB2.lt
        have hc1 := hB1.cells; have hf1 := hB1.free; have hl1 := hB1.lt
        go_wp2_with fail
        (with_reducible apply bp_ret); (focus (go_light; simp [results, Tryz.results41, go_sem, *]; rfl))
        rw [Hr.out]
        exact ⟨ka2, kc2, la2, lc2, rfl, Hin2.out.keep (Held.kept (Held.mono (a := wr) (S := fun b => b ≠ w.heap.size + 1) Hxt HS5.out)) (fun b hb _ => HS4.out b hb), Xt⟩
end Go.Proofs.YtnbappeiebameaaGreatDoor
