/- The walk of the reader's value. -/
import Derived.Test.YtjibdbnpkfghhaaGreatDoorRd7
set_option linter.all false
namespace Go.Proofs.YtjibdbnpkfghhaaGreatDoor
open Go.RowKit
attribute [local go_sem ↓] Go.wp_at_zero Go.wp_at_succ
theorem vl_word {f : Nat} {s t : Bytes} {c : UInt8} (h : spaceL s = c :: t) : valL (f + 1) s = (
   if c = 110 then (if [117, 108, 108].isPrefixOf t = true then some (V.zero, t.drop 3) else none)
   else if c = 116 then (if [114, 117, 101].isPrefixOf t = true then some (trueV, t.drop 3) else none)
   else if c = 102 then (if [97, 108, 115, 101].isPrefixOf t = true then some (falseV, t.drop 4) else none)
   else if c = 34 then (textL (t.length + 1) t []).map fun p => (.mk 3 0 ⟨p.1.toArray⟩ [] [], p.2)
   else if c = 45 ∨ isDg c = true then (numL (c :: t)).map fun p => (.mk 2 p.1 ⟨#[]⟩ [] [], p.2)
   else if c = 91 then (listL (valL f) (t.length + 1) t []).map fun p => (.mk 4 0 ⟨#[]⟩ [] p.1, p.2)
   else if c = 123 then (objL (valL f) (t.length + 1) t [] []).map fun p => (.mk 5 0 ⟨#[]⟩ p.1.1 p.1.2, p.2)
   else none) := by
 rw [valL, h]
theorem vl_null {f : Nat} {s t : Bytes} (h : spaceL s = 110 :: t) : valL (f + 1) s = if (⟨#[110, 117, 108, 108]⟩ : ByteArray).data.toList.isPrefixOf (110 :: t) = true then some (V.zero, (110 :: t).drop 4) else none := by
 rw [vl_word h]; simp [List.isPrefixOf]
theorem vl_true {f : Nat} {s t : Bytes} (h : spaceL s = 116 :: t) : valL (f + 1) s = if (⟨#[116, 114, 117, 101]⟩ : ByteArray).data.toList.isPrefixOf (116 :: t) = true then some (trueV, (116 :: t).drop 4) else none := by
 rw [vl_word h]; simp [List.isPrefixOf]
theorem vl_false {f : Nat} {s t : Bytes} (h : spaceL s = 102 :: t) : valL (f + 1) s = if (⟨#[102, 97, 108, 115, 101]⟩ : ByteArray).data.toList.isPrefixOf (102 :: t) = true then some (falseV, (102 :: t).drop 5) else none := by
 rw [vl_word h]; simp [List.isPrefixOf]
theorem vl_text {f : Nat} {s t : Bytes} (h : spaceL s = 34 :: t) : valL (f + 1) s = (textL (t.length + 1) t []).map fun p => (.mk 3 0 ⟨p.1.toArray⟩ [] [], p.2) := by
 rw [vl_word h]; rfl
theorem vl_num {f : Nat} {s t : Bytes} {c : UInt8} (h : spaceL s = c :: t) (hd : c = 45 ∨ isDg c = true) : valL (f + 1) s = (numL (c :: t)).map fun p => (.mk 2 p.1 ⟨#[]⟩ [] [], p.2) := by
 have := dg_front hd
 rw [vl_word h, if_neg this.2.2.2.2.1, if_neg this.2.2.2.2.2.1, if_neg this.2.2.2.2.2.2.1, if_neg this.2.2.2.2.2.2.2, if_pos hd]
theorem vl_list {f : Nat} {s t : Bytes} (h : spaceL s = 91 :: t) : valL (f + 1) s = (listL (valL f) (t.length + 1) t []).map fun p => (.mk 4 0 ⟨#[]⟩ [] p.1, p.2) := by
 rw [vl_word h]; rfl
theorem vl_obj {f : Nat} {s t : Bytes} (h : spaceL s = 123 :: t) : valL (f + 1) s = (objL (valL f) (t.length + 1) t [] []).map fun p => (.mk 5 0 ⟨#[]⟩ p.1.1 p.1.2, p.2) := by
 rw [vl_word h]; rfl
theorem vl_none {f : Nat} {s s1 : Bytes} {c : UInt8} (h : s1 = spaceL s) (hc : headB s1 = c) (hn : c ≠ 110 ∧ c ≠ 116 ∧ c ≠ 102 ∧ c ≠ 34 ∧ ¬ (c = 45 ∨ isDg c = true) ∧ c ≠ 91 ∧ c ≠ 123) : valL (f + 1) s = none := by
 cases hq : s1 with
 | nil => rw [valL, ← h, hq]
 | cons d t =>
  rw [hq] at hc
  have hc : d = c := hc
  subst hc
  obtain ⟨h1, h2, h3, h4, h5, h6, h7⟩ := hn
  rw [vl_word (h.symm.trans hq), if_neg h1, if_neg h2, if_neg h3, if_neg h4, if_neg h5, if_neg h6, if_neg h7]
theorem head_cons {l : Bytes} {c : UInt8} (h : headB l = c) (h0 : (c.toNat : Int) ≠ 0) : ∃ t, l = c :: t := by
 cases l with
 | nil => rw [← h] at h0; exact absurd rfl h0
 | cons d t => have h : d = c := h; exact ⟨t, by rw [h]⟩
theorem val_bad {bad : Bool} {s s1 : Bytes} {c : UInt8} (hb : bad = true → s = []) (h : s1 = spaceL s) (hc : headB s1 = c) (h0 : (c.toNat : Int) ≠ 0) : bad = false := by
 cases bad with
 | false => rfl
 | true =>
  rw [hb rfl] at h
  subst h
  rw [← hc] at h0
  exact absurd rfl h0
theorem ne_of_int {c d : UInt8} (h : (c.toNat : Int) ≠ d.toNat) : c ≠ d := fun e => h (by rw [e])
set_option maxRecDepth 100000 in
set_option maxHeartbeats 8000000 in
theorem value_any : ∀ f : Nat, f ≤ 13 → ValC f := by
 intro f
 induction f with
 | zero =>
  intro _ r d s bad w hd hb hsz hr hl
  obtain rfl : d = 13 := by omega
  have hlt := hr.lt
  clear hd hb hl
  go_enter Tryz.func42, Tryz.ntmps42
  go_upto_region 1 with fail
  refine gen_world (R := fun wx => Box wx w.heap.size #[.int .i64 0, .int .i64 0, .string ⟨#[]⟩, .slice none 0 0, .slice none 0 0] 25 ∧ Ext w wx) ⟨Bxt, Xt⟩ ?_
  rintro wa ⟨hB, hxa⟩
  have hra := hr.ext hxa
  go_wp2_with fail
  (refine (space_any r s bad _ hra).mono ?_); rintro e w1 ⟨rfl, ⟨s1, hs1, hr1⟩, h1⟩
  have hB1 := Box.rd h1 hB (by omega)
  have hx1 : Rd r w w1 := (Rd.of hlt hxa).trans h1
  have hz1 := hB1.lt
  clear hs1 h1 hB hra hxa hr
  go_wp2_with fail
  (refine (fail_any r s1 bad _ hr1).mono ?_); rintro e w2 ⟨rfl, hr2, h2⟩
  have hB2 := Box.rd h2 hB1 (by omega)
  have hx2 := hx1.trans h2
  clear hr1 hB1 hx1 h2
  go_wp2_with fail
  (refine (next_any r ⟨#[]⟩ true _ hr2).mono ?_); rintro e w3 ⟨rfl, rfl⟩
  have e0 : (headB (⟨#[]⟩ : ByteArray).data.toList).toNat = 0 := rfl
  rw [e0]
  clear e0
  go_wp2_with fail
  (refine (fail_any r ⟨#[]⟩ true _ hr2).mono ?_); rintro e w4 ⟨rfl, hr4, h4⟩
  have hB4 := Box.rd h4 hB2 (by omega)
  have hx4 := hx2.trans h4
  clear hr2 hB2 hx2 h4
  have hc4 := hB4.cells; have hf4 := hB4.free; have hl4 := hB4.lt
  go_wp2_with fail
  (with_reducible apply bp_ret); (focus (go_light; simp [results, Tryz.results42, go_sem, *]; rfl))
  exact ⟨Rxt, V.zero, none, 0, none, 0, ⟨#[]⟩, true, rfl, V.zero_in _ _, Srt, .inr ⟨rfl, rfl, rfl⟩⟩
 | succ f ih =>
  intro hf r d s bad w hd hb hsz hr hl
  have ih := ih (by omega)
  have hlt := hr.lt
  have hd1 : ¬ (12 : Int) < d := by omega
  have hd2 : 0 ≤ d := by omega
  have hdf : d = 12 - (f : Int) := by omega
  have Hb := Lib.hid hb
  have Hl := Lib.hid hl
  have Hdf := Lib.hid hdf
  clear hd hb hl hdf
  go_enter Tryz.func42, Tryz.ntmps42
  go_upto_region 1 with fail
  refine gen_world (R := fun wx => Box wx w.heap.size #[.int .i64 0, .int .i64 0, .string ⟨#[]⟩, .slice none 0 0, .slice none 0 0] 25 ∧ Ext w wx) ⟨Bxt, Xt⟩ ?_
  rintro wa ⟨hB, hxa⟩
  have hra := hr.ext hxa
  go_wp2_with fail
  (refine (space_any r s bad _ hra).mono ?_); rintro e w1 ⟨rfl, ⟨s1, hs1, hr1⟩, h1⟩
  have hB := Box.rd h1 hB (by omega)
  have hx1 : Rd r w w1 := (Rd.of hlt hxa).trans h1
  have hz1 := hB.lt
  have hs1z : s1.size ≤ 1048576 := by
   have e1 : s.data.toList.length = s.size := Array.length_toList
   have e2 : s1.data.toList.length = s1.size := Array.length_toList
   have := spaceL_len s.data.toList
   rw [hs1] at e2
   omega
  have Hs1 := Lib.hid hs1
  clear hs1 h1 hra hxa hr
  obtain ⟨c, hc⟩ : ∃ c, headB s1.data.toList = c := ⟨_, rfl⟩
  have Hc := Lib.hid hc
  clear hc
  have hcl : (c.toNat : Int) < 256 := by have := c.toNat_lt; omega
  have hc1 := hB.cells; have hf1 := hB.free; have hl1 := hB.lt
  go_wp2_with fail
  (refine (next_any r s1 bad _ hr1).mono ?_); rintro e wn ⟨rfl, rfl⟩
  rw [Hc.out]
  by_cases c110 : (c.toNat : Int) = 110
  ·have b110 : ((c.toNat : Int) == 110) = true := by simpa using c110
   obtain ⟨t1, ht1⟩ := head_cons Hc.out (by omega)
   obtain rfl : bad = false := val_bad Hb.out Hs1.out Hc.out (by omega)
   have hcn : c = 110 := by apply UInt8.toNat_inj.1; simpa using (by omega : c.toNat = 110)
   have Hval := Lib.hid (show valL (f + 1) s.data.toList = if (⟨#[110, 117, 108, 108]⟩ : ByteArray).data.toList.isPrefixOf s1.data.toList = true then some (V.zero, s1.data.toList.drop 4) else none from by rw [ht1, hcn]; exact vl_null (by rw [← Hs1.out, ht1, hcn]))
   clear ht1 hcn
   go_wp2_with fail
   (refine (take_any r s1 false ⟨#[110, 117, 108, 108]⟩ _ hr1).mono ?_)
   rintro e w3 ⟨rfl, h3, hcase⟩
   have hB3 := Box.rd h3 hB (by omega)
   have hx3 := hx1.trans h3
   have hz3 := h3.size
   have Hcase := Lib.hid hcase
   clear hcase h3 hB hx1 hr1 hc1 hf1 hl1
   have hc3 := hB3.cells; have hf3 := hB3.free; have hl3 := hB3.lt
   go_wp2_with fail
   (with_reducible apply bp_ret); (focus (go_light; simp [results, Tryz.results42, go_sem, *]; rfl))
   rcases Hcase.out with ⟨hp, s3, hs3, hr3⟩ | ⟨hp, hr3⟩
   ·exact ⟨Rxt, V.zero, none, 0, none, 0, s3, false, rfl, (V.in_iff ..).2 ⟨SlOk.nil, SlOk.nil, .inl rfl, .inl rfl⟩, Srt, .inl ⟨rfl, by rw [Hval.out, if_pos hp, hs3]; rfl⟩⟩
   ·exact ⟨Rxt, V.zero, none, 0, none, 0, ⟨#[]⟩, true, rfl, (V.in_iff ..).2 ⟨SlOk.nil, SlOk.nil, .inl rfl, .inl rfl⟩, Srt, .inr ⟨rfl, rfl, by rw [Hval.out, if_neg (by rw [hp]; decide)]⟩⟩
  have b110 : ((c.toNat : Int) == 110) = false := by simpa using c110
  by_cases c116 : (c.toNat : Int) = 116
  ·have b116 : ((c.toNat : Int) == 116) = true := by simpa using c116
   obtain ⟨t1, ht1⟩ := head_cons Hc.out (by omega)
   obtain rfl : bad = false := val_bad Hb.out Hs1.out Hc.out (by omega)
   have hcn : c = 116 := by apply UInt8.toNat_inj.1; simpa using (by omega : c.toNat = 116)
   have Hval := Lib.hid (show valL (f + 1) s.data.toList = if (⟨#[116, 114, 117, 101]⟩ : ByteArray).data.toList.isPrefixOf s1.data.toList = true then some (trueV, s1.data.toList.drop 4) else none from by rw [ht1, hcn]; exact vl_true (by rw [← Hs1.out, ht1, hcn]))
   clear ht1 hcn
   go_wp2_with fail
   (refine (take_any r s1 false ⟨#[116, 114, 117, 101]⟩ _ hr1).mono ?_)
   rintro e w3 ⟨rfl, h3, hcase⟩
   have hB3 := Box.rd h3 hB (by omega)
   have hx3 := hx1.trans h3
   have hz3 := h3.size
   have Hcase := Lib.hid hcase
   clear hcase h3 hB hx1 hr1 hc1 hf1 hl1
   have hc3 := hB3.cells; have hf3 := hB3.free; have hl3 := hB3.lt
   go_wp2_with fail
   (with_reducible apply bp_ret); (focus (go_light; simp [results, Tryz.results42, go_sem, *]; rfl))
   rcases Hcase.out with ⟨hp, s3, hs3, hr3⟩ | ⟨hp, hr3⟩
   ·exact ⟨Rxt, trueV, none, 0, none, 0, s3, false, rfl, (V.in_iff ..).2 ⟨SlOk.nil, SlOk.nil, .inl rfl, .inl rfl⟩, Srt, .inl ⟨rfl, by rw [Hval.out, if_pos hp, hs3]; rfl⟩⟩
   ·exact ⟨Rxt, trueV, none, 0, none, 0, ⟨#[]⟩, true, rfl, (V.in_iff ..).2 ⟨SlOk.nil, SlOk.nil, .inl rfl, .inl rfl⟩, Srt, .inr ⟨rfl, rfl, by rw [Hval.out, if_neg (by rw [hp]; decide)]⟩⟩
  have b116 : ((c.toNat : Int) == 116) = false := by simpa using c116
  by_cases c102 : (c.toNat : Int) = 102
  ·have b102 : ((c.toNat : Int) == 102) = true := by simpa using c102
   obtain ⟨t1, ht1⟩ := head_cons Hc.out (by omega)
   obtain rfl : bad = false := val_bad Hb.out Hs1.out Hc.out (by omega)
   have hcn : c = 102 := by apply UInt8.toNat_inj.1; simpa using (by omega : c.toNat = 102)
   have Hval := Lib.hid (show valL (f + 1) s.data.toList = if (⟨#[102, 97, 108, 115, 101]⟩ : ByteArray).data.toList.isPrefixOf s1.data.toList = true then some (falseV, s1.data.toList.drop 5) else none from by rw [ht1, hcn]; exact vl_false (by rw [← Hs1.out, ht1, hcn]))
   clear ht1 hcn
   go_wp2_with fail
   (refine (take_any r s1 false ⟨#[102, 97, 108, 115, 101]⟩ _ hr1).mono ?_)
   rintro e w3 ⟨rfl, h3, hcase⟩
   have hB3 := Box.rd h3 hB (by omega)
   have hx3 := hx1.trans h3
   have hz3 := h3.size
   have Hcase := Lib.hid hcase
   clear hcase h3 hB hx1 hr1 hc1 hf1 hl1
   have hc3 := hB3.cells; have hf3 := hB3.free; have hl3 := hB3.lt
   go_wp2_with fail
   (with_reducible apply bp_ret); (focus (go_light; simp [results, Tryz.results42, go_sem, *]; rfl))
   rcases Hcase.out with ⟨hp, s3, hs3, hr3⟩ | ⟨hp, hr3⟩
   ·exact ⟨Rxt, falseV, none, 0, none, 0, s3, false, rfl, (V.in_iff ..).2 ⟨SlOk.nil, SlOk.nil, .inl rfl, .inl rfl⟩, Srt, .inl ⟨rfl, by rw [Hval.out, if_pos hp, hs3]; rfl⟩⟩
   ·exact ⟨Rxt, falseV, none, 0, none, 0, ⟨#[]⟩, true, rfl, (V.in_iff ..).2 ⟨SlOk.nil, SlOk.nil, .inl rfl, .inl rfl⟩, Srt, .inr ⟨rfl, rfl, by rw [Hval.out, if_neg (by rw [hp]; decide)]⟩⟩
  have b102 : ((c.toNat : Int) == 102) = false := by simpa using c102
  by_cases c34 : (c.toNat : Int) = 34
  ·have b34 : ((c.toNat : Int) == 34) = true := by simpa using c34
   obtain ⟨t1, ht1⟩ := head_cons Hc.out (by omega)
   obtain rfl : bad = false := val_bad Hb.out Hs1.out Hc.out (by omega)
   have hcn : c = 34 := by apply UInt8.toNat_inj.1; simpa using (by omega : c.toNat = 34)
   have Hs1c := Lib.hid (show s1.data.toList = 34 :: t1 by rw [ht1, hcn])
   have Hval := Lib.hid (vl_text (f := f) (Hs1.out.symm.trans Hs1c.out))
   clear ht1 hcn
   go_wp2_with fail
   (refine (text_any r s1 t1 Hs1c.out hs1z _ hr1).mono ?_); rintro e w3 hT
   obtain ⟨h3, b, s3, bad3, rfl, -, hr3, hcase⟩ := hT
   have hB3 := Box.rd h3 hB (by omega)
   have hx3 := hx1.trans h3
   have hz3 := h3.size
   have Hcase := Lib.hid hcase
   clear hcase h3 hB hx1 hr1 hc1 hf1 hl1
   have hc3 := hB3.cells; have hf3 := hB3.free; have hl3 := hB3.lt
   go_wp2_with fail
   (with_reducible apply bp_ret); (focus (go_light; simp [results, Tryz.results42, go_sem, *]; rfl))
   refine ⟨Rxt, .mk 3 0 b [] [], none, 0, none, 0, s3, bad3, rfl, (V.in_iff ..).2 ⟨SlOk.nil, SlOk.nil, .inl rfl, .inl rfl⟩, Srt, ?_⟩
   rw [Hval.out]
   rcases Hcase.out with ⟨rfl, h⟩ | ⟨rfl, h0, h⟩
   ·exact .inl ⟨rfl, by rw [h]; rfl⟩
   ·exact .inr ⟨rfl, h0, by rw [h]; rfl⟩
  have b34 : ((c.toNat : Int) == 34) = false := by simpa using c34
  by_cases c91 : (c.toNat : Int) = 91
  ·have b91 : ((c.toNat : Int) == 91) = true := by simpa using c91
   have b45 : ((c.toNat : Int) == 45) = false := by simpa using (by omega : (c.toNat : Int) ≠ 45)
   have d48 : decide ((48 : Int) ≤ (c.toNat : Int)) = true := by simpa using (by omega : (48 : Int) ≤ (c.toNat : Int))
   have d57 : decide ((c.toNat : Int) ≤ 57) = false := by simpa using (by omega : (57 : Int) < (c.toNat : Int))
   obtain ⟨t1, ht1⟩ := head_cons Hc.out (by omega)
   obtain rfl : bad = false := val_bad Hb.out Hs1.out Hc.out (by omega)
   have hcn : c = 91 := by apply UInt8.toNat_inj.1; simpa using (by omega : c.toNat = 91)
   have Hs1c := Lib.hid (show s1.data.toList = 91 :: t1 by rw [ht1, hcn])
   have Hval := Lib.hid (vl_list (f := f) (Hs1.out.symm.trans Hs1c.out))
   clear ht1 hcn
   go_wp2_with fail
   (refine (list_any f ih r d Hdf.out (by omega) s1 t1 Hs1c.out hs1z _ hr1 (Hl.out.on (Rd.below (Rd.ext hx1 hlt Xt)))).mono ?_)
   rintro e w3 ⟨h3, v, ka, kc, la, lc, s3, bad3, rfl, hin3, hr3, hcase⟩
   have Hin3 := Lib.hid hin3
   clear hin3
   have hB3 := Box.rd h3 hB (by omega)
   have hx3 := hx1.trans h3
   have hz3 := h3.size
   have Hcase := Lib.hid hcase
   clear hcase h3 hB hx1 hr1 hc1 hf1 hl1
   have hc3 := hB3.cells; have hf3 := hB3.free; have hl3 := hB3.lt
   go_wp2_with fail
   (with_reducible apply bp_ret); (focus (go_light; simp [results, Tryz.results42, go_sem, *]; rfl))
   refine ⟨Rxt, v, ka, kc, la, lc, s3, bad3, rfl, Hin3.out.keep (Held.kept (a := w3) (T := fun b => wn.heap.size ≤ b) Hxt) (fun b hb _ => by omega), Srt, ?_⟩
   rw [Hval.out]
   exact Hcase.out
  have b91 : ((c.toNat : Int) == 91) = false := by simpa using c91
  by_cases c123 : (c.toNat : Int) = 123
  ·have b123 : ((c.toNat : Int) == 123) = true := by simpa using c123
   have b45 : ((c.toNat : Int) == 45) = false := by simpa using (by omega : (c.toNat : Int) ≠ 45)
   have d48 : decide ((48 : Int) ≤ (c.toNat : Int)) = true := by simpa using (by omega : (48 : Int) ≤ (c.toNat : Int))
   have d57 : decide ((c.toNat : Int) ≤ 57) = false := by simpa using (by omega : (57 : Int) < (c.toNat : Int))
   obtain ⟨t1, ht1⟩ := head_cons Hc.out (by omega)
   obtain rfl : bad = false := val_bad Hb.out Hs1.out Hc.out (by omega)
   have hcn : c = 123 := by apply UInt8.toNat_inj.1; simpa using (by omega : c.toNat = 123)
   have Hs1c := Lib.hid (show s1.data.toList = 123 :: t1 by rw [ht1, hcn])
   have Hval := Lib.hid (vl_obj (f := f) (Hs1.out.symm.trans Hs1c.out))
   clear ht1 hcn
   go_wp2_with fail
   (refine (object_any f ih r d Hdf.out (by omega) s1 t1 Hs1c.out hs1z _ hr1 (Hl.out.on (Rd.below (Rd.ext hx1 hlt Xt)))).mono ?_)
   rintro e w3 ⟨h3, v, ka, kc, la, lc, s3, bad3, rfl, hin3, hr3, hcase⟩
   have Hin3 := Lib.hid hin3
   clear hin3
   have hB3 := Box.rd h3 hB (by omega)
   have hx3 := hx1.trans h3
   have hz3 := h3.size
   have Hcase := Lib.hid hcase
   clear hcase h3 hB hx1 hr1 hc1 hf1 hl1
   have hc3 := hB3.cells; have hf3 := hB3.free; have hl3 := hB3.lt
   go_wp2_with fail
   (with_reducible apply bp_ret); (focus (go_light; simp [results, Tryz.results42, go_sem, *]; rfl))
   refine ⟨Rxt, v, ka, kc, la, lc, s3, bad3, rfl, Hin3.out.keep (Held.kept (a := w3) (T := fun b => wn.heap.size ≤ b) Hxt) (fun b hb _ => by omega), Srt, ?_⟩
   rw [Hval.out]
   exact Hcase.out
  have b123 : ((c.toNat : Int) == 123) = false := by simpa using c123
  by_cases c45 : (c.toNat : Int) = 45
  ·have b45 : ((c.toNat : Int) == 45) = true := by simpa using c45
   obtain ⟨t1, ht1⟩ := head_cons Hc.out (by omega)
   obtain rfl : bad = false := val_bad Hb.out Hs1.out Hc.out (by omega)
   have hdg : c = 45 ∨ isDg c = true := .inl (by apply UInt8.toNat_inj.1; simpa using (by omega : c.toNat = 45))
   have Hs1c := Lib.hid ht1
   have Hval := Lib.hid (vl_num (f := f) (Hs1.out.symm.trans ht1) hdg)
   clear ht1 hdg
   go_wp2_with fail
   (refine (number_any r s1 c t1 Hs1c.out hs1z _ hr1 (Hl.out.on (Rd.below (Rd.ext hx1 hlt Xt)))).mono ?_)
   rintro e w3 ⟨h3, k, s3, bad3, rfl, hr3, hcase⟩
   have hB3 := Box.rd h3 hB (by omega)
   have hx3 := hx1.trans h3
   have hz3 := h3.size
   have Hcase := Lib.hid hcase
   clear hcase h3 hB hx1 hr1 hc1 hf1 hl1
   have hc3 := hB3.cells; have hf3 := hB3.free; have hl3 := hB3.lt
   go_wp2_with fail
   (with_reducible apply bp_ret); (focus (go_light; simp [results, Tryz.results42, go_sem, *]; rfl))
   refine ⟨Rxt, .mk 2 k ⟨#[]⟩ [] [], none, 0, none, 0, s3, bad3, rfl, (V.in_iff ..).2 ⟨SlOk.nil, SlOk.nil, .inl rfl, .inl rfl⟩, Srt, ?_⟩
   rw [Hval.out, ← Hs1c.out]
   rcases Hcase.out with ⟨rfl, h⟩ | ⟨rfl, h0, h⟩
   ·exact .inl ⟨rfl, by rw [h]; rfl⟩
   ·exact .inr ⟨rfl, h0, by rw [h]; rfl⟩
  have b45 : ((c.toNat : Int) == 45) = false := by simpa using c45
  by_cases c48 : (48 : Int) ≤ (c.toNat : Int)
  ·have d48 : decide ((48 : Int) ≤ (c.toNat : Int)) = true := by simpa using c48
   by_cases c57 : (c.toNat : Int) ≤ 57
   ·have d57 : decide ((c.toNat : Int) ≤ 57) = true := by simpa using c57
    obtain ⟨t1, ht1⟩ := head_cons Hc.out (by omega)
    obtain rfl : bad = false := val_bad Hb.out Hs1.out Hc.out (by omega)
    have hdg : c = 45 ∨ isDg c = true := .inr (by rw [isDg_int, d48, d57]; rfl)
    have Hs1c := Lib.hid ht1
    have Hval := Lib.hid (vl_num (f := f) (Hs1.out.symm.trans ht1) hdg)
    clear ht1 hdg
    go_wp2_with fail
    (refine (number_any r s1 c t1 Hs1c.out hs1z _ hr1 (Hl.out.on (Rd.below (Rd.ext hx1 hlt Xt)))).mono ?_)
    rintro e w3 ⟨h3, k, s3, bad3, rfl, hr3, hcase⟩
    have hB3 := Box.rd h3 hB (by omega)
    have hx3 := hx1.trans h3
    have hz3 := h3.size
    have Hcase := Lib.hid hcase
    clear hcase h3 hB hx1 hr1 hc1 hf1 hl1
    have hc3 := hB3.cells; have hf3 := hB3.free; have hl3 := hB3.lt
    go_wp2_with fail
    (with_reducible apply bp_ret); (focus (go_light; simp [results, Tryz.results42, go_sem, *]; rfl))
    refine ⟨Rxt, .mk 2 k ⟨#[]⟩ [] [], none, 0, none, 0, s3, bad3, rfl, (V.in_iff ..).2 ⟨SlOk.nil, SlOk.nil, .inl rfl, .inl rfl⟩, Srt, ?_⟩
    rw [Hval.out, ← Hs1c.out]
    rcases Hcase.out with ⟨rfl, h⟩ | ⟨rfl, h0, h⟩
    ·exact .inl ⟨rfl, by rw [h]; rfl⟩
    ·exact .inr ⟨rfl, h0, by rw [h]; rfl⟩
   ·have d57 : decide ((c.toNat : Int) ≤ 57) = false := by simpa using c57
    have hno : c ≠ 110 ∧ c ≠ 116 ∧ c ≠ 102 ∧ c ≠ 34 ∧ ¬ (c = 45 ∨ isDg c = true) ∧ c ≠ 91 ∧ c ≠ 123 := ⟨ne_of_int c110, ne_of_int c116, ne_of_int c102, ne_of_int c34, fun h => h.elim (ne_of_int c45) (fun h => by rw [isDg_int, d57] at h; simp at h), ne_of_int c91, ne_of_int c123⟩
    have Hval := Lib.hid (vl_none (f := f) Hs1.out Hc.out hno)
    clear hno
    go_wp2_with fail
    (refine (fail_any r s1 bad _ hr1).mono ?_); rintro e w3 ⟨rfl, hr3, h3⟩
    have hcase := True.intro
    have hB3 := Box.rd h3 hB (by omega)
    have hx3 := hx1.trans h3
    have hz3 := h3.size
    have Hcase := Lib.hid hcase
    clear hcase h3 hB hx1 hr1 hc1 hf1 hl1
    have hc3 := hB3.cells; have hf3 := hB3.free; have hl3 := hB3.lt
    go_wp2_with fail
    (with_reducible apply bp_ret); (focus (go_light; simp [results, Tryz.results42, go_sem, *]; rfl))
    exact ⟨Rxt, V.zero, none, 0, none, 0, ⟨#[]⟩, true, rfl, V.zero_in _ _, Srt, .inr ⟨rfl, rfl, Hval.out⟩⟩
  ·have d48 : decide ((48 : Int) ≤ (c.toNat : Int)) = false := by simpa using c48
   have hno : c ≠ 110 ∧ c ≠ 116 ∧ c ≠ 102 ∧ c ≠ 34 ∧ ¬ (c = 45 ∨ isDg c = true) ∧ c ≠ 91 ∧ c ≠ 123 := ⟨ne_of_int c110, ne_of_int c116, ne_of_int c102, ne_of_int c34, fun h => h.elim (ne_of_int c45) (fun h => by rw [isDg_int, d48] at h; simp at h), ne_of_int c91, ne_of_int c123⟩
   have Hval := Lib.hid (vl_none (f := f) Hs1.out Hc.out hno)
   clear hno
   go_wp2_with fail
   (refine (fail_any r s1 bad _ hr1).mono ?_); rintro e w3 ⟨rfl, hr3, h3⟩
   have hcase := True.intro
   have hB3 := Box.rd h3 hB (by omega)
   have hx3 := hx1.trans h3
   have hz3 := h3.size
   have Hcase := Lib.hid hcase
   clear hcase h3 hB hx1 hr1 hc1 hf1 hl1
   have hc3 := hB3.cells; have hf3 := hB3.free; have hl3 := hB3.lt
   go_wp2_with fail
   (with_reducible apply bp_ret); (focus (go_light; simp [results, Tryz.results42, go_sem, *]; rfl))
   exact ⟨Rxt, V.zero, none, 0, none, 0, ⟨#[]⟩, true, rfl, V.zero_in _ _, Srt, .inr ⟨rfl, rfl, Hval.out⟩⟩
end Go.Proofs.YtjibdbnpkfghhaaGreatDoor
