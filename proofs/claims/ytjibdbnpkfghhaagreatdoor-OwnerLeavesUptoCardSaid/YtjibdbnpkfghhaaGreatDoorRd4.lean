/- The walk of the reader's text. -/
import Derived.Test.YtjibdbnpkfghhaaGreatDoorRd3
import Derived.Test.YtjibdbnpkfghhaaGreatDoorPrint
set_option linter.all false
namespace Go.Proofs.YtjibdbnpkfghhaaGreatDoor
open Go.RowKit
attribute [local go_sem ↓] Go.wp_at_zero Go.wp_at_succ
def TextR (r : Nat) (t : Bytes) (w : World) (e : Ending) (w' : World) : Prop :=
 Rd r w w' ∧ ∃ (b s' : ByteArray) (bad' : Bool), e = .returned (.string b) ∧ b.size ≤ 61 ∧ Sr w' r s' bad' ∧ ((bad' = false ∧ textL (t.length + 1) t [] = some (b.data.toList, s'.data.toList)) ∨ (bad' = true ∧ s'.data.toList = [] ∧ textL (t.length + 1) t [] = none))
theorem Rd.grown {r : Nat} {a b c : World} (h : Rd r a b) {row : Option Nat} (g : b.grownBy c row) (hr : ∀ k, row = some k → a.heap.size ≤ k) (hra : r < a.heap.size) : Rd r a c := by
 refine ⟨Below.grown h.below g (by have := h.size; omega) (fun k hk => by have := hr k hk; omega), ⟨Nat.le_trans h.size g.size, fun k hk hl => ?_⟩⟩
 rw [g.block k (Nat.lt_of_lt_of_le hl h.size) (fun e => by have := hr k e.symm; omega)]
 exact h.held.block k hk hl
theorem OwnB.rd {r B : Nat} {w w' : World} {v : Value} {l : Bytes} (e : Rd r w w') (hB : r < B) (h : OwnB w B v l) : OwnB w' B v l :=
 ownsRow_keep h (fun b hb hg => e.held.block b (by have := (h.lt b hg).1; omega) hb)
def TxInv (R : Option (Bytes × Bytes)) (s : ByteArray) (bad : Bool) (bs : Bytes) : Prop :=
 (bad = true → s.data.toList = []) ∧ ((bad = false ∧ textL (s.size + 1) s.data.toList bs = R) ∨ (bad = true ∧ R = none))
theorem tx_end {R : Option (Bytes × Bytes)} {s : ByteArray} {bs : Bytes} (h : TxInv R s false bs) (hb : (headB s.data.toList).toNat < 32 ∨ 127 ≤ (headB s.data.toList).toNat ∨ 60 < bs.length) : R = none := by
 rcases h.2 with ⟨-, h⟩ | ⟨h, -⟩
 ·rw [← h]
  cases hq : s.data.toList with
  | nil => rfl
  | cons c t =>
   rw [hq] at hb
   have hb : c.toNat < 32 ∨ 127 ≤ c.toNat ∨ 60 < bs.length := hb
   rw [textL, if_pos hb]
 ·cases h
theorem tx_step {R : Option (Bytes × Bytes)} {s u : ByteArray} {bs : Bytes} (h : TxInv R s false bs) {c : UInt8} (hc : s.data.toList = c :: u.data.toList) (hb : ¬ (c.toNat < 32 ∨ 127 ≤ c.toNat ∨ 60 < bs.length)) :
  R = if c = 34 then some (bs, u.data.toList) else if c = 92 then (escL u.data.toList).bind fun p => textL s.size p.2 (bs ++ [p.1]) else textL s.size u.data.toList (bs ++ [c]) := by
 rcases h.2 with ⟨-, h⟩ | ⟨h, -⟩
 ·rw [← h, hc, textL, if_neg hb]
 ·cases h
theorem tx_fuel {s u : ByteArray} {c : UInt8} (hc : s.data.toList = c :: u.data.toList) : s.size = u.size + 1 := by
 have h1 : s.data.toList.length = s.size := Array.length_toList
 have h2 : u.data.toList.length = u.size := Array.length_toList
 rw [hc, List.length_cons, h2] at h1
 exact h1.symm
set_option maxRecDepth 100000 in
set_option maxHeartbeats 4000000 in
theorem text_any (r : Nat) (s : ByteArray) (t : Bytes) (hs : s.data.toList = 34 :: t) (hsz : s.size ≤ 1048576) (w : World) (hr : Sr w r s false) :
  Calls Tryz.prog 97 #[.pointer (some ⟨r, 0, none⟩)] w (TextR r t w) := by
 have hlt := hr.lt
 obtain ⟨R, hR⟩ : ∃ R, textL (t.length + 1) t [] = R := ⟨_, rfl⟩
 unfold TextR
 rw [hR]
 have Hs := Lib.hid hs
 have HR := Lib.hid hR
 clear hs hR
 go_enter Tryz.func97, Tryz.ntmps97
 go_wp2_with fail
 (refine (take_any r s false ⟨#[34]⟩ _ hr).mono ?_)
 rintro e w1 ⟨rfl, h1, (⟨hp, s1, hs1, hr1⟩ | ⟨hp, hr1⟩)⟩
 rotate_left
 ·rw [Hs.out] at hp; simp [List.isPrefixOf] at hp
 have hst : s1.data.toList = t := by rw [hs1, Hs.out]; rfl
 have hl1 : t.length = s1.size := by rw [← hst]; exact Array.length_toList
 have hl0 : s.size = t.length + 1 := by
  have : s.data.toList.length = s.size := Array.length_toList
  rw [Hs.out] at this
  exact this.symm
 have hti : TxInv R s1 false [] := ⟨(fun h => by cases h), .inl ⟨rfl, by rw [hst, ← hl1, HR.out]⟩⟩
 have Hti := Lib.hid hti
 have hs1z : s1.size ≤ 1048576 := by omega
 have hown0 := Lib.hid (OwnB.nil w1 w.heap.size)
 clear hp hs1 hst hti hl0 hl1
 go_wp2_with fail
 go_loopg [3, 4] s1.size (fun g t3 _ wr => ∃ (s2 : ByteArray) (bad : Bool) (bs : Bytes) (a0 : Option Addr) (c0 : Nat), t3 = .slice a0 bs.length c0 ∧ Sr wr r s2 bad ∧ OwnB wr w.heap.size (.slice a0 bs.length c0) bs ∧ bs.length ≤ 61 ∧ g = s2.size ∧ s2.size ≤ 1048576 ∧ Rd r w wr ∧ TxInv R s2 bad bs)
 case atStart => exact ⟨s1, false, [], none, 0, rfl, hr1, hown0.out, by simp, rfl, hs1z, h1, Hti.out⟩
 case round =>
  clear hr1 h1 Hti hs1z hown0 hr
  obtain ⟨s2, bad, bs, a0, c0, rfl, hr2, hown, hbl, rfl, hsz2, hx, hti⟩ := hrel
  have Hown := Lib.hid hown
  have Hti := Lib.hid hti
  have Hfr := Lib.hid (show ∀ g, (Value.slice a0 bs.length c0).ownBlock = some g → w.heap.size ≤ g from fun g hg => (hown.lt g hg).1)
  have Hnr := Lib.hid (show some r ≠ (Value.slice a0 bs.length c0).ownBlock from fun h => by have := Hfr.out r h.symm; omega)
  have hxs := hx.size
  clear hown hti
  have hcr := hr2.cells
  have hfr := hr2.free
  have hlr := hr2.lt
  cases bad with
  | true =>
   have Hnone := Lib.hid (show R = none from by rcases Hti.out.2 with ⟨h, -⟩ | ⟨-, h⟩; cases h; exact h)
   have Hnil := Lib.hid (Hti.out.1 rfl)
   go_wp2_with fail
   (with_reducible apply bp_ret); (focus (go_light; simp [results, Tryz.results97, go_sem, *]; rfl))
   rw [Hnone.out]
   exact ⟨hx, ⟨#[]⟩, s2, true, rfl, by decide, hr2, .inr ⟨rfl, Hnil.out, rfl⟩⟩
  | false =>
   obtain ⟨c, hc⟩ : ∃ c, headB s2.data.toList = c := ⟨_, rfl⟩
   have Hc := Lib.hid hc
   clear hc
   by_cases hbad : (c.toNat : Int) < 32 ∨ 127 ≤ (c.toNat : Int) ∨ 60 < (bs.length : Int)
   ·have Hnone := Lib.hid (tx_end Hti.out (by rw [Hc.out]; omega))
    by_cases q1 : (c.toNat : Int) < 32
    ·have q1b : decide ((c.toNat : Int) < 32) = true := by simpa using q1
     clear hbad
     go_wp2_with fail
     (refine (next_any r s2 false _ hr2).mono ?_); rintro e w3 ⟨rfl, rfl⟩
     rw [Hc.out]
     go_wp2_with fail
     (refine (fail_any r s2 false _ hr2).mono ?_); rintro e w4 ⟨rfl, hr4, h4⟩
     have h5 := hx.trans h4
     go_wp2_with fail
     (with_reducible apply bp_ret); (focus (go_light; simp [results, Tryz.results97, go_sem, *]; rfl))
     rw [Hnone.out]
     exact ⟨h5, ⟨#[]⟩, ⟨#[]⟩, true, rfl, by decide, hr4, .inr ⟨rfl, rfl, rfl⟩⟩
    ·have q1b : decide ((c.toNat : Int) < 32) = false := by simpa using q1
     by_cases q2 : 127 ≤ (c.toNat : Int)
     ·have q2b : decide (127 ≤ (c.toNat : Int)) = true := by simpa using q2
      clear hbad
      go_wp2_with fail
      (refine (next_any r s2 false _ hr2).mono ?_); rintro e w3 ⟨rfl, rfl⟩
      rw [Hc.out]
      go_wp2_with fail
      (refine (fail_any r s2 false _ hr2).mono ?_); rintro e w4 ⟨rfl, hr4, h4⟩
      have h5 := hx.trans h4
      go_wp2_with fail
      (with_reducible apply bp_ret); (focus (go_light; simp [results, Tryz.results97, go_sem, *]; rfl))
      rw [Hnone.out]
      exact ⟨h5, ⟨#[]⟩, ⟨#[]⟩, true, rfl, by decide, hr4, .inr ⟨rfl, rfl, rfl⟩⟩
     ·have q2b : decide (127 ≤ (c.toNat : Int)) = false := by simpa using q2
      have q3 : 60 < bs.length := by omega
      have q3i : (60 : Int) < (bs.length : Int) := by omega
      clear hbad
      go_wp2_with fail
      (refine (next_any r s2 false _ hr2).mono ?_); rintro e w3 ⟨rfl, rfl⟩
      rw [Hc.out]
      go_wp2_with fail
      (refine (fail_any r s2 false _ hr2).mono ?_); rintro e w4 ⟨rfl, hr4, h4⟩
      have h5 := hx.trans h4
      go_wp2_with fail
      (with_reducible apply bp_ret); (focus (go_light; simp [results, Tryz.results97, go_sem, *]; rfl))
      rw [Hnone.out]
      exact ⟨h5, ⟨#[]⟩, ⟨#[]⟩, true, rfl, by decide, hr4, .inr ⟨rfl, rfl, rfl⟩⟩
   ·have q1 : ¬ (c.toNat : Int) < 32 := by omega
    have q2 : ¬ 127 ≤ (c.toNat : Int) := by omega
    have q3 : ¬ 60 < bs.length := by omega
    have q3i : ¬ (60 : Int) < (bs.length : Int) := by omega
    have q1b : decide ((c.toNat : Int) < 32) = false := by simpa using q1
    have q2b : decide (127 ≤ (c.toNat : Int)) = false := by simpa using q2
    have hne : s2.data.toList ≠ [] := fun h => by
     have := Hc.out
     rw [h] at this
     rw [← this] at q1
     exact q1 (by decide)
    have hlen2 : s2.data.toList.length = s2.size := Array.length_toList
    have hpos : 1 ≤ s2.size := by rw [← hlen2]; exact List.length_pos_iff.2 hne
    have hpos1 : (1 : Int) ≤ (s2.size : Int) := by omega
    obtain ⟨u, hu⟩ : ∃ u, s2.extract 1 s2.size = u := ⟨_, rfl⟩
    have hul : u.data.toList = s2.data.toList.drop 1 := by rw [← hu]; exact drop_list s2 1
    have hcons : s2.data.toList = c :: u.data.toList := by
     rw [hul]
     have := Hc.out
     cases hq : s2.data.toList with
     | nil => exact absurd hq hne
     | cons d t => rw [hq] at this; simp only [headB, List.headD_cons] at this; rw [this]; rfl
    have Hfu := Lib.hid (tx_fuel hcons)
    have Hst := Lib.hid (tx_step Hti.out hcons (by omega))
    clear hbad hne hlen2 hul hcons
    have hR : Rd r w (wr.setCell ⟨r, 0, none⟩ (.string u)) := hx.set _ _
    have hru : Sr (wr.setCell ⟨r, 0, none⟩ (.string u)) r u false := Bxt
    have hownu : OwnB (wr.setCell ⟨r, 0, none⟩ (.string u)) w.heap.size (.slice a0 bs.length c0) bs := OwnB.rd ((Rd.refl r wr).set _ _) hlt Hown.out
    have Hownu := Lib.hid hownu
    clear hownu
    by_cases h34 : (c.toNat : Int) = 34
    ·have c34 : c = 34 := by apply UInt8.toNat_inj.1; simpa using (by omega : c.toNat = 34)
     have Hsome := Lib.hid (show R = some (bs, u.data.toList) by have := Hst.out; rw [if_pos c34] at this; exact this)
     have hcv := run_str Hownu.out
     have h34b : ((c.toNat : Int) == 34) = true := by simpa using h34
     clear c34 Hst
     go_wp2_with fail
     (refine (next_any r s2 false _ hr2).mono ?_); rintro e w3 ⟨rfl, rfl⟩
     rw [Hc.out]
     go_wp2_with fail
     (with_reducible apply bp_ret); (focus (go_light; simp [results, Tryz.results97, go_sem, *]; rfl))
     rw [Hsome.out]
     exact ⟨hR, ⟨bs.toArray⟩, u, false, rfl, by simpa [ByteArray.size] using hbl, hru, .inl ⟨rfl, by simp⟩⟩
    ·have c34 : c ≠ 34 := fun h => h34 (by rw [h]; rfl)
     have h34b : ((c.toNat : Int) == 34) = false := by simpa using h34
     have husz : u.size ≤ 1048576 := by have := Hfu.out; omega
     go_wp2_with fail
     (refine (next_any r s2 false _ hr2).mono ?_); rintro e w3 ⟨rfl, rfl⟩
     rw [Hc.out]
     go_upto_region 9 with fail
     refine gen_world (R := fun wx => Sr wx r u false ∧ OwnB wx w.heap.size (.slice a0 bs.length c0) bs ∧ Rd r w wx) ⟨hru, Hownu.out, hR⟩ ?_
     clear hru Hownu hR hx Hown hr2 hcr hfr hlr hxs
     rintro wz ⟨hrz, hownz, hxz⟩
     have Hownz := Lib.hid hownz
     have hlz := hxz.size
     clear hownz
     by_cases h92 : (c.toNat : Int) = 92
     ·have c92 : c = 92 := by apply UInt8.toNat_inj.1; simpa using (by omega : c.toNat = 92)
      have h92b : ((c.toNat : Int) == 92) = true := by simpa using h92
      have Hst2 := Lib.hid (show R = (escL u.data.toList).bind fun p => textL s2.size p.2 (bs ++ [p.1]) by have := Hst.out; rw [if_neg c34, if_pos c92] at this; exact this)
      have H92 := Lib.hid h92
      clear c92 c34 Hst h92
      go_wp2_with fail
      (refine (escape_any r u husz _ hrz).mono ?_)
      rintro e w5 ⟨h5, m, u2, bad2, rfl, hr5, hcase⟩
      have hx5 := hxz.trans h5
      have Hown5 := Lib.hid (OwnB.rd h5 hlt Hownz.out)
      have hul5 : u2.data.toList.length = u2.size := Array.length_toList
      have hul6 : u.data.toList.length = u.size := Array.length_toList
      have htx : u2.size < s2.size ∧ TxInv R u2 bad2 (bs ++ [m]) := by
       rcases hcase with ⟨rfl, he⟩ | ⟨rfl, h0, he⟩
       ·have h1 := escL_len he
        simp only at h1
        have h2 := Hfu.out
        refine ⟨by omega, (fun h => by cases h), .inl ⟨rfl, ?_⟩⟩
        rw [Hst2.out, he]
        exact textL_fuel _ _ _ _ (by omega) (by omega)
       ·have h2 := Hfu.out
        rw [h0] at hul5
        refine ⟨by simp at hul5; omega, fun _ => h0, .inr ⟨rfl, ?_⟩⟩
        rw [Hst2.out, he]; rfl
      obtain ⟨hlt2, htx⟩ := htx
      have Htx := Lib.hid htx
      clear hcase htx hul5 hul6 hrz hxz
      go_wp2_with (at_builtin; refine wpl_app (by rfl) _ _ _ (by rfl) (by rfl) w.heap.size (.slice a0 bs.length c0) bs (by rfl) (Hown5.out.ext Xt) ⟨(w5).heap.size, 0, none⟩ 1 1 [m] (by rfl) (by rfl) (World.news_of_block (cs := #[.int .u8 (m).toNat]) (t := 5) (fr := (0, 0)) (heap_alloc_new w5 _)) (by omega) (by have := Rd.size hx5; simp; omega) ?_; intro v7 w7 hown7 hgrow7; have hr7 : Sr w7 r u2 bad2 := Box.grown (Box.alloc hr5 _) hgrow7 Hnr.out; have hx7 : Rd r w w7 := Rd.grown (Rd.ext hx5 hlt Xt) hgrow7 (fun g hg => (Hfr.out g hg)) hlt; obtain ⟨a7, c7, rfl, -⟩ := hown7.form; have Hown7 := Lib.hid hown7; clear hown7 hgrow7)
      go_roundg u2.size
      case measure => exact hlt2
      case rel => exact ⟨u2, bad2, bs ++ [m], a7, c7, by simp, hr7, Hown7.out, by simp; omega, rfl, by omega, hx7, Htx.out⟩
     ·have c92 : c ≠ 92 := fun h => h92 (by rw [h]; rfl)
      have h92b : ((c.toNat : Int) == 92) = false := by simpa using h92
      have htx : TxInv R u false (bs ++ [c]) := by
       have h1 := Hst.out
       rw [if_neg c34, if_neg c92] at h1
       exact ⟨(fun h => by cases h), .inl ⟨rfl, by rw [h1, Hfu.out]⟩⟩
      have Htx := Lib.hid htx
      clear htx c34 c92
      go_wp2_with (at_builtin; refine wpl_app (by rfl) _ _ _ (by rfl) (by rfl) w.heap.size (.slice a0 bs.length c0) bs (by rfl) (Hownz.out.ext Xt) ⟨(wz).heap.size, 0, none⟩ 1 1 [c] (by rfl) (by rfl) (World.news_of_block (cs := #[.int .u8 (c).toNat]) (t := 5) (fr := (0, 0)) (heap_alloc_new wz _)) (by omega) (by have := Rd.size hxz; simp; omega) ?_; intro v7 w7 hown7 hgrow7; have hr7 : Sr w7 r u false := Box.grown (Box.alloc hrz _) hgrow7 Hnr.out; have hx7 : Rd r w w7 := Rd.grown (Rd.ext hxz hlt Xt) hgrow7 (fun g hg => (Hfr.out g hg)) hlt; obtain ⟨a7, c7, rfl, -⟩ := hown7.form; have Hown7 := Lib.hid hown7; clear hown7 hgrow7)
      go_roundg u.size
      case measure => have := Hfu.out; omega
      case rel => exact ⟨u, false, bs ++ [c], a7, c7, by simp, hr7, Hown7.out, by simp; omega, rfl, husz, hx7, Htx.out⟩
end Go.Proofs.YtjibdbnpkfghhaaGreatDoor
