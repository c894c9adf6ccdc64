/- The walk of the reader's object, its code. -/
import Derived.Test.YtjibdbnpkfghhaaGreatDoorRd6
import Derived.Test.YtjibdbnpkfghhaaGreatDoorPkA
set_option linter.all false
namespace Go.Proofs.YtjibdbnpkfghhaaGreatDoor
open Go.RowKit
attribute [local go_sem ↓] Go.wp_at_zero Go.wp_at_succ
set_option maxRecDepth 100000 in
set_option maxHeartbeats 8000000 in
theorem object_any (f : Nat) (hv : ValC f) (r : Nat) (d : Int) (hd : d = 12 - (f : Int)) (hf : f ≤ 12) (s : ByteArray) (t : Bytes) (hs : s.data.toList = 123 :: t) (hsz : s.size ≤ 1048576) (w : World) (hr : Sr w r s false) (hl : LibB r w) :
  Calls Tryz.prog 100 #[.pointer (some ⟨r, 0, none⟩), .int .i64 d] w (ValR r ((objL (valL f) (t.length + 1) t [] []).map fun p => (.mk 5 0 ⟨#[]⟩ p.1.1 p.1.2, p.2)) w) := by
 have hlt := hr.lt
 obtain ⟨R, hR⟩ : ∃ R, objL (valL f) (t.length + 1) t [] [] = R := ⟨_, rfl⟩
 rw [hR]
 have Hs := Lib.hid hs
 have HR := Lib.hid hR
 have Hv := Lib.hid hv
 have Hl := Lib.hid hl
 have Hd := Lib.hid hd
 have hd1 : 0 ≤ d := by omega
 have hd2 : d ≤ 12 := by omega
 have hwr : IntKind.i64.wrap (d + 1) = d + 1 := by rw [IntKind.wrap_i64]; omega
 clear hs hR hv hl hd
 go_enter Tryz.func100, Tryz.ntmps100
 go_upto_region 2 with fail
 refine gen_world (R := fun wx => Box wx w.heap.size #[.int .i64 0, .int .i64 0, .string ⟨#[]⟩, .slice none 0 0, .slice none 0 0] 25 ∧ Box wx (w.heap.size + 1) #[.int .i64 5, .int .i64 0, .string ⟨#[]⟩, .slice none 0 0, .slice none 0 0] 25 ∧ Ext w wx) ⟨Bxt, Bxt, Xt⟩ ?_
 rintro wa ⟨hB0, hB1, hxa⟩
 have hra := hr.ext hxa
 clear hr
 go_wp2_with fail
 (refine (take_any r s false ⟨#[123]⟩ _ hra).mono ?_)
 rintro e w1 ⟨rfl, h1, (⟨hp, s1, hs1, hr1⟩ | ⟨hp, hr1⟩)⟩
 rotate_left
 ·rw [Hs.out] at hp; simp [List.isPrefixOf] at hp
 have hst : s1.data.toList = t := by rw [hs1, Hs.out]; rfl
 have hl1 : t.length = s1.size := by rw [← hst]; exact Array.length_toList
 have hl0 : s.size = t.length + 1 := by
  have : s.data.toList.length = s.size := Array.length_toList
  rw [Hs.out] at this
  exact this.symm
 have hli : ObInv (valL f) R s1 false [] [] := ⟨(fun h => by cases h), fun _ => List.Pairwise.nil, .inl ⟨rfl, by rw [hst, ← hl1, HR.out]⟩⟩
 have Hli := Lib.hid hli
 have hs1z : s1.size ≤ 1048576 := by omega
 have hB0 := Box.rd h1 hB0 (by omega)
 have hB1 := Box.rd h1 hB1 (by omega)
 have hx1 : Rd r w w1 := (Rd.of hlt hxa).trans h1
 have hz1 := hB1.lt
 clear hp hs1 hst hli hl0 hl1 hra hxa h1
 go_wp2_with fail
 go_loopg [6, 7, 8, 9] (s1.size + 1) (fun g _ _ _ _ wr => ∃ (s2 : ByteArray) (bad : Bool) (n : Nat) (ks : List ByteArray) (l : List V) (a2 : Option Addr) (c2 : Nat) (a3 : Option Addr) (c3 : Nat), Sr wr r s2 bad ∧ OwnO wr (w.heap.size + 2) (.slice a2 n c2) (.slice a3 n c3) n ks l ∧ Box wr w.heap.size #[.int .i64 0, .int .i64 0, .string ⟨#[]⟩, .slice none 0 0, .slice none 0 0] 25 ∧
  Box wr (w.heap.size + 1) #[.int .i64 5, .int .i64 0, .string ⟨#[]⟩, .slice a2 n c2, .slice a3 n c3] 25 ∧ g = s2.size + (if bad = true then 0 else 1) ∧ n + (s2.size + (if bad = true then 0 else 1)) ≤ 1048577 ∧ Rd r w wr ∧ ObInv (valL f) R s2 bad ks l)
 case atStart => exact ⟨s1, false, 0, [], [], none, 0, none, 0, hr1, OwnO.nil _ _, hB0, hB1, rfl, by simp; omega, hx1, Hli.out⟩
 case round =>
  clear hr1 hx1 Hli hs1z hB0 hB1 hz1
  obtain ⟨s2, bad, n, ks, l, a2, c2, a3, c3, hr2, hO, hB0, hB1, rfl, hlz, hx, hli⟩ := hrel
  have HO := Lib.hid hO
  have Hb := Lib.hid hli.1
  have Hbn := Lib.hid (show bad = true → s2.data.toList = [] ∧ R = none from fun h => ⟨hli.1 h, by rcases hli.2.2 with ⟨h', -⟩ | ⟨-, h'⟩; rw [h] at h'; cases h'; exact h'⟩)
  have Hli := Lib.hid hli
  have hlz1 : n + s2.size ≤ 1048577 := by omega
  have Hlz := Lib.hid hlz
  have hnl := hO.nl
  have Hnl := Lib.hid hnl
  clear hlz
  have hlr := hr2.lt
  have hxz := hx.size
  have hl1z := hB1.lt
  clear hO hli hnl
  have hc1 := hB1.cells; have hf1 := hB1.free; have hl1 := hB1.lt
  obtain ⟨f0, hf0⟩ : ∃ f0, decide (l = []) = f0 := ⟨_, rfl⟩
  have hln : ((n : Int) == 0) = f0 := by
   rw [← hf0, ← Hnl.out, Bool.eq_iff_iff]
   simp
  have Hfront := Lib.hid (show bad = false → R = Front1 125 f0 (fun t => some ((ks, l), t)) (obK (valL f) s2.size ks l) s2.data.toList from fun h => by subst h; have := ob_front Hli.out; rwa [hf0] at this)
  clear hf0
  go_wp2_with fail
  (refine (more_any r s2 bad f0 125 (by decide) Hb.out _ hr2).mono ?_)
  rintro e w3 hm
  obtain ⟨h3, hend⟩ := more_then hm (fun hb => by subst hb; exact Hfront.out rfl) Hbn.out (obK_nil _ _ _ _) (by decide)
  have Hend := Lib.hid hend
  have hB03 := Box.rd h3 hB0 (by omega)
  have hB13 := Box.rd h3 hB1 (by omega)
  have hx3 := hx.trans h3
  have HO3 := Lib.hid (OwnO.rd HO.out h3 (by omega))
  have hz3 := h3.size
  clear hm hend hB0 hB1 hr2 hx hc1 hf1 hl1 Hfront Hbn HO
  rcases Hend.out with ⟨rfl, s3, bad3, hr3, hfin⟩ | ⟨rfl, rfl, s3, hr3, hsz3, hR3⟩
  ·have Hfin := Lib.hid hfin
   clear hfin
   have hc0 := hB03.cells; have hf0 := hB03.free; have hl0 := hB03.lt
   have hc13 := hB13.cells; have hf13 := hB13.free; have hl13 := hB13.lt
   go_wp2_with fail
   (with_reducible apply bp_ret); (focus (go_light; simp [results, Tryz.results100, go_sem, *]; rfl))
   have hobj := OwnO.obj HO3.out
   have e1 := HO3.out.nk
   have e2 := HO3.out.nl
   refine ⟨Rxt, .mk 5 0 ⟨#[]⟩ ks l, a2, c2, a3, c3, s3, bad3, by simp [V.val, e1, e2], hobj.keep (Held.kept (a := w3) (T := fun b => w.heap.size + 2 ≤ b) Hxt) (fun b hb _ => by omega), Srt, ?_⟩
   rcases Hfin.out with ⟨hq0, hq⟩ | ⟨hq0, h0, hq⟩
   ·exact .inl ⟨hq0, by rw [hq]; rfl⟩
   ·exact .inr ⟨hq0, h0, by rw [hq]; rfl⟩
  ·have HR3 := Lib.hid hR3
   have Hrise := Lib.hid (Hli.out.2.1 rfl)
   clear hR3 Hend
   have hlt3 := hr3.lt
   have hs3z : s3.size ≤ 1048576 := by have := Hlz.out; simp at this; omega
   go_wp2_with fail
   (refine (space_any r s3 false _ hr3).mono ?_); rintro e w4 ⟨rfl, ⟨s4, hs4, hr4⟩, h4⟩
   have hB04 := Box.rd h4 hB03 (by omega)
   have hB14 := Box.rd h4 hB13 (by omega)
   have hx4 := hx3.trans h4
   have HO4 := Lib.hid (OwnO.rd HO3.out h4 (by omega))
   have hz4 := h4.size
   have hs4z : s4.size ≤ 1048576 := by
    have e3 : s3.data.toList.length = s3.size := Array.length_toList
    have e4 : s4.data.toList.length = s4.size := Array.length_toList
    have := spaceL_len s3.data.toList
    rw [hs4] at e4
    omega
   have Hs4 := Lib.hid hs4
   obtain ⟨c4, hc4⟩ : ∃ c4, headB s4.data.toList = c4 := ⟨_, rfl⟩
   have Hc4 := Lib.hid hc4
   clear hs4 hc4 hB03 hB13 hx3 HO3 hr3 h4
   have hlt4 := hr4.lt
   by_cases hq : (c4.toNat : Int) = 34
   ·have hc34 : c4 = 34 := by apply UInt8.toNat_inj.1; simpa using (by omega : c4.toNat = 34)
    have hqb : ((c4.toNat : Int) != 34) = false := by simpa using hq
    obtain ⟨t4, ht4⟩ : ∃ t4, s4.data.toList = 34 :: t4 := by
     have := Hc4.out
     cases hk : s4.data.toList with
     | nil => rw [hk, hc34] at this; cases this
     | cons c u => rw [hk, hc34] at this; have this : c = 34 := this; exact ⟨u, by rw [this]⟩
    have hs34 : spaceL s3.data.toList = 34 :: t4 := by rw [← Hs4.out, ht4]
    have Hs34 := Lib.hid hs34
    have Ht4 := Lib.hid ht4
    have Hq := Lib.hid hq
    clear hs34 ht4 hc34 hq
    go_wp2_with fail
    (refine (next_any r s4 false _ hr4).mono ?_); rintro e wn ⟨rfl, rfl⟩
    rw [Hc4.out]
    go_wp2_with fail
    (refine (text_any r s4 t4 Ht4.out hs4z _ hr4).mono ?_); rintro e w5 hT
    obtain ⟨h5, key, s5, bad5, rfl, hkz, hr5, hcase5⟩ := hT
    have Hcase5 := Lib.hid hcase5
    clear hcase5
    go_wp2_with fail
    (refine (space_any r s5 bad5 _ hr5).mono ?_); rintro e w6 ⟨rfl, ⟨s6, hs6, hr6⟩, h6⟩
    have Hs6 := Lib.hid hs6
    clear hs6
    go_wp2_with fail
    (refine (take_any r s6 bad5 ⟨#[58]⟩ _ hr6).mono ?_); rintro e w7 ⟨rfl, h7, hcase7⟩
    obtain ⟨s7, bad7, hr7, hK, hs7z⟩ : ∃ s7 bad7, Sr w7 r s7 bad7 ∧ KeyS (valL f) s3.data.toList key s7 bad7 ∧ s7.size ≤ 1048576 := by
     have e4 : s4.data.toList.length = s4.size := Array.length_toList
     have e5 : s5.data.toList.length = s5.size := Array.length_toList
     have h5z : s5.data.toList.length ≤ 1048576 := by
      rw [Ht4.out, List.length_cons] at e4
      rcases Hcase5.out with ⟨-, h⟩ | ⟨-, h, -⟩
      ·have := textL_len _ _ _ _ h
       simp only at this
       omega
      ·rw [h]; simp
     rcases hcase7 with ⟨hp, s7, hs7, hr7⟩ | ⟨hp, hr7⟩
     ·refine ⟨s7, bad5, hr7, key_colon Hs34.out Hcase5.out (.inl ⟨by rw [← Hs6.out]; exact hp, by rw [hs7, Hs6.out]; rfl, rfl⟩), ?_⟩
      have e7 : s7.data.toList.length = s7.size := Array.length_toList
      have := spaceL_len s5.data.toList
      rw [hs7, List.length_drop, Hs6.out] at e7
      omega
     ·exact ⟨⟨#[]⟩, true, hr7, key_colon Hs34.out Hcase5.out (.inr ⟨by rw [← Hs6.out]; exact hp, rfl, rfl⟩), by decide⟩
    have h47 : Rd r wn w7 := (h5.trans h6).trans h7
    have hb7 : bad7 = true → s7.data.toList = [] := fun h => by rcases hK with ⟨h', -⟩ | ⟨-, h', -⟩; rw [h] at h'; cases h'; exact h'
    have Hb7 := Lib.hid hb7
    have HK := Lib.hid hK
    have hB07 := Box.rd h47 hB04 (by omega)
    have hB17 := Box.rd h47 hB14 (by omega)
    have hx7 := hx4.trans h47
    have HO7 := Lib.hid (OwnO.rd HO4.out h47 (by omega))
    have hz7 := h47.size
    have hlt7 := hr7.lt
    clear hcase7 hb7 hK hr6 hr5 h5 h6 h7 h47 hr4 hB04 hB14 hx4
    go_wp2_with fail
    (refine (Hv.out r (d + 1) s7 bad7 _ (by have := Hd.out; omega) Hb7.out hs7z hr7 (Hl.out.on (Rd.below hx7))).mono ?_); rintro e w8 hval
    obtain ⟨h8, x, kb, kd, lb, ld, s8, bad8, rfl, hin8, hr8, hcase8⟩ := hval
    have HM := Lib.hid (key_val (valL_nil f) HK.out hcase8)
    have hB08 := Box.rd h8 hB07 (by omega)
    have hB18 := Box.rd h8 hB17 (by omega)
    have hx8 := hx7.trans h8
    have HO8 := Lib.hid (OwnO.rd HO7.out h8 (by omega))
    have hz8 := h8.size
    have Hin8 := Lib.hid (show x.In w8 (fun b => w7.heap.size ≤ b ∧ b < w8.heap.size) kb kd lb ld from hin8.mono fun b h hl => ⟨h, hl⟩)
    have Hrw2 := Lib.hid (show ∀ g, (Value.slice a2 n c2).ownBlock = some g → g < w7.heap.size from fun g hg => (HO7.out.keys.lt g hg).2)
    have Hrw3 := Lib.hid (show ∀ g, (Value.slice a3 n c3).ownBlock = some g → g < w7.heap.size from fun g hg => by obtain ⟨xs, h, -⟩ := HO7.out.items; exact (h.lt g hg).2)
    have hlt8 := hr8.lt
    clear hin8 hcase8 hr7 hB07 hB17 hx7 h8
    go_upto_region 11 with fail
    refine gen_world (R := fun wx => Box wx w.heap.size #[.int .i64 0, .int .i64 0, .string ⟨#[]⟩, .slice none 0 0, .slice none 0 0] 25 ∧ Box wx (w.heap.size + 1) #[.int .i64 5, .int .i64 0, .string ⟨#[]⟩, .slice a2 n c2, .slice a3 n c3] 25 ∧ Box wx w8.heap.size #[.int .i64 x.k, .int .i64 x.n, .string x.s, .slice kb x.keys.length kd, .slice lb x.l.length ld] 25 ∧ Ext w8 wx) ⟨Bxt, Bxt, Bxt, Xt⟩ ?_
    clear hB08 hB18
    rintro w9 ⟨hB0, hB1, hBx, hx9⟩
    have hr9 := hr8.ext hx9
    have HO9 := Lib.hid (OwnO.ext HO8.out hx9)
    have Hin9 := Lib.hid (Hin8.out.ext hx9)
    have hxw9 := hx8.ext hlt hx9
    have hz9 := hx9.size
    clear hr8 HO8 Hin8 hx8 HO7 HO4 HK
    have hc1 := hB1.cells; have hf1 := hB1.free; have hl1 := hB1.lt
    obtain ⟨a9, c9, he9, -, -, hst9⟩ := OwnS.strs (w := w9) (base := w.heap.size + 2) (v := .slice a2 n c2) ⟨HO9.out.nk, HO9.out.keys⟩
    simp only [Value.slice.injEq, true_and] at he9
    obtain ⟨rfl, rfl⟩ := he9
    have Hst9 := Lib.hid hst9
    have Hnk := Lib.hid HO9.out.nk
    have hn30 : n ≤ 1073741824 := by omega
    clear hst9
    go_wp2_with fail
    (refine (bs_rise a2 n c2 ks _ key _ Hnk.out Hst9.out Hrise.out hn30).mono ?_); rintro e w10 ⟨rfl, h10⟩
    obtain ⟨p, hp0⟩ : ∃ p, posOf ks key = p := ⟨_, rfl⟩
    rw [hp0]
    have Hp0 := Lib.hid hp0
    have hpn : p ≤ n := by have := posOf_le ks key; rw [hp0, Hnk.out] at this; exact this
    have hB0 := Box.ext h10 hB0
    have hB1 := Box.ext h10 hB1
    have hBx := Box.ext h10 hBx
    have hr10 := hr9.ext h10
    have HO10 := Lib.hid (OwnO.ext HO9.out h10)
    have Hin10 := Lib.hid (Hin9.out.ext h10)
    have hx10 := hxw9.ext hlt h10
    have hz10 := h10.size
    clear hp0 hr9 HO9 Hin9 hxw9 h10 hc1 hf1 hl1 Hst9
    cases hhb : hasB ks key with
    | true =>
     have Hhb := Lib.hid hhb
     clear hhb
     go_wp2_with fail
     (refine (fail_any r s8 bad8 _ hr10).mono ?_); rintro e w11 ⟨rfl, hr11, h11⟩
     have hB0 := Box.rd h11 hB0 (by omega)
     have hB1 := Box.rd h11 hB1 (by omega)
     have hBx := Box.rd h11 hBx (by omega)
     have HO11 := Lib.hid (OwnO.rd HO10.out h11 (by omega))
     have Hin11 := Lib.hid (In.rd h11 Hin10.out (fun b h => by omega))
     have hx11 := hx10.trans h11
     have hz11 := h11.size
     have Hnext := Lib.hid (ob_twice (ks' := ks.take p ++ key :: ks.drop p) (l' := l.take p ++ x :: l.drop p) (s9 := ⟨#[]⟩) HR3.out HM.out Hhb.out rfl)
     clear hr10 HO10 Hin10 hx10 h11 HM HR3
     go_upto_region 14 with fail
     refine gen_world (R := fun wx => Box wx w.heap.size #[.int .i64 0, .int .i64 0, .string ⟨#[]⟩, .slice none 0 0, .slice none 0 0] 25 ∧ Box wx (w.heap.size + 1) #[.int .i64 5, .int .i64 0, .string ⟨#[]⟩, .slice a2 n c2, .slice a3 n c3] 25 ∧ Box wx w8.heap.size #[.int .i64 x.k, .int .i64 x.n, .string x.s, .slice kb x.keys.length kd, .slice lb x.l.length ld] 25 ∧ Ext w11 wx) ⟨hB0, hB1, hBx, Xt⟩ ?_
     clear hB0 hB1 hBx
     rintro wb ⟨hB0, hB1, hBx, hxe⟩
     have hrb := hr11.ext hxe
     have HOb := Lib.hid (OwnO.ext HO11.out hxe)
     have Hinb := Lib.hid (Hin11.out.ext hxe)
     have hxb := hx11.ext hlt hxe
     have hzb := hxe.size
     clear hr11 HO11 Hin11 hx11 hxe
     obtain ⟨hks, hll, hkeys, news, hitems, hcells⟩ := HOb.out
     have hks := Lib.hid hks
     have hll := Lib.hid hll
     have Ho2 := Lib.hid hkeys
     have Ho3 := Lib.hid hitems
     have H1c := Lib.hid hcells.one
     have Hncells := Lib.hid hcells
     have Hl2 : Hid (∀ g, (Value.slice a2 n c2).ownBlock = some g → w.heap.size + 2 ≤ g ∧ g < wb.heap.size) := hkeys.lt
     have Hl3 : Hid (∀ g, (Value.slice a3 n c3).ownBlock = some g → w.heap.size + 2 ≤ g ∧ g < wb.heap.size) := hitems.lt
     have Hne : Hid (∀ g, (Value.slice a2 n c2).ownBlock = some g → (Value.slice a3 n c3).ownBlock ≠ some g) := fun g h h' => by
      obtain ⟨q1, z1, e1⟩ := owns_kind hkeys g h
      obtain ⟨q2, z2, e2⟩ := owns_kind hitems g h'
      rw [e1] at e2
      simp at e2
     have Hjn := Lib.hid (show x.In wb (Beside (w.heap.size + 2) (.slice a2 n c2) (.slice a3 n c3)) kb kd lb ld from Hinb.out.mono fun b h _ => ⟨by omega, fun h' => by have := Hrw2.out b h'; omega, fun h' => by have := Hrw3.out b h'; omega⟩)
     clear hkeys hitems hcells Hinb HOb
     obtain ⟨T, hT⟩ : ∃ T : Nat → Prop, T = fun b => (Value.slice a2 n c2).ownBlock ≠ some b ∧ (Value.slice a3 n c3).ownBlock ≠ some b := ⟨_, rfl⟩
     have HTK : Hid (∀ k, (Value.slice a2 n c2).ownBlock = some k → ¬ T k) := by rw [hT]; exact fun k h h' => h'.1 h
     have HTL : Hid (∀ k, (Value.slice a3 n c3).ownBlock = some k → ¬ T k) := by rw [hT]; exact fun k h h' => h'.2 h
     have hT0 : Hid (∀ b, b < w.heap.size + 2 → T b) := by rw [hT]; exact fun b hb => ⟨fun h => by have := (Hl2.out b h).1; omega, fun h => by have := (Hl3.out b h).1; omega⟩
     have hTx : Hid (T w8.heap.size) := by rw [hT]; exact ⟨fun h => by have := Hrw2.out _ h; omega, fun h => by have := Hrw3.out _ h; omega⟩
     have HTB : Hid (∀ b, Beside (w.heap.size + 2) (.slice a2 n c2) (.slice a3 n c3) b → T b) := by rw [hT]; exact fun b h => h.2
     clear hT
     have Sof : ∀ w', Held T wb w' → (w'.cell? ⟨w.heap.size + 1, 3, none⟩ = some (.slice a2 n c2) ∧ w'.cell? ⟨w.heap.size + 1, 4, none⟩ = some (.slice a3 n c3) ∧ w'.cell? ⟨w8.heap.size, 0, none⟩ = some (.int .i64 x.k) ∧ w'.cell? ⟨w8.heap.size, 1, none⟩ = some (.int .i64 x.n) ∧ w'.cell? ⟨w8.heap.size, 2, none⟩ = some (.string x.s) ∧ w'.cell? ⟨w8.heap.size, 3, none⟩ = some (.slice kb x.keys.length kd) ∧ w'.cell? ⟨w8.heap.size, 4, none⟩ = some (.slice lb x.l.length ld)) :=
      fun w' e => ⟨e.kept.cell (hT0.out _ (by simp)) (hB1.cells 3), e.kept.cell (hT0.out _ (by simp)) (hB1.cells 4), e.kept.cell hTx.out (hBx.cells 0), e.kept.cell hTx.out (hBx.cells 1), e.kept.cell hTx.out (hBx.cells 2), e.kept.cell hTx.out (hBx.cells 3), e.kept.cell hTx.out (hBx.cells 4)⟩
     have hbl := hBx.lt
     refine wp_region_till (S := fun w' => w'.cell? ⟨w.heap.size + 1, 3, none⟩ = some (.slice a2 n c2) ∧ w'.cell? ⟨w.heap.size + 1, 4, none⟩ = some (.slice a3 n c3) ∧ w'.cell? ⟨w8.heap.size, 0, none⟩ = some (.int .i64 x.k) ∧ w'.cell? ⟨w8.heap.size, 1, none⟩ = some (.int .i64 x.n) ∧ w'.cell? ⟨w8.heap.size, 2, none⟩ = some (.string x.s) ∧ w'.cell? ⟨w8.heap.size, 3, none⟩ = some (.slice kb x.keys.length kd) ∧ w'.cell? ⟨w8.heap.size, 4, none⟩ = some (.slice lb x.l.length ld)) (c := 13) (by kernel_rfl) ?_
     (refine wpAnyT_take (i := 0) (v := ?_) [13] (Array.getElem?_eq_getElem (by decide)) (by kernel_rfl) (by kernel_rfl) (by kernel_rfl) (by kernel_rfl) rfl rfl (by kernel_rfl) (fun _ _ _ h => h) (Or.inl ⟨by kernel_rfl, ?_⟩) (Sof _ Hxt) ?_); rotate_left; (focus (intro w hSw; (try dsimp only at hSw); (try simp only [rl]); go_simp; (try with_reducible rfl))); (try simp only [rl])
     (refine wpAnyT_take (i := 1) (v := ?_) [13] (Array.getElem?_eq_getElem (by decide)) (by kernel_rfl) (by kernel_rfl) (by kernel_rfl) (by kernel_rfl) rfl rfl (by kernel_rfl) (fun _ _ _ h => h) (Or.inl ⟨by kernel_rfl, ?_⟩) (Sof _ Hxt) ?_); rotate_left; (focus (intro w hSw; (try dsimp only at hSw); (try simp only [rl]); go_simp; (try with_reducible rfl))); (try simp only [rl])
     (refine wpAnyT_take (i := 2) (v := ?_) [13] (Array.getElem?_eq_getElem (by decide)) (by kernel_rfl) (by kernel_rfl) (by kernel_rfl) (by kernel_rfl) rfl rfl (by kernel_rfl) (fun _ _ _ h => h) (Or.inl ⟨by kernel_rfl, ?_⟩) (Sof _ Hxt) ?_); rotate_left; (focus (intro w hSw; (try dsimp only at hSw); (try simp only [rl]); go_simp; (try with_reducible rfl))); (try simp only [rl])
     (refine wpAnyT_take (i := 3) (v := ?_) [13] (Array.getElem?_eq_getElem (by decide)) (by kernel_rfl) (by kernel_rfl) (by kernel_rfl) (by kernel_rfl) rfl rfl (by kernel_rfl) (fun _ _ _ h => h) (Or.inl ⟨by kernel_rfl, ?_⟩) (Sof _ Hxt) ?_); rotate_left; (focus (intro w hSw; (try dsimp only at hSw); (try simp only [rl]); go_simp; (try with_reducible rfl))); (try simp only [rl])
     (refine wpAnyT_take (i := 6) (v := ?_) [13] (Array.getElem?_eq_getElem (by decide)) (by kernel_rfl) (by kernel_rfl) (by kernel_rfl) (by kernel_rfl) rfl rfl (by kernel_rfl) (fun _ _ _ h => h) (Or.inl ⟨by kernel_rfl, ?_⟩) (Sof _ Hxt) ?_); rotate_left; (focus (intro w hSw; (try dsimp only at hSw); (try simp only [rl]); go_simp; (try with_reducible rfl))); (try simp only [rl])
     (refine wpAnyT_take (i := 7) (v := ?_) [13] (Array.getElem?_eq_getElem (by decide)) (by kernel_rfl) (by kernel_rfl) (by kernel_rfl) (by kernel_rfl) rfl rfl (by kernel_rfl) (fun _ _ _ h => h) (Or.inl ⟨by kernel_rfl, ?_⟩) (Sof _ Hxt) ?_); rotate_left; (focus (intro w hSw; (try dsimp only at hSw); (try simp only [rl]); go_simp; (try with_reducible rfl))); (try simp only [rl])
     (refine wpAnyT_take (i := 8) (v := ?_) [11, 13] (Array.getElem?_eq_getElem (by decide)) (by kernel_rfl) (by kernel_rfl) (by kernel_rfl) (by kernel_rfl) rfl rfl (by kernel_rfl) (fun _ _ _ h => h) (Or.inl ⟨by kernel_rfl, ?_⟩) (Sof _ Hxt) ?_); rotate_left; (focus (intro w hSw; (try dsimp only at hSw); (try simp only [rl]); go_simp; (try with_reducible rfl))); (try simp only [rl])
     (refine wpAnyT_take (i := 9) (v := ?_) [10, 11, 13] (Array.getElem?_eq_getElem (by decide)) (by kernel_rfl) (by kernel_rfl) (by kernel_rfl) (by kernel_rfl) rfl rfl (by kernel_rfl) (fun _ _ _ h => h) (Or.inl ⟨by kernel_rfl, ?_⟩) (Sof _ Hxt) ?_); rotate_left; (focus (intro w hSw; (try dsimp only at hSw); (try simp only [rl]); go_simp; (try with_reducible rfl))); (try simp only [rl])
     refine wpAnyT_ready (rs := [4, 10]) (by kernel_rfl) (by simp) ?_
     refine AllReadyT.cons (Array.getElem?_eq_getElem (by decide)) (fun K hK => ?_) (AllReadyT.cons (Array.getElem?_eq_getElem (by decide)) (fun K hK => ?_) AllReadyT.nil)
     ·(try simp only [rl])
      go_simp; refine hK.out _ _ (fun _ => Sof _ Hxt) ?_; clear hK K; (try simp only [rl])
      refine wpAnyT_ready (rs := [5, 10]) (by kernel_rfl) (by simp) ?_
      refine AllReadyT.cons (Array.getElem?_eq_getElem (by decide)) (fun K hK => ?_) (AllReadyT.cons (Array.getElem?_eq_getElem (by decide)) (fun K hK => ?_) AllReadyT.nil)
      ·(try simp only [rl])
       (try go_simp)
       (refine (insS_any (w.heap.size + 2) n p _ _ (.slice a2 n c2) (ks.map Value.string) [.string key] _ 9 ?_ ?_ hn30 hpn ?_ ?_ rfl (strs_one ks) (by simp [Value.oneCell'])).mono ?_)
       (focus (simp; omega))
       (focus (exact ownsRow_ext Ho2.out Xt))
       (focus (exact Bxt))
       (focus (intro h; have h' := (Hl2.out _ h).2; (first | omega | (simp at h'; omega) | (simp at h'; done))))
       rintro e w5 ⟨g5, cap5, rfl, hown5, hgrow5, hat5⟩
       have hh5 : Held T wb w5 := Held.grown Hxt hgrow5 HTK.out
       have hx5 : Rd r w w5 := Rd.grown Rxt hgrow5 (fun g hg => by have := (Hl2.out g hg).1; omega) hlt
       have Ho35 := Lib.hid (ownsRow_keep Ho3.out (fun b hb hg => Held.block (T := fun c => (Value.slice a2 n c2).ownBlock ≠ some c) (Held.grown Hxt hgrow5 (fun k hk h => h hk)) b (fun h => Hne.out b h hg) hb))
       have hg5 : (Value.slice a3 n c3).ownBlock ≠ some g5 := fun h => by
        rcases hat5 with h' | h'
        ·exact Hne.out _ h' h
        ·have h2 := (Hl3.out _ h).2; simp at h'; omega
       have Hb5 : Hid (∀ b, Beside (w.heap.size + 2) (.slice a2 n c2) (.slice a3 n c3) b → b < wb.heap.size → b ≠ g5) := fun b hb hl he => by
        rcases hat5 with h' | h'
        ·exact hb.2.1 (he ▸ h')
        ·simp at h'; omega
       have hz5 : wb.heap.size ≤ w5.heap.size := hh5.size
       have Hown5 := Lib.hid hown5
       have Hg5 := Lib.hid hg5
       clear hown5 hat5 hg5
       (try go_simp)
       refine hK.out _ _ (fun _ => Sof _ Hxt) ?_; clear hK K; (try simp only [rl])
       (refine wpAnyT_take (i := 12) (v := ?_) [13] (Array.getElem?_eq_getElem (by decide)) (by kernel_rfl) (by kernel_rfl) (by kernel_rfl) (by kernel_rfl) rfl rfl (by kernel_rfl) (fun _ _ _ h => h) (Or.inl ⟨by kernel_rfl, ?_⟩) (Sof _ Hxt) ?_); rotate_left; (focus (intro w hSw; (try dsimp only at hSw); (try simp only [rl]); go_simp; (try with_reducible rfl))); (try simp only [rl])
       (refine wpAnyT_one (i := 10) (by kernel_rfl) (Array.getElem?_eq_getElem (by decide)) fun K hK => ?_); (try simp only [rl])
       go_simp; refine hK.out _ _ (fun _ => Sof _ Hxt) ?_; clear hK K; (try simp only [rl])
       (refine wpAnyT_one (i := 11) (by kernel_rfl) (Array.getElem?_eq_getElem (by decide)) fun K hK => ?_); (try simp only [rl])
       (try go_simp)
       (refine (insV_any (w.heap.size + 2) n p _ _ (.slice a3 n c3) news (x.five kb kd lb ld) _ 25 ?_ ?_ hn30 hpn ?_ ?_ rfl H1c.out (x.five_one kb kd lb ld)).mono ?_)
       (focus (first | (simp; omega) | omega))
       (focus (exact ownsRow_ext Ho35.out Xt))
       (focus (exact Bxt))
       (focus (intro h; have h' := (Hl3.out _ h).2; (first | omega | (simp at h'; omega) | (simp at h'; done))))
       rintro e w6 ⟨g6, cap6, rfl, hown6, hgrow6, hat6⟩
       have hh6 : Held T wb w6 := Held.grown Hxt hgrow6 HTL.out
       (try go_simp)
       refine hK.out _ _ (fun _ => Sof _ hh6) ?_
       clear hK K
       (try simp only [rl])
       have hx6 : Rd r w w6 := Rd.grown Rxt hgrow6 (fun g hg => by have := (Hl3.out g hg).1; omega) hlt
       have Ho56 := Lib.hid (ownsRow_keep Hown5.out (fun b hb hg => Held.block (T := fun c => (Value.slice a3 n c3).ownBlock ≠ some c) (Held.grown Hxt hgrow6 (fun k hk h => h hk)) b (by simp only [Value.ownBlock, Option.map_some, Option.some.injEq] at hg; rw [← hg]; exact Hg5.out) hb))
       have hg6 : ∀ b, Beside (w.heap.size + 2) (.slice a2 n c2) (.slice a3 n c3) b → b < wb.heap.size → b ≠ g6 := fun b hb hl he => by
        rcases hat6 with h' | h'
        ·exact hb.2.2 (he ▸ h')
        ·(first | omega | (simp at h'; omega))
       have hnew : ∀ b, Beside (w.heap.size + 2) (.slice a2 n c2) (.slice a3 n c3) b → b < wb.heap.size → Beside (w.heap.size + 2) (.slice (some ⟨g5, 0, none⟩) (n + 1) cap5) (.slice (some ⟨g6, 0, none⟩) (n + 1) cap6) b := fun b hb hl => ⟨hb.1, fun h => Hb5.out b hb hl (by simpa [Value.ownBlock] using h.symm), fun h => hg6 b hb hl (by simpa [Value.ownBlock] using h.symm)⟩
       have hcc := (Hncells.out.keep (Held.kept (Held.mono hh6 HTB.out)) hnew).ins p (Hjn.out.keep (Held.kept (Held.mono hh6 HTB.out)) hnew)
       have HO6 : Hid (OwnO w6 (w.heap.size + 2) (.slice (some ⟨g5, 0, none⟩) (n + 1) cap5) (.slice (some ⟨g6, 0, none⟩) (n + 1) cap6) (n + 1) (ks.take p ++ key :: ks.drop p) (l.take p ++ x :: l.drop p)) :=
        ⟨by simp [hks.out]; omega, by simp [hll.out]; omega, by simpa [List.map_take, List.map_drop] using Ho56.out, _, hown6, hcc⟩
       have hr6 : Sr w6 r (⟨#[]⟩ : ByteArray) true := Box.held hh6 hrb (hT0.out _ (by omega))
       have hB0 := Box.held hh6 hB0 (hT0.out _ (by omega))
       have hB1 := Box.held hh6 hB1 (hT0.out _ (by omega))
       have hz6 := hh6.size
       clear hown6 hgrow6 hat6 hcc hnew hg6 Sof hgrow5 hh5 hx5 hBx hrb hxb
       have hc1 := hB1.cells; have hf1 := hB1.free; have hl1 := hB1.lt
       (refine wpAnyT_one (i := 13) (by kernel_rfl) (Array.getElem?_eq_getElem (by decide)) fun K hK => ?_); (try simp only [rl])
       go_simp
       (refine hK.out _ _ (fun h => Bool.noConfusion (show true = false from h)) ?_); clear hK K; (try simp only [rl])
       (refine wpAnyT_one (i := 14) (by kernel_rfl) (Array.getElem?_eq_getElem (by decide)) fun K hK => ?_); (try simp only [rl])
       go_simp
       (refine hK.out _ _ (fun h => Bool.noConfusion (show true = false from h)) ?_); clear hK K; (try simp only [rl])
       (refine wpAnyT_one (i := 15) (by kernel_rfl) (Array.getElem?_eq_getElem (by decide)) fun K hK => ?_); (try simp only [rl])
       go_simp
       (refine hK.out _ _ (fun h => Bool.noConfusion (show true = false from h)) ?_); clear hK K; (try simp only [rl])
       refine wpAnyT_done (by kernel_rfl) ?_ _
       obtain ⟨wy, hwy⟩ : ∃ wy, (w6.setCell ⟨w.heap.size + 1, 3, none⟩ (Value.slice (some ⟨g5, 0, none⟩) (n + 1) cap5)).setCell ⟨w.heap.size + 1, 4, none⟩ (Value.slice (some ⟨g6, 0, none⟩) (n + 1) cap6) = wy := ⟨_, rfl⟩
       have hr7 : Sr wy r (⟨#[]⟩ : ByteArray) true := by rw [← hwy]; exact Srt
       have hB0 : Box wy w.heap.size #[.int .i64 0, .int .i64 0, .string ⟨#[]⟩, .slice none 0 0, .slice none 0 0] 25 := by rw [← hwy]; exact Bxt
       have hB1 : Box wy (w.heap.size + 1) #[.int .i64 5, .int .i64 0, .string ⟨#[]⟩, .slice (some ⟨g5, 0, none⟩) (n + 1) cap5, .slice (some ⟨g6, 0, none⟩) (n + 1) cap6] 25 := by rw [← hwy]; exact Bxt
       have hh7 : Held (fun b => w.heap.size + 2 ≤ b) w6 wy := by rw [← hwy]; exact Hxt
       have hx7 : Rd r w wy := by rw [← hwy]; exact Rxt
       rw [hwy]
       clear hr6 hc1 hf1 hl1 hx6 hwy
       have HO7 := Lib.hid (OwnO.keep HO6.out (fun b hb hk => hh7.block b hk hb))
       have HI7 := Lib.hid Hnext.out.2
       have Hm7 := Lib.hid Hnext.out.1
       have Hn7 := Lib.hid (show n + 1 + (((⟨#[]⟩ : ByteArray)).size + (if true = true then 0 else 1)) ≤ 1048577 by
        have h1 := Hlz.out
        have h2 := Hnext.out.1
        have h3 : (⟨#[]⟩ : ByteArray).size = 0 := rfl
        simp only [Bool.false_eq_true, if_false] at h1
        (first | omega | (simp [h3]; omega) | (simp [h3]; done)))
       go_wp2_with fail
       go_roundg (((⟨#[]⟩ : ByteArray)).size + (if true = true then 0 else 1))
       case measure => have := Hm7.out; simpa using this
       case rel => exact ⟨(⟨#[]⟩ : ByteArray), true, n + 1, ks.take p ++ key :: ks.drop p, l.take p ++ x :: l.drop p, some ⟨g5, 0, none⟩, cap5, some ⟨g6, 0, none⟩, cap6, hr7, HO7.out, hB0, hB1, rfl, Hn7.out, hx7, HI7.out⟩
      ·(try simp only [rl])
       go_simp; refine hK.out _ _ (fun _ => Sof _ Hxt) ?_; clear hK K; (try simp only [rl])
       (refine wpAnyT_one (i := 5) (by kernel_rfl) (Array.getElem?_eq_getElem (by decide)) fun K hK => ?_); (try simp only [rl])
       (try go_simp)
       (refine (insS_any (w.heap.size + 2) n p _ _ (.slice a2 n c2) (ks.map Value.string) [.string key] _ 9 ?_ ?_ hn30 hpn ?_ ?_ rfl (strs_one ks) (by simp [Value.oneCell'])).mono ?_)
       (focus (simp; omega))
       (focus (exact ownsRow_ext Ho2.out Xt))
       (focus (exact Bxt))
       (focus (intro h; have h' := (Hl2.out _ h).2; (first | omega | (simp at h'; omega) | (simp at h'; done))))
       rintro e w5 ⟨g5, cap5, rfl, hown5, hgrow5, hat5⟩
       have hh5 : Held T wb w5 := Held.grown Hxt hgrow5 HTK.out
       have hx5 : Rd r w w5 := Rd.grown Rxt hgrow5 (fun g hg => by have := (Hl2.out g hg).1; omega) hlt
       have Ho35 := Lib.hid (ownsRow_keep Ho3.out (fun b hb hg => Held.block (T := fun c => (Value.slice a2 n c2).ownBlock ≠ some c) (Held.grown Hxt hgrow5 (fun k hk h => h hk)) b (fun h => Hne.out b h hg) hb))
       have hg5 : (Value.slice a3 n c3).ownBlock ≠ some g5 := fun h => by
        rcases hat5 with h' | h'
        ·exact Hne.out _ h' h
        ·have h2 := (Hl3.out _ h).2; simp at h'; omega
       have Hb5 : Hid (∀ b, Beside (w.heap.size + 2) (.slice a2 n c2) (.slice a3 n c3) b → b < wb.heap.size → b ≠ g5) := fun b hb hl he => by
        rcases hat5 with h' | h'
        ·exact hb.2.1 (he ▸ h')
        ·simp at h'; omega
       have hz5 : wb.heap.size ≤ w5.heap.size := hh5.size
       have Hown5 := Lib.hid hown5
       have Hg5 := Lib.hid hg5
       have hX5 : Box w5 (wb.heap.size + 1) (x.five kb kd lb ld).toArray 25 := Box.grown (w' := w5) Bxt hgrow5 (fun e => by have h' := (Hl2.out _ e.symm).2; omega)
       clear hown5 hat5 hg5
       (try go_simp)
       refine hK.out _ _ (fun _ => Sof _ Hxt) ?_; clear hK K; (try simp only [rl])
       (refine wpAnyT_take (i := 12) (v := ?_) [13] (Array.getElem?_eq_getElem (by decide)) (by kernel_rfl) (by kernel_rfl) (by kernel_rfl) (by kernel_rfl) rfl rfl (by kernel_rfl) (fun _ _ _ h => h) (Or.inl ⟨by kernel_rfl, ?_⟩) (Sof _ Hxt) ?_); rotate_left; (focus (intro w hSw; (try dsimp only at hSw); (try simp only [rl]); go_simp; (try with_reducible rfl))); (try simp only [rl])
       (refine wpAnyT_one (i := 11) (by kernel_rfl) (Array.getElem?_eq_getElem (by decide)) fun K hK => ?_); (try simp only [rl])
       (try go_simp)
       (refine (insV_any (w.heap.size + 2) n p _ _ (.slice a3 n c3) news (x.five kb kd lb ld) _ 25 ?_ ?_ hn30 hpn ?_ ?_ rfl H1c.out (x.five_one kb kd lb ld)).mono ?_)
       (focus (first | (simp; omega) | omega))
       (focus (exact ownsRow_ext Ho35.out Xt))
       (focus (exact Bxt))
       (focus (intro h; have h' := (Hl3.out _ h).2; (first | omega | (simp at h'; omega) | (simp at h'; done))))
       rintro e w6 ⟨g6, cap6, rfl, hown6, hgrow6, hat6⟩
       have hh6 : Held T wb w6 := Held.grown Hxt hgrow6 HTL.out
       (try go_simp)
       refine hK.out _ _ (fun _ => Sof _ hh6) ?_
       clear hK K
       (try simp only [rl])
       have hx6 : Rd r w w6 := Rd.grown Rxt hgrow6 (fun g hg => by have := (Hl3.out g hg).1; omega) hlt
       have Ho56 := Lib.hid (ownsRow_keep Hown5.out (fun b hb hg => Held.block (T := fun c => (Value.slice a3 n c3).ownBlock ≠ some c) (Held.grown Hxt hgrow6 (fun k hk h => h hk)) b (by simp only [Value.ownBlock, Option.map_some, Option.some.injEq] at hg; rw [← hg]; exact Hg5.out) hb))
       have hg6 : ∀ b, Beside (w.heap.size + 2) (.slice a2 n c2) (.slice a3 n c3) b → b < wb.heap.size → b ≠ g6 := fun b hb hl he => by
        rcases hat6 with h' | h'
        ·exact hb.2.2 (he ▸ h')
        ·(first | omega | (simp at h'; omega))
       have hnew : ∀ b, Beside (w.heap.size + 2) (.slice a2 n c2) (.slice a3 n c3) b → b < wb.heap.size → Beside (w.heap.size + 2) (.slice (some ⟨g5, 0, none⟩) (n + 1) cap5) (.slice (some ⟨g6, 0, none⟩) (n + 1) cap6) b := fun b hb hl => ⟨hb.1, fun h => Hb5.out b hb hl (by simpa [Value.ownBlock] using h.symm), fun h => hg6 b hb hl (by simpa [Value.ownBlock] using h.symm)⟩
       have hcc := (Hncells.out.keep (Held.kept (Held.mono hh6 HTB.out)) hnew).ins p (Hjn.out.keep (Held.kept (Held.mono hh6 HTB.out)) hnew)
       have HO6 : Hid (OwnO w6 (w.heap.size + 2) (.slice (some ⟨g5, 0, none⟩) (n + 1) cap5) (.slice (some ⟨g6, 0, none⟩) (n + 1) cap6) (n + 1) (ks.take p ++ key :: ks.drop p) (l.take p ++ x :: l.drop p)) :=
        ⟨by simp [hks.out]; omega, by simp [hll.out]; omega, by simpa [List.map_take, List.map_drop] using Ho56.out, _, hown6, hcc⟩
       have hr6 : Sr w6 r (⟨#[]⟩ : ByteArray) true := Box.held hh6 hrb (hT0.out _ (by omega))
       have hB0 := Box.held hh6 hB0 (hT0.out _ (by omega))
       have hB1 := Box.held hh6 hB1 (hT0.out _ (by omega))
       have hz6 := hh6.size
       clear hown6 hgrow6 hat6 hcc hnew hg6 Sof hgrow5 hh5 hx5 hBx hrb hxb
       have hc1 := hB1.cells; have hf1 := hB1.free; have hl1 := hB1.lt
       (refine wpAnyT_one (i := 13) (by kernel_rfl) (Array.getElem?_eq_getElem (by decide)) fun K hK => ?_); (try simp only [rl])
       go_simp
       (refine hK.out _ _ (fun h => Bool.noConfusion (show true = false from h)) ?_); clear hK K; (try simp only [rl])
       (refine wpAnyT_one (i := 14) (by kernel_rfl) (Array.getElem?_eq_getElem (by decide)) fun K hK => ?_); (try simp only [rl])
       go_simp
       (refine hK.out _ _ (fun h => Bool.noConfusion (show true = false from h)) ?_); clear hK K; (try simp only [rl])
       (refine wpAnyT_one (i := 15) (by kernel_rfl) (Array.getElem?_eq_getElem (by decide)) fun K hK => ?_); (try simp only [rl])
       go_simp
       (refine hK.out _ _ (fun h => Bool.noConfusion (show true = false from h)) ?_); clear hK K; (try simp only [rl])
       refine wpAnyT_done (by kernel_rfl) ?_ _
       obtain ⟨wy, hwy⟩ : ∃ wy, (w6.setCell ⟨w.heap.size + 1, 3, none⟩ (Value.slice (some ⟨g5, 0, none⟩) (n + 1) cap5)).setCell ⟨w.heap.size + 1, 4, none⟩ (Value.slice (some ⟨g6, 0, none⟩) (n + 1) cap6) = wy := ⟨_, rfl⟩
       have hr7 : Sr wy r (⟨#[]⟩ : ByteArray) true := by rw [← hwy]; exact Srt
       have hB0 : Box wy w.heap.size #[.int .i64 0, .int .i64 0, .string ⟨#[]⟩, .slice none 0 0, .slice none 0 0] 25 := by rw [← hwy]; exact Bxt
       have hB1 : Box wy (w.heap.size + 1) #[.int .i64 5, .int .i64 0, .string ⟨#[]⟩, .slice (some ⟨g5, 0, none⟩) (n + 1) cap5, .slice (some ⟨g6, 0, none⟩) (n + 1) cap6] 25 := by rw [← hwy]; exact Bxt
       have hh7 : Held (fun b => w.heap.size + 2 ≤ b) w6 wy := by rw [← hwy]; exact Hxt
       have hx7 : Rd r w wy := by rw [← hwy]; exact Rxt
       rw [hwy]
       clear hr6 hc1 hf1 hl1 hx6 hwy
       have HO7 := Lib.hid (OwnO.keep HO6.out (fun b hb hk => hh7.block b hk hb))
       have HI7 := Lib.hid Hnext.out.2
       have Hm7 := Lib.hid Hnext.out.1
       have Hn7 := Lib.hid (show n + 1 + (((⟨#[]⟩ : ByteArray)).size + (if true = true then 0 else 1)) ≤ 1048577 by
        have h1 := Hlz.out
        have h2 := Hnext.out.1
        have h3 : (⟨#[]⟩ : ByteArray).size = 0 := rfl
        simp only [Bool.false_eq_true, if_false] at h1
        (first | omega | (simp [h3]; omega) | (simp [h3]; done)))
       go_wp2_with fail
       go_roundg (((⟨#[]⟩ : ByteArray)).size + (if true = true then 0 else 1))
       case measure => have := Hm7.out; simpa using this
       case rel => exact ⟨(⟨#[]⟩ : ByteArray), true, n + 1, ks.take p ++ key :: ks.drop p, l.take p ++ x :: l.drop p, some ⟨g5, 0, none⟩, cap5, some ⟨g6, 0, none⟩, cap6, hr7, HO7.out, hB0, hB1, rfl, Hn7.out, hx7, HI7.out⟩
     ·(try simp only [rl])
      go_simp; refine hK.out _ _ (fun _ => Sof _ Hxt) ?_; clear hK K; (try simp only [rl])
      (refine wpAnyT_one (i := 4) (by kernel_rfl) (Array.getElem?_eq_getElem (by decide)) fun K hK => ?_); (try simp only [rl])
      go_simp; refine hK.out _ _ (fun _ => Sof _ Hxt) ?_; clear hK K; (try simp only [rl])
      (refine wpAnyT_one (i := 5) (by kernel_rfl) (Array.getElem?_eq_getElem (by decide)) fun K hK => ?_); (try simp only [rl])
      (try go_simp)
      (refine (insS_any (w.heap.size + 2) n p _ _ (.slice a2 n c2) (ks.map Value.string) [.string key] _ 9 ?_ ?_ hn30 hpn ?_ ?_ rfl (strs_one ks) (by simp [Value.oneCell'])).mono ?_)
      (focus (simp; omega))
      (focus (exact ownsRow_ext Ho2.out Xt))
      (focus (exact Bxt))
      (focus (intro h; have h' := (Hl2.out _ h).2; (first | omega | (simp at h'; omega) | (simp at h'; done))))
      rintro e w5 ⟨g5, cap5, rfl, hown5, hgrow5, hat5⟩
      have hh5 : Held T wb w5 := Held.grown Hxt hgrow5 HTK.out
      have hx5 : Rd r w w5 := Rd.grown Rxt hgrow5 (fun g hg => by have := (Hl2.out g hg).1; omega) hlt
      have Ho35 := Lib.hid (ownsRow_keep Ho3.out (fun b hb hg => Held.block (T := fun c => (Value.slice a2 n c2).ownBlock ≠ some c) (Held.grown Hxt hgrow5 (fun k hk h => h hk)) b (fun h => Hne.out b h hg) hb))
      have hg5 : (Value.slice a3 n c3).ownBlock ≠ some g5 := fun h => by
       rcases hat5 with h' | h'
       ·exact Hne.out _ h' h
       ·have h2 := (Hl3.out _ h).2; simp at h'; omega
      have Hb5 : Hid (∀ b, Beside (w.heap.size + 2) (.slice a2 n c2) (.slice a3 n c3) b → b < wb.heap.size → b ≠ g5) := fun b hb hl he => by
       rcases hat5 with h' | h'
       ·exact hb.2.1 (he ▸ h')
       ·simp at h'; omega
      have hz5 : wb.heap.size ≤ w5.heap.size := hh5.size
      have Hown5 := Lib.hid hown5
      have Hg5 := Lib.hid hg5
      have hX5 : Box w5 (wb.heap.size) (x.five kb kd lb ld).toArray 25 := Box.grown (w' := w5) Bxt hgrow5 (fun e => by have h' := (Hl2.out _ e.symm).2; omega)
      clear hown5 hat5 hg5
      (try go_simp)
      refine hK.out _ _ (fun _ => Sof _ Hxt) ?_; clear hK K; (try simp only [rl])
      (refine wpAnyT_take (i := 12) (v := ?_) [13] (Array.getElem?_eq_getElem (by decide)) (by kernel_rfl) (by kernel_rfl) (by kernel_rfl) (by kernel_rfl) rfl rfl (by kernel_rfl) (fun _ _ _ h => h) (Or.inl ⟨by kernel_rfl, ?_⟩) (Sof _ Hxt) ?_); rotate_left; (focus (intro w hSw; (try dsimp only at hSw); (try simp only [rl]); go_simp; (try with_reducible rfl))); (try simp only [rl])
      (refine wpAnyT_one (i := 11) (by kernel_rfl) (Array.getElem?_eq_getElem (by decide)) fun K hK => ?_); (try simp only [rl])
      (try go_simp)
      (refine (insV_any (w.heap.size + 2) n p _ _ (.slice a3 n c3) news (x.five kb kd lb ld) _ 25 ?_ ?_ hn30 hpn ?_ ?_ rfl H1c.out (x.five_one kb kd lb ld)).mono ?_)
      (focus (first | (simp; omega) | omega))
      (focus (exact ownsRow_ext Ho35.out Xt))
      (focus (exact Bxt))
      (focus (intro h; have h' := (Hl3.out _ h).2; (first | omega | (simp at h'; omega) | (simp at h'; done))))
      rintro e w6 ⟨g6, cap6, rfl, hown6, hgrow6, hat6⟩
      have hh6 : Held T wb w6 := Held.grown Hxt hgrow6 HTL.out
      (try go_simp)
      refine hK.out _ _ (fun _ => Sof _ hh6) ?_
      clear hK K
      (try simp only [rl])
      have hx6 : Rd r w w6 := Rd.grown Rxt hgrow6 (fun g hg => by have := (Hl3.out g hg).1; omega) hlt
      have Ho56 := Lib.hid (ownsRow_keep Hown5.out (fun b hb hg => Held.block (T := fun c => (Value.slice a3 n c3).ownBlock ≠ some c) (Held.grown Hxt hgrow6 (fun k hk h => h hk)) b (by simp only [Value.ownBlock, Option.map_some, Option.some.injEq] at hg; rw [← hg]; exact Hg5.out) hb))
      have hg6 : ∀ b, Beside (w.heap.size + 2) (.slice a2 n c2) (.slice a3 n c3) b → b < wb.heap.size → b ≠ g6 := fun b hb hl he => by
       rcases hat6 with h' | h'
       ·exact hb.2.2 (he ▸ h')
       ·(first | omega | (simp at h'; omega))
      have hnew : ∀ b, Beside (w.heap.size + 2) (.slice a2 n c2) (.slice a3 n c3) b → b < wb.heap.size → Beside (w.heap.size + 2) (.slice (some ⟨g5, 0, none⟩) (n + 1) cap5) (.slice (some ⟨g6, 0, none⟩) (n + 1) cap6) b := fun b hb hl => ⟨hb.1, fun h => Hb5.out b hb hl (by simpa [Value.ownBlock] using h.symm), fun h => hg6 b hb hl (by simpa [Value.ownBlock] using h.symm)⟩
      have hcc := (Hncells.out.keep (Held.kept (Held.mono hh6 HTB.out)) hnew).ins p (Hjn.out.keep (Held.kept (Held.mono hh6 HTB.out)) hnew)
      have HO6 : Hid (OwnO w6 (w.heap.size + 2) (.slice (some ⟨g5, 0, none⟩) (n + 1) cap5) (.slice (some ⟨g6, 0, none⟩) (n + 1) cap6) (n + 1) (ks.take p ++ key :: ks.drop p) (l.take p ++ x :: l.drop p)) :=
       ⟨by simp [hks.out]; omega, by simp [hll.out]; omega, by simpa [List.map_take, List.map_drop] using Ho56.out, _, hown6, hcc⟩
      have hr6 : Sr w6 r (⟨#[]⟩ : ByteArray) true := Box.held hh6 hrb (hT0.out _ (by omega))
      have hB0 := Box.held hh6 hB0 (hT0.out _ (by omega))
      have hB1 := Box.held hh6 hB1 (hT0.out _ (by omega))
      have hz6 := hh6.size
      clear hown6 hgrow6 hat6 hcc hnew hg6 Sof hgrow5 hh5 hx5 hBx hrb hxb
      have hc1 := hB1.cells; have hf1 := hB1.free; have hl1 := hB1.lt
      (refine wpAnyT_one (i := 13) (by kernel_rfl) (Array.getElem?_eq_getElem (by decide)) fun K hK => ?_); (try simp only [rl])
      go_simp
      (refine hK.out _ _ (fun h => Bool.noConfusion (show true = false from h)) ?_); clear hK K; (try simp only [rl])
      (refine wpAnyT_one (i := 14) (by kernel_rfl) (Array.getElem?_eq_getElem (by decide)) fun K hK => ?_); (try simp only [rl])
      go_simp
      (refine hK.out _ _ (fun h => Bool.noConfusion (show true = false from h)) ?_); clear hK K; (try simp only [rl])
      (refine wpAnyT_one (i := 15) (by kernel_rfl) (Array.getElem?_eq_getElem (by decide)) fun K hK => ?_); (try simp only [rl])
      go_simp
      (refine hK.out _ _ (fun h => Bool.noConfusion (show true = false from h)) ?_); clear hK K; (try simp only [rl])
      refine wpAnyT_done (by kernel_rfl) ?_ _
      obtain ⟨wy, hwy⟩ : ∃ wy, (w6.setCell ⟨w.heap.size + 1, 3, none⟩ (Value.slice (some ⟨g5, 0, none⟩) (n + 1) cap5)).setCell ⟨w.heap.size + 1, 4, none⟩ (Value.slice (some ⟨g6, 0, none⟩) (n + 1) cap6) = wy := ⟨_, rfl⟩
      have hr7 : Sr wy r (⟨#[]⟩ : ByteArray) true := by rw [← hwy]; exact Srt
      have hB0 : Box wy w.heap.size #[.int .i64 0, .int .i64 0, .string ⟨#[]⟩, .slice none 0 0, .slice none 0 0] 25 := by rw [← hwy]; exact Bxt
      have hB1 : Box wy (w.heap.size + 1) #[.int .i64 5, .int .i64 0, .string ⟨#[]⟩, .slice (some ⟨g5, 0, none⟩) (n + 1) cap5, .slice (some ⟨g6, 0, none⟩) (n + 1) cap6] 25 := by rw [← hwy]; exact Bxt
      have hh7 : Held (fun b => w.heap.size + 2 ≤ b) w6 wy := by rw [← hwy]; exact Hxt
      have hx7 : Rd r w wy := by rw [← hwy]; exact Rxt
      rw [hwy]
      clear hr6 hc1 hf1 hl1 hx6 hwy
      have HO7 := Lib.hid (OwnO.keep HO6.out (fun b hb hk => hh7.block b hk hb))
      have HI7 := Lib.hid Hnext.out.2
      have Hm7 := Lib.hid Hnext.out.1
      have Hn7 := Lib.hid (show n + 1 + (((⟨#[]⟩ : ByteArray)).size + (if true = true then 0 else 1)) ≤ 1048577 by
       have h1 := Hlz.out
       have h2 := Hnext.out.1
       have h3 : (⟨#[]⟩ : ByteArray).size = 0 := rfl
       simp only [Bool.false_eq_true, if_false] at h1
       (first | omega | (simp [h3]; omega) | (simp [h3]; done)))
      go_wp2_with fail
      go_roundg (((⟨#[]⟩ : ByteArray)).size + (if true = true then 0 else 1))
      case measure => have := Hm7.out; simpa using this
      case rel => exact ⟨(⟨#[]⟩ : ByteArray), true, n + 1, ks.take p ++ key :: ks.drop p, l.take p ++ x :: l.drop p, some ⟨g5, 0, none⟩, cap5, some ⟨g6, 0, none⟩, cap6, hr7, HO7.out, hB0, hB1, rfl, Hn7.out, hx7, HI7.out⟩
    | false =>
     have Hhb := Lib.hid hhb
     have Hnext := Lib.hid (by have h := ob_next Hrise.out HR3.out hsz3 HM.out hhb; rw [Hp0.out] at h; exact h)
     clear hhb HM HR3
     go_upto_region 14 with fail
     refine gen_world (R := fun wx => Box wx w.heap.size #[.int .i64 0, .int .i64 0, .string ⟨#[]⟩, .slice none 0 0, .slice none 0 0] 25 ∧ Box wx (w.heap.size + 1) #[.int .i64 5, .int .i64 0, .string ⟨#[]⟩, .slice a2 n c2, .slice a3 n c3] 25 ∧ Box wx w8.heap.size #[.int .i64 x.k, .int .i64 x.n, .string x.s, .slice kb x.keys.length kd, .slice lb x.l.length ld] 25 ∧ Ext w10 wx) ⟨hB0, hB1, hBx, Xt⟩ ?_
     clear hB0 hB1 hBx
     rintro wb ⟨hB0, hB1, hBx, hxe⟩
     have hrb := hr10.ext hxe
     have HOb := Lib.hid (OwnO.ext HO10.out hxe)
     have Hinb := Lib.hid (Hin10.out.ext hxe)
     have hxb := hx10.ext hlt hxe
     have hzb := hxe.size
     clear hr10 HO10 Hin10 hx10 hxe
     obtain ⟨hks, hll, hkeys, news, hitems, hcells⟩ := HOb.out
     have hks := Lib.hid hks
     have hll := Lib.hid hll
     have Ho2 := Lib.hid hkeys
     have Ho3 := Lib.hid hitems
     have H1c := Lib.hid hcells.one
     have Hncells := Lib.hid hcells
     have Hl2 : Hid (∀ g, (Value.slice a2 n c2).ownBlock = some g → w.heap.size + 2 ≤ g ∧ g < wb.heap.size) := hkeys.lt
     have Hl3 : Hid (∀ g, (Value.slice a3 n c3).ownBlock = some g → w.heap.size + 2 ≤ g ∧ g < wb.heap.size) := hitems.lt
     have Hne : Hid (∀ g, (Value.slice a2 n c2).ownBlock = some g → (Value.slice a3 n c3).ownBlock ≠ some g) := fun g h h' => by
      obtain ⟨q1, z1, e1⟩ := owns_kind hkeys g h
      obtain ⟨q2, z2, e2⟩ := owns_kind hitems g h'
      rw [e1] at e2
      simp at e2
     have Hjn := Lib.hid (show x.In wb (Beside (w.heap.size + 2) (.slice a2 n c2) (.slice a3 n c3)) kb kd lb ld from Hinb.out.mono fun b h _ => ⟨by omega, fun h' => by have := Hrw2.out b h'; omega, fun h' => by have := Hrw3.out b h'; omega⟩)
     clear hkeys hitems hcells Hinb HOb
     obtain ⟨T, hT⟩ : ∃ T : Nat → Prop, T = fun b => (Value.slice a2 n c2).ownBlock ≠ some b ∧ (Value.slice a3 n c3).ownBlock ≠ some b := ⟨_, rfl⟩
     have HTK : Hid (∀ k, (Value.slice a2 n c2).ownBlock = some k → ¬ T k) := by rw [hT]; exact fun k h h' => h'.1 h
     have HTL : Hid (∀ k, (Value.slice a3 n c3).ownBlock = some k → ¬ T k) := by rw [hT]; exact fun k h h' => h'.2 h
     have hT0 : Hid (∀ b, b < w.heap.size + 2 → T b) := by rw [hT]; exact fun b hb => ⟨fun h => by have := (Hl2.out b h).1; omega, fun h => by have := (Hl3.out b h).1; omega⟩
     have hTx : Hid (T w8.heap.size) := by rw [hT]; exact ⟨fun h => by have := Hrw2.out _ h; omega, fun h => by have := Hrw3.out _ h; omega⟩
     have HTB : Hid (∀ b, Beside (w.heap.size + 2) (.slice a2 n c2) (.slice a3 n c3) b → T b) := by rw [hT]; exact fun b h => h.2
     clear hT
     have Sof : ∀ w', Held T wb w' → (w'.cell? ⟨w.heap.size + 1, 3, none⟩ = some (.slice a2 n c2) ∧ w'.cell? ⟨w.heap.size + 1, 4, none⟩ = some (.slice a3 n c3) ∧ w'.cell? ⟨w8.heap.size, 0, none⟩ = some (.int .i64 x.k) ∧ w'.cell? ⟨w8.heap.size, 1, none⟩ = some (.int .i64 x.n) ∧ w'.cell? ⟨w8.heap.size, 2, none⟩ = some (.string x.s) ∧ w'.cell? ⟨w8.heap.size, 3, none⟩ = some (.slice kb x.keys.length kd) ∧ w'.cell? ⟨w8.heap.size, 4, none⟩ = some (.slice lb x.l.length ld)) :=
      fun w' e => ⟨e.kept.cell (hT0.out _ (by simp)) (hB1.cells 3), e.kept.cell (hT0.out _ (by simp)) (hB1.cells 4), e.kept.cell hTx.out (hBx.cells 0), e.kept.cell hTx.out (hBx.cells 1), e.kept.cell hTx.out (hBx.cells 2), e.kept.cell hTx.out (hBx.cells 3), e.kept.cell hTx.out (hBx.cells 4)⟩
     have hbl := hBx.lt
     refine wp_region_till (S := fun w' => w'.cell? ⟨w.heap.size + 1, 3, none⟩ = some (.slice a2 n c2) ∧ w'.cell? ⟨w.heap.size + 1, 4, none⟩ = some (.slice a3 n c3) ∧ w'.cell? ⟨w8.heap.size, 0, none⟩ = some (.int .i64 x.k) ∧ w'.cell? ⟨w8.heap.size, 1, none⟩ = some (.int .i64 x.n) ∧ w'.cell? ⟨w8.heap.size, 2, none⟩ = some (.string x.s) ∧ w'.cell? ⟨w8.heap.size, 3, none⟩ = some (.slice kb x.keys.length kd) ∧ w'.cell? ⟨w8.heap.size, 4, none⟩ = some (.slice lb x.l.length ld)) (c := 13) (by kernel_rfl) ?_
     (refine wpAnyT_take (i := 0) (v := ?_) [13] (Array.getElem?_eq_getElem (by decide)) (by kernel_rfl) (by kernel_rfl) (by kernel_rfl) (by kernel_rfl) rfl rfl (by kernel_rfl) (fun _ _ _ h => h) (Or.inl ⟨by kernel_rfl, ?_⟩) (Sof _ Hxt) ?_); rotate_left; (focus (intro w hSw; (try dsimp only at hSw); (try simp only [rl]); go_simp; (try with_reducible rfl))); (try simp only [rl])
     (refine wpAnyT_take (i := 1) (v := ?_) [13] (Array.getElem?_eq_getElem (by decide)) (by kernel_rfl) (by kernel_rfl) (by kernel_rfl) (by kernel_rfl) rfl rfl (by kernel_rfl) (fun _ _ _ h => h) (Or.inl ⟨by kernel_rfl, ?_⟩) (Sof _ Hxt) ?_); rotate_left; (focus (intro w hSw; (try dsimp only at hSw); (try simp only [rl]); go_simp; (try with_reducible rfl))); (try simp only [rl])
     (refine wpAnyT_take (i := 2) (v := ?_) [13] (Array.getElem?_eq_getElem (by decide)) (by kernel_rfl) (by kernel_rfl) (by kernel_rfl) (by kernel_rfl) rfl rfl (by kernel_rfl) (fun _ _ _ h => h) (Or.inl ⟨by kernel_rfl, ?_⟩) (Sof _ Hxt) ?_); rotate_left; (focus (intro w hSw; (try dsimp only at hSw); (try simp only [rl]); go_simp; (try with_reducible rfl))); (try simp only [rl])
     (refine wpAnyT_take (i := 3) (v := ?_) [13] (Array.getElem?_eq_getElem (by decide)) (by kernel_rfl) (by kernel_rfl) (by kernel_rfl) (by kernel_rfl) rfl rfl (by kernel_rfl) (fun _ _ _ h => h) (Or.inl ⟨by kernel_rfl, ?_⟩) (Sof _ Hxt) ?_); rotate_left; (focus (intro w hSw; (try dsimp only at hSw); (try simp only [rl]); go_simp; (try with_reducible rfl))); (try simp only [rl])
     (refine wpAnyT_take (i := 6) (v := ?_) [13] (Array.getElem?_eq_getElem (by decide)) (by kernel_rfl) (by kernel_rfl) (by kernel_rfl) (by kernel_rfl) rfl rfl (by kernel_rfl) (fun _ _ _ h => h) (Or.inl ⟨by kernel_rfl, ?_⟩) (Sof _ Hxt) ?_); rotate_left; (focus (intro w hSw; (try dsimp only at hSw); (try simp only [rl]); go_simp; (try with_reducible rfl))); (try simp only [rl])
     (refine wpAnyT_take (i := 7) (v := ?_) [13] (Array.getElem?_eq_getElem (by decide)) (by kernel_rfl) (by kernel_rfl) (by kernel_rfl) (by kernel_rfl) rfl rfl (by kernel_rfl) (fun _ _ _ h => h) (Or.inl ⟨by kernel_rfl, ?_⟩) (Sof _ Hxt) ?_); rotate_left; (focus (intro w hSw; (try dsimp only at hSw); (try simp only [rl]); go_simp; (try with_reducible rfl))); (try simp only [rl])
     (refine wpAnyT_take (i := 8) (v := ?_) [11, 13] (Array.getElem?_eq_getElem (by decide)) (by kernel_rfl) (by kernel_rfl) (by kernel_rfl) (by kernel_rfl) rfl rfl (by kernel_rfl) (fun _ _ _ h => h) (Or.inl ⟨by kernel_rfl, ?_⟩) (Sof _ Hxt) ?_); rotate_left; (focus (intro w hSw; (try dsimp only at hSw); (try simp only [rl]); go_simp; (try with_reducible rfl))); (try simp only [rl])
     (refine wpAnyT_take (i := 9) (v := ?_) [10, 11, 13] (Array.getElem?_eq_getElem (by decide)) (by kernel_rfl) (by kernel_rfl) (by kernel_rfl) (by kernel_rfl) rfl rfl (by kernel_rfl) (fun _ _ _ h => h) (Or.inl ⟨by kernel_rfl, ?_⟩) (Sof _ Hxt) ?_); rotate_left; (focus (intro w hSw; (try dsimp only at hSw); (try simp only [rl]); go_simp; (try with_reducible rfl))); (try simp only [rl])
     refine wpAnyT_ready (rs := [4, 10]) (by kernel_rfl) (by simp) ?_
     refine AllReadyT.cons (Array.getElem?_eq_getElem (by decide)) (fun K hK => ?_) (AllReadyT.cons (Array.getElem?_eq_getElem (by decide)) (fun K hK => ?_) AllReadyT.nil)
     ·(try simp only [rl])
      go_simp; refine hK.out _ _ (fun _ => Sof _ Hxt) ?_; clear hK K; (try simp only [rl])
      refine wpAnyT_ready (rs := [5, 10]) (by kernel_rfl) (by simp) ?_
      refine AllReadyT.cons (Array.getElem?_eq_getElem (by decide)) (fun K hK => ?_) (AllReadyT.cons (Array.getElem?_eq_getElem (by decide)) (fun K hK => ?_) AllReadyT.nil)
      ·(try simp only [rl])
       (try go_simp)
       (refine (insS_any (w.heap.size + 2) n p _ _ (.slice a2 n c2) (ks.map Value.string) [.string key] _ 9 ?_ ?_ hn30 hpn ?_ ?_ rfl (strs_one ks) (by simp [Value.oneCell'])).mono ?_)
       (focus (simp; omega))
       (focus (exact ownsRow_ext Ho2.out Xt))
       (focus (exact Bxt))
       (focus (intro h; have h' := (Hl2.out _ h).2; (first | omega | (simp at h'; omega) | (simp at h'; done))))
       rintro e w5 ⟨g5, cap5, rfl, hown5, hgrow5, hat5⟩
       have hh5 : Held T wb w5 := Held.grown Hxt hgrow5 HTK.out
       have hx5 : Rd r w w5 := Rd.grown Rxt hgrow5 (fun g hg => by have := (Hl2.out g hg).1; omega) hlt
       have Ho35 := Lib.hid (ownsRow_keep Ho3.out (fun b hb hg => Held.block (T := fun c => (Value.slice a2 n c2).ownBlock ≠ some c) (Held.grown Hxt hgrow5 (fun k hk h => h hk)) b (fun h => Hne.out b h hg) hb))
       have hg5 : (Value.slice a3 n c3).ownBlock ≠ some g5 := fun h => by
        rcases hat5 with h' | h'
        ·exact Hne.out _ h' h
        ·have h2 := (Hl3.out _ h).2; simp at h'; omega
       have Hb5 : Hid (∀ b, Beside (w.heap.size + 2) (.slice a2 n c2) (.slice a3 n c3) b → b < wb.heap.size → b ≠ g5) := fun b hb hl he => by
        rcases hat5 with h' | h'
        ·exact hb.2.1 (he ▸ h')
        ·simp at h'; omega
       have hz5 : wb.heap.size ≤ w5.heap.size := hh5.size
       have Hown5 := Lib.hid hown5
       have Hg5 := Lib.hid hg5
       clear hown5 hat5 hg5
       (try go_simp)
       refine hK.out _ _ (fun _ => Sof _ Hxt) ?_; clear hK K; (try simp only [rl])
       (refine wpAnyT_take (i := 12) (v := ?_) [13] (Array.getElem?_eq_getElem (by decide)) (by kernel_rfl) (by kernel_rfl) (by kernel_rfl) (by kernel_rfl) rfl rfl (by kernel_rfl) (fun _ _ _ h => h) (Or.inl ⟨by kernel_rfl, ?_⟩) (Sof _ Hxt) ?_); rotate_left; (focus (intro w hSw; (try dsimp only at hSw); (try simp only [rl]); go_simp; (try with_reducible rfl))); (try simp only [rl])
       (refine wpAnyT_one (i := 10) (by kernel_rfl) (Array.getElem?_eq_getElem (by decide)) fun K hK => ?_); (try simp only [rl])
       go_simp; refine hK.out _ _ (fun _ => Sof _ Hxt) ?_; clear hK K; (try simp only [rl])
       (refine wpAnyT_one (i := 11) (by kernel_rfl) (Array.getElem?_eq_getElem (by decide)) fun K hK => ?_); (try simp only [rl])
       (try go_simp)
       (refine (insV_any (w.heap.size + 2) n p _ _ (.slice a3 n c3) news (x.five kb kd lb ld) _ 25 ?_ ?_ hn30 hpn ?_ ?_ rfl H1c.out (x.five_one kb kd lb ld)).mono ?_)
       (focus (first | (simp; omega) | omega))
       (focus (exact ownsRow_ext Ho35.out Xt))
       (focus (exact Bxt))
       (focus (intro h; have h' := (Hl3.out _ h).2; (first | omega | (simp at h'; omega) | (simp at h'; done))))
       rintro e w6 ⟨g6, cap6, rfl, hown6, hgrow6, hat6⟩
       have hh6 : Held T wb w6 := Held.grown Hxt hgrow6 HTL.out
       (try go_simp)
       refine hK.out _ _ (fun _ => Sof _ hh6) ?_
       clear hK K
       (try simp only [rl])
       have hx6 : Rd r w w6 := Rd.grown Rxt hgrow6 (fun g hg => by have := (Hl3.out g hg).1; omega) hlt
       have Ho56 := Lib.hid (ownsRow_keep Hown5.out (fun b hb hg => Held.block (T := fun c => (Value.slice a3 n c3).ownBlock ≠ some c) (Held.grown Hxt hgrow6 (fun k hk h => h hk)) b (by simp only [Value.ownBlock, Option.map_some, Option.some.injEq] at hg; rw [← hg]; exact Hg5.out) hb))
       have hg6 : ∀ b, Beside (w.heap.size + 2) (.slice a2 n c2) (.slice a3 n c3) b → b < wb.heap.size → b ≠ g6 := fun b hb hl he => by
        rcases hat6 with h' | h'
        ·exact hb.2.2 (he ▸ h')
        ·(first | omega | (simp at h'; omega))
       have hnew : ∀ b, Beside (w.heap.size + 2) (.slice a2 n c2) (.slice a3 n c3) b → b < wb.heap.size → Beside (w.heap.size + 2) (.slice (some ⟨g5, 0, none⟩) (n + 1) cap5) (.slice (some ⟨g6, 0, none⟩) (n + 1) cap6) b := fun b hb hl => ⟨hb.1, fun h => Hb5.out b hb hl (by simpa [Value.ownBlock] using h.symm), fun h => hg6 b hb hl (by simpa [Value.ownBlock] using h.symm)⟩
       have hcc := (Hncells.out.keep (Held.kept (Held.mono hh6 HTB.out)) hnew).ins p (Hjn.out.keep (Held.kept (Held.mono hh6 HTB.out)) hnew)
       have HO6 : Hid (OwnO w6 (w.heap.size + 2) (.slice (some ⟨g5, 0, none⟩) (n + 1) cap5) (.slice (some ⟨g6, 0, none⟩) (n + 1) cap6) (n + 1) (ks.take p ++ key :: ks.drop p) (l.take p ++ x :: l.drop p)) :=
        ⟨by simp [hks.out]; omega, by simp [hll.out]; omega, by simpa [List.map_take, List.map_drop] using Ho56.out, _, hown6, hcc⟩
       have hr6 : Sr w6 r s8 bad8 := Box.held hh6 hrb (hT0.out _ (by omega))
       have hB0 := Box.held hh6 hB0 (hT0.out _ (by omega))
       have hB1 := Box.held hh6 hB1 (hT0.out _ (by omega))
       have hz6 := hh6.size
       clear hown6 hgrow6 hat6 hcc hnew hg6 Sof hgrow5 hh5 hx5 hBx hrb hxb
       have hc1 := hB1.cells; have hf1 := hB1.free; have hl1 := hB1.lt
       (refine wpAnyT_one (i := 13) (by kernel_rfl) (Array.getElem?_eq_getElem (by decide)) fun K hK => ?_); (try simp only [rl])
       go_simp
       (refine hK.out _ _ (fun h => Bool.noConfusion (show true = false from h)) ?_); clear hK K; (try simp only [rl])
       (refine wpAnyT_one (i := 14) (by kernel_rfl) (Array.getElem?_eq_getElem (by decide)) fun K hK => ?_); (try simp only [rl])
       go_simp
       (refine hK.out _ _ (fun h => Bool.noConfusion (show true = false from h)) ?_); clear hK K; (try simp only [rl])
       (refine wpAnyT_one (i := 15) (by kernel_rfl) (Array.getElem?_eq_getElem (by decide)) fun K hK => ?_); (try simp only [rl])
       go_simp
       (refine hK.out _ _ (fun h => Bool.noConfusion (show true = false from h)) ?_); clear hK K; (try simp only [rl])
       refine wpAnyT_done (by kernel_rfl) ?_ _
       obtain ⟨wy, hwy⟩ : ∃ wy, (w6.setCell ⟨w.heap.size + 1, 3, none⟩ (Value.slice (some ⟨g5, 0, none⟩) (n + 1) cap5)).setCell ⟨w.heap.size + 1, 4, none⟩ (Value.slice (some ⟨g6, 0, none⟩) (n + 1) cap6) = wy := ⟨_, rfl⟩
       have hr7 : Sr wy r s8 bad8 := by rw [← hwy]; exact Srt
       have hB0 : Box wy w.heap.size #[.int .i64 0, .int .i64 0, .string ⟨#[]⟩, .slice none 0 0, .slice none 0 0] 25 := by rw [← hwy]; exact Bxt
       have hB1 : Box wy (w.heap.size + 1) #[.int .i64 5, .int .i64 0, .string ⟨#[]⟩, .slice (some ⟨g5, 0, none⟩) (n + 1) cap5, .slice (some ⟨g6, 0, none⟩) (n + 1) cap6] 25 := by rw [← hwy]; exact Bxt
       have hh7 : Held (fun b => w.heap.size + 2 ≤ b) w6 wy := by rw [← hwy]; exact Hxt
       have hx7 : Rd r w wy := by rw [← hwy]; exact Rxt
       rw [hwy]
       clear hr6 hc1 hf1 hl1 hx6 hwy
       have HO7 := Lib.hid (OwnO.keep HO6.out (fun b hb hk => hh7.block b hk hb))
       have HI7 := Lib.hid Hnext.out.2
       have Hm7 := Lib.hid Hnext.out.1
       have Hn7 := Lib.hid (show n + 1 + ((s8).size + (if bad8 = true then 0 else 1)) ≤ 1048577 by
        have h1 := Hlz.out
        have h2 := Hnext.out.1
        have h3 : (⟨#[]⟩ : ByteArray).size = 0 := rfl
        simp only [Bool.false_eq_true, if_false] at h1
        (first | omega | (simp [h3]; omega) | (simp [h3]; done)))
       go_wp2_with fail
       go_roundg ((s8).size + (if bad8 = true then 0 else 1))
       case measure => have := Hm7.out; simpa using this
       case rel => exact ⟨s8, bad8, n + 1, ks.take p ++ key :: ks.drop p, l.take p ++ x :: l.drop p, some ⟨g5, 0, none⟩, cap5, some ⟨g6, 0, none⟩, cap6, hr7, HO7.out, hB0, hB1, rfl, Hn7.out, hx7, HI7.out⟩
      ·(try simp only [rl])
       go_simp; refine hK.out _ _ (fun _ => Sof _ Hxt) ?_; clear hK K; (try simp only [rl])
       (refine wpAnyT_one (i := 5) (by kernel_rfl) (Array.getElem?_eq_getElem (by decide)) fun K hK => ?_); (try simp only [rl])
       (try go_simp)
       (refine (insS_any (w.heap.size + 2) n p _ _ (.slice a2 n c2) (ks.map Value.string) [.string key] _ 9 ?_ ?_ hn30 hpn ?_ ?_ rfl (strs_one ks) (by simp [Value.oneCell'])).mono ?_)
       (focus (simp; omega))
       (focus (exact ownsRow_ext Ho2.out Xt))
       (focus (exact Bxt))
       (focus (intro h; have h' := (Hl2.out _ h).2; (first | omega | (simp at h'; omega) | (simp at h'; done))))
       rintro e w5 ⟨g5, cap5, rfl, hown5, hgrow5, hat5⟩
       have hh5 : Held T wb w5 := Held.grown Hxt hgrow5 HTK.out
       have hx5 : Rd r w w5 := Rd.grown Rxt hgrow5 (fun g hg => by have := (Hl2.out g hg).1; omega) hlt
       have Ho35 := Lib.hid (ownsRow_keep Ho3.out (fun b hb hg => Held.block (T := fun c => (Value.slice a2 n c2).ownBlock ≠ some c) (Held.grown Hxt hgrow5 (fun k hk h => h hk)) b (fun h => Hne.out b h hg) hb))
       have hg5 : (Value.slice a3 n c3).ownBlock ≠ some g5 := fun h => by
        rcases hat5 with h' | h'
        ·exact Hne.out _ h' h
        ·have h2 := (Hl3.out _ h).2; simp at h'; omega
       have Hb5 : Hid (∀ b, Beside (w.heap.size + 2) (.slice a2 n c2) (.slice a3 n c3) b → b < wb.heap.size → b ≠ g5) := fun b hb hl he => by
        rcases hat5 with h' | h'
        ·exact hb.2.1 (he ▸ h')
        ·simp at h'; omega
       have hz5 : wb.heap.size ≤ w5.heap.size := hh5.size
       have Hown5 := Lib.hid hown5
       have Hg5 := Lib.hid hg5
       have hX5 : Box w5 (wb.heap.size + 1) (x.five kb kd lb ld).toArray 25 := Box.grown (w' := w5) Bxt hgrow5 (fun e => by have h' := (Hl2.out _ e.symm).2; omega)
       clear hown5 hat5 hg5
       (try go_simp)
       refine hK.out _ _ (fun _ => Sof _ Hxt) ?_; clear hK K; (try simp only [rl])
       (refine wpAnyT_take (i := 12) (v := ?_) [13] (Array.getElem?_eq_getElem (by decide)) (by kernel_rfl) (by kernel_rfl) (by kernel_rfl) (by kernel_rfl) rfl rfl (by kernel_rfl) (fun _ _ _ h => h) (Or.inl ⟨by kernel_rfl, ?_⟩) (Sof _ Hxt) ?_); rotate_left; (focus (intro w hSw; (try dsimp only at hSw); (try simp only [rl]); go_simp; (try with_reducible rfl))); (try simp only [rl])
       (refine wpAnyT_one (i := 11) (by kernel_rfl) (Array.getElem?_eq_getElem (by decide)) fun K hK => ?_); (try simp only [rl])
       (try go_simp)
       (refine (insV_any (w.heap.size + 2) n p _ _ (.slice a3 n c3) news (x.five kb kd lb ld) _ 25 ?_ ?_ hn30 hpn ?_ ?_ rfl H1c.out (x.five_one kb kd lb ld)).mono ?_)
       (focus (first | (simp; omega) | omega))
       (focus (exact ownsRow_ext Ho35.out Xt))
       (focus (exact Bxt))
       (focus (intro h; have h' := (Hl3.out _ h).2; (first | omega | (simp at h'; omega) | (simp at h'; done))))
       rintro e w6 ⟨g6, cap6, rfl, hown6, hgrow6, hat6⟩
       have hh6 : Held T wb w6 := Held.grown Hxt hgrow6 HTL.out
       (try go_simp)
       refine hK.out _ _ (fun _ => Sof _ hh6) ?_
       clear hK K
       (try simp only [rl])
       have hx6 : Rd r w w6 := Rd.grown Rxt hgrow6 (fun g hg => by have := (Hl3.out g hg).1; omega) hlt
       have Ho56 := Lib.hid (ownsRow_keep Hown5.out (fun b hb hg => Held.block (T := fun c => (Value.slice a3 n c3).ownBlock ≠ some c) (Held.grown Hxt hgrow6 (fun k hk h => h hk)) b (by simp only [Value.ownBlock, Option.map_some, Option.some.injEq] at hg; rw [← hg]; exact Hg5.out) hb))
       have hg6 : ∀ b, Beside (w.heap.size + 2) (.slice a2 n c2) (.slice a3 n c3) b → b < wb.heap.size → b ≠ g6 := fun b hb hl he => by
        rcases hat6 with h' | h'
        ·exact hb.2.2 (he ▸ h')
        ·(first | omega | (simp at h'; omega))
       have hnew : ∀ b, Beside (w.heap.size + 2) (.slice a2 n c2) (.slice a3 n c3) b → b < wb.heap.size → Beside (w.heap.size + 2) (.slice (some ⟨g5, 0, none⟩) (n + 1) cap5) (.slice (some ⟨g6, 0, none⟩) (n + 1) cap6) b := fun b hb hl => ⟨hb.1, fun h => Hb5.out b hb hl (by simpa [Value.ownBlock] using h.symm), fun h => hg6 b hb hl (by simpa [Value.ownBlock] using h.symm)⟩
       have hcc := (Hncells.out.keep (Held.kept (Held.mono hh6 HTB.out)) hnew).ins p (Hjn.out.keep (Held.kept (Held.mono hh6 HTB.out)) hnew)
       have HO6 : Hid (OwnO w6 (w.heap.size + 2) (.slice (some ⟨g5, 0, none⟩) (n + 1) cap5) (.slice (some ⟨g6, 0, none⟩) (n + 1) cap6) (n + 1) (ks.take p ++ key :: ks.drop p) (l.take p ++ x :: l.drop p)) :=
        ⟨by simp [hks.out]; omega, by simp [hll.out]; omega, by simpa [List.map_take, List.map_drop] using Ho56.out, _, hown6, hcc⟩
       have hr6 : Sr w6 r s8 bad8 := Box.held hh6 hrb (hT0.out _ (by omega))
       have hB0 := Box.held hh6 hB0 (hT0.out _ (by omega))
       have hB1 := Box.held hh6 hB1 (hT0.out _ (by omega))
       have hz6 := hh6.size
       clear hown6 hgrow6 hat6 hcc hnew hg6 Sof hgrow5 hh5 hx5 hBx hrb hxb
       have hc1 := hB1.cells; have hf1 := hB1.free; have hl1 := hB1.lt
       (refine wpAnyT_one (i := 13) (by kernel_rfl) (Array.getElem?_eq_getElem (by decide)) fun K hK => ?_); (try simp only [rl])
       go_simp
       (refine hK.out _ _ (fun h => Bool.noConfusion (show true = false from h)) ?_); clear hK K; (try simp only [rl])
       (refine wpAnyT_one (i := 14) (by kernel_rfl) (Array.getElem?_eq_getElem (by decide)) fun K hK => ?_); (try simp only [rl])
       go_simp
       (refine hK.out _ _ (fun h => Bool.noConfusion (show true = false from h)) ?_); clear hK K; (try simp only [rl])
       (refine wpAnyT_one (i := 15) (by kernel_rfl) (Array.getElem?_eq_getElem (by decide)) fun K hK => ?_); (try simp only [rl])
       go_simp
       (refine hK.out _ _ (fun h => Bool.noConfusion (show true = false from h)) ?_); clear hK K; (try simp only [rl])
       refine wpAnyT_done (by kernel_rfl) ?_ _
       obtain ⟨wy, hwy⟩ : ∃ wy, (w6.setCell ⟨w.heap.size + 1, 3, none⟩ (Value.slice (some ⟨g5, 0, none⟩) (n + 1) cap5)).setCell ⟨w.heap.size + 1, 4, none⟩ (Value.slice (some ⟨g6, 0, none⟩) (n + 1) cap6) = wy := ⟨_, rfl⟩
       have hr7 : Sr wy r s8 bad8 := by rw [← hwy]; exact Srt
       have hB0 : Box wy w.heap.size #[.int .i64 0, .int .i64 0, .string ⟨#[]⟩, .slice none 0 0, .slice none 0 0] 25 := by rw [← hwy]; exact Bxt
       have hB1 : Box wy (w.heap.size + 1) #[.int .i64 5, .int .i64 0, .string ⟨#[]⟩, .slice (some ⟨g5, 0, none⟩) (n + 1) cap5, .slice (some ⟨g6, 0, none⟩) (n + 1) cap6] 25 := by rw [← hwy]; exact Bxt
       have hh7 : Held (fun b => w.heap.size + 2 ≤ b) w6 wy := by rw [← hwy]; exact Hxt
       have hx7 : Rd r w wy := by rw [← hwy]; exact Rxt
       rw [hwy]
       clear hr6 hc1 hf1 hl1 hx6 hwy
       have HO7 := Lib.hid (OwnO.keep HO6.out (fun b hb hk => hh7.block b hk hb))
       have HI7 := Lib.hid Hnext.out.2
       have Hm7 := Lib.hid Hnext.out.1
       have Hn7 := Lib.hid (show n + 1 + ((s8).size + (if bad8 = true then 0 else 1)) ≤ 1048577 by
        have h1 := Hlz.out
        have h2 := Hnext.out.1
        have h3 : (⟨#[]⟩ : ByteArray).size = 0 := rfl
        simp only [Bool.false_eq_true, if_false] at h1
        (first | omega | (simp [h3]; omega) | (simp [h3]; done)))
       go_wp2_with fail
       go_roundg ((s8).size + (if bad8 = true then 0 else 1))
       case measure => have := Hm7.out; simpa using this
       case rel => exact ⟨s8, bad8, n + 1, ks.take p ++ key :: ks.drop p, l.take p ++ x :: l.drop p, some ⟨g5, 0, none⟩, cap5, some ⟨g6, 0, none⟩, cap6, hr7, HO7.out, hB0, hB1, rfl, Hn7.out, hx7, HI7.out⟩
     ·(try simp only [rl])
      go_simp; refine hK.out _ _ (fun _ => Sof _ Hxt) ?_; clear hK K; (try simp only [rl])
      (refine wpAnyT_one (i := 4) (by kernel_rfl) (Array.getElem?_eq_getElem (by decide)) fun K hK => ?_); (try simp only [rl])
      go_simp; refine hK.out _ _ (fun _ => Sof _ Hxt) ?_; clear hK K; (try simp only [rl])
      (refine wpAnyT_one (i := 5) (by kernel_rfl) (Array.getElem?_eq_getElem (by decide)) fun K hK => ?_); (try simp only [rl])
      (try go_simp)
      (refine (insS_any (w.heap.size + 2) n p _ _ (.slice a2 n c2) (ks.map Value.string) [.string key] _ 9 ?_ ?_ hn30 hpn ?_ ?_ rfl (strs_one ks) (by simp [Value.oneCell'])).mono ?_)
      (focus (simp; omega))
      (focus (exact ownsRow_ext Ho2.out Xt))
      (focus (exact Bxt))
      (focus (intro h; have h' := (Hl2.out _ h).2; (first | omega | (simp at h'; omega) | (simp at h'; done))))
      rintro e w5 ⟨g5, cap5, rfl, hown5, hgrow5, hat5⟩
      have hh5 : Held T wb w5 := Held.grown Hxt hgrow5 HTK.out
      have hx5 : Rd r w w5 := Rd.grown Rxt hgrow5 (fun g hg => by have := (Hl2.out g hg).1; omega) hlt
      have Ho35 := Lib.hid (ownsRow_keep Ho3.out (fun b hb hg => Held.block (T := fun c => (Value.slice a2 n c2).ownBlock ≠ some c) (Held.grown Hxt hgrow5 (fun k hk h => h hk)) b (fun h => Hne.out b h hg) hb))
      have hg5 : (Value.slice a3 n c3).ownBlock ≠ some g5 := fun h => by
       rcases hat5 with h' | h'
       ·exact Hne.out _ h' h
       ·have h2 := (Hl3.out _ h).2; simp at h'; omega
      have Hb5 : Hid (∀ b, Beside (w.heap.size + 2) (.slice a2 n c2) (.slice a3 n c3) b → b < wb.heap.size → b ≠ g5) := fun b hb hl he => by
       rcases hat5 with h' | h'
       ·exact hb.2.1 (he ▸ h')
       ·simp at h'; omega
      have hz5 : wb.heap.size ≤ w5.heap.size := hh5.size
      have Hown5 := Lib.hid hown5
      have Hg5 := Lib.hid hg5
      have hX5 : Box w5 (wb.heap.size) (x.five kb kd lb ld).toArray 25 := Box.grown (w' := w5) Bxt hgrow5 (fun e => by have h' := (Hl2.out _ e.symm).2; omega)
      clear hown5 hat5 hg5
      (try go_simp)
      refine hK.out _ _ (fun _ => Sof _ Hxt) ?_; clear hK K; (try simp only [rl])
      (refine wpAnyT_take (i := 12) (v := ?_) [13] (Array.getElem?_eq_getElem (by decide)) (by kernel_rfl) (by kernel_rfl) (by kernel_rfl) (by kernel_rfl) rfl rfl (by kernel_rfl) (fun _ _ _ h => h) (Or.inl ⟨by kernel_rfl, ?_⟩) (Sof _ Hxt) ?_); rotate_left; (focus (intro w hSw; (try dsimp only at hSw); (try simp only [rl]); go_simp; (try with_reducible rfl))); (try simp only [rl])
      (refine wpAnyT_one (i := 11) (by kernel_rfl) (Array.getElem?_eq_getElem (by decide)) fun K hK => ?_); (try simp only [rl])
      (try go_simp)
      (refine (insV_any (w.heap.size + 2) n p _ _ (.slice a3 n c3) news (x.five kb kd lb ld) _ 25 ?_ ?_ hn30 hpn ?_ ?_ rfl H1c.out (x.five_one kb kd lb ld)).mono ?_)
      (focus (first | (simp; omega) | omega))
      (focus (exact ownsRow_ext Ho35.out Xt))
      (focus (exact Bxt))
      (focus (intro h; have h' := (Hl3.out _ h).2; (first | omega | (simp at h'; omega) | (simp at h'; done))))
      rintro e w6 ⟨g6, cap6, rfl, hown6, hgrow6, hat6⟩
      have hh6 : Held T wb w6 := Held.grown Hxt hgrow6 HTL.out
      (try go_simp)
      refine hK.out _ _ (fun _ => Sof _ hh6) ?_
      clear hK K
      (try simp only [rl])
      have hx6 : Rd r w w6 := Rd.grown Rxt hgrow6 (fun g hg => by have := (Hl3.out g hg).1; omega) hlt
      have Ho56 := Lib.hid (ownsRow_keep Hown5.out (fun b hb hg => Held.block (T := fun c => (Value.slice a3 n c3).ownBlock ≠ some c) (Held.grown Hxt hgrow6 (fun k hk h => h hk)) b (by simp only [Value.ownBlock, Option.map_some, Option.some.injEq] at hg; rw [← hg]; exact Hg5.out) hb))
      have hg6 : ∀ b, Beside (w.heap.size + 2) (.slice a2 n c2) (.slice a3 n c3) b → b < wb.heap.size → b ≠ g6 := fun b hb hl he => by
       rcases hat6 with h' | h'
       ·exact hb.2.2 (he ▸ h')
       ·(first | omega | (simp at h'; omega))
      have hnew : ∀ b, Beside (w.heap.size + 2) (.slice a2 n c2) (.slice a3 n c3) b → b < wb.heap.size → Beside (w.heap.size + 2) (.slice (some ⟨g5, 0, none⟩) (n + 1) cap5) (.slice (some ⟨g6, 0, none⟩) (n + 1) cap6) b := fun b hb hl => ⟨hb.1, fun h => Hb5.out b hb hl (by simpa [Value.ownBlock] using h.symm), fun h => hg6 b hb hl (by simpa [Value.ownBlock] using h.symm)⟩
      have hcc := (Hncells.out.keep (Held.kept (Held.mono hh6 HTB.out)) hnew).ins p (Hjn.out.keep (Held.kept (Held.mono hh6 HTB.out)) hnew)
      have HO6 : Hid (OwnO w6 (w.heap.size + 2) (.slice (some ⟨g5, 0, none⟩) (n + 1) cap5) (.slice (some ⟨g6, 0, none⟩) (n + 1) cap6) (n + 1) (ks.take p ++ key :: ks.drop p) (l.take p ++ x :: l.drop p)) :=
       ⟨by simp [hks.out]; omega, by simp [hll.out]; omega, by simpa [List.map_take, List.map_drop] using Ho56.out, _, hown6, hcc⟩
      have hr6 : Sr w6 r s8 bad8 := Box.held hh6 hrb (hT0.out _ (by omega))
      have hB0 := Box.held hh6 hB0 (hT0.out _ (by omega))
      have hB1 := Box.held hh6 hB1 (hT0.out _ (by omega))
      have hz6 := hh6.size
      clear hown6 hgrow6 hat6 hcc hnew hg6 Sof hgrow5 hh5 hx5 hBx hrb hxb
      have hc1 := hB1.cells; have hf1 := hB1.free; have hl1 := hB1.lt
      (refine wpAnyT_one (i := 13) (by kernel_rfl) (Array.getElem?_eq_getElem (by decide)) fun K hK => ?_); (try simp only [rl])
      go_simp
      (refine hK.out _ _ (fun h => Bool.noConfusion (show true = false from h)) ?_); clear hK K; (try simp only [rl])
      (refine wpAnyT_one (i := 14) (by kernel_rfl) (Array.getElem?_eq_getElem (by decide)) fun K hK => ?_); (try simp only [rl])
      go_simp
      (refine hK.out _ _ (fun h => Bool.noConfusion (show true = false from h)) ?_); clear hK K; (try simp only [rl])
      (refine wpAnyT_one (i := 15) (by kernel_rfl) (Array.getElem?_eq_getElem (by decide)) fun K hK => ?_); (try simp only [rl])
      go_simp
      (refine hK.out _ _ (fun h => Bool.noConfusion (show true = false from h)) ?_); clear hK K; (try simp only [rl])
      refine wpAnyT_done (by kernel_rfl) ?_ _
      obtain ⟨wy, hwy⟩ : ∃ wy, (w6.setCell ⟨w.heap.size + 1, 3, none⟩ (Value.slice (some ⟨g5, 0, none⟩) (n + 1) cap5)).setCell ⟨w.heap.size + 1, 4, none⟩ (Value.slice (some ⟨g6, 0, none⟩) (n + 1) cap6) = wy := ⟨_, rfl⟩
      have hr7 : Sr wy r s8 bad8 := by rw [← hwy]; exact Srt
      have hB0 : Box wy w.heap.size #[.int .i64 0, .int .i64 0, .string ⟨#[]⟩, .slice none 0 0, .slice none 0 0] 25 := by rw [← hwy]; exact Bxt
      have hB1 : Box wy (w.heap.size + 1) #[.int .i64 5, .int .i64 0, .string ⟨#[]⟩, .slice (some ⟨g5, 0, none⟩) (n + 1) cap5, .slice (some ⟨g6, 0, none⟩) (n + 1) cap6] 25 := by rw [← hwy]; exact Bxt
      have hh7 : Held (fun b => w.heap.size + 2 ≤ b) w6 wy := by rw [← hwy]; exact Hxt
      have hx7 : Rd r w wy := by rw [← hwy]; exact Rxt
      rw [hwy]
      clear hr6 hc1 hf1 hl1 hx6 hwy
      have HO7 := Lib.hid (OwnO.keep HO6.out (fun b hb hk => hh7.block b hk hb))
      have HI7 := Lib.hid Hnext.out.2
      have Hm7 := Lib.hid Hnext.out.1
      have Hn7 := Lib.hid (show n + 1 + ((s8).size + (if bad8 = true then 0 else 1)) ≤ 1048577 by
       have h1 := Hlz.out
       have h2 := Hnext.out.1
       have h3 : (⟨#[]⟩ : ByteArray).size = 0 := rfl
       simp only [Bool.false_eq_true, if_false] at h1
       (first | omega | (simp [h3]; omega) | (simp [h3]; done)))
      go_wp2_with fail
      go_roundg ((s8).size + (if bad8 = true then 0 else 1))
      case measure => have := Hm7.out; simpa using this
      case rel => exact ⟨s8, bad8, n + 1, ks.take p ++ key :: ks.drop p, l.take p ++ x :: l.drop p, some ⟨g5, 0, none⟩, cap5, some ⟨g6, 0, none⟩, cap6, hr7, HO7.out, hB0, hB1, rfl, Hn7.out, hx7, HI7.out⟩
   ·have hqb : ((c4.toNat : Int) != 34) = true := by simpa using hq
    have Hnone := Lib.hid (show R = none by
     rw [HR3.out]; unfold obK
     rw [memb_no (fun h => hq (by rw [← Hc4.out, Hs4.out, h]; rfl))]; rfl)
    go_wp2_with fail
    (refine (next_any r s4 false _ hr4).mono ?_); rintro e wn ⟨rfl, rfl⟩
    rw [Hc4.out]
    go_wp2_with fail
    (refine (fail_any r s4 false _ hr4).mono ?_); rintro e w5 ⟨rfl, hr5, h5⟩
    have hB05 := Box.rd h5 hB04 (by omega)
    have hB15 := Box.rd h5 hB14 (by omega)
    have hx5 := hx4.trans h5
    have HO5 := Lib.hid (OwnO.rd HO4.out h5 (by omega))
    have Hfin := Lib.hid (show (true = false ∧ R = some ((ks, l), ([] : Bytes))) ∨ (true = true ∧ (⟨#[]⟩ : ByteArray).data.toList = [] ∧ R = none) from .inr ⟨rfl, rfl, Hnone.out⟩)
    have Hfn := Lib.hid Hnone.out
    have hz5 := h5.size
    have hc0 := hB05.cells; have hf0 := hB05.free; have hl0 := hB05.lt
    have hc13 := hB15.cells; have hf13 := hB15.free; have hl13 := hB15.lt
    go_wp2_with fail
    (with_reducible apply bp_ret); (focus (go_light; simp [results, Tryz.results100, go_sem, *]; rfl))
    have hobj := OwnO.obj HO5.out
    have e1 := HO5.out.nk
    have e2 := HO5.out.nl
    refine ⟨Rxt, .mk 5 0 ⟨#[]⟩ ks l, a2, c2, a3, c3, ⟨#[]⟩, true, by simp [V.val, e1, e2], hobj.keep (Held.kept (a := w5) (T := fun b => w.heap.size + 2 ≤ b) Hxt) (fun b hb _ => by omega), Srt, .inr ⟨rfl, rfl, by rw [Hnone.out]; rfl⟩⟩
end Go.Proofs.YtjibdbnpkfghhaaGreatDoor
