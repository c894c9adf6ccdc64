/- The walk of the reference's manyAt: objects. -/
import Derived.Test.YtjibdbnpkfghhaaGreatDoorVaR
import Derived.Test.YtjibdbnpkfghhaaGreatDoorMaQ
import Derived.Test.YtjibdbnpkfghhaaGreatDoorRef3
import Derived.Test.YtjibdbnpkfghhaaGreatDoorWithR
import Derived.Deep.AppendLies
import Derived.Deep.DeepCutAuto
set_option linter.all false
namespace Go.Proofs.YtjibdbnpkfghhaaGreatDoor
open Go.RowKit
attribute [local go_sem ↓] Go.wp_at_zero Go.wp_at_succ

theorem memberO_any (x : V) (key : ByteArray) (ka : Option Addr) (kc : Nat) (la : Option Addr) (lc : Nat) (S : Nat → Prop) (w : World) (hsz : x.size ≤ 1073741824) (hin : x.In w S ka kc la lc) :
    Calls Tryz.prog 117 #[x.val ka kc la lc, .string key] w (RetV2 S (x.memD key) (.bool (x.member key).isSome) w) := by
  unfold V.memD
  cases h : x.member key with
  | some y => exact memberOf_some h ka kc la lc S w hsz hin
  | none =>
    refine (memberOf_none h ka kc la lc S w hsz hin).mono ?_
    rintro e w' ⟨rfl, hx⟩
    exact ⟨none, 0, none, 0, rfl, V.zero_in _ _, hx⟩
theorem obj_has {ks : List ByteArray} {l : List V} (h : VObj (.mk 5 0 ⟨#[]⟩ ks l)) (key : ByteArray) : ((V.mk 5 0 ⟨#[]⟩ ks l).member key).isSome = hasB ks key := by
  rw [h.member]
  show (lk ks l key).isSome = _
  by_cases hm : key ∈ ks
  · obtain ⟨y, hy⟩ := lk_some ks l h.len hm
    rw [hy]
    exact (has_of_mem h.rise hm).symm
  · rw [lk_none ks l hm]
    cases hb : hasB ks key with
    | false => rfl
    | true => exact absurd (mem_of_has hb) hm
set_option maxRecDepth 100000 in
set_option maxHeartbeats 16000000 in
theorem many_obj (f : Nat) (hV : ValW f) (s : ByteArray) (i d : Nat) (w : World) (hd : d + f = 12) (hs : s.size ≤ 1048576) (hi : i < s.size) (hc : s[i] = 123) :
    Calls Tryz.prog 106 #[.string s, .int .i64 i, .int .i64 d] w (RetW s ((objL (valL f) ((fromB s (i + 1)).length + 1) (fromB s (i + 1)) [] []).map fun p => ((.mk 5 0 ⟨#[]⟩ p.1.1 p.1.2, p.2) : V × Bytes)) w) := by
  obtain ⟨R, hR⟩ : ∃ R, objL (valL f) ((fromB s (i + 1)).length + 1) (fromB s (i + 1)) [] [] = R := ⟨_, rfl⟩
  rw [hR]
  have HR := Lib.hid hR
  have HV := Lib.hid hV
  have hcn : (s[i].toNat : Int) = 123 := by rw [hc]; rfl
  have hi0 : (0 : Int) ≤ (i : Int) := by omega
  have hi1 : (i : Int) < (s.size : Int) := by omega
  obtain ⟨j0, hj, hy0', hy1, hy2⟩ := info_parts Tryz.infoV
  clear hR hV hc
  go_enter Tryz.func106, Tryz.ntmps106
  go_wp2_with fail
  (refine (skip_any s (i + 1) _ (by omega) (by omega)).mono ?_)
  rintro e w1 ⟨k0, rfl, hk0, hk0s, hsp, h1⟩
  have hB0 : Box w1 w.heap.size #[.int .i64 0, .int .i64 0, .string ⟨#[]⟩, .slice none 0 0, .slice none 0 0] 25 := Box.ext h1 Bxt
  have hB1 : Box w1 (w.heap.size + 1) #[.int .i64 5, .int .i64 0, .string ⟨#[]⟩, .slice none 0 0, .slice none 0 0] 25 := Box.ext h1 Bxt
  have hx1 : Ext w w1 := Xt
  have HR0 := Lib.hid (show objL (valL f) (s.size - k0 + 1) (fromB s k0) [] [] = R by
    have h2 := spaceL_len (fromB s (i + 1))
    rw [← hsp] at h2
    simp only [from_len] at h2
    rw [← HR.out, ← objL_space _ _ (fromB s (i + 1)), ← hsp]
    exact objL_fuel (valL_lens f) _ _ _ _ _ (by rw [from_len]; omega) (by rw [from_len, from_len]; omega))
  have Hsp0 := Lib.hid (show spaceL (fromB s k0) = fromB s k0 by rw [hsp, space_idem])
  clear h1 hsp
  go_wp2_with fail
  go_loopg [1, 10, 11, 12, 13, 14, 15] (s.size - k0) (fun g t1 t10 _ _ _ _ _ wr => ∃ (k : Nat) (ks : List ByteArray) (l : List V) (ka : Option Addr) (kc : Nat) (la : Option Addr) (lc : Nat) (fb : Bool), t1 = .int .i64 k ∧ k ≤ s.size ∧ g = s.size - k ∧ t10 = .bool fb ∧ Hid (fb = l.isEmpty) ∧ Hid (spaceL (fromB s k) = fromB s k) ∧ Hid (objL (valL f) (s.size - k + 1) (fromB s k) ks l = R) ∧ Hid (VObj (.mk 5 0 ⟨#[]⟩ ks l)) ∧ strsSize ks + (l.map V.size).sum + (s.size - k) ≤ s.size ∧ Hid ((V.mk 5 0 ⟨#[]⟩ ks l).In wr (fun b => w.heap.size + 2 ≤ b) ka kc la lc) ∧ Box wr w.heap.size #[.int .i64 0, .int .i64 0, .string ⟨#[]⟩, .slice none 0 0, .slice none 0 0] 25 ∧ Box wr (w.heap.size + 1) #[.int .i64 5, .int .i64 0, .string ⟨#[]⟩, .slice ka ks.length kc, .slice la l.length lc] 25 ∧ Ext w wr)
  case atStart => exact ⟨k0, [], [], none, 0, none, 0, true, rfl, hk0s, rfl, rfl, Lib.hid rfl, Hsp0, HR0, Lib.hid none5_obj, by simp [strsSize], Lib.hid (V.in_iff ..).2 ⟨SlOk.nil, SlOk.nil, .inl rfl, .inl rfl⟩, hB0, hB1, hx1⟩
  case round =>
    clear hB0 hB1 hx1 HR0 Hsp0
    obtain ⟨k, ks, l, ka, kc, la, lc, fb, rfl, hks, rfl, rfl, Hfb, Hsp, HL, Hob, hsz, HI, hB0, hB1, hx⟩ := hrel
    have hzB := hB1.lt
    have hc0 := hB0.cells; have hf0 := hB0.free; have hl0 := hB0.lt
    have hc1 := hB1.cells; have hf1 := hB1.free; have hl1 := hB1.lt
    by_cases hlt : k < s.size
    · have hki0 : (0 : Int) ≤ (k : Int) := by omega
      have hki1 : (k : Int) < (s.size : Int) := by omega
      obtain ⟨x, hx'⟩ : ∃ x, s[k] = x := ⟨_, rfl⟩
      have Hat := Lib.hid (show fromB s k = x :: fromB s (k + 1) by rw [← hx']; exact from_at hlt)
      have hxn : (s[k].toNat : Int) = (x.toNat : Int) := by rw [hx']
      clear hx'
      by_cases h93 : x = 125
      · have b93 : ((x.toNat : Int) == 125) = true := by rw [h93]; rfl
        have HRn := Lib.hid (show R = some ((ks, l), fromB s (k + 1)) by rw [← HL.out, objL_close Hat.out Hsp.out h93])
        clear h93
        go_wp2_with fail
        (with_reducible apply bp_ret); (focus (go_light; simp [results, Tryz.results106, go_sem, *]; rfl))
        rw [HRn.out]
        exact ⟨Xt, .mk 5 0 ⟨#[]⟩ ks l, ka, kc, la, lc, _, rfl, k + 1, by go_num, by omega, rfl, rfl, HI.out.keep (Held.kept (a := wr) (T := fun b => w.heap.size + 2 ≤ b) Hxt) (fun b hb _ => by omega)⟩
      have b93 : ((x.toNat : Int) == 125) = false := by simpa using fun h => h93 (byte_is (n := 125) (by omega) h)
      go_upto_if 41 with fail
      go_cut [1] (fun t1 wx => ∃ k1 : Nat, t1 = .int .i64 k1 ∧ k ≤ k1 ∧ k1 ≤ s.size ∧ Hid (spaceL (fromB s k1) = fromB s k1) ∧ Hid (obNext (valL f) (s.size - k) ks l (fromB s k1) = R) ∧ Ext wr wx)
      case first =>
        cases fb with
        | true =>
          obtain rfl : l = [] := by have := Hfb.out; simpa using this.symm
          have HLn := Lib.hid (show obNext (valL f) (s.size - k) ks [] (fromB s k) = R by
            rw [← HL.out, objL_first Hat.out Hsp.out h93 rfl])
          clear h93
          go_wp2_with fail
          go_meet
          exact ⟨k, rfl, by omega, hks, Hsp, HLn, Xt⟩
        | false =>
          have Hne := Lib.hid (show l ≠ [] by have := Hfb.out; intro h; subst h; cases this)
          by_cases h44 : x = 44
          · have b44 : ((x.toNat : Int) == 44) = true := by rw [h44]; rfl
            have HLn := Lib.hid (show obNext (valL f) (s.size - k) ks l (fromB s (k + 1)) = R by
              rw [← HL.out, objL_comma Hat.out Hsp.out h44 Hne.out])
            have hge : ¬ (s.size : Int) ≤ (k : Int) := by omega
            clear h93 h44
            go_wp2_with fail
            (refine (skip_any s (k + 1) _ (by omega) (by omega)).mono ?_)
            rintro e w2 ⟨k1, rfl, hk1, hk1s, hsp1, h2⟩
            have HLm := Lib.hid (show obNext (valL f) (s.size - k) ks l (fromB s k1) = R by
              rw [← HLn.out, hsp1, obNext_space])
            have Hsq := Lib.hid (show spaceL (fromB s k1) = fromB s k1 by rw [hsp1, space_idem])
            clear hsp1
            go_wp2_with fail
            go_meet
            exact ⟨k1, rfl, by omega, hk1s, Hsq, HLm, Xt⟩
          · have b44 : ((x.toNat : Int) == 44) = false := by simpa using fun h => h44 (byte_is (n := 44) (by omega) h)
            have HRn := Lib.hid (show R = none by rw [← HL.out, objL_bad Hat.out Hsp.out h93 h44 Hne.out])
            have hge : ¬ (s.size : Int) ≤ (k : Int) := by omega
            clear h93 h44
            go_wp2_with fail
            (with_reducible apply bp_ret); (focus (go_light; simp [results, Tryz.results106, go_sem, *]; rfl))
            rw [HRn.out]
            exact ⟨Xt, .mk 5 0 ⟨#[]⟩ ks l, ka, kc, la, lc, _, rfl, rfl⟩
      case rest =>
        obtain ⟨k1, rfl, hk1, hk1s, Hsq, HLv, hxc⟩ := hcut
        have hB0 := Box.ext hxc hB0
        have hB1 := Box.ext hxc hB1
        have HI := Lib.hid (HI.out.ext hxc)
        have hx2 : Ext w wc := hx.trans hxc
        have hzc := hB1.lt
        clear hc0 hf0 hl0 hc1 hf1 hl1 hx hxc h93 HL Hat Hsp hxn b93 hki1 hki0 Hfb
        by_cases hlt1 : k1 < s.size
        · have hk10 : (0 : Int) ≤ (k1 : Int) := by omega
          have hk11 : (k1 : Int) < (s.size : Int) := by omega
          have hge1 : ¬ (s.size : Int) ≤ (k1 : Int) := by omega
          obtain ⟨x1, hx'⟩ : ∃ x, s[k1] = x := ⟨_, rfl⟩
          have Hat1 := Lib.hid (show fromB s k1 = x1 :: fromB s (k1 + 1) by rw [← hx']; exact from_at hlt1)
          have hxn1 : (s[k1].toNat : Int) = (x1.toNat : Int) := by rw [hx']
          clear hx'
          by_cases h34 : x1 = 34
          · have b34 : ((x1.toNat : Int) != 34) = false := by rw [h34]; rfl
            have H34 := Lib.hid h34
            obtain ⟨T, hT⟩ : ∃ T, textL ((fromB s (k1 + 1)).length + 1) (fromB s (k1 + 1)) [] = T := ⟨_, rfl⟩
            have HT := Lib.hid hT
            clear hT h34
            have hc1 := hB1.cells; have hf1 := hB1.free; have hl1 := hB1.lt
            go_wp2_with fail
            (refine (textAt_any s k1 _ (by omega) hlt1).mono ?_)
            rw [HT.out]
            rintro e w2 ⟨h2, b, y, rfl, hcase⟩
            clear hc1 hf1 hl1
            have hB0 := Box.ext (w' := w2) Xt hB0
            have hB1 := Box.ext (w' := w2) Xt hB1
            have hxe_w2 : Ext wc w2 := Xt
            have hx_w2 : Ext w w2 := Xt
            clear h2
            cases T with
            | none =>
              obtain rfl : y = -1 := hcase
              have HRn := Lib.hid (show R = none by rw [← HLv.out, ob_text Hat1.out Hsq.out H34.out HT.out])
              have hc0 := hB0.cells; have hf0 := hB0.free; have hl0 := hB0.lt
              have hc1 := hB1.cells; have hf1 := hB1.free; have hl1 := hB1.lt
              go_wp2_with fail
              (with_reducible apply bp_ret); (focus (go_light; simp [results, Tryz.results106, go_sem, *]; rfl))
              rw [HRn.out]
              exact ⟨Xt, .mk 5 0 ⟨#[]⟩ ks l, ka, kc, la, lc, _, rfl, rfl⟩
            | some p =>
              obtain ⟨p0, t0⟩ := p
              obtain ⟨e0, rfl, he0, hf0, hb0⟩ := hcase
              have Hf0 := Lib.hid hf0
              have Hb0 := Lib.hid hb0
              have hn0 : ¬ (e0 : Int) < 0 := by omega
              clear hf0 hb0
              go_wp2_with fail
              (refine (skip_any s e0 _ (by omega) he0).mono ?_)
              rintro e w3 ⟨k2, rfl, hk2, hk2s, hsp2, h3⟩
              have Hsp2 := Lib.hid hsp2
              have hB0 := Box.ext (w' := w3) Xt hB0
              have hB1 := Box.ext (w' := w3) Xt hB1
              have hxe_w3 : Ext w2 w3 := Xt
              have hx_w3 : Ext w w3 := Xt
              clear h3 hsp2
              by_cases hlt2 : k2 < s.size
              · have hk20 : (0 : Int) ≤ (k2 : Int) := by omega
                have hk21 : (k2 : Int) < (s.size : Int) := by omega
                have hge2 : ¬ (s.size : Int) ≤ (k2 : Int) := by omega
                obtain ⟨x2, hx'⟩ : ∃ x, s[k2] = x := ⟨_, rfl⟩
                have Hat2 := Lib.hid (show spaceL t0 = x2 :: fromB s (k2 + 1) by rw [← Hf0.out, ← Hsp2.out, ← hx']; exact from_at hlt2)
                have hxn2 : (s[k2].toNat : Int) = (x2.toNat : Int) := by rw [hx']
                clear hx'
                by_cases h58 : x2 = 58
                · have b58 : ((x2.toNat : Int) != 58) = false := by rw [h58]; rfl
                  have H58 := Lib.hid h58
                  obtain ⟨r, hr⟩ : ∃ r, valL f (fromB s (k2 + 1)) = r := ⟨_, rfl⟩
                  have Hr := Lib.hid hr
                  have HLm := Lib.hid (show _ = R from (ob_memb (ks := ks) (l := l) (g := s.size - k) Hat1.out Hsq.out H34.out HT.out Hat2.out h58 hr).symm.trans HLv.out)
                  clear h58 hr
                  go_wp2_with fail
                  (refine (HV.out s (k2 + 1) (d + 1) _ (by omega) hs (by omega)).mono ?_)
                  rw [Hr.out]
                  rintro e w4 ⟨h4, v, kb, kd, lb, ld, y, rfl, hcase⟩
                  have hB0 := Box.ext (w' := w4) Xt hB0
                  have hB1 := Box.ext (w' := w4) Xt hB1
                  have hxe_w4 : Ext w3 w4 := Xt
                  have hx_w4 : Ext w w4 := Xt
                  clear h4
                  cases r with
                  | none =>
                    obtain rfl : y = -1 := hcase
                    have HRn := Lib.hid (show R = none by rw [← HLm.out]; rfl)
                    have hc0 := hB0.cells; have hf0 := hB0.free; have hl0 := hB0.lt
                    have hc1 := hB1.cells; have hf1 := hB1.free; have hl1 := hB1.lt
                    go_wp2_with fail
                    (with_reducible apply bp_ret); (focus (go_light; simp [results, Tryz.results106, go_sem, *]; rfl))
                    rw [HRn.out]
                    exact ⟨Xt, .mk 5 0 ⟨#[]⟩ ks l, ka, kc, la, lc, _, rfl, rfl⟩
                  | some p =>
                    obtain ⟨v0, t3⟩ := p
                    obtain ⟨e1, rfl, he1, hf1, rfl, hin⟩ := hcase
                    have hf1 : fromB s e1 = t3 := hf1
                    have hbk : (⟨p0.toArray⟩ : ByteArray) = b := by rw [← Hb0.out]
                    have HLk := Lib.hid (show (if hasB ks b = true then none else objL (valL f) (s.size - k) (fromB s e1) (ks.take (posOf ks b) ++ b :: ks.drop (posOf ks b)) (l.take (posOf ks b) ++ v :: l.drop (posOf ks b))) = R by
                      have h := HLm.out
                      simp only [Option.bind_some] at h
                      rw [hbk, ← hf1] at h
                      exact h)
                    have hmz := membL_size (valL_size f) (membL_some Hat1.out Hsq.out H34.out HT.out Hat2.out H58.out Hr.out)
                    simp only at hmz
                    rw [hbk, ← hf1, from_len, from_len] at hmz
                    have hvp := v.size_pos
                    have hn1 : ¬ (e1 : Int) < 0 := by omega
                    have Hin := Lib.hid hin
                    have hxz : (V.mk 5 0 ⟨#[]⟩ ks l).size ≤ 1073741824 := by
                      rw [V.size_eq]
                      show 1 + 0 + strsSize ks + (l.map V.size).sum ≤ _
                      omega
                    clear hf1 hbk hin HLm
                    go_wp2_with fail
                    (refine (skip_any s e1 _ (by omega) he1).mono ?_)
                    rintro e w5 ⟨k3, rfl, hk3, hk3s, hsp3, h5⟩
                    have hB12 : Box w5 w4.heap.size #[.int .i64 v.k, .int .i64 v.n, .string v.s, .slice kb v.keys.length kd, .slice lb v.l.length ld] 25 := Box.ext h5 Bxt
                    have Hsp3 := Lib.hid hsp3
                    have hB0 := Box.ext (w' := w5) Xt hB0
                    have hB1 := Box.ext (w' := w5) Xt hB1
                    have hxe_w5 : Ext w4 w5 := Xt
                    have hx_w5 : Ext w w5 := Xt
                    clear h5 hsp3
                    have HI5 := Lib.hid (HI.out.ext (((hxe_w2.trans hxe_w3).trans hxe_w4).trans hxe_w5))
                    have Hin5 := Lib.hid (Hin.out.ext hxe_w5)
                    have hz12 := hB12.lt
                    have hc1 := hB1.cells; have hf1 := hB1.free; have hl1 := hB1.lt
                    cases hh : hasB ks b with
                    | true =>
                      have Hm := Lib.hid ((obj_has Hob.out b).trans hh)
                      have HRn := Lib.hid (show R = none by rw [← HLk.out, if_pos hh])
                      clear hh
                      go_wp2_with fail
                      (refine (memberO_any (V.mk 5 0 ⟨#[]⟩ ks l) b ka kc la lc (fun b => w.heap.size + 2 ≤ b) _ hxz (HI5.out.ext Xt)).mono ?_)
                      rw [Hm.out]
                      rintro e w6 ⟨kx, ky, kz, kq, rfl, -, h6⟩
                      clear hc1 hf1 hl1
                      have hB0 := Box.ext (w' := w6) Xt hB0
                      have hB1 := Box.ext (w' := w6) Xt hB1
                      have hxe_w6 : Ext w5 w6 := Xt
                      have hx_w6 : Ext w w6 := Xt
                      clear h6
                      have hc0 := hB0.cells; have hf0 := hB0.free; have hl0 := hB0.lt
                      have hc1 := hB1.cells; have hf1 := hB1.free; have hl1 := hB1.lt
                      go_wp2_with fail
                      (with_reducible apply bp_ret); (focus (go_light; simp [results, Tryz.results106, go_sem, *]; rfl))
                      rw [HRn.out]
                      exact ⟨Xt, .mk 5 0 ⟨#[]⟩ ks l, ka, kc, la, lc, _, rfl, rfl⟩
                    | false =>
                      have Hm := Lib.hid ((obj_has Hob.out b).trans hh)
                      have Hput := Lib.hid (put_new (x := V.mk 5 0 ⟨#[]⟩ ks l) (key := b) (y := v) ⟨rfl, Hob.out.len⟩ hh)
                      have HLn := Lib.hid (obj_next (R := R) (k := k) (e := e1) (g := s.size - k) Hsp3.out (by omega) he1 hk3s (Nat.le_refl _) (by have h := HLk.out; rw [if_neg (by simp [hh])] at h; exact h))
                      have Hob2 := Lib.hid (show VObj (.mk 5 0 ⟨#[]⟩ (ks.take (posOf ks b) ++ b :: ks.drop (posOf ks b)) (l.take (posOf ks b) ++ v :: l.drop (posOf ks b))) by have h := Hob.out.put b v; rw [Hput.out] at h; exact h)
                      clear hh
                      go_wp2_with fail
                      (refine (memberO_any (V.mk 5 0 ⟨#[]⟩ ks l) b ka kc la lc (fun b => w.heap.size + 2 ≤ b) _ hxz (HI5.out.ext Xt)).mono ?_)
                      rw [Hm.out]
                      rintro e w6 ⟨kx, ky, kz, kq, rfl, -, h6⟩
                      clear hc1 hf1 hl1
                      have hB0 := Box.ext (w' := w6) Xt hB0
                      have hB1 := Box.ext (w' := w6) Xt hB1
                      have hxe_w6 : Ext w5 w6 := Xt
                      have hx_w6 : Ext w w6 := Xt
                      have HI6 := Lib.hid (HI5.out.ext hxe_w6)
                      have Hin6 := Lib.hid (Hin5.out.ext hxe_w6)
                      have hs22 := hxe_w2.size
                      have hs33 := hxe_w3.size
                      have hB12 := Box.ext (w' := w6) Xt hB12
                      clear h6
                      have hc1 := hB1.cells; have hf1 := hB1.free; have hl1 := hB1.lt
                      have hc12 := hB12.cells; have hf12 := hB12.free; have hl12 := hB12.lt
                      go_wp2_with fail
                      (refine (withR_any (V.mk 5 0 ⟨#[]⟩ ks l) ka kc la lc b v kb kd lb ld (fun b => w.heap.size + 2 ≤ b) _ hxz rfl Hob.out.len rfl rfl Hob.out.rise (HI6.out.ext Xt) ((Hin6.out.ext Xt).mono (fun b hb _ => by omega))).mono ?_)
                      rw [Hput.out]
                      rintro e w7 ⟨kx7, ky7, lx7, ly7, rfl, hin7, h7⟩
                      clear hc1 hf1 hl1 hc12 hf12 hl12
                      have hB0 := Box.ext (w' := w7) Xt hB0
                      have hB1 := Box.ext (w' := w7) Xt hB1
                      have hxe_w7 : Ext w6 w7 := Xt
                      have hx_w7 : Ext w w7 := Xt
                      have hz67 := hxe_w7.size
                      have hz56 := hxe_w6.size
                      have hz45 := hxe_w5.size
                      have hz34 := hxe_w4.size
                      have hz23 := hxe_w3.size
                      have hz22 := hxe_w2.size
                      have hz6 : w.heap.size + 2 ≤ w6.heap.size := by omega
                      have Hin7 := Lib.hid hin7
                      clear h7 hin7 hB12
                      have hc1 := hB1.cells; have hf1 := hB1.free; have hl1 := hB1.lt
                      go_wp2_with fail
                      go_roundg (s.size - k3)
                      case measure => have := HLn.out.2; omega
                      case rel => exact ⟨k3, _, _, kx7, ky7, lx7, ly7, false, rfl, hk3s, rfl, rfl, Lib.hid (by simp), Lib.hid (by rw [Hsp3.out, space_idem]), Lib.hid HLn.out.1, Hob2, by rw [show strsSize (ks.take (posOf ks b) ++ b :: ks.drop (posOf ks b)) = strsSize ks + (b.size + 1) from sum_ins _ _ _ _, sum_ins]; have := HLn.out.2; have h8 := spaceL_len (fromB s e1); rw [← Hsp3.out, from_len, from_len] at h8; omega, Lib.hid (Hin7.out.keep (fun c hc hl => by have hc2 : w.heap.size + 2 ≤ c := Or.elim hc id (fun h => by simp at h; omega); rw [Below.heap_setCell _ _ _ _ (by simp; omega), Below.heap_setCell _ _ _ _ (by simp; omega), Below.heap_setCell _ _ _ _ (by simp; omega), Below.heap_setCell _ _ _ _ (by simp; omega), Below.heap_setCell _ _ _ _ (by simp; omega)]) (fun c hc _ => Or.elim hc id (fun h => by simp at h; omega))), Bxt, Bxt, Xt⟩
                · have b58 : ((x2.toNat : Int) != 58) = true := by simpa using fun h => h58 (byte_is (n := 58) (by omega) h)
                  have HRn := Lib.hid (show R = none by rw [← HLv.out, ob_colon Hat1.out Hsq.out H34.out HT.out (.inr ⟨_, _, Hat2.out, h58⟩)])
                  clear h58
                  have hc0 := hB0.cells; have hf0 := hB0.free; have hl0 := hB0.lt
                  have hc1 := hB1.cells; have hf1 := hB1.free; have hl1 := hB1.lt
                  go_wp2_with fail
                  (with_reducible apply bp_ret); (focus (go_light; simp [results, Tryz.results106, go_sem, *]; rfl))
                  rw [HRn.out]
                  exact ⟨Xt, .mk 5 0 ⟨#[]⟩ ks l, ka, kc, la, lc, _, rfl, rfl⟩
              · have hge2 : (s.size : Int) ≤ (k2 : Int) := by omega
                have HRn := Lib.hid (show R = none by rw [← HLv.out, ob_colon Hat1.out Hsq.out H34.out HT.out (.inl (by rw [← Hf0.out, ← Hsp2.out]; exact from_end (by omega)))])
                have hc0 := hB0.cells; have hf0 := hB0.free; have hl0 := hB0.lt
                have hc1 := hB1.cells; have hf1 := hB1.free; have hl1 := hB1.lt
                go_wp2_with fail
                (with_reducible apply bp_ret); (focus (go_light; simp [results, Tryz.results106, go_sem, *]; rfl))
                rw [HRn.out]
                exact ⟨Xt, .mk 5 0 ⟨#[]⟩ ks l, ka, kc, la, lc, _, rfl, rfl⟩
          · have b34 : ((x1.toNat : Int) != 34) = true := by simpa using fun h => h34 (byte_is (n := 34) (by omega) h)
            have HRn := Lib.hid (show R = none by rw [← HLv.out, ob_noq Hat1.out Hsq.out h34])
            clear h34
            have hc0 := hB0.cells; have hf0 := hB0.free; have hl0 := hB0.lt
            have hc1 := hB1.cells; have hf1 := hB1.free; have hl1 := hB1.lt
            go_wp2_with fail
            (with_reducible apply bp_ret); (focus (go_light; simp [results, Tryz.results106, go_sem, *]; rfl))
            rw [HRn.out]
            exact ⟨Xt, .mk 5 0 ⟨#[]⟩ ks l, ka, kc, la, lc, _, rfl, rfl⟩
        · have hge1 : (s.size : Int) ≤ (k1 : Int) := by omega
          have HRn := Lib.hid (show R = none by rw [← HLv.out, ob_nil (from_end (by omega))])
          have hc0 := hB0.cells; have hf0 := hB0.free; have hl0 := hB0.lt
          have hc1 := hB1.cells; have hf1 := hB1.free; have hl1 := hB1.lt
          go_wp2_with fail
          (with_reducible apply bp_ret); (focus (go_light; simp [results, Tryz.results106, go_sem, *]; rfl))
          rw [HRn.out]
          exact ⟨Xt, .mk 5 0 ⟨#[]⟩ ks l, ka, kc, la, lc, _, rfl, rfl⟩
    · obtain rfl : k = s.size := by omega
      have HRn := Lib.hid (show R = none by rw [← HL.out, objL_end (from_end (by omega))])
      have hki : ¬ (s.size : Int) < (s.size : Int) := by omega
      cases fb with
      | true =>
        have hge : (s.size : Int) ≤ (s.size : Int) := by omega
        go_wp2_with fail
        (with_reducible apply bp_ret); (focus (go_light; simp [results, Tryz.results106, go_sem, *]; rfl))
        rw [HRn.out]
        exact ⟨Xt, .mk 5 0 ⟨#[]⟩ ks l, ka, kc, la, lc, _, rfl, rfl⟩
      | false =>
        go_wp2_with fail
        (with_reducible apply bp_ret); (focus (go_light; simp [results, Tryz.results106, go_sem, *]; rfl))
        rw [HRn.out]
        exact ⟨Xt, .mk 5 0 ⟨#[]⟩ ks l, ka, kc, la, lc, _, rfl, rfl⟩
end Go.Proofs.YtjibdbnpkfghhaaGreatDoor
