/- The walk of the reference's manyAt: lists. -/
import Derived.Test.YtjibdbnpkfghhaaGreatDoorVaR
import Derived.Test.YtjibdbnpkfghhaaGreatDoorMaP
import Derived.Deep.AppendLies
import Derived.Deep.DeepCutAuto
set_option linter.all false
namespace Go.Proofs.YtjibdbnpkfghhaaGreatDoor
open Go.RowKit
attribute [local go_sem ↓] Go.wp_at_zero Go.wp_at_succ

/-- What is new alone. -/
abbrev NoB : Nat → Prop := fun _ => False
set_option maxRecDepth 100000 in
set_option maxHeartbeats 16000000 in
theorem many_list (f : Nat) (hV : ValW f) (s : ByteArray) (i d : Nat) (w : World) (hd : d + f = 12) (hs : s.size ≤ 1048576) (hi : i < s.size) (hc : s[i] = 91) :
    Calls Tryz.prog 106 #[.string s, .int .i64 i, .int .i64 d] w (RetW s ((listL (valL f) ((fromB s (i + 1)).length + 1) (fromB s (i + 1)) []).map fun p => ((.mk 4 0 ⟨#[]⟩ [] p.1, p.2) : V × Bytes)) w) := by
  obtain ⟨R, hR⟩ : ∃ R, listL (valL f) ((fromB s (i + 1)).length + 1) (fromB s (i + 1)) [] = R := ⟨_, rfl⟩
  rw [hR]
  have HR := Lib.hid hR
  have HV := Lib.hid hV
  have hcn : (s[i].toNat : Int) = 91 := by rw [hc]; rfl
  have hi0 : (0 : Int) ≤ (i : Int) := by omega
  have hi1 : (i : Int) < (s.size : Int) := by omega
  obtain ⟨j0, hj, hy0', hy1, hy2⟩ := info_parts Tryz.infoV
  clear hR hV hc
  go_enter Tryz.func106, Tryz.ntmps106
  go_wp2_with fail
  (refine (skip_any s (i + 1) _ (by omega) (by omega)).mono ?_)
  rintro e w1 ⟨k0, rfl, hk0, hk0s, hsp, h1⟩
  have hB0 : Box w1 w.heap.size #[.int .i64 0, .int .i64 0, .string ⟨#[]⟩, .slice none 0 0, .slice none 0 0] 25 := Box.ext h1 Bxt
  have hB1 : Box w1 (w.heap.size + 1) #[.int .i64 4, .int .i64 0, .string ⟨#[]⟩, .slice none 0 0, .slice none 0 0] 25 := Box.ext h1 Bxt
  have hx1 : Ext w w1 := Xt
  have HR0 := Lib.hid (show listL (valL f) (s.size - k0 + 1) (fromB s k0) [] = R by
    have h2 := spaceL_len (fromB s (i + 1))
    rw [← hsp] at h2
    simp only [from_len] at h2
    rw [← HR.out, ← listL_space _ _ (fromB s (i + 1)), ← hsp]
    exact listL_fuel (valL_lens f) _ _ _ _ (by rw [from_len]; omega) (by rw [from_len, from_len]; omega))
  have Hsp0 := Lib.hid (show spaceL (fromB s k0) = fromB s k0 by rw [hsp, space_idem])
  clear h1 hsp
  go_wp2_with fail
  go_loopg [1, 10, 11, 12, 13, 14, 15] (s.size - k0) (fun g t1 t10 _ _ _ _ _ wr => ∃ (k : Nat) (l : List V) (a2 : Option Addr) (c2 : Nat) (fb : Bool), t1 = .int .i64 k ∧ k ≤ s.size ∧ g = s.size - k ∧ t10 = .bool fb ∧ Hid (fb = l.isEmpty) ∧ Hid (spaceL (fromB s k) = fromB s k) ∧ Hid (listL (valL f) (s.size - k + 1) (fromB s k) l = R) ∧ l.length ≤ k ∧ Hid (OwnL wr (w.heap.size + 2) NoB (.slice a2 l.length c2) l.length l) ∧ Box wr w.heap.size #[.int .i64 0, .int .i64 0, .string ⟨#[]⟩, .slice none 0 0, .slice none 0 0] 25 ∧ Box wr (w.heap.size + 1) #[.int .i64 4, .int .i64 0, .string ⟨#[]⟩, .slice none 0 0, .slice a2 l.length c2] 25 ∧ Ext w wr)
  case atStart => exact ⟨k0, [], none, 0, true, rfl, hk0s, rfl, rfl, Lib.hid rfl, Hsp0, HR0, by simp, Lib.hid (OwnL.nil _ _ _), hB0, hB1, hx1⟩
  case round =>
    clear hB0 hB1 hx1 HR0 Hsp0
    obtain ⟨k, l, a2, c2, fb, rfl, hks, rfl, rfl, Hfb, Hsp, HL, hlk, HO, hB0, hB1, hx⟩ := hrel
    have hzB := hB1.lt
    have hc0 := hB0.cells; have hf0 := hB0.free; have hl0 := hB0.lt
    have hc1 := hB1.cells; have hf1 := hB1.free; have hl1 := hB1.lt
    by_cases hlt : k < s.size
    · have hki0 : (0 : Int) ≤ (k : Int) := by omega
      have hki1 : (k : Int) < (s.size : Int) := by omega
      obtain ⟨x, hx'⟩ : ∃ x, s[k] = x := ⟨_, rfl⟩
      have Hat := Lib.hid (show fromB s k = x :: fromB s (k + 1) by rw [← hx']; exact from_at hlt)
      have hxn : (s[k].toNat : Int) = (x.toNat : Int) := by rw [hx']
      clear hx'
      by_cases h93 : x = 93
      · have b93 : ((x.toNat : Int) == 93) = true := by rw [h93]; rfl
        have HRn := Lib.hid (show R = some (l, fromB s (k + 1)) by rw [← HL.out, listL_close Hat.out Hsp.out h93])
        obtain ⟨a3, c3, he3, hok3, -, hrows⟩ := HO.out.rows
        simp only [Value.slice.injEq, true_and] at he3
        obtain ⟨rfl, rfl⟩ := he3
        have Hrows := Lib.hid hrows
        have Hok3 := Lib.hid hok3
        clear h93 hrows hok3
        go_wp2_with fail
        (with_reducible apply bp_ret); (focus (go_light; simp [results, Tryz.results106, go_sem, *]; rfl))
        rw [HRn.out]
        exact ⟨Xt, .mk 4 0 ⟨#[]⟩ [] l, none, 0, a2, c2, _, rfl, k + 1, by go_num, by omega, rfl, rfl, (V.in_iff ..).2 ⟨SlOk.nil, Hok3.out, .inl rfl, Hrows.out.keep (Held.kept (a := wr) (T := fun b => (b < w.heap.size + 2 ∧ NoB b) ∨ w.heap.size + 2 ≤ b) Hxt) (fun b hb _ => by rcases hb with hb | hb; exact hb.2.elim; omega)⟩⟩
      have b93 : ((x.toNat : Int) == 93) = false := by simpa using fun h => h93 (byte_is (n := 93) (by omega) h)
      go_upto_if 41 with fail
      go_cut [1] (fun t1 wx => ∃ k1 : Nat, t1 = .int .i64 k1 ∧ k ≤ k1 ∧ k1 ≤ s.size ∧ Hid (((valL f (fromB s k1)).bind fun p => listL (valL f) (s.size - k) p.2 (l ++ [p.1])) = R) ∧ Ext wr wx)
      case first =>
        cases fb with
        | true =>
          obtain rfl : l = [] := by have := Hfb.out; simpa using this.symm
          have HLn := Lib.hid (show ((valL f (fromB s k)).bind fun p => listL (valL f) (s.size - k) p.2 ([] ++ [p.1])) = R by
            rw [← HL.out, listL_first Hat.out Hsp.out h93]; rfl)
          clear h93
          go_wp2_with fail
          go_meet
          exact ⟨k, rfl, by omega, hks, HLn, Xt⟩
        | false =>
          have Hne := Lib.hid (show l ≠ [] by have := Hfb.out; intro h; subst h; cases this)
          by_cases h44 : x = 44
          · have b44 : ((x.toNat : Int) == 44) = true := by rw [h44]; rfl
            have HLn := Lib.hid (show ((valL f (fromB s (k + 1))).bind fun p => listL (valL f) (s.size - k) p.2 (l ++ [p.1])) = R by
              rw [← HL.out, listL_comma Hat.out Hsp.out h44 Hne.out])
            have hge : ¬ (s.size : Int) ≤ (k : Int) := by omega
            clear h93 h44
            go_wp2_with fail
            (refine (skip_any s (k + 1) _ (by omega) (by omega)).mono ?_)
            rintro e w2 ⟨k1, rfl, hk1, hk1s, hsp1, h2⟩
            have HLm := Lib.hid (show ((valL f (fromB s k1)).bind fun p => listL (valL f) (s.size - k) p.2 (l ++ [p.1])) = R by
              rw [← HLn.out, hsp1, valL_space])
            clear hsp1
            go_wp2_with fail
            go_meet
            exact ⟨k1, rfl, by omega, hk1s, HLm, Xt⟩
          · have b44 : ((x.toNat : Int) == 44) = false := by simpa using fun h => h44 (byte_is (n := 44) (by omega) h)
            have HRn := Lib.hid (show R = none by rw [← HL.out, listL_bad Hat.out Hsp.out h93 h44 Hne.out])
            have hge : ¬ (s.size : Int) ≤ (k : Int) := by omega
            clear h93 h44
            go_wp2_with fail
            (with_reducible apply bp_ret); (focus (go_light; simp [results, Tryz.results106, go_sem, *]; rfl))
            rw [HRn.out]
            exact ⟨Xt, .mk 4 0 ⟨#[]⟩ [] l, none, 0, a2, c2, _, rfl, rfl⟩
      case rest =>
        obtain ⟨k1, rfl, hk1, hk1s, HLv, hxc⟩ := hcut
        have hB0 := Box.ext hxc hB0
        have hB1 := Box.ext hxc hB1
        have HO := Lib.hid (HO.out.ext hxc)
        have hx2 : Ext w wc := hx.trans hxc
        have hzc := hB1.lt
        obtain ⟨r, hr⟩ : ∃ r, valL f (fromB s k1) = r := ⟨_, rfl⟩
        have Hr := Lib.hid hr
        clear hr hc0 hf0 hl0 hc1 hf1 hl1 hx hxc h93 HL Hat Hsp hxn b93 hki1 hki0
        have hc1 := hB1.cells; have hf1 := hB1.free; have hl1 := hB1.lt
        go_wp2_with fail
        (refine (HV.out s k1 (d + 1) _ (by omega) hs hk1s).mono ?_)
        rw [Hr.out]
        rintro e w2 ⟨h2, v, ka, kc, la, lc, y, rfl, hcase⟩
        have hB0 := Box.ext (w' := w2) Xt hB0
        have hB1 := Box.ext (w' := w2) Xt hB1
        have hxa : Ext wc w2 := Xt
        have hx3 : Ext w w2 := Xt
        clear h2 hc1 hf1 hl1
        cases r with
        | none =>
          obtain rfl : y = -1 := hcase
          have HRn := Lib.hid (show R = none by rw [← HLv.out, Hr.out]; rfl)
          have hc0 := hB0.cells; have hf0 := hB0.free; have hl0 := hB0.lt
          have hc1 := hB1.cells; have hf1 := hB1.free; have hl1 := hB1.lt
          go_wp2_with fail
          (with_reducible apply bp_ret); (focus (go_light; simp [results, Tryz.results106, go_sem, *]; rfl))
          rw [HRn.out]
          exact ⟨Xt, .mk 4 0 ⟨#[]⟩ [] l, none, 0, a2, c2, _, rfl, rfl⟩
        | some p =>
          obtain ⟨v0, t0⟩ := p
          obtain ⟨e1, rfl, he1, hf1, rfl, hin⟩ := hcase
          have hv : valL f (fromB s k1) = some (v, fromB s e1) := by rw [Hr.out, hf1]
          have Hv := Lib.hid hv
          have Hin := Lib.hid hin
          have hy0 : ¬ (e1 : Int) < 0 := by omega
          have hz2 := hB1.lt
          clear hf1 hin hv
          go_wp2_with fail
          (refine (skip_any s e1 _ (by omega) he1).mono ?_)
          rintro e w3 ⟨k2, rfl, hk2, hk2s, hsp2, h3⟩
          have hB12 : Box w3 w2.heap.size #[.int .i64 v.k, .int .i64 v.n, .string v.s, .slice ka v.keys.length kc, .slice la v.l.length lc] 25 := Box.ext h3 Bxt
          have hB0 := Box.ext (w' := w3) Xt hB0
          have hB1 := Box.ext (w' := w3) Xt hB1
          have hxb : Ext w2 w3 := Xt
          have hxd : Ext w w3 := hx3.trans hxb
          obtain ⟨hnx, hkk⟩ := list_next Hv.out hsp2 hk2s (by omega) HLv.out hk1s
          have Hnx := Lib.hid hnx
          have Hsp := Lib.hid (show spaceL (fromB s k2) = fromB s k2 by rw [hsp2, space_idem])
          obtain ⟨hl0, xs, hown, hcells⟩ := HO.out

          have Hcells := Lib.hid hcells
          have Hown := Lib.hid hown
          have Hown3 := Lib.hid (ownsRow_ext (w' := w3) hown (hxa.trans hxb))
          have Hnb := Lib.hid (show ∀ b, b < w.heap.size + 2 → some b ≠ (Value.slice a2 l.length c2).ownBlock from fun b hb he => by have := (hown.lt b he.symm).1; omega)
          have Hnx2 := Lib.hid (show ∀ b, wc.heap.size ≤ b → some b ≠ (Value.slice a2 l.length c2).ownBlock from fun b hb he => by have := (hown.lt b he.symm).2; omega)
          have hzz := hxa.size
          have hzy := hxb.size
          have hk63 : l.length + 1 ≤ maxLen := by unfold maxLen; omega
          have hsz5 : (l.length + 1) * 80 ≤ 140737488355328 := by omega
          have hz3 := hB1.lt
          clear hnx hsp2 h3 hl0 hcells hown
          have hc1 := hB1.cells; have hf1 := hB1.free; have hl1 := hB1.lt
          have hc12 := hB12.cells; have hf12 := hB12.free; have hl12 := hB12.lt
          go_wp2_with (at_builtin; refine wpList_append_lies _ (by rfl) _ _ 23 (by rfl) (w.heap.size + 2) 25 j0 _ 5 80 Tryz.underlying23 hj hy0' hy1 hy2 rfl (by decide) (.slice a2 l.length c2) l.length xs (by rfl) (Hown3.out.alloc _) ⟨w3.heap.size, 0, none⟩ 1 1 [.int .i64 v.k, .int .i64 v.n, .string v.s, .slice ka v.keys.length kc, .slice la v.l.length lc] (by rfl) (by rfl) (World.news_of_block (cs := #[.int .i64 v.k, .int .i64 v.n, .string v.s, .slice ka v.keys.length kc, .slice la v.l.length lc]) (t := 25) (fr := (0, 0)) (heap_alloc_new w3 _)) (by simp [Value.oneCell']) (by omega) hk63 hsz5 (by simp; omega) _ rfl ?_; intro g4 cap4 w4 hown4 hgrow4 hat4 hlt4; have hB04 := Box.grown (Box.alloc hB0 _) hgrow4 (Hnb.out _ (by omega)); have hB14 := Box.grown (Box.alloc hB1 _) hgrow4 (Hnb.out _ (by omega)); have hc4 := hB14.cells; have hf4 := hB14.free; have hl4 := hB14.lt; have Hg4 := Lib.hid hgrow4; have Hown4 := Lib.hid hown4; have Hat4 := Lib.hid hat4; clear hgrow4 hown4 hat4)
          have hx4 : Ext w w4 := Ext.grown (b := w3.alloc _) Xt Hg4.out (fun g hg => by have := (Hown.out.lt g hg).1; omega)
          have hp := own_push (wr := wc) (n := l.length) (W := w3.alloc _) rfl Hown.out Hcells.out ((hxa.trans hxb).alloc _) Hin.out (hxb.alloc _) (fun b hb => .inr hb) Hown4.out Hg4.out g4 rfl Hat4.out (by omega)
          have Hp := Lib.hid hp
          clear hp
          go_wp2_with fail
          go_roundg (s.size - k2)
          case measure => omega
          case rel => exact ⟨k2, l ++ [v], some ⟨g4, 0, none⟩, cap4, false, rfl, hk2s, rfl, rfl, Lib.hid (by simp), Hsp, Hnx, by simp; omega, Lib.hid (by rw [List.length_append, List.length_singleton]; exact Hp.out.keep (fun b hb hc => by rw [Below.heap_setCell _ _ _ _ (by simp; rcases hc with hc | hc; exact hc.2.elim; omega)])), Bxt, (by rw [List.length_append, List.length_singleton]; exact Bxt), Xt⟩
    · obtain rfl : k = s.size := by omega
      have HRn := Lib.hid (show R = none by rw [← HL.out, listL_end (from_end (by omega))])
      have hki : ¬ (s.size : Int) < (s.size : Int) := by omega
      cases fb with
      | true =>
        go_wp2_with fail
        (refine (HV.out s s.size (d + 1) _ (by omega) hs (Nat.le_refl _)).mono ?_)
        rw [from_end (Nat.le_refl _), show valL f [] = none by cases f <;> rfl]
        rintro e w2 ⟨h2, v, ka, kc, la, lc, y, rfl, hcase⟩
        obtain rfl : y = -1 := hcase
        have hB0 := Box.ext (w' := w2) Xt hB0
        have hB1 := Box.ext (w' := w2) Xt hB1
        have hx3 : Ext w w2 := Xt
        clear h2 hc0 hf0 hl0 hc1 hf1 hl1
        have hc0 := hB0.cells; have hf0 := hB0.free; have hl0 := hB0.lt
        have hc1 := hB1.cells; have hf1 := hB1.free; have hl1 := hB1.lt
        go_wp2_with fail
        (with_reducible apply bp_ret); (focus (go_light; simp [results, Tryz.results106, go_sem, *]; rfl))
        rw [HRn.out]
        exact ⟨Xt, .mk 4 0 ⟨#[]⟩ [] l, none, 0, a2, c2, _, rfl, rfl⟩
      | false =>
        go_wp2_with fail
        (with_reducible apply bp_ret); (focus (go_light; simp [results, Tryz.results106, go_sem, *]; rfl))
        rw [HRn.out]
        exact ⟨Xt, .mk 4 0 ⟨#[]⟩ [] l, none, 0, a2, c2, _, rfl, rfl⟩
end Go.Proofs.YtjibdbnpkfghhaaGreatDoor
