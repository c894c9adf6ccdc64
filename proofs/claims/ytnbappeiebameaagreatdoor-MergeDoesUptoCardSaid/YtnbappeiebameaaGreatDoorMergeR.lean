/- The walks of the reference's IsClean, merged, MergeValues. -/
import Derived.Test.YtnbappeiebameaaGreatDoorMergeQ
import Derived.Test.YtnbappeiebameaaGreatDoorMergeW
import Derived.Test.YtnbappeiebameaaGreatDoorWithR
import Derived.Test.YtnbappeiebameaaGreatDoorRef3
set_option linter.all false
namespace Go.Proofs.YtnbappeiebameaaGreatDoor
open Go.RowKit
attribute [local go_sem ↓] Go.wp_at_zero Go.wp_at_succ

theorem memberR_any (x : V) (key : ByteArray) (ka : Option Addr) (kc : Nat) (la : Option Addr) (lc : Nat) (S : Nat → Prop) (w : World) (hsz : x.size ≤ 1073741824) (hin : x.In w S ka kc la lc) :
    Calls Tryz.prog 34 #[x.val ka kc la lc, .string key] w (RetV2 S (x.memD key) (.bool (x.member key).isSome) w) := by
  unfold V.memD
  cases h : x.member key with
  | some y => exact memberOf_some h ka kc la lc S w hsz hin
  | none =>
    refine (memberOf_none h ka kc la lc S w hsz hin).mono ?_
    rintro e w' ⟨rfl, hx⟩
    exact ⟨none, 0, none, 0, rfl, V.zero_in _ _, hx⟩
theorem all_succ {α : Type} (f : α → Bool) (l : List α) {k : Nat} (h : k < l.length) : (l.take (k + 1)).all f = ((l.take k).all f && f l[k]) := by
  rw [List.take_succ_eq_append_getElem h, List.all_append]; simp
set_option maxRecDepth 100000 in
set_option maxHeartbeats 1000000 in
theorem isClean_any (m : Nat) : ∀ (x : V) (ka : Option Addr) (kc : Nat) (la : Option Addr) (lc : Nat) (S : Nat → Prop) (w : World), x.size ≤ m → x.size ≤ 1073741824 → x.In w S ka kc la lc →
    Calls Tryz.prog 54 #[x.val ka kc la lc] w fun e w' => e = .returned (.bool x.clean) ∧ Ext w w' := by
  induction m with
  | zero => intro x _ _ _ _ _ _ h; have := x.size_pos; omega
  | succ m ih =>
    intro x ka kc la lc S w hm hsz hin
    have hl := x.len_l
    have Hc := Lib.hid (clean_eq x)
    have Ih := Lib.hid ih
    clear ih
    by_cases h5 : x.k = 5
    · have h5b : (x.k == 5) = true := by simpa using h5
      have Hc5 := Lib.hid (show x.clean = x.l.all fun y => decide (y.k ≠ 0) && y.clean by rw [Hc.out]; simp [h5])
      clear h5 Hc
      go_enter Tryz.func54, Tryz.ntmps54
      go_wp2_with fail
      go_loopg [3, 5, 12] x.l.length (fun g cv _ i wr => ∃ (k : Nat) (cb : Bool), k ≤ x.l.length ∧ i = .int .i64 k ∧ g = x.l.length - k ∧ cv = .bool cb ∧ Hid (cb = (x.l.take k).all fun y => decide (y.k ≠ 0) && y.clean) ∧ Box wr w.heap.size #[.int .i64 x.k, .int .i64 x.n, .string x.s, .slice ka x.keys.length kc, .slice la x.l.length lc] 25 ∧ Ext w wr)
      case atStart => exact ⟨0, true, by omega, rfl, rfl, rfl, Lib.hid (by simp), Bxt, Xt⟩
      case round =>
        obtain ⟨k, cb, hk, rfl, rfl, rfl, Ht, hB0, hx⟩ := hrel
        have hc0 := hB0.cells; have hf0 := hB0.free; have hl0 := hB0.lt
        by_cases hlt : k < x.l.length
        · obtain ⟨b, o, rfl, hS, ka', kc', la', lc', ⟨d0, d1, d2, d3, d4⟩, hin'⟩ := (hin.ext hx).item hlt
          have hsi := V.size_item hlt
          have Hin' := Lib.hid hin'
          have hnb : b ≠ wr.heap.size := Nat.ne_of_lt (cell_lt d0)
          have hbl := cell_lt d0
          clear hin'
          have Hs := Lib.hid (all_succ (fun y : V => decide (y.k ≠ 0) && y.clean) x.l hlt)
          cases cb with
          | false =>
            have Hn := Lib.hid (show false = (x.l.take (k + 1)).all fun y => decide (y.k ≠ 0) && y.clean by rw [Hs.out, ← Ht.out]; simp)
            clear Hs
            go_wp2_with fail
            go_roundg (x.l.length - (k + 1))
            case measure => omega
            case rel => exact ⟨k + 1, false, by omega, by go_num, rfl, rfl, Hn, Bxt, Xt⟩
          | true =>
            by_cases h0 : x.l[k].k = 0
            · have h0b : (x.l[k].k != 0) = false := by simpa using h0
              have h0c : (x.l[k].k == 0) = true := by simpa using h0
              have Hn := Lib.hid (show false = (x.l.take (k + 1)).all fun y => decide (y.k ≠ 0) && y.clean by rw [Hs.out]; simp [h0])
              clear Hs h0
              go_wp2_with fail
              go_roundg (x.l.length - (k + 1))
              case measure => omega
              case rel => exact ⟨k + 1, false, by omega, by go_num, rfl, rfl, Hn, Bxt, Xt⟩
            · have h0b : (x.l[k].k != 0) = true := by simpa using h0
              have h0c : (x.l[k].k == 0) = false := by simpa using h0
              obtain ⟨c, hc⟩ : ∃ c, x.l[k].clean = c := ⟨_, rfl⟩
              have Hcl := Lib.hid hc
              have Hn := Lib.hid (show c = (x.l.take (k + 1)).all fun y => decide (y.k ≠ 0) && y.clean by rw [Hs.out, ← Ht.out, hc]; simp [h0])
              clear Hs h0 hc
              go_wp2_with fail
              (refine (Ih.out x.l[k] ka' kc' la' lc' S _ (by omega) (by omega) (Hin'.out.ext Xt)).mono ?_); rintro e w1 ⟨rfl, h1⟩
              rw [Hcl.out]
              have hB1 : Box w1 w.heap.size #[.int .i64 x.k, .int .i64 x.n, .string x.s, .slice ka x.keys.length kc, .slice (some ⟨b, o, none⟩) x.l.length lc] 25 := Box.ext h1 Bxt
              have hx1 : Ext w w1 := Xt
              clear h1
              go_wp2_with fail
              go_roundg (x.l.length - (k + 1))
              case measure => omega
              case rel => exact ⟨k + 1, c, by omega, by go_num, rfl, rfl, Hn, Bxt, Xt⟩
        · have Hgood := Lib.hid (show x.clean = cb by
            have := Ht.out
            rw [List.take_of_length_le (by omega)] at this
            rw [Hc5.out]; exact this.symm)
          go_wp2_with fail
          go_ret
          exact ⟨ret_bool Hgood.out.symm, Xt⟩
    · have h5b : (x.k == 5) = false := by simpa using h5
      have Hgood := Lib.hid (show x.clean = true by rw [Hc.out]; simp [h5])
      clear h5
      go_enter Tryz.func54, Tryz.ntmps54
      go_wp2_with fail
      go_ret
      exact ⟨ret_bool Hgood.out.symm, Xt⟩

set_option maxRecDepth 100000 in
set_option maxHeartbeats 16000000 in
theorem merged_any (m : Nat) : ∀ (p v : V) (ka : Option Addr) (kc : Nat) (la : Option Addr) (lc : Nat) (kb : Option Addr) (kd : Nat) (lb : Option Addr) (ld : Nat) (S : Nat → Prop) (w : World), p.size ≤ m → p.sound → v.sound → v.count ≤ 120 → p.count ≤ 120 → v.In w S ka kc la lc → p.In w S kb kd lb ld →
    Calls Tryz.prog 102 #[v.val ka kc la lc, p.val kb kd lb ld] w (RetV S (p.mrg v) w) := by
  induction m with
  | zero => intro p _ _ _ _ _ _ _ _ _ _ _ h; have := p.size_pos; omega
  | succ m ih =>
    intro p v ka kc la lc kb kd lb ld S w hm hp hv hvc hpc hin hjn
    have Ih := Lib.hid ih
    obtain ⟨SS, hSS⟩ : ∃ SS : Nat → Prop, SS = fun b => (S b ∧ b < w.heap.size) ∨ w.heap.size + 4 ≤ b := ⟨_, rfl⟩
    have Hin := Lib.hid (show v.In w SS ka kc la lc from hin.mono fun b h hl => by rw [hSS]; exact .inl ⟨h, hl⟩)
    have Hjn := Lib.hid (show p.In w SS kb kd lb ld from hjn.mono fun b h hl => by rw [hSS]; exact .inl ⟨h, hl⟩)
    have HSn := Lib.hid (show ∀ b, w.heap.size + 4 ≤ b → SS b from fun b h => by rw [hSS]; exact .inr h)
    have HSo := Lib.hid (show ∀ b, SS b → b ≠ w.heap.size + 3 from fun b h => by rw [hSS] at h; rcases h with h | h <;> omega)
    have HSr := Lib.hid (show ∀ b, SS b → b ≠ w.heap.size + 2 from fun b h => by rw [hSS] at h; rcases h with h | h <;> omega)
    have HSp := Lib.hid (show ∀ b, SS b → Plus S w b from fun b h => by rw [hSS] at h; exact h.elim (fun h => .inl h.1) (fun h => .inr (by omega)))
    clear hSS
    have hpl := p.len_l
    have hpk := p.len_keys
    have hvl := v.len_l
    have hvk := v.len_keys
    have hpsz : p.size ≤ 14640 := by have := sound_size hp; omega
    have hvsz : v.size ≤ 14640 := by have := sound_size hv; omega
    have Hp := Lib.hid hp
    have Hv := Lib.hid hv
    clear ih hin hjn
    by_cases h5 : p.k = 5
    · have h5b : (p.k != 5) = false := by simpa using h5
      have h5c : (p.k == 5) = true := by simpa using h5
      have hpl1 : p.keys.length ≤ p.l.length := Nat.le_of_eq (hp.flat.len h5)
      have hpl2 : p.l.length ≤ p.keys.length := Nat.le_of_eq (hp.flat.len h5).symm
      have Hkp := Lib.hid (show ∀ k (h : k < p.keys.length), plainB p.keys[k] = true from fun k h => hp.flat.kp _ (List.getElem_mem h))
      have Hitp := Lib.hid (show ∀ k (h : k < p.l.length), (p.l[k]).sound from fun k h => hp.item (List.getElem_mem h))
      have Hmp := Lib.hid (mrg_ref hp hv h5)
      clear hp h5
      go_enter Tryz.func102, Tryz.ntmps102
      go_upto_region 4 with fail
      refine gen_world (R := fun wx => Box wx w.heap.size #[.int .i64 v.k, .int .i64 v.n, .string v.s, .slice ka v.keys.length kc, .slice la v.l.length lc] 25 ∧ Box wx (w.heap.size + 1) #[.int .i64 p.k, .int .i64 p.n, .string p.s, .slice kb p.keys.length kd, .slice lb p.l.length ld] 25 ∧ Box wx (w.heap.size + 2) #[.int .i64 0, .int .i64 0, .string ⟨#[]⟩, .slice none 0 0, .slice none 0 0] 25 ∧ Box wx (w.heap.size + 3) #[.int .i64 5, .int .i64 0, .string ⟨#[]⟩, .slice none 0 0, .slice none 0 0] 25 ∧ Ext w wx) ⟨Bxt, Bxt, Bxt, Bxt, Xt⟩ ?_
      rintro wa ⟨hB0, hB1, hB2, hB3, hxa⟩
      have hc0 := hB0.cells; have hf0 := hB0.free; have hl0 := hB0.lt
      have hz3 := hB3.lt
      by_cases hv5 : v.k = 5
      · have v5b : (v.k == 5) = true := by simpa using hv5
        have hvl1 : v.keys.length ≤ v.l.length := Nat.le_of_eq (hv.flat.len hv5)
        have hvl2 : v.l.length ≤ v.keys.length := Nat.le_of_eq (hv.flat.len hv5).symm
        have Hkv := Lib.hid (show ∀ k (h : k < v.keys.length), plainB v.keys[k] = true from fun k h => hv.flat.kp _ (List.getElem_mem h))
        have Hitv := Lib.hid (show ∀ k (h : k < v.l.length), (v.l[k]).sound from fun k h => hv.item (List.getElem_mem h))
        have Hkept := Lib.hid (show p.kept v = keepL p v.keys v.l V.none5 from by unfold V.kept; rw [if_pos hv5])
        have n5c : V.none5.count = 1 := by rw [V.count_eq]; simp [V.none5]
        clear hv hv5
        go_wp2_with fail
        go_loopg [6, 7, 8, 9, 25] v.keys.length (fun g _ _ _ _ i wr => ∃ (k : Nat) (ack : V) (q2 : Option Addr) (r2 : Nat) (q3 : Option Addr) (r3 : Nat), k ≤ v.keys.length ∧ i = .int .i64 k ∧ g = v.keys.length - k ∧ Hid (keepL p (v.keys.take k) (v.l.take k) V.none5 = ack) ∧ Hid (ack.sound ∧ ack.k = 5 ∧ ack.count ≤ 1 + ((v.l.take k).map V.count).sum) ∧ Hid (ack.In wr SS q2 r2 q3 r3) ∧
          Box wr w.heap.size #[.int .i64 v.k, .int .i64 v.n, .string v.s, .slice ka v.keys.length kc, .slice la v.l.length lc] 25 ∧ Box wr (w.heap.size + 1) #[.int .i64 p.k, .int .i64 p.n, .string p.s, .slice kb p.keys.length kd, .slice lb p.l.length ld] 25 ∧ Box wr (w.heap.size + 2) #[.int .i64 0, .int .i64 0, .string ⟨#[]⟩, .slice none 0 0, .slice none 0 0] 25 ∧ Box wr (w.heap.size + 3) #[.int .i64 ack.k, .int .i64 ack.n, .string ack.s, .slice q2 ack.keys.length r2, .slice q3 ack.l.length r3] 25 ∧ Ext w wr ∧ w.heap.size + 4 ≤ wr.heap.size)
        case atStart => exact ⟨0, V.none5, none, 0, none, 0, by omega, rfl, rfl, Lib.hid (by simp [keepL]), Lib.hid ⟨none5_sound, rfl, by simp [n5c]⟩, Lib.hid ((V.in_iff ..).2 ⟨SlOk.nil, SlOk.nil, .inl rfl, .inl rfl⟩), hB0, hB1, hB2, hB3, hxa, hz3⟩
        case round =>
          clear hB0 hB1 hB2 hB3 hc0 hf0 hl0 hxa
          obtain ⟨k, ack, q2, r2, q3, r3, hk, rfl, rfl, Hacc, Hac, Hain, hB0, hB1, hB2, hB3, hx, hzr⟩ := hrel
          have hc0 := hB0.cells; have hf0 := hB0.free; have hl0 := hB0.lt
          have hc1 := hB1.cells; have hf1 := hB1.free; have hl1 := hB1.lt
          have hc3 := hB3.cells; have hf3 := hB3.free; have hl3 := hB3.lt
          have hsum := sum_take_le V.count v.l k
          have Hvce := Lib.hid (V.count_eq v)
          have hacn : ack.count ≤ 120 := by have := Hac.out.2.2; have := Hvce.out; omega
          have hasz : ack.size ≤ 1073741824 := by have := sound_size Hac.out.1; omega
          by_cases hlt : k < v.keys.length
          · have hlt2 : k < v.l.length := by omega
            obtain ⟨bk, ok, rfl, hSk, e0⟩ := (Hin.out.ext hx).key hlt
            obtain ⟨b, o, rfl, hS, ka', kc', la', lc', ⟨d0, d1, d2, d3, d4⟩, hin'⟩ := (Hin.out.ext hx).item hlt2
            have Hin' := Lib.hid hin'
            have hbl := cell_lt d0
            have hbne := HSo.out b hS
            have hki0 : (0 : Int) ≤ (k : Int) := by omega
            have hki1 : (k : Int) < (v.l.length : Int) := by omega
            have hki2 : (k : Int) < (v.keys.length : Int) := by omega
            have Hn := Lib.hid (keepL_next (p := p) hlt2 hlt Hacc.out)
            have Hfa := Lib.hid (kstep_facts (p := p) (k := v.keys[k]) Hac.out.1 Hac.out.2.1 (Hitv.out k hlt2) (Hkv.out k hlt))
            have Hst := Lib.hid (sum_take V.count v.l hlt2)
            clear hin'
            have hmo : (∃ q, p.member v.keys[k] = some q) ∨ p.member v.keys[k] = none := by cases p.member v.keys[k] with | none => exact .inr rfl | some q => exact .inl ⟨q, rfl⟩
            rcases hmo with ⟨q, hmem⟩ | hmem
            · skip
              have Hmem := Lib.hid hmem
              have Hn2 := Lib.hid (show keepL p (v.keys.take (k + 1)) (v.l.take (k + 1)) V.none5 = ack by rw [Hn.out]; unfold V.kstep; rw [hmem])
              clear Hn Hfa hmem
              go_wp2_with fail
              (refine (memberOf_some Hmem.out kb kd lb ld SS _ (by omega) (Hjn.out.ext Xt)).mono ?_)
              rintro e w1 ⟨ka4, kc4, la4, lc4, rfl, hin4, h1⟩
              have hB0 := Box.ext h1 hB0
              have hB1 := Box.ext h1 hB1
              have hB2 := Box.ext h1 hB2
              have hB3 := Box.ext h1 hB3
              have Hain := Lib.hid (Hain.out.ext h1)
              have hx1 : Ext w w1 := Xt
              have hz1 := h1.size
              clear hin4 hc0 hf0 hl0 hc1 hf1 hl1 hc3 hf3 hl3 hx
              go_wp2_with fail
              go_roundg (v.keys.length - (k + 1))
              case measure => omega
              case rel => exact ⟨k + 1, ack, q2, r2, q3, r3, by omega, by go_num, rfl, Hn2, Lib.hid ⟨Hac.out.1, Hac.out.2.1, by have := Hac.out.2.2; have := Hst.out; omega⟩, Lib.hid (Hain.out.ext Xt), Bxt, Bxt, Bxt, Bxt, Xt, by simp; omega⟩
            · skip
              have Hmem := Lib.hid hmem
              obtain ⟨acc2, hacc2⟩ : ∃ acc2, ack.put v.keys[k] v.l[k] = acc2 := ⟨_, rfl⟩
              have Hacc2 := Lib.hid hacc2
              have Hn2 := Lib.hid (show keepL p (v.keys.take (k + 1)) (v.l.take (k + 1)) V.none5 = acc2 by rw [Hn.out]; unfold V.kstep; rw [hmem]; exact hacc2)
              have Hfa2 := Lib.hid (show acc2.sound ∧ acc2.k = 5 ∧ acc2.count ≤ 1 + ((v.l.take (k + 1)).map V.count).sum by
                have h := Hfa.out
                unfold V.kstep at h
                rw [hmem] at h
                simp only at h
                rw [hacc2] at h
                have := Hac.out.2.2
                have := Hst.out
                exact ⟨h.1, h.2.1, by omega⟩)
              clear Hn Hfa hmem hacc2
              go_wp2_with fail
              (refine (memberOf_none Hmem.out kb kd lb ld SS _ (by omega) (Hjn.out.ext Xt)).mono ?_)
              rintro e w1 ⟨rfl, h1⟩
              have hB0 := Box.ext h1 hB0
              have hB1 := Box.ext h1 hB1
              have hB2 := Box.ext h1 hB2
              have hB3 := Box.ext h1 hB3
              have Hain := Lib.hid (Hain.out.ext h1)
              have hx1 : Ext w w1 := Xt
              have hz1 := h1.size
              have d0 := h1.cell d0; have d1 := h1.cell d1; have d2 := h1.cell d2; have d3 := h1.cell d3; have d4 := h1.cell d4
              have Hin' := Lib.hid (Hin'.out.ext h1)
              have e0 := h1.cell e0
              clear h1 hx hc0 hf0 hl0 hc1 hf1 hl1 hc3 hf3 hl3
              go_upto_region 10 with fail
              refine gen_world (R := fun wx => Box wx w.heap.size #[.int .i64 v.k, .int .i64 v.n, .string v.s, .slice (some ⟨bk, ok, none⟩) v.keys.length kc, .slice (some ⟨b, o, none⟩) v.l.length lc] 25 ∧ Box wx (w.heap.size + 1) #[.int .i64 p.k, .int .i64 p.n, .string p.s, .slice kb p.keys.length kd, .slice lb p.l.length ld] 25 ∧ Box wx (w.heap.size + 2) #[.int .i64 0, .int .i64 0, .string ⟨#[]⟩, .slice none 0 0, .slice none 0 0] 25 ∧ Box wx (w.heap.size + 3) #[.int .i64 ack.k, .int .i64 ack.n, .string ack.s, .slice q2 ack.keys.length r2, .slice q3 ack.l.length r3] 25 ∧ Ext w1 wx ∧ Ext w wx) ⟨Bxt, Bxt, Bxt, Bxt, Xt, Xt⟩ ?_
              clear hB0 hB1 hB2 hB3
              rintro wb ⟨hB0, hB1, hB2, hB3, hx1b, hxb⟩
              have d0 := hx1b.cell d0; have d1 := hx1b.cell d1; have d2 := hx1b.cell d2; have d3 := hx1b.cell d3; have d4 := hx1b.cell d4
              have Hin' := Lib.hid (Hin'.out.ext hx1b)
              have Hain := Lib.hid (Hain.out.ext hx1b)
              have hzb := hx1b.size
              have Sof : ∀ w', Ext wb w' → (w'.cell? ⟨w.heap.size + 3, 0, none⟩ = some (.int .i64 ack.k) ∧ w'.cell? ⟨w.heap.size + 3, 1, none⟩ = some (.int .i64 ack.n) ∧ w'.cell? ⟨w.heap.size + 3, 2, none⟩ = some (.string ack.s) ∧ w'.cell? ⟨w.heap.size + 3, 3, none⟩ = some (.slice q2 ack.keys.length r2) ∧ w'.cell? ⟨w.heap.size + 3, 4, none⟩ = some (.slice q3 ack.l.length r3) ∧ w'.cell? ⟨w.heap.size, 4, none⟩ = some (.slice (some ⟨b, o, none⟩) v.l.length lc) ∧ w'.cell? ⟨b, o + k * 5, none⟩ = some (.int .i64 v.l[k].k) ∧ w'.cell? ⟨b, o + k * 5 + 1, none⟩ = some (.int .i64 v.l[k].n) ∧ w'.cell? ⟨b, o + k * 5 + 2, none⟩ = some (.string v.l[k].s) ∧ w'.cell? ⟨b, o + k * 5 + 3, none⟩ = some (.slice ka' v.l[k].keys.length kc') ∧ w'.cell? ⟨b, o + k * 5 + 4, none⟩ = some (.slice la' v.l[k].l.length lc')) := fun w' e => ⟨e.cell (hB3.cells 0), e.cell (hB3.cells 1), e.cell (hB3.cells 2), e.cell (hB3.cells 3), e.cell (hB3.cells 4), e.cell (hB0.cells 4), e.cell d0, e.cell d1, e.cell d2, e.cell d3, e.cell d4⟩
              refine wp_region_till (S := fun w' => w'.cell? ⟨w.heap.size + 3, 0, none⟩ = some (.int .i64 ack.k) ∧ w'.cell? ⟨w.heap.size + 3, 1, none⟩ = some (.int .i64 ack.n) ∧ w'.cell? ⟨w.heap.size + 3, 2, none⟩ = some (.string ack.s) ∧ w'.cell? ⟨w.heap.size + 3, 3, none⟩ = some (.slice q2 ack.keys.length r2) ∧ w'.cell? ⟨w.heap.size + 3, 4, none⟩ = some (.slice q3 ack.l.length r3) ∧ w'.cell? ⟨w.heap.size, 4, none⟩ = some (.slice (some ⟨b, o, none⟩) v.l.length lc) ∧ w'.cell? ⟨b, o + k * 5, none⟩ = some (.int .i64 v.l[k].k) ∧ w'.cell? ⟨b, o + k * 5 + 1, none⟩ = some (.int .i64 v.l[k].n) ∧ w'.cell? ⟨b, o + k * 5 + 2, none⟩ = some (.string v.l[k].s) ∧ w'.cell? ⟨b, o + k * 5 + 3, none⟩ = some (.slice ka' v.l[k].keys.length kc') ∧ w'.cell? ⟨b, o + k * 5 + 4, none⟩ = some (.slice la' v.l[k].l.length lc')) (c := 8) (by kernel_rfl) ?_
              (refine wpAnyT_take (i := 0) (v := ?_) [8] (Array.getElem?_eq_getElem (by decide)) (by kernel_rfl) (by kernel_rfl) (by kernel_rfl) (by kernel_rfl) rfl rfl (by kernel_rfl) (fun _ _ _ h => h) (Or.inl ⟨by kernel_rfl, ?_⟩) (Sof _ Xt) ?_); rotate_left; (focus (intro w hSw; (try dsimp only at hSw); (try simp only [rl]); go_simp; (try with_reducible rfl))); (try simp only [rl])
              (refine wpAnyT_take (i := 1) (v := ?_) [8] (Array.getElem?_eq_getElem (by decide)) (by kernel_rfl) (by kernel_rfl) (by kernel_rfl) (by kernel_rfl) rfl rfl (by kernel_rfl) (fun _ _ _ h => h) (Or.inl ⟨by kernel_rfl, ?_⟩) (Sof _ Xt) ?_); rotate_left; (focus (intro w hSw; (try dsimp only at hSw); (try simp only [rl]); go_simp; (try with_reducible rfl))); (try simp only [rl])
              (refine wpAnyT_take (i := 2) (v := ?_) [8] (Array.getElem?_eq_getElem (by decide)) (by kernel_rfl) (by kernel_rfl) (by kernel_rfl) (by kernel_rfl) rfl rfl (by kernel_rfl) (fun _ _ _ h => h) (Or.inl ⟨by kernel_rfl, ?_⟩) (Sof _ Xt) ?_); rotate_left; (focus (intro w hSw; (try dsimp only at hSw); (try simp only [rl]); go_simp; (try with_reducible rfl))); (try simp only [rl])
              (refine wpAnyT_take (i := 3) (v := ?_) [8] (Array.getElem?_eq_getElem (by decide)) (by kernel_rfl) (by kernel_rfl) (by kernel_rfl) (by kernel_rfl) rfl rfl (by kernel_rfl) (fun _ _ _ h => h) (Or.inl ⟨by kernel_rfl, ?_⟩) (Sof _ Xt) ?_); rotate_left; (focus (intro w hSw; (try dsimp only at hSw); (try simp only [rl]); go_simp; (try with_reducible rfl))); (try simp only [rl])
              (refine wpAnyT_take (i := 4) (v := ?_) [8] (Array.getElem?_eq_getElem (by decide)) (by kernel_rfl) (by kernel_rfl) (by kernel_rfl) (by kernel_rfl) rfl rfl (by kernel_rfl) (fun _ _ _ h => h) (Or.inl ⟨by kernel_rfl, ?_⟩) (Sof _ Xt) ?_); rotate_left; (focus (intro w hSw; (try dsimp only at hSw); (try simp only [rl]); go_simp; (try with_reducible rfl))); (try simp only [rl])
              (refine wpAnyT_take (i := 5) (v := ?_) [8] (Array.getElem?_eq_getElem (by decide)) (by kernel_rfl) (by kernel_rfl) (by kernel_rfl) (by kernel_rfl) rfl rfl (by kernel_rfl) (fun _ _ _ h => h) (Or.inl ⟨by kernel_rfl, ?_⟩) (Sof _ Xt) ?_); rotate_left; (focus (intro w hSw; (try dsimp only at hSw); (try simp only [rl]); go_simp; (try with_reducible rfl))); (try simp only [rl])
              (refine wpAnyT_take (i := 6) (v := ?_) [8] (Array.getElem?_eq_getElem (by decide)) (by kernel_rfl) (by kernel_rfl) (by kernel_rfl) (by kernel_rfl) rfl rfl (by kernel_rfl) (fun _ _ _ h => h) (Or.inl ⟨by kernel_rfl, ?_⟩) (Sof _ Xt) ?_); rotate_left; (focus (intro w hSw; (try dsimp only at hSw); (try simp only [rl]); go_simp; (try with_reducible rfl))); (try simp only [rl])
              (refine wpAnyT_one (i := 7) (by kernel_rfl) (Array.getElem?_eq_getElem (by decide)) fun K hK => ?_); (try simp only [rl])
              (try go_simp)
              (refine (withR_any ack q2 r2 q3 r3 v.keys[k] v.l[k] ka' kc' la' lc' SS _ hasz (sound_obj Hac.out.1 Hac.out.2.1).k5 (sound_obj Hac.out.1 Hac.out.2.1).len (sound_obj Hac.out.1 Hac.out.2.1).n0 (sound_obj Hac.out.1 Hac.out.2.1).s0 (sound_obj Hac.out.1 Hac.out.2.1).rise (Hain.out.ext Xt) (Hin'.out.ext Xt)).mono ?_)
              rw [Hacc2.out]
              rintro e w6 ⟨ka6, kc6, la6, lc6, rfl, hin6, h6x⟩
              have hy6 : Ext wb w6 := Xt
              have hx6 := hxb.trans hy6
              have hz6 := hy6.size
              clear h6x
              have Hin6 := Lib.hid (show acc2.In w6 SS ka6 kc6 la6 lc6 from hin6.mono fun b h _ => by rcases h with h | h; exact h; exact HSn.out b (by (try simp at h); omega))
              clear hin6
              have hB0w : Box w6 w.heap.size #[.int .i64 v.k, .int .i64 v.n, .string v.s, .slice (some ⟨bk, ok, none⟩) v.keys.length kc, .slice (some ⟨b, o, none⟩) v.l.length lc] 25 := Box.ext hy6 hB0
              have hB1w : Box w6 (w.heap.size + 1) #[.int .i64 p.k, .int .i64 p.n, .string p.s, .slice kb p.keys.length kd, .slice lb p.l.length ld] 25 := Box.ext hy6 hB1
              have hB2w : Box w6 (w.heap.size + 2) #[.int .i64 0, .int .i64 0, .string ⟨#[]⟩, .slice none 0 0, .slice none 0 0] 25 := Box.ext hy6 hB2
              have hB3w : Box w6 (w.heap.size + 3) #[.int .i64 ack.k, .int .i64 ack.n, .string ack.s, .slice q2 ack.keys.length r2, .slice q3 ack.l.length r3] 25 := Box.ext hy6 hB3
              have hc3 := hB3w.cells; have hf3 := hB3w.free; have hl3 := hB3w.lt
              (try go_simp)
              refine hK.out _ _ (fun _ => Sof _ Xt) ?_; clear hK K; (try simp only [rl])
              (refine wpAnyT_one (i := 8) (by kernel_rfl) (Array.getElem?_eq_getElem (by decide)) fun K hK => ?_); (try simp only [rl])
              go_simp
              (refine hK.out _ _ (fun h => Bool.noConfusion (show true = false from h)) ?_); clear hK K; (try simp only [rl])
              refine wpAnyT_done (by kernel_rfl) ?_ _
              obtain ⟨wy, hwy⟩ : ∃ wy, (((((w6.setCell ⟨w.heap.size + 1 + 1 + 1, 0, none⟩ (Value.int .i64 acc2.k)).setCell ⟨w.heap.size + 1 + 1 + 1, 1, none⟩ (Value.int .i64 acc2.n)).setCell ⟨w.heap.size + 1 + 1 + 1, 2, none⟩ (Value.string acc2.s)).setCell ⟨w.heap.size + 1 + 1 + 1, 3, none⟩ (Value.slice ka6 acc2.keys.length kc6)).setCell ⟨w.heap.size + 1 + 1 + 1, 4, none⟩ (Value.slice la6 acc2.l.length lc6)) = wy := ⟨_, rfl⟩
              have hB0y : Box wy w.heap.size #[.int .i64 v.k, .int .i64 v.n, .string v.s, .slice (some ⟨bk, ok, none⟩) v.keys.length kc, .slice (some ⟨b, o, none⟩) v.l.length lc] 25 := by rw [← hwy]; exact Bxt
              have hB1y : Box wy (w.heap.size + 1) #[.int .i64 p.k, .int .i64 p.n, .string p.s, .slice kb p.keys.length kd, .slice lb p.l.length ld] 25 := by rw [← hwy]; exact Bxt
              have hB2y : Box wy (w.heap.size + 2) #[.int .i64 0, .int .i64 0, .string ⟨#[]⟩, .slice none 0 0, .slice none 0 0] 25 := by rw [← hwy]; exact Bxt
              have hB3y : Box wy (w.heap.size + 3) #[.int .i64 acc2.k, .int .i64 acc2.n, .string acc2.s, .slice ka6 acc2.keys.length kc6, .slice la6 acc2.l.length lc6] 25 := by rw [← hwy]; exact Box.to (((((hB3w.set 0 (.int .i64 acc2.k)).set 1 (.int .i64 acc2.n)).set 2 (.string acc2.s)).set 3 (.slice ka6 acc2.keys.length kc6)).set 4 (.slice la6 acc2.l.length lc6)) (by simp)
              have hhy : Held (fun b => b ≠ w.heap.size + 3) w6 wy := by rw [← hwy]; exact Hxt
              have hxy : Ext w wy := by rw [← hwy]; exact Xt
              rw [hwy]
              have Hin6 := Lib.hid (Hin6.out.keep (Held.kept (Held.mono hhy (fun b h => HSo.out b h))) (fun _ h _ => h))
              have hzy := hhy.size
              clear hB0 hB1 hB2 hB3 hB0w hB1w hB2w hB3w hc3 hf3 hl3 Sof hwy hhy hx6 hy6 hxb hx1b
              have hB0 := hB0y
              have hB1 := hB1y
              have hB2 := hB2y
              have hB3 := hB3y
              clear hB0y hB1y hB2y hB3y
              go_wp2_with fail
              go_roundg (v.keys.length - (k + 1))
              case measure => omega
              case rel => exact ⟨k + 1, acc2, ka6, kc6, la6, lc6, by omega, by go_num, rfl, Hn2, Hfa2, Hin6, hB0, hB1, hB2, hB3, hxy, by omega⟩
          · have Hku := Lib.hid (show p.kept v = ack by
              have h := Hacc.out
              rw [List.take_of_length_le (by omega), List.take_of_length_le (by omega)] at h
              rw [Hkept.out, h])
            have Hu := Lib.hid (show ack.sound ∧ ack.k = 5 ∧ ack.count ≤ 120 + 240 * 0 from ⟨Hac.out.1, Hac.out.2.1, by omega⟩)
            have Huin := Hain
            have hxu := hx
            have hzu := hzr
            clear hc0 hf0 hl0 hc3 hf3 hl3 Hacc Hain hx hzr
            go_wp2_with fail
            clear hc1 hf1 hl1
            go_loopg [10, 11, 12, 13, 50] p.keys.length (fun g _ _ _ _ i wr => ∃ (k : Nat) (acc : V) (a2 : Option Addr) (c2 : Nat) (a3 : Option Addr) (c3 : Nat), k ≤ p.keys.length ∧ i = .int .i64 k ∧ g = p.keys.length - k ∧ Hid (putL v (p.keys.take k) (p.l.take k) ack = acc) ∧ Hid (acc.sound ∧ acc.k = 5 ∧ acc.count ≤ 120 + 240 * k) ∧ Hid (acc.In wr SS a2 c2 a3 c3) ∧
              Box wr w.heap.size #[.int .i64 v.k, .int .i64 v.n, .string v.s, .slice ka v.keys.length kc, .slice la v.l.length lc] 25 ∧ Box wr (w.heap.size + 1) #[.int .i64 p.k, .int .i64 p.n, .string p.s, .slice kb p.keys.length kd, .slice lb p.l.length ld] 25 ∧ Box wr (w.heap.size + 2) #[.int .i64 0, .int .i64 0, .string ⟨#[]⟩, .slice none 0 0, .slice none 0 0] 25 ∧ Box wr (w.heap.size + 3) #[.int .i64 acc.k, .int .i64 acc.n, .string acc.s, .slice a2 acc.keys.length c2, .slice a3 acc.l.length c3] 25 ∧ Ext w wr ∧ w.heap.size + 4 ≤ wr.heap.size)
            case atStart => exact ⟨0, ack, q2, r2, q3, r3, by omega, rfl, rfl, Lib.hid (by simp [putL]), Hu, Huin, hB0, hB1, hB2, hB3, hxu, hzu⟩
            case round =>
              clear Huin Hu
              obtain ⟨k, acc, a2, c2, a3, c3, hk, rfl, rfl, Hacc, Hac, Hain, hB0, hB1, hB2, hB3, hx, hzr⟩ := hrel
              have hc0 := hB0.cells; have hf0 := hB0.free; have hl0 := hB0.lt
              have hc1 := hB1.cells; have hf1 := hB1.free; have hl1 := hB1.lt
              have hc3 := hB3.cells; have hf3 := hB3.free; have hl3 := hB3.lt
              have hasz : acc.size ≤ 1073741824 := by have := sound_size Hac.out.1; have := Hac.out.2.2; omega
              by_cases hlt : k < p.keys.length
              · have hlt2 : k < p.l.length := by omega
                obtain ⟨bk, ok, rfl, hSk, e0⟩ := (Hjn.out.ext hx).key hlt
                obtain ⟨b, o, rfl, hS, ka', kc', la', lc', ⟨d0, d1, d2, d3, d4⟩, hin'⟩ := (Hjn.out.ext hx).item hlt2
                have Hin' := Lib.hid hin'
                have hsi := V.size_item hlt2
                have hbl := cell_lt d0
                have hbne := HSo.out b hS
                have hki0 : (0 : Int) ≤ (k : Int) := by omega
                have hki1 : (k : Int) < (p.l.length : Int) := by omega
                have hki2 : (k : Int) < (p.keys.length : Int) := by omega
                have Hn := Lib.hid (putL_next (v := v) hlt2 hlt Hacc.out)
                have Hfa := Lib.hid (pstep_facts (k := p.keys[k]) Hv.out Hac.out.1 Hac.out.2.1 (Hitp.out k hlt2) (Hkp.out k hlt))
                have hqc : (p.l[k]).count ≤ 119 := by have := V.count_item hlt2; omega
                clear hin'
                by_cases h0 : p.l[k].k = 0
                · have h0b : (p.l[k].k != 0) = false := by simpa using h0
                  have h0c : (p.l[k].k == 0) = true := by simpa using h0
                  have Hn2 := Lib.hid (show putL v (p.keys.take (k + 1)) (p.l.take (k + 1)) ack = acc by rw [Hn.out]; unfold V.pstep; rw [if_pos h0])
                  clear Hn Hfa h0
                  go_wp2_with fail
                  go_roundg (p.keys.length - (k + 1))
                  case measure => omega
                  case rel => exact ⟨k + 1, acc, a2, c2, a3, c3, by omega, by go_num, rfl, Hn2, Lib.hid ⟨Hac.out.1, Hac.out.2.1, by have := Hac.out.2.2; omega⟩, Hain, hB0, hB1, hB2, hB3, hx, hzr⟩
                · have h0b : (p.l[k].k != 0) = true := by simpa using h0
                  have h0c : (p.l[k].k == 0) = false := by simpa using h0
                  obtain ⟨old, hold⟩ : ∃ old, v.memD p.keys[k] = old := ⟨_, rfl⟩
                  obtain ⟨ob, hob⟩ : ∃ ob, (v.member p.keys[k]).isSome = ob := ⟨_, rfl⟩
                  have Hold := Lib.hid hold
                  have Hob := Lib.hid hob
                  have Hos := Lib.hid (show old.sound ∧ old.count ≤ 120 from hold ▸ ⟨memD_sound Hv.out _, Nat.le_trans (memD_count _ _) hvc⟩)
                  obtain ⟨acc2, hacc2⟩ : ∃ acc2, acc.put p.keys[k] (p.l[k].mrg old) = acc2 := ⟨_, rfl⟩
                  have Hacc2 := Lib.hid hacc2
                  have Hn2 := Lib.hid (show putL v (p.keys.take (k + 1)) (p.l.take (k + 1)) ack = acc2 by rw [Hn.out]; unfold V.pstep; rw [if_neg h0, hold, hacc2])
                  have Hfa2 := Lib.hid (show acc2.sound ∧ acc2.k = 5 ∧ acc2.count ≤ 120 + 240 * (k + 1) by
                    have h := Hfa.out
                    unfold V.pstep at h
                    rw [if_neg h0, hold, hacc2] at h
                    have := Hac.out.2.2
                    exact ⟨h.1, h.2.1, by omega⟩)
                  clear Hn Hfa h0 hold hob hacc2
                  go_wp2_with fail
                  (refine (memberR_any v p.keys[k] ka kc la lc SS _ (by omega) (Hin.out.ext Xt)).mono ?_)
                  rw [Hold.out, Hob.out]
                  rintro e w1 ⟨ka4, kc4, la4, lc4, rfl, hin4, h1⟩
                  have Hin4 := Lib.hid (show old.In w1 SS ka4 kc4 la4 lc4 from hin4.mono fun b h _ => by rcases h with h | h; exact h; exact HSn.out b (by (try simp at h); omega))
                  have hB0 := Box.ext h1 hB0
                  have hB1 := Box.ext h1 hB1
                  have hB2 := Box.ext h1 hB2
                  have hB3 := Box.ext h1 hB3
                  have Hain := Lib.hid (Hain.out.ext h1)
                  have hx1 : Ext w w1 := Xt
                  have hz1 := h1.size
                  have d0 := h1.cell d0; have d1 := h1.cell d1; have d2 := h1.cell d2; have d3 := h1.cell d3; have d4 := h1.cell d4
                  have Hin' := Lib.hid (Hin'.out.ext h1)
                  have e0 := h1.cell e0
                  clear hin4 h1 hx hc0 hf0 hl0 hc1 hf1 hl1 hc3 hf3 hl3
                  go_upto_region 17 with fail
                  refine gen_world (R := fun wx => Box wx w.heap.size #[.int .i64 v.k, .int .i64 v.n, .string v.s, .slice ka v.keys.length kc, .slice la v.l.length lc] 25 ∧ Box wx (w.heap.size + 1) #[.int .i64 p.k, .int .i64 p.n, .string p.s, .slice (some ⟨bk, ok, none⟩) p.keys.length kd, .slice (some ⟨b, o, none⟩) p.l.length ld] 25 ∧ Box wx (w.heap.size + 2) #[.int .i64 0, .int .i64 0, .string ⟨#[]⟩, .slice none 0 0, .slice none 0 0] 25 ∧ Box wx (w.heap.size + 3) #[.int .i64 acc.k, .int .i64 acc.n, .string acc.s, .slice a2 acc.keys.length c2, .slice a3 acc.l.length c3] 25 ∧ Box wx w1.heap.size #[.int .i64 old.k, .int .i64 old.n, .string old.s, .slice ka4 old.keys.length kc4, .slice la4 old.l.length lc4] 25 ∧ Ext w1 wx ∧ Ext w wx) ⟨Bxt, Bxt, Bxt, Bxt, Bxt, Xt, Xt⟩ ?_
                  clear hB0 hB1 hB2 hB3
                  rintro wb ⟨hB0, hB1, hB2, hB3, hB4, hx1b, hxb⟩
                  have d0 := hx1b.cell d0; have d1 := hx1b.cell d1; have d2 := hx1b.cell d2; have d3 := hx1b.cell d3; have d4 := hx1b.cell d4
                  have Hin' := Lib.hid (Hin'.out.ext hx1b)
                  have Hin4 := Lib.hid (Hin4.out.ext hx1b)
                  have Hain := Lib.hid (Hain.out.ext hx1b)
                  have hzb := hx1b.size
                  have Sof : ∀ w', Ext wb w' → (w'.cell? ⟨w.heap.size + 3, 0, none⟩ = some (.int .i64 acc.k) ∧ w'.cell? ⟨w.heap.size + 3, 1, none⟩ = some (.int .i64 acc.n) ∧ w'.cell? ⟨w.heap.size + 3, 2, none⟩ = some (.string acc.s) ∧ w'.cell? ⟨w.heap.size + 3, 3, none⟩ = some (.slice a2 acc.keys.length c2) ∧ w'.cell? ⟨w.heap.size + 3, 4, none⟩ = some (.slice a3 acc.l.length c3) ∧ w'.cell? ⟨w.heap.size + 1, 4, none⟩ = some (.slice (some ⟨b, o, none⟩) p.l.length ld) ∧ w'.cell? ⟨w1.heap.size, 0, none⟩ = some (.int .i64 old.k) ∧ w'.cell? ⟨w1.heap.size, 1, none⟩ = some (.int .i64 old.n) ∧ w'.cell? ⟨w1.heap.size, 2, none⟩ = some (.string old.s) ∧ w'.cell? ⟨w1.heap.size, 3, none⟩ = some (.slice ka4 old.keys.length kc4) ∧ w'.cell? ⟨w1.heap.size, 4, none⟩ = some (.slice la4 old.l.length lc4) ∧ w'.cell? ⟨b, o + k * 5, none⟩ = some (.int .i64 p.l[k].k) ∧ w'.cell? ⟨b, o + k * 5 + 1, none⟩ = some (.int .i64 p.l[k].n) ∧ w'.cell? ⟨b, o + k * 5 + 2, none⟩ = some (.string p.l[k].s) ∧ w'.cell? ⟨b, o + k * 5 + 3, none⟩ = some (.slice ka' p.l[k].keys.length kc') ∧ w'.cell? ⟨b, o + k * 5 + 4, none⟩ = some (.slice la' p.l[k].l.length lc')) := fun w' e => ⟨e.cell (hB3.cells 0), e.cell (hB3.cells 1), e.cell (hB3.cells 2), e.cell (hB3.cells 3), e.cell (hB3.cells 4), e.cell (hB1.cells 4), e.cell (hB4.cells 0), e.cell (hB4.cells 1), e.cell (hB4.cells 2), e.cell (hB4.cells 3), e.cell (hB4.cells 4), e.cell d0, e.cell d1, e.cell d2, e.cell d3, e.cell d4⟩
                  refine wp_region_till (S := fun w' => w'.cell? ⟨w.heap.size + 3, 0, none⟩ = some (.int .i64 acc.k) ∧ w'.cell? ⟨w.heap.size + 3, 1, none⟩ = some (.int .i64 acc.n) ∧ w'.cell? ⟨w.heap.size + 3, 2, none⟩ = some (.string acc.s) ∧ w'.cell? ⟨w.heap.size + 3, 3, none⟩ = some (.slice a2 acc.keys.length c2) ∧ w'.cell? ⟨w.heap.size + 3, 4, none⟩ = some (.slice a3 acc.l.length c3) ∧ w'.cell? ⟨w.heap.size + 1, 4, none⟩ = some (.slice (some ⟨b, o, none⟩) p.l.length ld) ∧ w'.cell? ⟨w1.heap.size, 0, none⟩ = some (.int .i64 old.k) ∧ w'.cell? ⟨w1.heap.size, 1, none⟩ = some (.int .i64 old.n) ∧ w'.cell? ⟨w1.heap.size, 2, none⟩ = some (.string old.s) ∧ w'.cell? ⟨w1.heap.size, 3, none⟩ = some (.slice ka4 old.keys.length kc4) ∧ w'.cell? ⟨w1.heap.size, 4, none⟩ = some (.slice la4 old.l.length lc4) ∧ w'.cell? ⟨b, o + k * 5, none⟩ = some (.int .i64 p.l[k].k) ∧ w'.cell? ⟨b, o + k * 5 + 1, none⟩ = some (.int .i64 p.l[k].n) ∧ w'.cell? ⟨b, o + k * 5 + 2, none⟩ = some (.string p.l[k].s) ∧ w'.cell? ⟨b, o + k * 5 + 3, none⟩ = some (.slice ka' p.l[k].keys.length kc') ∧ w'.cell? ⟨b, o + k * 5 + 4, none⟩ = some (.slice la' p.l[k].l.length lc')) (c := 10) (by kernel_rfl) ?_
                  (refine wpAnyT_take (i := 0) (v := ?_) [10] (Array.getElem?_eq_getElem (by decide)) (by kernel_rfl) (by kernel_rfl) (by kernel_rfl) (by kernel_rfl) rfl rfl (by kernel_rfl) (fun _ _ _ h => h) (Or.inl ⟨by kernel_rfl, ?_⟩) (Sof _ Xt) ?_); rotate_left; (focus (intro w hSw; (try dsimp only at hSw); (try simp only [rl]); go_simp; (try with_reducible rfl))); (try simp only [rl])
                  (refine wpAnyT_take (i := 1) (v := ?_) [10] (Array.getElem?_eq_getElem (by decide)) (by kernel_rfl) (by kernel_rfl) (by kernel_rfl) (by kernel_rfl) rfl rfl (by kernel_rfl) (fun _ _ _ h => h) (Or.inl ⟨by kernel_rfl, ?_⟩) (Sof _ Xt) ?_); rotate_left; (focus (intro w hSw; (try dsimp only at hSw); (try simp only [rl]); go_simp; (try with_reducible rfl))); (try simp only [rl])
                  (refine wpAnyT_take (i := 2) (v := ?_) [10] (Array.getElem?_eq_getElem (by decide)) (by kernel_rfl) (by kernel_rfl) (by kernel_rfl) (by kernel_rfl) rfl rfl (by kernel_rfl) (fun _ _ _ h => h) (Or.inl ⟨by kernel_rfl, ?_⟩) (Sof _ Xt) ?_); rotate_left; (focus (intro w hSw; (try dsimp only at hSw); (try simp only [rl]); go_simp; (try with_reducible rfl))); (try simp only [rl])
                  (refine wpAnyT_take (i := 3) (v := ?_) [10] (Array.getElem?_eq_getElem (by decide)) (by kernel_rfl) (by kernel_rfl) (by kernel_rfl) (by kernel_rfl) rfl rfl (by kernel_rfl) (fun _ _ _ h => h) (Or.inl ⟨by kernel_rfl, ?_⟩) (Sof _ Xt) ?_); rotate_left; (focus (intro w hSw; (try dsimp only at hSw); (try simp only [rl]); go_simp; (try with_reducible rfl))); (try simp only [rl])
                  (refine wpAnyT_take (i := 4) (v := ?_) [10] (Array.getElem?_eq_getElem (by decide)) (by kernel_rfl) (by kernel_rfl) (by kernel_rfl) (by kernel_rfl) rfl rfl (by kernel_rfl) (fun _ _ _ h => h) (Or.inl ⟨by kernel_rfl, ?_⟩) (Sof _ Xt) ?_); rotate_left; (focus (intro w hSw; (try dsimp only at hSw); (try simp only [rl]); go_simp; (try with_reducible rfl))); (try simp only [rl])
                  (refine wpAnyT_take (i := 5) (v := ?_) [10] (Array.getElem?_eq_getElem (by decide)) (by kernel_rfl) (by kernel_rfl) (by kernel_rfl) (by kernel_rfl) rfl rfl (by kernel_rfl) (fun _ _ _ h => h) (Or.inl ⟨by kernel_rfl, ?_⟩) (Sof _ Xt) ?_); rotate_left; (focus (intro w hSw; (try dsimp only at hSw); (try simp only [rl]); go_simp; (try with_reducible rfl))); (try simp only [rl])
                  (refine wpAnyT_take (i := 6) (v := ?_) [10] (Array.getElem?_eq_getElem (by decide)) (by kernel_rfl) (by kernel_rfl) (by kernel_rfl) (by kernel_rfl) rfl rfl (by kernel_rfl) (fun _ _ _ h => h) (Or.inl ⟨by kernel_rfl, ?_⟩) (Sof _ Xt) ?_); rotate_left; (focus (intro w hSw; (try dsimp only at hSw); (try simp only [rl]); go_simp; (try with_reducible rfl))); (try simp only [rl])
                  (refine wpAnyT_take (i := 7) (v := ?_) [10] (Array.getElem?_eq_getElem (by decide)) (by kernel_rfl) (by kernel_rfl) (by kernel_rfl) (by kernel_rfl) rfl rfl (by kernel_rfl) (fun _ _ _ h => h) (Or.inl ⟨by kernel_rfl, ?_⟩) (Sof _ Xt) ?_); rotate_left; (focus (intro w hSw; (try dsimp only at hSw); (try simp only [rl]); go_simp; (try with_reducible rfl))); (try simp only [rl])
                  (refine wpAnyT_one (i := 8) (by kernel_rfl) (Array.getElem?_eq_getElem (by decide)) fun K hK => ?_); (try simp only [rl])
                  (try go_simp)
                  (refine (Ih.out p.l[k] old ka4 kc4 la4 lc4 ka' kc' la' lc' SS _ (by omega) (Hitp.out k hlt2) Hos.out.1 Hos.out.2 (by omega) (Hin4.out.ext Xt) (Hin'.out.ext Xt)).mono ?_)
                  rintro e w5 ⟨ka5, kc5, la5, lc5, rfl, hin5, h5x⟩
                  have hy5 : Ext wb w5 := Xt
                  have hx5 := hxb.trans hy5
                  have hz5 := hy5.size
                  clear h5x
                  have Hin5 := Lib.hid (show (p.l[k].mrg old).In w5 SS ka5 kc5 la5 lc5 from hin5.mono fun b h _ => by rcases h with h | h; exact h; exact HSn.out b (by (try simp at h); omega))
                  clear hin5
                  (try go_simp)
                  refine hK.out _ _ (fun _ => Sof _ Xt) ?_; clear hK K; (try simp only [rl])
                  (refine wpAnyT_one (i := 9) (by kernel_rfl) (Array.getElem?_eq_getElem (by decide)) fun K hK => ?_); (try simp only [rl])
                  (try go_simp)
                  (refine (withR_any acc a2 c2 a3 c3 p.keys[k] (p.l[k].mrg old) ka5 kc5 la5 lc5 SS _ hasz (sound_obj Hac.out.1 Hac.out.2.1).k5 (sound_obj Hac.out.1 Hac.out.2.1).len (sound_obj Hac.out.1 Hac.out.2.1).n0 (sound_obj Hac.out.1 Hac.out.2.1).s0 (sound_obj Hac.out.1 Hac.out.2.1).rise (Hain.out.ext Xt) (Hin5.out.ext Xt)).mono ?_)
                  rw [Hacc2.out]
                  rintro e w6 ⟨ka6, kc6, la6, lc6, rfl, hin6, h6x⟩
                  have hy6 : Ext wb w6 := Xt
                  have hx6 := hxb.trans hy6
                  have hz6 := hy6.size
                  clear h6x
                  have Hin6 := Lib.hid (show acc2.In w6 SS ka6 kc6 la6 lc6 from hin6.mono fun b h _ => by rcases h with h | h; exact h; exact HSn.out b (by (try simp at h); omega))
                  clear hin6
                  have hB0w : Box w6 w.heap.size #[.int .i64 v.k, .int .i64 v.n, .string v.s, .slice ka v.keys.length kc, .slice la v.l.length lc] 25 := Box.ext hy6 hB0
                  have hB1w : Box w6 (w.heap.size + 1) #[.int .i64 p.k, .int .i64 p.n, .string p.s, .slice (some ⟨bk, ok, none⟩) p.keys.length kd, .slice (some ⟨b, o, none⟩) p.l.length ld] 25 := Box.ext hy6 hB1
                  have hB2w : Box w6 (w.heap.size + 2) #[.int .i64 0, .int .i64 0, .string ⟨#[]⟩, .slice none 0 0, .slice none 0 0] 25 := Box.ext hy6 hB2
                  have hB3w : Box w6 (w.heap.size + 3) #[.int .i64 acc.k, .int .i64 acc.n, .string acc.s, .slice a2 acc.keys.length c2, .slice a3 acc.l.length c3] 25 := Box.ext hy6 hB3
                  have hc3 := hB3w.cells; have hf3 := hB3w.free; have hl3 := hB3w.lt
                  (try go_simp)
                  refine hK.out _ _ (fun _ => Sof _ Xt) ?_; clear hK K; (try simp only [rl])
                  (refine wpAnyT_one (i := 10) (by kernel_rfl) (Array.getElem?_eq_getElem (by decide)) fun K hK => ?_); (try simp only [rl])
                  go_simp
                  (refine hK.out _ _ (fun h => Bool.noConfusion (show true = false from h)) ?_); clear hK K; (try simp only [rl])
                  refine wpAnyT_done (by kernel_rfl) ?_ _
                  obtain ⟨wy, hwy⟩ : ∃ wy, (((((w6.setCell ⟨w.heap.size + 1 + 1 + 1, 0, none⟩ (Value.int .i64 acc2.k)).setCell ⟨w.heap.size + 1 + 1 + 1, 1, none⟩ (Value.int .i64 acc2.n)).setCell ⟨w.heap.size + 1 + 1 + 1, 2, none⟩ (Value.string acc2.s)).setCell ⟨w.heap.size + 1 + 1 + 1, 3, none⟩ (Value.slice ka6 acc2.keys.length kc6)).setCell ⟨w.heap.size + 1 + 1 + 1, 4, none⟩ (Value.slice la6 acc2.l.length lc6)) = wy := ⟨_, rfl⟩
                  have hB0y : Box wy w.heap.size #[.int .i64 v.k, .int .i64 v.n, .string v.s, .slice ka v.keys.length kc, .slice la v.l.length lc] 25 := by rw [← hwy]; exact Bxt
                  have hB1y : Box wy (w.heap.size + 1) #[.int .i64 p.k, .int .i64 p.n, .string p.s, .slice (some ⟨bk, ok, none⟩) p.keys.length kd, .slice (some ⟨b, o, none⟩) p.l.length ld] 25 := by rw [← hwy]; exact Bxt
                  have hB2y : Box wy (w.heap.size + 2) #[.int .i64 0, .int .i64 0, .string ⟨#[]⟩, .slice none 0 0, .slice none 0 0] 25 := by rw [← hwy]; exact Bxt
                  have hB3y : Box wy (w.heap.size + 3) #[.int .i64 acc2.k, .int .i64 acc2.n, .string acc2.s, .slice ka6 acc2.keys.length kc6, .slice la6 acc2.l.length lc6] 25 := by rw [← hwy]; exact Box.to (((((hB3w.set 0 (.int .i64 acc2.k)).set 1 (.int .i64 acc2.n)).set 2 (.string acc2.s)).set 3 (.slice ka6 acc2.keys.length kc6)).set 4 (.slice la6 acc2.l.length lc6)) (by simp)
                  have hhy : Held (fun b => b ≠ w.heap.size + 3) w6 wy := by rw [← hwy]; exact Hxt
                  have hxy : Ext w wy := by rw [← hwy]; exact Xt
                  rw [hwy]
                  have Hin6 := Lib.hid (Hin6.out.keep (Held.kept (Held.mono hhy (fun b h => HSo.out b h))) (fun _ h _ => h))
                  have hzy := hhy.size
                  clear hB0 hB1 hB2 hB3 hB4 hB0w hB1w hB2w hB3w hc3 hf3 hl3 Sof hwy hhy hx6 hy6 hxb hx1b hx5 hy5
                  have hB0 := hB0y
                  have hB1 := hB1y
                  have hB2 := hB2y
                  have hB3 := hB3y
                  clear hB0y hB1y hB2y hB3y
                  go_wp2_with fail
                  go_roundg (p.keys.length - (k + 1))
                  case measure => omega
                  case rel => exact ⟨k + 1, acc2, ka6, kc6, la6, lc6, by omega, by go_num, rfl, Hn2, Hfa2, Hin6, hB0, hB1, hB2, hB3, hxy, by omega⟩
              · have Hend := Lib.hid (show p.mrg v = acc by
                  have h := Hacc.out
                  rw [List.take_of_length_le (by omega), List.take_of_length_le (by omega)] at h
                  rw [← Hmp.out, Hku.out, h])
                have hc2 := hB2.cells; have hf2 := hB2.free; have hl2 := hB2.lt
                go_wp2_with fail
                (with_reducible apply bp_ret); (focus (go_light; simp [results, Tryz.results102, go_sem, *]; rfl))
                rw [Hend.out]
                exact ⟨a2, c2, a3, c3, rfl, (Hain.out.keep (Held.kept (Held.mono (a := wr) (S := fun b => b ≠ w.heap.size + 2) Hxt (fun b h => HSr.out b h))) (fun _ h _ => h)).mono (fun b h _ => HSp.out b h), Xt⟩
      · have v5b : (v.k == 5) = false := by simpa using hv5
        have Hku := Lib.hid (show p.kept v = V.none5 from by unfold V.kept; rw [if_neg hv5])
        have n5c : V.none5.count = 1 := by rw [V.count_eq]; simp [V.none5]
        have Hu := Lib.hid (show V.none5.sound ∧ V.none5.k = 5 ∧ V.none5.count ≤ 120 + 240 * 0 from ⟨none5_sound, rfl, by omega⟩)
        have Huin := Lib.hid (show V.none5.In wa SS none 0 none 0 from (V.in_iff ..).2 ⟨SlOk.nil, SlOk.nil, .inl rfl, .inl rfl⟩)
        have hxu := hxa
        have hzu : w.heap.size + 4 ≤ wa.heap.size := hz3
        clear hv5 hv hxa
        have hc1 := hB1.cells; have hf1 := hB1.free; have hl1 := hB1.lt
        go_wp2_with fail
        clear hc0 hf0 hl0 hc1 hf1 hl1
        go_loopg [10, 11, 12, 13, 50] p.keys.length (fun g _ _ _ _ i wr => ∃ (k : Nat) (acc : V) (a2 : Option Addr) (c2 : Nat) (a3 : Option Addr) (c3 : Nat), k ≤ p.keys.length ∧ i = .int .i64 k ∧ g = p.keys.length - k ∧ Hid (putL v (p.keys.take k) (p.l.take k) V.none5 = acc) ∧ Hid (acc.sound ∧ acc.k = 5 ∧ acc.count ≤ 120 + 240 * k) ∧ Hid (acc.In wr SS a2 c2 a3 c3) ∧
          Box wr w.heap.size #[.int .i64 v.k, .int .i64 v.n, .string v.s, .slice ka v.keys.length kc, .slice la v.l.length lc] 25 ∧ Box wr (w.heap.size + 1) #[.int .i64 p.k, .int .i64 p.n, .string p.s, .slice kb p.keys.length kd, .slice lb p.l.length ld] 25 ∧ Box wr (w.heap.size + 2) #[.int .i64 0, .int .i64 0, .string ⟨#[]⟩, .slice none 0 0, .slice none 0 0] 25 ∧ Box wr (w.heap.size + 3) #[.int .i64 acc.k, .int .i64 acc.n, .string acc.s, .slice a2 acc.keys.length c2, .slice a3 acc.l.length c3] 25 ∧ Ext w wr ∧ w.heap.size + 4 ≤ wr.heap.size)
        case atStart => exact ⟨0, V.none5, none, 0, none, 0, by omega, rfl, rfl, Lib.hid (by simp [putL]), Hu, Huin, hB0, hB1, hB2, hB3, hxu, hzu⟩
        case round =>
          clear Huin Hu
          obtain ⟨k, acc, a2, c2, a3, c3, hk, rfl, rfl, Hacc, Hac, Hain, hB0, hB1, hB2, hB3, hx, hzr⟩ := hrel
          have hc0 := hB0.cells; have hf0 := hB0.free; have hl0 := hB0.lt
          have hc1 := hB1.cells; have hf1 := hB1.free; have hl1 := hB1.lt
          have hc3 := hB3.cells; have hf3 := hB3.free; have hl3 := hB3.lt
          have hasz : acc.size ≤ 1073741824 := by have := sound_size Hac.out.1; have := Hac.out.2.2; omega
          by_cases hlt : k < p.keys.length
          · have hlt2 : k < p.l.length := by omega
            obtain ⟨bk, ok, rfl, hSk, e0⟩ := (Hjn.out.ext hx).key hlt
            obtain ⟨b, o, rfl, hS, ka', kc', la', lc', ⟨d0, d1, d2, d3, d4⟩, hin'⟩ := (Hjn.out.ext hx).item hlt2
            have Hin' := Lib.hid hin'
            have hsi := V.size_item hlt2
            have hbl := cell_lt d0
            have hbne := HSo.out b hS
            have hki0 : (0 : Int) ≤ (k : Int) := by omega
            have hki1 : (k : Int) < (p.l.length : Int) := by omega
            have hki2 : (k : Int) < (p.keys.length : Int) := by omega
            have Hn := Lib.hid (putL_next (v := v) hlt2 hlt Hacc.out)
            have Hfa := Lib.hid (pstep_facts (k := p.keys[k]) Hv.out Hac.out.1 Hac.out.2.1 (Hitp.out k hlt2) (Hkp.out k hlt))
            have hqc : (p.l[k]).count ≤ 119 := by have := V.count_item hlt2; omega
            clear hin'
            by_cases h0 : p.l[k].k = 0
            · have h0b : (p.l[k].k != 0) = false := by simpa using h0
              have h0c : (p.l[k].k == 0) = true := by simpa using h0
              have Hn2 := Lib.hid (show putL v (p.keys.take (k + 1)) (p.l.take (k + 1)) V.none5 = acc by rw [Hn.out]; unfold V.pstep; rw [if_pos h0])
              clear Hn Hfa h0
              go_wp2_with fail
              go_roundg (p.keys.length - (k + 1))
              case measure => omega
              case rel => exact ⟨k + 1, acc, a2, c2, a3, c3, by omega, by go_num, rfl, Hn2, Lib.hid ⟨Hac.out.1, Hac.out.2.1, by have := Hac.out.2.2; omega⟩, Hain, hB0, hB1, hB2, hB3, hx, hzr⟩
            · have h0b : (p.l[k].k != 0) = true := by simpa using h0
              have h0c : (p.l[k].k == 0) = false := by simpa using h0
              obtain ⟨old, hold⟩ : ∃ old, v.memD p.keys[k] = old := ⟨_, rfl⟩
              obtain ⟨ob, hob⟩ : ∃ ob, (v.member p.keys[k]).isSome = ob := ⟨_, rfl⟩
              have Hold := Lib.hid hold
              have Hob := Lib.hid hob
              have Hos := Lib.hid (show old.sound ∧ old.count ≤ 120 from hold ▸ ⟨memD_sound Hv.out _, Nat.le_trans (memD_count _ _) hvc⟩)
              obtain ⟨acc2, hacc2⟩ : ∃ acc2, acc.put p.keys[k] (p.l[k].mrg old) = acc2 := ⟨_, rfl⟩
              have Hacc2 := Lib.hid hacc2
              have Hn2 := Lib.hid (show putL v (p.keys.take (k + 1)) (p.l.take (k + 1)) V.none5 = acc2 by rw [Hn.out]; unfold V.pstep; rw [if_neg h0, hold, hacc2])
              have Hfa2 := Lib.hid (show acc2.sound ∧ acc2.k = 5 ∧ acc2.count ≤ 120 + 240 * (k + 1) by
                have h := Hfa.out
                unfold V.pstep at h
                rw [if_neg h0, hold, hacc2] at h
                have := Hac.out.2.2
                exact ⟨h.1, h.2.1, by omega⟩)
              clear Hn Hfa h0 hold hob hacc2
              go_wp2_with fail
              (refine (memberR_any v p.keys[k] ka kc la lc SS _ (by omega) (Hin.out.ext Xt)).mono ?_)
              rw [Hold.out, Hob.out]
              rintro e w1 ⟨ka4, kc4, la4, lc4, rfl, hin4, h1⟩
              have Hin4 := Lib.hid (show old.In w1 SS ka4 kc4 la4 lc4 from hin4.mono fun b h _ => by rcases h with h | h; exact h; exact HSn.out b (by (try simp at h); omega))
              have hB0 := Box.ext h1 hB0
              have hB1 := Box.ext h1 hB1
              have hB2 := Box.ext h1 hB2
              have hB3 := Box.ext h1 hB3
              have Hain := Lib.hid (Hain.out.ext h1)
              have hx1 : Ext w w1 := Xt
              have hz1 := h1.size
              have d0 := h1.cell d0; have d1 := h1.cell d1; have d2 := h1.cell d2; have d3 := h1.cell d3; have d4 := h1.cell d4
              have Hin' := Lib.hid (Hin'.out.ext h1)
              have e0 := h1.cell e0
              clear hin4 h1 hx hc0 hf0 hl0 hc1 hf1 hl1 hc3 hf3 hl3
              go_upto_region 17 with fail
              refine gen_world (R := fun wx => Box wx w.heap.size #[.int .i64 v.k, .int .i64 v.n, .string v.s, .slice ka v.keys.length kc, .slice la v.l.length lc] 25 ∧ Box wx (w.heap.size + 1) #[.int .i64 p.k, .int .i64 p.n, .string p.s, .slice (some ⟨bk, ok, none⟩) p.keys.length kd, .slice (some ⟨b, o, none⟩) p.l.length ld] 25 ∧ Box wx (w.heap.size + 2) #[.int .i64 0, .int .i64 0, .string ⟨#[]⟩, .slice none 0 0, .slice none 0 0] 25 ∧ Box wx (w.heap.size + 3) #[.int .i64 acc.k, .int .i64 acc.n, .string acc.s, .slice a2 acc.keys.length c2, .slice a3 acc.l.length c3] 25 ∧ Box wx w1.heap.size #[.int .i64 old.k, .int .i64 old.n, .string old.s, .slice ka4 old.keys.length kc4, .slice la4 old.l.length lc4] 25 ∧ Ext w1 wx ∧ Ext w wx) ⟨Bxt, Bxt, Bxt, Bxt, Bxt, Xt, Xt⟩ ?_
              clear hB0 hB1 hB2 hB3
              rintro wb ⟨hB0, hB1, hB2, hB3, hB4, hx1b, hxb⟩
              have d0 := hx1b.cell d0; have d1 := hx1b.cell d1; have d2 := hx1b.cell d2; have d3 := hx1b.cell d3; have d4 := hx1b.cell d4
              have Hin' := Lib.hid (Hin'.out.ext hx1b)
              have Hin4 := Lib.hid (Hin4.out.ext hx1b)
              have Hain := Lib.hid (Hain.out.ext hx1b)
              have hzb := hx1b.size
              have Sof : ∀ w', Ext wb w' → (w'.cell? ⟨w.heap.size + 3, 0, none⟩ = some (.int .i64 acc.k) ∧ w'.cell? ⟨w.heap.size + 3, 1, none⟩ = some (.int .i64 acc.n) ∧ w'.cell? ⟨w.heap.size + 3, 2, none⟩ = some (.string acc.s) ∧ w'.cell? ⟨w.heap.size + 3, 3, none⟩ = some (.slice a2 acc.keys.length c2) ∧ w'.cell? ⟨w.heap.size + 3, 4, none⟩ = some (.slice a3 acc.l.length c3) ∧ w'.cell? ⟨w.heap.size + 1, 4, none⟩ = some (.slice (some ⟨b, o, none⟩) p.l.length ld) ∧ w'.cell? ⟨w1.heap.size, 0, none⟩ = some (.int .i64 old.k) ∧ w'.cell? ⟨w1.heap.size, 1, none⟩ = some (.int .i64 old.n) ∧ w'.cell? ⟨w1.heap.size, 2, none⟩ = some (.string old.s) ∧ w'.cell? ⟨w1.heap.size, 3, none⟩ = some (.slice ka4 old.keys.length kc4) ∧ w'.cell? ⟨w1.heap.size, 4, none⟩ = some (.slice la4 old.l.length lc4) ∧ w'.cell? ⟨b, o + k * 5, none⟩ = some (.int .i64 p.l[k].k) ∧ w'.cell? ⟨b, o + k * 5 + 1, none⟩ = some (.int .i64 p.l[k].n) ∧ w'.cell? ⟨b, o + k * 5 + 2, none⟩ = some (.string p.l[k].s) ∧ w'.cell? ⟨b, o + k * 5 + 3, none⟩ = some (.slice ka' p.l[k].keys.length kc') ∧ w'.cell? ⟨b, o + k * 5 + 4, none⟩ = some (.slice la' p.l[k].l.length lc')) := fun w' e => ⟨e.cell (hB3.cells 0), e.cell (hB3.cells 1), e.cell (hB3.cells 2), e.cell (hB3.cells 3), e.cell (hB3.cells 4), e.cell (hB1.cells 4), e.cell (hB4.cells 0), e.cell (hB4.cells 1), e.cell (hB4.cells 2), e.cell (hB4.cells 3), e.cell (hB4.cells 4), e.cell d0, e.cell d1, e.cell d2, e.cell d3, e.cell d4⟩
              refine wp_region_till (S := fun w' => w'.cell? ⟨w.heap.size + 3, 0, none⟩ = some (.int .i64 acc.k) ∧ w'.cell? ⟨w.heap.size + 3, 1, none⟩ = some (.int .i64 acc.n) ∧ w'.cell? ⟨w.heap.size + 3, 2, none⟩ = some (.string acc.s) ∧ w'.cell? ⟨w.heap.size + 3, 3, none⟩ = some (.slice a2 acc.keys.length c2) ∧ w'.cell? ⟨w.heap.size + 3, 4, none⟩ = some (.slice a3 acc.l.length c3) ∧ w'.cell? ⟨w.heap.size + 1, 4, none⟩ = some (.slice (some ⟨b, o, none⟩) p.l.length ld) ∧ w'.cell? ⟨w1.heap.size, 0, none⟩ = some (.int .i64 old.k) ∧ w'.cell? ⟨w1.heap.size, 1, none⟩ = some (.int .i64 old.n) ∧ w'.cell? ⟨w1.heap.size, 2, none⟩ = some (.string old.s) ∧ w'.cell? ⟨w1.heap.size, 3, none⟩ = some (.slice ka4 old.keys.length kc4) ∧ w'.cell? ⟨w1.heap.size, 4, none⟩ = some (.slice la4 old.l.length lc4) ∧ w'.cell? ⟨b, o + k * 5, none⟩ = some (.int .i64 p.l[k].k) ∧ w'.cell? ⟨b, o + k * 5 + 1, none⟩ = some (.int .i64 p.l[k].n) ∧ w'.cell? ⟨b, o + k * 5 + 2, none⟩ = some (.string p.l[k].s) ∧ w'.cell? ⟨b, o + k * 5 + 3, none⟩ = some (.slice ka' p.l[k].keys.length kc') ∧ w'.cell? ⟨b, o + k * 5 + 4, none⟩ = some (.slice la' p.l[k].l.length lc')) (c := 10) (by kernel_rfl) ?_
              (refine wpAnyT_take (i := 0) (v := ?_) [10] (Array.getElem?_eq_getElem (by decide)) (by kernel_rfl) (by kernel_rfl) (by kernel_rfl) (by kernel_rfl) rfl rfl (by kernel_rfl) (fun _ _ _ h => h) (Or.inl ⟨by kernel_rfl, ?_⟩) (Sof _ Xt) ?_); rotate_left; (focus (intro w hSw; (try dsimp only at hSw); (try simp only [rl]); go_simp; (try with_reducible rfl))); (try simp only [rl])
              (refine wpAnyT_take (i := 1) (v := ?_) [10] (Array.getElem?_eq_getElem (by decide)) (by kernel_rfl) (by kernel_rfl) (by kernel_rfl) (by kernel_rfl) rfl rfl (by kernel_rfl) (fun _ _ _ h => h) (Or.inl ⟨by kernel_rfl, ?_⟩) (Sof _ Xt) ?_); rotate_left; (focus (intro w hSw; (try dsimp only at hSw); (try simp only [rl]); go_simp; (try with_reducible rfl))); (try simp only [rl])
              (refine wpAnyT_take (i := 2) (v := ?_) [10] (Array.getElem?_eq_getElem (by decide)) (by kernel_rfl) (by kernel_rfl) (by kernel_rfl) (by kernel_rfl) rfl rfl (by kernel_rfl) (fun _ _ _ h => h) (Or.inl ⟨by kernel_rfl, ?_⟩) (Sof _ Xt) ?_); rotate_left; (focus (intro w hSw; (try dsimp only at hSw); (try simp only [rl]); go_simp; (try with_reducible rfl))); (try simp only [rl])
              (refine wpAnyT_take (i := 3) (v := ?_) [10] (Array.getElem?_eq_getElem (by decide)) (by kernel_rfl) (by kernel_rfl) (by kernel_rfl) (by kernel_rfl) rfl rfl (by kernel_rfl) (fun _ _ _ h => h) (Or.inl ⟨by kernel_rfl, ?_⟩) (Sof _ Xt) ?_); rotate_left; (focus (intro w hSw; (try dsimp only at hSw); (try simp only [rl]); go_simp; (try with_reducible rfl))); (try simp only [rl])
              (refine wpAnyT_take (i := 4) (v := ?_) [10] (Array.getElem?_eq_getElem (by decide)) (by kernel_rfl) (by kernel_rfl) (by kernel_rfl) (by kernel_rfl) rfl rfl (by kernel_rfl) (fun _ _ _ h => h) (Or.inl ⟨by kernel_rfl, ?_⟩) (Sof _ Xt) ?_); rotate_left; (focus (intro w hSw; (try dsimp only at hSw); (try simp only [rl]); go_simp; (try with_reducible rfl))); (try simp only [rl])
              (refine wpAnyT_take (i := 5) (v := ?_) [10] (Array.getElem?_eq_getElem (by decide)) (by kernel_rfl) (by kernel_rfl) (by kernel_rfl) (by kernel_rfl) rfl rfl (by kernel_rfl) (fun _ _ _ h => h) (Or.inl ⟨by kernel_rfl, ?_⟩) (Sof _ Xt) ?_); rotate_left; (focus (intro w hSw; (try dsimp only at hSw); (try simp only [rl]); go_simp; (try with_reducible rfl))); (try simp only [rl])
              (refine wpAnyT_take (i := 6) (v := ?_) [10] (Array.getElem?_eq_getElem (by decide)) (by kernel_rfl) (by kernel_rfl) (by kernel_rfl) (by kernel_rfl) rfl rfl (by kernel_rfl) (fun _ _ _ h => h) (Or.inl ⟨by kernel_rfl, ?_⟩) (Sof _ Xt) ?_); rotate_left; (focus (intro w hSw; (try dsimp only at hSw); (try simp only [rl]); go_simp; (try with_reducible rfl))); (try simp only [rl])
              (refine wpAnyT_take (i := 7) (v := ?_) [10] (Array.getElem?_eq_getElem (by decide)) (by kernel_rfl) (by kernel_rfl) (by kernel_rfl) (by kernel_rfl) rfl rfl (by kernel_rfl) (fun _ _ _ h => h) (Or.inl ⟨by kernel_rfl, ?_⟩) (Sof _ Xt) ?_); rotate_left; (focus (intro w hSw; (try dsimp only at hSw); (try simp only [rl]); go_simp; (try with_reducible rfl))); (try simp only [rl])
              (refine wpAnyT_one (i := 8) (by kernel_rfl) (Array.getElem?_eq_getElem (by decide)) fun K hK => ?_); (try simp only [rl])
              (try go_simp)
              (refine (Ih.out p.l[k] old ka4 kc4 la4 lc4 ka' kc' la' lc' SS _ (by omega) (Hitp.out k hlt2) Hos.out.1 Hos.out.2 (by omega) (Hin4.out.ext Xt) (Hin'.out.ext Xt)).mono ?_)
              rintro e w5 ⟨ka5, kc5, la5, lc5, rfl, hin5, h5x⟩
              have hy5 : Ext wb w5 := Xt
              have hx5 := hxb.trans hy5
              have hz5 := hy5.size
              clear h5x
              have Hin5 := Lib.hid (show (p.l[k].mrg old).In w5 SS ka5 kc5 la5 lc5 from hin5.mono fun b h _ => by rcases h with h | h; exact h; exact HSn.out b (by (try simp at h); omega))
              clear hin5
              (try go_simp)
              refine hK.out _ _ (fun _ => Sof _ Xt) ?_; clear hK K; (try simp only [rl])
              (refine wpAnyT_one (i := 9) (by kernel_rfl) (Array.getElem?_eq_getElem (by decide)) fun K hK => ?_); (try simp only [rl])
              (try go_simp)
              (refine (withR_any acc a2 c2 a3 c3 p.keys[k] (p.l[k].mrg old) ka5 kc5 la5 lc5 SS _ hasz (sound_obj Hac.out.1 Hac.out.2.1).k5 (sound_obj Hac.out.1 Hac.out.2.1).len (sound_obj Hac.out.1 Hac.out.2.1).n0 (sound_obj Hac.out.1 Hac.out.2.1).s0 (sound_obj Hac.out.1 Hac.out.2.1).rise (Hain.out.ext Xt) (Hin5.out.ext Xt)).mono ?_)
              rw [Hacc2.out]
              rintro e w6 ⟨ka6, kc6, la6, lc6, rfl, hin6, h6x⟩
              have hy6 : Ext wb w6 := Xt
              have hx6 := hxb.trans hy6
              have hz6 := hy6.size
              clear h6x
              have Hin6 := Lib.hid (show acc2.In w6 SS ka6 kc6 la6 lc6 from hin6.mono fun b h _ => by rcases h with h | h; exact h; exact HSn.out b (by (try simp at h); omega))
              clear hin6
              have hB0w : Box w6 w.heap.size #[.int .i64 v.k, .int .i64 v.n, .string v.s, .slice ka v.keys.length kc, .slice la v.l.length lc] 25 := Box.ext hy6 hB0
              have hB1w : Box w6 (w.heap.size + 1) #[.int .i64 p.k, .int .i64 p.n, .string p.s, .slice (some ⟨bk, ok, none⟩) p.keys.length kd, .slice (some ⟨b, o, none⟩) p.l.length ld] 25 := Box.ext hy6 hB1
              have hB2w : Box w6 (w.heap.size + 2) #[.int .i64 0, .int .i64 0, .string ⟨#[]⟩, .slice none 0 0, .slice none 0 0] 25 := Box.ext hy6 hB2
              have hB3w : Box w6 (w.heap.size + 3) #[.int .i64 acc.k, .int .i64 acc.n, .string acc.s, .slice a2 acc.keys.length c2, .slice a3 acc.l.length c3] 25 := Box.ext hy6 hB3
              have hc3 := hB3w.cells; have hf3 := hB3w.free; have hl3 := hB3w.lt
              (try go_simp)
              refine hK.out _ _ (fun _ => Sof _ Xt) ?_; clear hK K; (try simp only [rl])
              (refine wpAnyT_one (i := 10) (by kernel_rfl) (Array.getElem?_eq_getElem (by decide)) fun K hK => ?_); (try simp only [rl])
              go_simp
              (refine hK.out _ _ (fun h => Bool.noConfusion (show true = false from h)) ?_); clear hK K; (try simp only [rl])
              refine wpAnyT_done (by kernel_rfl) ?_ _
              obtain ⟨wy, hwy⟩ : ∃ wy, (((((w6.setCell ⟨w.heap.size + 1 + 1 + 1, 0, none⟩ (Value.int .i64 acc2.k)).setCell ⟨w.heap.size + 1 + 1 + 1, 1, none⟩ (Value.int .i64 acc2.n)).setCell ⟨w.heap.size + 1 + 1 + 1, 2, none⟩ (Value.string acc2.s)).setCell ⟨w.heap.size + 1 + 1 + 1, 3, none⟩ (Value.slice ka6 acc2.keys.length kc6)).setCell ⟨w.heap.size + 1 + 1 + 1, 4, none⟩ (Value.slice la6 acc2.l.length lc6)) = wy := ⟨_, rfl⟩
              have hB0y : Box wy w.heap.size #[.int .i64 v.k, .int .i64 v.n, .string v.s, .slice ka v.keys.length kc, .slice la v.l.length lc] 25 := by rw [← hwy]; exact Bxt
              have hB1y : Box wy (w.heap.size + 1) #[.int .i64 p.k, .int .i64 p.n, .string p.s, .slice (some ⟨bk, ok, none⟩) p.keys.length kd, .slice (some ⟨b, o, none⟩) p.l.length ld] 25 := by rw [← hwy]; exact Bxt
              have hB2y : Box wy (w.heap.size + 2) #[.int .i64 0, .int .i64 0, .string ⟨#[]⟩, .slice none 0 0, .slice none 0 0] 25 := by rw [← hwy]; exact Bxt
              have hB3y : Box wy (w.heap.size + 3) #[.int .i64 acc2.k, .int .i64 acc2.n, .string acc2.s, .slice ka6 acc2.keys.length kc6, .slice la6 acc2.l.length lc6] 25 := by rw [← hwy]; exact Box.to (((((hB3w.set 0 (.int .i64 acc2.k)).set 1 (.int .i64 acc2.n)).set 2 (.string acc2.s)).set 3 (.slice ka6 acc2.keys.length kc6)).set 4 (.slice la6 acc2.l.length lc6)) (by simp)
              have hhy : Held (fun b => b ≠ w.heap.size + 3) w6 wy := by rw [← hwy]; exact Hxt
              have hxy : Ext w wy := by rw [← hwy]; exact Xt
              rw [hwy]
              have Hin6 := Lib.hid (Hin6.out.keep (Held.kept (Held.mono hhy (fun b h => HSo.out b h))) (fun _ h _ => h))
              have hzy := hhy.size
              clear hB0 hB1 hB2 hB3 hB4 hB0w hB1w hB2w hB3w hc3 hf3 hl3 Sof hwy hhy hx6 hy6 hxb hx1b hx5 hy5
              have hB0 := hB0y
              have hB1 := hB1y
              have hB2 := hB2y
              have hB3 := hB3y
              clear hB0y hB1y hB2y hB3y
              go_wp2_with fail
              go_roundg (p.keys.length - (k + 1))
              case measure => omega
              case rel => exact ⟨k + 1, acc2, ka6, kc6, la6, lc6, by omega, by go_num, rfl, Hn2, Hfa2, Hin6, hB0, hB1, hB2, hB3, hxy, by omega⟩
          · have Hend := Lib.hid (show p.mrg v = acc by
              have h := Hacc.out
              rw [List.take_of_length_le (by omega), List.take_of_length_le (by omega)] at h
              rw [← Hmp.out, Hku.out, h])
            have hc2 := hB2.cells; have hf2 := hB2.free; have hl2 := hB2.lt
            go_wp2_with fail
            (with_reducible apply bp_ret); (focus (go_light; simp [results, Tryz.results102, go_sem, *]; rfl))
            rw [Hend.out]
            exact ⟨a2, c2, a3, c3, rfl, (Hain.out.keep (Held.kept (Held.mono (a := wr) (S := fun b => b ≠ w.heap.size + 2) Hxt (fun b h => HSr.out b h))) (fun _ h _ => h)).mono (fun b h _ => HSp.out b h), Xt⟩
    · have h5b : (p.k != 5) = true := by simpa using h5
      have h5c : (p.k == 5) = false := by simpa using h5
      have Hend := Lib.hid (show p.mrg v = p by rw [mrg_eq, if_neg h5])
      clear h5
      go_enter Tryz.func102, Tryz.ntmps102
      go_wp2_with fail
      (with_reducible apply bp_ret); (focus (go_light; simp [results, Tryz.results102, go_sem, *]; rfl))
      rw [Hend.out]
      exact ⟨kb, kd, lb, ld, rfl, (Hjn.out.ext Xt).mono (fun b h _ => HSp.out b h), Xt⟩
end Go.Proofs.YtnbappeiebameaaGreatDoor
