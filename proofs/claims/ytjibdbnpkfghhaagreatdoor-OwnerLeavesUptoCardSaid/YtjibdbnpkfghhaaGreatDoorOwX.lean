/- What Apply hands to the library: its closures; BinarySearchFunc and ContainsFunc at owners. -/
import Derived.Test.YtjibdbnpkfghhaaGreatDoorPkS
set_option linter.all false
namespace Go.Proofs.YtjibdbnpkfghhaaGreatDoor
open Go.RowKit
attribute [local go_sem ↓] Go.wp_at_zero Go.wp_at_succ
theorem cmp_lt : ∀ a b : List UInt8, Lib.compareBytes a b < 0 ↔ Op.bytesLess a b = true
  | [], [] => by simp [Lib.compareBytes, Op.bytesLess]
  | [], _ :: _ => by simp [Lib.compareBytes, Op.bytesLess]
  | _ :: _, [] => by simp [Lib.compareBytes, Op.bytesLess]
  | x :: a, y :: b => by
    rw [Lib.compareBytes, Op.bytesLess]
    have ih := cmp_lt a b
    by_cases h1 : x < y
    · simp [h1]
    · by_cases h2 : y < x
      · have h3 : x ≠ y := fun e => h1 (by rw [e] at h2 ⊢; exact h2)
        simp [h1, h2, h3]
      · have h3 : x = y := by
          have := UInt8.le_antisymm (UInt8.not_lt.1 h2) (UInt8.not_lt.1 h1)
          exact this
        subst h3
        simp [h1, ih]
set_option maxHeartbeats 2000000 in
theorem apply1_any (v : V) (ka : Option Addr) (kc : Nat) (la : Option Addr) (lc : Nat) (S : Nat → Prop) (want : V) (kb : Option Addr) (kd : Nat) (lb : Option Addr) (ld : Nat) (T : Nat → Prop) (B D : Nat) (q : ByteArray) (w : World) (hvz : v.size ≤ 1000000000) (hwz : want.size ≤ 1000000000)
    (hB : Box w B #[.int .i64 v.k, .int .i64 v.n, .string v.s, .slice ka v.keys.length kc, .slice la v.l.length lc] 25) (hD : Box w D #[.int .i64 want.k, .int .i64 want.n, .string want.s, .slice kb want.keys.length kd, .slice lb want.l.length ld] 25) (hin : v.In w S ka kc la lc) (hjn : want.In w T kb kd lb ld) (hq : q.size ≤ 1073741824) (hm : MaxAt w) :
    Calls Tryz.prog 49 #[.string q, .pointer (some ⟨B, 0, none⟩), .pointer (some ⟨D, 0, none⟩)] w fun e w' => e = .returned (.bool (wayB v want q)) ∧ Ext w w' := by
  have Hin := Lib.hid hin
  have Hjn := Lib.hid hjn
  clear hin hjn
  have hc0 := hB.cells; have hf0 := hB.free; have hl0 := hB.lt
  have hc1 := hD.cells; have hf1 := hD.free; have hl1 := hD.lt
  go_enter Tryz.func49, Tryz.ntmps49
  go_wp2_with fail
  (refine (way_any v ka kc la lc S want kb kd lb ld T q _ hvz hwz (Hin.out.ext Xt) (Hjn.out.ext Xt) hq (hm.ext Xt)).mono ?_)
  rintro e w1 ⟨rfl, h1⟩
  go_wp2_with fail
  go_ret
  exact ⟨rfl, Xt⟩
set_option maxHeartbeats 2000000 in
theorem apply21_any (p q : ByteArray) (B : Nat) (w : World) (hB : Box w B #[.string p] 9) (hp : p.size ≤ 1073741824) (hq : q.size ≤ 1073741824) :
    Calls Tryz.prog 55 #[.string q, .pointer (some ⟨B, 0, none⟩)] w fun e w' => e = .returned (.bool (nearB p q)) ∧ Ext w w' := by
  have hc0 := hB.cells; have hf0 := hB.free; have hl0 := hB.lt
  have Hn := Lib.hid (show nearB p q = (decide (p = q) || aboveB p q || aboveB q p) from rfl)
  by_cases hpq : p = q
  · have hb := eqb_of hpq
    have Hr := Lib.hid (show nearB p q = true by rw [Hn.out, decide_eq_true hpq]; rfl)
    clear hpq
    go_enter Tryz.func55, Tryz.ntmps55
    go_wp2_with fail
    go_ret
    exact ⟨ret_bool Hr.out.symm, Xt⟩
  · have hb := neb_of hpq
    have Hr := Lib.hid (show nearB p q = (aboveB p q || aboveB q p) by rw [Hn.out, decide_eq_false hpq]; rfl)
    clear hpq
    cases h1 : aboveB p q with
    | true =>
      have H1 := Lib.hid h1
      clear h1
      go_enter Tryz.func55, Tryz.ntmps55
      go_wp2_with fail
      (refine (above_any p q _ hp).mono ?_)
      rw [H1.out]
      rintro e w1 ⟨rfl, rfl⟩
      go_wp2_with fail
      go_ret
      exact ⟨ret_bool (by rw [Hr.out, H1.out]; rfl), Xt⟩
    | false =>
      have H1 := Lib.hid h1
      clear h1
      go_enter Tryz.func55, Tryz.ntmps55
      go_wp2_with fail
      (refine (above_any p q _ hp).mono ?_)
      rw [H1.out]
      rintro e w1 ⟨rfl, rfl⟩
      go_wp2_with fail
      (refine (above_any q p _ hq).mono ?_)
      rintro e w2 ⟨rfl, rfl⟩
      go_wp2_with fail
      go_ret
      exact ⟨ret_bool (by rw [Hr.out, H1.out]; rfl), Xt⟩
set_option maxHeartbeats 2000000 in
theorem apply2_any (p : ByteArray) (ow : Ow) (pa : Option Addr) (pc B : Nat) (S : Nat → Prop) (w : World) (hB : Box w B #[.string p] 9) (hp : p.size ≤ 1073741824) (hoz : ow.size ≤ 2097152) (hst : StrsIn w S pa ow.paths) :
    Calls Tryz.prog 53 #[.agg #[.string ow.name, .slice pa ow.paths.length pc], .pointer (some ⟨B, 0, none⟩)] w fun e w' => e = .returned (.bool (ow.paths.any (nearB p))) ∧ Ext w w' := by
  have hmf : ∀ (fn : Fn) (first cap : Array Value) (w : World), (Instr.makeFunc fn first cap).run Tryz.prog w = .ok (.func fn first cap) w := fun _ _ _ _ => rfl
  have hpl := ow.len_paths
  have Hst := Lib.hid hst
  clear hst
  go_enter Tryz.func53, Tryz.ntmps53
  go_upto_region 1 with fail
  refine gen_world (R := fun wx => Box wx w.heap.size #[.string ow.name, .slice pa ow.paths.length pc] 42 ∧ Ext w wx) ⟨Bxt, Xt⟩ ?_
  rintro wa ⟨hB0, hxa⟩
  have hGv : GivesS 55 #[.pointer (some ⟨B, 0, none⟩)] (nearB p) ow.paths wa :=
    ⟨enters_of Tryz.func55 (by kernel_rfl) rfl, fun W x hx e => apply21_any p x B W (Box.ext (hxa.trans e) hB) hp (by have := Ow.len_path hx; omega)⟩
  have hc0 := hB0.cells; have hf0 := hB0.free; have hl0 := hB0.lt
  go_wp2_with fail
  (refine (containsF_any ow.paths pa _ pc S 55 _ _ _ rfl (by omega) (Hst.out.ext Xt) (hGv.later Xt)).mono ?_)
  rintro e w1 ⟨rfl, h1⟩
  go_wp2_with fail
  go_ret
  exact ⟨rfl, Xt⟩
set_option maxHeartbeats 4000000 in
theorem idxO_any (l : List Ow) (p : ByteArray) (a : Option Addr) (n c B : Nat) (S : Nat → Prop) (w : World) (hn : l.length = n) (hbig : n ≤ 1073741824) (hoz : ∀ o ∈ l, o.size ≤ 2097152) (hin : OwsIn w S l a) (hB : Box w B #[.string p] 9) (hp : p.size ≤ 1073741824) :
    Calls Tryz.prog 111 #[.slice a n c, .func (.func 53) #[] #[.pointer (some ⟨B, 0, none⟩)]] w fun e w' => ∃ r : Int, e = .returned (.int .i64 r) ∧ heldB l p = decide (0 ≤ r) ∧ Ext w w' := by
  have Hin := Lib.hid hin
  have Hoz := Lib.hid hoz
  clear hin hoz
  subst hn
  go_enter Tryz.func111, Tryz.ntmps111
  go_wp2_with fail
  go_loopg [5, 8] l.length (fun gg _ i wr => ∃ k : Nat, k ≤ l.length ∧ i = .int .i64 k ∧ gg = l.length - k ∧ heldB (l.take k) p = false ∧ Ext w wr)
  case atStart => exact ⟨0, Nat.zero_le _, rfl, rfl, by simp [heldB], Xt⟩
  case round =>
    obtain ⟨k, hk, rfl, rfl, hall, hx⟩ := hrel
    have Hall := Lib.hid hall
    clear hall
    by_cases hlt : k < l.length
    · obtain ⟨b, o, rfl, hS, pa, pc, d0, d1, hsl, hst⟩ := (Hin.out.ext hx).item hlt
      have hz := Hoz.out _ (List.getElem_mem hlt)
      have Ht := Lib.hid (List.take_succ_eq_append_getElem hlt)
      have Hm := Lib.hid (List.getElem_mem hlt)
      have Hst := Lib.hid hst
      obtain ⟨ow, how⟩ : ∃ ow, l[k] = ow := ⟨_, rfl⟩
      rw [how] at d0 d1 hz Ht Hm Hst
      clear how hst hsl
      cases hq : ow.paths.any (nearB p) with
      | true =>
        have Hr := Lib.hid (show heldB l p = true from List.any_eq_true.2 ⟨ow, Hm.out, hq⟩)
        go_wp2_with fail
        (refine (apply2_any p ow pa pc B S _ (Box.ext (w := wr) Xt (Box.ext hx hB)) hp hz (Hst.out.ext Xt)).mono ?_)
        rw [hq]
        rintro e w2 ⟨rfl, h2⟩
        go_wp2_with fail
        go_ret
        exact ⟨_, rfl, by rw [Hr.out]; simp, Xt⟩
      | false =>
        have Hr := Lib.hid (show heldB (l.take (k + 1)) p = false by
          have := Hall.out
          unfold heldB at this ⊢
          rw [Ht.out, List.any_append, this]
          simp [hq])
        go_wp2_with fail
        (refine (apply2_any p ow pa pc B S _ (Box.ext (w := wr) Xt (Box.ext hx hB)) hp hz (Hst.out.ext Xt)).mono ?_)
        rw [hq]
        rintro e w2 ⟨rfl, h2⟩
        go_wp2_with fail
        go_roundg (l.length - (k + 1))
        case measure => omega
        case rel => exact ⟨k + 1, by omega, by go_num, rfl, Hr.out, Xt⟩
    · have Hend := Lib.hid (show heldB l p = false by have := Hall.out; rwa [List.take_of_length_le (by omega)] at this)
      go_wp2_with fail
      go_ret
      exact ⟨_, rfl, by rw [Hend.out]; rfl, Xt⟩
theorem heldO_any (l : List Ow) (p : ByteArray) (a : Option Addr) (n c B : Nat) (S : Nat → Prop) (w : World) (hn : l.length = n) (hbig : n ≤ 1073741824) (hoz : ∀ o ∈ l, o.size ≤ 2097152) (hin : OwsIn w S l a) (hB : Box w B #[.string p] 9) (hp : p.size ≤ 1073741824) :
    Calls Tryz.prog 52 #[.slice a n c, .func (.func 53) #[] #[.pointer (some ⟨B, 0, none⟩)]] w fun e w' => e = .returned (.bool (heldB l p)) ∧ Ext w w' := by
  go_enter Tryz.func52, Tryz.ntmps52
  go_wp2_with fail
  (refine (idxO_any l p a n c B S _ hn hbig hoz (hin.ext Xt) (Box.ext (w := w) Xt hB) hp).mono ?_)
  rintro e w1 ⟨r, rfl, hr, h1⟩
  have Hr := Lib.hid hr
  clear hr
  go_wp2_with fail
  go_ret
  exact ⟨ret_bool Hr.out.symm, Xt⟩
theorem apply3_any (ow : Ow) (pa : Option Addr) (pc : Nat) (who : ByteArray) (w : World) :
    Calls Tryz.prog 61 #[.agg #[.string ow.name, .slice pa ow.paths.length pc], .string who] w fun e w' => e = .returned (.int .i64 (Lib.compareBytes ow.name.data.toList who.data.toList)) ∧ Ext w w' := by
  go_enter Tryz.func61, Tryz.ntmps61
  go_wp2_with fail
  (refine (Tryz.strings_Compare ow.name who _).mono ?_)
  rintro e w1 ⟨rfl, rfl⟩
  go_wp2_with fail
  go_ret
  exact ⟨rfl, Xt⟩
set_option maxRecDepth 100000 in
set_option maxHeartbeats 8000000 in
theorem bsO_any (l : List Ow) (who : ByteArray) (a : Option Addr) (n c : Nat) (S : Nat → Prop) (w : World) (hn : l.length = n) (hbig : n ≤ 1073741824) (hr : Rises (l.map Ow.name)) (hin : OwsIn w S l a) :
    Calls Tryz.prog 60 #[.slice a n c, .string who, .func (.func 61) #[] #[]] w fun e w' => ∃ fb, e = .returned (.tuple #[.int .i64 (posO l who), .bool fb]) ∧ Ext w w' := by
  have Hin := Lib.hid hin
  have Hmono := Lib.hid (show ∀ s t (h : t < l.length) (hst : s ≤ t), ltS l[t].name who = true → ltS (l[s]'(by omega)).name who = true from fun s t h hst hl => by
    by_cases e : s = t
    · subst e; exact hl
    · have := rises_get hr (i := s) (j := t) (by simp; omega) (by simpa using h) (by omega)
      simp only [List.getElem_map] at this
      exact ltS_trans this hl)
  clear hin hr
  subst hn
  go_enter Tryz.func60, Tryz.ntmps60
  go_wp2_with fail
  go_loopg [9, 10] l.length (fun gg s9 s10 wr => ∃ lo hi : Nat, s9 = .int .i64 lo ∧ s10 = .int .i64 hi ∧ lo ≤ hi ∧ hi ≤ l.length ∧ hi - lo ≤ gg ∧ (∀ t (h : t < l.length), t < lo → ltS l[t].name who = true) ∧ (∀ t (h : t < l.length), hi ≤ t → ltS l[t].name who = false) ∧ Ext w wr)
  case atStart => exact ⟨0, l.length, rfl, rfl, Nat.zero_le _, Nat.le_refl _, by omega, fun t h h0 => absurd h0 (Nat.not_lt_zero _), fun t h h0 => by omega, Xt⟩
  case round =>
    obtain ⟨lo, hi, rfl, rfl, hlh, hin, hgg, h1, h2, hx⟩ := hrel
    have H1 := Lib.hid h1
    have H2 := Lib.hid h2
    clear h1 h2
    by_cases hlt : lo < hi
    · have hmid : (lo + hi) / 2 < l.length := by omega
      obtain ⟨b, o, rfl, hS, pa, pc, d0, d1, hsl, hst⟩ := (Hin.out.ext hx).item hmid
      have Hc := Lib.hid (cmp_lt (l[(lo + hi) / 2]).name.data.toList who.data.toList)
      have Hls := Lib.hid (show ltS (l[(lo + hi) / 2]).name who = Op.bytesLess (l[(lo + hi) / 2]).name.data.toList who.data.toList by unfold ltS; rw [ByteArray.toList_eq, ByteArray.toList_eq])
      have hm0 : (0 : Int) ≤ ((lo : Int) + (hi : Int)) / 2 := by omega
      have hm1 : ((lo : Int) + (hi : Int)) / 2 < (l.length : Int) := by omega
      have hmn : (((lo : Int) + (hi : Int)) / 2).toNat = (lo + hi) / 2 := by omega
      clear hst hsl
      by_cases hcm : Lib.compareBytes (l[(lo + hi) / 2]).name.data.toList who.data.toList < 0
      · have Hl := Lib.hid (show ltS (l[(lo + hi) / 2]).name who = true by rw [Hls.out]; exact Hc.out.1 hcm)
        go_wp2_with fail
        (refine (apply3_any l[(lo + hi) / 2] pa pc who _).mono ?_)
        rintro e w2 ⟨rfl, h2⟩
        go_wp2_with fail
        go_roundg (hi - ((lo + hi) / 2 + 1))
        case measure => omega
        case rel => exact ⟨(lo + hi) / 2 + 1, hi, by go_num, rfl, by omega, hin, Nat.le_refl _, fun t h ht => Hmono.out t _ hmid (by omega) Hl.out, H2.out, Xt⟩
      · have Hl := Lib.hid (show ltS (l[(lo + hi) / 2]).name who = false by
          rw [Hls.out]
          cases hb : Op.bytesLess (l[(lo + hi) / 2]).name.data.toList who.data.toList with
          | false => rfl
          | true => exact absurd (Hc.out.2 hb) hcm)
        go_wp2_with fail
        (refine (apply3_any l[(lo + hi) / 2] pa pc who _).mono ?_)
        rintro e w2 ⟨rfl, h2⟩
        go_wp2_with fail
        go_roundg ((lo + hi) / 2 - lo)
        case measure => omega
        case rel => exact ⟨lo, (lo + hi) / 2, rfl, by go_num, by omega, by omega, Nat.le_refl _, H1.out, (fun t h ht => by
          cases hb : ltS l[t].name who with
          | false => rfl
          | true => have := Hmono.out _ t h ht hb; rw [Hl.out] at this; cases this), Xt⟩
    · obtain rfl : hi = lo := by omega
      have hpos : hi = posO l who := posOf_unique (ks := l.map Ow.name) (by simpa using hin) (fun i h => by simp only [List.getElem_map]; exact H1.out i (by omega) h) (fun h => by simp only [List.getElem_map]; exact H2.out hi (by simpa using h) (Nat.le_refl _))
      have Hpos := Lib.hid hpos
      clear hpos
      by_cases hend : hi < l.length
      · have hendi : (hi : Int) < (l.length : Int) := by omega
        obtain ⟨b, o, rfl, hS, pa, pc, d0, d1, hsl, hst⟩ := (Hin.out.ext hx).item hend
        clear hst hsl
        go_wp2_with fail
        (refine (apply3_any l[hi] pa pc who _).mono ?_)
        rintro e w2 ⟨rfl, h2⟩
        go_wp2_with fail
        go_ret2
        rw [← Hpos.out]
        exact ⟨_, rfl, Xt⟩
      · have hendi : ¬ (hi : Int) < (l.length : Int) := by omega
        go_wp2_with fail
        go_ret2
        rw [← Hpos.out]
        exact ⟨.inl rfl, Xt⟩
end Go.Proofs.YtjibdbnpkfghhaaGreatDoor
