/- The walk of the reader's escape. -/
import Derived.Test.YtjibdbnpkfghhaaGreatDoorRd1
set_option linter.all false
namespace Go.Proofs.YtjibdbnpkfghhaaGreatDoor
open Go.RowKit
attribute [local go_sem ↓] Go.wp_at_zero Go.wp_at_succ
def EscR (r : Nat) (l : Bytes) (w : World) (e : Ending) (w' : World) : Prop :=
 Rd r w w' ∧ ∃ (c : UInt8) (s' : ByteArray) (bad' : Bool), e = .returned (.int .u8 c.toNat) ∧ Sr w' r s' bad' ∧ ((bad' = false ∧ escL l = some (c, s'.data.toList)) ∨ (bad' = true ∧ s'.data.toList = [] ∧ escL l = none))
def escKeys : Bytes := [34, 92, 47, 98, 102, 110, 114, 116]
def escVals : Bytes := [34, 92, 47, 8, 12, 10, 13, 9]
def hexKeys : Bytes := [48, 49, 50, 51, 52, 53, 54, 55, 56, 57, 97, 98, 99, 100, 101, 102]
def digKeys : Bytes := [48, 49, 50, 51, 52, 53, 54, 55, 56, 57]
theorem esc_at : ∀ n : Nat, n < 256 → (Lib.indexByte escKeys (Int.ofNat n).toNat.toUInt8 < 0 ∧ escM (UInt8.ofNat n) = none) ∨ (0 ≤ Lib.indexByte escKeys (Int.ofNat n).toNat.toUInt8 ∧ Lib.indexByte escKeys (Int.ofNat n).toNat.toUInt8 < 8 ∧ escM (UInt8.ofNat n) = escVals[(Lib.indexByte escKeys (Int.ofNat n).toNat.toUInt8).toNat]?) := by decide +kernel
theorem dig_at : ∀ n : Nat, n < 65 → (hexV (UInt8.ofNat n)).map Int.ofNat = if Lib.indexByte digKeys (Int.ofNat n).toNat.toUInt8 < 0 then none else some (Lib.indexByte digKeys (Int.ofNat n).toNat.toUInt8) := by decide +kernel
theorem hexd_at : ∀ n : Nat, n < 256 → 65 ≤ n → (hexV (UInt8.ofNat n)).map Int.ofNat = if Lib.indexByte hexKeys (bits BinOp.or IntKind.u8 (Int.ofNat n) 32).toNat.toUInt8 < 0 then none else some (Lib.indexByte hexKeys (bits BinOp.or IntKind.u8 (Int.ofNat n) 32).toNat.toUInt8) := by decide +kernel
theorem hexV_lt {c : UInt8} {v : Nat} (h : hexV c = some v) : v < 16 := by
 unfold hexV at h
 split at h
 ·cases h; omega
 ·split at h
  ·cases h; omega
  ·split at h
   ·cases h; omega
   ·cases h
def hexK (u : Bytes) : Nat → Option Nat
 | 0 => some 0
 | k + 1 => (hexK u k).bind fun n => (hexV (u.getD k 0)).map fun d => n * 16 + d
theorem hexK_none {u : Bytes} {k : Nat} (h : hexK u k = none) : ∀ j, hexK u (k + j) = none
 | 0 => h
 | j + 1 => by rw [← Nat.add_assoc, hexK, hexK_none h j]; rfl
theorem hexK_lt {u : Bytes} : ∀ {k n : Nat}, hexK u k = some n → n < 16 ^ k
 | 0, n, h => by cases h; decide
 | k + 1, n, h => by
  rw [hexK] at h
  cases h1 : hexK u k with
  | none => rw [h1] at h; cases h
  | some m =>
   cases h2 : hexV (u.getD k 0) with
   | none => rw [h1, h2] at h; cases h
   | some d =>
    rw [h1, h2] at h
    simp only [Option.bind_some, Option.map_some, Option.some.injEq] at h
    have := hexK_lt h1
    have := hexV_lt h2
    rw [Nat.pow_succ]; omega
theorem hex4_K {u : Bytes} (h : 4 ≤ u.length) : hex4 u = (hexK u 4).map fun n => (n, u.drop 4) := by
 rcases u with _ | ⟨a, _ | ⟨b, _ | ⟨c, _ | ⟨d, t⟩⟩⟩⟩
 ·simp at h
 ·simp at h
 ·simp at h
 ·simp at h
 ·simp only [hex4, hexK, List.getD_cons_zero, List.getD_cons_succ, Option.bind_some]
  cases hexV a with
  | none => rfl
  | some a => cases hexV b with
   | none => rfl
   | some b => cases hexV c with
    | none => rfl
    | some c => cases hexV d with
     | none => rfl
     | some d => simp
theorem hex4_short {u : Bytes} (h : u.length < 4) : hex4 u = none := by
 rcases u with _ | ⟨a, _ | ⟨b, _ | ⟨c, _ | ⟨d, t⟩⟩⟩⟩
 ·rfl
 ·rfl
 ·rfl
 ·rfl
 ·simp at h; omega
set_option maxRecDepth 100000 in
set_option maxHeartbeats 4000000 in
theorem escape_any (r : Nat) (s : ByteArray) (hsz : s.size ≤ 1048576) (w : World) (hr : Sr w r s false) :
  Calls Tryz.prog 137 #[.pointer (some ⟨r, 0, none⟩)] w (EscR r s.data.toList w) := by
 have hlt := hr.lt
 have hlen : s.data.toList.length = s.size := Array.length_toList
 have Hlen := Lib.hid hlen
 clear hlen
 obtain ⟨c, hc⟩ : ∃ c, headB s.data.toList = c := ⟨_, rfl⟩
 have Hc := Lib.hid hc
 have hc256 : c.toNat < 256 := c.toNat_lt
 have hcof : UInt8.ofNat c.toNat = c := u8_eta c
 clear hc
 by_cases hz : (c.toNat : Int) = 0
 ·have hzb : ((c.toNat : Int) == 0) = true := by simpa using hz
  have Hnone := Lib.hid (show escL s.data.toList = none by
   have h0 : c = 0 := by apply UInt8.toNat_inj.1; simpa using (by omega : c.toNat = 0)
   have := Hc.out
   cases hq : s.data.toList with
   | nil => rfl
   | cons d t => rw [hq, h0] at this; simp only [headB, List.headD_cons] at this; rw [this]; rfl)
  go_enter Tryz.func137, Tryz.ntmps137
  go_wp2_with fail
  (refine (next_any r s false _ hr).mono ?_); rintro e w1 ⟨rfl, rfl⟩
  rw [Hc.out]
  go_wp2_with fail
  (refine (fail_any r s false _ hr).mono ?_); rintro e w2 ⟨rfl, hr2, h2⟩
  go_wp2_with fail
  (with_reducible apply bp_ret); (focus (go_light; simp [results, Tryz.results137, go_sem, *]; rfl))
  exact ⟨h2, 0, ⟨#[]⟩, true, rfl, hr2, .inr ⟨rfl, rfl, Hnone.out⟩⟩
 ·have hzb : ((c.toNat : Int) == 0) = false := by simpa using hz
  have hne : s.data.toList ≠ [] := fun h => by
   have := Hc.out
   rw [h] at this
   rw [← this] at hz
   exact hz rfl
  have hpos : 1 ≤ s.size := by rw [← Hlen.out]; exact List.length_pos_iff.2 hne
  have hpos1 : (1 : Int) ≤ (s.size : Int) := by omega
  obtain ⟨u, hu⟩ : ∃ u, s.extract 1 s.size = u := ⟨_, rfl⟩
  have hul : u.data.toList = s.data.toList.drop 1 := by rw [← hu]; exact drop_list s 1
  have hcons : s.data.toList = c :: u.data.toList := by
   rw [hul]
   have := Hc.out
   cases hq : s.data.toList with
   | nil => exact absurd hq hne
   | cons d t => rw [hq] at this; simp only [headB, List.headD_cons] at this; rw [this]; rfl
  have husz : u.size ≤ 1048576 := by
   have e : u.data.toList.length = u.size := Array.length_toList
   rw [hul, List.length_drop, Hlen.out] at e
   omega
  have Hcons := Lib.hid hcons
  have hcr := hr.cells
  have hfr := hr.free
  obtain ⟨ix, hix⟩ : ∃ ix, Lib.indexByte (⟨#[34, 92, 47, 98, 102, 110, 114, 116]⟩ : ByteArray).data.toList ((c.toNat : Int)).toNat.toUInt8 = ix := ⟨_, rfl⟩
  have Hix := Lib.hid hix
  have hea := esc_at c.toNat hc256
  rw [hcof] at hea
  have hea : (ix < 0 ∧ escM c = none) ∨ (0 ≤ ix ∧ ix < 8 ∧ escM c = escVals[ix.toNat]?) := by rw [← hix]; exact hea
  clear hne hcons hul hix
  have hR : Rd r w (w.setCell ⟨r, 0, none⟩ (.string u)) := (Rd.refl _ _).set _ _
  have hru : Sr (w.setCell ⟨r, 0, none⟩ (.string u)) r u false := Bxt
  rcases hea with ⟨hx0, hem⟩ | ⟨hx0, hx8, hem⟩
  ·have Hem := Lib.hid hem
   have hx1 : ¬ 0 ≤ ix := by omega
   have hx2 : decide (0 ≤ ix) = false := by simpa using hx1
   clear hem
   have hul2 : u.data.toList.length = u.size := Array.length_toList
   have Hul2 := Lib.hid hul2
   clear hul2
   by_cases h117 : (c.toNat : Int) = 117
   ·have hcu : c = 117 := by apply UInt8.toNat_inj.1; simpa using (by omega : c.toNat = 117)
    have h117b : ((c.toNat : Int) != 117) = false := by simpa using h117
    have h117c : ((c.toNat : Int) == 117) = true := by simpa using h117
    have hesc : escL s.data.toList = (hex4 u.data.toList).bind fun p => if p.1 < 128 then some (UInt8.ofNat p.1, p.2) else none := by
     rw [Hcons.out]; simp only [escL, Hem.out, if_pos hcu]
    have Hesc := Lib.hid hesc
    have H117 := Lib.hid h117
    clear hesc hcu h117
    by_cases h4 : u.size < 4
    ·have h4b : decide ((u.size : Int) < 4) = true := by simp; omega
     have h4c : (u.size : Int) < 4 := by omega
     have Hnone := Lib.hid (show escL s.data.toList = none by rw [Hesc.out, hex4_short (by rw [Hul2.out]; exact h4)]; rfl)
     go_enter Tryz.func137, Tryz.ntmps137
     go_wp2_with fail
     (refine (next_any r s false _ hr).mono ?_); rintro e w1 ⟨rfl, rfl⟩
     rw [Hc.out]
     go_wp2_with fail
     (refine (Tryz.strings_IndexByte _ _ _).mono ?_); rintro e w1 ⟨rfl, rfl⟩
     rw [Hix.out]
     go_wp2_with fail
     (refine (fail_any r u false _ hru).mono ?_); rintro e w2 ⟨rfl, hr2, h2⟩
     go_wp2_with fail
     (with_reducible apply bp_ret); (focus (go_light; simp [results, Tryz.results137, go_sem, *]; rfl))
     exact ⟨hR.trans h2, 0, ⟨#[]⟩, true, rfl, hr2, .inr ⟨rfl, rfl, Hnone.out⟩⟩
    ·have h4b : decide ((u.size : Int) < 4) = false := by simp; omega
     have h4c : (4 : Int) ≤ (u.size : Int) := by omega
     have h4d : ¬ (u.size : Int) < 4 := by omega
     have Hk := Lib.hid (show hex4 u.data.toList = (hexK u.data.toList 4).map fun n => (n, u.data.toList.drop 4) from hex4_K (by rw [Hul2.out]; omega))
     go_enter Tryz.func137, Tryz.ntmps137
     go_wp2_with fail
     (refine (next_any r s false _ hr).mono ?_); rintro e w1 ⟨rfl, rfl⟩
     rw [Hc.out]
     go_wp2_with fail
     (refine (Tryz.strings_IndexByte _ _ _).mono ?_); rintro e w1 ⟨rfl, rfl⟩
     rw [Hix.out]
     go_wp2_with fail
     refine gen_world (R := fun wx => Sr wx r u false ∧ Rd r w1 wx) ⟨hru, hR⟩ ?_
     clear hru hR hcr hfr
     rintro wy ⟨hru, hR⟩
     have hcr := hru.cells
     have hfr := hru.free
     go_loopg [5, 6, 7, 40] 4 (fun g t5 _ _ i wr => ∃ k n : Nat, i = .int .i64 k ∧ k ≤ 4 ∧ g = 4 - k ∧ t5 = .int .i64 n ∧ n ≤ 65535 ∧ hexK u.data.toList k = some n ∧ wr = wy)
     case atStart => exact ⟨0, 0, rfl, by omega, rfl, rfl, by omega, rfl, rfl⟩
     case round =>
      obtain ⟨k, n, rfl, hk, rfl, rfl, hn, hK, rfl⟩ := hrel
      have HK := Lib.hid hK
      clear hK
      by_cases hk4 : k < 4
      ·have hku : k < u.size := by omega
       have hget : u.data.toList.getD k 0 = u[k] := by
        rw [List.getD_eq_getElem?_getD, byte_get hku]; rfl
       have Hget := Lib.hid hget
       have hd256 : u[k].toNat < 256 := u[k].toNat_lt
       have hk4i : (k : Int) < 4 := by omega
       obtain ⟨ix1, hix1⟩ : ∃ ix1, Lib.indexByte (⟨#[48, 49, 50, 51, 52, 53, 54, 55, 56, 57, 97, 98, 99, 100, 101, 102]⟩ : ByteArray).data.toList (bits BinOp.or IntKind.u8 (u[k].toNat : Int) 32).toNat.toUInt8 = ix1 := ⟨_, rfl⟩
       obtain ⟨ix2, hix2⟩ : ∃ ix2, Lib.indexByte (⟨#[48, 49, 50, 51, 52, 53, 54, 55, 56, 57]⟩ : ByteArray).data.toList ((u[k].toNat : Int)).toNat.toUInt8 = ix2 := ⟨_, rfl⟩
       have Hix1 := Lib.hid hix1
       have Hix2 := Lib.hid hix2
       have hstep : ∀ d, hexV u[k] = some d → hexK u.data.toList (k + 1) = some (n * 16 + d) := fun d hd => by rw [hexK, HK.out, Hget.out, hd]; rfl
       have hfail : hexV u[k] = none → escL s.data.toList = none := fun hd => by
        have e : hexK u.data.toList (k + 1) = none := by rw [hexK, HK.out, Hget.out, hd]; rfl
        have e4 := hexK_none e (3 - k)
        rw [show k + 1 + (3 - k) = 4 from by omega] at e4
        rw [Hesc.out, Hk.out, e4]; rfl
       have Hstep := Lib.hid hstep
       have Hfail := Lib.hid hfail
       have hmx : ∀ d, hexV u[k] = some d → n * 16 + d ≤ 65535 := fun d hd => by
        have h1 := hexK_lt (Hstep.out d hd)
        have : 16 ^ (k + 1) ≤ 16 ^ 4 := Nat.pow_le_pow_right (by omega) (by omega)
        omega
       have Hmx := Lib.hid hmx
       clear hstep hfail hget hmx
       by_cases h65 : (u[k].toNat : Int) < 65
       ·have h65b : decide ((u[k].toNat : Int) < 65) = true := by simpa using h65
        have hd := dig_at u[k].toNat (by omega)
        rw [u8_eta] at hd
        have hd : (hexV u[k]).map Int.ofNat = if ix2 < 0 then none else some ix2 := by rw [hd, ← hix2]; rfl
        have Hd := Lib.hid hd
        clear hd hix1 hix2
        by_cases hneg : ix2 < 0
        ·have hnegb : decide (ix2 < 0) = true := by simpa using hneg
         have Hnone := Lib.hid (Hfail.out (by have := Hd.out; rw [if_pos hneg] at this; exact Option.map_eq_none_iff.1 this))
         go_wp2_with fail
         (refine (Tryz.strings_IndexByte _ _ _).mono ?_); rintro e w2 ⟨rfl, rfl⟩
         rw [Hix1.out]
         skip; (go_wp2_with fail); (refine (Tryz.strings_IndexByte _ _ _).mono ?_); (rintro e w2 ⟨rfl, rfl⟩); (rw [Hix2.out])
         go_wp2_with fail
         (refine (fail_any r u false _ hru).mono ?_); rintro e w4 ⟨rfl, hr4, h4'⟩
         have h5 := hR.trans h4'
         go_wp2_with fail
         (with_reducible apply bp_ret); (focus (go_light; simp [results, Tryz.results137, go_sem, *]; rfl))
         exact ⟨h5, 0, ⟨#[]⟩, true, rfl, hr4, .inr ⟨rfl, rfl, Hnone.out⟩⟩
        ·have hnegb : decide (ix2 < 0) = false := by simpa using hneg
         obtain ⟨d, hd1, hd2⟩ : ∃ d : Nat, hexV u[k] = some d ∧ ix2 = (d : Int) := by
          have := Hd.out
          rw [if_neg hneg] at this
          cases hq : hexV u[k] with
          | none => rw [hq] at this; cases this
          | some d => rw [hq] at this; exact ⟨d, rfl, (Option.some.inj this).symm⟩
         have hd16 := hexV_lt hd1
         have hmx := Hmx.out d hd1
         have Hd1 := Lib.hid hd1
         subst hd2
         clear hd1
         go_wp2_with fail
         (refine (Tryz.strings_IndexByte _ _ _).mono ?_); rintro e w2 ⟨rfl, rfl⟩
         rw [Hix1.out]
         skip; (go_wp2_with fail); (refine (Tryz.strings_IndexByte _ _ _).mono ?_); (rintro e w2 ⟨rfl, rfl⟩); (rw [Hix2.out])
         go_wp2_with fail
         go_roundg (4 - (k + 1))
         case measure => omega
         case rel => exact ⟨k + 1, n * 16 + d, by go_num, by omega, rfl, by go_num, hmx, Hstep.out d Hd1.out, rfl⟩
       ·have h65b : decide ((u[k].toNat : Int) < 65) = false := by simpa using h65
        have hd := hexd_at u[k].toNat hd256 (by omega)
        rw [u8_eta] at hd
        have hd : (hexV u[k]).map Int.ofNat = if ix1 < 0 then none else some ix1 := by rw [hd, ← hix1]; rfl
        have Hd := Lib.hid hd
        clear hd hix1 hix2
        by_cases hneg : ix1 < 0
        ·have hnegb : decide (ix1 < 0) = true := by simpa using hneg
         have Hnone := Lib.hid (Hfail.out (by have := Hd.out; rw [if_pos hneg] at this; exact Option.map_eq_none_iff.1 this))
         go_wp2_with fail
         (refine (Tryz.strings_IndexByte _ _ _).mono ?_); rintro e w2 ⟨rfl, rfl⟩
         rw [Hix1.out]
         skip; skip
         go_wp2_with fail
         (refine (fail_any r u false _ hru).mono ?_); rintro e w4 ⟨rfl, hr4, h4'⟩
         have h5 := hR.trans h4'
         go_wp2_with fail
         (with_reducible apply bp_ret); (focus (go_light; simp [results, Tryz.results137, go_sem, *]; rfl))
         exact ⟨h5, 0, ⟨#[]⟩, true, rfl, hr4, .inr ⟨rfl, rfl, Hnone.out⟩⟩
        ·have hnegb : decide (ix1 < 0) = false := by simpa using hneg
         obtain ⟨d, hd1, hd2⟩ : ∃ d : Nat, hexV u[k] = some d ∧ ix1 = (d : Int) := by
          have := Hd.out
          rw [if_neg hneg] at this
          cases hq : hexV u[k] with
          | none => rw [hq] at this; cases this
          | some d => rw [hq] at this; exact ⟨d, rfl, (Option.some.inj this).symm⟩
         have hd16 := hexV_lt hd1
         have hmx := Hmx.out d hd1
         have Hd1 := Lib.hid hd1
         subst hd2
         clear hd1
         go_wp2_with fail
         (refine (Tryz.strings_IndexByte _ _ _).mono ?_); rintro e w2 ⟨rfl, rfl⟩
         rw [Hix1.out]
         skip; skip
         go_wp2_with fail
         go_roundg (4 - (k + 1))
         case measure => omega
         case rel => exact ⟨k + 1, n * 16 + d, by go_num, by omega, rfl, by go_num, hmx, Hstep.out d Hd1.out, rfl⟩
      ·obtain rfl : k = 4 := by omega
       obtain ⟨z, hz4⟩ : ∃ z, u.extract 4 u.size = z := ⟨_, rfl⟩
       have hzl : z.data.toList = u.data.toList.drop 4 := by rw [← hz4]; exact drop_list u 4
       have Hzl := Lib.hid hzl
       clear hzl
       by_cases h128 : n < 128
       ·have h128b : decide ((128 : Int) ≤ (n : Int)) = false := by simp; omega
        have h128c : ¬ (128 : Int) ≤ (n : Int) := by omega
        have Hsome := Lib.hid (show escL s.data.toList = some (UInt8.ofNat n, z.data.toList) by
         rw [Hesc.out, Hk.out, HK.out]; simp only [Option.map_some, Option.bind_some, if_pos h128, Hzl.out])
        go_wp2_with fail
        (with_reducible apply bp_ret); (focus (go_light; simp [results, Tryz.results137, go_sem, *]; rfl))
        refine ⟨hR.set _ _, UInt8.ofNat n, z, false, ?_, Bxt, .inl ⟨rfl, Hsome.out⟩⟩
        have e : (UInt8.ofNat n).toNat = n := by simp; omega
        rw [e]
       ·have h128b : decide ((128 : Int) ≤ (n : Int)) = true := by simp; omega
        have h128c : (128 : Int) ≤ (n : Int) := by omega
        have Hnone := Lib.hid (show escL s.data.toList = none by
         rw [Hesc.out, Hk.out, HK.out]; simp only [Option.map_some, Option.bind_some, if_neg h128])
        go_wp2_with fail
        (refine (fail_any r z false _ Bxt).mono ?_); rintro e w2 ⟨rfl, hr2, h2⟩
        have h3 : Rd r w1 w2 := (hR.set _ _).trans h2
        go_wp2_with fail
        (with_reducible apply bp_ret); (focus (go_light; simp [results, Tryz.results137, go_sem, *]; rfl))
        exact ⟨h3, 0, ⟨#[]⟩, true, rfl, hr2, .inr ⟨rfl, rfl, Hnone.out⟩⟩
   ·have h117b : ((c.toNat : Int) != 117) = true := by simpa using h117
    have h117c : ((c.toNat : Int) == 117) = false := by simpa using h117
    have Hnone := Lib.hid (show escL s.data.toList = none by
     rw [Hcons.out]
     have hcu : c ≠ 117 := fun h => h117 (by rw [h]; rfl)
     simp only [escL, Hem.out, if_neg hcu])
    clear h117
    go_enter Tryz.func137, Tryz.ntmps137
    go_wp2_with fail
    (refine (next_any r s false _ hr).mono ?_); rintro e w1 ⟨rfl, rfl⟩
    rw [Hc.out]
    go_wp2_with fail
    (refine (Tryz.strings_IndexByte _ _ _).mono ?_); rintro e w1 ⟨rfl, rfl⟩
    rw [Hix.out]
    go_wp2_with fail
    (refine (fail_any r u false _ hru).mono ?_); rintro e w2 ⟨rfl, hr2, h2⟩
    go_wp2_with fail
    (with_reducible apply bp_ret); (focus (go_light; simp [results, Tryz.results137, go_sem, *]; rfl))
    exact ⟨hR.trans h2, 0, ⟨#[]⟩, true, rfl, hr2, .inr ⟨rfl, rfl, Hnone.out⟩⟩
  ·have Hem := Lib.hid hem
   have hx2 : decide (0 ≤ ix) = true := by simpa using hx0
   obtain ⟨m, rfl⟩ := Int.eq_ofNat_of_zero_le hx0
   have hm8 : m < 8 := by omega
   have Hsome := Lib.hid (show escL s.data.toList = some (escVals[m]'(by simpa [escVals] using hm8), u.data.toList) by
    rw [Hcons.out]
    have e : escM c = some (escVals[m]'(by simpa [escVals] using hm8)) := by
     rw [Hem.out]; simp [escVals, hm8]
    simp only [escL, e])
   clear hem
   go_enter Tryz.func137, Tryz.ntmps137
   go_wp2_with fail
   (refine (next_any r s false _ hr).mono ?_); rintro e w1 ⟨rfl, rfl⟩
   rw [Hc.out]
   go_wp2_with fail
   (refine (Tryz.strings_IndexByte _ _ _).mono ?_); rintro e w1 ⟨rfl, rfl⟩
   rw [Hix.out]
   go_wp2_with fail
   (with_reducible apply bp_ret); (focus (go_light; simp [results, Tryz.results137, go_sem, *]; rfl))
   refine ⟨hR, escVals[m]'(by simpa [escVals] using hm8), u, false, ?_, hru, .inl ⟨rfl, Hsome.out⟩⟩
   rfl
end Go.Proofs.YtjibdbnpkfghhaaGreatDoor
