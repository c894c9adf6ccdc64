/- The walk of the reference's textAt. -/
import Derived.Test.YtjibdbnpkfghhaaGreatDoorSkR
import Derived.Test.YtjibdbnpkfghhaaGreatDoorPrint
import Derived.Test.YtjibdbnpkfghhaaGreatDoorRef1
import Derived.Test.YtjibdbnpkfghhaaGreatDoorShelf
set_option linter.all false
namespace Go.Proofs.YtjibdbnpkfghhaaGreatDoor
open Go.RowKit
attribute [local go_sem ↓] Go.wp_at_zero Go.wp_at_succ

abbrev specE : List UInt8 := [34, 92, 47, 98, 102, 110, 114, 116]
abbrev outE : ByteArray := ⟨#[34, 92, 47, 8, 12, 10, 13, 9]⟩
theorem ix_escM : ∀ n : Nat, n < 256 → (∃ m : Nat, m < 8 ∧ Lib.indexByte specE (UInt8.ofNat n) = (m : Int) ∧ escM (UInt8.ofNat n) = outE.data[m]?) ∨ (Lib.indexByte specE (UInt8.ofNat n) = -1 ∧ escM (UInt8.ofNat n) = none) := by decide +kernel
theorem escL_hit {d m : UInt8} {t : Bytes} (h : escM d = some m) : escL (d :: t) = some (m, t) := by simp [escL, h]
theorem escL_miss {d : UInt8} {t : Bytes} (h : escM d = none) : escL (d :: t) = if d = 117 then (hex4 t).bind fun p => if p.1 < 128 then some (UInt8.ofNat p.1, p.2) else none else none := by simp [escL, h]
theorem long_none {f : Nat} {s b : Bytes} (h : 60 < b.length) : textL f s b = none := by
  cases f with
  | zero => rfl
  | succ f =>
    cases s with
    | nil => rfl
    | cons c t => unfold textL; rw [if_pos (.inr (.inr h))]
theorem text_plain {f : Nat} {c : UInt8} {t b : Bytes} (h1 : ¬ c.toNat < 32) (h2 : ¬ 127 ≤ c.toNat) (h3 : c ≠ 34) (h4 : c ≠ 92) : textL (f + 1) (c :: t) b = textL f t (b ++ [c]) := by
  by_cases hb : 60 < b.length
  · rw [long_none hb, long_none (by simp; omega)]
  · rw [textL, if_neg (by omega), if_neg h3, if_neg h4]
theorem text_esc {f : Nat} {t b : Bytes} : textL (f + 1) (92 :: t) b = (escL t).bind fun p => textL f p.2 (b ++ [p.1]) := by
  by_cases hb : 60 < b.length
  · rw [long_none hb]
    cases escL t with
    | none => rfl
    | some p => rw [Option.bind_some, long_none (by simp; omega)]
  · rw [textL, if_neg (by simp; omega), if_neg (by decide), if_pos rfl]
theorem text_close {f : Nat} {t b : Bytes} : textL (f + 1) (34 :: t) b = if 60 < b.length then none else some (b, t) := by
  by_cases hb : 60 < b.length
  · rw [long_none hb, if_pos hb]
  · rw [textL, if_neg (by simp; omega), if_pos rfl, if_neg hb]
theorem text_out {f : Nat} {c : UInt8} {t b : Bytes} (h : c.toNat < 32 ∨ 127 ≤ c.toNat) : textL (f + 1) (c :: t) b = none := by
  rw [textL, if_pos (by omega)]
/-- Digits, one by one. -/
def hexAcc : Bytes → Nat → Option Nat
  | [], n => some n
  | c :: t, n => (hexV c).bind fun d => hexAcc t (n * 16 + d)
theorem hex4_acc {a b c d : UInt8} {t : Bytes} : hex4 (a :: b :: c :: d :: t) = (hexAcc [a, b, c, d] 0).map fun n => (n, t) := by
  simp only [hex4, hexAcc]
  cases hexV a with
  | none => rfl
  | some a =>
    cases hexV b with
    | none => rfl
    | some b =>
      cases hexV c with
      | none => rfl
      | some c =>
        cases hexV d with
        | none => rfl
        | some d => simp
theorem hex4_shortR {s : Bytes} (h : s.length < 4) : hex4 s = none := by
  match s, h with
  | [], _ => rfl
  | [_], _ => rfl
  | [_, _], _ => rfl
  | [_, _, _], _ => rfl
/-- What textAt gives. -/
def RetT (s : ByteArray) (r : Option (Bytes × Bytes)) (w : World) (e : Ending) (w' : World) : Prop :=
  Ext w w' ∧ ∃ (q : ByteArray) (j : Int), e = .returned (.tuple #[.string q, .int .i64 j]) ∧ match r with
    | none => j = -1
    | some p => ∃ k : Nat, j = k ∧ k ≤ s.size ∧ fromB s k = p.2 ∧ q.data.toList = p.1
theorem u8sub : ∀ n : Nat, n < 256 → ∀ m : Nat, m ≤ n → IntKind.u8.wrap ((n : Int) - (m : Int)) = ((n - m : Nat) : Int) := by
  intro n hn m hm
  have h : ∀ q : Nat, q < 256 → IntKind.u8.wrap (q : Int) = q := by decide +kernel
  rw [show (n : Int) - (m : Int) = ((n - m : Nat) : Int) by omega]
  exact h _ (by omega)
set_option maxRecDepth 100000 in
set_option maxHeartbeats 16000000 in
theorem textAt_any (s : ByteArray) (i : Nat) (w : World) (hs : s.size ≤ 1073741824) (hi : i < s.size) : Calls Tryz.prog 103 #[.string s, .int .i64 i] w (RetT s (textL ((fromB s (i + 1)).length + 1) (fromB s (i + 1)) []) w) := by
  obtain ⟨R, hR⟩ : ∃ R, textL ((fromB s (i + 1)).length + 1) (fromB s (i + 1)) [] = R := ⟨_, rfl⟩
  rw [hR]
  have HR := Lib.hid (show textL (s.size - (i + 1) + 1) (fromB s (i + 1)) [] = R by rw [← hR, from_len])
  clear hR
  go_enter Tryz.func103, Tryz.ntmps103
  go_wp2_with fail
  go_loopg [6, 7, 8, 9, 10, 12] (s.size - (i + 1)) (fun g t6 t7 _ _ _ _ wr => ∃ (k : Nat) (bs : Bytes) (a0 : Option Addr) (c0 : Nat), t7 = .int .i64 k ∧ 1 ≤ k ∧ k ≤ s.size ∧ g = s.size - k ∧ t6 = .slice a0 bs.length c0 ∧ Hid (OwnB wr w.heap.size (.slice a0 bs.length c0) bs) ∧ bs.length ≤ k ∧ Hid (textL (s.size - k + 1) (fromB s k) bs = R) ∧ Ext w wr)
  case atStart => exact ⟨i + 1, [], none, 0, by go_num, by omega, by omega, by omega, rfl, Lib.hid (OwnB.nil _ _), by simp, HR, Xt⟩
  case round =>
    clear HR
    obtain ⟨k, bs, a0, c0, rfl, hk1, hk, rfl, rfl, HO, hbl, HR, hx⟩ := hrel
    by_cases hlt : k < s.size
    · have hki : (k : Int) < (s.size : Int) := by omega
      have hk0 : (0 : Int) ≤ (k : Int) := by omega
      obtain ⟨c, hc⟩ : ∃ c, s[k] = c := ⟨_, rfl⟩
      have hat : fromB s k = c :: fromB s (k + 1) := by rw [← hc]; exact from_at hlt
      have HR := Lib.hid (show textL (s.size - k + 1) (c :: fromB s (k + 1)) bs = R by rw [← hat]; exact HR.out)
      have hcn : (s[k].toNat : Int) = (c.toNat : Int) := by rw [hc]
      have hc256 := c.toNat_lt
      clear hat
      by_cases h34 : (c.toNat : Int) = 34
      · have b34 : ((c.toNat : Int) == 34) = true := by simpa using h34
        have HR := Lib.hid (show R = if 60 < bs.length then none else some (bs, fromB s (k + 1)) by rw [← HR.out, show c = 34 from byte_is (n := 34) (by omega) h34, text_close])
        by_cases h60 : 60 < bs.length
        · have h60i : (60 : Int) < (bs.length : Int) := by omega
          have hbad : R = none := by rw [HR.out, if_pos h60]
          clear h60 HR
          have HRn := Lib.hid hbad
          clear hbad
          go_wp2_with fail
          (with_reducible apply bp_ret); (focus (go_light; simp [results, Tryz.results103, go_sem, *]; rfl))
          exact ⟨Xt, _, _, rfl, by rw [HRn.out]⟩
        · have h60i : ¬ (60 : Int) < (bs.length : Int) := by omega
          have HRn := Lib.hid (show R = some (bs, fromB s (k + 1)) by rw [HR.out, if_neg h60])
          have hcv := run_str HO.out
          clear h60 HR
          go_wp2_with fail
          (with_reducible apply bp_ret); (focus (go_light; simp [results, Tryz.results103, go_sem, *]; rfl))
          refine ⟨Xt, ⟨bs.toArray⟩, _, rfl, ?_⟩
          rw [HRn.out]
          exact ⟨k + 1, by go_num, by omega, rfl, by simp⟩
      have b34 : ((c.toNat : Int) == 34) = false := by simpa using h34
      by_cases hlo : (c.toNat : Int) < 32
      · have hbad : R = none := by rw [← HR.out, text_out (.inl (by omega))]
        clear HR
        have HRn := Lib.hid hbad
        clear hbad
        go_wp2_with fail
        (with_reducible apply bp_ret); (focus (go_light; simp [results, Tryz.results103, go_sem, *]; rfl))
        exact ⟨Xt, _, _, rfl, by rw [HRn.out]⟩
      by_cases hhi : (126 : Int) < (c.toNat : Int)
      · have hbad : R = none := by rw [← HR.out, text_out (.inr (by omega))]
        clear HR
        have HRn := Lib.hid hbad
        clear hbad
        go_wp2_with fail
        (with_reducible apply bp_ret); (focus (go_light; simp [results, Tryz.results103, go_sem, *]; rfl))
        exact ⟨Xt, _, _, rfl, by rw [HRn.out]⟩
      by_cases h92 : (c.toNat : Int) = 92
      · have b92 : ((c.toNat : Int) != 92) = false := by simpa using h92
        have HR := Lib.hid (show ((escL (fromB s (k + 1))).bind fun p => textL (s.size - k) p.2 (bs ++ [p.1])) = R by rw [← HR.out, show c = 92 from byte_is (n := 92) (by omega) h92, text_esc])
        obtain ⟨k2, hk2⟩ : ∃ k2 : Nat, k2 = k + 1 := ⟨_, rfl⟩
        have hkk : (k : Int) + 1 = (k2 : Int) := by omega
        rw [← hk2] at HR
        have Hk2 := Lib.hid hk2
        have hk2b : k2 ≤ s.size := by omega
        have hk2c : 1 ≤ k2 := by omega
        have hbl2 : bs.length + 1 ≤ k2 := by omega
        have hfu : s.size - k = s.size - k2 + 1 := by omega
        rw [hfu] at HR
        clear h34 h92 hk2 hfu
        by_cases hlt2 : k2 < s.size
        · have hge : ¬ (s.size : Int) ≤ (k2 : Int) := by omega
          have hk20 : (0 : Int) ≤ (k2 : Int) := by omega
          have hk21 : (k2 : Int) < (s.size : Int) := by omega
          obtain ⟨d, hd⟩ : ∃ d, s[k2] = d := ⟨_, rfl⟩
          have hat2 : fromB s k2 = d :: fromB s (k2 + 1) := by rw [← hd]; exact from_at hlt2
          rw [hat2] at HR
          have hdn : (s[k2].toNat : Int) = (d.toNat : Int) := by rw [hd]
          have hd256 := d.toNat_lt
          have hdu : ((d.toNat : Int)).toNat.toUInt8 = d := by simp
          have Hx := Lib.hid (ix_escM d.toNat hd256)
          rw [show UInt8.ofNat d.toNat = d by simp] at Hx
          clear hat2 hd
          rcases Hx.out with ⟨m, hm, hix, he⟩ | ⟨hix, he⟩
          · have Hix := Lib.hid hix
            have hm8 : (m : Int) < 8 := by omega
            have hm0 : (0 : Int) ≤ (m : Int) := by omega
            have hmz : m < outE.data.size := hm
            obtain ⟨mc, hmc⟩ : ∃ c, outE.data[m] = c := ⟨_, rfl⟩
            have hg : ∀ h : m < outE.size, outE[m]'h = mc := fun h => hmc
            have HRn := Lib.hid (show textL (s.size - (k2 + 1) + 1) (fromB s (k2 + 1)) (bs ++ [mc]) = R by
              rw [← HR.out]
              have h1 : escL (d :: fromB s (k2 + 1)) = some (mc, fromB s (k2 + 1)) := escL_hit (by rw [he, Array.getElem?_eq_getElem hmz, hmc])
              rw [h1, Option.bind_some]
              exact textL_fuel _ _ _ _ (by rw [from_len]; omega) (by rw [from_len]; omega))
            clear hix he hmz hmc HR
            go_wp2_with fail
            (refine (Tryz.strings_IndexByte _ _ _).mono ?_); rintro e w1 ⟨rfl, rfl⟩
            rw [hdu, Hix.out]
            go_wp2_with (at_builtin; refine wpl_app (by rfl) _ _ _ (by rfl) (by rfl) w.heap.size (.slice a0 bs.length c0) bs (by rfl) (HO.out.ext Xt) ⟨(w1).heap.size, 0, none⟩ 1 1 [mc] (by rfl) (by rfl) (World.news_of_block (cs := #[.int .u8 (mc).toNat]) (t := 5) (fr := (0, 0)) (heap_alloc_new w1 _)) (by omega) (by have := Ext.size hx; simp; omega) ?_; intro v7 w7 hown7 hgrow7; have hx7 : Ext w w7 := Ext.grown (Ext.trans hx (show Ext w1 _ from Xt)) hgrow7 (fun g hg => (HO.out.lt g hg).1); obtain ⟨a7, c7, rfl, -⟩ := hown7.form; have Hown7 := Lib.hid hown7; clear hown7 hgrow7)
            go_roundg (s.size - (k2 + 1))
            case measure => omega
            case rel => exact ⟨k2 + 1, bs ++ [mc], a7, c7, by go_num, by omega, by omega, rfl, by simp, Hown7, by simp; omega, HRn, hx7⟩
          · have Hix := Lib.hid hix
            have HR := Lib.hid (show ((if d = 117 then (hex4 (fromB s (k2 + 1))).bind fun p => if p.1 < 128 then some (UInt8.ofNat p.1, p.2) else none else none).bind fun p => textL (s.size - k2 + 1) p.2 (bs ++ [p.1])) = R by rw [← HR.out, escL_miss he])
            clear hix he
            by_cases hu : (d.toNat : Int) = 117
            · have bu : ((d.toNat : Int) != 117) = false := by simpa using hu
              have HR := Lib.hid (show ((hex4 (fromB s (k2 + 1))).bind fun p => if p.1 < 128 then textL (s.size - k2 + 1) p.2 (bs ++ [UInt8.ofNat p.1]) else none) = R by
                rw [← HR.out, if_pos (show d = 117 from byte_is (n := 117) (by omega) hu)]
                cases hex4 (fromB s (k2 + 1)) with
                | none => rfl
                | some p =>
                  simp only [Option.bind_some]
                  split <;> simp)
              clear hu
              by_cases hlt4 : k2 + 4 < s.size
              · have hge4 : ¬ (s.size : Int) ≤ (k2 : Int) + 4 := by omega
                obtain ⟨u, hue⟩ : ∃ u, s.extract (k2 + 1) (k2 + 5) = u := ⟨_, rfl⟩
                have hul : u.data.toList = (fromB s (k2 + 1)).take 4 := by
                  rw [← hue, Lib.extract_data]
                  congr 1
                  omega
                have huz : u.size = 4 := by
                  have h1 : u.data.toList.length = u.size := Array.length_toList
                  rw [hul, List.length_take, from_len] at h1
                  omega
                obtain ⟨H, hH⟩ : ∃ H, hexAcc u.data.toList 0 = H := ⟨_, rfl⟩
                have HR := Lib.hid (show ((H.map fun n => (n, fromB s (k2 + 5))).bind fun p => if p.1 < 128 then textL (s.size - k2 + 1) p.2 (bs ++ [UInt8.ofNat p.1]) else none) = R by
                  rw [← HR.out, ← hH, hul]
                  rw [show fromB s (k2 + 1) = s[k2 + 1] :: s[k2 + 1 + 1] :: s[k2 + 1 + 1 + 1] :: s[k2 + 1 + 1 + 1 + 1] :: fromB s (k2 + 5) by rw [from_at (by omega), from_at (i := k2 + 1 + 1) (by omega), from_at (i := k2 + 1 + 1 + 1) (by omega), from_at (i := k2 + 1 + 1 + 1 + 1) (by omega)]]
                  rw [hex4_acc]
                  rfl)
                have HH := Lib.hid hH
                have Hul := Lib.hid hul
                have hp1 : ((k2 : Int) + 1).toNat = k2 + 1 := by omega
                have hp5 : ((k2 : Int) + 5).toNat = k2 + 5 := by omega
                have hs5 : (k2 : Int) + 5 ≤ (s.size : Int) := by omega
                have hs1 : (0 : Int) ≤ (k2 : Int) + 1 := by omega
                have hs2 : (k2 : Int) + 1 ≤ (k2 : Int) + 5 := by omega
                have hs0 : (0 : Int) ≤ (k2 : Int) + 5 := by omega
                have hcv := fun w => run_bytes_of_string (P := Tryz.prog) w 9 86 5 u Tryz.underlying9 Tryz.underlying86 Tryz.underlying5
                clear hul hH
                go_wp2_with fail
                (refine (Tryz.strings_IndexByte _ _ _).mono ?_); rintro e w1 ⟨rfl, rfl⟩
                rw [hdu, Hix.out]
                go_wp2_with fail
                refine gen_world (R := fun wx => (∀ k (h : k < u.size), wx.cell? ⟨w1.heap.size, k, none⟩ = some (.int .u8 u[k].toNat)) ∧ Ext w1 wx) ⟨fun k h => bytes_cell _ u _ _ _ k h, Xt⟩ ?_
                rintro wx ⟨hcb, hxx⟩
                have Hcb := Lib.hid hcb
                have hx2 := hx.trans hxx
                clear hcb hcv
                go_loopg [10, 12, 81] 4 (fun g t10 _ i wr => ∃ q n : Nat, q ≤ 4 ∧ i = .int .i64 q ∧ g = 4 - q ∧ t10 = .int .i64 n ∧ n < 16 ^ q ∧ Hid (hexAcc (u.data.toList.drop q) n = H) ∧ wr = wx)
                case atStart => exact ⟨0, 0, by omega, rfl, rfl, rfl, by decide, Lib.hid HH.out, rfl⟩
                case round =>
                  obtain ⟨q, n, hq, rfl, rfl, rfl, hn, Hac, rfl⟩ := hrel
                  have hn4 : n < 65536 := Nat.lt_of_lt_of_le hn (by have := Nat.pow_le_pow_right (n := 16) (by omega) hq; simpa using this)
                  by_cases hq4 : q < 4
                  · have hqz : q < u.size := by omega
                    have d0 := Hcb.out q hqz
                    obtain ⟨x, hxe⟩ : ∃ x, u[q] = x := ⟨_, rfl⟩
                    rw [hxe] at d0
                    have hx256 := x.toNat_lt
                    have Hac := Lib.hid (show ((hexV x).bind fun d => hexAcc (u.data.toList.drop (q + 1)) (n * 16 + d)) = H by
                      rw [← Hac.out, show u.data.toList.drop q = x :: u.data.toList.drop (q + 1) from by rw [← hxe]; exact List.drop_eq_getElem_cons (by simpa using hqz)]
                      rfl)
                    have hq0 : (0 : Int) ≤ (q : Int) := by omega
                    have hq1 : (q : Int) < 4 := by omega
                    have hpow : n * 16 + 15 < 16 ^ (q + 1) := by rw [Nat.pow_succ]; omega
                    clear hxe
                    by_cases h1 : 48 ≤ x.toNat ∧ x.toNat ≤ 57
                    · have hw := u8sub x.toNat hx256 48 h1.1
                      obtain ⟨v, hv⟩ : ∃ v, x.toNat - 48 = v := ⟨_, rfl⟩
                      rw [hv] at hw
                      have hw : IntKind.u8.wrap ((x.toNat : Int) - 48) = (v : Int) := hw
                      have Hn := Lib.hid (show hexAcc (u.data.toList.drop (q + 1)) (n * 16 + v) = H by rw [← Hac.out, show hexV x = some v by unfold hexV; rw [if_pos h1, hv]]; rfl)
                      have b1 : (48 : Int) ≤ (x.toNat : Int) := by omega
                      have b2 : (x.toNat : Int) ≤ 57 := by omega
                      have hv15 : v < 16 := by omega
                      clear h1 hv Hac
                      go_wp2_with fail
                      go_roundg (4 - (q + 1))
                      case measure => omega
                      case rel => exact ⟨q + 1, n * 16 + v, by omega, by go_num, rfl, congrArg (Value.int .i64) (by omega), by omega, Hn, rfl⟩
                    have n1 : ¬ ((48 : Int) ≤ (x.toNat : Int) ∧ (x.toNat : Int) ≤ 57) := by omega
                    by_cases h2 : 97 ≤ x.toNat ∧ x.toNat ≤ 102
                    · have hw := u8sub x.toNat hx256 97 h2.1
                      obtain ⟨v, hv⟩ : ∃ v, x.toNat - 97 = v := ⟨_, rfl⟩
                      rw [hv] at hw
                      have hw : IntKind.u8.wrap ((x.toNat : Int) - 97) = (v : Int) := hw
                      have Hn := Lib.hid (show hexAcc (u.data.toList.drop (q + 1)) (n * 16 + (v + 10)) = H by rw [← Hac.out, show hexV x = some (v + 10) by unfold hexV; rw [if_neg (by omega), if_pos h2, ← hv]; congr 1; omega]; rfl)
                      have b0 : (48 : Int) ≤ (x.toNat : Int) := by omega
                      have b0' : ¬ (x.toNat : Int) ≤ 57 := by omega
                      have b1 : (97 : Int) ≤ (x.toNat : Int) := by omega
                      have b2 : (x.toNat : Int) ≤ 102 := by omega
                      have hv15 : v < 6 := by omega
                      clear h1 h2 n1 hv Hac
                      go_wp2_with fail
                      go_roundg (4 - (q + 1))
                      case measure => omega
                      case rel => exact ⟨q + 1, n * 16 + (v + 10), by omega, by go_num, rfl, congrArg (Value.int .i64) (by omega), by omega, Hn, rfl⟩
                    by_cases h3 : 65 ≤ x.toNat ∧ x.toNat ≤ 70
                    · have hw := u8sub x.toNat hx256 65 h3.1
                      obtain ⟨v, hv⟩ : ∃ v, x.toNat - 65 = v := ⟨_, rfl⟩
                      rw [hv] at hw
                      have hw : IntKind.u8.wrap ((x.toNat : Int) - 65) = (v : Int) := hw
                      have Hn := Lib.hid (show hexAcc (u.data.toList.drop (q + 1)) (n * 16 + (v + 10)) = H by rw [← Hac.out, show hexV x = some (v + 10) by unfold hexV; rw [if_neg (by omega), if_neg (by omega), if_pos h3, ← hv]; congr 1; omega]; rfl)
                      have b0 : (48 : Int) ≤ (x.toNat : Int) := by omega
                      have b0' : ¬ (x.toNat : Int) ≤ 57 := by omega
                      have b0'' : ¬ (97 : Int) ≤ (x.toNat : Int) := by omega
                      have b1 : (65 : Int) ≤ (x.toNat : Int) := by omega
                      have b2 : (x.toNat : Int) ≤ 70 := by omega
                      have hv15 : v < 6 := by omega
                      clear h1 h2 h3 n1 hv Hac
                      go_wp2_with fail
                      go_roundg (4 - (q + 1))
                      case measure => omega
                      case rel => exact ⟨q + 1, n * 16 + (v + 10), by omega, by go_num, rfl, congrArg (Value.int .i64) (by omega), by omega, Hn, rfl⟩
                    have HHn : H = none := by rw [← Hac.out, show hexV x = none by unfold hexV; rw [if_neg h1, if_neg h2, if_neg h3]]; rfl
                    have HRn := Lib.hid (show R = none by rw [← HR.out, HHn]; rfl)
                    clear HHn Hac HR HH n1
                    by_cases g1 : 48 ≤ x.toNat
                    · have b1 : (48 : Int) ≤ (x.toNat : Int) := by omega
                      have b2 : ¬ (x.toNat : Int) ≤ 57 := by omega
                      by_cases g2 : 97 ≤ x.toNat
                      · have b3 : (97 : Int) ≤ (x.toNat : Int) := by omega
                        have b4 : ¬ (x.toNat : Int) ≤ 102 := by omega
                        have b5 : (65 : Int) ≤ (x.toNat : Int) := by omega
                        have b6 : ¬ (x.toNat : Int) ≤ 70 := by omega
                        clear h1 h2 h3 g1 g2
                        go_wp2_with fail
                        (with_reducible apply bp_ret); (focus (go_light; simp [results, Tryz.results103, go_sem, *]; rfl))
                        exact ⟨Xt, _, _, rfl, by rw [HRn.out]⟩
                      · have b3 : ¬ (97 : Int) ≤ (x.toNat : Int) := by omega
                        by_cases g3 : 65 ≤ x.toNat
                        · have b5 : (65 : Int) ≤ (x.toNat : Int) := by omega
                          have b6 : ¬ (x.toNat : Int) ≤ 70 := by omega
                          clear h1 h2 h3 g1 g2 g3
                          go_wp2_with fail
                          (with_reducible apply bp_ret); (focus (go_light; simp [results, Tryz.results103, go_sem, *]; rfl))
                          exact ⟨Xt, _, _, rfl, by rw [HRn.out]⟩
                        · have b5 : ¬ (65 : Int) ≤ (x.toNat : Int) := by omega
                          clear h1 h2 h3 g1 g2 g3
                          go_wp2_with fail
                          (with_reducible apply bp_ret); (focus (go_light; simp [results, Tryz.results103, go_sem, *]; rfl))
                          exact ⟨Xt, _, _, rfl, by rw [HRn.out]⟩
                    · have b1 : ¬ (48 : Int) ≤ (x.toNat : Int) := by omega
                      have b3 : ¬ (97 : Int) ≤ (x.toNat : Int) := by omega
                      have b5 : ¬ (65 : Int) ≤ (x.toNat : Int) := by omega
                      clear h1 h2 h3 g1
                      go_wp2_with fail
                      (with_reducible apply bp_ret); (focus (go_light; simp [results, Tryz.results103, go_sem, *]; rfl))
                      exact ⟨Xt, _, _, rfl, by rw [HRn.out]⟩
                  · obtain rfl : q = 4 := by omega
                    have HHn : H = some n := by rw [← Hac.out, List.drop_of_length_le (by rw [Hul.out, List.length_take]; omega)]; rfl
                    by_cases h127 : n < 128
                    · have h127i : ¬ (127 : Int) < (n : Int) := by omega
                      obtain ⟨ch, rfl⟩ : ∃ ch : UInt8, ch.toNat = n := ⟨UInt8.ofNat n, by simp; omega⟩
                      have hwn : IntKind.u8.wrap (ch.toNat : Int) = ch.toNat := by have := u8sub ch.toNat ch.toNat_lt 0 (by omega); simpa using this
                      have HRn := Lib.hid (show textL (s.size - (k2 + 5) + 1) (fromB s (k2 + 5)) (bs ++ [ch]) = R by
                        rw [← HR.out, HHn]
                        simp only [Option.map_some, Option.bind_some]
                        rw [if_pos h127, show UInt8.ofNat ch.toNat = ch by simp]
                        exact textL_fuel _ _ _ _ (by rw [from_len]; omega) (by rw [from_len]; omega))
                      clear HHn HR HH Hac h127 hn
                      go_wp2_with (at_builtin; refine wpl_app (by rfl) _ _ _ (by rfl) (by rfl) w.heap.size (.slice a0 bs.length c0) bs (by rfl) (HO.out.ext Xt) ⟨(wr).heap.size, 0, none⟩ 1 1 [ch] (by rfl) (by rfl) (World.news_of_block (cs := #[.int .u8 (ch).toNat]) (t := 5) (fr := (0, 0)) (heap_alloc_new wr _)) (by omega) (by have := Ext.size hx2; simp; omega) ?_; intro v7 w7 hown7 hgrow7; have hx7 : Ext w w7 := Ext.grown (Ext.trans hx2 (show Ext wr _ from Xt)) hgrow7 (fun g hg => (HO.out.lt g hg).1); obtain ⟨a7, c7, rfl, -⟩ := hown7.form; have Hown7 := Lib.hid hown7; clear hown7 hgrow7)
                      go_roundg (s.size - (k2 + 5))
                      case measure => omega
                      case rel => exact ⟨k2 + 5, bs ++ [ch], a7, c7, by go_num, by omega, by omega, rfl, by simp, Hown7, by simp; omega, HRn, hx7⟩
                    · have h127i : (127 : Int) < (n : Int) := by omega
                      have HRn := Lib.hid (show R = none by
                        rw [← HR.out, HHn]
                        simp only [Option.map_some, Option.bind_some]
                        rw [if_neg h127])
                      clear HHn HR HH Hac h127
                      go_wp2_with fail
                      (with_reducible apply bp_ret); (focus (go_light; simp [results, Tryz.results103, go_sem, *]; rfl))
                      exact ⟨Xt, _, _, rfl, by rw [HRn.out]⟩
              · have hge4 : (s.size : Int) ≤ (k2 : Int) + 4 := by omega
                have hbad : R = none := by rw [← HR.out, hex4_shortR (by rw [from_len]; omega)]; rfl
                clear HR
                have HRn := Lib.hid hbad
                clear hbad
                go_wp2_with fail
                (refine (Tryz.strings_IndexByte _ _ _).mono ?_); rintro e w1 ⟨rfl, rfl⟩
                rw [hdu, Hix.out]
                go_wp2_with fail
                (with_reducible apply bp_ret); (focus (go_light; simp [results, Tryz.results103, go_sem, *]; rfl))
                exact ⟨Xt, _, _, rfl, by rw [HRn.out]⟩
            · have bu : ((d.toNat : Int) != 117) = true := by simpa using hu
              have hbad : R = none := by rw [← HR.out, if_neg (fun h => hu (by rw [h]; rfl))]; rfl
              clear HR
              have HRn := Lib.hid hbad
              clear hbad
              go_wp2_with fail
              (refine (Tryz.strings_IndexByte _ _ _).mono ?_); rintro e w1 ⟨rfl, rfl⟩
              rw [hdu, Hix.out]
              go_wp2_with fail
              (with_reducible apply bp_ret); (focus (go_light; simp [results, Tryz.results103, go_sem, *]; rfl))
              exact ⟨Xt, _, _, rfl, by rw [HRn.out]⟩
        · have hge : (s.size : Int) ≤ (k2 : Int) := by omega
          have hbad : R = none := by rw [← HR.out, from_end (by omega)]; rfl
          clear HR
          have HRn := Lib.hid hbad
          clear hbad
          go_wp2_with fail
          (with_reducible apply bp_ret); (focus (go_light; simp [results, Tryz.results103, go_sem, *]; rfl))
          exact ⟨Xt, _, _, rfl, by rw [HRn.out]⟩
      · have b92 : ((c.toNat : Int) != 92) = true := by simpa using h92
        have HR := Lib.hid (show textL (s.size - (k + 1) + 1) (fromB s (k + 1)) (bs ++ [c]) = R by
          rw [← HR.out, text_plain (by omega) (by omega) (fun h => h34 (by rw [h]; rfl)) (fun h => h92 (by rw [h]; rfl)), show s.size - (k + 1) + 1 = s.size - k by omega])
        clear h34 h92
        go_wp2_with (at_builtin; refine wpl_app (by rfl) _ _ _ (by rfl) (by rfl) w.heap.size (.slice a0 bs.length c0) bs (by rfl) (HO.out.ext Xt) ⟨(wr).heap.size, 0, none⟩ 1 1 [c] (by rfl) (by rfl) (World.news_of_block (cs := #[.int .u8 (c).toNat]) (t := 5) (fr := (0, 0)) (heap_alloc_new wr _)) (by omega) (by have := Ext.size hx; simp; omega) ?_; intro v7 w7 hown7 hgrow7; have hx7 : Ext w w7 := Ext.grown (Ext.trans hx (show Ext wr _ from Xt)) hgrow7 (fun g hg => (HO.out.lt g hg).1); obtain ⟨a7, c7, rfl, -⟩ := hown7.form; have Hown7 := Lib.hid hown7; clear hown7 hgrow7)
        go_roundg (s.size - (k + 1))
        case measure => omega
        case rel => exact ⟨k + 1, bs ++ [c], a7, c7, by go_num, by omega, by omega, rfl, by simp, Hown7, by simp; omega, HR, hx7⟩
    · have hki : ¬ (k : Int) < (s.size : Int) := by omega
      have hbad : R = none := by rw [← HR.out, from_end (by omega)]; rfl
      clear HR
      have HRn := Lib.hid hbad
      clear hbad
      go_wp2_with fail
      (with_reducible apply bp_ret); (focus (go_light; simp [results, Tryz.results103, go_sem, *]; rfl))
      exact ⟨Xt, _, _, rfl, by rw [HRn.out]⟩
end Go.Proofs.YtjibdbnpkfghhaaGreatDoor
