/- The walk of the reference's SplitPath. -/
import Derived.Test.YtnbappeiebameaaGreatDoorPkE
import Derived.Test.YtnbappeiebameaaGreatDoorScanP
import Derived.Laws.Concat
set_option linter.all false
namespace Go.Proofs.YtnbappeiebameaaGreatDoor
open Go.RowKit

theorem scan_slash (r now : List UInt8) : scanL (47 :: r) now = (scanL r []).map (now :: ·) := by rw [scan_eq, scan_eq, scanS_slash]
theorem scan_plain {x : UInt8} (h47 : x ≠ 47) (h126 : x ≠ 126) (r now : List UInt8) : scanL (x :: r) now = scanL r (now ++ [x]) := by rw [scan_eq, scan_eq, scanS_plain h47 h126]
theorem scan_48 (r now : List UInt8) : scanL (126 :: 48 :: r) now = scanL r (now ++ [126]) := by rw [scan_eq, scan_eq, scanS_esc (.inl ⟨rfl, rfl⟩)]
theorem scan_49 (r now : List UInt8) : scanL (126 :: 49 :: r) now = scanL r (now ++ [47]) := by rw [scan_eq, scan_eq, scanS_esc (.inr ⟨rfl, rfl⟩)]
theorem scan_bad {y : UInt8} (h0 : y ≠ 48) (h1 : y ≠ 49) (r now : List UInt8) : scanL (126 :: y :: r) now = none := by rw [scan_eq, scanS_bad h0 h1]
theorem scan_last (now : List UInt8) : scanL [126] now = none := by rw [scan_eq, scanS_last]
theorem scan_end (now : List UInt8) : scanL [] now = some [now] := rfl
theorem drop_byte {p : ByteArray} {i : Nat} (h : i < p.size) : p.data.toList.drop i = p[i] :: p.data.toList.drop (i + 1) := by
  rw [List.drop_eq_getElem_cons (by simpa using h)]
  rfl
theorem cut_one {p : ByteArray} {i : Nat} (h : i < p.size) : (p.extract i (i + 1)).data.toList = [p[i]] := by
  have h' : i < p.data.toList.length := by simpa using h
  rw [Lib.extract_data, show i + 1 - i = 1 from by omega, List.drop_eq_getElem_cons h']
  rfl
theorem byte_ne {c : UInt8} {n : Nat} (hn : n < 256) (h : ¬ (c.toNat : Int) = n) : c ≠ UInt8.ofNat n := by
  intro e; subst e; exact h (by simp; omega)

/-- What has been read so far. -/
def ScanTo (p : ByteArray) (i : Nat) (nm : ByteArray) (ks : List ByteArray) : Prop := (scanL (p.data.toList.drop i) nm.data.toList).map (ks.map (·.data.toList) ++ ·) = namesL p.data.toList

set_option maxRecDepth 100000 in
set_option maxHeartbeats 8000000 in
theorem splitPath_loop (p : ByteArray) (r : List UInt8) (hp : p.data.toList = 47 :: r) (hs : p.size ≤ 2000) (w : World) : Calls Tryz.prog 72 #[.string p] w (RetNames (namesL p.data.toList) w) := by
  have hsz : p.size = r.length + 1 := by
    have : p.size = p.data.toList.length := Array.length_toList.symm
    rw [this, hp]; rfl
  have hnames := names_scan r (by simp; omega)
  rw [← hp] at hnames
  have h1 : p.toList.isEmpty = false := by rw [ByteArray.toList_eq, hp]; rfl
  have h2 : ¬ p.toList = [] := by rw [ByteArray.toList_eq, hp]; simp
  have hp0 : 0 < p.size := by omega
  have hp00 : (0 : Int) < (p.size : Int) := by omega
  have hb0 : (p[0].toNat : Int) = 47 := by
    have := byte_get hp0
    rw [hp] at this
    simp only [List.getElem?_cons_zero, Option.some.injEq] at this
    rw [← this]; rfl
  have hb1 : ((p[0].toNat : Int) == 47) = true := by simpa using hb0
  have hb2 : ((p[0].toNat : Int) != 47) = false := by simpa using hb0
  have hs1 : ¬ (2000 : Int) < (p.size : Int) := by omega
  have hs2 : (p.size : Int) ≤ 2000 := by omega
  have H0 := Lib.hid (show ScanTo p 1 ⟨#[]⟩ [] by
    unfold ScanTo
    rw [hnames, hp]
    simp)
  obtain ⟨i0, hi, hz0, hz1, hz2'⟩ := info_parts Tryz.infoS
  clear hnames hp
  go_enter Tryz.func72, Tryz.ntmps72
  go_wp2_with fail
  go_loopg [4, 5, 6] (p.size - 1) (fun g t4 t5 t6 wr => ∃ (i : Nat) (nm : ByteArray) (a2 : Option Addr) (c2 k : Nat) (ks : List ByteArray), 1 ≤ i ∧ i ≤ p.size ∧ t6 = .int .i64 i ∧ g = p.size - i ∧ t5 = .string nm ∧ t4 = .slice a2 k c2 ∧ nm.size ≤ i ∧ k ≤ i ∧ ks.length = k ∧ ScanTo p i nm ks ∧
    wr.ownsRow w.heap.size 9 1 (.slice a2 k c2) k (ks.map Value.string) ∧ Ext w wr)
  case atStart => exact ⟨1, ⟨#[]⟩, none, 0, 0, [], by omega, by omega, rfl, rfl, rfl, rfl, by decide, by omega, rfl, H0.out, World.ownsRow_nil _ _ _ _, Ext.refl _⟩
  case round =>
    obtain ⟨i, nm, a2, c2, k, ks, hi1, hil, rfl, rfl, rfl, rfl, hnz, hki, hkl, hsc, hown, hx⟩ := hrel
    have Hsc := Lib.hid hsc
    have Hown := Lib.hid hown
    clear hsc hown hb0 hb1 hb2
    have hi00 : (0 : Int) ≤ (i : Int) := by omega
    by_cases hlt : i < p.size
    · have hlt' : (i : Int) < (p.size : Int) := by omega
      have Hd := Lib.hid (drop_byte hlt)
      have hszr := hx.size
      by_cases c47 : (p[i].toNat : Int) = 47
      · have c47b : ((p[i].toNat : Int) == 47) = true := by simpa using c47
        have H47 := Lib.hid (byte_of (n := 47) (by omega) c47)
        go_wp2_with ((at_builtin; refine wpList_append_lies _ (by rfl) _ _ 22 (by rfl) w.heap.size 9 i0 _ 1 16 Tryz.underlying22 hi hz0 hz1 hz2' rfl (by decide) (.slice a2 k c2) k (ks.map Value.string) (by rfl) (Hown.out.alloc _) ⟨wr.heap.size, 0, none⟩ 1 1 [.string nm] (by rfl) (by rfl) (World.news_of_block (cs := #[.string nm]) (t := 9) (fr := (0, 0)) (heap_alloc_new wr _)) (by simp [Value.oneCell']) (by omega) (by unfold maxLen; omega) (by omega) (by simp; omega) _ rfl ?_; intro g6 cap6 w6 hown6 hgrow6 hat6 hlt6; have Hgrow := Lib.hid hgrow6; have Hown6 := Lib.hid hown6; clear hgrow6 hown6 hat6))
        have hx6 : Ext w w6 := Ext.grown (b := wr.alloc _) Xt Hgrow.out (fun g hg => (Hown.out.lt g hg).1)
        go_roundg (p.size - (i + 1))
        case measure => omega
        case rel =>
          refine ⟨i + 1, ⟨#[]⟩, _, _, k + 1, ks ++ [nm], by omega, by omega, by go_num, rfl, rfl, rfl, Nat.zero_le _, by omega, by simp [hkl], ?_, by rw [List.map_append]; exact Hown6.out, hx6⟩
          have h := Hsc.out
          unfold ScanTo at h ⊢
          rw [Hd.out, H47.out] at h
          have h := (congrArg _ (scan_slash _ _)).symm.trans h
          rw [Option.map_map] at h
          rw [← h]
          simp [Function.comp_def]
      · have c47b : ((p[i].toNat : Int) == 47) = false := by simpa using c47
        have Hn47 := Lib.hid (byte_ne (n := 47) (by omega) c47)
        by_cases c126 : (p[i].toNat : Int) = 126
        · have c126b : ((p[i].toNat : Int) != 126) = false := by simpa using c126
          have c126c : ((p[i].toNat : Int) == 126) = true := by simpa using c126
          have H126 := Lib.hid (byte_of (n := 126) (by omega) c126)
          have cc2 : ¬ nm.size + (⟨#[126]⟩ : ByteArray).size > 9223372036854775807 := by
            have : (⟨#[126]⟩ : ByteArray).size = 1 := rfl
            omega
          have cc3 : ¬ nm.size + (⟨#[47]⟩ : ByteArray).size > 9223372036854775807 := by
            have : (⟨#[47]⟩ : ByteArray).size = 1 := rfl
            omega
          have hi4 : (0 : Int) ≤ (i : Int) + 1 := by omega
          by_cases e : i + 1 < p.size
          · have e' : (i : Int) + 1 < (p.size : Int) := by omega
            have Hd2 := Lib.hid (drop_byte e)
            by_cases z : (p[i + 1].toNat : Int) = 48
            · have zb : ((p[i + 1].toNat : Int) == 48) = true := by simpa using z
              have Hz := Lib.hid (byte_of (n := 48) (by omega) z)
              go_wp2_with fail
              go_roundg (p.size - (i + 2))
              case measure => omega
              case rel =>
                refine ⟨i + 2, nm ++ ⟨#[126]⟩, a2, c2, k, ks, by omega, by omega, by go_num, rfl, rfl, rfl, by rw [ByteArray.size_append]; have : (⟨#[126]⟩ : ByteArray).size = 1 := rfl; omega, by omega, hkl, ?_, Hown.out, hx⟩
                have h := Hsc.out
                unfold ScanTo at h ⊢
                rw [Hd.out, Hd2.out, H126.out, Hz.out] at h
                have h := (congrArg _ (scan_48 _ _)).symm.trans h
                rw [ByteArray.data_append, Array.toList_append]
                exact h
            · have zb : ((p[i + 1].toNat : Int) == 48) = false := by simpa using z
              have Hnz := Lib.hid (byte_ne (n := 48) (by omega) z)
              by_cases o : (p[i + 1].toNat : Int) = 49
              · have ob : ((p[i + 1].toNat : Int) == 49) = true := by simpa using o
                have Ho := Lib.hid (byte_of (n := 49) (by omega) o)
                go_wp2_with fail
                go_roundg (p.size - (i + 2))
                case measure => omega
                case rel =>
                  refine ⟨i + 2, nm ++ ⟨#[47]⟩, a2, c2, k, ks, by omega, by omega, by go_num, rfl, rfl, rfl, by rw [ByteArray.size_append]; have : (⟨#[47]⟩ : ByteArray).size = 1 := rfl; omega, by omega, hkl, ?_, Hown.out, hx⟩
                  have h := Hsc.out
                  unfold ScanTo at h ⊢
                  rw [Hd.out, Hd2.out, H126.out, Ho.out] at h
                  have h := (congrArg _ (scan_49 _ _)).symm.trans h
                  rw [ByteArray.data_append, Array.toList_append]
                  exact h
              · have ob : ((p[i + 1].toNat : Int) == 49) = false := by simpa using o
                have Hno := Lib.hid (byte_ne (n := 49) (by omega) o)
                go_wp2_with fail
                go_ret2
                refine .inr ⟨?_, rfl, Xt⟩
                have h := Hsc.out
                unfold ScanTo at h
                rw [Hd.out, Hd2.out, H126.out] at h
                have h := (congrArg _ (scan_bad Hnz.out Hno.out _ _)).symm.trans h
                exact h.symm
          · have e' : (p.size : Int) ≤ (i : Int) + 1 := by omega
            have Hd2 := Lib.hid (show p.data.toList.drop (i + 1) = [] from List.drop_eq_nil_of_le (by rw [Array.length_toList]; exact Nat.le_of_not_lt e))
            go_wp2_with fail
            go_ret2
            refine .inr ⟨?_, rfl, Xt⟩
            have h := Hsc.out
            unfold ScanTo at h
            rw [Hd.out, Hd2.out, H126.out] at h
            have h := (congrArg _ (scan_last _)).symm.trans h
            exact h.symm
        · have c126b : ((p[i].toNat : Int) != 126) = true := by simpa using c126
          have c126c : ((p[i].toNat : Int) == 126) = false := by simpa using c126
          have Hn126 := Lib.hid (byte_ne (n := 126) (by omega) c126)
          have he : (p.extract i (i + 1)).size = 1 := by
            have e1 : (p.extract i (i + 1)).size = (p.extract i (i + 1)).data.toList.length := Array.length_toList.symm
            rw [e1, cut_one hlt]; rfl
          have c1 : ¬ nm.size + (p.extract i (i + 1)).size > 9223372036854775807 := by rw [he]; omega
          have hi2 : (i : Int) + 1 ≤ (p.size : Int) := by omega
          have hi3 : (i : Int) ≤ (i : Int) + 1 := by omega
          have hi4 : (0 : Int) ≤ (i : Int) + 1 := by omega
          go_wp2_with fail
          go_roundg (p.size - (i + 1))
          case measure => omega
          case rel =>
            refine ⟨i + 1, nm ++ p.extract i (i + 1), a2, c2, k, ks, by omega, by omega, by go_num, rfl, ?_, rfl, by rw [ByteArray.size_append, he]; omega, by omega, hkl, ?_, Hown.out, hx⟩
            · rfl
            · have h := Hsc.out
              unfold ScanTo at h ⊢
              rw [Hd.out, scan_plain Hn47.out Hn126.out] at h
              rw [ByteArray.data_append, Array.toList_append, cut_one hlt]
              exact h
    · obtain rfl : i = p.size := by omega
      have Hd := Lib.hid (show p.data.toList.drop p.size = [] from List.drop_eq_nil_of_le (by rw [Array.length_toList]; exact Nat.le_refl _))
      have hszr := hx.size
      go_wp2_with ((at_builtin; refine wpList_append_lies _ (by rfl) _ _ 22 (by rfl) w.heap.size 9 i0 _ 1 16 Tryz.underlying22 hi hz0 hz1 hz2' rfl (by decide) (.slice a2 k c2) k (ks.map Value.string) (by rfl) (Hown.out.alloc _) ⟨wr.heap.size, 0, none⟩ 1 1 [.string nm] (by rfl) (by rfl) (World.news_of_block (cs := #[.string nm]) (t := 9) (fr := (0, 0)) (heap_alloc_new wr _)) (by simp [Value.oneCell']) (by omega) (by unfold maxLen; omega) (by omega) (by simp; omega) _ rfl ?_; intro g6 cap6 w6 hown6 hgrow6 hat6 hlt6; have Hgrow := Lib.hid hgrow6; have Hown6 := Lib.hid hown6; clear hgrow6 hown6 hat6))
      have hx6 : Ext w w6 := Ext.grown (b := wr.alloc _) Xt Hgrow.out (fun g hg => (Hown.out.lt g hg).1)
      go_ret2
      obtain ⟨a4, c4, he4, hok4, -, hst⟩ := OwnS.strs (base := w.heap.size) (ks := ks ++ [nm]) (n := k + 1) ⟨by simp [hkl], by rw [List.map_append]; exact Hown6.out⟩
      simp only [Value.slice.injEq, true_and] at he4
      obtain ⟨rfl, rfl⟩ := he4
      refine .inl ⟨(ks ++ [nm]).map (·.data.toList), _, k + 1, _, ks ++ [nm], ?_, rfl, by simp [hkl], rfl, hok4, hst, hx6⟩
      have h := Hsc.out
      unfold ScanTo at h
      rw [Hd.out, scan_end] at h
      rw [← h]
      simp
set_option maxHeartbeats 1000000 in
theorem splitPath_none (p : ByteArray) (w : World) (hps : p.size ≤ 1073741824) (h0 : p.data.toList = [] ∨ (p.data.toList ≠ [] ∧ ¬ (Lib.hasPrefix p.data.toList [47] = true ∧ p.size ≤ 2000))) :
    Calls Tryz.prog 72 #[.string p] w (RetNames (namesL p.data.toList) w) := by
  rcases h0 with h | ⟨h, hb⟩
  · have hp : p = ⟨#[]⟩ := by obtain ⟨⟨l⟩⟩ := p; simp only at h; subst h; rfl
    subst hp
    go_enter Tryz.func72, Tryz.ntmps72
    go_wp2_with fail
    go_ret2
    exact .inl ⟨[], none, 0, 0, [], rfl, rfl, rfl, rfl, SlOk.nil, .inl rfl, Xt⟩
  · have hn := names_bad1 h hb
    have h1 : p.toList.isEmpty = false := by rw [ByteArray.toList_eq]; cases hq : p.data.toList with | nil => exact absurd hq h | cons => rfl
    have h2 : ¬ p.toList = [] := by rw [ByteArray.toList_eq]; exact h
    have hp0 : 0 < p.size := by
      have e1 : p.size = p.data.toList.length := Array.length_toList.symm
      rw [e1]; exact List.length_pos_iff.2 h
    have hp00 : (0 : Int) < (p.size : Int) := by omega
    rw [hn]
    clear hn
    by_cases c : (p[0].toNat : Int) = 47
    · have cb : ((p[0].toNat : Int) != 47) = false := by simpa using c
      have cc : ((p[0].toNat : Int) == 47) = true := by simpa using c
      have hs : (2000 : Int) < (p.size : Int) := by
        have : ¬ p.size ≤ 2000 := fun h3 => hb ⟨by
          have e := drop_byte hp0
          simp only [List.drop_zero] at e
          rw [e, byte_of (n := 47) (by omega) c]
          simp [Lib.hasPrefix, List.isPrefixOf], h3⟩
        omega
      clear hb c
      go_enter Tryz.func72, Tryz.ntmps72
      go_wp2_with fail
      go_ret2
      exact .inr ⟨rfl, rfl, Xt⟩
    · have cb : ((p[0].toNat : Int) != 47) = true := by simpa using c
      have cc : ((p[0].toNat : Int) == 47) = false := by simpa using c
      clear hb c
      go_enter Tryz.func72, Tryz.ntmps72
      go_wp2_with fail
      go_ret2
      exact .inr ⟨rfl, rfl, Xt⟩
theorem splitPath_any (p : ByteArray) (hs : p.size ≤ 1073741824) (w : World) : Calls Tryz.prog 72 #[.string p] w (RetNames (namesL p.data.toList) w) := by
  by_cases h : Lib.hasPrefix p.data.toList [47] = true ∧ p.size ≤ 2000
  · cases hp : p.data.toList with
    | nil => rw [hp] at h; simp [Lib.hasPrefix, List.isPrefixOf] at h
    | cons c r =>
      have hc : c = 47 := by
        have := h.1
        rw [hp] at this
        simp [Lib.hasPrefix, List.isPrefixOf] at this
        exact this.symm
      subst hc
      rw [← hp]
      exact splitPath_loop p r hp h.2 w
  · refine splitPath_none p w hs ?_
    by_cases h0 : p.data.toList = []
    · exact .inl h0
    · exact .inr ⟨h0, h⟩

end Go.Proofs.YtnbappeiebameaaGreatDoor
