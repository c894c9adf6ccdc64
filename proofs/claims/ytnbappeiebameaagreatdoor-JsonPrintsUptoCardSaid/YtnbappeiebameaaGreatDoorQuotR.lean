/- The walk of the reference's quoted. -/
import Derived.Test.YtnbappeiebameaaGreatDoorDecR
import Derived.Test.YtnbappeiebameaaGreatDoorRef1
import Derived.Test.YtnbappeiebameaaGreatDoorPkB
import Derived.Test.YtnbappeiebameaaGreatDoorShelf
set_option linter.all false
namespace Go.Proofs.YtnbappeiebameaaGreatDoor
open Go.RowKit
attribute [local go_sem ↓] Go.wp_at_zero Go.wp_at_succ

abbrev specQ : List UInt8 := [34, 92, 8, 12, 10, 13, 9]
abbrev lettQ : ByteArray := ⟨#[34, 92, 98, 102, 110, 114, 116]⟩
abbrev hexQ : ByteArray := ⟨#[48, 49, 50, 51, 52, 53, 54, 55, 56, 57, 97, 98, 99, 100, 101, 102]⟩
theorem ix_esc : ∀ n : Nat, n < 128 → (∃ m : Nat, m < 7 ∧ Lib.indexByte specQ (UInt8.ofNat n) = (m : Int) ∧ escC (UInt8.ofNat n) = 92 :: (lettQ.extract m (m + 1)).data.toList ∧ (lettQ.extract m (m + 1)).size = 1) ∨
    (Lib.indexByte specQ (UInt8.ofNat n) = -1 ∧ (32 ≤ n ∧ n < 127 → escC (UInt8.ofNat n) = [UInt8.ofNat n]) ∧ (¬ (32 ≤ n ∧ n < 127) → escC (UInt8.ofNat n) = [92, 117, 48, 48] ++ ((hexQ.extract (n / 16) (n / 16 + 1)).data.toList ++ (hexQ.extract (n % 16) (n % 16 + 1)).data.toList))) := by decide +kernel
theorem wrap_hex : ∀ n : Nat, n < 17 → IntKind.u8.wrap (n : Int) = n := by decide +kernel
theorem hexQ_one : ∀ n : Nat, n < 16 → (hexQ.extract n (n + 1)).size = 1 := by decide +kernel
theorem quoteR_step {s acc e : ByteArray} {k : Nat} (h : k < s.size) (ha : acc.data.toList ++ ((s.data.toList.drop k).flatMap escC ++ [34]) = quoteL s.data.toList) (hE : escC s[k] = e.data.toList) : (acc ++ e).data.toList ++ ((s.data.toList.drop (k + 1)).flatMap escC ++ [34]) = quoteL s.data.toList := by
  rw [← ha, show s.data.toList.drop k = s[k] :: s.data.toList.drop (k + 1) from List.drop_eq_getElem_cons (by simpa using h)]
  simp [hE]
set_option maxRecDepth 100000 in
set_option maxHeartbeats 4000000 in
theorem quotedR_any (s : ByteArray) (w : World) (hs : s.size ≤ 1073741824) (hp : Hid (∀ c ∈ s.data.toList, c.toNat < 128)) : Calls Tryz.prog 160 #[.string s] w fun e w' => ∃ q : ByteArray, e = .returned (.string q) ∧ q.data.toList = quoteL s.data.toList ∧ Ext w w' := by
  have hcv := fun w => run_bytes_of_string (P := Tryz.prog) w 9 99 5 s Tryz.underlying9 Tryz.underlying99 Tryz.underlying5
  go_enter Tryz.func160, Tryz.ntmps160
  go_wp2_with fail
  refine gen_world (R := fun wx => (∀ k (h : k < s.size), wx.cell? ⟨w.heap.size, k, none⟩ = some (.int .u8 s[k].toNat)) ∧ Ext w wx) ⟨fun k h => bytes_cell w.drew s _ _ _ k h, Xt⟩ ?_
  rintro wx ⟨hc, hx⟩
  have Hc := Lib.hid hc
  clear hc hcv
  go_loopg [3, 5, 6, 10] s.size (fun g t3 _ _ i wr => ∃ (k : Nat) (acc : ByteArray), k ≤ s.size ∧ i = .int .i64 k ∧ g = s.size - k ∧ t3 = .string acc ∧ Hid (acc.data.toList ++ ((s.data.toList.drop k).flatMap escC ++ [34]) = quoteL s.data.toList) ∧ acc.size ≤ 1 + 6 * k ∧ Ext wx wr)
  case atStart => exact ⟨0, ⟨#[34]⟩, by omega, rfl, rfl, rfl, Lib.hid (by simp [quoteL]), by decide, Ext.refl _⟩
  case round =>
    obtain ⟨k, acc, hk, rfl, rfl, rfl, Hacc, haz, hxr⟩ := hrel
    by_cases hlt : k < s.size
    · have d0 := hxr.cell (Hc.out k hlt)
      have hc128 := hp.out s[k] (by simp [ByteArray.getElem_eq_getElem_data])
      obtain ⟨n, hn⟩ : ∃ n : Nat, s[k].toNat = n := ⟨_, rfl⟩
      have hsn : s[k] = UInt8.ofNat n := by rw [← hn]; simp
      have Hsn := Lib.hid hsn
      rw [hn] at d0 hc128
      have hcu : ((n : Int)).toNat.toUInt8 = UInt8.ofNat n := by simp
      have Hx := Lib.hid (ix_esc n hc128)
      clear hsn hn
      rcases Hx.out with ⟨m, hm, hix, he, hz1⟩ | ⟨hix, he1, he2⟩
      · have Hix := Lib.hid hix
        have Hst := Lib.hid (quoteR_step (e := ⟨#[92]⟩ ++ lettQ.extract m (m + 1)) hlt Hacc.out (by rw [Hsn.out, he]; simp))
        have hm0 : (0 : Int) ≤ (m : Int) := by omega
        have hm1 : (m : Int) + 1 ≤ 7 := by omega
        have hmz : (⟨#[92]⟩ ++ lettQ.extract m (m + 1)).size = 2 := by rw [ByteArray.size_append, hz1]; rfl
        have hzz : (acc ++ (⟨#[92]⟩ ++ lettQ.extract m (m + 1)) : ByteArray).size ≤ 1 + 6 * (k + 1) := by rw [ByteArray.size_append]; omega
        clear hix he
        go_wp2_with fail
        (refine (Tryz.strings_IndexByte _ _ _).mono ?_); rintro e w1 ⟨rfl, rfl⟩
        rw [hcu, Hix.out]
        go_wp2_with fail
        go_roundg (s.size - (k + 1))
        case measure => omega
        case rel => exact ⟨k + 1, _, by omega, by go_num, rfl, rfl, Hst, hzz, Xt⟩
      · have Hix := Lib.hid hix
        by_cases hpr : 32 ≤ n ∧ n < 127
        · have Hst := Lib.hid (quoteR_step (e := ⟨#[UInt8.ofNat n]⟩) hlt Hacc.out (by rw [Hsn.out, he1 hpr]))
          have hp1 : (32 : Int) ≤ (n : Int) := by omega
          have hp2 : (n : Int) < 127 := by omega
          have hcv := fun w => run_one w (UInt8.ofNat n) 5
          rw [show (UInt8.ofNat n).toNat = n by simp; omega] at hcv
          clear hix he1 he2 hpr
          go_wp2_with fail
          (refine (Tryz.strings_IndexByte _ _ _).mono ?_); rintro e w1 ⟨rfl, rfl⟩
          rw [hcu, Hix.out]
          go_wp2_with fail
          go_roundg (s.size - (k + 1))
          case measure => omega
          case rel => exact ⟨k + 1, _, by omega, by go_num, rfl, rfl, Hst, by rw [ByteArray.size_append]; have : (⟨#[UInt8.ofNat n]⟩ : ByteArray).size = 1 := rfl; omega, Xt⟩
        · obtain ⟨n1, hn1⟩ : ∃ n1 : Nat, n / 16 = n1 := ⟨_, rfl⟩
          obtain ⟨n2, hn2⟩ : ∃ n2 : Nat, n % 16 = n2 := ⟨_, rfl⟩
          have l1 : n1 < 16 := by omega
          have l2 : n2 < 16 := by omega
          have Hst := Lib.hid (quoteR_step (e := (⟨#[92, 117, 48, 48]⟩ ++ hexQ.extract n1 (n1 + 1)) ++ hexQ.extract n2 (n2 + 1)) hlt Hacc.out (by rw [Hsn.out, he2 hpr, hn1, hn2]; simp))
          have hz1 := hexQ_one n1 l1
          have hz2 := hexQ_one n2 l2
          have hq1 : Int.tdiv (n : Int) 16 = (n1 : Int) := by rw [← hn1]; rfl
          have hq2 : Int.tmod (n : Int) 16 = (n2 : Int) := by rw [← hn2]; rfl
          have l1' : (n1 : Int) < 16 := by omega
          have l2' : (n2 : Int) < 16 := by omega
          have w1 := wrap_hex n1 (by omega)
          have w2 := wrap_hex n2 (by omega)
          have w3 : IntKind.u8.wrap ((n1 : Int) + 1) = (n1 : Int) + 1 := wrap_hex (n1 + 1) (by omega)
          have w4 : IntKind.u8.wrap ((n2 : Int) + 1) = (n2 : Int) + 1 := wrap_hex (n2 + 1) (by omega)
          have l3 : (n1 : Int) + 1 ≤ 16 := by omega
          have l4 : (n2 : Int) + 1 ≤ 16 := by omega
          have l5 : (n1 : Int) ≤ (n1 : Int) + 1 := by omega
          have l6 : (n2 : Int) ≤ (n2 : Int) + 1 := by omega
          have hbig : ¬ 9223372036854775807 < acc.size + 6 := by omega
          have l1z : (0 : Int) ≤ (n1 : Int) := by omega
          have l2z : (0 : Int) ≤ (n2 : Int) := by omega
          have hmz : ((⟨#[92, 117, 48, 48]⟩ ++ hexQ.extract n1 (n1 + 1)) ++ hexQ.extract n2 (n2 + 1) : ByteArray).size = 6 := by rw [ByteArray.size_append, ByteArray.size_append, hz1, hz2]; rfl
          have hzz : (acc ++ ((⟨#[92, 117, 48, 48]⟩ ++ hexQ.extract n1 (n1 + 1)) ++ hexQ.extract n2 (n2 + 1)) : ByteArray).size ≤ 1 + 6 * (k + 1) := by rw [ByteArray.size_append]; omega
          by_cases hp1 : (32 : Int) ≤ (n : Int)
          · have hp2 : ¬ (n : Int) < 127 := by omega
            clear hix he1 he2 hpr hn1 hn2
            go_wp2_with fail
            (refine (Tryz.strings_IndexByte _ _ _).mono ?_); rintro e w1 ⟨rfl, rfl⟩
            rw [hcu, Hix.out]
            go_upto_region 10 with fail
            refine wp_region_held_drew (S := fun _ => True) (by kernel_rfl) trivial (fun hHeld => ?_)
            (refine wpAnyH_take (i := 0) (v := ?_) (Array.getElem?_eq_getElem (by decide)) (by kernel_rfl) (by kernel_rfl) (by kernel_rfl) (fun _ _ _ h => h) (Or.inl ⟨by kernel_rfl, ?_⟩) (by assumption) ?_); rotate_left; (focus (intro w hSw; (try dsimp only at hSw); (try simp only [rl]); go_simp; (try with_reducible rfl))); (try simp only [rl])
            (refine wpAnyH_take (i := 1) (v := ?_) (Array.getElem?_eq_getElem (by decide)) (by kernel_rfl) (by kernel_rfl) (by kernel_rfl) (fun _ _ _ h => h) (Or.inl ⟨by kernel_rfl, ?_⟩) (by assumption) ?_); rotate_left; (focus (intro w hSw; (try dsimp only at hSw); (try simp only [rl]); go_simp; (try with_reducible rfl))); (try simp only [rl])
            (refine wpAnyH_take (i := 2) (v := ?_) (Array.getElem?_eq_getElem (by decide)) (by kernel_rfl) (by kernel_rfl) (by kernel_rfl) (fun _ _ _ h => h) (Or.inl ⟨by kernel_rfl, ?_⟩) (by assumption) ?_); rotate_left; (focus (intro w hSw; (try dsimp only at hSw); (try simp only [rl]); go_simp; (try with_reducible rfl))); (try simp only [rl])
            (refine wpAnyH_take (i := 3) (v := ?_) (Array.getElem?_eq_getElem (by decide)) (by kernel_rfl) (by kernel_rfl) (by kernel_rfl) (fun _ _ _ h => h) (Or.inl ⟨by kernel_rfl, ?_⟩) (by assumption) ?_); rotate_left; (focus (intro w hSw; (try dsimp only at hSw); (try simp only [rl]); go_simp; (try with_reducible rfl))); (try simp only [rl])
            (refine wpAnyH_take (i := 4) (v := ?_) (Array.getElem?_eq_getElem (by decide)) (by kernel_rfl) (by kernel_rfl) (by kernel_rfl) (fun _ _ _ h => h) (Or.inl ⟨by kernel_rfl, ?_⟩) (by assumption) ?_); rotate_left; (focus (intro w hSw; (try dsimp only at hSw); (try simp only [rl]); go_simp; (try with_reducible rfl))); (try simp only [rl])
            (refine wpAnyH_take (i := 5) (v := ?_) (Array.getElem?_eq_getElem (by decide)) (by kernel_rfl) (by kernel_rfl) (by kernel_rfl) (fun _ _ _ h => h) (Or.inl ⟨by kernel_rfl, ?_⟩) (by assumption) ?_); rotate_left; (focus (intro w hSw; (try dsimp only at hSw); (try simp only [rl]); go_simp; (try with_reducible rfl))); (try simp only [rl])
            (refine wpAnyH_take (i := 6) (v := ?_) (Array.getElem?_eq_getElem (by decide)) (by kernel_rfl) (by kernel_rfl) (by kernel_rfl) (fun _ _ _ h => h) (Or.inl ⟨by kernel_rfl, ?_⟩) (by assumption) ?_); rotate_left; (focus (intro w hSw; (try dsimp only at hSw); (try simp only [rl]); go_simp; (try with_reducible rfl))); (try simp only [rl])
            (refine wpAnyH_take (i := 7) (v := ?_) (Array.getElem?_eq_getElem (by decide)) (by kernel_rfl) (by kernel_rfl) (by kernel_rfl) (fun _ _ _ h => h) (Or.inl ⟨by kernel_rfl, ?_⟩) (by assumption) ?_); rotate_left; (focus (intro w hSw; (try dsimp only at hSw); (try simp only [rl]); go_simp; (try with_reducible rfl))); (try simp only [rl])
            (refine wpAnyH_take (i := 8) (v := ?_) (Array.getElem?_eq_getElem (by decide)) (by kernel_rfl) (by kernel_rfl) (by kernel_rfl) (fun _ _ _ h => h) (Or.inl ⟨by kernel_rfl, ?_⟩) (by assumption) ?_); rotate_left; (focus (intro w hSw; (try dsimp only at hSw); (try simp only [rl]); go_simp; (try with_reducible rfl))); (try simp only [rl])
            (refine wpAnyH_take (i := 9) (v := ?_) (Array.getElem?_eq_getElem (by decide)) (by kernel_rfl) (by kernel_rfl) (by kernel_rfl) (fun _ _ _ h => h) (Or.inl ⟨by kernel_rfl, ?_⟩) (by assumption) ?_); rotate_left; (focus (intro w hSw; (try dsimp only at hSw); (try simp only [rl]); go_simp; (try with_reducible rfl))); (try simp only [rl])
            (refine wpAnyH_take (i := 10) (v := ?_) (Array.getElem?_eq_getElem (by decide)) (by kernel_rfl) (by kernel_rfl) (by kernel_rfl) (fun _ _ _ h => h) (Or.inl ⟨by kernel_rfl, ?_⟩) (by assumption) ?_); rotate_left; (focus (intro w hSw; (try dsimp only at hSw); (try simp only [rl]); go_simp; (try with_reducible rfl))); (try simp only [rl])
            (refine wpAnyH_take (i := 11) (v := ?_) (Array.getElem?_eq_getElem (by decide)) (by kernel_rfl) (by kernel_rfl) (by kernel_rfl) (fun _ _ _ h => h) (Or.inl ⟨by kernel_rfl, ?_⟩) (by assumption) ?_); rotate_left; (focus (intro w hSw; (try dsimp only at hSw); (try simp only [rl]); go_simp; (try with_reducible rfl))); (try simp only [rl])
            (refine wpAnyH_take (i := 12) (v := ?_) (Array.getElem?_eq_getElem (by decide)) (by kernel_rfl) (by kernel_rfl) (by kernel_rfl) (fun _ _ _ h => h) (Or.inl ⟨by kernel_rfl, ?_⟩) (by assumption) ?_); rotate_left; (focus (intro w hSw; (try dsimp only at hSw); (try simp only [rl]); go_simp; (try with_reducible rfl))); (try simp only [rl])
            (refine wpAnyH_take (i := 13) (v := ?_) (Array.getElem?_eq_getElem (by decide)) (by kernel_rfl) (by kernel_rfl) (by kernel_rfl) (fun _ _ _ h => h) (Or.inl ⟨by kernel_rfl, ?_⟩) (by assumption) ?_); rotate_left; (focus (intro w hSw; (try dsimp only at hSw); (try simp only [rl]); go_simp; (try with_reducible rfl))); (try simp only [rl])
            (refine wpAnyH_take (i := 14) (v := ?_) (Array.getElem?_eq_getElem (by decide)) (by kernel_rfl) (by kernel_rfl) (by kernel_rfl) (fun _ _ _ h => h) (Or.inl ⟨by kernel_rfl, ?_⟩) (by assumption) ?_); rotate_left; (focus (intro w hSw; (try dsimp only at hSw); (try simp only [rl]); go_simp; (try with_reducible rfl))); (try simp only [rl])
            (refine wpAnyH_take (i := 15) (v := ?_) (Array.getElem?_eq_getElem (by decide)) (by kernel_rfl) (by kernel_rfl) (by kernel_rfl) (fun _ _ _ h => h) (Or.inl ⟨by kernel_rfl, ?_⟩) (by assumption) ?_); rotate_left; (focus (intro w hSw; (try dsimp only at hSw); (try simp only [rl]); go_simp; (try with_reducible rfl))); (try simp only [rl])
            (refine wpAnyH_take (i := 16) (v := ?_) (Array.getElem?_eq_getElem (by decide)) (by kernel_rfl) (by kernel_rfl) (by kernel_rfl) (fun _ _ _ h => h) (Or.inl ⟨by kernel_rfl, ?_⟩) (by assumption) ?_); rotate_left; (focus (intro w hSw; (try dsimp only at hSw); (try simp only [rl]); go_simp; (try with_reducible rfl))); (try simp only [rl])
            refine wpAnyH_done (by kernel_rfl) ?_ _
            go_wp2_with fail
            go_roundg (s.size - (k + 1))
            case measure => omega
            case rel => exact ⟨k + 1, _, by omega, by go_num, rfl, rfl, Hst, hzz, Xt⟩
          · clear hix he1 he2 hpr hn1 hn2
            go_wp2_with fail
            (refine (Tryz.strings_IndexByte _ _ _).mono ?_); rintro e w1 ⟨rfl, rfl⟩
            rw [hcu, Hix.out]
            go_upto_region 10 with fail
            refine wp_region_held_drew (S := fun _ => True) (by kernel_rfl) trivial (fun hHeld => ?_)
            (refine wpAnyH_take (i := 0) (v := ?_) (Array.getElem?_eq_getElem (by decide)) (by kernel_rfl) (by kernel_rfl) (by kernel_rfl) (fun _ _ _ h => h) (Or.inl ⟨by kernel_rfl, ?_⟩) (by assumption) ?_); rotate_left; (focus (intro w hSw; (try dsimp only at hSw); (try simp only [rl]); go_simp; (try with_reducible rfl))); (try simp only [rl])
            (refine wpAnyH_take (i := 1) (v := ?_) (Array.getElem?_eq_getElem (by decide)) (by kernel_rfl) (by kernel_rfl) (by kernel_rfl) (fun _ _ _ h => h) (Or.inl ⟨by kernel_rfl, ?_⟩) (by assumption) ?_); rotate_left; (focus (intro w hSw; (try dsimp only at hSw); (try simp only [rl]); go_simp; (try with_reducible rfl))); (try simp only [rl])
            (refine wpAnyH_take (i := 2) (v := ?_) (Array.getElem?_eq_getElem (by decide)) (by kernel_rfl) (by kernel_rfl) (by kernel_rfl) (fun _ _ _ h => h) (Or.inl ⟨by kernel_rfl, ?_⟩) (by assumption) ?_); rotate_left; (focus (intro w hSw; (try dsimp only at hSw); (try simp only [rl]); go_simp; (try with_reducible rfl))); (try simp only [rl])
            (refine wpAnyH_take (i := 3) (v := ?_) (Array.getElem?_eq_getElem (by decide)) (by kernel_rfl) (by kernel_rfl) (by kernel_rfl) (fun _ _ _ h => h) (Or.inl ⟨by kernel_rfl, ?_⟩) (by assumption) ?_); rotate_left; (focus (intro w hSw; (try dsimp only at hSw); (try simp only [rl]); go_simp; (try with_reducible rfl))); (try simp only [rl])
            (refine wpAnyH_take (i := 4) (v := ?_) (Array.getElem?_eq_getElem (by decide)) (by kernel_rfl) (by kernel_rfl) (by kernel_rfl) (fun _ _ _ h => h) (Or.inl ⟨by kernel_rfl, ?_⟩) (by assumption) ?_); rotate_left; (focus (intro w hSw; (try dsimp only at hSw); (try simp only [rl]); go_simp; (try with_reducible rfl))); (try simp only [rl])
            (refine wpAnyH_take (i := 5) (v := ?_) (Array.getElem?_eq_getElem (by decide)) (by kernel_rfl) (by kernel_rfl) (by kernel_rfl) (fun _ _ _ h => h) (Or.inl ⟨by kernel_rfl, ?_⟩) (by assumption) ?_); rotate_left; (focus (intro w hSw; (try dsimp only at hSw); (try simp only [rl]); go_simp; (try with_reducible rfl))); (try simp only [rl])
            (refine wpAnyH_take (i := 6) (v := ?_) (Array.getElem?_eq_getElem (by decide)) (by kernel_rfl) (by kernel_rfl) (by kernel_rfl) (fun _ _ _ h => h) (Or.inl ⟨by kernel_rfl, ?_⟩) (by assumption) ?_); rotate_left; (focus (intro w hSw; (try dsimp only at hSw); (try simp only [rl]); go_simp; (try with_reducible rfl))); (try simp only [rl])
            (refine wpAnyH_take (i := 7) (v := ?_) (Array.getElem?_eq_getElem (by decide)) (by kernel_rfl) (by kernel_rfl) (by kernel_rfl) (fun _ _ _ h => h) (Or.inl ⟨by kernel_rfl, ?_⟩) (by assumption) ?_); rotate_left; (focus (intro w hSw; (try dsimp only at hSw); (try simp only [rl]); go_simp; (try with_reducible rfl))); (try simp only [rl])
            (refine wpAnyH_take (i := 8) (v := ?_) (Array.getElem?_eq_getElem (by decide)) (by kernel_rfl) (by kernel_rfl) (by kernel_rfl) (fun _ _ _ h => h) (Or.inl ⟨by kernel_rfl, ?_⟩) (by assumption) ?_); rotate_left; (focus (intro w hSw; (try dsimp only at hSw); (try simp only [rl]); go_simp; (try with_reducible rfl))); (try simp only [rl])
            (refine wpAnyH_take (i := 9) (v := ?_) (Array.getElem?_eq_getElem (by decide)) (by kernel_rfl) (by kernel_rfl) (by kernel_rfl) (fun _ _ _ h => h) (Or.inl ⟨by kernel_rfl, ?_⟩) (by assumption) ?_); rotate_left; (focus (intro w hSw; (try dsimp only at hSw); (try simp only [rl]); go_simp; (try with_reducible rfl))); (try simp only [rl])
            (refine wpAnyH_take (i := 10) (v := ?_) (Array.getElem?_eq_getElem (by decide)) (by kernel_rfl) (by kernel_rfl) (by kernel_rfl) (fun _ _ _ h => h) (Or.inl ⟨by kernel_rfl, ?_⟩) (by assumption) ?_); rotate_left; (focus (intro w hSw; (try dsimp only at hSw); (try simp only [rl]); go_simp; (try with_reducible rfl))); (try simp only [rl])
            (refine wpAnyH_take (i := 11) (v := ?_) (Array.getElem?_eq_getElem (by decide)) (by kernel_rfl) (by kernel_rfl) (by kernel_rfl) (fun _ _ _ h => h) (Or.inl ⟨by kernel_rfl, ?_⟩) (by assumption) ?_); rotate_left; (focus (intro w hSw; (try dsimp only at hSw); (try simp only [rl]); go_simp; (try with_reducible rfl))); (try simp only [rl])
            (refine wpAnyH_take (i := 12) (v := ?_) (Array.getElem?_eq_getElem (by decide)) (by kernel_rfl) (by kernel_rfl) (by kernel_rfl) (fun _ _ _ h => h) (Or.inl ⟨by kernel_rfl, ?_⟩) (by assumption) ?_); rotate_left; (focus (intro w hSw; (try dsimp only at hSw); (try simp only [rl]); go_simp; (try with_reducible rfl))); (try simp only [rl])
            (refine wpAnyH_take (i := 13) (v := ?_) (Array.getElem?_eq_getElem (by decide)) (by kernel_rfl) (by kernel_rfl) (by kernel_rfl) (fun _ _ _ h => h) (Or.inl ⟨by kernel_rfl, ?_⟩) (by assumption) ?_); rotate_left; (focus (intro w hSw; (try dsimp only at hSw); (try simp only [rl]); go_simp; (try with_reducible rfl))); (try simp only [rl])
            (refine wpAnyH_take (i := 14) (v := ?_) (Array.getElem?_eq_getElem (by decide)) (by kernel_rfl) (by kernel_rfl) (by kernel_rfl) (fun _ _ _ h => h) (Or.inl ⟨by kernel_rfl, ?_⟩) (by assumption) ?_); rotate_left; (focus (intro w hSw; (try dsimp only at hSw); (try simp only [rl]); go_simp; (try with_reducible rfl))); (try simp only [rl])
            (refine wpAnyH_take (i := 15) (v := ?_) (Array.getElem?_eq_getElem (by decide)) (by kernel_rfl) (by kernel_rfl) (by kernel_rfl) (fun _ _ _ h => h) (Or.inl ⟨by kernel_rfl, ?_⟩) (by assumption) ?_); rotate_left; (focus (intro w hSw; (try dsimp only at hSw); (try simp only [rl]); go_simp; (try with_reducible rfl))); (try simp only [rl])
            (refine wpAnyH_take (i := 16) (v := ?_) (Array.getElem?_eq_getElem (by decide)) (by kernel_rfl) (by kernel_rfl) (by kernel_rfl) (fun _ _ _ h => h) (Or.inl ⟨by kernel_rfl, ?_⟩) (by assumption) ?_); rotate_left; (focus (intro w hSw; (try dsimp only at hSw); (try simp only [rl]); go_simp; (try with_reducible rfl))); (try simp only [rl])
            refine wpAnyH_done (by kernel_rfl) ?_ _
            go_wp2_with fail
            go_roundg (s.size - (k + 1))
            case measure => omega
            case rel => exact ⟨k + 1, _, by omega, by go_num, rfl, rfl, Hst, hzz, Xt⟩
    · obtain rfl : k = s.size := by omega
      have hend := Lib.hid (show (acc ++ ⟨#[34]⟩ : ByteArray).data.toList = quoteL s.data.toList by
        have := Hacc.out
        rw [List.drop_of_length_le (by simp)] at this
        rw [← this]; simp)
      go_wp2_with fail
      go_ret
      exact ⟨_, rfl, hend.out, Xt⟩
end Go.Proofs.YtnbappeiebameaaGreatDoor
