/- The walk of the reader's number. -/
import Derived.Test.YtjibdbnpkfghhaaGreatDoorRd1
import Derived.Test.YtjibdbnpkfghhaaGreatDoorIdx
set_option linter.all false
namespace Go.Proofs.YtjibdbnpkfghhaaGreatDoor
open Go.RowKit
attribute [local go_sem ↓] Go.wp_at_zero Go.wp_at_succ
def LibB (r : Nat) (w : World) : Prop := ∀ w', Below r w w' → LibAt w'
theorem LibB.on {r : Nat} {w w' : World} (h : LibB r w) (b : Below r w w') : LibB r w' := fun w'' k => h w'' (b.trans k)
theorem LibB.here {r : Nat} {w : World} (h : LibB r w) : LibAt w := h w (Below.refl _ _)
def NumR (r : Nat) (l : Bytes) (w : World) (e : Ending) (w' : World) : Prop :=
 Rd r w w' ∧ ∃ (k : Int) (s' : ByteArray) (bad' : Bool), e = .returned (.int .i64 k) ∧ Sr w' r s' bad' ∧ ((bad' = false ∧ numL l = some (k, s'.data.toList)) ∨ (bad' = true ∧ s'.data.toList = [] ∧ numL l = none))
theorem take_list (s : ByteArray) (n : Nat) : (s.extract 0 n).data.toList = s.data.toList.take n := by
 rw [Lib.extract_data, List.drop_zero, Nat.sub_zero]
theorem run_start (l : Bytes) (c : UInt8) (t : Bytes) (hl : l = c :: t) : numN l = (if c = 45 then 1 else 0) + ((l.drop (if c = 45 then 1 else 0)).takeWhile isDg).length := by
 subst hl
 by_cases h : c = 45
 ·subst h; simp [numN]; omega
 ·rw [if_neg h]
  unfold numN
  split
  ·rename_i he; simp only [List.cons.injEq] at he; exact absurd he.1 h
  ·simp
theorem run_step {l : Bytes} {k n : Nat} (hk : k < l.length) (h : n = k + ((l.drop k).takeWhile isDg).length) (hd : isDg l[k] = true) : n = (k + 1) + ((l.drop (k + 1)).takeWhile isDg).length := by
 rw [List.drop_eq_getElem_cons hk, List.takeWhile_cons, if_pos hd, List.length_cons] at h
 omega
theorem run_stop {l : Bytes} {k n : Nat} (h : n = k + ((l.drop k).takeWhile isDg).length) (hd : ∀ hk : k < l.length, isDg l[k] = false) : n = k := by
 by_cases hk : k < l.length
 ·rw [List.drop_eq_getElem_cons hk, List.takeWhile_cons, if_neg (by simp [hd hk])] at h
  simpa using h
 ·rw [List.drop_eq_nil_of_le (by omega)] at h
  simpa using h
theorem isDg_int (c : UInt8) : isDg c = (decide ((48 : Int) ≤ (c.toNat : Int)) && decide ((c.toNat : Int) ≤ 57)) := by
 unfold isDg
 rw [Bool.eq_iff_iff]
 simp
 omega
theorem num_long {l : Bytes} (h : 17 < numN l) : numL l = none := by unfold numL; rw [if_pos h]
theorem num_bad {l : Bytes} (h : ¬ 17 < numN l) (hb : ∀ v, Lib.atoiAll (l.take (numN l)) ≠ .ok v) : numL l = none := by
 unfold numL
 rw [if_neg h]
 split
 ·rename_i k hk; exact absurd hk (hb k)
 ·rfl
theorem num_ok {l : Bytes} {v : Int} (h : ¬ 17 < numN l) (hb : Lib.atoiAll (l.take (numN l)) = .ok v) : numL l = if Lib.itoa v = l.take (numN l) ∧ -9007199254740992 ≤ v ∧ v ≤ 9007199254740992 then some (v, l.drop (numN l)) else none := by
 unfold numL
 rw [if_neg h, hb]
theorem neq_true {a b : ByteArray} (h : ¬ a.data.toList = b.data.toList) : (a.toList != b.toList) = true := by
 rw [ByteArray.toList_eq, ByteArray.toList_eq]; simpa using h
theorem neq_false {a b : ByteArray} (h : a.data.toList = b.data.toList) : (a.toList != b.toList) = false := by
 rw [ByteArray.toList_eq, ByteArray.toList_eq]; simpa using h
set_option maxRecDepth 100000 in
set_option maxHeartbeats 4000000 in
theorem number_any (r : Nat) (s : ByteArray) (c : UInt8) (t : Bytes) (hs : s.data.toList = c :: t) (hsz : s.size ≤ 1048576) (w : World) (hr : Sr w r s false) (hl : LibB r w) :
  Calls Tryz.prog 98 #[.pointer (some ⟨r, 0, none⟩)] w (NumR r s.data.toList w) := by
 have hlt := hr.lt
 have hlen : s.data.toList.length = s.size := Array.length_toList
 have hst := run_start s.data.toList c t hs
 have hhead : headB s.data.toList = c := by rw [hs]; rfl
 have hpos : 0 < s.size := by rw [← hlen, hs]; simp
 have Hlen := Lib.hid hlen
 have Hhead := Lib.hid hhead
 obtain ⟨n0, hn0, hst1⟩ : ∃ n0 : Nat, n0 = (if c = 45 then 1 else 0) ∧ numN s.data.toList = n0 + ((s.data.toList.drop n0).takeWhile isDg).length := ⟨_, rfl, hst⟩
 have hn01 : n0 ≤ 1 := by rw [hn0]; split <;> omega
 have Hst := Lib.hid hst1
 have Hs := Lib.hid hs
 clear hs hst hst1 hlen hhead
 by_cases hc : c = 45
 ·have hcb : ((c.toNat : Int) == 45) = true := by rw [hc]; rfl
  obtain rfl : n0 = 1 := by rw [hn0, if_pos hc]
  clear hn0 hc
  go_enter Tryz.func98, Tryz.ntmps98
  go_wp2_with fail
  (refine (next_any r s false _ hr).mono ?_); rintro e w1 ⟨rfl, rfl⟩
  rw [Hhead.out]
  have hcr := hr.cells
  have hfr := hr.free
  go_wp2_with fail
  go_loopg [3] (s.size - 1) (fun g t3 wr => ∃ k : Nat, t3 = .int .i64 k ∧ k ≤ s.size ∧ g = s.size - k ∧ numN s.data.toList = k + ((s.data.toList.drop k).takeWhile isDg).length ∧ wr = w1)
  case atStart => exact ⟨1, rfl, by omega, rfl, Hst.out, rfl⟩
  case round =>
   obtain ⟨k, rfl, hk, rfl, hnum, rfl⟩ := hrel
   have Hn := Lib.hid hnum
   clear hnum
   by_cases hk1 : k < s.size
   ·have hk2 : k < s.data.toList.length := by rw [Hlen.out]; exact hk1
    have hget : s.data.toList[k] = s[k] := rfl
    by_cases ha : (48 : Int) ≤ (s[k].toNat : Int)
    ·have ha1 : decide ((48 : Int) ≤ (s[k].toNat : Int)) = true := by simpa using ha
     by_cases hb : (s[k].toNat : Int) ≤ 57
     ·have hb1 : decide ((s[k].toNat : Int) ≤ 57) = true := by simpa using hb
      have Hd := Lib.hid (show isDg s.data.toList[k] = true by rw [hget, isDg_int, ha1, hb1]; rfl)
      clear hget
      go_wp2_with fail
      go_roundg (s.size - (k + 1))
      case measure => omega
      case rel => exact ⟨k + 1, by go_num, by omega, rfl, run_step hk2 Hn.out Hd.out, rfl⟩
     ·have hb1 : decide ((s[k].toNat : Int) ≤ 57) = false := by simpa using hb
      have hstop := run_stop Hn.out (fun h => by rw [hget, isDg_int, ha1, hb1]; rfl)
      have Hstop := Lib.hid hstop
      clear hstop Hn
      have hx0 : (s.extract 0 k).data.toList = s.data.toList.take k := take_list s k
      have hxz : (s.extract 0 k).size ≤ 1073741824 := by
       have e : (s.extract 0 k).data.toList.length = (s.extract 0 k).size := Array.length_toList
       rw [hx0, List.length_take] at e
       omega
      have Hx0 := Lib.hid hx0
      obtain ⟨q0, hq0⟩ : ∃ q0, s.extract 0 k = q0 := ⟨_, rfl⟩
      obtain ⟨q1, hq1⟩ : ∃ q1, s.extract k s.size = q1 := ⟨_, rfl⟩
      have Hq1 := Lib.hid (show q1.data.toList = s.data.toList.drop k by rw [← hq1]; exact drop_list s k)
      have Hq0 := Lib.hid (show q0.data.toList = s.data.toList.take k by rw [← hq0]; exact hx0)
      rw [hq0] at hxz
      clear hx0
      by_cases h17 : 17 < k
      ·have Hnone := Lib.hid (num_long (l := s.data.toList) (by rw [Hstop.out]; exact h17))
       go_wp2_with fail
       (refine (fail_any r q1 false _ Bxt).mono ?_); rintro e w2 ⟨rfl, hr2, h2⟩
       have h3 : Rd r wr w2 := ((Rd.refl _ _).set _ _).trans h2
       go_wp2_with fail
       (with_reducible apply bp_ret); (focus (go_light; simp [results, Tryz.results98, go_sem, *]; rfl))
       exact ⟨h3, 0, ⟨#[]⟩, true, rfl, hr2, .inr ⟨rfl, rfl, Hnone.out⟩⟩
      ·have hR : Rd r wr (wr.setCell ⟨r, 0, none⟩ (.string q1)) := (Rd.refl _ _).set _ _
       have hl2 : LibAt (wr.setCell ⟨r, 0, none⟩ (.string q1)) := hl.on hR.below |>.here
       have hrq : Sr (wr.setCell ⟨r, 0, none⟩ (.string q1)) r q1 false := Bxt
       by_cases hat : ∃ v, Lib.atoiAll q0.data.toList = .ok v
       ·obtain ⟨v, hv⟩ := hat
        have hrg := atoi_range hv
        obtain ⟨hv0, hv1⟩ := hrg
        have Hnum := Lib.hid (num_ok (l := s.data.toList) (v := v) (by rw [Hstop.out]; exact h17) (by rw [Hstop.out, ← Hq0.out]; exact hv))
        obtain ⟨q2, hq2⟩ : ∃ q2 : ByteArray, Lib.itoa v = q2.data.toList := ⟨⟨(Lib.itoa v).toArray⟩, by simp⟩
        have Hq2 := Lib.hid hq2
        have Hv := Lib.hid hv
        clear hv hq2
        go_wp2_with fail
        (refine (atoi_ok q0 hxz v Hv.out _).mono ?_); rintro e w2 ⟨rfl, h2⟩
        have hr2 := hrq.ext h2
        have hR2 : Rd r wr w2 := hR.ext hlt h2
        have hl3 := hl2.ext h2
        by_cases hne : q2.data.toList = q0.data.toList
        ·have hneb := neq_false hne
         have hnep : q2.toList = q0.toList := by rw [ByteArray.toList_eq, ByteArray.toList_eq, hne]
         by_cases hlo : v < -9007199254740992
         ·have Hnone := Lib.hid (show numL s.data.toList = none by rw [Hnum.out, if_neg (fun h => by omega)])
          have hlob : decide (v < -9007199254740992) = true := by simpa using hlo
          (try clear hne)
          go_wp2_with fail
          (refine (itoa_at v hv0 hv1 q2 Hq2.out _ hl3).mono ?_); rintro e w3 ⟨rfl, h3⟩
          have hr3 := hr2.ext h3
          have hR3 : Rd r wr w3 := hR2.ext hlt h3
          go_wp2_with fail
          (refine (fail_any r q1 false _ hr3).mono ?_); rintro e w4 ⟨rfl, hr4, h4⟩
          have h5 : Rd r wr w4 := hR3.trans h4
          go_wp2_with fail
          (with_reducible apply bp_ret); (focus (go_light; simp [results, Tryz.results98, go_sem, *]; rfl))
          exact ⟨h5, 0, ⟨#[]⟩, true, rfl, hr4, .inr ⟨rfl, rfl, Hnone.out⟩⟩
         ·have hlob : decide (v < -9007199254740992) = false := by simpa using hlo
          by_cases hhi : 9007199254740992 < v
          ·have Hnone := Lib.hid (show numL s.data.toList = none by rw [Hnum.out, if_neg (fun h => by omega)])
           have hhib : decide (9007199254740992 < v) = true := by simpa using hhi
           (try clear hne)
           go_wp2_with fail
           (refine (itoa_at v hv0 hv1 q2 Hq2.out _ hl3).mono ?_); rintro e w3 ⟨rfl, h3⟩
           have hr3 := hr2.ext h3
           have hR3 : Rd r wr w3 := hR2.ext hlt h3
           go_wp2_with fail
           (refine (fail_any r q1 false _ hr3).mono ?_); rintro e w4 ⟨rfl, hr4, h4⟩
           have h5 : Rd r wr w4 := hR3.trans h4
           go_wp2_with fail
           (with_reducible apply bp_ret); (focus (go_light; simp [results, Tryz.results98, go_sem, *]; rfl))
           exact ⟨h5, 0, ⟨#[]⟩, true, rfl, hr4, .inr ⟨rfl, rfl, Hnone.out⟩⟩
          ·have Hsome := Lib.hid (show numL s.data.toList = some (v, q1.data.toList) by rw [Hnum.out, if_pos ⟨by rw [Hq2.out, hne, Hq0.out, Hstop.out], by omega, by omega⟩, Hq1.out, Hstop.out])
           have hhib : decide (9007199254740992 < v) = false := by simpa using hhi
           clear hne
           go_wp2_with fail
           (refine (itoa_at v hv0 hv1 q2 Hq2.out _ hl3).mono ?_); rintro e w3 ⟨rfl, h3⟩
           have hr3 := hr2.ext h3
           have hR3 : Rd r wr w3 := hR2.ext hlt h3
           go_wp2_with fail
           (with_reducible apply bp_ret); (focus (go_light; simp [results, Tryz.results98, go_sem, *]; rfl))
           exact ⟨hR3, v, q1, false, rfl, hr3, .inl ⟨rfl, Hsome.out⟩⟩
        ·have hneb := neq_true hne
         have hnep : ¬ q2.toList = q0.toList := by rw [ByteArray.toList_eq, ByteArray.toList_eq]; exact hne
         have Hnone := Lib.hid (show numL s.data.toList = none by rw [Hnum.out, if_neg (fun h => hne (by rw [← Hq2.out, h.1, Hq0.out, Hstop.out]))])
         (try clear hne)
         go_wp2_with fail
         (refine (itoa_at v hv0 hv1 q2 Hq2.out _ hl3).mono ?_); rintro e w3 ⟨rfl, h3⟩
         have hr3 := hr2.ext h3
         have hR3 : Rd r wr w3 := hR2.ext hlt h3
         go_wp2_with fail
         (refine (fail_any r q1 false _ hr3).mono ?_); rintro e w4 ⟨rfl, hr4, h4⟩
         have h5 : Rd r wr w4 := hR3.trans h4
         go_wp2_with fail
         (with_reducible apply bp_ret); (focus (go_light; simp [results, Tryz.results98, go_sem, *]; rfl))
         exact ⟨h5, 0, ⟨#[]⟩, true, rfl, hr4, .inr ⟨rfl, rfl, Hnone.out⟩⟩
       ·have Hnone := Lib.hid (num_bad (l := s.data.toList) (by rw [Hstop.out]; exact h17) (fun v hv => hat ⟨v, by rw [Hq0.out]; rw [Hstop.out] at hv; exact hv⟩))
        have Hat := Lib.hid hat
        clear hat
        go_wp2_with fail
        (refine (atoi_bad q0 hxz (fun v hv => Hat.out ⟨v, hv⟩) _ hl2).mono ?_); rintro e w2 ⟨m2, N2, rfl, h2⟩
        have hr2 := hrq.ext h2
        have hR2 : Rd r wr w2 := hR.ext hlt h2
        go_wp2_with fail
        (refine (fail_any r q1 false _ hr2).mono ?_); rintro e w4 ⟨rfl, hr4, h4⟩
        have h5 : Rd r wr w4 := hR2.trans h4
        go_wp2_with fail
        (with_reducible apply bp_ret); (focus (go_light; simp [results, Tryz.results98, go_sem, *]; rfl))
        exact ⟨h5, 0, ⟨#[]⟩, true, rfl, hr4, .inr ⟨rfl, rfl, Hnone.out⟩⟩
    ·have ha1 : decide ((48 : Int) ≤ (s[k].toNat : Int)) = false := by simpa using ha
     have hstop := run_stop Hn.out (fun h => by rw [hget, isDg_int, ha1]; rfl)
     have Hstop := Lib.hid hstop
     clear hstop Hn
     have hx0 : (s.extract 0 k).data.toList = s.data.toList.take k := take_list s k
     have hxz : (s.extract 0 k).size ≤ 1073741824 := by
      have e : (s.extract 0 k).data.toList.length = (s.extract 0 k).size := Array.length_toList
      rw [hx0, List.length_take] at e
      omega
     have Hx0 := Lib.hid hx0
     obtain ⟨q0, hq0⟩ : ∃ q0, s.extract 0 k = q0 := ⟨_, rfl⟩
     obtain ⟨q1, hq1⟩ : ∃ q1, s.extract k s.size = q1 := ⟨_, rfl⟩
     have Hq1 := Lib.hid (show q1.data.toList = s.data.toList.drop k by rw [← hq1]; exact drop_list s k)
     have Hq0 := Lib.hid (show q0.data.toList = s.data.toList.take k by rw [← hq0]; exact hx0)
     rw [hq0] at hxz
     clear hx0
     by_cases h17 : 17 < k
     ·have Hnone := Lib.hid (num_long (l := s.data.toList) (by rw [Hstop.out]; exact h17))
      go_wp2_with fail
      (refine (fail_any r q1 false _ Bxt).mono ?_); rintro e w2 ⟨rfl, hr2, h2⟩
      have h3 : Rd r wr w2 := ((Rd.refl _ _).set _ _).trans h2
      go_wp2_with fail
      (with_reducible apply bp_ret); (focus (go_light; simp [results, Tryz.results98, go_sem, *]; rfl))
      exact ⟨h3, 0, ⟨#[]⟩, true, rfl, hr2, .inr ⟨rfl, rfl, Hnone.out⟩⟩
     ·have hR : Rd r wr (wr.setCell ⟨r, 0, none⟩ (.string q1)) := (Rd.refl _ _).set _ _
      have hl2 : LibAt (wr.setCell ⟨r, 0, none⟩ (.string q1)) := hl.on hR.below |>.here
      have hrq : Sr (wr.setCell ⟨r, 0, none⟩ (.string q1)) r q1 false := Bxt
      by_cases hat : ∃ v, Lib.atoiAll q0.data.toList = .ok v
      ·obtain ⟨v, hv⟩ := hat
       have hrg := atoi_range hv
       obtain ⟨hv0, hv1⟩ := hrg
       have Hnum := Lib.hid (num_ok (l := s.data.toList) (v := v) (by rw [Hstop.out]; exact h17) (by rw [Hstop.out, ← Hq0.out]; exact hv))
       obtain ⟨q2, hq2⟩ : ∃ q2 : ByteArray, Lib.itoa v = q2.data.toList := ⟨⟨(Lib.itoa v).toArray⟩, by simp⟩
       have Hq2 := Lib.hid hq2
       have Hv := Lib.hid hv
       clear hv hq2
       go_wp2_with fail
       (refine (atoi_ok q0 hxz v Hv.out _).mono ?_); rintro e w2 ⟨rfl, h2⟩
       have hr2 := hrq.ext h2
       have hR2 : Rd r wr w2 := hR.ext hlt h2
       have hl3 := hl2.ext h2
       by_cases hne : q2.data.toList = q0.data.toList
       ·have hneb := neq_false hne
        have hnep : q2.toList = q0.toList := by rw [ByteArray.toList_eq, ByteArray.toList_eq, hne]
        by_cases hlo : v < -9007199254740992
        ·have Hnone := Lib.hid (show numL s.data.toList = none by rw [Hnum.out, if_neg (fun h => by omega)])
         have hlob : decide (v < -9007199254740992) = true := by simpa using hlo
         (try clear hne)
         go_wp2_with fail
         (refine (itoa_at v hv0 hv1 q2 Hq2.out _ hl3).mono ?_); rintro e w3 ⟨rfl, h3⟩
         have hr3 := hr2.ext h3
         have hR3 : Rd r wr w3 := hR2.ext hlt h3
         go_wp2_with fail
         (refine (fail_any r q1 false _ hr3).mono ?_); rintro e w4 ⟨rfl, hr4, h4⟩
         have h5 : Rd r wr w4 := hR3.trans h4
         go_wp2_with fail
         (with_reducible apply bp_ret); (focus (go_light; simp [results, Tryz.results98, go_sem, *]; rfl))
         exact ⟨h5, 0, ⟨#[]⟩, true, rfl, hr4, .inr ⟨rfl, rfl, Hnone.out⟩⟩
        ·have hlob : decide (v < -9007199254740992) = false := by simpa using hlo
         by_cases hhi : 9007199254740992 < v
         ·have Hnone := Lib.hid (show numL s.data.toList = none by rw [Hnum.out, if_neg (fun h => by omega)])
          have hhib : decide (9007199254740992 < v) = true := by simpa using hhi
          (try clear hne)
          go_wp2_with fail
          (refine (itoa_at v hv0 hv1 q2 Hq2.out _ hl3).mono ?_); rintro e w3 ⟨rfl, h3⟩
          have hr3 := hr2.ext h3
          have hR3 : Rd r wr w3 := hR2.ext hlt h3
          go_wp2_with fail
          (refine (fail_any r q1 false _ hr3).mono ?_); rintro e w4 ⟨rfl, hr4, h4⟩
          have h5 : Rd r wr w4 := hR3.trans h4
          go_wp2_with fail
          (with_reducible apply bp_ret); (focus (go_light; simp [results, Tryz.results98, go_sem, *]; rfl))
          exact ⟨h5, 0, ⟨#[]⟩, true, rfl, hr4, .inr ⟨rfl, rfl, Hnone.out⟩⟩
         ·have Hsome := Lib.hid (show numL s.data.toList = some (v, q1.data.toList) by rw [Hnum.out, if_pos ⟨by rw [Hq2.out, hne, Hq0.out, Hstop.out], by omega, by omega⟩, Hq1.out, Hstop.out])
          have hhib : decide (9007199254740992 < v) = false := by simpa using hhi
          clear hne
          go_wp2_with fail
          (refine (itoa_at v hv0 hv1 q2 Hq2.out _ hl3).mono ?_); rintro e w3 ⟨rfl, h3⟩
          have hr3 := hr2.ext h3
          have hR3 : Rd r wr w3 := hR2.ext hlt h3
          go_wp2_with fail
          (with_reducible apply bp_ret); (focus (go_light; simp [results, Tryz.results98, go_sem, *]; rfl))
          exact ⟨hR3, v, q1, false, rfl, hr3, .inl ⟨rfl, Hsome.out⟩⟩
       ·have hneb := neq_true hne
        have hnep : ¬ q2.toList = q0.toList := by rw [ByteArray.toList_eq, ByteArray.toList_eq]; exact hne
        have Hnone := Lib.hid (show numL s.data.toList = none by rw [Hnum.out, if_neg (fun h => hne (by rw [← Hq2.out, h.1, Hq0.out, Hstop.out]))])
        (try clear hne)
        go_wp2_with fail
        (refine (itoa_at v hv0 hv1 q2 Hq2.out _ hl3).mono ?_); rintro e w3 ⟨rfl, h3⟩
        have hr3 := hr2.ext h3
        have hR3 : Rd r wr w3 := hR2.ext hlt h3
        go_wp2_with fail
        (refine (fail_any r q1 false _ hr3).mono ?_); rintro e w4 ⟨rfl, hr4, h4⟩
        have h5 : Rd r wr w4 := hR3.trans h4
        go_wp2_with fail
        (with_reducible apply bp_ret); (focus (go_light; simp [results, Tryz.results98, go_sem, *]; rfl))
        exact ⟨h5, 0, ⟨#[]⟩, true, rfl, hr4, .inr ⟨rfl, rfl, Hnone.out⟩⟩
      ·have Hnone := Lib.hid (num_bad (l := s.data.toList) (by rw [Hstop.out]; exact h17) (fun v hv => hat ⟨v, by rw [Hq0.out]; rw [Hstop.out] at hv; exact hv⟩))
       have Hat := Lib.hid hat
       clear hat
       go_wp2_with fail
       (refine (atoi_bad q0 hxz (fun v hv => Hat.out ⟨v, hv⟩) _ hl2).mono ?_); rintro e w2 ⟨m2, N2, rfl, h2⟩
       have hr2 := hrq.ext h2
       have hR2 : Rd r wr w2 := hR.ext hlt h2
       go_wp2_with fail
       (refine (fail_any r q1 false _ hr2).mono ?_); rintro e w4 ⟨rfl, hr4, h4⟩
       have h5 : Rd r wr w4 := hR2.trans h4
       go_wp2_with fail
       (with_reducible apply bp_ret); (focus (go_light; simp [results, Tryz.results98, go_sem, *]; rfl))
       exact ⟨h5, 0, ⟨#[]⟩, true, rfl, hr4, .inr ⟨rfl, rfl, Hnone.out⟩⟩
   ·have hstop := run_stop Hn.out (fun h => by rw [Hlen.out] at h; exact absurd h hk1)
    have Hstop := Lib.hid hstop
    clear hstop Hn
    have hx0 : (s.extract 0 k).data.toList = s.data.toList.take k := take_list s k
    have hxz : (s.extract 0 k).size ≤ 1073741824 := by
     have e : (s.extract 0 k).data.toList.length = (s.extract 0 k).size := Array.length_toList
     rw [hx0, List.length_take] at e
     omega
    have Hx0 := Lib.hid hx0
    obtain ⟨q0, hq0⟩ : ∃ q0, s.extract 0 k = q0 := ⟨_, rfl⟩
    obtain ⟨q1, hq1⟩ : ∃ q1, s.extract k s.size = q1 := ⟨_, rfl⟩
    have Hq1 := Lib.hid (show q1.data.toList = s.data.toList.drop k by rw [← hq1]; exact drop_list s k)
    have Hq0 := Lib.hid (show q0.data.toList = s.data.toList.take k by rw [← hq0]; exact hx0)
    rw [hq0] at hxz
    clear hx0
    by_cases h17 : 17 < k
    ·have Hnone := Lib.hid (num_long (l := s.data.toList) (by rw [Hstop.out]; exact h17))
     go_wp2_with fail
     (refine (fail_any r q1 false _ Bxt).mono ?_); rintro e w2 ⟨rfl, hr2, h2⟩
     have h3 : Rd r wr w2 := ((Rd.refl _ _).set _ _).trans h2
     go_wp2_with fail
     (with_reducible apply bp_ret); (focus (go_light; simp [results, Tryz.results98, go_sem, *]; rfl))
     exact ⟨h3, 0, ⟨#[]⟩, true, rfl, hr2, .inr ⟨rfl, rfl, Hnone.out⟩⟩
    ·have hR : Rd r wr (wr.setCell ⟨r, 0, none⟩ (.string q1)) := (Rd.refl _ _).set _ _
     have hl2 : LibAt (wr.setCell ⟨r, 0, none⟩ (.string q1)) := hl.on hR.below |>.here
     have hrq : Sr (wr.setCell ⟨r, 0, none⟩ (.string q1)) r q1 false := Bxt
     by_cases hat : ∃ v, Lib.atoiAll q0.data.toList = .ok v
     ·obtain ⟨v, hv⟩ := hat
      have hrg := atoi_range hv
      obtain ⟨hv0, hv1⟩ := hrg
      have Hnum := Lib.hid (num_ok (l := s.data.toList) (v := v) (by rw [Hstop.out]; exact h17) (by rw [Hstop.out, ← Hq0.out]; exact hv))
      obtain ⟨q2, hq2⟩ : ∃ q2 : ByteArray, Lib.itoa v = q2.data.toList := ⟨⟨(Lib.itoa v).toArray⟩, by simp⟩
      have Hq2 := Lib.hid hq2
      have Hv := Lib.hid hv
      clear hv hq2
      go_wp2_with fail
      (refine (atoi_ok q0 hxz v Hv.out _).mono ?_); rintro e w2 ⟨rfl, h2⟩
      have hr2 := hrq.ext h2
      have hR2 : Rd r wr w2 := hR.ext hlt h2
      have hl3 := hl2.ext h2
      by_cases hne : q2.data.toList = q0.data.toList
      ·have hneb := neq_false hne
       have hnep : q2.toList = q0.toList := by rw [ByteArray.toList_eq, ByteArray.toList_eq, hne]
       by_cases hlo : v < -9007199254740992
       ·have Hnone := Lib.hid (show numL s.data.toList = none by rw [Hnum.out, if_neg (fun h => by omega)])
        have hlob : decide (v < -9007199254740992) = true := by simpa using hlo
        (try clear hne)
        go_wp2_with fail
        (refine (itoa_at v hv0 hv1 q2 Hq2.out _ hl3).mono ?_); rintro e w3 ⟨rfl, h3⟩
        have hr3 := hr2.ext h3
        have hR3 : Rd r wr w3 := hR2.ext hlt h3
        go_wp2_with fail
        (refine (fail_any r q1 false _ hr3).mono ?_); rintro e w4 ⟨rfl, hr4, h4⟩
        have h5 : Rd r wr w4 := hR3.trans h4
        go_wp2_with fail
        (with_reducible apply bp_ret); (focus (go_light; simp [results, Tryz.results98, go_sem, *]; rfl))
        exact ⟨h5, 0, ⟨#[]⟩, true, rfl, hr4, .inr ⟨rfl, rfl, Hnone.out⟩⟩
       ·have hlob : decide (v < -9007199254740992) = false := by simpa using hlo
        by_cases hhi : 9007199254740992 < v
        ·have Hnone := Lib.hid (show numL s.data.toList = none by rw [Hnum.out, if_neg (fun h => by omega)])
         have hhib : decide (9007199254740992 < v) = true := by simpa using hhi
         (try clear hne)
         go_wp2_with fail
         (refine (itoa_at v hv0 hv1 q2 Hq2.out _ hl3).mono ?_); rintro e w3 ⟨rfl, h3⟩
         have hr3 := hr2.ext h3
         have hR3 : Rd r wr w3 := hR2.ext hlt h3
         go_wp2_with fail
         (refine (fail_any r q1 false _ hr3).mono ?_); rintro e w4 ⟨rfl, hr4, h4⟩
         have h5 : Rd r wr w4 := hR3.trans h4
         go_wp2_with fail
         (with_reducible apply bp_ret); (focus (go_light; simp [results, Tryz.results98, go_sem, *]; rfl))
         exact ⟨h5, 0, ⟨#[]⟩, true, rfl, hr4, .inr ⟨rfl, rfl, Hnone.out⟩⟩
        ·have Hsome := Lib.hid (show numL s.data.toList = some (v, q1.data.toList) by rw [Hnum.out, if_pos ⟨by rw [Hq2.out, hne, Hq0.out, Hstop.out], by omega, by omega⟩, Hq1.out, Hstop.out])
         have hhib : decide (9007199254740992 < v) = false := by simpa using hhi
         clear hne
         go_wp2_with fail
         (refine (itoa_at v hv0 hv1 q2 Hq2.out _ hl3).mono ?_); rintro e w3 ⟨rfl, h3⟩
         have hr3 := hr2.ext h3
         have hR3 : Rd r wr w3 := hR2.ext hlt h3
         go_wp2_with fail
         (with_reducible apply bp_ret); (focus (go_light; simp [results, Tryz.results98, go_sem, *]; rfl))
         exact ⟨hR3, v, q1, false, rfl, hr3, .inl ⟨rfl, Hsome.out⟩⟩
      ·have hneb := neq_true hne
       have hnep : ¬ q2.toList = q0.toList := by rw [ByteArray.toList_eq, ByteArray.toList_eq]; exact hne
       have Hnone := Lib.hid (show numL s.data.toList = none by rw [Hnum.out, if_neg (fun h => hne (by rw [← Hq2.out, h.1, Hq0.out, Hstop.out]))])
       (try clear hne)
       go_wp2_with fail
       (refine (itoa_at v hv0 hv1 q2 Hq2.out _ hl3).mono ?_); rintro e w3 ⟨rfl, h3⟩
       have hr3 := hr2.ext h3
       have hR3 : Rd r wr w3 := hR2.ext hlt h3
       go_wp2_with fail
       (refine (fail_any r q1 false _ hr3).mono ?_); rintro e w4 ⟨rfl, hr4, h4⟩
       have h5 : Rd r wr w4 := hR3.trans h4
       go_wp2_with fail
       (with_reducible apply bp_ret); (focus (go_light; simp [results, Tryz.results98, go_sem, *]; rfl))
       exact ⟨h5, 0, ⟨#[]⟩, true, rfl, hr4, .inr ⟨rfl, rfl, Hnone.out⟩⟩
     ·have Hnone := Lib.hid (num_bad (l := s.data.toList) (by rw [Hstop.out]; exact h17) (fun v hv => hat ⟨v, by rw [Hq0.out]; rw [Hstop.out] at hv; exact hv⟩))
      have Hat := Lib.hid hat
      clear hat
      go_wp2_with fail
      (refine (atoi_bad q0 hxz (fun v hv => Hat.out ⟨v, hv⟩) _ hl2).mono ?_); rintro e w2 ⟨m2, N2, rfl, h2⟩
      have hr2 := hrq.ext h2
      have hR2 : Rd r wr w2 := hR.ext hlt h2
      go_wp2_with fail
      (refine (fail_any r q1 false _ hr2).mono ?_); rintro e w4 ⟨rfl, hr4, h4⟩
      have h5 : Rd r wr w4 := hR2.trans h4
      go_wp2_with fail
      (with_reducible apply bp_ret); (focus (go_light; simp [results, Tryz.results98, go_sem, *]; rfl))
      exact ⟨h5, 0, ⟨#[]⟩, true, rfl, hr4, .inr ⟨rfl, rfl, Hnone.out⟩⟩
 ·have hcb : ((c.toNat : Int) == 45) = false := by simpa using fun h => hc (by apply UInt8.toNat_inj.1; simpa using (by omega : c.toNat = 45))
  obtain rfl : n0 = 0 := by rw [hn0, if_neg hc]
  clear hn0 hc
  go_enter Tryz.func98, Tryz.ntmps98
  go_wp2_with fail
  (refine (next_any r s false _ hr).mono ?_); rintro e w1 ⟨rfl, rfl⟩
  rw [Hhead.out]
  have hcr := hr.cells
  have hfr := hr.free
  go_wp2_with fail
  go_loopg [3] (s.size - 0) (fun g t3 wr => ∃ k : Nat, t3 = .int .i64 k ∧ k ≤ s.size ∧ g = s.size - k ∧ numN s.data.toList = k + ((s.data.toList.drop k).takeWhile isDg).length ∧ wr = w1)
  case atStart => exact ⟨0, rfl, by omega, rfl, Hst.out, rfl⟩
  case round =>
   obtain ⟨k, rfl, hk, rfl, hnum, rfl⟩ := hrel
   have Hn := Lib.hid hnum
   clear hnum
   by_cases hk1 : k < s.size
   ·have hk2 : k < s.data.toList.length := by rw [Hlen.out]; exact hk1
    have hget : s.data.toList[k] = s[k] := rfl
    by_cases ha : (48 : Int) ≤ (s[k].toNat : Int)
    ·have ha1 : decide ((48 : Int) ≤ (s[k].toNat : Int)) = true := by simpa using ha
     by_cases hb : (s[k].toNat : Int) ≤ 57
     ·have hb1 : decide ((s[k].toNat : Int) ≤ 57) = true := by simpa using hb
      have Hd := Lib.hid (show isDg s.data.toList[k] = true by rw [hget, isDg_int, ha1, hb1]; rfl)
      clear hget
      go_wp2_with fail
      go_roundg (s.size - (k + 1))
      case measure => omega
      case rel => exact ⟨k + 1, by go_num, by omega, rfl, run_step hk2 Hn.out Hd.out, rfl⟩
     ·have hb1 : decide ((s[k].toNat : Int) ≤ 57) = false := by simpa using hb
      have hstop := run_stop Hn.out (fun h => by rw [hget, isDg_int, ha1, hb1]; rfl)
      have Hstop := Lib.hid hstop
      clear hstop Hn
      have hx0 : (s.extract 0 k).data.toList = s.data.toList.take k := take_list s k
      have hxz : (s.extract 0 k).size ≤ 1073741824 := by
       have e : (s.extract 0 k).data.toList.length = (s.extract 0 k).size := Array.length_toList
       rw [hx0, List.length_take] at e
       omega
      have Hx0 := Lib.hid hx0
      obtain ⟨q0, hq0⟩ : ∃ q0, s.extract 0 k = q0 := ⟨_, rfl⟩
      obtain ⟨q1, hq1⟩ : ∃ q1, s.extract k s.size = q1 := ⟨_, rfl⟩
      have Hq1 := Lib.hid (show q1.data.toList = s.data.toList.drop k by rw [← hq1]; exact drop_list s k)
      have Hq0 := Lib.hid (show q0.data.toList = s.data.toList.take k by rw [← hq0]; exact hx0)
      rw [hq0] at hxz
      clear hx0
      by_cases h17 : 17 < k
      ·have Hnone := Lib.hid (num_long (l := s.data.toList) (by rw [Hstop.out]; exact h17))
       go_wp2_with fail
       (refine (fail_any r q1 false _ Bxt).mono ?_); rintro e w2 ⟨rfl, hr2, h2⟩
       have h3 : Rd r wr w2 := ((Rd.refl _ _).set _ _).trans h2
       go_wp2_with fail
       (with_reducible apply bp_ret); (focus (go_light; simp [results, Tryz.results98, go_sem, *]; rfl))
       exact ⟨h3, 0, ⟨#[]⟩, true, rfl, hr2, .inr ⟨rfl, rfl, Hnone.out⟩⟩
      ·have hR : Rd r wr (wr.setCell ⟨r, 0, none⟩ (.string q1)) := (Rd.refl _ _).set _ _
       have hl2 : LibAt (wr.setCell ⟨r, 0, none⟩ (.string q1)) := hl.on hR.below |>.here
       have hrq : Sr (wr.setCell ⟨r, 0, none⟩ (.string q1)) r q1 false := Bxt
       by_cases hat : ∃ v, Lib.atoiAll q0.data.toList = .ok v
       ·obtain ⟨v, hv⟩ := hat
        have hrg := atoi_range hv
        obtain ⟨hv0, hv1⟩ := hrg
        have Hnum := Lib.hid (num_ok (l := s.data.toList) (v := v) (by rw [Hstop.out]; exact h17) (by rw [Hstop.out, ← Hq0.out]; exact hv))
        obtain ⟨q2, hq2⟩ : ∃ q2 : ByteArray, Lib.itoa v = q2.data.toList := ⟨⟨(Lib.itoa v).toArray⟩, by simp⟩
        have Hq2 := Lib.hid hq2
        have Hv := Lib.hid hv
        clear hv hq2
        go_wp2_with fail
        (refine (atoi_ok q0 hxz v Hv.out _).mono ?_); rintro e w2 ⟨rfl, h2⟩
        have hr2 := hrq.ext h2
        have hR2 : Rd r wr w2 := hR.ext hlt h2
        have hl3 := hl2.ext h2
        by_cases hne : q2.data.toList = q0.data.toList
        ·have hneb := neq_false hne
         have hnep : q2.toList = q0.toList := by rw [ByteArray.toList_eq, ByteArray.toList_eq, hne]
         by_cases hlo : v < -9007199254740992
         ·have Hnone := Lib.hid (show numL s.data.toList = none by rw [Hnum.out, if_neg (fun h => by omega)])
          have hlob : decide (v < -9007199254740992) = true := by simpa using hlo
          (try clear hne)
          go_wp2_with fail
          (refine (itoa_at v hv0 hv1 q2 Hq2.out _ hl3).mono ?_); rintro e w3 ⟨rfl, h3⟩
          have hr3 := hr2.ext h3
          have hR3 : Rd r wr w3 := hR2.ext hlt h3
          go_wp2_with fail
          (refine (fail_any r q1 false _ hr3).mono ?_); rintro e w4 ⟨rfl, hr4, h4⟩
          have h5 : Rd r wr w4 := hR3.trans h4
          go_wp2_with fail
          (with_reducible apply bp_ret); (focus (go_light; simp [results, Tryz.results98, go_sem, *]; rfl))
          exact ⟨h5, 0, ⟨#[]⟩, true, rfl, hr4, .inr ⟨rfl, rfl, Hnone.out⟩⟩
         ·have hlob : decide (v < -9007199254740992) = false := by simpa using hlo
          by_cases hhi : 9007199254740992 < v
          ·have Hnone := Lib.hid (show numL s.data.toList = none by rw [Hnum.out, if_neg (fun h => by omega)])
           have hhib : decide (9007199254740992 < v) = true := by simpa using hhi
           (try clear hne)
           go_wp2_with fail
           (refine (itoa_at v hv0 hv1 q2 Hq2.out _ hl3).mono ?_); rintro e w3 ⟨rfl, h3⟩
           have hr3 := hr2.ext h3
           have hR3 : Rd r wr w3 := hR2.ext hlt h3
           go_wp2_with fail
           (refine (fail_any r q1 false _ hr3).mono ?_); rintro e w4 ⟨rfl, hr4, h4⟩
           have h5 : Rd r wr w4 := hR3.trans h4
           go_wp2_with fail
           (with_reducible apply bp_ret); (focus (go_light; simp [results, Tryz.results98, go_sem, *]; rfl))
           exact ⟨h5, 0, ⟨#[]⟩, true, rfl, hr4, .inr ⟨rfl, rfl, Hnone.out⟩⟩
          ·have Hsome := Lib.hid (show numL s.data.toList = some (v, q1.data.toList) by rw [Hnum.out, if_pos ⟨by rw [Hq2.out, hne, Hq0.out, Hstop.out], by omega, by omega⟩, Hq1.out, Hstop.out])
           have hhib : decide (9007199254740992 < v) = false := by simpa using hhi
           clear hne
           go_wp2_with fail
           (refine (itoa_at v hv0 hv1 q2 Hq2.out _ hl3).mono ?_); rintro e w3 ⟨rfl, h3⟩
           have hr3 := hr2.ext h3
           have hR3 : Rd r wr w3 := hR2.ext hlt h3
           go_wp2_with fail
           (with_reducible apply bp_ret); (focus (go_light; simp [results, Tryz.results98, go_sem, *]; rfl))
           exact ⟨hR3, v, q1, false, rfl, hr3, .inl ⟨rfl, Hsome.out⟩⟩
        ·have hneb := neq_true hne
         have hnep : ¬ q2.toList = q0.toList := by rw [ByteArray.toList_eq, ByteArray.toList_eq]; exact hne
         have Hnone := Lib.hid (show numL s.data.toList = none by rw [Hnum.out, if_neg (fun h => hne (by rw [← Hq2.out, h.1, Hq0.out, Hstop.out]))])
         (try clear hne)
         go_wp2_with fail
         (refine (itoa_at v hv0 hv1 q2 Hq2.out _ hl3).mono ?_); rintro e w3 ⟨rfl, h3⟩
         have hr3 := hr2.ext h3
         have hR3 : Rd r wr w3 := hR2.ext hlt h3
         go_wp2_with fail
         (refine (fail_any r q1 false _ hr3).mono ?_); rintro e w4 ⟨rfl, hr4, h4⟩
         have h5 : Rd r wr w4 := hR3.trans h4
         go_wp2_with fail
         (with_reducible apply bp_ret); (focus (go_light; simp [results, Tryz.results98, go_sem, *]; rfl))
         exact ⟨h5, 0, ⟨#[]⟩, true, rfl, hr4, .inr ⟨rfl, rfl, Hnone.out⟩⟩
       ·have Hnone := Lib.hid (num_bad (l := s.data.toList) (by rw [Hstop.out]; exact h17) (fun v hv => hat ⟨v, by rw [Hq0.out]; rw [Hstop.out] at hv; exact hv⟩))
        have Hat := Lib.hid hat
        clear hat
        go_wp2_with fail
        (refine (atoi_bad q0 hxz (fun v hv => Hat.out ⟨v, hv⟩) _ hl2).mono ?_); rintro e w2 ⟨m2, N2, rfl, h2⟩
        have hr2 := hrq.ext h2
        have hR2 : Rd r wr w2 := hR.ext hlt h2
        go_wp2_with fail
        (refine (fail_any r q1 false _ hr2).mono ?_); rintro e w4 ⟨rfl, hr4, h4⟩
        have h5 : Rd r wr w4 := hR2.trans h4
        go_wp2_with fail
        (with_reducible apply bp_ret); (focus (go_light; simp [results, Tryz.results98, go_sem, *]; rfl))
        exact ⟨h5, 0, ⟨#[]⟩, true, rfl, hr4, .inr ⟨rfl, rfl, Hnone.out⟩⟩
    ·have ha1 : decide ((48 : Int) ≤ (s[k].toNat : Int)) = false := by simpa using ha
     have hstop := run_stop Hn.out (fun h => by rw [hget, isDg_int, ha1]; rfl)
     have Hstop := Lib.hid hstop
     clear hstop Hn
     have hx0 : (s.extract 0 k).data.toList = s.data.toList.take k := take_list s k
     have hxz : (s.extract 0 k).size ≤ 1073741824 := by
      have e : (s.extract 0 k).data.toList.length = (s.extract 0 k).size := Array.length_toList
      rw [hx0, List.length_take] at e
      omega
     have Hx0 := Lib.hid hx0
     obtain ⟨q0, hq0⟩ : ∃ q0, s.extract 0 k = q0 := ⟨_, rfl⟩
     obtain ⟨q1, hq1⟩ : ∃ q1, s.extract k s.size = q1 := ⟨_, rfl⟩
     have Hq1 := Lib.hid (show q1.data.toList = s.data.toList.drop k by rw [← hq1]; exact drop_list s k)
     have Hq0 := Lib.hid (show q0.data.toList = s.data.toList.take k by rw [← hq0]; exact hx0)
     rw [hq0] at hxz
     clear hx0
     by_cases h17 : 17 < k
     ·have Hnone := Lib.hid (num_long (l := s.data.toList) (by rw [Hstop.out]; exact h17))
      go_wp2_with fail
      (refine (fail_any r q1 false _ Bxt).mono ?_); rintro e w2 ⟨rfl, hr2, h2⟩
      have h3 : Rd r wr w2 := ((Rd.refl _ _).set _ _).trans h2
      go_wp2_with fail
      (with_reducible apply bp_ret); (focus (go_light; simp [results, Tryz.results98, go_sem, *]; rfl))
      exact ⟨h3, 0, ⟨#[]⟩, true, rfl, hr2, .inr ⟨rfl, rfl, Hnone.out⟩⟩
     ·have hR : Rd r wr (wr.setCell ⟨r, 0, none⟩ (.string q1)) := (Rd.refl _ _).set _ _
      have hl2 : LibAt (wr.setCell ⟨r, 0, none⟩ (.string q1)) := hl.on hR.below |>.here
      have hrq : Sr (wr.setCell ⟨r, 0, none⟩ (.string q1)) r q1 false := Bxt
      by_cases hat : ∃ v, Lib.atoiAll q0.data.toList = .ok v
      ·obtain ⟨v, hv⟩ := hat
       have hrg := atoi_range hv
       obtain ⟨hv0, hv1⟩ := hrg
       have Hnum := Lib.hid (num_ok (l := s.data.toList) (v := v) (by rw [Hstop.out]; exact h17) (by rw [Hstop.out, ← Hq0.out]; exact hv))
       obtain ⟨q2, hq2⟩ : ∃ q2 : ByteArray, Lib.itoa v = q2.data.toList := ⟨⟨(Lib.itoa v).toArray⟩, by simp⟩
       have Hq2 := Lib.hid hq2
       have Hv := Lib.hid hv
       clear hv hq2
       go_wp2_with fail
       (refine (atoi_ok q0 hxz v Hv.out _).mono ?_); rintro e w2 ⟨rfl, h2⟩
       have hr2 := hrq.ext h2
       have hR2 : Rd r wr w2 := hR.ext hlt h2
       have hl3 := hl2.ext h2
       by_cases hne : q2.data.toList = q0.data.toList
       ·have hneb := neq_false hne
        have hnep : q2.toList = q0.toList := by rw [ByteArray.toList_eq, ByteArray.toList_eq, hne]
        by_cases hlo : v < -9007199254740992
        ·have Hnone := Lib.hid (show numL s.data.toList = none by rw [Hnum.out, if_neg (fun h => by omega)])
         have hlob : decide (v < -9007199254740992) = true := by simpa using hlo
         (try clear hne)
         go_wp2_with fail
         (refine (itoa_at v hv0 hv1 q2 Hq2.out _ hl3).mono ?_); rintro e w3 ⟨rfl, h3⟩
         have hr3 := hr2.ext h3
         have hR3 : Rd r wr w3 := hR2.ext hlt h3
         go_wp2_with fail
         (refine (fail_any r q1 false _ hr3).mono ?_); rintro e w4 ⟨rfl, hr4, h4⟩
         have h5 : Rd r wr w4 := hR3.trans h4
         go_wp2_with fail
         (with_reducible apply bp_ret); (focus (go_light; simp [results, Tryz.results98, go_sem, *]; rfl))
         exact ⟨h5, 0, ⟨#[]⟩, true, rfl, hr4, .inr ⟨rfl, rfl, Hnone.out⟩⟩
        ·have hlob : decide (v < -9007199254740992) = false := by simpa using hlo
         by_cases hhi : 9007199254740992 < v
         ·have Hnone := Lib.hid (show numL s.data.toList = none by rw [Hnum.out, if_neg (fun h => by omega)])
          have hhib : decide (9007199254740992 < v) = true := by simpa using hhi
          (try clear hne)
          go_wp2_with fail
          (refine (itoa_at v hv0 hv1 q2 Hq2.out _ hl3).mono ?_); rintro e w3 ⟨rfl, h3⟩
          have hr3 := hr2.ext h3
          have hR3 : Rd r wr w3 := hR2.ext hlt h3
          go_wp2_with fail
          (refine (fail_any r q1 false _ hr3).mono ?_); rintro e w4 ⟨rfl, hr4, h4⟩
          have h5 : Rd r wr w4 := hR3.trans h4
          go_wp2_with fail
          (with_reducible apply bp_ret); (focus (go_light; simp [results, Tryz.results98, go_sem, *]; rfl))
          exact ⟨h5, 0, ⟨#[]⟩, true, rfl, hr4, .inr ⟨rfl, rfl, Hnone.out⟩⟩
         ·have Hsome := Lib.hid (show numL s.data.toList = some (v, q1.data.toList) by rw [Hnum.out, if_pos ⟨by rw [Hq2.out, hne, Hq0.out, Hstop.out], by omega, by omega⟩, Hq1.out, Hstop.out])
          have hhib : decide (9007199254740992 < v) = false := by simpa using hhi
          clear hne
          go_wp2_with fail
          (refine (itoa_at v hv0 hv1 q2 Hq2.out _ hl3).mono ?_); rintro e w3 ⟨rfl, h3⟩
          have hr3 := hr2.ext h3
          have hR3 : Rd r wr w3 := hR2.ext hlt h3
          go_wp2_with fail
          (with_reducible apply bp_ret); (focus (go_light; simp [results, Tryz.results98, go_sem, *]; rfl))
          exact ⟨hR3, v, q1, false, rfl, hr3, .inl ⟨rfl, Hsome.out⟩⟩
       ·have hneb := neq_true hne
        have hnep : ¬ q2.toList = q0.toList := by rw [ByteArray.toList_eq, ByteArray.toList_eq]; exact hne
        have Hnone := Lib.hid (show numL s.data.toList = none by rw [Hnum.out, if_neg (fun h => hne (by rw [← Hq2.out, h.1, Hq0.out, Hstop.out]))])
        (try clear hne)
        go_wp2_with fail
        (refine (itoa_at v hv0 hv1 q2 Hq2.out _ hl3).mono ?_); rintro e w3 ⟨rfl, h3⟩
        have hr3 := hr2.ext h3
        have hR3 : Rd r wr w3 := hR2.ext hlt h3
        go_wp2_with fail
        (refine (fail_any r q1 false _ hr3).mono ?_); rintro e w4 ⟨rfl, hr4, h4⟩
        have h5 : Rd r wr w4 := hR3.trans h4
        go_wp2_with fail
        (with_reducible apply bp_ret); (focus (go_light; simp [results, Tryz.results98, go_sem, *]; rfl))
        exact ⟨h5, 0, ⟨#[]⟩, true, rfl, hr4, .inr ⟨rfl, rfl, Hnone.out⟩⟩
      ·have Hnone := Lib.hid (num_bad (l := s.data.toList) (by rw [Hstop.out]; exact h17) (fun v hv => hat ⟨v, by rw [Hq0.out]; rw [Hstop.out] at hv; exact hv⟩))
       have Hat := Lib.hid hat
       clear hat
       go_wp2_with fail
       (refine (atoi_bad q0 hxz (fun v hv => Hat.out ⟨v, hv⟩) _ hl2).mono ?_); rintro e w2 ⟨m2, N2, rfl, h2⟩
       have hr2 := hrq.ext h2
       have hR2 : Rd r wr w2 := hR.ext hlt h2
       go_wp2_with fail
       (refine (fail_any r q1 false _ hr2).mono ?_); rintro e w4 ⟨rfl, hr4, h4⟩
       have h5 : Rd r wr w4 := hR2.trans h4
       go_wp2_with fail
       (with_reducible apply bp_ret); (focus (go_light; simp [results, Tryz.results98, go_sem, *]; rfl))
       exact ⟨h5, 0, ⟨#[]⟩, true, rfl, hr4, .inr ⟨rfl, rfl, Hnone.out⟩⟩
   ·have hstop := run_stop Hn.out (fun h => by rw [Hlen.out] at h; exact absurd h hk1)
    have Hstop := Lib.hid hstop
    clear hstop Hn
    have hx0 : (s.extract 0 k).data.toList = s.data.toList.take k := take_list s k
    have hxz : (s.extract 0 k).size ≤ 1073741824 := by
     have e : (s.extract 0 k).data.toList.length = (s.extract 0 k).size := Array.length_toList
     rw [hx0, List.length_take] at e
     omega
    have Hx0 := Lib.hid hx0
    obtain ⟨q0, hq0⟩ : ∃ q0, s.extract 0 k = q0 := ⟨_, rfl⟩
    obtain ⟨q1, hq1⟩ : ∃ q1, s.extract k s.size = q1 := ⟨_, rfl⟩
    have Hq1 := Lib.hid (show q1.data.toList = s.data.toList.drop k by rw [← hq1]; exact drop_list s k)
    have Hq0 := Lib.hid (show q0.data.toList = s.data.toList.take k by rw [← hq0]; exact hx0)
    rw [hq0] at hxz
    clear hx0
    by_cases h17 : 17 < k
    ·have Hnone := Lib.hid (num_long (l := s.data.toList) (by rw [Hstop.out]; exact h17))
     go_wp2_with fail
     (refine (fail_any r q1 false _ Bxt).mono ?_); rintro e w2 ⟨rfl, hr2, h2⟩
     have h3 : Rd r wr w2 := ((Rd.refl _ _).set _ _).trans h2
     go_wp2_with fail
     (with_reducible apply bp_ret); (focus (go_light; simp [results, Tryz.results98, go_sem, *]; rfl))
     exact ⟨h3, 0, ⟨#[]⟩, true, rfl, hr2, .inr ⟨rfl, rfl, Hnone.out⟩⟩
    ·have hR : Rd r wr (wr.setCell ⟨r, 0, none⟩ (.string q1)) := (Rd.refl _ _).set _ _
     have hl2 : LibAt (wr.setCell ⟨r, 0, none⟩ (.string q1)) := hl.on hR.below |>.here
     have hrq : Sr (wr.setCell ⟨r, 0, none⟩ (.string q1)) r q1 false := Bxt
     by_cases hat : ∃ v, Lib.atoiAll q0.data.toList = .ok v
     ·obtain ⟨v, hv⟩ := hat
      have hrg := atoi_range hv
      obtain ⟨hv0, hv1⟩ := hrg
      have Hnum := Lib.hid (num_ok (l := s.data.toList) (v := v) (by rw [Hstop.out]; exact h17) (by rw [Hstop.out, ← Hq0.out]; exact hv))
      obtain ⟨q2, hq2⟩ : ∃ q2 : ByteArray, Lib.itoa v = q2.data.toList := ⟨⟨(Lib.itoa v).toArray⟩, by simp⟩
      have Hq2 := Lib.hid hq2
      have Hv := Lib.hid hv
      clear hv hq2
      go_wp2_with fail
      (refine (atoi_ok q0 hxz v Hv.out _).mono ?_); rintro e w2 ⟨rfl, h2⟩
      have hr2 := hrq.ext h2
      have hR2 : Rd r wr w2 := hR.ext hlt h2
      have hl3 := hl2.ext h2
      by_cases hne : q2.data.toList = q0.data.toList
      ·have hneb := neq_false hne
       have hnep : q2.toList = q0.toList := by rw [ByteArray.toList_eq, ByteArray.toList_eq, hne]
       by_cases hlo : v < -9007199254740992
       ·have Hnone := Lib.hid (show numL s.data.toList = none by rw [Hnum.out, if_neg (fun h => by omega)])
        have hlob : decide (v < -9007199254740992) = true := by simpa using hlo
        (try clear hne)
        go_wp2_with fail
        (refine (itoa_at v hv0 hv1 q2 Hq2.out _ hl3).mono ?_); rintro e w3 ⟨rfl, h3⟩
        have hr3 := hr2.ext h3
        have hR3 : Rd r wr w3 := hR2.ext hlt h3
        go_wp2_with fail
        (refine (fail_any r q1 false _ hr3).mono ?_); rintro e w4 ⟨rfl, hr4, h4⟩
        have h5 : Rd r wr w4 := hR3.trans h4
        go_wp2_with fail
        (with_reducible apply bp_ret); (focus (go_light; simp [results, Tryz.results98, go_sem, *]; rfl))
        exact ⟨h5, 0, ⟨#[]⟩, true, rfl, hr4, .inr ⟨rfl, rfl, Hnone.out⟩⟩
       ·have hlob : decide (v < -9007199254740992) = false := by simpa using hlo
        by_cases hhi : 9007199254740992 < v
        ·have Hnone := Lib.hid (show numL s.data.toList = none by rw [Hnum.out, if_neg (fun h => by omega)])
         have hhib : decide (9007199254740992 < v) = true := by simpa using hhi
         (try clear hne)
         go_wp2_with fail
         (refine (itoa_at v hv0 hv1 q2 Hq2.out _ hl3).mono ?_); rintro e w3 ⟨rfl, h3⟩
         have hr3 := hr2.ext h3
         have hR3 : Rd r wr w3 := hR2.ext hlt h3
         go_wp2_with fail
         (refine (fail_any r q1 false _ hr3).mono ?_); rintro e w4 ⟨rfl, hr4, h4⟩
         have h5 : Rd r wr w4 := hR3.trans h4
         go_wp2_with fail
         (with_reducible apply bp_ret); (focus (go_light; simp [results, Tryz.results98, go_sem, *]; rfl))
         exact ⟨h5, 0, ⟨#[]⟩, true, rfl, hr4, .inr ⟨rfl, rfl, Hnone.out⟩⟩
        ·have Hsome := Lib.hid (show numL s.data.toList = some (v, q1.data.toList) by rw [Hnum.out, if_pos ⟨by rw [Hq2.out, hne, Hq0.out, Hstop.out], by omega, by omega⟩, Hq1.out, Hstop.out])
         have hhib : decide (9007199254740992 < v) = false := by simpa using hhi
         clear hne
         go_wp2_with fail
         (refine (itoa_at v hv0 hv1 q2 Hq2.out _ hl3).mono ?_); rintro e w3 ⟨rfl, h3⟩
         have hr3 := hr2.ext h3
         have hR3 : Rd r wr w3 := hR2.ext hlt h3
         go_wp2_with fail
         (with_reducible apply bp_ret); (focus (go_light; simp [results, Tryz.results98, go_sem, *]; rfl))
         exact ⟨hR3, v, q1, false, rfl, hr3, .inl ⟨rfl, Hsome.out⟩⟩
      ·have hneb := neq_true hne
       have hnep : ¬ q2.toList = q0.toList := by rw [ByteArray.toList_eq, ByteArray.toList_eq]; exact hne
       have Hnone := Lib.hid (show numL s.data.toList = none by rw [Hnum.out, if_neg (fun h => hne (by rw [← Hq2.out, h.1, Hq0.out, Hstop.out]))])
       (try clear hne)
       go_wp2_with fail
       (refine (itoa_at v hv0 hv1 q2 Hq2.out _ hl3).mono ?_); rintro e w3 ⟨rfl, h3⟩
       have hr3 := hr2.ext h3
       have hR3 : Rd r wr w3 := hR2.ext hlt h3
       go_wp2_with fail
       (refine (fail_any r q1 false _ hr3).mono ?_); rintro e w4 ⟨rfl, hr4, h4⟩
       have h5 : Rd r wr w4 := hR3.trans h4
       go_wp2_with fail
       (with_reducible apply bp_ret); (focus (go_light; simp [results, Tryz.results98, go_sem, *]; rfl))
       exact ⟨h5, 0, ⟨#[]⟩, true, rfl, hr4, .inr ⟨rfl, rfl, Hnone.out⟩⟩
     ·have Hnone := Lib.hid (num_bad (l := s.data.toList) (by rw [Hstop.out]; exact h17) (fun v hv => hat ⟨v, by rw [Hq0.out]; rw [Hstop.out] at hv; exact hv⟩))
      have Hat := Lib.hid hat
      clear hat
      go_wp2_with fail
      (refine (atoi_bad q0 hxz (fun v hv => Hat.out ⟨v, hv⟩) _ hl2).mono ?_); rintro e w2 ⟨m2, N2, rfl, h2⟩
      have hr2 := hrq.ext h2
      have hR2 : Rd r wr w2 := hR.ext hlt h2
      go_wp2_with fail
      (refine (fail_any r q1 false _ hr2).mono ?_); rintro e w4 ⟨rfl, hr4, h4⟩
      have h5 : Rd r wr w4 := hR2.trans h4
      go_wp2_with fail
      (with_reducible apply bp_ret); (focus (go_light; simp [results, Tryz.results98, go_sem, *]; rfl))
      exact ⟨h5, 0, ⟨#[]⟩, true, rfl, hr4, .inr ⟨rfl, rfl, Hnone.out⟩⟩
end Go.Proofs.YtjibdbnpkfghhaaGreatDoor
