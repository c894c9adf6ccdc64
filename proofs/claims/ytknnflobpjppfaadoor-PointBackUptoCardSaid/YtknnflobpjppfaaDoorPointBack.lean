/- PointBack: for all names and every path the law returns true (a path of names is split into them, and the names of a path are joined to it); the arguments hold together at most 1048576 values and letters; the library's listed variables as its text lays them. -/
import Derived.Test.YtknnflobpjppfaaDoorPts3
import Derived.Test.YtknnflobpjppfaaDoorLaid
import Derived.Test.YtknnflobpjppfaaDoorOpenV
import Derived.HandedShaped
import Derived.SevenTiedAt
set_option linter.all false
namespace Go.Proofs.YtknnflobpjppfaaDoor.lawPointBack
open Go.ChangeShapes Go.WideShapes Go.ChangeAt Go.RowKit
open Go.ChangeMaps (open_string shut_string)

theorem datas_inj {a b : List ByteArray} (h : a.map (·.data.toList) = b.map (·.data.toList)) : a = b := by
  induction a generalizing b with
  | nil => cases b with | nil => rfl | cons => simp at h
  | cons x r ih =>
    cases b with
    | nil => simp at h
    | cons y t =>
      simp only [List.map_cons, List.cons.injEq] at h
      rw [ih h.2, bytes_ext (a := x) (b := y) (by rw [ByteArray.toList_eq, ByteArray.toList_eq, h.1])]
def minSum (l : List ByteArray) : Nat := (l.map fun q => min q.size 2000).sum
theorem minSum_take {l : List ByteArray} {k : Nat} (h : k < l.length) : minSum (l.take (k + 1)) = minSum (l.take k) + min (l[k]).size 2000 := by
  unfold minSum; rw [List.take_succ_eq_append_getElem h, List.map_append, List.sum_append]; simp only [List.map_cons, List.map_nil, List.sum_cons, List.sum_nil, Nat.add_zero]
theorem minSum_le (l : List ByteArray) : ∀ q ∈ l, min q.size 2000 ≤ minSum l := fun q hq => sum_ge (fun q : ByteArray => min q.size 2000) hq
theorem join_len (l : List ByteArray) (h : ∀ q ∈ l, q.size ≤ 2000) : (joinL (l.map (·.data.toList))).length ≤ l.length + 2 * minSum l := by
  induction l with
  | nil => simp [joinL]
  | cons q r ih =>
    have h1 := ih (fun x hx => h x (by simp [hx]))
    have h2 := escN_len q.data.toList
    have h3 : q.data.toList.length = q.size := Array.length_toList
    have h4 := h q (by simp)
    have e : minSum (q :: r) = min q.size 2000 + minSum r := by simp [minSum]
    rw [e]
    simp only [joinL, List.map_cons, List.flatMap_cons, List.cons_append, List.length_cons, List.length_append] at h1 ⊢
    omega
theorem unesc_len2 (s : List UInt8) : (unescN s).length ≤ s.length * 4 := by
  have h1 := rep_len s [126, 49] [47] (by simp) (by decide)
  have h2 := rep_len (Lib.replaceAll s [126, 49] [47]) [126, 48] [126] (by simp) (by decide)
  unfold unescN
  simp only [List.length_cons, List.length_nil] at h1 h2
  omega
theorem names_small {p : List UInt8} {l : List (List UInt8)} (h : namesL p = some l) : l.length ≤ 2001 ∧ ∀ q ∈ l, q.length ≤ 8000 := by
  unfold namesL at h
  cases p with
  | nil => simp at h; subst h; simp
  | cons c r =>
    simp only at h
    split at h
    · rename_i hc
      have hr : r.length ≤ 2000 := by have := hc.2; simp at this; omega
      split at h
      · simp only [Option.some.injEq] at h
        subst h
        refine ⟨by have := split_len r; simp; omega, fun q hq => ?_⟩
        obtain ⟨s, hs, rfl⟩ := List.mem_map.1 hq
        have := split_piece r s hs
        have := unesc_len2 s
        omega
      · cases h
    · cases h

set_option maxRecDepth 100000 in
set_option maxHeartbeats 16000000 in
theorem walk (a : Option Addr) (n cap : Nat) (ks : List ByteArray) (S : Nat → Prop) (p : ByteArray) (w : World) (hks : StrsIn w S a ks) (hn0 : ks.length = n) (hz : ∀ q ∈ ks, q.size ≤ 1048576) (hkl : ks.length ≤ 1048576) (hp : p.size ≤ 1048576) (hm : MaxAt w) :
    Calls Tryd.prog 4 #[.slice a n cap, .string p] w fun e w' => e = .returned (.bool true) ∧ Ext w w' := by
  subst hn0
  have Hz := Lib.hid hz
  clear hz
  go_enter Tryd.func4, Tryd.ntmps4
  go_wp2_with fail
  go_loopg [5, 7, 15] ks.length (fun g t5 _ i wr => ∃ k : Nat, k ≤ ks.length ∧ i = .int .i64 k ∧ g = ks.length - k ∧ t5 = .int .i64 (minSum (ks.take k) : Nat) ∧ minSum (ks.take k) ≤ k * 2000 ∧ Ext w wr)
  case atStart => exact ⟨0, by omega, rfl, rfl, rfl, by simp [minSum], Ext.refl _⟩
  case round =>
    obtain ⟨k, hk, rfl, rfl, rfl, hms, hx⟩ := hrel
    by_cases hlt : k < ks.length
    · obtain ⟨b, o, rfl, hS, hc⟩ := hks.resolve_left (by intro h; rw [h] at hlt; simp at hlt)
      have d0 := hx.cell (hc k hlt)
      have Hst := Lib.hid (minSum_take hlt)
      clear hc
      by_cases hmn : (ks[k]).size ≤ 2000
      · have hmi : ((ks[k]).size : Int) ≤ 2000 := by omega
        have Hmin := Lib.hid (show min (ks[k]).size 2000 = (ks[k]).size by omega)
        go_wp2_with fail
        go_roundg (ks.length - (k + 1))
        case measure => omega
        case rel => exact ⟨k + 1, by omega, by go_num, rfl, by rw [Hst.out, Hmin.out]; go_num, by rw [Hst.out, Hmin.out]; omega, (by with_reducible repeat (first | exact Ext.refl _ | assumption | apply Ext.drew | apply Ext.drewN | apply Ext.alloc | (refine Ext.setCell ?_ ?_ _; rotate_left; (focus (first | (simp; done) | (simp; omega) | omega))) | refine Ext.trans ?_ (by assumption)))⟩
      · have hmi : (2000 : Int) < ((ks[k]).size : Int) := by omega
        have Hmin := Lib.hid (show min (ks[k]).size 2000 = 2000 by omega)
        go_wp2_with fail
        go_roundg (ks.length - (k + 1))
        case measure => omega
        case rel => exact ⟨k + 1, by omega, by go_num, rfl, by rw [Hst.out, Hmin.out]; go_num, by rw [Hst.out, Hmin.out]; omega, (by with_reducible repeat (first | exact Ext.refl _ | assumption | apply Ext.drew | apply Ext.drewN | apply Ext.alloc | (refine Ext.setCell ?_ ?_ _; rotate_left; (focus (first | (simp; done) | (simp; omega) | omega))) | refine Ext.trans ?_ (by assumption)))⟩
    · obtain rfl : k = ks.length := by omega
      rw [List.take_length] at hms ⊢
      obtain ⟨ms, hmse⟩ : ∃ ms, minSum ks = ms := ⟨_, rfl⟩
      rw [hmse] at hms ⊢
      have Hmse := Lib.hid hmse
      clear hmse
      by_cases h900 : (900 : Int) < (ms : Int)
      · go_wp2_with fail
        (with_reducible refine (points_keep _ (hm.ext (by with_reducible repeat (first | exact Ext.refl _ | assumption | apply Ext.drew | apply Ext.drewN | apply Ext.alloc | (refine Ext.setCell ?_ ?_ _; rotate_left; (focus (first | (simp; done) | (simp; omega) | omega))) | refine Ext.trans ?_ (by assumption))))).mono ?_); rintro e w1 ⟨rfl, h1⟩; obtain ⟨hcw1, hfw1, hzw1⟩ := ext_facts h1; (try simp at hzw1); (try have hzAw1 : w.heap.size < w1.heap.size := by omega); (try have hzBw1 : w.heap.size + 1 < w1.heap.size := by omega); (try have hzCw1 : w.heap.size + 2 < w1.heap.size := by omega)
        go_wp2
        go_ret
        exact ⟨rfl, (by with_reducible repeat (first | exact Ext.refl _ | assumption | apply Ext.drew | apply Ext.drewN | apply Ext.alloc | (refine Ext.setCell ?_ ?_ _; rotate_left; (focus (first | (simp; done) | (simp; omega) | omega))) | refine Ext.trans ?_ (by assumption)))⟩
      have h900' : (ms : Int) ≤ 900 := by omega
      by_cases h60 : (60 : Int) < (ks.length : Int)
      · go_wp2_with fail
        (with_reducible refine (points_keep _ (hm.ext (by with_reducible repeat (first | exact Ext.refl _ | assumption | apply Ext.drew | apply Ext.drewN | apply Ext.alloc | (refine Ext.setCell ?_ ?_ _; rotate_left; (focus (first | (simp; done) | (simp; omega) | omega))) | refine Ext.trans ?_ (by assumption))))).mono ?_); rintro e w1 ⟨rfl, h1⟩; obtain ⟨hcw1, hfw1, hzw1⟩ := ext_facts h1; (try simp at hzw1); (try have hzAw1 : w.heap.size < w1.heap.size := by omega); (try have hzBw1 : w.heap.size + 1 < w1.heap.size := by omega); (try have hzCw1 : w.heap.size + 2 < w1.heap.size := by omega)
        go_wp2
        go_ret
        exact ⟨rfl, (by with_reducible repeat (first | exact Ext.refl _ | assumption | apply Ext.drew | apply Ext.drewN | apply Ext.alloc | (refine Ext.setCell ?_ ?_ _; rotate_left; (focus (first | (simp; done) | (simp; omega) | omega))) | refine Ext.trans ?_ (by assumption)))⟩
      have h60' : (ks.length : Int) ≤ 60 := by omega
      have hz2 : ∀ q ∈ ks, q.size ≤ 900 := fun q hq => by
        have := minSum_le ks q hq
        rw [Hmse.out] at this
        omega
      have hlen : (joinL (ks.map (·.data.toList))).length ≤ 2000 := by
        have := join_len ks (fun q hq => by have := hz2 q hq; omega)
        rw [Hmse.out] at this
        omega
      have Hnm := Lib.hid (names_join _ hlen)
      have Hlen := Lib.hid hlen
      have hz3 : ∀ i (h : i < ks.length), (ks[i]).size ≤ 2000000 := fun i h => by have := hz2 _ (List.getElem_mem h); omega
      have Hz3 := Lib.hid hz3
      clear hlen hz2 hz3 Hz
      go_wp2_with fail
      (refine (join_any a ks.length cap ks S _ (hks.ext (by with_reducible repeat (first | exact Ext.refl _ | assumption | apply Ext.drew | apply Ext.drewN | apply Ext.alloc | (refine Ext.setCell ?_ ?_ _; rotate_left; (focus (first | (simp; done) | (simp; omega) | omega))) | refine Ext.trans ?_ (by assumption)))) rfl Hz3.out (by omega) (hm.ext (by with_reducible repeat (first | exact Ext.refl _ | assumption | apply Ext.drew | apply Ext.drewN | apply Ext.alloc | (refine Ext.setCell ?_ ?_ _; rotate_left; (focus (first | (simp; done) | (simp; omega) | omega))) | refine Ext.trans ?_ (by assumption))))).mono ?_); rintro e w1 ⟨s, rfl, hs, h1⟩
      have Hs := Lib.hid hs
      have hx1 : Ext w w1 := (by with_reducible repeat (first | exact Ext.refl _ | assumption | apply Ext.drew | apply Ext.drewN | apply Ext.alloc | (refine Ext.setCell ?_ ?_ _; rotate_left; (focus (first | (simp; done) | (simp; omega) | omega))) | refine Ext.trans ?_ (by assumption)))
      have hss : s.size ≤ 1073741824 := by
        have e1 : s.size = s.data.toList.length := Array.length_toList.symm
        have e2 := Hlen.out
        rw [Hs.out] at e1
        omega
      clear hs h1
      go_wp2_with fail
      (refine (split_any s hss _ (hm.ext (by with_reducible repeat (first | exact Ext.refl _ | assumption | apply Ext.drew | apply Ext.drewN | apply Ext.alloc | (refine Ext.setCell ?_ ?_ _; rotate_left; (focus (first | (simp; done) | (simp; omega) | omega))) | refine Ext.trans ?_ (by assumption))))).mono ?_)
      rintro e w2 (⟨l2, a2, n2, c2, ks2, e1, rfl, e2, e3, hok2, hst2, h2⟩ | ⟨e1, -, -⟩)
      rotate_left
      · rw [Hs.out, Hnm.out] at e1; cases e1
      rw [Hs.out, Hnm.out] at e1
      obtain rfl := Option.some.inj e1
      obtain rfl := datas_inj e3.symm
      subst e2
      have hx2 : Ext w w2 := (by with_reducible repeat (first | exact Ext.refl _ | assumption | apply Ext.drew | apply Ext.drewN | apply Ext.alloc | (refine Ext.setCell ?_ ?_ _; rotate_left; (focus (first | (simp; done) | (simp; omega) | omega))) | refine Ext.trans ?_ (by assumption)))
      clear e1 e3 h2 hx1
      go_wp2_with fail
      (with_reducible refine (points_keep _ (hm.ext (by with_reducible repeat (first | exact Ext.refl _ | assumption | apply Ext.drew | apply Ext.drewN | apply Ext.alloc | (refine Ext.setCell ?_ ?_ _; rotate_left; (focus (first | (simp; done) | (simp; omega) | omega))) | refine Ext.trans ?_ (by assumption))))).mono ?_); rintro e w3 ⟨rfl, h3⟩; obtain ⟨hcw3, hfw3, hzw3⟩ := ext_facts h3; (try simp at hzw3); (try have hzAw3 : w.heap.size < w3.heap.size := by omega); (try have hzBw3 : w.heap.size + 1 < w3.heap.size := by omega); (try have hzCw3 : w.heap.size + 2 < w3.heap.size := by omega)
      have hx3 : Ext w w3 := (by with_reducible repeat (first | exact Ext.refl _ | assumption | apply Ext.drew | apply Ext.drewN | apply Ext.alloc | (refine Ext.setCell ?_ ?_ _; rotate_left; (focus (first | (simp; done) | (simp; omega) | omega))) | refine Ext.trans ?_ (by assumption)))
      have hks3 := hks.ext hx3
      have hst3 := hst2.ext h3
      clear h3 hcw3 hfw3 hst2 hks
      go_wp2_with fail
      go_loopg [10, 54] ks.length (fun g _ i wr => ∃ k : Nat, k ≤ ks.length ∧ i = .int .i64 k ∧ g = ks.length - k ∧ Ext w3 wr)
      case atStart => exact ⟨0, by omega, rfl, rfl, Ext.refl _⟩
      case round =>
        obtain ⟨k, hk, rfl, rfl, hxr⟩ := hrel
        by_cases hlt : k < ks.length
        · obtain ⟨b, o, rfl, hS, hc⟩ := hks3.resolve_left (by intro h; rw [h] at hlt; simp at hlt)
          obtain ⟨b2, o2, rfl, hS2, hc2⟩ := hst3.resolve_left (by intro h; rw [h] at hlt; simp at hlt)
          have d0 := hxr.cell (hc k hlt)
          have d1 := hxr.cell (hc2 k hlt)
          have hki0 : (0 : Int) ≤ (k : Int) := by omega
          have hki1 : (k : Int) < (ks.length : Int) := by omega
          clear hc hc2 hks3 hst3
          go_wp2_with fail
          go_quiet (fail)
          go_wp2_with fail
          go_roundg (ks.length - (k + 1))
          case measure => omega
          case rel => exact ⟨k + 1, by omega, by go_num, rfl, (by with_reducible repeat (first | exact Ext.refl _ | assumption | apply Ext.drew | apply Ext.drewN | apply Ext.alloc | (refine Ext.setCell ?_ ?_ _; rotate_left; (focus (first | (simp; done) | (simp; omega) | omega))) | refine Ext.trans ?_ (by assumption)))⟩
        · have hxw : Ext w wr := (by with_reducible repeat (first | exact Ext.refl _ | assumption | apply Ext.drew | apply Ext.drewN | apply Ext.alloc | (refine Ext.setCell ?_ ?_ _; rotate_left; (focus (first | (simp; done) | (simp; omega) | omega))) | refine Ext.trans ?_ (by assumption)))
          clear hks3 hst3 hxr
          go_wp2_with fail
          (refine (split_any p (by omega) _ (hm.ext (by with_reducible repeat (first | exact Ext.refl _ | assumption | apply Ext.drew | apply Ext.drewN | apply Ext.alloc | (refine Ext.setCell ?_ ?_ _; rotate_left; (focus (first | (simp; done) | (simp; omega) | omega))) | refine Ext.trans ?_ (by assumption))))).mono ?_)
          rintro e w4 (⟨l4, a4, n4, c4, ks4, e1, rfl, e2, e3, hok4, hst4, h4⟩ | ⟨e1, rfl, h4⟩)
          · have hx4 : Ext w w4 := (by with_reducible repeat (first | exact Ext.refl _ | assumption | apply Ext.drew | apply Ext.drewN | apply Ext.alloc | (refine Ext.setCell ?_ ?_ _; rotate_left; (focus (first | (simp; done) | (simp; omega) | omega))) | refine Ext.trans ?_ (by assumption)))
            have hsm := names_small e1
            have hjn := join_names e1
            have hz4 : ∀ i (h : i < ks4.length), (ks4[i]).size ≤ 2000000 := fun i h => by
              have h5 := hsm.2 (ks4[i]).data.toList (by rw [← e3]; exact List.mem_map_of_mem (List.getElem_mem h))
              have h6 : (ks4[i]).data.toList.length = (ks4[i]).size := Array.length_toList
              omega
            have hn4 : n4 ≤ 2000000 := by
              have := hsm.1
              rw [← e3] at this
              simp at this
              omega
            have Hz4 := Lib.hid hz4
            have Hjn := Lib.hid hjn
            have He3 := Lib.hid e3
            have He2 := Lib.hid e2
            clear hsm hjn hz4 e1 e3 e2 h4
            go_wp2_with fail
            (refine (join_any a4 n4 c4 ks4 _ _ (hst4.ext (by with_reducible repeat (first | exact Ext.refl _ | assumption | apply Ext.drew | apply Ext.drewN | apply Ext.alloc | (refine Ext.setCell ?_ ?_ _; rotate_left; (focus (first | (simp; done) | (simp; omega) | omega))) | refine Ext.trans ?_ (by assumption)))) He2.out Hz4.out hn4 (hm.ext (by with_reducible repeat (first | exact Ext.refl _ | assumption | apply Ext.drew | apply Ext.drewN | apply Ext.alloc | (refine Ext.setCell ?_ ?_ _; rotate_left; (focus (first | (simp; done) | (simp; omega) | omega))) | refine Ext.trans ?_ (by assumption))))).mono ?_); rintro e w5 ⟨s5, rfl, hs5, h5⟩
            have hsp : s5 = p := bytes_ext (by rw [ByteArray.toList_eq, ByteArray.toList_eq, hs5, He3.out, Hjn.out])
            subst hsp
            go_wp2
            go_ret
            exact ⟨ret_bool (by simp), (by with_reducible repeat (first | exact Ext.refl _ | assumption | apply Ext.drew | apply Ext.drewN | apply Ext.alloc | (refine Ext.setCell ?_ ?_ _; rotate_left; (focus (first | (simp; done) | (simp; omega) | omega))) | refine Ext.trans ?_ (by assumption)))⟩
          · have hx4 : Ext w w4 := (by with_reducible repeat (first | exact Ext.refl _ | assumption | apply Ext.drew | apply Ext.drewN | apply Ext.alloc | (refine Ext.setCell ?_ ?_ _; rotate_left; (focus (first | (simp; done) | (simp; omega) | omega))) | refine Ext.trans ?_ (by assumption)))
            go_wp2
            go_ret
            exact ⟨ret_bool (by simp), (by with_reducible repeat (first | exact Ext.refl _ | assumption | apply Ext.drew | apply Ext.drewN | apply Ext.alloc | (refine Ext.setCell ?_ ?_ _; rotate_left; (focus (first | (simp; done) | (simp; omega) | omega))) | refine Ext.trans ?_ (by assumption)))⟩

set_option maxRecDepth 100000 in
theorem lifted (os : Os) (started : os.Started) (H : Type) (enc : TypeId × Value → H) (F : Stop.Interp) :
    ReturnsInHanded {} Tryd.checked os 4 .any ((Rows.OpenSpec.upto Rows.pointBackSpec).preRow enc Tryd.prog Tryd.f4 Rows.pointBackUptoRow.domain false Rows.pointBackUptoRow.laid) (((Rows.OpenSpec.upto Rows.pointBackSpec).at F).post enc Tryd.prog Tryd.f4 false true false false) := by
  obtain ⟨places, hx⟩ : ∃ places, DataW.whole enc Tryd.prog ((start.laidWorld os).forCall (fun _ _ => 0) ⟨#[], #[.slice none 0 0, .string ⟨#[]⟩], []⟩).memory Tryd.f4.params.toList Rows.pointBackSpec.vars false (#[Value.slice none 0 0, .string ⟨#[]⟩]).toList 8 = some ([.nil, .lit (.string [])], [], places) := ⟨[], by kernel_rfl⟩
  refine returnsInHanded_of_row (C := Tryd.checked) (s := Rows.OpenSpec.upto Rows.pointBackSpec) Tryd.own started (by kernel_rfl) Tryd.func4
    (witness_row_atRef (enc := enc) (C := Tryd.checked) false (start.laidWorld os) #[.slice none 0 0, .string ⟨#[]⟩] rfl (by kernel_rfl) (by kernel_rfl) (by kernel_rfl)
      (OpenSpec.preRow_of_cond 8 hx (by kernel_rfl) (fun k hk => by cases hk; kernel_rfl) (by kernel_rfl) (start.laid_met os _))) ?_
  intro W base args ds gs before hval0 hW _ hk _ _ hsh _
  have hkb := hk _ rfl
  have hval : ∀ (j : Nat) t v, Tryd.f4.params[j]? = some t → args[j]? = some v → Value.okWide Tryd.prog W .any base t v := hval0
  have hW' := hW
  obtain ⟨p, q, hA0, hV, rfl, hfz, hnd⟩ := hW
  have hA : DataW.TrodAll enc Tryd.prog W 0 (fun _ => true) true Tryd.f4.params.toList args.toList ds p := hA0
  rw [Tryd.params4] at hA hval
  obtain ⟨v0, vs0, d0, ds0, p0, q0, hargs, rfl, rfl, h0, r0⟩ := trodAll_cons hA
  obtain ⟨v1, vs1, d1, ds1, p1, q1, rfl, rfl, rfl, h1, r1⟩ := trodAll_cons r0
  obtain ⟨rfl, rfl, rfl⟩ := trodAll_nil r1
  obtain rfl : args = #[v0, v1] := by cases args; simp_all
  obtain ⟨rfl, rfl⟩ := trodVars_none hV
  have hbulk : Rows.uptoBulkAll [d0, d1] ≤ 1048576 := by simpa [Rows.uptoSmall] using hkb
  have k0 := h0
  have k1 := h1
  have lt0 : ∀ x ∈ p0, x.block < W.heap.size := by obtain ⟨m, hm⟩ := k0; exact DataW.trod_lt m _ _ _ hm
  have lt1 : ∀ x ∈ p1, x.block < W.heap.size := by obtain ⟨m, hm⟩ := k1; exact DataW.trod_lt m _ _ _ hm
  obtain ⟨m, hm⟩ := Tryd.laysM146.s1_3 W hsh
  have hmax : MaxAt W := ⟨m, hm⟩
  obtain ⟨a, len, cap, rfl⟩ := okWide_slice Tryd.underlying22 (hval 0 22 v0 rfl rfl)
  obtain ⟨fuel, hf⟩ := h0
  obtain ⟨a', cap', ks, hc, hok, hst, hb⟩ := open_texts hf
  simp only [Value.slice.injEq] at hc
  obtain ⟨rfl, rfl, rfl⟩ := hc
  obtain ⟨s, rfl, rfl, rfl, ws⟩ := open_string Tryd.underlying9 (hval 1 9 v1 rfl rfl) h1
  simp only [Rows.uptoBulkAll, Rows.uptoBulk] at hbulk hb
  have hs : s.size ≤ 1048576 := by
    have : s.data.toList.length = s.size := Array.length_toList
    omega
  have hks : ∀ q ∈ ks, q.size ≤ 1048576 := fun q hq => by
    have h1 := sum_ge (fun k : ByteArray => k.size + 1) hq
    have h2 : strsSize ks = (ks.map fun k => k.size + 1).sum := rfl
    omega
  have hkl : ks.length ≤ 1048576 := by
    have h1 := sum_len (fun k : ByteArray => k.size + 1) (fun _ => by omega) ks
    have h2 : strsSize ks = (ks.map fun k => k.size + 1).sum := rfl
    omega
  clear hA0 hval0
  refine (walk a ks.length cap ks _ s W hst rfl hks hkl hs hmax).mono fun e W' ⟨he, bel⟩ => ?_
  subst he
  exact ⟨_, rfl, _, _, _, [], _, [], hW', trodAll_mk1 (shut_bool Tryd.underlying4 _), (trodAll_cons_mk (Below.trod Tryd.laidOut (by kernel_rfl) (of_decide_eq_true (by kernel_rfl)) k0 bel lt0) (trodAll_cons_mk (Below.trod Tryd.laidOut (by kernel_rfl) (of_decide_eq_true (by kernel_rfl)) k1 bel lt1) trodAll_mk0)), rfl, Below.frame bel _, fun h => by cases h⟩

theorem said : Rows.PointBackUptoSaid :=
  OpenClaim.holds_of_cond 4 Tryd.f4 rfl rfl rfl rfl rfl rfl rfl ⟨rfl, rfl, rfl, rfl, rfl⟩ rfl rfl rfl rfl rfl (by kernel_rfl) Tryd.func4 (by kernel_rfl)
    (of_decide_eq_true (by kernel_rfl)) (by unfold Func.isWrapper; first | (rw [if_pos (by decide +kernel)]; kernel_rfl) | (rw [if_neg (by decide +kernel)]; exact ⟨rfl, rfl⟩))
    (fun os started H enc _ F => by rw [OpenClaim.pre_eq_preRow]; exact lifted os started H enc F)

theorem plain (f : FuncId) (fn : Func) (hf : Tryd.pinned.checked.prog.funcNamed "stairwell/stairwellkeep.PointBack" = some f) (hfn : Tryd.pinned.checked.prog.funcs[f]? = some fn) :
    true = Tryd.pinned.checked.prog.looks [] ∧ ∀ (j : Nat) t, fn.params[j]? = some t → Tryd.pinned.checked.prog.wantsStandIn t = false := by
  obtain rfl : f = 4 := Option.some.inj ((show Tryd.prog.funcNamed "stairwell/stairwellkeep.PointBack" = some 4 by kernel_rfl).symm.trans hf) |>.symm
  obtain rfl : fn = Tryd.f4 := (Option.some.inj (Tryd.func4.symm.trans hfn)).symm
  refine ⟨by kernel_rfl, fun j t ht => ?_⟩
  rw [Tryd.params4] at ht
  have h : t = 22 ∨ t = 9 := by simpa using Array.mem_of_getElem? ht
  rcases h with rfl | rfl
  · exact (show Tryd.prog.wantsStandIn 22 = false by kernel_rfl)
  · exact (show Tryd.prog.wantsStandIn 9 = false by kernel_rfl)

theorem proved : Rows.PointBackUptoCardSaid :=
  Claim7.holds_tied_plain_at .later [] _ _ _ _ said (fun _ h => by cases h) (by kernel_rfl) (fun _ h => by cases h) pointBackUpto_row_tie rfl ⟨rfl, rfl⟩ (by kernel_rfl) rfl plain (by kernel_rfl)
end Go.Proofs.YtknnflobpjppfaaDoor.lawPointBack
