/- The walks of the reference's place and kid. -/
import Derived.Test.YtnbappeiebameaaGreatDoorDecR
import Derived.Test.YtnbappeiebameaaGreatDoorPkB
import Derived.Test.YtnbappeiebameaaGreatDoorPkD
set_option linter.all false
namespace Go.Proofs.YtnbappeiebameaaGreatDoor
open Go.RowKit
attribute [local go_sem ↓] Go.wp_at_zero Go.wp_at_succ

theorem digits_le {k : Nat} (h : k ≤ 9999) : (Lib.decDigits k).length ≤ 4 := by
  rw [Lib.decDigits_length]
  by_cases h1 : k < 10
  · rw [Lib.nDigits_small h1]; omega
  · rw [Lib.nDigits_big h1]
    by_cases h2 : k / 10 < 10
    · rw [Lib.nDigits_small h2]; omega
    · rw [Lib.nDigits_big h2]
      by_cases h3 : k / 10 / 10 < 10
      · rw [Lib.nDigits_small h3]; omega
      · rw [Lib.nDigits_big h3, Lib.nDigits_small (by omega)]; omega
theorem digits_gt {k : Nat} (h : (Lib.decDigits k).length ≤ 4) : k ≤ 9999 := by
  rw [Lib.decDigits_length] at h
  have h1 := Lib.lt_pow_nDigits k
  have h2 : 10 ^ Lib.nDigits k ≤ 10 ^ 4 := Nat.pow_le_pow_right (by omega) h
  have h3 : (10 : Nat) ^ 4 = 10000 := by decide
  omega
theorem idx_hit {name : ByteArray} {n k : Nat} (hd : name.data.toList ≠ [45]) (hk : k ≤ 9999) (h : Lib.decDigits k = name.data.toList) : idxV name n = some k := by
  have hl := digits_le hk
  have hs : name.data.toList.length = name.size := Array.length_toList
  have ha := atoi_itoa (k : Int) (by omega) (by omega)
  rw [Lib.itoa_nonneg, h] at ha
  unfold idxV
  rw [if_neg hd, ha]
  simp only
  rw [if_pos ⟨by rw [h] at hl; omega, by omega, by rw [Lib.itoa_nonneg, h]⟩]
  simp
theorem idx_miss {name : ByteArray} {n : Nat} (hd : name.data.toList ≠ [45]) (h : ∀ k, k ≤ 9999 → k ≤ n → Lib.decDigits k ≠ name.data.toList) {i : Nat} (hi : idxV name n = some i) : n < i := by
  have hs : name.data.toList.length = name.size := Array.length_toList
  unfold idxV at hi
  rw [if_neg hd] at hi
  split at hi
  · rename_i k hk
    split at hi
    · rename_i hc
      simp only [Option.some.injEq] at hi
      obtain ⟨u, rfl⟩ : ∃ u : Nat, k = (u : Int) := ⟨k.toNat, by omega⟩
      have hu : u = i := by simpa using hi
      subst hu
      rcases Nat.lt_or_ge n u with h1 | h1
      · exact h1
      · have h2 := hc.2.2
        rw [Lib.itoa_nonneg] at h2
        exact absurd h2 (h u (digits_gt (by rw [h2]; omega)) h1)
    · cases hi
  · cases hi
/-- The place that a name means, -1 if none. -/
def placeI (name : ByteArray) (n : Nat) : Int := match idxV name n with | some i => if i ≤ n then (i : Int) else -1 | none => -1
theorem place_hit {name : ByteArray} {n k : Nat} (hd : name.data.toList ≠ [45]) (hk : k ≤ 9999) (hn : k ≤ n) (h : Lib.decDigits k = name.data.toList) : placeI name n = k := by
  unfold placeI; rw [idx_hit hd hk h]; simp only; rw [if_pos hn]
theorem place_miss {name : ByteArray} {n : Nat} (hd : name.data.toList ≠ [45]) (h : ∀ k, k ≤ 9999 → k ≤ n → Lib.decDigits k ≠ name.data.toList) : placeI name n = -1 := by
  unfold placeI
  cases hi : idxV name n with
  | none => rfl
  | some i => simp only; rw [if_neg (by have := idx_miss hd h hi; omega)]
theorem place_dash (n : Nat) {name : ByteArray} (h : name.data.toList = [45]) : placeI name n = n := by
  unfold placeI idxV; rw [if_pos h]; simp
set_option maxRecDepth 100000 in
set_option maxHeartbeats 1000000 in
theorem place_any (name : ByteArray) (n : Nat) (hn : n ≤ 1073741824) (w : World) : Calls Tryz.prog 138 #[.string name, .int .i64 n] w fun e w' => e = .returned (.int .i64 (placeI name n)) ∧ Ext w w' := by
  by_cases hd : name.data.toList = [45]
  · have h1 : (name.toList == [45]) = true := by rw [ByteArray.toList_eq, hd]; rfl
    have hp := Lib.hid (place_dash n hd)
    clear hd
    go_enter Tryz.func138, Tryz.ntmps138
    go_wp2_with fail
    go_ret
    exact ⟨by rw [hp.out]; rfl, Xt⟩
  · have h1 : (name.toList == [45]) = false := by rw [ByteArray.toList_eq]; simpa using hd
    have Hd := Lib.hid hd
    clear hd
    go_enter Tryz.func138, Tryz.ntmps138
    go_wp2_with fail
    go_loopg [5] 10000 (fun g i wr => ∃ k : Nat, k ≤ 10000 ∧ k ≤ n + 1 ∧ i = .int .i64 k ∧ g = 10000 - k ∧ Hid (∀ j, j < k → Lib.decDigits j ≠ name.data.toList) ∧ Ext w wr)
    case atStart => exact ⟨0, by omega, by omega, rfl, rfl, Lib.hid (fun j hj => by omega), Xt⟩
    case round =>
      obtain ⟨k, hk, hk2, rfl, rfl, Hj, hx⟩ := hrel
      by_cases c1 : k ≤ 9999
      · have c1i : (k : Int) ≤ 9999 := by omega
        by_cases c2 : k ≤ n
        · have c2i : (k : Int) ≤ (n : Int) := by omega
          go_wp2_with fail
          (refine (decimal_any (k : Int) (by omega) (by omega) _).mono ?_)
          rintro e w1 ⟨q, rfl, hq, h1x⟩
          have hx1 : Ext w w1 := Xt
          rw [Lib.itoa_nonneg] at hq
          by_cases he : Lib.decDigits k = name.data.toList
          · have hb : (q.toList == name.toList) = true := by rw [ByteArray.toList_eq, ByteArray.toList_eq, hq, he]; simp
            have hp := Lib.hid (place_hit Hd.out c1 c2 he)
            clear hq he h1x
            go_wp2_with fail
            go_ret
            exact ⟨by rw [hp.out]; rfl, Xt⟩
          · have hb : (q.toList == name.toList) = false := by rw [ByteArray.toList_eq, ByteArray.toList_eq, hq]; simpa using he
            have He := Lib.hid he
            clear hq he h1x
            go_wp2_with fail
            go_roundg (10000 - (k + 1))
            case measure => omega
            case rel => exact ⟨k + 1, by omega, by omega, by go_num, rfl, Lib.hid (fun j hj => by
              by_cases h : j = k
              · subst h; exact He.out
              · exact Hj.out j (by omega)), Xt⟩
        · have c2i : ¬ (k : Int) ≤ (n : Int) := by omega
          have hp := Lib.hid (place_miss (n := n) Hd.out (fun j h3 h4 => Hj.out j (by omega)))
          go_wp2_with fail
          go_ret
          exact ⟨by rw [hp.out]; rfl, Xt⟩
      · have c1i : ¬ (k : Int) ≤ 9999 := by omega
        have hp := Lib.hid (place_miss (n := n) Hd.out (fun j h3 h4 => Hj.out j (by omega)))
        go_wp2_with fail
        go_ret
        exact ⟨by rw [hp.out]; rfl, Xt⟩

/-- Which item a name means, -1 if none. -/
def childI (x : V) (name : ByteArray) : Int := match x.child name with | some i => (i : Int) | none => -1
theorem childI_some {x : V} {name : ByteArray} {i : Nat} (h : x.child name = some i) : childI x name = i := by unfold childI; rw [h]
theorem childI_none {x : V} {name : ByteArray} (h : x.child name = none) : childI x name = -1 := by unfold childI; rw [h]
theorem child4 {x : V} (h4 : x.k = 4) (name : ByteArray) : childI x name = if placeI name x.l.length < x.l.length then placeI name x.l.length else -1 := by
  unfold childI V.child placeI
  rw [if_neg (by omega), if_pos h4]
  cases idxV name x.l.length with
  | none => simp
  | some i =>
    simp only [Option.bind_some]
    by_cases h : i < x.l.length
    · rw [if_pos h]; simp only; rw [if_pos (by omega), if_pos (by omega)]
    · rw [if_neg h]; simp only
      by_cases h2 : i ≤ x.l.length
      · rw [if_pos h2, if_neg (by omega)]
      · rw [if_neg h2]; split <;> rfl
theorem child5_hit {x : V} (hr : Rises x.keys) (h5 : x.k = 5) {name : ByteArray} {i : Nat} (hi : i < x.keys.length) (h : x.keys[i] = name) : childI x name = i := by
  apply childI_some
  unfold V.child
  rw [if_pos h5, if_pos (has_of_mem hr (h ▸ List.getElem_mem hi)), pos_of_at hr hi h]
theorem child5_miss {x : V} (h5 : x.k = 5) {name : ByteArray} (h : ∀ i (hi : i < x.keys.length), x.keys[i] ≠ name) : childI x name = -1 := by
  apply childI_none
  unfold V.child
  rw [if_pos h5, if_neg (fun hb => h _ (hasB_lt hb) (hasB_at hb))]
theorem child_other {x : V} (h4 : x.k ≠ 4) (h5 : x.k ≠ 5) (name : ByteArray) : childI x name = -1 := by
  apply childI_none
  unfold V.child
  rw [if_neg h5, if_neg h4]
set_option maxRecDepth 100000 in
set_option maxHeartbeats 1000000 in
theorem kid_any (x : V) (ka : Option Addr) (kc : Nat) (la : Option Addr) (lc : Nat) (S : Nat → Prop) (name : ByteArray) (w : World) (hr : x.k = 5 → Rises x.keys) (hsz : x.size ≤ 1073741824) (hin : x.In w S ka kc la lc) :
    Calls Tryz.prog 73 #[x.val ka kc la lc, .string name] w fun e w' => e = .returned (.int .i64 (childI x name)) ∧ Ext w w' := by
  have hl := x.len_l
  have hlk := x.len_keys
  by_cases h4 : x.k = 4
  · have h4b : (x.k == 4) = true := by simpa using h4
    have Hc := Lib.hid (child4 h4 name)
    obtain ⟨r, hrp⟩ : ∃ r, placeI name x.l.length = r := ⟨_, rfl⟩
    have Hp := Lib.hid hrp
    rw [hrp] at Hc
    clear h4 hrp
    by_cases hlt : r < x.l.length
    · go_enter Tryz.func73, Tryz.ntmps73
      go_wp2_with fail
      (refine (place_any name x.l.length (by omega) _).mono ?_)
      rw [Hp.out]
      rintro e w1 ⟨rfl, h1x⟩
      have hx1 : Ext w w1 := Xt
      have hB0 : Box w1 w.heap.size #[.int .i64 x.k, .int .i64 x.n, .string x.s, .slice ka x.keys.length kc, .slice la x.l.length lc] 25 := Box.ext h1x Bxt
      clear h1x
      have hc0 := hB0.cells; have hf0 := hB0.free; have hl0 := hB0.lt
      go_wp2_with fail
      go_ret
      exact ⟨by rw [Hc.out, if_pos hlt]; rfl, Xt⟩
    · go_enter Tryz.func73, Tryz.ntmps73
      go_wp2_with fail
      (refine (place_any name x.l.length (by omega) _).mono ?_)
      rw [Hp.out]
      rintro e w1 ⟨rfl, h1x⟩
      have hx1 : Ext w w1 := Xt
      have hB0 : Box w1 w.heap.size #[.int .i64 x.k, .int .i64 x.n, .string x.s, .slice ka x.keys.length kc, .slice la x.l.length lc] 25 := Box.ext h1x Bxt
      clear h1x
      have hc0 := hB0.cells; have hf0 := hB0.free; have hl0 := hB0.lt
      go_wp2_with fail
      go_ret
      exact ⟨by rw [Hc.out, if_neg (by omega)]; rfl, Xt⟩
  · have h4b : (x.k == 4) = false := by simpa using h4
    by_cases h5 : x.k = 5
    · have h5b : (x.k == 5) = true := by simpa using h5
      have Hr := Lib.hid (hr h5)
      have H5 := Lib.hid h5
      clear h4 h5 hr
      go_enter Tryz.func73, Tryz.ntmps73
      go_wp2_with fail
      go_loopg [6, 7, 28] x.keys.length (fun g _ _ i wr => ∃ k : Nat, k ≤ x.keys.length ∧ i = .int .i64 k ∧ g = x.keys.length - k ∧ Hid (∀ j (hj : j < x.keys.length), j < k → x.keys[j] ≠ name) ∧ Box wr w.heap.size #[.int .i64 x.k, .int .i64 x.n, .string x.s, .slice ka x.keys.length kc, .slice la x.l.length lc] 25 ∧ Ext w wr)
      case atStart => exact ⟨0, by omega, rfl, rfl, Lib.hid (fun j _ hj => by omega), Bxt, Xt⟩
      case round =>
        obtain ⟨k, hk, rfl, rfl, Hj, hB0, hx⟩ := hrel
        have hc0 := hB0.cells; have hf0 := hB0.free; have hl0 := hB0.lt
        by_cases hlt : k < x.keys.length
        · obtain ⟨b, o, rfl, hS, e0⟩ := (hin.ext hx).key hlt
          by_cases he : x.keys[k] = name
          · have heq : (x.keys[k].toList == name.toList) = true := by rw [he]; simp
            have Hc := Lib.hid (child5_hit Hr.out H5.out hlt he)
            clear he
            go_wp2_with fail
            go_ret
            exact ⟨by rw [Hc.out]; rfl, Xt⟩
          · have heq : (x.keys[k].toList == name.toList) = false := by simpa using fun h => he (bytes_ext h)
            have He := Lib.hid he
            clear he
            go_wp2_with fail
            go_roundg (x.keys.length - (k + 1))
            case measure => omega
            case rel => exact ⟨k + 1, by omega, by go_num, rfl, Lib.hid (fun j hj hjk => by
              by_cases h : j = k
              · subst h; exact He.out
              · exact Hj.out j hj (by omega)), Bxt, Xt⟩
        · have Hc := Lib.hid (child5_miss H5.out (fun i hi => Hj.out i hi (by omega)))
          go_wp2_with fail
          go_ret
          exact ⟨by rw [Hc.out]; rfl, Xt⟩
    · have h5b : (x.k == 5) = false := by simpa using h5
      have Hc := Lib.hid (child_other h4 h5 name)
      clear h4 h5
      go_enter Tryz.func73, Tryz.ntmps73
      go_wp2_with fail
      go_ret
      exact ⟨by rw [Hc.out]; rfl, Xt⟩
end Go.Proofs.YtnbappeiebameaaGreatDoor
