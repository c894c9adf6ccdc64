/- The walk of json.Same: are two values alike? -/
import Derived.Test.YtjibdbnpkfghhaaGreatDoorPkA
import Derived.Test.YtjibdbnpkfghhaaGreatDoorPkD
import Derived.Deep.RegionHeld3
import Derived.Deep.DrawnRows
set_option linter.all false
namespace Go.Proofs.YtjibdbnpkfghhaaGreatDoor
open Go.RowKit
attribute [local go_sem ↓] Go.wp_at_zero Go.wp_at_succ
theorem take_eq {α : Type} {l m : List α} {k : Nat} (h1 : k < l.length) (h2 : k < m.length) (h : l.take k = m.take k) (e : l[k] = m[k]) : l.take (k + 1) = m.take (k + 1) := by
 rw [List.take_succ_eq_append_getElem h1, List.take_succ_eq_append_getElem h2, h, e]
def RetEq (p : Prop) (w : World) (e : Ending) (w' : World) : Prop := ∃ b : Bool, e = .returned (.bool b) ∧ (b = true ↔ p) ∧ Ext w w'
theorem equalS_any (n m ca cb : Nat) (a b : Option Addr) (ks js : List ByteArray) (S T : Nat → Prop) (w : World) (hn : Hid (ks.length = n)) (hm : Hid (js.length = m)) (h1 : StrsIn w S a ks) (h2 : StrsIn w T b js) (hb : n ≤ 1073741824) :
  Calls Tryz.prog 119 #[.slice a n ca, .slice b m cb] w (RetEq (ks = js) w) := by
 by_cases hnm : n = m
 ·subst hnm
  go_enter Tryz.func119, Tryz.ntmps119
  go_wp2_with fail
  go_loopg [5, 13] n (fun g _ i wr => ∃ k : Nat, k ≤ n ∧ i = .int .i64 k ∧ g = n - k ∧ Hid (ks.take k = js.take k) ∧ Ext w wr)
  case atStart => exact ⟨0, by omega, rfl, rfl, Lib.hid (by simp), Xt⟩
  case round =>
   obtain ⟨k, hk, rfl, rfl, Ht, hx⟩ := hrel
   by_cases hlt : k < n
   ·have hl1 : k < ks.length := by rw [hn.out]; exact hlt
    have hl2 : k < js.length := by rw [hm.out]; exact hlt
    obtain ⟨b1, o1, rfl, -, c1⟩ := h1.resolve_left (by intro e; subst e; simp at hl1)
    obtain ⟨b2, o2, rfl, -, c2⟩ := h2.resolve_left (by intro e; subst e; simp at hl2)
    have d0 := hx.cell (c1 k hl1)
    have d1 := hx.cell (c2 k hl2)
    clear c1 c2
    have hki0 : (0 : Int) ≤ (k : Int) := by omega
    have hki1 : (k : Int) < (n : Int) := by omega
    by_cases he : ks[k] = js[k]
    ·have heb : (ks[k].toList != js[k].toList) = false := by rw [he]; simp
     have hec : (ks[k].toList == js[k].toList) = true := by rw [he]; simp
     have hed : ks[k].toList = js[k].toList := by rw [he]
     have Ht2 := Lib.hid (take_eq hl1 hl2 Ht.out he)
     clear he
     go_wp2_with fail
     go_quiet (fail)
     go_wp2_with fail
     go_roundg (n - (k + 1))
     case measure => omega
     case rel => exact ⟨k + 1, by omega, by go_num, rfl, Ht2, Xt⟩
    ·have heb : (ks[k].toList != js[k].toList) = true := by simpa using fun h => he (bytes_ext h)
     have hec : (ks[k].toList == js[k].toList) = false := by simpa using fun h => he (bytes_ext h)
     have hed : ¬ ks[k].toList = js[k].toList := fun h => he (bytes_ext h)
     have He := Lib.hid he
     clear he
     go_wp2_with fail
     go_quiet (fail)
     go_wp2_with fail
     go_ret
     exact ⟨_, rfl, ⟨fun h => by (first | cases h | simp at h), fun h => absurd (by simp only [h]) He.out⟩, Xt⟩
   ·have Hend := Lib.hid (show ks = js by
     have := Ht.out
     rwa [List.take_of_length_le (by rw [hn.out]; omega), List.take_of_length_le (by rw [hm.out]; omega)] at this)
    go_wp2_with fail
    go_ret
    exact ⟨_, rfl, ⟨fun _ => Hend.out, fun _ => rfl⟩, Xt⟩
 ·have hnb : ((n : Int) != (m : Int)) = true := by simp; omega
  have hnc : ((n : Int) == (m : Int)) = false := by simp; omega
  have Hne := Lib.hid (show ks ≠ js from fun h => hnm (by rw [← hn.out, ← hm.out, h]))
  clear hnm
  go_enter Tryz.func119, Tryz.ntmps119
  go_wp2_with fail
  go_ret
  exact ⟨_, rfl, ⟨fun h => by (first | cases h | simp at h), fun h => absurd h Hne.out⟩, Xt⟩
def SameC (m : Nat) : Prop := ∀ (x y : V) (ka : Option Addr) (kc : Nat) (la : Option Addr) (lc : Nat) (S : Nat → Prop) (kb : Option Addr) (kd : Nat) (lb : Option Addr) (ld : Nat) (T : Nat → Prop) (w : World), x.size ≤ m → x.size ≤ 1073741824 → y.size ≤ 1073741824 → x.In w S ka kc la lc → y.In w T kb kd lb ld →
 Calls Tryz.prog 70 #[x.val ka kc la lc, y.val kb kd lb ld] w (RetEq (x = y) w)
theorem eqFunc_any (q : Nat) (ih : SameC q) (n m ca cb : Nat) (a b : Option Addr) (l t : List V) (S T : Nat → Prop) (w : World) (hn : Hid (l.length = n)) (hm : Hid (t.length = m)) (h1 : Rows w S l a) (h2 : Rows w T t b) (hb : n ≤ 1073741824) (hs1 : Hid (∀ x ∈ l, x.size ≤ q ∧ x.size ≤ 1073741824)) (hs2 : Hid (∀ x ∈ t, x.size ≤ 1073741824)) :
  Calls Tryz.prog 120 #[.slice a n ca, .slice b m cb, .func (.func 70) #[] #[]] w (RetEq (l = t) w) := by
 have Ih := Lib.hid ih
 clear ih
 by_cases hnm : n = m
 ·subst hnm
  go_enter Tryz.func120, Tryz.ntmps120
  go_wp2_with fail
  go_loopg [7, 8, 9, 17] n (fun g _ _ _ i wr => ∃ k : Nat, k ≤ n ∧ i = .int .i64 k ∧ g = n - k ∧ Hid (l.take k = t.take k) ∧ Ext w wr)
  case atStart => exact ⟨0, by omega, rfl, rfl, Lib.hid (by simp), Xt⟩
  case round =>
   obtain ⟨k, hk, rfl, rfl, Ht, hx⟩ := hrel
   by_cases hlt : k < n
   ·have hl1 : k < l.length := by rw [hn.out]; exact hlt
    have hl2 : k < t.length := by rw [hm.out]; exact hlt
    obtain ⟨b1, o1, rfl, -, c1⟩ := h1.resolve_left (by intro e; subst e; simp at hl1)
    obtain ⟨b2, o2, rfl, -, c2⟩ := h2.resolve_left (by intro e; subst e; simp at hl2)
    obtain ⟨ka1, kc1, la1, lc1, ⟨d0, d1, d2, d3, d4⟩, hin1⟩ := (c1 k hl1).ext hx
    obtain ⟨ka2, kc2, la2, lc2, ⟨g0, g1, g2, g3, g4⟩, hin2⟩ := (c2 k hl2).ext hx
    have Hin1 := Lib.hid hin1
    have Hin2 := Lib.hid hin2
    clear c1 c2 hin1 hin2
    have hki0 : (0 : Int) ≤ (k : Int) := by omega
    have hki1 : (k : Int) < (n : Int) := by omega
    have hz1 := hs1.out _ (List.getElem_mem hl1)
    have hz2 := hs2.out _ (List.getElem_mem hl2)
    have hb1 : b1 < wr.heap.size := cell_lt d0
    have hb2 : b2 < wr.heap.size := cell_lt g0
    go_wp2_with fail
    (refine (Ih.out l[k] t[k] ka1 kc1 la1 lc1 S ka2 kc2 la2 lc2 T _ hz1.1 hz1.2 hz2 (Hin1.out.ext Xt) (Hin2.out.ext Xt)).mono ?_)
    rintro e w1 ⟨r, rfl, hr, h1x⟩
    have Hr := Lib.hid hr
    have hx1 : Ext w w1 := Xt
    clear hr h1x
    cases r with
    | true =>
     have Ht2 := Lib.hid (take_eq hl1 hl2 Ht.out (Hr.out.1 (by trivial)))
     go_wp2_with fail
     go_roundg (n - (k + 1))
     case measure => omega
     case rel => exact ⟨k + 1, by omega, by go_num, rfl, Ht2, Xt⟩
    | false =>
     have He := Lib.hid (show l[k] ≠ t[k] from fun h => by have := Hr.out.2 h; cases this)
     go_wp2_with fail
     go_ret
     exact ⟨_, rfl, ⟨fun h => by (first | cases h | simp at h), fun h => absurd (by simp only [h]) He.out⟩, Xt⟩
   ·have Hend := Lib.hid (show l = t by
     have := Ht.out
     rwa [List.take_of_length_le (by rw [hn.out]; omega), List.take_of_length_le (by rw [hm.out]; omega)] at this)
    go_wp2_with fail
    go_ret
    exact ⟨_, rfl, ⟨fun _ => Hend.out, fun _ => rfl⟩, Xt⟩
 ·have hnb : ((n : Int) != (m : Int)) = true := by simp; omega
  have hnc : ((n : Int) == (m : Int)) = false := by simp; omega
  have Hne := Lib.hid (show l ≠ t from fun h => hnm (by rw [← hn.out, ← hm.out, h]))
  clear hnm
  go_enter Tryz.func120, Tryz.ntmps120
  go_wp2_with fail
  go_ret
  exact ⟨_, rfl, ⟨fun h => by (first | cases h | simp at h), fun h => absurd h Hne.out⟩, Xt⟩
theorem V.ext' {x y : V} (h1 : x.k = y.k) (h2 : x.n = y.n) (h3 : x.s = y.s) (h4 : x.keys = y.keys) (h5 : x.l = y.l) : x = y := by
 rw [← V.eta x, ← V.eta y, h1, h2, h3, h4, h5]
set_option maxRecDepth 100000 in
set_option maxHeartbeats 4000000 in
theorem same_val (m : Nat) : SameC m := by
 induction m with
 | zero => intro x _ _ _ _ _ _ _ _ _ _ _ _ h; have := x.size_pos; omega
 | succ m ih =>
  intro x y ka kc la lc S kb kd lb ld T w hm hsz hsy hin hjn
  have hl := x.len_l
  have hlk := x.len_keys
  have Hin := Lib.hid hin
  have Hjn := Lib.hid hjn
  have Hs1 := Lib.hid (show ∀ z ∈ x.l, z.size ≤ m ∧ z.size ≤ 1073741824 from fun z hz => by have := V.size_mem hz; omega)
  have Hs2 := Lib.hid (show ∀ z ∈ y.l, z.size ≤ 1073741824 from fun z hz => by have := V.size_mem hz; omega)
  clear hin hjn
  by_cases hk : x.k = y.k
  ·have hkb : (x.k == y.k) = true := by simpa using hk
   by_cases hn : x.n = y.n
   ·have hnb : (x.n == y.n) = true := by simpa using hn
    by_cases hs : x.s = y.s
    ·have hsb : (x.s.toList == y.s.toList) = true := by rw [hs]; simp
     have hsc : x.s.toList = y.s.toList := by rw [hs]
     have Hk := Lib.hid hk
     have Hn := Lib.hid hn
     have Hs := Lib.hid hs
     clear hk hn hs
     go_enter Tryz.func70, Tryz.ntmps70
     go_wp2_with fail
     (refine (equalS_any x.keys.length y.keys.length kc kd ka kb x.keys y.keys S T _ (Lib.hid rfl) (Lib.hid rfl) ((V.in_iff ..).1 (Hin.out.ext Xt)).2.2.1 ((V.in_iff ..).1 (Hjn.out.ext Xt)).2.2.1 (by omega)).mono ?_)
     rintro e w1 ⟨r, rfl, hr, h1⟩
     have Hr := Lib.hid hr
     have hB0 : Box w1 w.heap.size #[.int .i64 x.k, .int .i64 x.n, .string x.s, .slice ka x.keys.length kc, .slice la x.l.length lc] 25 := Box.ext h1 Bxt
     have hB1 : Box w1 (w.heap.size + 1) #[.int .i64 y.k, .int .i64 y.n, .string y.s, .slice kb y.keys.length kd, .slice lb y.l.length ld] 25 := Box.ext h1 Bxt
     have hx1 : Ext w w1 := Xt
     clear hr h1
     cases r with
     | true =>
      have hc0 := hB0.cells; have hf0 := hB0.free; have hl0 := hB0.lt
      have hc1 := hB1.cells; have hf1 := hB1.free; have hl1 := hB1.lt
      go_wp2_with fail
      (refine (eqFunc_any m ih x.l.length y.l.length lc ld la lb x.l y.l S T _ (Lib.hid rfl) (Lib.hid rfl) ((V.in_iff ..).1 (Hin.out.ext Xt)).2.2.2 ((V.in_iff ..).1 (Hjn.out.ext Xt)).2.2.2 (by omega) Hs1 Hs2).mono ?_)
      rintro e w2 ⟨r2, rfl, hr2, h2⟩
      have Hr2 := Lib.hid hr2
      have hx2 : Ext w w2 := Xt
      clear hr2 h2 hc0 hf0 hl0 hc1 hf1 hl1
      cases r2 with
      | true =>
       go_wp2_with fail
       go_ret
       exact ⟨_, rfl, ⟨fun _ => V.ext' Hk.out Hn.out Hs.out (Hr.out.1 (by trivial)) (Hr2.out.1 (by trivial)), fun _ => rfl⟩, Xt⟩
      | false =>
       go_wp2_with fail
       go_ret
       exact ⟨_, rfl, ⟨fun h => by (first | cases h | simp at h), fun h => by have := Hr2.out.2 (by rw [h]); cases this⟩, Xt⟩
     | false =>
      go_wp2_with fail
      go_ret
      exact ⟨_, rfl, ⟨fun h => by (first | cases h | simp at h), fun h => by have := Hr.out.2 (by rw [h]); cases this⟩, Xt⟩
    ·have hsb : (x.s.toList == y.s.toList) = false := by simpa using fun h => hs (bytes_ext h)
     have hsc : ¬ x.s.toList = y.s.toList := fun h => hs (bytes_ext h)
     have Hs := Lib.hid hs
     clear hk hn hs
     go_enter Tryz.func70, Tryz.ntmps70
     go_wp2_with fail
     go_ret
     exact ⟨_, rfl, ⟨fun h => by (first | cases h | simp at h), fun h => absurd (by rw [h]) Hs.out⟩, Xt⟩
   ·have hnb : (x.n == y.n) = false := by simpa using hn
    have Hn := Lib.hid hn
    clear hk hn
    go_enter Tryz.func70, Tryz.ntmps70
    go_wp2_with fail
    go_ret
    exact ⟨_, rfl, ⟨fun h => by (first | cases h | simp at h), fun h => absurd (by rw [h]) Hn.out⟩, Xt⟩
  ·have hkb : (x.k == y.k) = false := by simpa using hk
   have Hk := Lib.hid hk
   clear hk
   go_enter Tryz.func70, Tryz.ntmps70
   go_wp2_with fail
   go_ret
   exact ⟨_, rfl, ⟨fun h => by (first | cases h | simp at h), fun h => absurd (by rw [h]) Hk.out⟩, Xt⟩
theorem sameJ_any (x y : V) (ka : Option Addr) (kc : Nat) (la : Option Addr) (lc : Nat) (S : Nat → Prop) (kb : Option Addr) (kd : Nat) (lb : Option Addr) (ld : Nat) (T : Nat → Prop) (w : World) (hsz : x.size ≤ 1073741824) (hsy : y.size ≤ 1073741824) (hin : x.In w S ka kc la lc) (hjn : y.In w T kb kd lb ld) :
  Calls Tryz.prog 70 #[x.val ka kc la lc, y.val kb kd lb ld] w fun e w' => e = .returned (.bool (x.same y)) ∧ Ext w w' := by
 refine (same_val x.size x y ka kc la lc S kb kd lb ld T w (Nat.le_refl _) hsz hsy hin hjn).mono ?_
 rintro e w' ⟨b, rfl, hb, hx⟩
 refine ⟨?_, hx⟩
 have : b = x.same y := by rw [Bool.eq_iff_iff, hb, same_iff]
 rw [this]
end Go.Proofs.YtjibdbnpkfghhaaGreatDoor
