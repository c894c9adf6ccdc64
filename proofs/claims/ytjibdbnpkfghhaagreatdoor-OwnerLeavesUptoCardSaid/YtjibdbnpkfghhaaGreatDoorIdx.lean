/- The walks of point.index and point.child, over the library's Atoi, Itoa, BinarySearch. -/
import Derived.Test.YtjibdbnpkfghhaaGreatDoorPkG
import Derived.Test.YtjibdbnpkfghhaaGreatDoorPkA
import Derived.Test.YtjibdbnpkfghhaaGreatDoorPkE
import Derived.Lib.AppendIntMem
import Derived.Lib.SmallJoins
set_option linter.all false
namespace Go.Proofs.YtjibdbnpkfghhaaGreatDoor
open Go.RowKit
structure LibAt (w : World) : Prop where
 max : MaxAt w
 es : ∃ ev, w.cell? ⟨3, 0, none⟩ = some ev ∧ (ev = .nilIface ∨ ∃ te pe, ev = .iface te pe)
 er : ∃ ev, w.cell? ⟨4, 0, none⟩ = some ev ∧ (ev = .nilIface ∨ ∃ te pe, ev = .iface te pe)
 tab : Lib.TabIs Tryz.prog w "internal/strconv.uint64pow10" .u64 Lib.pow10Tab
theorem tab_ext {P : Program} {w w' : World} {name : String} {k : IntKind} {zs : List Int} (h : Lib.TabIs P w name k zs) (e : Ext w w') : Lib.TabIs P w' name k zs := by
 unfold Lib.TabIs World.var? at *
 cases hg : P.globalNamed name with
 | none => simp [hg] at h
 | some g =>
  simp only [hg, Option.bind_some] at h ⊢
  have hlt : g < w.heap.size := by
   rcases Nat.lt_or_ge g w.heap.size with h' | h'
   ·exact h'
   ·rw [Array.getElem?_eq_none h'] at h; simp at h
  rw [Below.block e g hlt]
  exact h
theorem LibAt.ext {w w' : World} (h : LibAt w) (e : Ext w w') : LibAt w' := by
 obtain ⟨h1, ⟨ev, h2, h2'⟩, ⟨er, h3, h3'⟩, h4⟩ := h
 exact ⟨h1.ext e, ⟨ev, e.cell h2, h2'⟩, ⟨er, e.cell h3, h3'⟩, tab_ext h4 e⟩
theorem atoi_range {l : List UInt8} {v : Int} (h : Lib.atoiAll l = .ok v) : -9223372036854775808 ≤ v ∧ v ≤ 9223372036854775807 := by
 unfold Lib.atoiAll at h
 split at h
 ·cases h
 ·simp only at h
  split at h
  ·cases h
  ·cases h
  ·split at h
   ·cases h
   ·split at h
    ·cases h
    ·cases h
     split <;> omega
theorem atoi_ok (s : ByteArray) (hs : s.size ≤ 1073741824) (v : Int) (h : Lib.atoiAll s.data.toList = .ok v) (w : World) :
  Calls Tryz.prog 133 #[.string s] w fun e w' => e = .returned (.tuple #[.int .i64 v, .nilIface]) ∧ Ext w w' := by
 refine (Tryz.strconv_Atoi_ok s (by omega) v h w).mono ?_
 rintro e w' ⟨rfl, h | ⟨t, h⟩⟩
 ·subst h; exact ⟨rfl, Ext.refl _⟩
 ·subst h; exact ⟨rfl, Go.Joins.below_bytesWorld _ _ _ _ (Nat.le_refl _)⟩
theorem atoi_bad (s : ByteArray) (hs : s.size ≤ 1073741824) (h : ∀ v, Lib.atoiAll s.data.toList ≠ .ok v) (w : World) (hl : LibAt w) :
  Calls Tryz.prog 133 #[.string s] w fun e w' => ∃ n N, e = .returned (.tuple #[.int .i64 n, .iface 185 (.pointer (some ⟨N, 0, none⟩))]) ∧ Ext w w' := by
 obtain ⟨ev, h2, h2'⟩ := hl.es
 obtain ⟨er, h3, h3'⟩ := hl.er
 cases hq : Lib.atoiAll s.data.toList
 ·rename_i v; exact absurd hq (h v)
 ·refine (Any.strconv_Atoi_syntax Tryz.laysC172 s (by omega) hq ev w h2 h2').mono ?_
  rintro e w' ⟨N, rfl, -, -, h4⟩
  exact ⟨_, N, rfl, h4⟩
 ·refine (Any.strconv_Atoi_range Tryz.laysC172 s (by omega) hq er w h3 h3').mono ?_
  rintro e w' ⟨N, rfl, -, -, h4⟩
  exact ⟨_, N, rfl, h4⟩
theorem itoa_at (n : Int) (h0 : -9223372036854775808 ≤ n) (h1 : n ≤ 9223372036854775807) (q : ByteArray) (hq : Lib.itoa n = q.data.toList) (w : World) (hl : LibAt w) :
  Calls Tryz.prog 134 #[.int .i64 n] w fun e w' => e = .returned (.string q) ∧ Ext w w' := by
 refine (Tryz.strconv_Itoa n h0 h1 w hl.tab).mono ?_
 rintro e w' ⟨rfl, k, os, rfl⟩
 refine ⟨?_, Lib.below_grow _ _ (Nat.le_refl _) _ _⟩
 rw [hq]
theorem idx_dash (n : Nat) : idxV ⟨#[45]⟩ n = some n := by unfold idxV; rw [if_pos rfl]
set_option maxHeartbeats 1000000 in
theorem index_any (name : ByteArray) (n : Nat) (hs : name.size ≤ 1073741824) (hn : n ≤ 1073741824) (w : World) (hl : LibAt w) :
  Calls Tryz.prog 91 #[.string name, .int .i64 n] w fun e w' => e = .returned (.tuple #[.int .i64 ((idxV name n).getD 0 : Nat), .bool (idxV name n).isSome]) ∧ Ext w w' := by
 by_cases hd : name.data.toList = [45]
 ·obtain rfl : name = ⟨#[45]⟩ := bytes_ext (by rw [ByteArray.toList_eq, ByteArray.toList_eq, hd])
  rw [idx_dash]
  go_enter Tryz.func91, Tryz.ntmps91
  go_wp2_with fail
  go_ret2
  exact ⟨rfl, Xt⟩
 ·have hb1 : (name.toList == [45]) = false := by rw [ByteArray.toList_eq]; simpa using hd
  have hb2 : ¬ name.toList = [45] := by rw [ByteArray.toList_eq]; exact hd
  have hi : idxV name n = (match Lib.atoiAll name.data.toList with | .ok k => if name.size ≤ 4 ∧ 0 ≤ k ∧ Lib.itoa k = name.data.toList then some k.toNat else none | _ => none) := by unfold idxV; rw [if_neg hd]; cases Lib.atoiAll name.data.toList <;> rfl
  by_cases hok : ∃ v, Lib.atoiAll name.data.toList = .ok v
  ·obtain ⟨v, hv⟩ := hok
   obtain ⟨r0, r1⟩ := atoi_range hv
   rw [hv] at hi
   simp only at hi
   have Hv := Lib.hid hv
   clear hv hd
   by_cases h4 : name.size ≤ 4
   ·have h4i : ¬ (4 : Int) < (name.size : Int) := by omega
    have h4j : (name.size : Int) ≤ 4 := by omega
    by_cases h0 : 0 ≤ v
    ·obtain ⟨u, rfl⟩ := Int.eq_ofNat_of_zero_le h0
     rw [Int.toNat_natCast] at hi
     have h0i : ¬ (u : Int) < 0 := by omega
     obtain ⟨q, hq⟩ : ∃ q : ByteArray, Lib.itoa (u : Int) = q.data.toList := ⟨⟨(Lib.itoa (u : Int)).toArray⟩, rfl⟩
     have Hq := Lib.hid hq
     by_cases he : q = name
     ·rw [if_pos ⟨h4, h0, by rw [hq, he]⟩] at hi
      subst he
      rw [hi]
      clear hi hq
      go_enter Tryz.func91, Tryz.ntmps91
      go_wp2_with fail
      (with_reducible refine (atoi_ok q hs (u : Int) Hv.out _).mono ?_); rintro e w1 ⟨rfl, h1⟩; obtain ⟨hcw1, hfw1, hzw1⟩ := ext_facts h1; (try simp at hzw1); (try have hzAw1 : w.heap.size < w1.heap.size := by omega); (try have hzBw1 : w.heap.size + 1 < w1.heap.size := by omega); (try have hzCw1 : w.heap.size + 2 < w1.heap.size := by omega)
      have hx1 : Ext w w1 := Xt
      clear h1
      go_wp2_with fail
      (with_reducible refine (itoa_at (u : Int) r0 r1 q Hq.out _ (hl.ext Xt)).mono ?_); rintro e w2 ⟨rfl, h2⟩; obtain ⟨hcw2, hfw2, hzw2⟩ := ext_facts h2; (try simp at hzw2); (try have hzAw2 : w.heap.size < w2.heap.size := by omega); (try have hzBw2 : w.heap.size + 1 < w2.heap.size := by omega); (try have hzCw2 : w.heap.size + 2 < w2.heap.size := by omega)
      go_wp2_with fail
      go_ret2
      exact ⟨rfl, Xt⟩
     ·rw [if_neg (fun h => he (bytes_ext (by rw [ByteArray.toList_eq, ByteArray.toList_eq, ← hq, h.2.2])))] at hi
      have he1 : (q.toList == name.toList) = false := by simpa using fun h => he (bytes_ext h)
      have he2 : (q.toList != name.toList) = true := by simpa using fun h => he (bytes_ext h)
      rw [hi]
      clear hi hq he
      go_enter Tryz.func91, Tryz.ntmps91
      go_wp2_with fail
      (with_reducible refine (atoi_ok name hs (u : Int) Hv.out _).mono ?_); rintro e w1 ⟨rfl, h1⟩; obtain ⟨hcw1, hfw1, hzw1⟩ := ext_facts h1; (try simp at hzw1); (try have hzAw1 : w.heap.size < w1.heap.size := by omega); (try have hzBw1 : w.heap.size + 1 < w1.heap.size := by omega); (try have hzCw1 : w.heap.size + 2 < w1.heap.size := by omega)
      have hx1 : Ext w w1 := Xt
      clear h1
      go_wp2_with fail
      (with_reducible refine (itoa_at (u : Int) r0 r1 q Hq.out _ (hl.ext Xt)).mono ?_); rintro e w2 ⟨rfl, h2⟩; obtain ⟨hcw2, hfw2, hzw2⟩ := ext_facts h2; (try simp at hzw2); (try have hzAw2 : w.heap.size < w2.heap.size := by omega); (try have hzBw2 : w.heap.size + 1 < w2.heap.size := by omega); (try have hzCw2 : w.heap.size + 2 < w2.heap.size := by omega)
      go_wp2_with fail
      go_ret2
      exact ⟨rfl, Xt⟩
    ·have h0i : v < 0 := by omega
     rw [if_neg (fun h => h0 h.2.1)] at hi
     rw [hi]
     clear hi
     go_enter Tryz.func91, Tryz.ntmps91
     go_wp2_with fail
     (with_reducible refine (atoi_ok name hs v Hv.out _).mono ?_); rintro e w1 ⟨rfl, h1⟩; obtain ⟨hcw1, hfw1, hzw1⟩ := ext_facts h1; (try simp at hzw1); (try have hzAw1 : w.heap.size < w1.heap.size := by omega); (try have hzBw1 : w.heap.size + 1 < w1.heap.size := by omega); (try have hzCw1 : w.heap.size + 2 < w1.heap.size := by omega)
     go_wp2_with fail
     go_ret2
     exact ⟨rfl, Xt⟩
   ·have h4i : (4 : Int) < (name.size : Int) := by omega
    rw [if_neg (fun h => h4 h.1)] at hi
    rw [hi]
    clear hi
    go_enter Tryz.func91, Tryz.ntmps91
    go_wp2_with fail
    (with_reducible refine (atoi_ok name hs v Hv.out _).mono ?_); rintro e w1 ⟨rfl, h1⟩; obtain ⟨hcw1, hfw1, hzw1⟩ := ext_facts h1; (try simp at hzw1); (try have hzAw1 : w.heap.size < w1.heap.size := by omega); (try have hzBw1 : w.heap.size + 1 < w1.heap.size := by omega); (try have hzCw1 : w.heap.size + 2 < w1.heap.size := by omega)
    go_wp2_with fail
    go_ret2
    exact ⟨rfl, Xt⟩
  ·have hbad : ∀ v, Lib.atoiAll name.data.toList ≠ .ok v := fun v h => hok ⟨v, h⟩
   have hi2 : idxV name n = none := by
    rw [hi]
    cases hq : Lib.atoiAll name.data.toList
    ·rename_i v; exact absurd hq (hbad v)
    ·rfl
    ·rfl
   have Hbad := Lib.hid hbad
   rw [hi2]
   clear hi hi2 hbad hok hd
   go_enter Tryz.func91, Tryz.ntmps91
   go_wp2_with fail
   (refine (atoi_bad name hs Hbad.out _ (hl.ext Xt)).mono ?_); rintro e w1 ⟨n1, N1, rfl, h1⟩
   go_wp2_with fail
   go_ret2
   exact ⟨rfl, Xt⟩
def RetIdx (r : Option Nat) (w : World) (e : Ending) (w' : World) : Prop := ∃ q : Nat, e = .returned (.tuple #[.int .i64 q, .bool r.isSome]) ∧ (∀ i, r = some i → q = i) ∧ Ext w w'
set_option maxHeartbeats 1000000 in
theorem child_any (x : V) (ka : Option Addr) (kc : Nat) (la : Option Addr) (lc : Nat) (S : Nat → Prop) (name : ByteArray) (w : World) (hx : x.sound) (hsz : x.size ≤ 1073741824) (hs : name.size ≤ 1073741824) (hin : x.In w S ka kc la lc) (hl : LibAt w) :
  Calls Tryz.prog 84 #[x.val ka kc la lc, .string name] w (RetIdx (x.child name) w) := by
 have hll := x.len_l
 have hf := hx.flat
 by_cases h5 : x.k = 5
 ·have hk5 : (x.k == 5) = true := by simpa using h5
  have hlen := hf.len h5
  have bs := fun w' (e : Ext w w') => bs_rise ka x.keys.length kc x.keys S name w' rfl (((V.in_iff ..).1 (hin.ext e)).2.2.1) hf.rise (by omega)
  have Bs := Lib.hid bs
  have hc : x.child name = if hasB x.keys name = true then some (posOf x.keys name) else none := by unfold V.child; rw [if_pos h5]
  have Hc := Lib.hid hc
  clear bs hf hc hlen h5
  go_enter Tryz.func84, Tryz.ntmps84
  go_wp2_with fail
  (refine (Bs.out _ Xt).mono ?_); rintro e w1 ⟨rfl, h1⟩
  go_wp2_with fail
  go_ret2
  refine ⟨posOf x.keys name, ?_, ?_, Xt⟩
  ·rw [Hc.out]
   cases hasB x.keys name <;> rfl
  ·rw [Hc.out]
   intro i h
   split at h
   ·exact Option.some.inj h
   ·cases h
 ·have hk5 : (x.k == 5) = false := by simpa using h5
  by_cases h4 : x.k = 4
  ·have hk4 : (x.k == 4) = true := by simpa using h4
   have hc : x.child name = (idxV name x.l.length).bind fun k => if k < x.l.length then some k else none := by unfold V.child; rw [if_neg h5, if_pos h4]
   have Hc := Lib.hid hc
   clear hf hc h5 h4
   cases hi : idxV name x.l.length with
   | none =>
    have Hi := Lib.hid hi
    have idx := fun w' (e : Ext w w') => index_any name x.l.length hs (by omega) w' (hl.ext e)
    rw [hi] at idx
    have Idx := Lib.hid idx
    clear hi idx
    go_enter Tryz.func84, Tryz.ntmps84
    go_wp2_with fail
    (refine (Idx.out _ Xt).mono ?_); rintro e w1 ⟨rfl, h1⟩
    obtain ⟨hcw1, hfw1, hzw1⟩ := ext_facts h1; (try simp at hzw1); (try have hzAw1 : w.heap.size < w1.heap.size := by omega); (try have hzBw1 : w.heap.size + 1 < w1.heap.size := by omega); (try have hzCw1 : w.heap.size + 2 < w1.heap.size := by omega)
    go_wp2_with fail
    go_quiet (fail)
    go_wp2_with fail
    go_ret2
    refine ⟨0, ?_, ?_, Xt⟩
    ·rw [Hc.out, Hi.out]; rfl
    ·rw [Hc.out, Hi.out]; intro i h; cases h
   | some q =>
    have Hi := Lib.hid hi
    have idx := fun w' (e : Ext w w') => index_any name x.l.length hs (by omega) w' (hl.ext e)
    rw [hi] at idx
    have Idx := Lib.hid idx
    clear hi idx
    by_cases hlt : q < x.l.length
    ·have hlt2 : (q : Int) < (x.l.length : Int) := by omega
     go_enter Tryz.func84, Tryz.ntmps84
     go_wp2_with fail
     (refine (Idx.out _ Xt).mono ?_); rintro e w1 ⟨rfl, h1⟩
     obtain ⟨hcw1, hfw1, hzw1⟩ := ext_facts h1; (try simp at hzw1); (try have hzAw1 : w.heap.size < w1.heap.size := by omega); (try have hzBw1 : w.heap.size + 1 < w1.heap.size := by omega); (try have hzCw1 : w.heap.size + 2 < w1.heap.size := by omega)
     go_wp2_with fail
     go_quiet (fail)
     go_wp2_with fail
     go_ret2
     refine ⟨q, ?_, ?_, Xt⟩
     ·rw [Hc.out, Hi.out, Option.bind_some, if_pos hlt]; simp
     ·rw [Hc.out, Hi.out, Option.bind_some, if_pos hlt]; intro i h; exact Option.some.inj h
    ·have hlt2 : (x.l.length : Int) ≤ (q : Int) := by omega
     go_enter Tryz.func84, Tryz.ntmps84
     go_wp2_with fail
     (refine (Idx.out _ Xt).mono ?_); rintro e w1 ⟨rfl, h1⟩
     obtain ⟨hcw1, hfw1, hzw1⟩ := ext_facts h1; (try simp at hzw1); (try have hzAw1 : w.heap.size < w1.heap.size := by omega); (try have hzBw1 : w.heap.size + 1 < w1.heap.size := by omega); (try have hzCw1 : w.heap.size + 2 < w1.heap.size := by omega)
     go_wp2_with fail
     go_quiet (fail)
     go_wp2_with fail
     go_ret2
     refine ⟨q, ?_, ?_, Xt⟩
     ·rw [Hc.out, Hi.out, Option.bind_some, if_neg hlt]; simp
     ·rw [Hc.out, Hi.out, Option.bind_some, if_neg hlt]; intro i h; cases h
  ·have hk4 : (x.k == 4) = false := by simpa using h4
   have hc : x.child name = none := by unfold V.child; rw [if_neg h5, if_neg h4]
   rw [hc]
   clear hf hc h5 h4
   go_enter Tryz.func84, Tryz.ntmps84
   go_wp2_with fail
   go_ret2
   exact ⟨0, rfl, (fun i h => by cases h), Xt⟩
end Go.Proofs.YtjibdbnpkfghhaaGreatDoor
