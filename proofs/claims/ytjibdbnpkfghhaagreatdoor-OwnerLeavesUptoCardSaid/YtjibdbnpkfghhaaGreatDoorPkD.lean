/- Several texts in one. -/
import Derived.Test.YtjibdbnpkfghhaaGreatDoorPkA
import Derived.Deep.DeepCutAuto
set_option linter.all false
/- The walks of package json: plain, Count, Good. -/
namespace Go.Proofs.YtjibdbnpkfghhaaGreatDoor
open Go.RowKit
theorem byte_at {s : ByteArray} {k : Nat} (h : k < s.size) : s.data.toList[k]'(by simpa using h) = s[k] := by rw [Array.getElem_toList]; rfl
theorem plain_take {s : ByteArray} {k : Nat} (h : k < s.size) (h0 : ((s.data.toList.take k).all fun c => decide ((c.toNat : Int) < 128)) = true) (h1 : (s[k].toNat : Int) < 128) : ((s.data.toList.take (k + 1)).all fun c => decide ((c.toNat : Int) < 128)) = true :=
 all_take _ _ (by simpa using h) h0 (by rw [byte_at h]; simpa using h1)
theorem plain_bad {s : ByteArray} {k : Nat} (h : k < s.size) (h1 : (128 : Int) ≤ (s[k].toNat : Int)) : plainB s = false := by
 have := all_bad (fun c : UInt8 => decide ((c.toNat : Int) < 128)) s.data.toList (k := k) (by simpa using h) (by rw [byte_at h]; simpa using h1)
 unfold plainB; rw [this]; rfl
theorem plain_any (s : ByteArray) (w : World) (hs : s.size ≤ 1073741824) : Calls Tryz.prog 124 #[.string s] w fun e w' => e = .returned (.bool (plainB s)) ∧ w = w' := by
 go_enter Tryz.func124, Tryz.ntmps124
 go_wp2
 go_loop [6] (fun i => ∃ k : Nat, k ≤ s.size ∧ i = .int .i64 k ∧ ((s.data.toList.take k).all fun c => decide ((c.toNat : Int) < 128)) = true) (fun i => s.size - (intOf i).toNat)
 case atStart => exact ⟨0, Nat.zero_le _, rfl, rfl⟩
 case round =>
  obtain ⟨k, hk, rfl, ht⟩ := hrel
  have Ht := Lib.hid ht
  clear ht
  by_cases hlt : k < s.size
  ·by_cases h1 : (128 : Int) ≤ (s[k].toNat : Int)
   ·go_wp2
    go_ret
    exact ⟨ret_bool (plain_bad hlt h1).symm, rfl⟩
   ·go_wp2
    go_round
    case rel => exact ⟨k + 1, by omega, by go_num, plain_take hlt Ht.out (by omega)⟩
    case measure => simp [intOf]; omega
  ·go_wp2
   go_ret
   refine ⟨ret_bool ?_, rfl⟩
   have := Ht.out
   rw [List.take_of_length_le (by simp; omega)] at this
   unfold plainB
   rw [this]
   simp
   omega
set_option maxHeartbeats 1000000 in
theorem count_any (m : Nat) : ∀ (x : V) (ka : Option Addr) (kc : Nat) (la : Option Addr) (lc : Nat) (S : Nat → Prop) (w : World), x.size ≤ m → x.size ≤ 1073741824 → x.In w S ka kc la lc →
  Calls Tryz.prog 82 #[x.val ka kc la lc] w fun e w' => e = .returned (.int .i64 x.count) ∧ Ext w w' := by
 induction m with
 | zero => intro x _ _ _ _ _ _ h; have := x.size_pos; omega
 | succ m ih =>
  intro x ka kc la lc S w hm hsz hin
  have hl := x.len_l
  have hcs := x.count_le
  have Hce := Lib.hid x.count_eq
  go_enter Tryz.func82, Tryz.ntmps82
  go_wp2_with fail
  go_loopg [3, 9] x.l.length (fun g t i wr => ∃ k c : Nat, k ≤ x.l.length ∧ i = .int .i64 k ∧ g = x.l.length - k ∧ t = .int .i64 c ∧ c ≤ x.size ∧ c = 1 + ((x.l.take k).map V.count).sum ∧
   Box wr w.heap.size #[.int .i64 x.k, .int .i64 x.n, .string x.s, .slice ka x.keys.length kc, .slice la x.l.length lc] 25 ∧ Ext w wr)
  case atStart => exact ⟨0, 1, by omega, rfl, rfl, rfl, by omega, by simp, Bxt, Xt⟩
  case round =>
   obtain ⟨k, c, hk, rfl, rfl, rfl, hcz, hc, hB0, hx⟩ := hrel
   have Hc := Lib.hid hc
   clear hc
   have hc0 := hB0.cells
   have hf0 := hB0.free
   have hl0 := hB0.lt
   by_cases hlt : k < x.l.length
   ·obtain ⟨b, o, rfl, hS, ka', kc', la', lc', ⟨d0, d1, d2, d3, d4⟩, hin'⟩ := (hin.ext hx).item hlt
    have hsi := V.size_item hlt
    have hci := (x.l[k]).count_le
    have Hst := Lib.hid (sum_take V.count x.l hlt)
    have hle := sum_take_le V.count x.l (k + 1)
    have Hsz := Lib.hid (show c + (x.l[k]).count ≤ x.size by have h1 := Hst.out; have h2 := Hc.out; have h3 := Hce.out; omega)
    have hsz2 := Hsz.out
    clear hle
    go_wp2_with (go_at_call 82; (with_reducible refine (ih _ _ _ _ _ _ _ (by omega) (by omega) (hin'.ext Xt)).mono ?_); rintro e w1 ⟨rfl, h1⟩; obtain ⟨hc1, hf1, hz1⟩ := ext_facts h1; (try simp at hz1); (try have hzA : w.heap.size < w1.heap.size := by omega); (try have hzB : w.heap.size + 1 < w1.heap.size := by omega); (try have hzC : w.heap.size + 2 < w1.heap.size := by omega); (try have hzD : w.heap.size + 3 < w1.heap.size := by omega))
    go_roundg (x.l.length - (k + 1))
    case measure => omega
    case rel => exact ⟨k + 1, c + (x.l[k]).count, by omega, by go_num, rfl, by go_num, Hsz.out, by have h1 := Hst.out; have h2 := Hc.out; omega, Bxt, Xt⟩
   ·go_wp2_with fail
    go_ret
    refine ⟨ret_int ?_, Xt⟩
    have h1 := Hc.out
    rw [List.take_of_length_le (by omega)] at h1
    have h2 := Hce.out
    omega
end Go.Proofs.YtjibdbnpkfghhaaGreatDoor
/- The walks of package json: what is good. -/
namespace Go.Proofs.YtjibdbnpkfghhaaGreatDoor
open Go.RowKit
theorem keys_step {ks : List ByteArray} {k : Nat} (h : ∀ i, (h : i < ks.length) → i < k → plainB ks[i] = true ∧ (0 < i → ltS (ks[i - 1]'(by omega)) ks[i] = true)) (hk : k < ks.length)
  (h1 : plainB ks[k] = true ∧ (0 < k → ltS (ks[k - 1]'(by omega)) ks[k] = true)) : ∀ i, (h : i < ks.length) → i < k + 1 → plainB ks[i] = true ∧ (0 < i → ltS (ks[i - 1]'(by omega)) ks[i] = true) := by
 intro i hi hik
 by_cases e : i = k
 ·subst e; exact h1
 ·exact h i hi (by omega)
theorem keys_all {ks : List ByteArray} {k : Nat} (h : ∀ i, (h : i < ks.length) → i < k → plainB ks[i] = true ∧ (0 < i → ltS (ks[i - 1]'(by omega)) ks[i] = true)) (hk : ks.length ≤ k) : keysB ks = true := by
 unfold keysB; simp only [decide_eq_true_eq]; intro i hi; exact h i hi (by omega)
theorem keys_bad {ks : List ByteArray} {k : Nat} (hk : k < ks.length) (h1 : ¬ (plainB ks[k] = true ∧ (0 < k → ltS (ks[k - 1]'(by omega)) ks[k] = true))) : keysB ks = false := by
 unfold keysB; simp only [decide_eq_false_iff_not]; exact fun h => h1 (h k hk)
theorem idxBad_any (m : Nat) (d : Int) (hd0 : 0 ≤ d) (hd1 : d ≤ 100)
  (ih : ∀ (x : V) (ka : Option Addr) (kc : Nat) (la : Option Addr) (lc : Nat) (S : Nat → Prop) (d : Int) (w : World), x.size ≤ m → x.size ≤ 1073741824 → 0 ≤ d → d ≤ 101 → x.In w S ka kc la lc →
   Calls Tryz.prog 81 #[x.val ka kc la lc, .int .i64 d] w fun e w' => e = .returned (.bool (x.good d)) ∧ Ext w w')
  (l : List V) (a : Option Addr) (n cap : Nat) (bd : Nat) (S : Nat → Prop) (w : World) (hn : Hid (n = l.length)) (hl : n ≤ 1073741824) (hsz : ∀ x ∈ l, x.size ≤ m ∧ x.size ≤ 1073741824) (hr : Rows w S l a) (hbd : w.cell? ⟨bd, 0, none⟩ = some (.int .i64 d)) :
  Calls Tryz.prog 165 #[.slice a n cap, .func (.func 126) #[] #[.pointer (some ⟨bd, 0, none⟩)]] w fun e w' => ∃ n : Int, e = .returned (.int .i64 n) ∧ decide (0 ≤ n) = !(l.all fun x => x.good (d + 1)) ∧ Ext w w' := by
 have clo : ∀ (x : V) (ka : Option Addr) (kc : Nat) (la : Option Addr) (lc : Nat) (w' : World), x.size ≤ m → x.size ≤ 1073741824 → x.In w' S ka kc la lc → w'.cell? ⟨bd, 0, none⟩ = some (.int .i64 d) →
   Calls Tryz.prog 126 #[x.val ka kc la lc, .pointer (some ⟨bd, 0, none⟩)] w' fun e w'' => e = .returned (.bool (!x.good (d + 1))) ∧ Ext w' w'' := by
  intro x ka kc la lc w' h1 h2 h3 h4
  have hbl := cell_lt h4
  simp only at hbl
  go_enter Tryz.func126, Tryz.ntmps126
  go_wp2_with (go_at_call 81; (with_reducible refine (ih _ _ _ _ _ _ _ _ h1 h2 (by omega) (by omega) (h3.ext Xt)).mono ?_); rintro e w1 ⟨rfl, h1⟩; obtain ⟨hc1, hf1, hz1⟩ := ext_facts h1; (try simp at hz1); (try have hzA : w.heap.size < w1.heap.size := by omega); (try have hzB : w.heap.size + 1 < w1.heap.size := by omega); (try have hzC : w.heap.size + 2 < w1.heap.size := by omega); (try have hzD : w.heap.size + 3 < w1.heap.size := by omega))
  go_ret
  exact ⟨rfl, Xt⟩
 have Clo := Lib.hid clo
 have Ih := Lib.hid ih
 have Hsz := Lib.hid hsz
 clear clo ih hsz
 go_enter Tryz.func165, Tryz.ntmps165
 go_wp2_with fail
 go_loopg [5, 8] n (fun g _ i wr => ∃ k : Nat, k ≤ n ∧ i = .int .i64 k ∧ g = n - k ∧ ((l.take k).all fun x => x.good (d + 1)) = true ∧ Ext w wr)
 case atStart => exact ⟨0, by omega, rfl, rfl, rfl, Ext.refl _⟩
 case round =>
  obtain ⟨k, hk, rfl, rfl, hg, hx⟩ := hrel
  have Hg := Lib.hid hg
  clear hg
  by_cases hlt : k < n
  ·have hlt' : k < l.length := by have := hn.out; omega
   obtain ⟨b, o, rfl, hS, hr⟩ : ∃ b o, a = some ⟨b, o, none⟩ ∧ S b ∧ ∀ i (h : i < l.length), V.Item w S b (o + i * 5) l[i] := hr.resolve_left (by intro e; subst e; simp at hlt')
   obtain ⟨ka', kc', la', lc', ⟨d0, d1, d2, d3, d4⟩, hin'⟩ := (hr k hlt').ext hx
   have Hr := Lib.hid hr
   clear hr
   have hbd' := hx.cell hbd
   go_wp2_with (go_at_call 126; (with_reducible refine (Clo.out _ _ _ _ _ _ (Hsz.out _ (List.getElem_mem hlt')).1 (Hsz.out _ (List.getElem_mem hlt')).2 (hin'.ext Xt) (Ext.cell Xt hbd')).mono ?_); rintro e w1 ⟨rfl, h1⟩; obtain ⟨hc1, hf1, hz1⟩ := ext_facts h1; (try simp at hz1); (try have hzA : w.heap.size < w1.heap.size := by omega); (try have hzB : w.heap.size + 1 < w1.heap.size := by omega); (try have hzC : w.heap.size + 2 < w1.heap.size := by omega); (try have hzD : w.heap.size + 3 < w1.heap.size := by omega))
   ·go_ret
    go_light
    have h1 : (l[k]).good (d + 1) = false := by simp_all
    exact ⟨_, rfl, by rw [all_bad _ l hlt' h1]; simp, Xt⟩
   ·have h1 : (l[k]).good (d + 1) = true := by simp_all
    go_roundg (n - (k + 1))
    case measure => omega
    case rel => exact ⟨k + 1, by omega, by go_num, rfl, all_take _ l hlt' Hg.out h1, Xt⟩
  ·go_wp2_with fail
   go_ret
   refine ⟨_, rfl, ?_, Xt⟩
   have := Hg.out
   rw [List.take_of_length_le (by have := hn.out; omega)] at this
   rw [this]
   simp
theorem hasBad_val (m : Nat) (d : Int) (hd0 : 0 ≤ d) (hd1 : d ≤ 100)
  (ih : ∀ (x : V) (ka : Option Addr) (kc : Nat) (la : Option Addr) (lc : Nat) (S : Nat → Prop) (d : Int) (w : World), x.size ≤ m → x.size ≤ 1073741824 → 0 ≤ d → d ≤ 101 → x.In w S ka kc la lc →
   Calls Tryz.prog 81 #[x.val ka kc la lc, .int .i64 d] w fun e w' => e = .returned (.bool (x.good d)) ∧ Ext w w')
  (l : List V) (a : Option Addr) (n cap : Nat) (bd : Nat) (S : Nat → Prop) (w : World) (hn : Hid (n = l.length)) (hl : n ≤ 1073741824) (hsz : ∀ x ∈ l, x.size ≤ m ∧ x.size ≤ 1073741824) (hr : Rows w S l a) (hbd : w.cell? ⟨bd, 0, none⟩ = some (.int .i64 d)) :
  Calls Tryz.prog 125 #[.slice a n cap, .func (.func 126) #[] #[.pointer (some ⟨bd, 0, none⟩)]] w fun e w' => e = .returned (.bool (!(l.all fun x => x.good (d + 1)))) ∧ Ext w w' := by
 have con := idxBad_any m d hd0 hd1 ih l a n cap bd S w hn hl hsz hr hbd
 have Con := Lib.hid con
 clear con ih hsz
 go_enter Tryz.func125, Tryz.ntmps125
 go_wp2_with (go_at_call 165; refine Con.out.mono ?_; rintro e w1 ⟨n, rfl, hn, h1⟩; have Hn := Lib.hid hn; clear hn)
 go_ret
 exact ⟨ret_bool Hn.out, Xt⟩
set_option maxRecDepth 100000 in
set_option maxHeartbeats 8000000 in
theorem good_val (m : Nat) : ∀ (x : V) (ka : Option Addr) (kc : Nat) (la : Option Addr) (lc : Nat) (S : Nat → Prop) (d : Int) (w : World), x.size ≤ m → x.size ≤ 1073741824 → 0 ≤ d → d ≤ 101 → x.In w S ka kc la lc →
  Calls Tryz.prog 81 #[x.val ka kc la lc, .int .i64 d] w fun e w' => e = .returned (.bool (x.good d)) ∧ Ext w w' := by
 induction m with
 | zero => intro x _ _ _ _ _ _ _ h; have := x.size_pos; omega
 | succ m ih =>
  intro x ka kc la lc S d w hm hsz hd0 hd1 hin
  have hl := x.len_l
  have hlk := x.len_keys
  have hls := x.len_s
  have Hg := Lib.hid (x.good_eq d)
  go_enter Tryz.func81, Tryz.ntmps81
  go_upto_region 1 with fail
  go_cut [18] (fun s wx => s = .bool (g1 d x.k) ∧ Box wx w.heap.size #[.int .i64 x.k, .int .i64 x.n, .string x.s, .slice ka x.keys.length kc, .slice la x.l.length lc] 25 ∧ Box wx (w.heap.size + 1) #[.int .i64 d] 3 ∧ Ext w wx)
  case first =>
   go_wp2_with fail
   all_goals
    go_meet
    refine ⟨vb ?_, Bxt, Bxt, Xt⟩
    go_light
    clear ih Hg hin
    simp only [g1]
    grind
  case rest =>
   obtain ⟨hs, hB0, hB1, hx⟩ := hcut
   have hc0 := hB0.cells; have hf0 := hB0.free; have hl0 := hB0.lt
   have hc1 := hB1.cells; have hf1 := hB1.free; have hl1 := hB1.lt
   by_cases h1 : g1 d x.k = true
   ·rw [h1] at hs
    subst hs
    go_wp2_with fail
    go_ret
    exact ⟨ret_bool (by rw [Hg.out]; simp [V.flat, h1]), Xt⟩
   have h1 : g1 d x.k = false := by simpa using h1
   rw [h1] at hs
   subst hs
   go_upto_region 3 with fail
   go_cut [63] (fun s wx => s = .bool (g2 x.k x.n x.s x.keys.length x.l.length) ∧ wc = wx)
   case first =>
    go_wp2_with fail
    all_goals
     go_meet
     first
      | (refine ⟨vb ?_, rfl⟩; go_light; clear ih Hg hin; simp only [g2]; grind)
      | (exfalso; go_light; clear ih Hg hin; grind)
   case rest =>
    obtain ⟨hs, rfl⟩ := hcut
    by_cases h2 : g2 x.k x.n x.s x.keys.length x.l.length = true
    ·rw [h2] at hs
     subst hs
     go_wp2_with fail
     go_ret
     exact ⟨ret_bool (by rw [Hg.out]; simp [V.flat, h1, h2]), Xt⟩
    have h2 : g2 x.k x.n x.s x.keys.length x.l.length = false := by simpa using h2
    rw [h2] at hs
    subst hs
    go_upto_region 5 with fail
    go_cut [92] (fun s wx => s = .bool (g3 x.k x.n x.s) ∧ wc = wx)
    case first =>
     go_wp2_with ((go_at_call 124); (with_reducible refine (plain_any _ _ (by omega)).mono ?_); rintro e w1 ⟨rfl, rfl⟩)
     all_goals
      go_meet
      first
       | (refine ⟨vb ?_, rfl⟩; go_light; clear ih Hg hin; simp only [g3]; grind)
       | (exfalso; go_light; clear ih Hg hin; grind)
    case rest =>
     obtain ⟨hs, rfl⟩ := hcut
     by_cases h3 : g3 x.k x.n x.s = true
     ·rw [h3] at hs
      subst hs
      go_wp2_with fail
      go_ret
      exact ⟨ret_bool (by rw [Hg.out]; simp [V.flat, h1, h2, h3]), Xt⟩
     have h3 : g3 x.k x.n x.s = false := by simpa using h3
     rw [h3] at hs
     subst hs
     go_upto_region 7 with fail
     go_cut [104] (fun s wx => s = .bool (g4 x.k x.keys.length x.l.length) ∧ wc = wx)
     case first =>
      go_wp2_with fail
      all_goals
       go_meet
       first
        | (refine ⟨vb ?_, rfl⟩; go_light; clear ih Hg hin; simp only [g4]; grind)
        | (exfalso; go_light; clear ih Hg hin; grind)
     case rest =>
      obtain ⟨hs, rfl⟩ := hcut
      by_cases h4 : g4 x.k x.keys.length x.l.length = true
      ·rw [h4] at hs
       subst hs
       go_wp2_with fail
       go_ret
       exact ⟨ret_bool (by rw [Hg.out]; simp [V.flat, h1, h2, h3, h4]), Xt⟩
      have h4 : g4 x.k x.keys.length x.l.length = false := by simpa using h4
      rw [h4] at hs
      subst hs
      go_wp2_with fail
      go_loopg [5, 6, 108] x.keys.length (fun g _ _ i wr => ∃ k : Nat, k ≤ x.keys.length ∧ i = .int .i64 k ∧ g = x.keys.length - k ∧
       (∀ i, (h : i < x.keys.length) → i < k → plainB x.keys[i] = true ∧ (0 < i → ltS (x.keys[i - 1]'(by omega)) x.keys[i] = true)) ∧
       Box wr w.heap.size #[.int .i64 x.k, .int .i64 x.n, .string x.s, .slice ka x.keys.length kc, .slice la x.l.length lc] 25 ∧ Box wr (w.heap.size + 1) #[.int .i64 d] 3 ∧ Ext w wr)
      case atStart => exact ⟨0, by omega, rfl, rfl, fun i _ h => by omega, hB0, hB1, hx⟩
      case round =>
       clear hB0 hB1 hc0 hf0 hl0 hc1 hf1 hl1 hx
       obtain ⟨k, hk, rfl, rfl, hkeys, hB0, hB1, hx⟩ := hrel
       have Hkeys := Lib.hid hkeys
       clear hkeys
       have hc0 := hB0.cells; have hf0 := hB0.free; have hl0 := hB0.lt
       have hc1 := hB1.cells; have hf1 := hB1.free; have hl1 := hB1.lt
       by_cases hlt : k < x.keys.length
       ·obtain ⟨b, o, rfl, hS, d0⟩ := (hin.ext hx).key hlt
        have hp := V.len_key hlt
        by_cases p1 : plainB x.keys[k] = true
        ·cases k with
         | zero =>
          simp only [Nat.add_zero] at d0
          go_wp2_with ((go_at_call 124); (with_reducible refine (plain_any _ _ (by omega)).mono ?_); rintro e w1 ⟨rfl, rfl⟩)
          go_roundg (x.keys.length - (0 + 1))
          case measure => omega
          case rel => exact ⟨0 + 1, by omega, by go_num, rfl, keys_step Hkeys.out hlt ⟨p1, fun h => by omega⟩, hB0, hB1, hx⟩
         | succ k =>
          obtain ⟨b', o', hbo, hS', d1⟩ := (hin.ext hx).key (i := k) (by omega)
          simp only [Option.some.injEq, Addr.mk.injEq] at hbo
          obtain ⟨rfl, rfl, -⟩ := hbo
          by_cases p2 : ltS x.keys[k] x.keys[k + 1] = true
          ·have p2' : Op.bytesLess x.keys[k].toList x.keys[k + 1].toList = true := p2
           go_wp2_with ((go_at_call 124); (with_reducible refine (plain_any _ _ (by omega)).mono ?_); rintro e w1 ⟨rfl, rfl⟩)
           go_roundg (x.keys.length - (k + 1 + 1))
           case measure => omega
           case rel => exact ⟨k + 1 + 1, by omega, by go_num, rfl, keys_step Hkeys.out hlt ⟨p1, fun _ => p2⟩, hB0, hB1, hx⟩
          ·have p2' : Op.bytesLess x.keys[k].toList x.keys[k + 1].toList = false := by simpa [ltS] using p2
           go_wp2_with ((go_at_call 124); (with_reducible refine (plain_any _ _ (by omega)).mono ?_); rintro e w1 ⟨rfl, rfl⟩)
           go_ret
           exact ⟨ret_bool (by rw [Hg.out]; simp [V.flat, keys_bad hlt (fun h => p2 (h.2 (by omega)))]), Xt⟩
        ·have p1' : plainB x.keys[k] = false := by simpa using p1
         go_wp2_with ((go_at_call 124); (with_reducible refine (plain_any _ _ (by omega)).mono ?_); rintro e w1 ⟨rfl, rfl⟩)
         go_ret
         exact ⟨ret_bool (by rw [Hg.out]; simp [V.flat, keys_bad hlt (fun h => p1 h.1)]), Xt⟩
       ·have Hkb := Lib.hid (keys_all Hkeys.out (by omega))
        have hrw := ((V.in_iff ..).1 (hin.ext hx)).2.2.2
        have hd2 : d ≤ 100 := by
         have := h1
         simp only [g1, decide_eq_false_iff_not] at this
         omega
        have con := hasBad_val m d hd0 hd2 ih x.l la x.l.length lc (w.heap.size + 1) S wr (Lib.hid rfl) (by omega) (fun y hy => by have := V.size_mem hy; omega) hrw (by rw [hc1]; rfl)
        have Con := Lib.hid con
        clear con hrw
        go_wp2_with (go_at_call 125; refine Con.out.mono ?_; rintro e w1 ⟨rfl, h9⟩; have he := h9.size)
        go_ret
        exact ⟨ret_bool (by rw [Hg.out]; simp [V.flat, h1, h2, h3, h4, Hkb.out]), Xt⟩
theorem fine_any (x : V) (ka : Option Addr) (kc : Nat) (la : Option Addr) (lc : Nat) (S : Nat → Prop) (w : World) (hsz : x.size ≤ 1073741824) (hin : x.In w S ka kc la lc) :
  Calls Tryz.prog 37 #[x.val ka kc la lc] w fun e w' => e = .returned (.bool x.fine) ∧ Ext w w' := by
 have hc := x.count_le
 by_cases q1 : x.good 1 = true
 ·go_enter Tryz.func37, Tryz.ntmps37
  go_wp2_with (first | (go_at_call 81; (with_reducible refine (good_val _ _ _ _ _ _ _ _ _ (Nat.le_refl _) hsz (by omega) (by omega) (hin.ext Xt)).mono ?_); rintro e w1 ⟨rfl, h1⟩; obtain ⟨hc1, hf1, hz1⟩ := ext_facts h1; (try simp at hz1); (try have hzA : w.heap.size < w1.heap.size := by omega); (try have hzB : w.heap.size + 1 < w1.heap.size := by omega); (try have hzC : w.heap.size + 2 < w1.heap.size := by omega); (try have hzD : w.heap.size + 3 < w1.heap.size := by omega)) | (go_at_call 82; (with_reducible refine (count_any _ _ _ _ _ _ _ _ (Nat.le_refl _) hsz (hin.ext Xt)).mono ?_); rintro e w1 ⟨rfl, h1⟩; obtain ⟨hc1, hf1, hz1⟩ := ext_facts h1; (try simp at hz1); (try have hzA : w.heap.size < w1.heap.size := by omega); (try have hzB : w.heap.size + 1 < w1.heap.size := by omega); (try have hzC : w.heap.size + 2 < w1.heap.size := by omega); (try have hzD : w.heap.size + 3 < w1.heap.size := by omega)))
  go_ret
  refine ⟨ret_bool ?_, Xt⟩
  go_light
  simp [V.fine, q1]
  omega
 ·have q1 : x.good 1 = false := by simpa using q1
  go_enter Tryz.func37, Tryz.ntmps37
  go_wp2_with (first | (go_at_call 81; (with_reducible refine (good_val _ _ _ _ _ _ _ _ _ (Nat.le_refl _) hsz (by omega) (by omega) (hin.ext Xt)).mono ?_); rintro e w1 ⟨rfl, h1⟩; obtain ⟨hc1, hf1, hz1⟩ := ext_facts h1; (try simp at hz1); (try have hzA : w.heap.size < w1.heap.size := by omega); (try have hzB : w.heap.size + 1 < w1.heap.size := by omega); (try have hzC : w.heap.size + 2 < w1.heap.size := by omega); (try have hzD : w.heap.size + 3 < w1.heap.size := by omega)) | (go_at_call 82; (with_reducible refine (count_any _ _ _ _ _ _ _ _ (Nat.le_refl _) hsz (hin.ext Xt)).mono ?_); rintro e w1 ⟨rfl, h1⟩; obtain ⟨hc1, hf1, hz1⟩ := ext_facts h1; (try simp at hz1); (try have hzA : w.heap.size < w1.heap.size := by omega); (try have hzB : w.heap.size + 1 < w1.heap.size := by omega); (try have hzC : w.heap.size + 2 < w1.heap.size := by omega); (try have hzD : w.heap.size + 3 < w1.heap.size := by omega)))
  go_ret
  refine ⟨ret_bool ?_, Xt⟩
  go_light
  simp [V.fine, q1]
end Go.Proofs.YtjibdbnpkfghhaaGreatDoor
