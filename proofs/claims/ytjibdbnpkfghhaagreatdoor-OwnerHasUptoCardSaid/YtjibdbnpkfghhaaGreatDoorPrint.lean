/- The walks of json.put and json.Print. -/
import Derived.Test.YtjibdbnpkfghhaaGreatDoorQuote
import Derived.Test.YtjibdbnpkfghhaaGreatDoorPkB
import Derived.Test.YtjibdbnpkfghhaaGreatDoorPkD
import Derived.Lib.BufferRead
set_option linter.all false
namespace Go.Proofs.YtjibdbnpkfghhaaGreatDoor
open Go.RowKit
attribute [local go_sem ↓] Go.wp_at_zero Go.wp_at_succ

/-- 'string(b)'. -/
theorem run_str {w : World} {B : Nat} {v : Value} {l : Bytes} (h : OwnB w B v l) : (convert 86 9 v).run Tryz.prog w = .ok (.string ⟨l.toArray⟩) w := by
  rcases h.2 with ⟨rfl, hn⟩ | ⟨g, cap, cur, rfl, -, hg, -, -, -, ht⟩
  · obtain rfl := List.length_eq_zero_iff.1 hn
    exact Lib.run_convert_nil_bytes w _ _ 5 0 (by kernel_rfl) (by kernel_rfl) (by kernel_rfl)
  · exact run_convert_bytes_back w _ _ 5 _ cap l (by kernel_rfl) (by kernel_rfl) (by kernel_rfl) (Lib.bytes_of_row hg (by rw [Nat.mul_one] at ht; exact ht))

/-- A truth's text. -/
def boolL (b : Bool) : Bytes := if b then [116, 114, 117, 101] else [102, 97, 108, 115, 101]
set_option maxRecDepth 100000 in
theorem appendBool2 (B : Nat) (v : Value) (l : Bytes) (b : Bool) (w : World) (hn : l.length ≤ 1099511627776) (hB : B ≤ w.heap.size) (hown : OwnB w B v l) :
    Calls Tryz.prog 183 #[v, .bool b] w fun e w' => ∃ v', e = .returned v' ∧ OwnB w' B v' (l ++ boolL b) ∧ Wrote B w w' := by
  obtain ⟨av, cv, rfl, -⟩ := hown.form
  have Hown := Lib.hid hown
  clear hown
  cases b with
  | true =>
    go_enter Tryz.func183, Tryz.ntmps183
    go_wp2_with (at_builtin; refine wpl_apps (by rfl) _ _ _ _ (by rfl) (by rfl) (by rfl) B (.slice av l.length cv) l (by rfl) (Hown.out.ext Xt) ⟨#[116, 114, 117, 101]⟩ (by rfl) (by simp [ByteArray.size]; omega) (by first | omega | (simp; omega)) ?_; intro v2 w2 hown2 hgrow2; have h2 : Wrote B w w2 := Wrote.grown ((Wrote.refl B w).ext hB Xt) hB (Hown.out.ext Xt) hgrow2; have Hown2 := Lib.hid hown2; clear hown2 hgrow2)
    (with_reducible apply bp_ret); (focus (go_light; simp [results, Tryz.results183, go_sem, *]; rfl))
    exact ⟨_, rfl, by simpa [boolL] using Hown2.out, h2⟩
  | false =>
    go_enter Tryz.func183, Tryz.ntmps183
    go_wp2_with (at_builtin; refine wpl_apps (by rfl) _ _ _ _ (by rfl) (by rfl) (by rfl) B (.slice av l.length cv) l (by rfl) (Hown.out.ext Xt) ⟨#[102, 97, 108, 115, 101]⟩ (by rfl) (by simp [ByteArray.size]; omega) (by first | omega | (simp; omega)) ?_; intro v2 w2 hown2 hgrow2; have h2 : Wrote B w w2 := Wrote.grown ((Wrote.refl B w).ext hB Xt) hB (Hown.out.ext Xt) hgrow2; have Hown2 := Lib.hid hown2; clear hown2 hgrow2)
    (with_reducible apply bp_ret); (focus (go_light; simp [results, Tryz.results183, go_sem, *]; rfl))
    exact ⟨_, rfl, by simpa [boolL] using Hown2.out, h2⟩
theorem appendBool_any (B : Nat) (v : Value) (l : Bytes) (b : Bool) (w : World) (hn : l.length ≤ 1099511627776) (hB : B ≤ w.heap.size) (hown : OwnB w B v l) :
    Calls Tryz.prog 146 #[v, .bool b] w fun e w' => ∃ v', e = .returned v' ∧ OwnB w' B v' (l ++ boolL b) ∧ Wrote B w w' := by
  obtain ⟨av, cv, rfl, -⟩ := hown.form
  have Hown := Lib.hid hown
  clear hown
  go_enter Tryz.func146, Tryz.ntmps146
  go_wp2_with fail
  (refine (appendBool2 B _ l b _ hn (by omega) (Hown.out.ext Xt)).mono ?_); rintro e w1 ⟨v1, rfl, hown1, h1⟩
  obtain ⟨a1, c1, rfl, -⟩ := hown1.form
  have Hown1 := Lib.hid hown1
  clear hown1
  go_wp2_with fail
  (with_reducible apply bp_ret); (focus (go_light; simp [results, Tryz.results146, go_sem, *]; rfl))
  exact ⟨_, rfl, by simpa using Hown1.out, h1⟩

theorem in_wrote {B : Nat} {w w' : World} (h : Wrote B w w') {x : V} {ka : Option Addr} {kc : Nat} {la : Option Addr} {lc : Nat} (hin : x.In w (fun b => b < B) ka kc la lc) : x.In w' (fun b => b < B) ka kc la lc :=
  hin.keep (fun b hb _ => Below.block h.below b hb) (fun _ h _ => h)
theorem go_step (o : Bool) (x : V) {k : Nat} (h : k < x.l.length) : V.text.go o (decide (k = 0)) (x.keys.drop k) (x.l.drop k) = (if k = 0 then [] else [44]) ++ ((if o then quoteL ((x.keys.drop k).headD ⟨#[]⟩).data.toList ++ [58] else []) ++ (x.l[k].text ++ V.text.go o (decide (k + 1 = 0)) (x.keys.drop (k + 1)) (x.l.drop (k + 1)))) := by
  rw [List.drop_eq_getElem_cons h, go_cons, List.tail_drop]
  simp
theorem text_obj {x : V} (h : x.k = 5) : x.text = 123 :: (V.text.go true true x.keys x.l ++ [125]) := by rw [text_eq, h]; simp
theorem text_list {x : V} (h : x.k = 4) : x.text = 91 :: (V.text.go false true x.keys x.l ++ [93]) := by rw [text_eq, h]; simp

set_option maxRecDepth 100000 in
set_option maxHeartbeats 8000000 in
theorem put_val (B : Nat) (m : Nat) : ∀ (x : V) (ka : Option Addr) (kc : Nat) (la : Option Addr) (lc : Nat) (v : Value) (l : Bytes) (w : World), x.size ≤ m → x.size ≤ 1048576 → x.sound → x.In w (fun b => b < B) ka kc la lc → l.length + x.text.length ≤ 1099511627776 →
    Lib.TabBelow Tryz.prog B w "internal/strconv.uint64pow10" .u64 Lib.pow10Tab → B ≤ w.heap.size → OwnB w B v l →
    Calls Tryz.prog 107 #[v, x.val ka kc la lc] w fun e w' => ∃ v', e = .returned v' ∧ OwnB w' B v' (l ++ x.text) ∧ Wrote B w w' := by
  induction m with
  | zero => intro x _ _ _ _ _ _ _ h; have := x.size_pos; omega
  | succ m ih =>
    intro x ka kc la lc v l w hm hsz hs hin hlen0 htab hB hown
    obtain ⟨av, cv, rfl, -⟩ := hown.form
    have hf := hs.flat
    have Hf := Lib.hid hf
    have Hs := Lib.hid hs
    have Hin := Lib.hid hin
    have Hown := Lib.hid hown
    have Ih := Lib.hid ih
    have hk0 := hf.k0
    have hk5 := hf.k5
    have hnlo := hf.nlo
    have hnhi := hf.nhi
    have hl := x.len_l
    clear hs hin hown ih hf
    by_cases k0 : x.k = 0
    · have Htx := Lib.hid (show x.text = [110, 117, 108, 108] by rw [text_eq, k0]; rfl)
      rw [Htx.out] at hlen0 ⊢
      go_enter Tryz.func107, Tryz.ntmps107
      go_wp2_with (at_builtin; refine wpl_apps (by rfl) _ _ _ _ (by rfl) (by rfl) (by rfl) B (.slice av l.length cv) l (by rfl) (Hown.out.ext Xt) ⟨#[110, 117, 108, 108]⟩ (by rfl) (by simp [ByteArray.size]; omega) (by first | omega | (simp; omega)) ?_; intro v2 w2 hown2 hgrow2; have h2 : Wrote B w w2 := Wrote.grown ((Wrote.refl B w).ext hB Xt) hB (Hown.out.ext Xt) hgrow2; have Hown2 := Lib.hid hown2; clear hown2 hgrow2)
      (with_reducible apply bp_ret); (focus (go_light; simp [results, Tryz.results107, go_sem, *]; rfl))
      exact ⟨_, rfl, by simpa [boolL] using Hown2.out, h2⟩
    by_cases k1 : x.k = 1
    · have Htx := Lib.hid (show x.text = boolL (x.n == 1) by rw [text_eq, k1]; unfold boolL; simp)
      rw [Htx.out]
      go_enter Tryz.func107, Tryz.ntmps107
      go_wp2_with fail
      (refine (appendBool_any B _ l _ _ (by omega) (by simp; omega) (Hown.out.ext Xt)).mono ?_); rintro e w1 ⟨v1, rfl, hown1, h1⟩
      obtain ⟨a1, c1, rfl, -⟩ := hown1.form
      have Hown1 := Lib.hid hown1
      clear hown1
      have h2 : Wrote B w w1 := ((Wrote.refl B w).ext hB Xt).trans h1
      go_wp2_with fail
      (with_reducible apply bp_ret); (focus (go_light; simp [results, Tryz.results107, go_sem, *]; rfl))
      exact ⟨_, rfl, by simpa using Hown1.out, h2⟩
    by_cases k2 : x.k = 2
    · have Htx := Lib.hid (show x.text = Lib.itoa x.n by rw [text_eq, k2]; rfl)
      rw [Htx.out]
      go_enter Tryz.func107, Tryz.ntmps107
      go_wp2_with fail
      (refine (Tryz.strconv_AppendInt_10 B l.length x.n (by omega) (by omega) _ (Lib.byteCells l) _ (Hown.out.ext Xt) (by simp; omega) (by omega) (htab.on (Wrote.below ((Wrote.refl B w).ext hB Xt)))).mono ?_); rintro e w1 ⟨v1, rfl, hown1, hb1, ho1⟩
      have hown1 : OwnB w1 B v1 (l ++ Lib.itoa x.n) := by
        unfold OwnB
        rw [List.length_append, Lib.byteCells_append]
        exact hown1
      obtain ⟨a1, c1, rfl, -⟩ := hown1.form
      have Hown1 := Lib.hid hown1
      clear hown1
      have h2 : Wrote B w w1 := ((Wrote.refl B w).ext hB Xt).trans ⟨hb1, ho1⟩
      go_wp2_with fail
      (with_reducible apply bp_ret); (focus (go_light; simp [results, Tryz.results107, go_sem, *]; rfl))
      exact ⟨_, rfl, by simpa using Hown1.out, h2⟩
    by_cases k3 : x.k = 3
    · have Htx := Lib.hid (show x.text = quoteL x.s.data.toList by rw [text_eq, k3]; rfl)
      have hs60 := (plain_bytes Hf.out.sp).2
      rw [Array.length_toList] at hs60
      have hs61 : x.s.size ≤ 60 := hs60
      rw [Htx.out]
      go_enter Tryz.func107, Tryz.ntmps107
      go_wp2_with fail
      (refine (quote_any B _ l x.s _ (by omega) (by omega) (by simp; omega) (Hown.out.ext Xt)).mono ?_); rintro e w1 ⟨v1, rfl, hown1, h1⟩
      obtain ⟨a1, c1, rfl, -⟩ := hown1.form
      have Hown1 := Lib.hid hown1
      clear hown1
      have h2 : Wrote B w w1 := ((Wrote.refl B w).ext hB Xt).trans h1
      go_wp2_with fail
      (with_reducible apply bp_ret); (focus (go_light; simp [results, Tryz.results107, go_sem, *]; rfl))
      exact ⟨_, rfl, by simpa using Hown1.out, h2⟩
    by_cases k4 : x.k = 4
    · have Htx := Lib.hid (text_list k4)
      have hlen1 := hlen0
      rw [Htx.out] at hlen1
      simp only [List.length_cons, List.length_append, List.length_nil] at hlen1
      go_enter Tryz.func107, Tryz.ntmps107
      go_wp2_with (at_builtin; refine wpl_app (by rfl) _ _ _ (by rfl) (by rfl) B (.slice av l.length cv) l (by rfl) (Hown.out.ext Xt) ⟨w.heap.size + 1, 0, none⟩ 1 1 [91] (by rfl) (by rfl) (by exact World.news_of_block (cs := #[.int .u8 91]) (t := 5) (fr := (0, 0)) (by simpa using heap_alloc_new (w.alloc _) _)) (by omega) (by simp; omega) ?_; intro v1 w1 hown1 hgrow1; have h1 : Wrote B w w1 := Wrote.grown ((Wrote.refl B w).ext hB Xt) hB (Hown.out.ext Xt) hgrow1; have hB01 : Box w1 w.heap.size #[.int .i64 x.k, .int .i64 x.n, .string x.s, .slice ka x.keys.length kc, .slice la x.l.length lc] 25 := Box.wrote (Wrote.grown (Wrote.refl B _) (by simp; omega) (Hown.out.ext Xt) hgrow1) Bxt (by decide); obtain ⟨a1, c1, rfl, -⟩ := hown1.form; have Hown1 := Lib.hid hown1; clear hown1 hgrow1; have hc01 := hB01.cells; have hf01 := hB01.free; have hl01 := hB01.lt)
      go_loopg [0, 7, 8, 44] x.l.length (fun g t0 _ _ i wr => ∃ (k : Nat) (acc : Bytes) (a0 : Option Addr) (c0 : Nat), k ≤ x.l.length ∧ i = .int .i64 k ∧ g = x.l.length - k ∧ t0 = .slice a0 acc.length c0 ∧ OwnB wr B (.slice a0 acc.length c0) acc ∧ acc ++ (V.text.go false (decide (k = 0)) (x.keys.drop k) (x.l.drop k) ++ [93]) = l ++ x.text ∧ Box wr w.heap.size #[.int .i64 x.k, .int .i64 x.n, .string x.s, .slice ka x.keys.length kc, .slice la x.l.length lc] 25 ∧ Wrote B w wr)
      case atStart => exact ⟨0, l ++ [91], a1, c1, by omega, rfl, rfl, by simp, Hown1.out, by rw [Htx.out]; simp, hB01, h1⟩
      case round =>
        clear hc01 hf01 hl01 hB01 h1 Hown1
        obtain ⟨k, acc, a0, c0, hk, rfl, rfl, rfl, hO, hacc, hB0, hx⟩ := hrel
        have hlen := congrArg List.length hacc
        rw [List.length_append] at hlen
        have hBr := Nat.le_trans hB hx.size
        have HO := Lib.hid hO
        have Hacc := Lib.hid hacc
        clear hO hacc
        have hc0 := hB0.cells; have hf0 := hB0.free; have hl0 := hB0.lt
        by_cases hlt : k < x.l.length
        · have hinr : x.In wr (fun b => b < B) ka kc la lc := Hin.out.keep (fun b hb _ => Below.block hx.below b hb) (fun _ h _ => h)
          obtain ⟨b, o, rfl, hS, ka2, kc2, la2, lc2, ⟨d0, d1, d2, d3, d4⟩, hin2⟩ := hinr.item hlt
          have Hin2 := Lib.hid hin2
          have hsz := V.size_item hlt
          have hsi := Hs.out.item (List.getElem_mem hlt)
          have Hst := Lib.hid (go_step false x hlt)
          rw [Hst.out] at hlen
          clear hin2
          go_upto_region 17 with fail
          refine gen_world (R := fun wx => Box wx w.heap.size #[.int .i64 x.k, .int .i64 x.n, .string x.s, .slice ka x.keys.length kc, .slice (some ⟨b, o, none⟩) x.l.length lc] 25 ∧ Box wx wr.heap.size #[.int .i64 x.l[k].k, .int .i64 x.l[k].n, .string x.l[k].s, .slice ka2 x.l[k].keys.length kc2, .slice la2 x.l[k].l.length lc2] 25 ∧ Ext wr wx) ⟨Bxt, Bxt, Xt⟩ ?_
          clear hB0 hc0 hf0 hl0
          rintro wi ⟨hB0, hB8, hxi⟩
          have hc0 := hB0.cells; have hf0 := hB0.free; have hl0 := hB0.lt
          have hc8 := hB8.cells; have hf8 := hB8.free; have hl8 := hB8.lt
          have hwi : Wrote B w wi := hx.ext hB hxi
          have hBi := Nat.le_trans hB hwi.size
          have HOi := Lib.hid (OwnB.ext HO.out hxi)
          have Hini := Lib.hid (V.In.ext Hin2.out hxi)
          by_cases hk0 : k = 0
          · have hkb : decide ((0 : Int) < (k : Int)) = false := by simp [hk0]
            have hkn : ¬ 0 < k := by omega
            simp only [if_pos hk0, Bool.false_eq_true, if_false, List.length_append, List.length_cons, List.length_nil] at hlen
            have Hk0 := Lib.hid hk0
            clear hk0
            go_wp2_with (first | (go_at_call 107; refine (Ih.out x.l[k] ka2 kc2 la2 lc2 (.slice a0 acc.length c0) (acc) _ (by omega) (by omega) hsi Hini.out (by (try simp only [List.length_append, List.length_cons, List.length_nil]); omega) (htab.on (Wrote.below hwi)) (Nat.le_trans hB (Wrote.size hwi)) HOi.out).mono ?_; rintro e w9 ⟨v9, rfl, hown9, h9⟩; have hx9 : Wrote B w w9 := Wrote.trans hwi h9; have hB09 := Box.wrote h9 hB0 (by decide); obtain ⟨a9, c9, rfl, -⟩ := hown9.form; have Hown9 := Lib.hid hown9; clear hown9))
            go_roundg (x.l.length - (k + 1))
            case measure => omega
            case rel => exact ⟨k + 1, acc ++ x.l[k].text, a9, c9, by omega, by go_num, rfl, by simp, Hown9.out, by rw [← Hacc.out, Hst.out, if_pos Hk0.out]; simp, hB09, hx9⟩
          · have hkb : decide ((0 : Int) < (k : Int)) = true := by simp; omega
            have hkn : 0 < k := by omega
            simp only [if_neg hk0, Bool.false_eq_true, if_false, List.length_append, List.length_cons, List.length_nil] at hlen
            have Hk0 := Lib.hid hk0
            clear hk0
            go_wp2_with (at_builtin; refine wpl_app (by rfl) _ _ _ (by rfl) (by rfl) B (.slice a0 acc.length c0) acc (by rfl) (HOi.out.ext Xt) ⟨wi.heap.size, 0, none⟩ 1 1 [44] (by rfl) (by rfl) (World.news_of_block (cs := #[.int .u8 44]) (t := 5) (fr := (0, 0)) (heap_alloc_new wi _)) (by omega) (by simp; omega) ?_; intro v3 w3 hown3 hgrow3; have g3 : Wrote B wi w3 := Wrote.grown ((Wrote.refl B wi).ext hBi Xt) hBi (HOi.out.ext Xt) hgrow3; have hw3 : Wrote B w w3 := hwi.trans g3; obtain ⟨a3, c3, rfl, -⟩ := hown3.form; have Hown3 := Lib.hid (show OwnB w3 B (.slice a3 (acc.length + 1) c3) (acc ++ [44]) by simpa using hown3); have hB03 := Box.wrote g3 hB0 (by decide); have hB83 := Box.wrote g3 hB8 (by decide); have hc03 := hB03.cells; have hf03 := hB03.free; have hl03 := hB03.lt; have hc83 := hB83.cells; have hf83 := hB83.free; have hl83 := hB83.lt; have Hin3 := Lib.hid (in_wrote g3 Hini.out); skip; clear hown3 hgrow3)
            go_wp2_with (first | (go_at_call 107; refine (Ih.out x.l[k] ka2 kc2 la2 lc2 (.slice a3 (acc.length + 1) c3) (acc ++ [44]) _ (by omega) (by omega) hsi Hin3.out (by (try simp only [List.length_append, List.length_cons, List.length_nil]); omega) (htab.on (Wrote.below hw3)) (Nat.le_trans hB (Wrote.size hw3)) Hown3.out).mono ?_; rintro e w9 ⟨v9, rfl, hown9, h9⟩; have hx9 : Wrote B w w9 := Wrote.trans hw3 h9; have hB09 := Box.wrote h9 hB03 (by decide); obtain ⟨a9, c9, rfl, -⟩ := hown9.form; have Hown9 := Lib.hid hown9; clear hown9))
            go_roundg (x.l.length - (k + 1))
            case measure => omega
            case rel => exact ⟨k + 1, acc ++ [44] ++ x.l[k].text, a9, c9, by omega, by go_num, rfl, by simp, Hown9.out, by rw [← Hacc.out, Hst.out, if_neg Hk0.out]; simp, hB09, hx9⟩
        · obtain rfl : k = x.l.length := by omega
          go_wp2_with (at_builtin; refine wpl_app (by rfl) _ _ _ (by rfl) (by rfl) B (.slice a0 acc.length c0) acc (by rfl) (HO.out.ext Xt) ⟨wr.heap.size, 0, none⟩ 1 1 [93] (by rfl) (by rfl) (World.news_of_block (cs := #[.int .u8 93]) (t := 5) (fr := (0, 0)) (heap_alloc_new wr _)) (by simp at hlen; omega) (by simp; omega) ?_; intro v2 w2 hown2 hgrow2; have h2 : Wrote B w w2 := Wrote.grown (hx.ext hB Xt) hB (HO.out.ext Xt) hgrow2; have Hown2 := Lib.hid hown2; clear hown2 hgrow2)
          (with_reducible apply bp_ret); (focus (go_light; simp [results, Tryz.results107, go_sem, *]; rfl))
          refine ⟨_, rfl, ?_, h2⟩
          have e := Hacc.out
          rw [List.drop_eq_nil_of_le (Nat.le_refl _), go_nil, List.nil_append] at e
          rw [← e]
          exact Hown2.out
    · have k5 : x.k = 5 := by omega
      have Htx := Lib.hid (text_obj k5)
      have hlen1 := hlen0
      rw [Htx.out] at hlen1
      simp only [List.length_cons, List.length_append, List.length_nil] at hlen1
      go_enter Tryz.func107, Tryz.ntmps107
      go_wp2_with (at_builtin; refine wpl_app (by rfl) _ _ _ (by rfl) (by rfl) B (.slice av l.length cv) l (by rfl) (Hown.out.ext Xt) ⟨w.heap.size + 1, 0, none⟩ 1 1 [123] (by rfl) (by rfl) (by exact World.news_of_block (cs := #[.int .u8 123]) (t := 5) (fr := (0, 0)) (by simpa using heap_alloc_new (w.alloc _) _)) (by omega) (by simp; omega) ?_; intro v1 w1 hown1 hgrow1; have h1 : Wrote B w w1 := Wrote.grown ((Wrote.refl B w).ext hB Xt) hB (Hown.out.ext Xt) hgrow1; have hB01 : Box w1 w.heap.size #[.int .i64 x.k, .int .i64 x.n, .string x.s, .slice ka x.keys.length kc, .slice la x.l.length lc] 25 := Box.wrote (Wrote.grown (Wrote.refl B _) (by simp; omega) (Hown.out.ext Xt) hgrow1) Bxt (by decide); obtain ⟨a1, c1, rfl, -⟩ := hown1.form; have Hown1 := Lib.hid hown1; clear hown1 hgrow1; have hc01 := hB01.cells; have hf01 := hB01.free; have hl01 := hB01.lt)
      go_loopg [0, 7, 8, 44] x.l.length (fun g t0 _ _ i wr => ∃ (k : Nat) (acc : Bytes) (a0 : Option Addr) (c0 : Nat), k ≤ x.l.length ∧ i = .int .i64 k ∧ g = x.l.length - k ∧ t0 = .slice a0 acc.length c0 ∧ OwnB wr B (.slice a0 acc.length c0) acc ∧ acc ++ (V.text.go true (decide (k = 0)) (x.keys.drop k) (x.l.drop k) ++ [125]) = l ++ x.text ∧ Box wr w.heap.size #[.int .i64 x.k, .int .i64 x.n, .string x.s, .slice ka x.keys.length kc, .slice la x.l.length lc] 25 ∧ Wrote B w wr)
      case atStart => exact ⟨0, l ++ [123], a1, c1, by omega, rfl, rfl, by simp, Hown1.out, by rw [Htx.out]; simp, hB01, h1⟩
      case round =>
        clear hc01 hf01 hl01 hB01 h1 Hown1
        obtain ⟨k, acc, a0, c0, hk, rfl, rfl, rfl, hO, hacc, hB0, hx⟩ := hrel
        have hlen := congrArg List.length hacc
        rw [List.length_append] at hlen
        have hBr := Nat.le_trans hB hx.size
        have HO := Lib.hid hO
        have Hacc := Lib.hid hacc
        clear hO hacc
        have hc0 := hB0.cells; have hf0 := hB0.free; have hl0 := hB0.lt
        by_cases hlt : k < x.l.length
        · have hinr : x.In wr (fun b => b < B) ka kc la lc := Hin.out.keep (fun b hb _ => Below.block hx.below b hb) (fun _ h _ => h)
          obtain ⟨b, o, rfl, hS, ka2, kc2, la2, lc2, ⟨d0, d1, d2, d3, d4⟩, hin2⟩ := hinr.item hlt
          have Hin2 := Lib.hid hin2
          have hsz := V.size_item hlt
          have hsi := Hs.out.item (List.getElem_mem hlt)
          have Hst := Lib.hid (go_step true x hlt)
          rw [Hst.out] at hlen
          clear hin2
          go_upto_region 17 with fail
          refine gen_world (R := fun wx => Box wx w.heap.size #[.int .i64 x.k, .int .i64 x.n, .string x.s, .slice ka x.keys.length kc, .slice (some ⟨b, o, none⟩) x.l.length lc] 25 ∧ Box wx wr.heap.size #[.int .i64 x.l[k].k, .int .i64 x.l[k].n, .string x.l[k].s, .slice ka2 x.l[k].keys.length kc2, .slice la2 x.l[k].l.length lc2] 25 ∧ Ext wr wx) ⟨Bxt, Bxt, Xt⟩ ?_
          clear hB0 hc0 hf0 hl0
          rintro wi ⟨hB0, hB8, hxi⟩
          have hc0 := hB0.cells; have hf0 := hB0.free; have hl0 := hB0.lt
          have hc8 := hB8.cells; have hf8 := hB8.free; have hl8 := hB8.lt
          have hwi : Wrote B w wi := hx.ext hB hxi
          have hBi := Nat.le_trans hB hwi.size
          have HOi := Lib.hid (OwnB.ext HO.out hxi)
          have Hini := Lib.hid (V.In.ext Hin2.out hxi)
          have hlk : k < x.keys.length := by rw [Hf.out.len k5]; exact hlt
          obtain ⟨b1, o1, rfl, hS1, d5⟩ := hinr.key hlk
          have d5 := hxi.cell d5
          have hks := (plain_bytes (Hf.out.kp _ (List.getElem_mem hlk))).2
          rw [Array.length_toList] at hks
          have hks1 : x.keys[k].size ≤ 60 := hks
          have hki0 : (0 : Int) ≤ (k : Int) := by omega
          have hki1 : (k : Int) < (x.keys.length : Int) := by omega
          have Hhd := Lib.hid (show (x.keys.drop k).headD ⟨#[]⟩ = x.keys[k] by rw [List.drop_eq_getElem_cons hlk]; rfl)
          rw [Hhd.out] at hlen
          by_cases hk0 : k = 0
          · have hkb : decide ((0 : Int) < (k : Int)) = false := by simp [hk0]
            have hkn : ¬ 0 < k := by omega
            simp only [if_pos hk0, if_true, List.length_append, List.length_cons, List.length_nil] at hlen
            have Hk0 := Lib.hid hk0
            clear hk0
            go_wp2_with (first | (go_at_call 107; refine (Ih.out x.l[k] ka2 kc2 la2 lc2 (.slice a5 (L4.length + 1) c5) (L4 ++ [58]) _ (by omega) (by omega) hsi Hin5.out (by (try simp only [List.length_append, List.length_cons, List.length_nil]); omega) (htab.on (Wrote.below hw5)) (Nat.le_trans hB (Wrote.size hw5)) Hown5.out).mono ?_; rintro e w9 ⟨v9, rfl, hown9, h9⟩; have hx9 : Wrote B w w9 := Wrote.trans hw5 h9; have hB09 := Box.wrote h9 hB05 (by decide); obtain ⟨a9, c9, rfl, -⟩ := hown9.form; have Hown9 := Lib.hid hown9; clear hown9)| (go_at_call 148; refine (quote_any B (.slice a0 acc.length c0) (acc) x.keys[k] _ (by omega) (by (try simp only [List.length_append, List.length_cons, List.length_nil]); omega) (Nat.le_trans hB (Wrote.size hwi)) HOi.out).mono ?_; rintro e w4 ⟨v4, rfl, hown4, h4⟩; obtain ⟨L4, hL4⟩ : ∃ L4, L4 = acc ++ quoteL x.keys[k].data.toList := ⟨_, rfl⟩; rw [← hL4] at hown4; have hll4 := Nat.le_of_eq (congrArg List.length hL4); (simp only [List.length_append, List.length_cons, List.length_nil] at hll4); have HL4 := Lib.hid hL4; have hw4 : Wrote B w w4 := Wrote.trans hwi h4; have hB4 := Nat.le_trans hB hw4.size; have hB04 := Box.wrote h4 hB0 (by decide); have hB84 := Box.wrote h4 hB8 (by decide); have Hin4 := Lib.hid (in_wrote h4 Hini.out); obtain ⟨a4, c4, rfl, -⟩ := hown4.form; have Hown4 := Lib.hid hown4; clear hown4 hL4; have hc04 := hB04.cells; have hf04 := hB04.free; have hl04 := hB04.lt; have hc84 := hB84.cells; have hf84 := hB84.free; have hl84 := hB84.lt)
                                                                                                                                                                                                                                                                                                                                                                                                                                                                                                                                                             | (at_builtin; refine wpl_app (by rfl) _ _ _ (by rfl) (by rfl) B (.slice a4 L4.length c4) L4 (by rfl) (Hown4.out.ext Xt) ⟨w4.heap.size, 0, none⟩ 1 1 [58] (by rfl) (by rfl) (World.news_of_block (cs := #[.int .u8 58]) (t := 5) (fr := (0, 0)) (heap_alloc_new w4 _)) (by omega) (by simp; omega) ?_; intro v5 w5 hown5 hgrow5; have g5 : Wrote B w4 w5 := Wrote.grown ((Wrote.refl B w4).ext hB4 Xt) hB4 (Hown4.out.ext Xt) hgrow5; have hw5 : Wrote B w w5 := hw4.trans g5; obtain ⟨a5, c5, rfl, -⟩ := hown5.form; have Hown5 := Lib.hid (show OwnB w5 B (.slice a5 (L4.length + 1) c5) (L4 ++ [58]) by simpa using hown5); have hB05 := Box.wrote g5 hB04 (by decide); have hB85 := Box.wrote g5 hB84 (by decide); have hc05 := hB05.cells; have hf05 := hB05.free; have hl05 := hB05.lt; have hc85 := hB85.cells; have hf85 := hB85.free; have hl85 := hB85.lt; have Hin5 := Lib.hid (in_wrote g5 Hin4.out); clear hown5 hgrow5 hc04 hf04 hc84 hf84 hl04 hl84 hB04 hB84))
            go_roundg (x.l.length - (k + 1))
            case measure => omega
            case rel => exact ⟨k + 1, L4 ++ [58] ++ x.l[k].text, a9, c9, by omega, by go_num, rfl, by simp, Hown9.out, by rw [← Hacc.out, Hst.out, if_pos Hk0.out, HL4.out, Hhd.out]; simp, hB09, hx9⟩
          · have hkb : decide ((0 : Int) < (k : Int)) = true := by simp; omega
            have hkn : 0 < k := by omega
            simp only [if_neg hk0, if_true, List.length_append, List.length_cons, List.length_nil] at hlen
            have Hk0 := Lib.hid hk0
            clear hk0
            go_wp2_with (at_builtin; refine wpl_app (by rfl) _ _ _ (by rfl) (by rfl) B (.slice a0 acc.length c0) acc (by rfl) (HOi.out.ext Xt) ⟨wi.heap.size, 0, none⟩ 1 1 [44] (by rfl) (by rfl) (World.news_of_block (cs := #[.int .u8 44]) (t := 5) (fr := (0, 0)) (heap_alloc_new wi _)) (by omega) (by simp; omega) ?_; intro v3 w3 hown3 hgrow3; have g3 : Wrote B wi w3 := Wrote.grown ((Wrote.refl B wi).ext hBi Xt) hBi (HOi.out.ext Xt) hgrow3; have hw3 : Wrote B w w3 := hwi.trans g3; obtain ⟨a3, c3, rfl, -⟩ := hown3.form; have Hown3 := Lib.hid (show OwnB w3 B (.slice a3 (acc.length + 1) c3) (acc ++ [44]) by simpa using hown3); have hB03 := Box.wrote g3 hB0 (by decide); have hB83 := Box.wrote g3 hB8 (by decide); have hc03 := hB03.cells; have hf03 := hB03.free; have hl03 := hB03.lt; have hc83 := hB83.cells; have hf83 := hB83.free; have hl83 := hB83.lt; have Hin3 := Lib.hid (in_wrote g3 Hini.out); have d53 := (Below.cell (p := ⟨b1, o1 + k, none⟩) g3.below hS1).trans d5; clear hown3 hgrow3)
            go_wp2_with (first | (go_at_call 107; refine (Ih.out x.l[k] ka2 kc2 la2 lc2 (.slice a5 (L4.length + 1) c5) (L4 ++ [58]) _ (by omega) (by omega) hsi Hin5.out (by (try simp only [List.length_append, List.length_cons, List.length_nil]); omega) (htab.on (Wrote.below hw5)) (Nat.le_trans hB (Wrote.size hw5)) Hown5.out).mono ?_; rintro e w9 ⟨v9, rfl, hown9, h9⟩; have hx9 : Wrote B w w9 := Wrote.trans hw5 h9; have hB09 := Box.wrote h9 hB05 (by decide); obtain ⟨a9, c9, rfl, -⟩ := hown9.form; have Hown9 := Lib.hid hown9; clear hown9)| (go_at_call 148; refine (quote_any B (.slice a3 (acc.length + 1) c3) (acc ++ [44]) x.keys[k] _ (by omega) (by (try simp only [List.length_append, List.length_cons, List.length_nil]); omega) (Nat.le_trans hB (Wrote.size hw3)) Hown3.out).mono ?_; rintro e w4 ⟨v4, rfl, hown4, h4⟩; obtain ⟨L4, hL4⟩ : ∃ L4, L4 = acc ++ [44] ++ quoteL x.keys[k].data.toList := ⟨_, rfl⟩; rw [← hL4] at hown4; have hll4 := Nat.le_of_eq (congrArg List.length hL4); (simp only [List.length_append, List.length_cons, List.length_nil] at hll4); have HL4 := Lib.hid hL4; have hw4 : Wrote B w w4 := Wrote.trans hw3 h4; have hB4 := Nat.le_trans hB hw4.size; have hB04 := Box.wrote h4 hB03 (by decide); have hB84 := Box.wrote h4 hB83 (by decide); have Hin4 := Lib.hid (in_wrote h4 Hin3.out); obtain ⟨a4, c4, rfl, -⟩ := hown4.form; have Hown4 := Lib.hid hown4; clear hown4 hL4; have hc04 := hB04.cells; have hf04 := hB04.free; have hl04 := hB04.lt; have hc84 := hB84.cells; have hf84 := hB84.free; have hl84 := hB84.lt)
                                                                                                                                                                                                                                                                                                                                                                                                                                                                                                                                                             | (at_builtin; refine wpl_app (by rfl) _ _ _ (by rfl) (by rfl) B (.slice a4 L4.length c4) L4 (by rfl) (Hown4.out.ext Xt) ⟨w4.heap.size, 0, none⟩ 1 1 [58] (by rfl) (by rfl) (World.news_of_block (cs := #[.int .u8 58]) (t := 5) (fr := (0, 0)) (heap_alloc_new w4 _)) (by omega) (by simp; omega) ?_; intro v5 w5 hown5 hgrow5; have g5 : Wrote B w4 w5 := Wrote.grown ((Wrote.refl B w4).ext hB4 Xt) hB4 (Hown4.out.ext Xt) hgrow5; have hw5 : Wrote B w w5 := hw4.trans g5; obtain ⟨a5, c5, rfl, -⟩ := hown5.form; have Hown5 := Lib.hid (show OwnB w5 B (.slice a5 (L4.length + 1) c5) (L4 ++ [58]) by simpa using hown5); have hB05 := Box.wrote g5 hB04 (by decide); have hB85 := Box.wrote g5 hB84 (by decide); have hc05 := hB05.cells; have hf05 := hB05.free; have hl05 := hB05.lt; have hc85 := hB85.cells; have hf85 := hB85.free; have hl85 := hB85.lt; have Hin5 := Lib.hid (in_wrote g5 Hin4.out); clear hown5 hgrow5 hc04 hf04 hc84 hf84 hl04 hl84 hB04 hB84))
            go_roundg (x.l.length - (k + 1))
            case measure => omega
            case rel => exact ⟨k + 1, L4 ++ [58] ++ x.l[k].text, a9, c9, by omega, by go_num, rfl, by simp, Hown9.out, by rw [← Hacc.out, Hst.out, if_neg Hk0.out, HL4.out, Hhd.out]; simp, hB09, hx9⟩
        · obtain rfl : k = x.l.length := by omega
          go_wp2_with (at_builtin; refine wpl_app (by rfl) _ _ _ (by rfl) (by rfl) B (.slice a0 acc.length c0) acc (by rfl) (HO.out.ext Xt) ⟨wr.heap.size, 0, none⟩ 1 1 [125] (by rfl) (by rfl) (World.news_of_block (cs := #[.int .u8 125]) (t := 5) (fr := (0, 0)) (heap_alloc_new wr _)) (by simp at hlen; omega) (by simp; omega) ?_; intro v2 w2 hown2 hgrow2; have h2 : Wrote B w w2 := Wrote.grown (hx.ext hB Xt) hB (HO.out.ext Xt) hgrow2; have Hown2 := Lib.hid hown2; clear hown2 hgrow2)
          (with_reducible apply bp_ret); (focus (go_light; simp [results, Tryz.results107, go_sem, *]; rfl))
          refine ⟨_, rfl, ?_, h2⟩
          have e := Hacc.out
          rw [List.drop_eq_nil_of_le (Nat.le_refl _), go_nil, List.nil_append] at e
          rw [← e]
          exact Hown2.out

theorem quote_len (s : Bytes) : (quoteL s).length ≤ 6 * s.length + 2 := by
  unfold quoteL
  have : (s.flatMap escC).length ≤ 6 * s.length := by
    induction s with
    | nil => simp
    | cons c t ih => rw [List.flatMap_cons, List.length_append, List.length_cons]; have := escC_len c; omega
  simp only [List.length_cons, List.length_append, List.length_nil]; omega
theorem strs_cons (k : ByteArray) (ks : List ByteArray) : strsSize (k :: ks) = k.size + 1 + strsSize ks := by simp [strsSize]; try omega
theorem text_len (x : V) : x.sound → x.text.length + 10 ≤ 30 * x.size := by
  induction x using V.ind with
  | h x ih =>
    intro hs
    have hf := hs.flat
    have hgo : ∀ (o first : Bool) (r : List V) (ks : List ByteArray), (∀ y ∈ r, y ∈ x.l) → (V.text.go o first ks r).length ≤ 6 * strsSize ks + 30 * (r.map V.size).sum := by
      intro o first r
      induction r generalizing first with
      | nil => intro ks _; rw [go_nil]; simp
      | cons y r ihr =>
        intro ks hr
        rw [go_cons]
        have h1 := ih y (hr y (by simp)) (hs.item (hr y (by simp)))
        have h2 := ihr false ks.tail (fun z hz => hr z (by simp [hz]))
        have h3 : (if first = true then ([] : Bytes) else [44]).length ≤ 1 := by cases first <;> simp
        cases ks with
        | nil =>
          have h4 : (if o = true then quoteL (([] : List ByteArray).headD ⟨#[]⟩).data.toList ++ [58] else []).length ≤ 3 := by cases o <;> decide
          simp only [List.length_append, List.map_cons, List.sum_cons, List.tail_nil] at *
          omega
        | cons k ks =>
          have h4 : (if o = true then quoteL ((k :: ks).headD ⟨#[]⟩).data.toList ++ [58] else []).length ≤ 6 * k.size + 3 := by
            cases o
            · simp
            · have h5 := quote_len k.data.toList
              have e : k.data.toList.length = k.size := Array.length_toList
              rw [e] at h5
              simp only [if_true, List.headD_cons, List.length_append, List.length_cons, List.length_nil]
              omega
          rw [strs_cons]
          simp only [List.length_append, List.map_cons, List.sum_cons, List.tail_cons] at *
          omega
    have ha := hgo true true x.l x.keys (fun y h => h)
    have hb := hgo false true x.l x.keys (fun y h => h)
    have hi := itoa_len hf.nlo hf.nhi
    have hq := quote_len x.s.data.toList
    have e : x.s.data.toList.length = x.s.size := Array.length_toList
    rw [e] at hq
    rw [text_eq, V.size_eq]
    repeat' split
    all_goals (try simp only [List.length_cons, List.length_append, List.length_nil])
    all_goals omega
set_option maxRecDepth 100000 in
set_option maxHeartbeats 8000000 in
theorem print_any (x : V) (ka : Option Addr) (kc : Nat) (la : Option Addr) (lc : Nat) (S : Nat → Prop) (w : World) (hsz : x.size ≤ 1073741824) (hin0 : x.In w S ka kc la lc) (hl : LibAt w) :
    Calls Tryz.prog 46 #[x.val ka kc la lc] w fun e w' => e = .returned (.tuple #[.string ⟨(printV x).1.toArray⟩, .int .i64 (printV x).2]) ∧ Ext w w' := by
  have Hin := Lib.hid (show x.In w (fun b => b < w.heap.size) ka kc la lc from hin0.mono fun b _ h => h)
  clear hin0
  by_cases hf : x.fine = true
  · have hso := fine_sound hf
    have hfs := fine_size hf
    have htl := text_len x hso
    go_enter Tryz.func46, Tryz.ntmps46
    go_wp2_with fail
    (refine (fine_any x ka kc la lc _ _ (by omega) (Hin.out.ext Xt)).mono ?_); rintro e w1 ⟨rfl, h1⟩
    rw [hf]
    have hx1 : Ext w w1 := Xt
    have hB : Box w1 w.heap.size #[.int .i64 x.k, .int .i64 x.n, .string x.s, .slice ka x.keys.length kc, .slice la x.l.length lc] 25 := Box.ext h1 Bxt
    clear h1
    have hc0 := hB.cells; have hf0 := hB.free; have hl0 := hB.lt
    have htab := Lib.tabBelow_of_tabIs (hl.ext hx1).tab
    go_wp2_with fail
    (refine (put_val w1.heap.size x.size x ka kc la lc (.slice none 0 0) [] _ (Nat.le_refl _) (by omega) hso ((Hin.out.ext hx1).mono (fun b _ h => h)) (by simp only [List.length_nil]; omega) htab (Nat.le_refl _) (OwnB.nil _ _)).mono ?_); rintro e w2 ⟨v2, rfl, hown2, h2⟩
    rw [List.nil_append] at hown2
    have hcv := run_str hown2
    obtain ⟨a2, c2, rfl, -⟩ := hown2.form
    have hx2 : Ext w w2 := hx1.trans h2.below
    clear hown2 h2
    by_cases hlo : 2000 < x.text.length
    · have hp : printV x = ([], 2) := by unfold printV; rw [if_neg (by rw [hf]; decide), if_pos hlo]
      go_wp2_with fail
      (with_reducible apply bp_ret); (focus (go_light; simp [results, Tryz.results46, go_sem, *]; rfl))
      rw [hp]
      exact ⟨rfl, hx2⟩
    · have hp : printV x = (x.text, 0) := by unfold printV; rw [if_neg (by rw [hf]; decide), if_neg hlo]
      go_wp2_with fail
      (with_reducible apply bp_ret); (focus (go_light; simp [results, Tryz.results46, go_sem, *]; rfl))
      rw [hp]
      exact ⟨rfl, hx2⟩
  · have hf' : x.fine = false := by simpa using hf
    have hp : printV x = ([], 1) := by unfold printV; rw [if_pos hf']
    go_enter Tryz.func46, Tryz.ntmps46
    go_wp2_with fail
    (refine (fine_any x ka kc la lc _ _ (by omega) (Hin.out.ext Xt)).mono ?_); rintro e w1 ⟨rfl, h1⟩
    rw [hf']
    go_wp2_with fail
    (with_reducible apply bp_ret); (focus (go_light; simp [results, Tryz.results46, go_sem, *]; rfl))
    rw [hp]
    exact ⟨rfl, Xt⟩
end Go.Proofs.YtjibdbnpkfghhaaGreatDoor
