/- The walks of the reference's text and PrintValue. -/
import Derived.Test.YtnbappeiebameaaGreatDoorQuotR
import Derived.Test.YtnbappeiebameaaGreatDoorPrint
import Derived.Test.YtnbappeiebameaaGreatDoorShelfJ
import Derived.Test.YtnbappeiebameaaGreatDoorOwnP
import Derived.Test.YtnbappeiebameaaGreatDoorRef3
set_option linter.all false
namespace Go.Proofs.YtnbappeiebameaaGreatDoor
open Go.RowKit
attribute [local go_sem ↓] Go.wp_at_zero Go.wp_at_succ

/-- One more text, behind a row of the call's own. -/
theorem wpl_key {W : World} {ops : Array Oper} {rest : List Oper} {o : Oper} {a : Act} {Q : Exit → Act → World → Prop} {base n : Nat} {vk : Value} {ks : List ByteArray} (hgd : o.guard = none) (key : ByteArray) (B : Nat) {s x : Operand}
    (ho : o.op = .call { callee := .builtin .append, args := #[s, x], argTypes := #[22, 22] }) (hs : a.eval s = vk) (hx : a.eval x = .slice (some ⟨B, 0, none⟩) 1 1)
    (hS : OwnS W base vk n ks) (hB : Box W B #[.string key] 9) (hn : n ≤ 10737418240) (hbase : base ≤ W.heap.size)
    (h : ∀ g cap w', OwnS w' base (.slice (some ⟨g, 0, none⟩) (n + 1) cap) (n + 1) (ks ++ [key]) → Held (fun b => b < base) W w' → (∀ w0 : World, Ext w0 W → w0.heap.size ≤ base → Ext w0 w') → wpList Tryz.prog ops Q rest (a.put o.dst (.slice (some ⟨g, 0, none⟩) (n + 1) cap)) w') : wpList Tryz.prog ops Q (o :: rest) a W :=
  wpList_plain hgd fun _ hK => app_key (S := fun _ => False) (l := []) (m := 0) (vl := .slice none 0 0) key B ho hs hx hS (OwnI.nil W base _) (Ext.refl _) (Held.refl _ _) hB hn hbase fun g cap w' h1 _ h3 h4 _ => hK _ _ (h g cap w' h1 h3 h4)

/-- The texts that are joined. -/
def partsL : Bool → List ByteArray → List V → List Bytes
  | _, _, [] => []
  | o, ks, x :: r => ((if o then quoteL (ks.headD ⟨#[]⟩).data.toList ++ [58] else []) ++ x.text) :: partsL o ks.tail r
theorem parts_tail (o : Bool) : ∀ (r : List V) (ks : List ByteArray), Lib.joinTail [44] (partsL o ks r) = V.text.go o false ks r
  | [], ks => by rw [go_nil]; rfl
  | x :: r, ks => by
    rw [go_cons, partsL]
    have ih := parts_tail o r ks.tail
    simp only [Lib.joinTail, List.map_cons, List.flatten_cons] at ih ⊢
    rw [ih]
    simp
theorem join_parts (o : Bool) (ks : List ByteArray) (l : List V) : Lib.join (partsL o ks l) [44] = V.text.go o true ks l := by
  cases l with
  | nil => rw [go_nil]; rfl
  | cons x r =>
    rw [partsL, Lib.join_cons, parts_tail, go_cons]
    simp
theorem parts_next (o : Bool) (x : V) {k : Nat} (h : k < x.l.length) {qs : List Bytes} (e : qs ++ partsL o (x.keys.drop k) (x.l.drop k) = partsL o x.keys x.l) :
    (qs ++ [(if o then quoteL ((x.keys.drop k).headD ⟨#[]⟩).data.toList ++ [58] else []) ++ x.l[k].text]) ++ partsL o (x.keys.drop (k + 1)) (x.l.drop (k + 1)) = partsL o x.keys x.l := by
  rw [← e, List.drop_eq_getElem_cons h, partsL, List.tail_drop]
  simp
theorem mk_data (l : List UInt8) : (⟨l.toArray⟩ : ByteArray).data.toList = l := by simp
theorem size_data (q : ByteArray) : q.size = q.data.toList.length := by rw [Array.length_toList]; rfl
/-- strings.Join, of texts that the call gathered. -/
theorem joinS_any (base n : Nat) (a : Option Addr) (c : Nat) (qs : List ByteArray) (w : World) (hS : OwnS w base (.slice a n c) n qs) (hn : n ≤ 1073741824) (hlen : (Lib.join (qs.map (·.data.toList)) [44]).length ≤ 1073741824) :
    Calls Tryz.prog 161 #[.slice a n c, .string ⟨#[44]⟩] w fun e w' => ∃ q : ByteArray, e = .returned (.string q) ∧ q.data.toList = Lib.join (qs.map (·.data.toList)) [44] ∧ Ext w w' := by
  obtain ⟨a2, c2, he, hok, hl, hst⟩ := hS.strs
  simp only [Value.slice.injEq, true_and] at he
  obtain ⟨rfl, rfl⟩ := he
  rcases hst with rfl | ⟨b, o, rfl, hb, hc⟩
  · simp only [List.length_nil] at hl
    subst hl
    refine (Tryz.strings_Join_none a c _ w).mono ?_
    rintro e w' ⟨rfl, rfl⟩
    exact ⟨_, rfl, rfl, Ext.refl _⟩
  · subst hl
    by_cases h0 : qs.length = 0
    · have hq := List.length_eq_zero_iff.1 h0
      subst hq
      refine (Tryz.strings_Join_none _ c _ w).mono ?_
      rintro e w' ⟨rfl, rfl⟩
      exact ⟨_, rfl, rfl, Ext.refl _⟩
    · have hlt := cell_lt (hc 0 (by omega))
      refine (Tryz.strings_Join b o c qs ⟨#[44]⟩ w (fun j x hj => by
        obtain ⟨h1, h2⟩ := List.getElem?_eq_some_iff.1 hj
        rw [← h2]; exact hc j h1) hlt (by omega) hok.1 (Nat.le_trans hlen (by omega))).mono ?_
      rintro e w' ⟨rfl, hx⟩
      exact ⟨_, rfl, mk_data _, hx⟩

set_option maxRecDepth 100000 in
set_option maxHeartbeats 16000000 in
theorem textR_any (m : Nat) : ∀ (x : V) (ka : Option Addr) (kc : Nat) (la : Option Addr) (lc : Nat) (S : Nat → Prop) (w : World), x.size ≤ m → x.size ≤ 14640 → x.sound → x.In w S ka kc la lc →
    Calls Tryz.prog 88 #[x.val ka kc la lc] w fun e w' => ∃ q : ByteArray, e = .returned (.string q) ∧ q.data.toList = x.text ∧ Ext w w' := by
  induction m with
  | zero => intro x _ _ _ _ _ _ h; have := x.size_pos; omega
  | succ m ih =>
    intro x ka kc la lc S w hm hsz hso hin
    have Ih := Lib.hid ih
    have Hin := Lib.hid (show x.In w (fun b => b < w.heap.size) ka kc la lc from hin.mono fun b _ h => h)
    have hll := x.len_l
    have hlk := x.len_keys
    have hls := x.len_s
    have Hf := Lib.hid hso.flat
    have Hso := Lib.hid hso
    have htl := text_len x hso
    obtain ⟨o, ho⟩ : ∃ o, (x.k == 5) = o := ⟨_, rfl⟩
    have Ho := Lib.hid ho
    clear ih hin hso
    go_enter Tryz.func88, Tryz.ntmps88
    go_upto_region 2 with fail
    refine gen_world (R := fun wx => Box wx w.heap.size #[.int .i64 x.k, .int .i64 x.n, .string x.s, .slice ka x.keys.length kc, .slice la x.l.length lc] 25 ∧ Ext w wx) ⟨Bxt, Xt⟩ ?_
    rintro wa ⟨hB0, hxa⟩
    have hz0 := hB0.lt
    have hc0 := hB0.cells; have hf0 := hB0.free; have hl0 := hB0.lt
    go_wp2_with fail
    clear hc0 hf0 hl0
    go_loopg [3, 4, 5, 6, 10] x.l.length (fun g t3 _ _ _ i wr => ∃ (k : Nat) (qs : List ByteArray) (a3 : Option Addr) (c3 : Nat), k ≤ x.l.length ∧ i = .int .i64 k ∧ g = x.l.length - k ∧ t3 = .slice a3 k c3 ∧ Hid (OwnS wr wa.heap.size (.slice a3 k c3) k qs) ∧ Hid (qs.map (·.data.toList) ++ partsL o (x.keys.drop k) (x.l.drop k) = partsL o x.keys x.l) ∧ Box wr w.heap.size #[.int .i64 x.k, .int .i64 x.n, .string x.s, .slice ka x.keys.length kc, .slice la x.l.length lc] 25 ∧ Ext w wr ∧ wa.heap.size ≤ wr.heap.size)
    case atStart => exact ⟨0, [], none, 0, by omega, rfl, rfl, rfl, Lib.hid (OwnS.nil _ _), Lib.hid rfl, hB0, hxa, by omega⟩
    case round =>
      clear hB0
      obtain ⟨k, qs, a3, c3, hk, rfl, rfl, rfl, HS, Hq, hB0, hx, hzr⟩ := hrel
      have hc0 := hB0.cells; have hf0 := hB0.free; have hl0 := hB0.lt
      by_cases hlt : k < x.l.length
      · obtain ⟨bq, oq, rfl, hSq, ka', kc', la', lc', ⟨d0, d1, d2, d3, d4⟩, hin'⟩ := Hin.out.item hlt
        have d0 := hx.cell d0; have d1 := hx.cell d1; have d2 := hx.cell d2; have d3 := hx.cell d3; have d4 := hx.cell d4
        have hki0 : (0 : Int) ≤ (k : Int) := by omega
        have hki1 : (k : Int) < (x.l.length : Int) := by omega
        have Hin' := Lib.hid hin'
        have hsi := V.size_item hlt
        have Hsi := Lib.hid (Hso.out.item (List.getElem_mem hlt))
        have hti := text_len x.l[k] Hsi.out
        have Hn := Lib.hid (parts_next o x hlt Hq.out)
        clear hin'
        go_upto_region 5 with fail
        refine gen_world (R := fun wx => OwnS wx wa.heap.size (.slice a3 k c3) k qs ∧ Box wx wr.heap.size #[.int .i64 x.l[k].k, .int .i64 x.l[k].n, .string x.l[k].s, .slice ka' x.l[k].keys.length kc', .slice la' x.l[k].l.length lc'] 25 ∧ Box wx w.heap.size #[.int .i64 x.k, .int .i64 x.n, .string x.s, .slice ka x.keys.length kc, .slice (some ⟨bq, oq, none⟩) x.l.length lc] 25 ∧ Ext w wx ∧ wa.heap.size ≤ wx.heap.size) ⟨HS.out.ext Xt, Bxt, Bxt, Xt, by simp; omega⟩ ?_
        clear HS hB0 hx hc0 hf0 hl0 d0 d1 d2 d3 d4 hzr
        rintro wb ⟨hS, hBq, hB0, hx, hzb⟩
        have HS := Lib.hid hS
        clear hS
        have hcq := hBq.cells; have hfq := hBq.free; have hlq := hBq.lt
        go_wp2_with fail
        (refine (Ih.out x.l[k] ka' kc' la' lc' (fun b => b < w.heap.size) _ (by omega) (by omega) Hsi.out (Hin'.out.ext Xt)).mono ?_)
        rintro e w1 ⟨q, rfl, hqt, h1⟩
        have Hqt := Lib.hid hqt
        have hqz : q.size + 10 ≤ 30 * x.l[k].size := by rw [size_data, hqt]; exact hti
        have HS := Lib.hid (HS.out.ext (w' := w1) Xt)
        have hB0 := Box.ext (w' := w1) Xt hB0
        have hzc : wa.heap.size ≤ w1.heap.size := by have := h1.size; first | omega | (simp at this; omega)
        have hx1 : Ext w w1 := Xt
        clear h1 hqt hcq hfq hlq hBq hx hzb
        have hc0 := hB0.cells; have hf0 := hB0.free; have hl0 := hB0.lt
        cases o with
        | true =>
          have h5 : x.k = 5 := by have := Ho.out; simpa using this
          have h5b : (x.k == 5) = true := Ho.out
          have hlt2 : k < x.keys.length := by rw [Hf.out.len h5]; exact hlt
          have hki2 : (k : Int) < (x.keys.length : Int) := by omega
          obtain ⟨bk, ok, rfl, hSk, e0⟩ := Hin.out.key hlt2
          have e0 := hx1.cell e0
          have hkp := plain_bytes (Hf.out.kp _ (List.getElem_mem hlt2))
          have hksz : x.keys[k].size ≤ 60 := by rw [size_data]; exact hkp.2
          have hql := quote_len x.keys[k].data.toList
          have hhd : (x.keys.drop k).headD ⟨#[]⟩ = x.keys[k] := by rw [List.drop_eq_getElem_cons hlt2]; rfl
          rw [hhd] at Hn
          rw [← size_data] at hql
          clear h5 hhd
          go_wp2_with fail
          (refine (quotedR_any x.keys[k] _ (by omega) (Lib.hid hkp.1)).mono ?_)
          rintro e w2 ⟨q2, rfl, hq2, h2⟩
          have Hq2 := Lib.hid hq2
          have hq2z : q2.size ≤ 362 := by rw [size_data, hq2]; omega
          have HS := Lib.hid (HS.out.ext (w' := w2) Xt)
          have hB0 := Box.ext (w' := w2) Xt hB0
          have hzd : wa.heap.size ≤ w2.heap.size := by have := h2.size; first | omega | (simp at this; omega)
          have hx2 : Ext w w2 := Xt
          have hs1 : (q2 ++ ⟨#[58]⟩ : ByteArray).size = q2.size + 1 := by rw [ByteArray.size_append]; rfl
          have hb1 : ¬ 9223372036854775807 < q2.size + 1 := by omega
          have hb2 : ¬ 9223372036854775807 < q2.size + 1 + q.size := by omega
          clear h2 hq2 hc0 hf0 hl0 e0 hx1 hzc hkp
          go_upto_region 9 with (at_builtin; refine wpl_key (by rfl) ((q2 ++ ⟨#[58]⟩) ++ q) w2.heap.size (by rfl) (by rfl) (by rfl) (HS.out.ext Xt) Bxt (by omega) (by simp; omega) ?_; intro g3 cap3 w3 HS3 hh3 hxf3)
          have hx3 := hxf3 w Xt (by omega)
          have hB03 : Box w3 w.heap.size #[.int .i64 x.k, .int .i64 x.n, .string x.s, .slice (some ⟨bk, ok, none⟩) x.keys.length kc, .slice (some ⟨bq, oq, none⟩) x.l.length lc] 25 := Box.held hh3 Bxt (by omega)
          have hz3 := hh3.size
          clear hxf3 hh3 HS
          go_wp2_with fail
          go_roundg (x.l.length - (k + 1))
          case measure => omega
          case rel => exact ⟨k + 1, _, _, _, by omega, by go_num, rfl, rfl, HS3, Lib.hid (by rw [← Hn.out]; simp [Hq2.out, Hqt.out]), Bxt, Xt, by first | omega | (simp at hz3; omega)⟩
        | false =>
          have h5b : (x.k == 5) = false := Ho.out
          go_upto_region 9 with (at_builtin; refine wpl_key (by rfl) q w1.heap.size (by rfl) (by rfl) (by rfl) (HS.out.ext Xt) Bxt (by omega) (by simp; omega) ?_; intro g3 cap3 w3 HS3 hh3 hxf3)
          have hx3 := hxf3 w Xt (by omega)
          have hB03 : Box w3 w.heap.size #[.int .i64 x.k, .int .i64 x.n, .string x.s, .slice ka x.keys.length kc, .slice (some ⟨bq, oq, none⟩) x.l.length lc] 25 := Box.held hh3 Bxt (by omega)
          have hz3 := hh3.size
          clear hxf3 hh3 HS hc0 hf0 hl0 hB0
          go_wp2_with fail
          go_roundg (x.l.length - (k + 1))
          case measure => omega
          case rel => exact ⟨k + 1, _, _, _, by omega, by go_num, rfl, rfl, HS3, Lib.hid (by rw [← Hn.out]; simp [Hqt.out]), Bxt, Xt, by first | omega | (simp at hz3; omega)⟩
      · obtain rfl : k = x.l.length := by omega
        have hq : qs.map (·.data.toList) = partsL o x.keys x.l := by
          have := Hq.out
          rw [List.drop_of_length_le (Nat.le_refl x.l.length)] at this
          simpa [partsL] using this
        have hj : Lib.join (qs.map (·.data.toList)) [44] = V.text.go o true x.keys x.l := by rw [hq, join_parts]
        have Hj := Lib.hid hj
        have hk0 := Hf.out.k0
        have hk5 := Hf.out.k5
        clear hq hj Hq
        by_cases h0 : x.k = 0
        · have b0 : (x.k == 0) = true := by simpa using h0
          have ht := Lib.hid (show x.text = [110, 117, 108, 108] by rw [text_eq, if_pos h0])
          clear h0
          go_wp2_with fail
          go_ret
          exact ⟨_, rfl, by rw [ht.out], Xt⟩
        have b0 : (x.k == 0) = false := by simpa using h0
        by_cases h1 : x.k = 1
        · have b1 : (x.k == 1) = true := by simpa using h1
          by_cases hn : x.n = 1
          · have bn : (x.n == 1) = true := by simpa using hn
            have ht := Lib.hid (show x.text = [116, 114, 117, 101] by rw [text_eq, if_neg h0, if_pos h1, if_pos hn])
            clear h0 h1 hn
            go_wp2_with fail
            go_ret
            exact ⟨_, rfl, by rw [ht.out], Xt⟩
          · have bn : (x.n == 1) = false := by simpa using hn
            have ht := Lib.hid (show x.text = [102, 97, 108, 115, 101] by rw [text_eq, if_neg h0, if_pos h1, if_neg hn])
            clear h0 h1 hn
            go_wp2_with fail
            go_ret
            exact ⟨_, rfl, by rw [ht.out], Xt⟩
        have b1 : (x.k == 1) = false := by simpa using h1
        by_cases h2 : x.k = 2
        · have b2 : (x.k == 2) = true := by simpa using h2
          have ht := Lib.hid (show x.text = Lib.itoa x.n by rw [text_eq, if_neg h0, if_neg h1, if_pos h2])
          have hlo := Hf.out.nlo
          have hhi := Hf.out.nhi
          clear h0 h1 h2
          go_wp2_with fail
          (refine (decimal_any x.n (by omega) (by omega) _).mono ?_)
          rintro e w2 ⟨q, rfl, hq, h2⟩
          have hx2 : Ext w w2 := Xt
          have Hq := Lib.hid hq
          clear hq h2
          go_wp2_with fail
          go_ret
          exact ⟨_, rfl, by rw [ht.out]; exact Hq.out, Xt⟩
        have b2 : (x.k == 2) = false := by simpa using h2
        by_cases h3 : x.k = 3
        · have b3 : (x.k == 3) = true := by simpa using h3
          have ht := Lib.hid (show x.text = quoteL x.s.data.toList by rw [text_eq, if_neg h0, if_neg h1, if_neg h2, if_pos h3])
          have Hsp := Lib.hid (plain_bytes Hf.out.sp).1
          clear h0 h1 h2 h3
          go_wp2_with fail
          (refine (quotedR_any x.s _ (by omega) Hsp).mono ?_)
          rintro e w2 ⟨q, rfl, hq, h2⟩
          have hx2 : Ext w w2 := Xt
          have Hq := Lib.hid hq
          clear hq h2
          go_wp2_with fail
          go_ret
          exact ⟨_, rfl, by rw [ht.out]; exact Hq.out, Xt⟩
        have b3 : (x.k == 3) = false := by simpa using h3
        by_cases h4 : x.k = 4
        · have b4 : (x.k == 4) = true := by simpa using h4
          have h5 : o = false := by rw [← Ho.out]; simp [h4]
          subst h5
          have ht := text_list h4
          have hjz : (Lib.join (qs.map (·.data.toList)) [44]).length ≤ 30 * 14640 := by
            rw [Hj.out]; rw [ht] at htl; simp only [List.length_cons, List.length_append] at htl; omega
          have Ht := Lib.hid ht
          clear h0 h1 h2 h3 h4 ht
          go_wp2_with fail
          (refine (joinS_any wa.heap.size x.l.length a3 c3 qs _ (HS.out.ext Xt) (by omega) (by omega)).mono ?_)
          rintro e w2 ⟨q, rfl, hq, h2⟩
          have hx2 : Ext w w2 := Xt
          have Hq := Lib.hid (hq.trans Hj.out)
          have hqz : q.size ≤ 439200 := by rw [size_data, hq]; omega
          have hb1 : ¬ 9223372036854775807 < 1 + q.size := by omega
          have hs1 : (⟨#[91]⟩ ++ q : ByteArray).size = 1 + q.size := by rw [ByteArray.size_append]; rfl
          have hb2 : ¬ 9223372036854775807 < 1 + q.size + 1 := by omega
          clear hq h2
          go_wp2_with fail
          go_ret
          exact ⟨_, rfl, by rw [Ht.out, ← Hq.out]; simp, Xt⟩
        have b4 : (x.k == 4) = false := by simpa using h4
        have h5 : x.k = 5 := by omega
        have h5o : o = true := by rw [← Ho.out]; simp [h5]
        subst h5o
        have ht := text_obj h5
        have hjz : (Lib.join (qs.map (·.data.toList)) [44]).length ≤ 30 * 14640 := by
          rw [Hj.out]; rw [ht] at htl; simp only [List.length_cons, List.length_append] at htl; omega
        have Ht := Lib.hid ht
        clear h0 h1 h2 h3 h4 h5 ht
        go_wp2_with fail
        (refine (joinS_any wa.heap.size x.l.length a3 c3 qs _ (HS.out.ext Xt) (by omega) (by omega)).mono ?_)
        rintro e w2 ⟨q, rfl, hq, h2⟩
        have hx2 : Ext w w2 := Xt
        have Hq := Lib.hid (hq.trans Hj.out)
        have hqz : q.size ≤ 439200 := by rw [size_data, hq]; omega
        have hb1 : ¬ 9223372036854775807 < 1 + q.size := by omega
        have hs1 : (⟨#[123]⟩ ++ q : ByteArray).size = 1 + q.size := by rw [ByteArray.size_append]; rfl
        have hb2 : ¬ 9223372036854775807 < 1 + q.size + 1 := by omega
        clear hq h2
        go_wp2_with fail
        go_ret
        exact ⟨_, rfl, by rw [Ht.out, ← Hq.out]; simp, Xt⟩

set_option maxRecDepth 100000 in
set_option maxHeartbeats 4000000 in
theorem printR_any (x : V) (ka : Option Addr) (kc : Nat) (la : Option Addr) (lc : Nat) (S : Nat → Prop) (w : World) (hsz : x.size ≤ 1073741824) (hin : x.In w S ka kc la lc) :
    Calls Tryz.prog 28 #[x.val ka kc la lc] w fun e w' => ∃ q : ByteArray, e = .returned (.tuple #[.string q, .int .i64 (printV x).2]) ∧ q.data.toList = (printV x).1 ∧ Ext w w' := by
  have Hin := Lib.hid hin
  clear hin
  cases hf : x.fine with
  | false =>
    have Hf := Lib.hid hf
    have hp := Lib.hid (show printV x = ([], 1) by unfold printV; rw [if_pos hf])
    clear hf
    go_enter Tryz.func28, Tryz.ntmps28
    go_wp2_with fail
    (refine (goodValue_any x ka kc la lc _ _ hsz (Hin.out.ext Xt)).mono ?_)
    rw [Hf.out]
    rintro e w1 ⟨rfl, h1⟩
    have hx1 : Ext w w1 := Xt
    clear h1
    go_wp2_with fail
    go_ret2
    rw [hp.out]
    exact ⟨_, rfl, rfl, Xt⟩
  | true =>
    have Hf := Lib.hid hf
    have hxz := fine_size hf
    have Hso := Lib.hid (fine_sound hf)
    have htl := text_len x (fine_sound hf)
    have Hp := Lib.hid (show printV x = if 2000 < x.text.length then ([], 2) else (x.text, 0) by unfold printV; rw [if_neg (by rw [hf]; decide)])
    clear hf
    go_enter Tryz.func28, Tryz.ntmps28
    go_upto_region 1 with fail
    refine gen_world (R := fun wx => Box wx w.heap.size #[.int .i64 x.k, .int .i64 x.n, .string x.s, .slice ka x.keys.length kc, .slice la x.l.length lc] 25 ∧ Ext w wx) ⟨Bxt, Xt⟩ ?_
    rintro wa ⟨hB0, hxa⟩
    have hc0 := hB0.cells; have hf0 := hB0.free; have hl0 := hB0.lt
    go_wp2_with fail
    (refine (goodValue_any x ka kc la lc _ _ hsz (Hin.out.ext Xt)).mono ?_)
    rw [Hf.out]
    rintro e w1 ⟨rfl, h1⟩
    have hB0 := Box.ext (w' := w1) Xt hB0
    have hx1 : Ext w w1 := Xt
    clear h1 hxa hc0 hf0 hl0
    have hc0 := hB0.cells; have hf0 := hB0.free; have hl0 := hB0.lt
    go_wp2_with fail
    (refine (textR_any _ x ka kc la lc _ _ (Nat.le_refl _) hxz Hso.out (Hin.out.ext Xt)).mono ?_)
    rintro e w2 ⟨q, rfl, hq, h2⟩
    have hx2 : Ext w w2 := Xt
    have Hq := Lib.hid hq
    have hqz : q.size = x.text.length := by rw [size_data, hq]
    clear h2 hq hB0 hc0 hf0 hl0
    by_cases hl : 2000 < x.text.length
    · have hli : (2000 : Int) < (q.size : Int) := by omega
      have hp := Lib.hid (show printV x = ([], 2) by rw [Hp.out, if_pos hl])
      clear hl
      go_wp2_with fail
      go_ret2
      rw [hp.out]
      exact ⟨_, rfl, rfl, Xt⟩
    · have hli : ¬ (2000 : Int) < (q.size : Int) := by omega
      have hp := Lib.hid (show printV x = (x.text, 0) by rw [Hp.out, if_neg hl])
      clear hl
      go_wp2_with fail
      go_ret2
      rw [hp.out]
      exact ⟨_, rfl, Hq.out, Xt⟩
end Go.Proofs.YtnbappeiebameaaGreatDoor
