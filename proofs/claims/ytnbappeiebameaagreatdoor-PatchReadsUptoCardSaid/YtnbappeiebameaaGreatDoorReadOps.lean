/- The walk of the reference's ReadOps. -/
import Derived.Test.YtnbappeiebameaaGreatDoorReadR
import Derived.Test.YtnbappeiebameaaGreatDoorRef3
set_option linter.all false
namespace Go.Proofs.YtnbappeiebameaaGreatDoor
open Go.RowKit
attribute [local go_sem ↓] Go.wp_at_zero Go.wp_at_succ

theorem memberR_any (x : V) (key : ByteArray) (ka : Option Addr) (kc : Nat) (la : Option Addr) (lc : Nat) (S : Nat → Prop) (w : World) (hsz : x.size ≤ 1073741824) (hin : x.In w S ka kc la lc) :
    Calls Tryz.prog 34 #[x.val ka kc la lc, .string key] w (RetV2 S (x.memD key) (.bool (x.member key).isSome) w) := by
  unfold V.memD
  cases h : x.member key with
  | some y => exact memberOf_some h ka kc la lc S w hsz hin
  | none =>
    refine (memberOf_none h ka kc la lc S w hsz hin).mono ?_
    rintro e w' ⟨rfl, hx⟩
    exact ⟨none, 0, none, 0, rfl, V.zero_in _ _, hx⟩
abbrev six : Array Value := #[.string ⟨#[97, 100, 100]⟩, .string ⟨#[114, 101, 109, 111, 118, 101]⟩, .string ⟨#[114, 101, 112, 108, 97, 99, 101]⟩, .string ⟨#[109, 111, 118, 101]⟩, .string ⟨#[99, 111, 112, 121]⟩, .string ⟨#[116, 101, 115, 116]⟩]
theorem six_at : ∀ i, i < 6 → six[i]? = some (.string (nmB (i + 1)))
  | 0, _ => rfl | 1, _ => rfl | 2, _ => rfl | 3, _ => rfl | 4, _ => rfl | 5, _ => rfl
section
variable {x : V}
theorem txt_ok {key : ByteArray} (h1 : (x.member key).isSome = true) (h2 : (x.memD key).k = 3) : x.txt key = ((x.memD key).s, true) := by unfold V.txt; rw [h1, h2]; rfl
theorem txt_no {key : ByteArray} (h : (x.member key).isSome = false ∨ (x.memD key).k ≠ 3) : (x.txt key).2 = false := by
  unfold V.txt
  rcases h with h | h
  · rw [h]; rfl
  · simp [h]
theorem opR_bad1 (h : (x.member tOp).isSome = false ∨ (x.memD tOp).k ≠ 3 ∨ kindTo (x.memD tOp).s true 7 = 0) : x.opO = none := by
  apply opO_none
  unfold V.kd
  by_cases h1 : (x.txt tOp).2 = false
  · rw [h1, kindTo_false]
  · rcases h with h | h | h
    · exact absurd (txt_no (.inl h)) h1
    · exact absurd (txt_no (.inr h)) h1
    · rw [show (x.txt tOp).2 = true by simpa using h1]; exact h
theorem opR_bad2 (h : (x.member tPath).isSome = false ∨ (x.memD tPath).k ≠ 3) : x.opO = none := by
  by_cases h0 : x.kd = 0
  · exact opO_none h0
  · exact opO_path h0 (txt_no h)
theorem opR_kd (h1 : (x.member tOp).isSome = true) (h2 : (x.memD tOp).k = 3) : x.kd = kindTo (x.memD tOp).s true 7 := by unfold V.kd; rw [txt_ok h1 h2]
end

set_option maxRecDepth 100000 in
set_option maxHeartbeats 8000000 in
theorem readOps_any (x : V) (ka : Option Addr) (kc : Nat) (la : Option Addr) (lc : Nat) (S : Nat → Prop) (w : World) (hsz : x.size ≤ 1073741824) (hin : x.In w S ka kc la lc) :
    Calls Tryz.prog 49 #[x.val ka kc la lc] w fun e w' => ∃ a n c, e = .returned (.tuple #[.slice a n c, .int .i64 (readV x).2]) ∧ (readV x).1.length = n ∧ SlOk a n c ∧ OpsIn w' All a (readV x).1 ∧ Ext w w' := by
  have Hin := Lib.hid (show x.In w (fun q => q < w.heap.size) ka kc la lc from hin.mono fun b _ h => h)
  have hll := x.len_l
  clear hin
  cases hf : x.fine with
  | false =>
    have Hf := Lib.hid hf
    have Hr := Lib.hid (readV_form (v := x) (.inl hf))
    clear hf
    go_enter Tryz.func49, Tryz.ntmps49
    go_wp2_with fail
    (refine (goodValue_any x ka kc la lc _ _ hsz (Hin.out.ext Xt)).mono ?_)
    rw [Hf.out]
    rintro e w1 ⟨rfl, h1⟩
    have hx1 : Ext w w1 := Xt
    clear h1
    go_wp2_with fail
    go_ret2
    rw [Hr.out]
    exact ⟨none, 0, 0, rfl, rfl, SlOk.nil, .inl rfl, Xt⟩
  | true =>
    have Hf := Lib.hid hf
    by_cases h4 : x.k = 4
    · have h4b : (x.k != 4) = false := by simpa using h4
      have H4 := Lib.hid h4
      by_cases h20 : 20 < x.l.length
      · have h20i : (20 : Int) < (x.l.length : Int) := by omega
        have Hr := Lib.hid (readV_long hf h4 h20)
        clear hf h4 h20
        go_enter Tryz.func49, Tryz.ntmps49
        go_upto_region 1 with fail
        refine gen_world (R := fun wx => Box wx w.heap.size #[.int .i64 x.k, .int .i64 x.n, .string x.s, .slice ka x.keys.length kc, .slice la x.l.length lc] 25 ∧ Ext w wx) ⟨Bxt, Xt⟩ ?_
        rintro wa ⟨hB0, hxa⟩
        have hc0 := hB0.cells; have hf0 := hB0.free; have hl0 := hB0.lt
        go_wp2_with fail
        (refine (goodValue_any x ka kc la lc _ _ hsz (Hin.out.ext Xt)).mono ?_)
        rw [Hf.out]
        rintro e w1 ⟨rfl, h1⟩
        have hB0 := Box.ext (w' := w1) Xt hB0
        have hx1 : Ext w w1 := Xt
        clear h1 hxa hc0 hf0 hl0
        have hc0 := hB0.cells; have hf0 := hB0.free; have hl0 := hB0.lt
        go_wp2_with fail
        go_ret2
        rw [Hr.out]
        exact ⟨none, 0, 0, rfl, rfl, SlOk.nil, .inl rfl, Xt⟩
      · have h20i : ¬ (20 : Int) < (x.l.length : Int) := by omega
        have H20 := Lib.hid h20
        have hl20 : x.l.length ≤ 20 := by omega
        clear hf h4 h20
        go_enter Tryz.func49, Tryz.ntmps49
        go_upto_region 1 with fail
        refine gen_world (R := fun wx => Box wx w.heap.size #[.int .i64 x.k, .int .i64 x.n, .string x.s, .slice ka x.keys.length kc, .slice la x.l.length lc] 25 ∧ Ext w wx) ⟨Bxt, Xt⟩ ?_
        rintro wa ⟨hB0, hxa⟩
        have hc0 := hB0.cells; have hf0 := hB0.free; have hl0 := hB0.lt
        go_wp2_with fail
        (refine (goodValue_any x ka kc la lc _ _ hsz (Hin.out.ext Xt)).mono ?_)
        rw [Hf.out]
        rintro e w1 ⟨rfl, h1⟩
        have hB0 := Box.ext (w' := w1) Xt hB0
        have hx1 : Ext w w1 := Xt
        have hz1 := hB0.lt
        clear h1 hxa hc0 hf0 hl0
        have hc0 := hB0.cells; have hf0 := hB0.free; have hl0 := hB0.lt
        go_wp2_with fail
        clear hc0 hf0 hl0 hB0
        go_loopg [4, 6, 7, 8, 9, 10, 11, 12, 13, 14, 15, 16, 17, 33] x.l.length (fun g t4 _ _ _ _ _ _ _ _ _ _ _ _ i wr => ∃ (k : Nat) (os : List OpV) (a3 : Option Addr) (c3 : Nat), k ≤ x.l.length ∧ i = .int .i64 k ∧ g = x.l.length - k ∧ t4 = .slice a3 k c3 ∧ Hid (OwnO wr w1.heap.size (.slice a3 k c3) k os) ∧ Hid (opsO (x.l.take k) = some os) ∧ Ext w wr ∧ w1.heap.size ≤ wr.heap.size)
        case atStart => exact ⟨0, [], none, 0, by omega, rfl, rfl, rfl, Lib.hid (OwnO.nil _ _), Lib.hid rfl, hx1, by omega⟩
        case round =>
          clear hx1
          obtain ⟨k, os, a3, c3, hk, rfl, rfl, rfl, HO, Hos, hx, hzr⟩ := hrel
          by_cases hlt : k < x.l.length
          · obtain ⟨bq, oq, rfl, hSq, ka', kc', la', lc', ⟨d0, d1, d2, d3, d4⟩, hin'⟩ := Hin.out.item hlt
            have d0 := hx.cell d0; have d1 := hx.cell d1; have d2 := hx.cell d2; have d3 := hx.cell d3; have d4 := hx.cell d4
            have hki0 : (0 : Int) ≤ (k : Int) := by omega
            have hki1 : (k : Int) < (x.l.length : Int) := by omega
            have Hin' := Lib.hid hin'
            have hsi := V.size_item hlt
            have Hbad := Lib.hid (fun h : x.l[k].opO = none => readV_bad Hf.out H4.out H20.out hlt h)
            have Hnx := Lib.hid (fun (o : OpV) (h : x.l[k].opO = some o) => opsO_take hlt Hos.out h)
            clear hin'
            go_upto_region 9 with fail
            refine gen_world (R := fun wx => OwnO wx w1.heap.size (.slice a3 k c3) k os ∧ Box wx wr.heap.size #[.int .i64 x.l[k].k, .int .i64 x.l[k].n, .string x.l[k].s, .slice ka' x.l[k].keys.length kc', .slice la' x.l[k].l.length lc'] 25 ∧ Ext w wx ∧ w1.heap.size ≤ wx.heap.size) ⟨HO.out.ext Xt, Bxt, Xt, by simp; omega⟩ ?_
            clear HO hx d0 d1 d2 d3 d4 hzr
            rintro wb ⟨hO, hBq, hx, hzb⟩
            have HO := Lib.hid hO
            clear hO
            obtain ⟨y, hy⟩ : ∃ y, x.l[k] = y := ⟨_, rfl⟩
            have Hbad := Lib.hid (show y.opO = none → readV x = ([], 1) from fun h => Hbad.out (by rw [hy]; exact h))
            have Hnx := Lib.hid (show ∀ o, y.opO = some o → opsO (x.l.take (k + 1)) = some (os ++ [o]) from fun o h => Hnx.out o (by rw [hy]; exact h))
            have Hin' := Lib.hid (show y.In w (fun q => q < w.heap.size) ka' kc' la' lc' by rw [← hy]; exact Hin'.out)
            rw [hy] at hsi hBq
            clear hy
            obtain ⟨z1, hz_⟩ : ∃ z, y.memD tOp = z := ⟨_, rfl⟩
            have Hz1 := Lib.hid hz_
            clear hz_
            obtain ⟨m1, hm_⟩ : ∃ b, (y.member tOp).isSome = b := ⟨_, rfl⟩
            have Hm1 := Lib.hid hm_
            clear hm_
            obtain ⟨z2, hz_⟩ : ∃ z, y.memD tPath = z := ⟨_, rfl⟩
            have Hz2 := Lib.hid hz_
            clear hz_
            obtain ⟨m2, hm_⟩ : ∃ b, (y.member tPath).isSome = b := ⟨_, rfl⟩
            have Hm2 := Lib.hid hm_
            clear hm_
            obtain ⟨z3, hz_⟩ : ∃ z, y.memD tFrom = z := ⟨_, rfl⟩
            have Hz3 := Lib.hid hz_
            clear hz_
            obtain ⟨m3, hm_⟩ : ∃ b, (y.member tFrom).isSome = b := ⟨_, rfl⟩
            have Hm3 := Lib.hid hm_
            clear hm_
            obtain ⟨z4, hz_⟩ : ∃ z, y.memD tValue = z := ⟨_, rfl⟩
            have Hz4 := Lib.hid hz_
            clear hz_
            obtain ⟨m4, hm_⟩ : ∃ b, (y.member tValue).isSome = b := ⟨_, rfl⟩
            have Hm4 := Lib.hid hm_
            clear hm_
            have hzw : wr.heap.size < wb.heap.size := hBq.lt
            have hcq := hBq.cells; have hfq := hBq.free; have hlq := hBq.lt
            go_wp2_with fail
            (refine (memberR_any y tOp ka' kc' la' lc' (fun q => q < w.heap.size) _ (by omega) (Hin'.out.ext Xt)).mono ?_)
            rw [Hz1.out, Hm1.out]
            rintro e v1 ⟨ka1, kc1, la1, lc1, rfl, hin_, h_⟩
            have hy_ : Ext wb v1 := Xt
            have hx := hx.trans hy_
            have hzb := Nat.le_trans hzb hy_.size
            have HO := Lib.hid (HO.out.ext hy_)
            have hzs1 := hy_.size
            have hw1v1 := hzb
            have hBq := Box.ext hy_ hBq
            have hz_hBq := hBq.lt
            clear hin_ h_ hy_ hcq hfq hlq
            go_upto_region 10 with fail
            refine gen_world (R := fun wx => OwnO wx w1.heap.size (.slice a3 k c3) k os ∧ Box wx wr.heap.size #[.int .i64 y.k, .int .i64 y.n, .string y.s, .slice ka' y.keys.length kc', .slice la' y.l.length lc'] 25 ∧ Box wx v1.heap.size #[.int .i64 z1.k, .int .i64 z1.n, .string z1.s, .slice ka1 z1.keys.length kc1, .slice la1 z1.l.length lc1] 25 ∧ Ext w wx ∧ w1.heap.size ≤ wx.heap.size) ⟨HO.out.ext Xt, Bxt, Bxt, Xt, by first | omega | (simp; omega)⟩ ?_
            clear HO hx hzb hBq
            rintro u1 ⟨hO, hBq, hB7, hx, hzb⟩
            have HO := Lib.hid hO
            clear hO
            have HOb := Lib.hid (show ∀ b, (Value.slice a3 k c3).ownBlock = some b → w1.heap.size ≤ b ∧ b < u1.heap.size by obtain ⟨-, xs_, h_, -⟩ := HO.out; exact h_.lt)
            have hcq := hBq.cells; have hfq := hBq.free; have hlq := hBq.lt
            go_wp2_with fail
            (refine (memberR_any y tPath ka' kc' la' lc' (fun q => q < w.heap.size) _ (by omega) (Hin'.out.ext Xt)).mono ?_)
            rw [Hz2.out, Hm2.out]
            rintro e v2 ⟨ka2, kc2, la2, lc2, rfl, hin_, h_⟩
            have hy_ : Ext u1 v2 := Xt
            have hx := hx.trans hy_
            have hzb := Nat.le_trans hzb hy_.size
            have HO := Lib.hid (HO.out.ext hy_)
            have hzs2 := hy_.size
            have hBq := Box.ext hy_ hBq
            have hz_hBq := hBq.lt
            have hB7 := Box.ext hy_ hB7
            have hz_hB7 := hB7.lt
            clear hin_ h_ hy_ hcq hfq hlq
            go_upto_region 11 with fail
            refine gen_world (R := fun wx => OwnO wx w1.heap.size (.slice a3 k c3) k os ∧ Box wx wr.heap.size #[.int .i64 y.k, .int .i64 y.n, .string y.s, .slice ka' y.keys.length kc', .slice la' y.l.length lc'] 25 ∧ Box wx v1.heap.size #[.int .i64 z1.k, .int .i64 z1.n, .string z1.s, .slice ka1 z1.keys.length kc1, .slice la1 z1.l.length lc1] 25 ∧ Box wx v2.heap.size #[.int .i64 z2.k, .int .i64 z2.n, .string z2.s, .slice ka2 z2.keys.length kc2, .slice la2 z2.l.length lc2] 25 ∧ Ext w wx ∧ w1.heap.size ≤ wx.heap.size) ⟨HO.out.ext Xt, Bxt, Bxt, Bxt, Xt, by first | omega | (simp; omega)⟩ ?_
            clear HO hx hzb hBq hB7
            rintro u2 ⟨hO, hBq, hB7, hB9, hx, hzb⟩
            have HO := Lib.hid hO
            clear hO
            have hcq := hBq.cells; have hfq := hBq.free; have hlq := hBq.lt
            go_wp2_with fail
            (refine (memberR_any y tFrom ka' kc' la' lc' (fun q => q < w.heap.size) _ (by omega) (Hin'.out.ext Xt)).mono ?_)
            rw [Hz3.out, Hm3.out]
            rintro e v3 ⟨ka3, kc3, la3, lc3, rfl, hin_, h_⟩
            have hy_ : Ext u2 v3 := Xt
            have hx := hx.trans hy_
            have hzb := Nat.le_trans hzb hy_.size
            have HO := Lib.hid (HO.out.ext hy_)
            have hzs3 := hy_.size
            have hBq := Box.ext hy_ hBq
            have hz_hBq := hBq.lt
            have hB7 := Box.ext hy_ hB7
            have hz_hB7 := hB7.lt
            have hB9 := Box.ext hy_ hB9
            have hz_hB9 := hB9.lt
            clear hin_ h_ hy_ hcq hfq hlq
            go_upto_region 12 with fail
            refine gen_world (R := fun wx => OwnO wx w1.heap.size (.slice a3 k c3) k os ∧ Box wx wr.heap.size #[.int .i64 y.k, .int .i64 y.n, .string y.s, .slice ka' y.keys.length kc', .slice la' y.l.length lc'] 25 ∧ Box wx v1.heap.size #[.int .i64 z1.k, .int .i64 z1.n, .string z1.s, .slice ka1 z1.keys.length kc1, .slice la1 z1.l.length lc1] 25 ∧ Box wx v2.heap.size #[.int .i64 z2.k, .int .i64 z2.n, .string z2.s, .slice ka2 z2.keys.length kc2, .slice la2 z2.l.length lc2] 25 ∧ Box wx v3.heap.size #[.int .i64 z3.k, .int .i64 z3.n, .string z3.s, .slice ka3 z3.keys.length kc3, .slice la3 z3.l.length lc3] 25 ∧ Ext w wx ∧ w1.heap.size ≤ wx.heap.size) ⟨HO.out.ext Xt, Bxt, Bxt, Bxt, Bxt, Xt, by first | omega | (simp; omega)⟩ ?_
            clear HO hx hzb hBq hB7 hB9
            rintro u3 ⟨hO, hBq, hB7, hB9, hB11, hx, hzb⟩
            have HO := Lib.hid hO
            clear hO
            have hzv3 : u1.heap.size ≤ u3.heap.size := by have := hB9.lt; have := hB11.lt; omega
            have hcq := hBq.cells; have hfq := hBq.free; have hlq := hBq.lt
            go_wp2_with fail
            (refine (memberR_any y tValue ka' kc' la' lc' (fun q => q < w.heap.size) _ (by omega) (Hin'.out.ext Xt)).mono ?_)
            rw [Hz4.out, Hm4.out]
            rintro e v4 ⟨ka4, kc4, la4, lc4, rfl, hin_, h_⟩
            have hy_ : Ext u3 v4 := Xt
            have hx := hx.trans hy_
            have hzb := Nat.le_trans hzb hy_.size
            have HO := Lib.hid (HO.out.ext hy_)
            have hzs4 := hy_.size
            have hBq := Box.ext hy_ hBq
            have hz_hBq := hBq.lt
            have hB7 := Box.ext hy_ hB7
            have hz_hB7 := hB7.lt
            have hB9 := Box.ext hy_ hB9
            have hz_hB9 := hB9.lt
            have hB11 := Box.ext hy_ hB11
            have hz_hB11 := hB11.lt
            have Hin4 := Lib.hid (show z4.In v4 (fun b => (Value.slice a3 k c3).ownBlock ≠ some b) ka4 kc4 la4 lc4 from hin_.mono fun b h hl he => by
              have h7 := HOb.out b he
              rcases h with h | h
              · omega
              · (try simp at h)
                have := hzv3
                omega)
            clear hin_ h_ hy_ hcq hfq hlq
            go_upto_region 13 with fail
            refine gen_world (R := fun wx => OwnO wx w1.heap.size (.slice a3 k c3) k os ∧ Box wx wr.heap.size #[.int .i64 y.k, .int .i64 y.n, .string y.s, .slice ka' y.keys.length kc', .slice la' y.l.length lc'] 25 ∧ Box wx v1.heap.size #[.int .i64 z1.k, .int .i64 z1.n, .string z1.s, .slice ka1 z1.keys.length kc1, .slice la1 z1.l.length lc1] 25 ∧ Box wx v2.heap.size #[.int .i64 z2.k, .int .i64 z2.n, .string z2.s, .slice ka2 z2.keys.length kc2, .slice la2 z2.l.length lc2] 25 ∧ Box wx v3.heap.size #[.int .i64 z3.k, .int .i64 z3.n, .string z3.s, .slice ka3 z3.keys.length kc3, .slice la3 z3.l.length lc3] 25 ∧ Box wx v4.heap.size #[.int .i64 z4.k, .int .i64 z4.n, .string z4.s, .slice ka4 z4.keys.length kc4, .slice la4 z4.l.length lc4] 25 ∧ z4.In wx (fun b => (Value.slice a3 k c3).ownBlock ≠ some b) ka4 kc4 la4 lc4 ∧ Ext w wx ∧ w1.heap.size ≤ wx.heap.size) ⟨HO.out.ext Xt, Bxt, Bxt, Bxt, Bxt, Bxt, Hin4.out.ext Xt, Xt, by first | omega | (simp; omega)⟩ ?_
            clear HO hx hzb hBq hB7 hB9 hB11 Hin4
            rintro u4 ⟨hO, hBq, hB7, hB9, hB11, hB13, hin4, hx, hzb⟩
            have HO := Lib.hid hO
            clear hO
            have Hin4 := Lib.hid hin4
            clear hin4
            have hw1u4 : w1.heap.size < u4.heap.size := by have := hB7.lt; omega
            have hc9 := hB9.cells; have hf9 := hB9.free; have hl9 := hB9.lt
            go_upto_region 15 with fail
            refine gen_world (R := fun wx => Box wx u4.heap.size #[.int .i64 0, .string z2.s, .string ⟨#[]⟩, .int .i64 0, .int .i64 0, .string ⟨#[]⟩, .slice none 0 0, .slice none 0 0] 49 ∧ Box wx (u4.heap.size + 1) six 9 ∧ Held (fun b => b < u4.heap.size) u4 wx ∧ Ext w wx) ⟨Bxt, Bxt, Hxt, Xt⟩ ?_
            clear hx hc9 hf9 hl9
            rintro uc ⟨hB15, hBS, hh, hx⟩
            have hlhB7 := hB7.lt
            have hlhB9 := hB9.lt
            have hlhB11 := hB11.lt
            have hlhB13 := hB13.lt
            go_wp2_with fail
            go_loopg [16, 17, 62] 6 (fun g _ _ i wr => ∃ q : Nat, q ≤ 6 ∧ i = .int .i64 q ∧ g = 6 - q ∧ Box wr u4.heap.size #[.int .i64 (kindTo z1.s true (q + 1)), .string z2.s, .string ⟨#[]⟩, .int .i64 0, .int .i64 0, .string ⟨#[]⟩, .slice none 0 0, .slice none 0 0] 49 ∧ Box wr (u4.heap.size + 1) six 9 ∧ Held (fun b => b < u4.heap.size) u4 wr ∧ Ext w wr)
            case atStart => exact ⟨0, by omega, rfl, rfl, by rw [kindTo_one]; exact hB15, hBS, hh, hx⟩
            case round =>
              clear hB15 hBS hh hx
              obtain ⟨q, hq6, rfl, rfl, hB15, hBS, hh, hx⟩ := hrel
              have hBa := Box.held hh hB7 hlhB7
              have hc7 := hBa.cells; have hf7 := hBa.free; have hl7 := hBa.lt
              have hc15 := hB15.cells; have hf15 := hB15.free; have hl15 := hB15.lt
              have hl15b := hBS.lt
              by_cases hlq : q < 6
              · have hq0 : (0 : Int) ≤ (q : Int) := by omega
                have hq1 : (q : Int) < 6 := by omega
                have e0 := (hBS.cells q).trans (six_at q hlq)
                obtain ⟨nk, hnk⟩ : ∃ s, nmB (q + 1) = s := ⟨_, rfl⟩
                have Hnk := Lib.hid hnk
                rw [hnk] at e0
                clear hnk
                by_cases hq : nk = z1.s
                · have hqb : (z1.s.toList == nk.toList) = true := by rw [hq]; simp
                  have Hk := Lib.hid (show kindTo z1.s true (q + 1 + 1) = ((q : Int) + 1) by rw [kind_hit (by omega) (Hnk.out.trans hq)]; omega)
                  clear hq
                  go_wp2_with fail
                  go_roundg (6 - (q + 1))
                  case measure => omega
                  case rel => exact ⟨q + 1, by omega, by go_num, rfl, by rw [Hk.out]; exact Bxt, Bxt, Hxt, Xt⟩
                · have hqb : (z1.s.toList == nk.toList) = false := by simpa using fun h => hq (bytes_ext h).symm
                  have Hk := Lib.hid (kind_miss (s := z1.s) (ok := true) (k := q + 1) (.inr (fun h => hq (Hnk.out.symm.trans h))))
                  clear hq
                  go_wp2_with fail
                  go_roundg (6 - (q + 1))
                  case measure => omega
                  case rel => exact ⟨q + 1, by omega, by go_num, rfl, by rw [Hk.out]; exact Bxt, Bxt, Hxt, Xt⟩
              · obtain rfl : q = 6 := by omega
                obtain ⟨kd, hkd⟩ : ∃ z, kindTo z1.s true 7 = z := ⟨_, rfl⟩
                have Hkd := Lib.hid hkd
                have hrng := kindTo_rng z1.s true 7
                rw [hkd] at hrng
                rw [show (6 : Nat) + 1 = 7 from rfl, hkd] at hB15
                clear hkd hBS hc7 hf7 hl7 hc15 hf15 hl15
                have hB7 := Box.held hh hB7 hlhB7
                have hB9 := Box.held hh hB9 hlhB9
                have hB11 := Box.held hh hB11 hlhB11
                have hB13 := Box.held hh hB13 hlhB13
                have hc7 := hB7.cells; have hf7 := hB7.free; have hl7 := hB7.lt
                have hc9 := hB9.cells; have hf9 := hB9.free; have hl9 := hB9.lt
                have hc11 := hB11.cells; have hf11 := hB11.free; have hl11 := hB11.lt
                have hc13 := hB13.cells; have hf13 := hB13.free; have hl13 := hB13.lt
                have hc15 := hB15.cells; have hf15 := hB15.free; have hl15 := hB15.lt
                cases m1 with
                | false =>
                  have Hr := Lib.hid (Hbad.out (opR_bad1 (.inl Hm1.out)))
                  go_wp2_with fail
                  go_ret2
                  rw [Hr.out]
                  exact ⟨none, 0, 0, rfl, rfl, SlOk.nil, .inl rfl, Xt⟩
                | true =>
                  cases m2 with
                  | false =>
                    have Hr := Lib.hid (Hbad.out (opR_bad2 (.inl Hm2.out)))
                    go_wp2_with fail
                    go_ret2
                    rw [Hr.out]
                    exact ⟨none, 0, 0, rfl, rfl, SlOk.nil, .inl rfl, Xt⟩
                  | true =>
                    by_cases h13 : z1.k = 3
                    rotate_left
                    · have b13 : (z1.k != 3) = true := by simpa using h13
                      have Hr := Lib.hid (Hbad.out (opR_bad1 (.inr (.inl (by rw [Hz1.out]; exact h13)))))
                      go_wp2_with fail
                      go_ret2
                      rw [Hr.out]
                      exact ⟨none, 0, 0, rfl, rfl, SlOk.nil, .inl rfl, Xt⟩
                    have b13 : (z1.k != 3) = false := by simpa using h13
                    by_cases h23 : z2.k = 3
                    rotate_left
                    · have b23 : (z2.k != 3) = true := by simpa using h23
                      have Hr := Lib.hid (Hbad.out (opR_bad2 (.inr (by rw [Hz2.out]; exact h23))))
                      go_wp2_with fail
                      go_ret2
                      rw [Hr.out]
                      exact ⟨none, 0, 0, rfl, rfl, SlOk.nil, .inl rfl, Xt⟩
                    have b23 : (z2.k != 3) = false := by simpa using h23
                    by_cases hk0 : kd = 0
                    · have bk0 : (kd == 0) = true := by simpa using hk0
                      have Hr := Lib.hid (Hbad.out (opR_bad1 (.inr (.inr (by rw [Hz1.out, Hkd.out]; exact hk0)))))
                      go_wp2_with fail
                      go_ret2
                      rw [Hr.out]
                      exact ⟨none, 0, 0, rfl, rfl, SlOk.nil, .inl rfl, Xt⟩
                    have bk0 : (kd == 0) = false := by simpa using hk0
                    have Hyk := Lib.hid (show y.kd = kd by rw [opR_kd Hm1.out (by rw [Hz1.out]; exact h13), Hz1.out, Hkd.out])
                    have Hyp := Lib.hid (show y.txt tPath = (z2.s, true) by rw [txt_ok Hm2.out (by rw [Hz2.out]; exact h23), Hz2.out])
                    have Hk0 := Lib.hid hk0
                    clear h13 h23 hk0
                    by_cases hv : kd = 1 ∨ kd = 3 ∨ kd = 6
                    · cases m4 with
                      | false =>
                        have Hr := Lib.hid (Hbad.out (by rw [opO_val (by rw [Hyk.out]; exact hv) (by rw [Hyp.out]), Hm4.out]; rfl))
                        rcases hv with rfl | rfl | rfl
                        all_goals
                          go_wp2_with fail
                          go_ret2
                          rw [Hr.out]
                          exact ⟨none, 0, 0, rfl, rfl, SlOk.nil, .inl rfl, Xt⟩
                      | true =>
                        have Hn := Lib.hid (Hnx.out ⟨kd, z2.s, ⟨#[]⟩, z4⟩ (by rw [opO_val (by rw [Hyk.out]; exact hv) (by rw [Hyp.out]), Hm4.out, Hyk.out, Hyp.out, Hz4.out]; rfl))
                        rcases hv with rfl | rfl | rfl
                        all_goals
                          go_upto_region 30 with fail
                          refine gen_world (R := fun wx => OwnO wx w1.heap.size (.slice a3 k c3) k os ∧ Box wx u4.heap.size #[.int .i64 _, .string z2.s, .string ⟨#[]⟩, .int .i64 (z4).k, .int .i64 (z4).n, .string (z4).s, .slice ka4 (z4).keys.length kc4, .slice la4 (z4).l.length lc4] 49 ∧ (z4).In wx (fun b => (Value.slice a3 k c3).ownBlock ≠ some b) ka4 kc4 la4 lc4 ∧ Ext w wx ∧ w1.heap.size ≤ wx.heap.size) ⟨HO.out.held Hxt, Bxt, Hin4.out.keep (T := fun b => (Value.slice a3 k c3).ownBlock ≠ some b) (fun b hb hl => Held.block (T := fun b => b < u4.heap.size) Hxt b hl hl) (fun _ h _ => h), Xt, by have := Held.size hh; (try simp); omega⟩ ?_
                          clear HO hh hx hB7 hB9 hB11 hB13 hB15 hc15 hf15 hl15 hc7 hf7 hl7 hc9 hf9 hl9 hc11 hf11 hl11 hc13 hf13 hl13
                          rintro wc ⟨hO, hBo, hino, hx, hzc⟩
                          have HO := Lib.hid hO
                          have Hino := Lib.hid hino
                          clear hO hino
                          have hco := hBo.cells; have hfo := hBo.free; have hlo := hBo.lt
                          go_upto_region 31 with (at_builtin; refine wpl_op (x := ⟨_, z2.s, ⟨#[]⟩, z4⟩) (by rfl) wc.heap.size (by rfl) (by rfl) (by rfl) HO.out Xt (Hino.out.ext Xt) Bxt (by omega) hzc ?_; intro g3 cap3 w3 HO3 hgrow3 hh3)
                          have hx3 : Ext w w3 := Ext.grown (Ext.trans hx (show Ext wc _ from Xt)) hgrow3 (fun q hq => by obtain ⟨-, xs, h1, -⟩ := HO.out; have := (h1.lt q hq).1; omega)
                          have hz3 := hh3.size
                          clear hgrow3 hh3 HO Hino
                          go_wp2_with fail
                          go_roundg (x.l.length - (k + 1))
                          case measure => omega
                          case rel => exact ⟨k + 1, _, _, _, by omega, by go_num, rfl, rfl, Lib.hid HO3, Hn, hx3, by first | omega | (simp at hz3; omega)⟩
                    · by_cases hf : kd = 4 ∨ kd = 5
                      · cases m3 with
                        | false =>
                          have Hr := Lib.hid (Hbad.out (by rw [opO_from (by rw [Hyk.out]; exact hf) (by rw [Hyp.out]), txt_no (.inl Hm3.out)]; rfl))
                          rcases hf with rfl | rfl
                          all_goals
                            go_wp2_with fail
                            go_ret2
                            rw [Hr.out]
                            exact ⟨none, 0, 0, rfl, rfl, SlOk.nil, .inl rfl, Xt⟩
                        | true =>
                          by_cases h33 : z3.k = 3
                          rotate_left
                          · have b33 : (z3.k != 3) = true := by simpa using h33
                            have Hr := Lib.hid (Hbad.out (by rw [opO_from (by rw [Hyk.out]; exact hf) (by rw [Hyp.out]), txt_no (.inr (by rw [Hz3.out]; exact h33))]; rfl))
                            clear h33
                            rcases hf with rfl | rfl
                            all_goals
                              go_wp2_with fail
                              go_ret2
                              rw [Hr.out]
                              exact ⟨none, 0, 0, rfl, rfl, SlOk.nil, .inl rfl, Xt⟩
                          have b33 : (z3.k != 3) = false := by simpa using h33
                          have Hn := Lib.hid (Hnx.out ⟨kd, z2.s, z3.s, V.zero⟩ (by rw [opO_from (by rw [Hyk.out]; exact hf) (by rw [Hyp.out]), txt_ok Hm3.out (by rw [Hz3.out]; exact h33), Hyk.out, Hyp.out, Hz3.out]; rfl))
                          clear h33 hv
                          rcases hf with rfl | rfl
                          all_goals
                            go_upto_region 30 with fail
                            refine gen_world (R := fun wx => OwnO wx w1.heap.size (.slice a3 k c3) k os ∧ Box wx u4.heap.size #[.int .i64 _, .string z2.s, .string z3.s, .int .i64 0, .int .i64 0, .string ⟨#[]⟩, .slice none 0 0, .slice none 0 0] 49 ∧ (V.zero).In wx (fun b => (Value.slice a3 k c3).ownBlock ≠ some b) none 0 none 0 ∧ Ext w wx ∧ w1.heap.size ≤ wx.heap.size) ⟨HO.out.held Hxt, Bxt, V.zero_in _ _, Xt, by have := Held.size hh; (try simp); omega⟩ ?_
                            clear HO hh hx hB7 hB9 hB11 hB13 hB15 hc15 hf15 hl15 hc7 hf7 hl7 hc9 hf9 hl9 hc11 hf11 hl11 hc13 hf13 hl13
                            rintro wc ⟨hO, hBo, hino, hx, hzc⟩
                            have HO := Lib.hid hO
                            have Hino := Lib.hid hino
                            clear hO hino
                            have hco := hBo.cells; have hfo := hBo.free; have hlo := hBo.lt
                            go_upto_region 31 with (at_builtin; refine wpl_op (x := ⟨_, z2.s, z3.s, V.zero⟩) (by rfl) wc.heap.size (by rfl) (by rfl) (by rfl) HO.out Xt (Hino.out.ext Xt) Bxt (by omega) hzc ?_; intro g3 cap3 w3 HO3 hgrow3 hh3)
                            have hx3 : Ext w w3 := Ext.grown (Ext.trans hx (show Ext wc _ from Xt)) hgrow3 (fun q hq => by obtain ⟨-, xs, h1, -⟩ := HO.out; have := (h1.lt q hq).1; omega)
                            have hz3 := hh3.size
                            clear hgrow3 hh3 HO Hino
                            go_wp2_with fail
                            go_roundg (x.l.length - (k + 1))
                            case measure => omega
                            case rel => exact ⟨k + 1, _, _, _, by omega, by go_num, rfl, rfl, Lib.hid HO3, Hn, hx3, by first | omega | (simp at hz3; omega)⟩
                      · have h2 : kd = 2 := by have := Hk0.out; omega
                        have Hn := Lib.hid (Hnx.out ⟨kd, z2.s, ⟨#[]⟩, V.zero⟩ (by rw [opO_rem (by rw [Hyk.out]; exact h2) (by rw [Hyp.out]), Hyk.out, Hyp.out]))
                        subst h2
                        clear hv hf
                        go_upto_region 30 with fail
                        refine gen_world (R := fun wx => OwnO wx w1.heap.size (.slice a3 k c3) k os ∧ Box wx u4.heap.size #[.int .i64 _, .string z2.s, .string ⟨#[]⟩, .int .i64 0, .int .i64 0, .string ⟨#[]⟩, .slice none 0 0, .slice none 0 0] 49 ∧ (V.zero).In wx (fun b => (Value.slice a3 k c3).ownBlock ≠ some b) none 0 none 0 ∧ Ext w wx ∧ w1.heap.size ≤ wx.heap.size) ⟨HO.out.held Hxt, Bxt, V.zero_in _ _, Xt, by have := Held.size hh; (try simp); omega⟩ ?_
                        clear HO hh hx hB7 hB9 hB11 hB13 hB15 hc15 hf15 hl15 hc7 hf7 hl7 hc9 hf9 hl9 hc11 hf11 hl11 hc13 hf13 hl13
                        rintro wc ⟨hO, hBo, hino, hx, hzc⟩
                        have HO := Lib.hid hO
                        have Hino := Lib.hid hino
                        clear hO hino
                        have hco := hBo.cells; have hfo := hBo.free; have hlo := hBo.lt
                        go_upto_region 31 with (at_builtin; refine wpl_op (x := ⟨_, z2.s, ⟨#[]⟩, V.zero⟩) (by rfl) wc.heap.size (by rfl) (by rfl) (by rfl) HO.out Xt (Hino.out.ext Xt) Bxt (by omega) hzc ?_; intro g3 cap3 w3 HO3 hgrow3 hh3)
                        have hx3 : Ext w w3 := Ext.grown (Ext.trans hx (show Ext wc _ from Xt)) hgrow3 (fun q hq => by obtain ⟨-, xs, h1, -⟩ := HO.out; have := (h1.lt q hq).1; omega)
                        have hz3 := hh3.size
                        clear hgrow3 hh3 HO Hino
                        go_wp2_with fail
                        go_roundg (x.l.length - (k + 1))
                        case measure => omega
                        case rel => exact ⟨k + 1, _, _, _, by omega, by go_num, rfl, rfl, Lib.hid HO3, Hn, hx3, by first | omega | (simp at hz3; omega)⟩
          · obtain rfl : k = x.l.length := by omega
            have Hr := Lib.hid (readV_ok Hf.out H4.out H20.out Hos.out)
            have hl0 := HO.out.1
            obtain ⟨a6, c6, he6, hok6⟩ := HO.out.form
            simp only [Value.slice.injEq, true_and] at he6
            obtain ⟨rfl, rfl⟩ := he6
            have Hops := Lib.hid HO.out.ops
            have Hl0 := Lib.hid hl0
            have Hok6 := Lib.hid hok6
            clear hl0 hok6 HO
            go_wp2_with fail
            go_ret2
            rw [Hr.out]
            exact ⟨a3, _, c3, rfl, Hl0.out, Hok6.out, Hops.out.ext Xt, Xt⟩
    · have h4b : (x.k != 4) = true := by simpa using h4
      have Hr := Lib.hid (readV_form (v := x) (.inr h4))
      clear hf h4
      go_enter Tryz.func49, Tryz.ntmps49
      go_upto_region 1 with fail
      refine gen_world (R := fun wx => Box wx w.heap.size #[.int .i64 x.k, .int .i64 x.n, .string x.s, .slice ka x.keys.length kc, .slice la x.l.length lc] 25 ∧ Ext w wx) ⟨Bxt, Xt⟩ ?_
      rintro wa ⟨hB0, hxa⟩
      have hc0 := hB0.cells; have hf0 := hB0.free; have hl0 := hB0.lt
      go_wp2_with fail
      (refine (goodValue_any x ka kc la lc _ _ hsz (Hin.out.ext Xt)).mono ?_)
      rw [Hf.out]
      rintro e w1 ⟨rfl, h1⟩
      have hB0 := Box.ext (w' := w1) Xt hB0
      have hx1 : Ext w w1 := Xt
      clear h1 hxa hc0 hf0 hl0
      have hc0 := hB0.cells; have hf0 := hB0.free; have hl0 := hB0.lt
      go_wp2_with fail
      go_ret2
      rw [Hr.out]
      exact ⟨none, 0, 0, rfl, rfl, SlOk.nil, .inl rfl, Xt⟩
end Go.Proofs.YtnbappeiebameaaGreatDoor
