/- The walk of patch.Read. -/
import Derived.Test.YtnbappeiebameaaGreatDoorReadO
import Derived.Test.YtnbappeiebameaaGreatDoorOpsC
import Derived.Test.YtnbappeiebameaaGreatDoorPkD
set_option linter.all false
namespace Go.Proofs.YtnbappeiebameaaGreatDoor
open Go.RowKit
attribute [local go_sem ↓] Go.wp_at_zero Go.wp_at_succ

/-- Operations of the call's own; what they lead to lies elsewhere than in the row itself. -/
def OwnO (w : World) (base : Nat) (v : Value) (n : Nat) (l : List OpV) : Prop :=
  l.length = n ∧ ∃ xs, w.ownsRow base 49 8 v n xs ∧ OpCells w (fun b => v.ownBlock ≠ some b) l xs
theorem OwnO.nil (w : World) (base : Nat) : OwnO w base (.slice none 0 0) 0 [] := ⟨rfl, [], World.ownsRow_nil _ _ _ _, rfl⟩
theorem OwnO.ext {w w' : World} {base : Nat} {v : Value} {n : Nat} {l : List OpV} (h : OwnO w base v n l) (e : Ext w w') : OwnO w' base v n l := by
  obtain ⟨h0, xs, h1, h2⟩ := h
  exact ⟨h0, xs, ownsRow_ext h1 e, h2.keep (e.kept _) (fun _ h _ => h)⟩
theorem OwnO.held {w w' : World} {base : Nat} {v : Value} {n : Nat} {l : List OpV} (h : OwnO w base v n l) (e : Held (fun b => b < w.heap.size) w w') : OwnO w' base v n l := by
  obtain ⟨h0, xs, h1, h2⟩ := h
  exact ⟨h0, xs, ownsRow_keep h1 (fun b hb _ => e.block b hb hb), h2.keep (fun b _ hl => e.block b hl hl) (fun _ h _ => h)⟩
theorem OpCells.snoc {w : World} {T : Nat → Prop} {l : List OpV} {xs : List Value} (h : OpCells w T l xs) {x : OpV} {ka : Option Addr} {kc : Nat} {la : Option Addr} {lc : Nat} (hx : x.v.In w T ka kc la lc) : OpCells w T (l ++ [x]) (xs ++ x.eight ka kc la lc) := by
  induction l generalizing xs with
  | nil => subst h; exact ⟨ka, kc, la, lc, [], by simp, hx, rfl⟩
  | cons y r ih =>
    obtain ⟨a, b, c, d, t, rfl, h1, h2⟩ := h
    exact ⟨a, b, c, d, _, by rw [List.append_assoc], h1, ih h2⟩
theorem OwnO.form {w : World} {base : Nat} {v : Value} {n : Nat} {l : List OpV} (h : OwnO w base v n l) : ∃ a c, v = .slice a n c ∧ SlOk a n c := by
  obtain ⟨-, xs, h1, -⟩ := h
  exact owns_form h1
theorem OwnO.ops {w : World} {base n c : Nat} {a : Option Addr} {l : List OpV} (h : OwnO w base (.slice a n c) n l) : OpsIn w All a l := by
  obtain ⟨h0, xs, h1, h2⟩ := h
  exact (ops_own h0 h1 h2).mono fun _ _ => trivial
theorem OpV.eight_one (o : OpV) (ka : Option Addr) (kc : Nat) (la : Option Addr) (lc : Nat) : ∀ u ∈ o.eight ka kc la lc, u.oneCell' = true := by
  intro u hu
  simp only [OpV.eight, List.mem_cons, List.not_mem_nil, or_false] at hu
  rcases hu with rfl | rfl | rfl | rfl | rfl | rfl | rfl | rfl <;> rfl
/-- One more operation, behind a row of the call's own. -/
theorem wpl_op {wr W : World} {ops : Array Oper} {rest : List Oper} {o : Oper} {a : Act} {Q : Exit → Act → World → Prop} {base n : Nat} {vl : Value} {l : List OpV} {x : OpV} {ka : Option Addr} {kc : Nat} {la : Option Addr} {lc : Nat} (hgd : o.guard = none) (B : Nat) {s t : Operand}
    (ho : o.op = .call { callee := .builtin .append, args := #[s, t], argTypes := #[45, 45] }) (hs : a.eval s = vl) (hx : a.eval t = .slice (some ⟨B, 0, none⟩) 1 1)
    (hI : OwnO wr base vl n l) (e : Ext wr W) (hv : x.v.In W (fun b => vl.ownBlock ≠ some b) ka kc la lc) (hB : Box W B (x.eight ka kc la lc).toArray 49) (hn : n ≤ 1073741824) (hbase : base ≤ wr.heap.size)
    (h : ∀ g cap w', OwnO w' base (.slice (some ⟨g, 0, none⟩) (n + 1) cap) (n + 1) (l ++ [x]) → W.grownBy w' vl.ownBlock → Held (fun b => b < base) W w' → wpList Tryz.prog ops Q rest (a.put o.dst (.slice (some ⟨g, 0, none⟩) (n + 1) cap)) w') : wpList Tryz.prog ops Q (o :: rest) a W := by
  obtain ⟨j0, hj, hy0, hy1, hy2⟩ := info_parts Tryz.infoO
  obtain ⟨hl0, xs, hI1, hI2⟩ := hI
  refine wpList_plain hgd fun _ hK => wp_append_lies _ s t _ ho base 49 j0 _ 8 120 Tryz.underlying45 hj hy0 hy1 hy2 rfl (by decide) vl n xs hs (ownsRow_ext hI1 e) ⟨B, 0, none⟩ 1 1 (x.eight ka kc la lc) hx (by rfl) (World.news_of_block (cs := (x.eight ka kc la lc).toArray) (t := 49) (fr := (0, 0)) hB) (OpV.eight_one x ka kc la lc) (by omega) (by unfold maxLen; omega) (by omega) (Nat.le_trans hbase e.size) _ rfl ?_
  intro g cap w' hown hgrow hat hlt
  have hk : ∀ b, vl.ownBlock ≠ some b → b < W.heap.size → w'.heap[b]? = W.heap[b]? := fun b hb hl => hgrow.block b hl (fun he => hb he.symm)
  have hT : ∀ b, vl.ownBlock ≠ some b → b < W.heap.size → (Value.slice (some ⟨g, 0, none⟩) (n + 1) cap).ownBlock ≠ some b := fun b hb hl he => by
    have hg : g = b := by simpa [Value.ownBlock] using he
    subst hg
    rcases hat with hat | hat
    · exact hb hat
    · omega
  refine hK _ _ (h g cap w' ⟨by simp [hl0], _, hown, ?_⟩ hgrow (Held.grown (Held.refl _ _) hgrow (fun q hq hT => by have := (hI1.lt q hq).1; omega)))
  exact ((hI2.keep (e.kept _) (fun _ h _ => h)).keep hk hT).snoc (hv.keep hk hT)

set_option maxRecDepth 100000 in
set_option maxHeartbeats 8000000 in
theorem read_any (x : V) (ka : Option Addr) (kc : Nat) (la : Option Addr) (lc : Nat) (S : Nat → Prop) (w : World) (hsz : x.size ≤ 1073741824) (hnm : NamesAt w) (hin : x.In w S ka kc la lc) :
    Calls Tryz.prog 48 #[x.val ka kc la lc] w fun e w' => ∃ a n c, e = .returned (.tuple #[.slice a n c, .int .i64 (readV x).2]) ∧ (readV x).1.length = n ∧ SlOk a n c ∧ OpsIn w' All a (readV x).1 ∧ Ext w w' := by
  have Hin := Lib.hid (show x.In w (fun q => q < w.heap.size) ka kc la lc from hin.mono fun b _ h => h)
  have Hnm := Lib.hid hnm
  have hll := x.len_l
  clear hin hnm
  cases hf : x.fine with
  | false =>
    have Hf := Lib.hid hf
    have Hr := Lib.hid (readV_form (v := x) (.inl hf))
    clear hf
    go_enter Tryz.func48, Tryz.ntmps48
    go_wp2_with fail
    (refine (fine_any x ka kc la lc _ _ hsz (Hin.out.ext Xt)).mono ?_)
    rw [Hf.out]
    rintro e w1 ⟨rfl, h1⟩
    have hx1 : Ext w w1 := Xt
    clear h1
    go_wp2_with fail
    go_ret2
    rw [Hr.out]
    exact ⟨none, 0, 0, rfl, rfl, SlOk.nil, .inl rfl, Xt⟩
  | true =>
    have Hf := Lib.hid hf
    by_cases h4 : x.k = 4
    · have h4b : (x.k != 4) = false := by simpa using h4
      have H4 := Lib.hid h4
      by_cases h20 : 20 < x.l.length
      · have h20i : (20 : Int) < (x.l.length : Int) := by omega
        have Hr := Lib.hid (readV_long hf h4 h20)
        clear hf h4 h20
        go_enter Tryz.func48, Tryz.ntmps48
        go_upto_region 1 with fail
        refine gen_world (R := fun wx => Box wx w.heap.size #[.int .i64 x.k, .int .i64 x.n, .string x.s, .slice ka x.keys.length kc, .slice la x.l.length lc] 25 ∧ Ext w wx) ⟨Bxt, Xt⟩ ?_
        rintro wa ⟨hB0, hxa⟩
        have hc0 := hB0.cells; have hf0 := hB0.free; have hl0 := hB0.lt
        go_wp2_with fail
        (refine (fine_any x ka kc la lc _ _ hsz (Hin.out.ext Xt)).mono ?_)
        rw [Hf.out]
        rintro e w1 ⟨rfl, h1⟩
        have hB0 := Box.ext (w' := w1) Xt hB0
        have hx1 : Ext w w1 := Xt
        clear h1 hxa hc0 hf0 hl0
        have hc0 := hB0.cells; have hf0 := hB0.free; have hl0 := hB0.lt
        go_wp2_with fail
        go_ret2
        rw [Hr.out]
        exact ⟨none, 0, 0, rfl, rfl, SlOk.nil, .inl rfl, Xt⟩
      · have h20i : ¬ (20 : Int) < (x.l.length : Int) := by omega
        have H20 := Lib.hid h20
        have hl20 : x.l.length ≤ 20 := by omega
        clear hf h4 h20
        go_enter Tryz.func48, Tryz.ntmps48
        go_upto_region 1 with fail
        refine gen_world (R := fun wx => Box wx w.heap.size #[.int .i64 x.k, .int .i64 x.n, .string x.s, .slice ka x.keys.length kc, .slice la x.l.length lc] 25 ∧ Ext w wx) ⟨Bxt, Xt⟩ ?_
        rintro wa ⟨hB0, hxa⟩
        have hc0 := hB0.cells; have hf0 := hB0.free; have hl0 := hB0.lt
        go_wp2_with fail
        (refine (fine_any x ka kc la lc _ _ hsz (Hin.out.ext Xt)).mono ?_)
        rw [Hf.out]
        rintro e w1 ⟨rfl, h1⟩
        have hB0 := Box.ext (w' := w1) Xt hB0
        have hx1 : Ext w w1 := Xt
        have hz1 := hB0.lt
        clear h1 hxa hc0 hf0 hl0
        have hc0 := hB0.cells; have hf0 := hB0.free; have hl0 := hB0.lt
        go_wp2_with fail
        clear hc0 hf0 hl0 hB0
        go_loopg [4, 6, 7, 8, 24] x.l.length (fun g t4 _ _ _ i wr => ∃ (k : Nat) (os : List OpV) (a3 : Option Addr) (c3 : Nat), k ≤ x.l.length ∧ i = .int .i64 k ∧ g = x.l.length - k ∧ t4 = .slice a3 k c3 ∧ Hid (OwnO wr w1.heap.size (.slice a3 k c3) k os) ∧ Hid (opsO (x.l.take k) = some os) ∧ Ext w wr ∧ w1.heap.size ≤ wr.heap.size)
        case atStart => exact ⟨0, [], none, 0, by omega, rfl, rfl, rfl, Lib.hid (OwnO.nil _ _), Lib.hid rfl, hx1, by omega⟩
        case round =>
          clear hx1
          obtain ⟨k, os, a3, c3, hk, rfl, rfl, rfl, HO, Hos, hx, hzr⟩ := hrel
          by_cases hlt : k < x.l.length
          · obtain ⟨bq, oq, rfl, hSq, ka', kc', la', lc', ⟨d0, d1, d2, d3, d4⟩, hin'⟩ := Hin.out.item hlt
            have d0 := hx.cell d0; have d1 := hx.cell d1; have d2 := hx.cell d2; have d3 := hx.cell d3; have d4 := hx.cell d4
            have hki0 : (0 : Int) ≤ (k : Int) := by omega
            have hki1 : (k : Int) < (x.l.length : Int) := by omega
            have Hin' := Lib.hid hin'
            have hsi := V.size_item hlt
            have Hbad := Lib.hid (fun h : x.l[k].opO = none => readV_bad Hf.out H4.out H20.out hlt h)
            have Hnx := Lib.hid (fun (o : OpV) (h : x.l[k].opO = some o) => opsO_take hlt Hos.out h)
            clear hin'
            go_upto_region 9 with fail
            refine gen_world (R := fun wx => OwnO wx w1.heap.size (.slice a3 k c3) k os ∧ Box wx wr.heap.size #[.int .i64 x.l[k].k, .int .i64 x.l[k].n, .string x.l[k].s, .slice ka' x.l[k].keys.length kc', .slice la' x.l[k].l.length lc'] 25 ∧ Ext w wx ∧ w1.heap.size ≤ wx.heap.size) ⟨HO.out.ext Xt, Bxt, Xt, by simp; omega⟩ ?_
            clear HO hx d0 d1 d2 d3 d4 hzr
            rintro wb ⟨hO, hBq, hx, hzb⟩
            have HO := Lib.hid hO
            clear hO
            have hcq := hBq.cells; have hfq := hBq.free; have hlq := hBq.lt
            go_wp2_with fail
            (refine (readO_any x.l[k] ka' kc' la' lc' (fun b => b < w.heap.size) _ (by omega) (Hnm.out.ext Xt) (Hin'.out.ext Xt)).mono ?_)
            rintro e w2 ⟨o, kb, kd, lb, ld, ob, rfl, hino, heq, h2⟩
            have Heq := Lib.hid heq
            have hy2 : Ext wb w2 := Xt
            have hx2 := hx.trans hy2
            have hz2 := hy2.size
            have hOb := HO
            have HO := Lib.hid (HO.out.ext hy2)
            have Hino := Lib.hid (show o.v.In w2 (fun b => (Value.slice a3 k c3).ownBlock ≠ some b) kb kd lb ld from hino.mono fun b h hl he => by
              have h5 := HO.out
              obtain ⟨-, xs, h6, -⟩ := h5
              have h7 := h6.lt b he
              rcases h with h | h
              · omega
              · have h8 := he
                obtain ⟨-, ys, h9, -⟩ := hOb.out
                have h10 := (h9.lt b he).2
                (try simp at h)
                omega)
            clear h2 hino heq hx hcq hfq hlq hBq
            cases ob with
            | false =>
              have Hr := Lib.hid (Hbad.out (by rw [Heq.out]; rfl))
              go_wp2_with fail
              go_ret2
              rw [Hr.out]
              exact ⟨none, 0, 0, rfl, rfl, SlOk.nil, .inl rfl, Xt⟩
            | true =>
              have Hn := Lib.hid (Hnx.out o (by rw [Heq.out]; rfl))
              go_upto_region 12 with fail
              refine gen_world (R := fun wx => OwnO wx w1.heap.size (.slice a3 k c3) k os ∧ Box wx w2.heap.size #[.int .i64 o.k, .string o.p, .string o.f, .int .i64 (o.v).k, .int .i64 (o.v).n, .string (o.v).s, .slice kb (o.v).keys.length kd, .slice lb (o.v).l.length ld] 49 ∧ o.v.In wx (fun b => (Value.slice a3 k c3).ownBlock ≠ some b) kb kd lb ld ∧ Ext w wx ∧ w1.heap.size ≤ wx.heap.size) ⟨HO.out.ext Xt, Bxt, Hino.out.ext Xt, Xt, by simp; omega⟩ ?_
              clear HO Hino hx2 hy2 hz2 hzb
              rintro wc ⟨hO, hBo, hino, hx, hzc⟩
              have HO := Lib.hid hO
              have Hino := Lib.hid hino
              clear hO hino
              have hco := hBo.cells; have hfo := hBo.free; have hlo := hBo.lt
              go_upto_region 13 with (at_builtin; refine wpl_op (by rfl) wc.heap.size (by rfl) (by rfl) (by rfl) HO.out Xt (Hino.out.ext Xt) Bxt (by omega) hzc ?_; intro g3 cap3 w3 HO3 hgrow3 hh3)
              have hx3 : Ext w w3 := Ext.grown (Ext.trans hx (show Ext wc _ from Xt)) hgrow3 (fun q hq => by obtain ⟨-, xs, h1, -⟩ := HO.out; have := (h1.lt q hq).1; omega)
              have hz3 := hh3.size
              clear hgrow3 hh3 HO Hino
              go_wp2_with fail
              go_roundg (x.l.length - (k + 1))
              case measure => omega
              case rel => exact ⟨k + 1, _, _, _, by omega, by go_num, rfl, rfl, Lib.hid HO3, Hn, hx3, by first | omega | (simp at hz3; omega)⟩
          · obtain rfl : k = x.l.length := by omega
            have Hr := Lib.hid (readV_ok Hf.out H4.out H20.out Hos.out)
            have hl0 := HO.out.1
            obtain ⟨a6, c6, he6, hok6⟩ := HO.out.form
            simp only [Value.slice.injEq, true_and] at he6
            obtain ⟨rfl, rfl⟩ := he6
            have Hops := Lib.hid HO.out.ops
            have Hl0 := Lib.hid hl0
            have Hok6 := Lib.hid hok6
            clear hl0 hok6 HO
            go_wp2_with fail
            go_ret2
            rw [Hr.out]
            exact ⟨a3, _, c3, rfl, Hl0.out, Hok6.out, Hops.out.ext Xt, Xt⟩
    · have h4b : (x.k != 4) = true := by simpa using h4
      have Hr := Lib.hid (readV_form (v := x) (.inr h4))
      clear hf h4
      go_enter Tryz.func48, Tryz.ntmps48
      go_upto_region 1 with fail
      refine gen_world (R := fun wx => Box wx w.heap.size #[.int .i64 x.k, .int .i64 x.n, .string x.s, .slice ka x.keys.length kc, .slice la x.l.length lc] 25 ∧ Ext w wx) ⟨Bxt, Xt⟩ ?_
      rintro wa ⟨hB0, hxa⟩
      have hc0 := hB0.cells; have hf0 := hB0.free; have hl0 := hB0.lt
      go_wp2_with fail
      (refine (fine_any x ka kc la lc _ _ hsz (Hin.out.ext Xt)).mono ?_)
      rw [Hf.out]
      rintro e w1 ⟨rfl, h1⟩
      have hB0 := Box.ext (w' := w1) Xt hB0
      have hx1 : Ext w w1 := Xt
      clear h1 hxa hc0 hf0 hl0
      have hc0 := hB0.cells; have hf0 := hB0.free; have hl0 := hB0.lt
      go_wp2_with fail
      go_ret2
      rw [Hr.out]
      exact ⟨none, 0, 0, rfl, rfl, SlOk.nil, .inl rfl, Xt⟩
end Go.Proofs.YtnbappeiebameaaGreatDoor
