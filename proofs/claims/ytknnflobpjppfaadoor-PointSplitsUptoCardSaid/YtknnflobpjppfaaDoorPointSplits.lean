/- PointSplits: for all texts and names the law returns true (point's Split and Join answer as the reference's); the arguments hold together at most 1048576 values and letters; the library's listed variables as its text lays them. -/
import Derived.Test.YtknnflobpjppfaaDoorSplitPath
import Derived.Test.YtknnflobpjppfaaDoorPts3
import Derived.Test.YtknnflobpjppfaaDoorLaid
import Derived.Test.YtknnflobpjppfaaDoorOpenV
import Derived.BigFrame
import Derived.HandedShaped
import Derived.SevenTiedAt
set_option linter.all false
namespace Go.Proofs.YtknnflobpjppfaaDoor.lawPointSplits
open Go.ChangeShapes Go.WideShapes Go.ChangeAt Go.RowKit
open Go.ChangeMaps (open_string shut_string)

theorem datas_inj {a b : List ByteArray} (h : a.map (·.data.toList) = b.map (·.data.toList)) : a = b := by
  induction a generalizing b with
  | nil => cases b with | nil => rfl | cons => simp at h
  | cons x r ih =>
    cases b with
    | nil => simp at h
    | cons y t =>
      simp only [List.map_cons, List.cons.injEq] at h
      rw [ih h.2, bytes_ext (a := x) (b := y) (by rw [ByteArray.toList_eq, ByteArray.toList_eq, h.1])]

theorem unesc_len2 (s : List UInt8) : (unescN s).length ≤ s.length * 4 := by
  have h1 := rep_len s [126, 49] [47] (by simp) (by decide)
  have h2 := rep_len (Lib.replaceAll s [126, 49] [47]) [126, 48] [126] (by simp) (by decide)
  unfold unescN
  simp only [List.length_cons, List.length_nil] at h1 h2
  omega
theorem names_small {p : List UInt8} {l : List (List UInt8)} (h : namesL p = some l) : l.length ≤ 2001 ∧ ∀ q ∈ l, q.length ≤ 8000 := by
  unfold namesL at h
  cases p with
  | nil => simp at h; subst h; simp
  | cons c r =>
    simp only at h
    split at h
    · rename_i hc
      have hr : r.length ≤ 2000 := by have := hc.2; simp at this; omega
      split at h
      · simp only [Option.some.injEq] at h
        subst h
        refine ⟨by have := split_len r; simp; omega, fun q hq => ?_⟩
        obtain ⟨s, hs, rfl⟩ := List.mem_map.1 hq
        have := split_piece r s hs
        have := unesc_len2 s
        omega
      · cases h
    · cases h

def namesEr (r : Option (List (List UInt8))) : Int := match r with | some _ => 0 | none => 1
theorem ret_val {r : Option (List (List UInt8))} {w w' : World} {e : Ending} (h : RetNames r w e w') :
    ∃ a n c ks, e = .returned (.tuple #[.slice a n c, .int .i64 (namesEr r)]) ∧ ks.length = n ∧ ks.map (·.data.toList) = r.getD [] ∧ StrsIn w' (fun b => w.heap.size ≤ b) a ks ∧ Ext w w' := by
  rcases h with ⟨l, a, n, c, ks, rfl, h1, h2, h3, -, h5, h6⟩ | ⟨rfl, h1, h6⟩
  · exact ⟨a, n, c, ks, h1, h2, h3, h5, h6⟩
  · exact ⟨none, 0, 0, [], h1, rfl, rfl, .inl rfl, h6⟩

set_option maxHeartbeats 2000000 in
theorem sameTexts_any (ks : List ByteArray) (a1 a2 : Option Addr) (n1 n2 c1 c2 : Nat) (S1 S2 : Nat → Prop) (w : World) (h1 : StrsIn w S1 a1 ks) (h2 : StrsIn w S2 a2 ks) (e1 : ks.length = n1) (e2 : ks.length = n2) (hl : ks.length ≤ 1073741824) :
    Calls Tryd.prog 13 #[.slice a1 n1 c1, .slice a2 n2 c2] w fun e w' => e = .returned (.bool true) ∧ Ext w w' := by
  subst e1
  subst e2
  go_enter Tryd.func13, Tryd.ntmps13
  go_wp2_with fail
  go_loopg [5, 13] ks.length (fun g _ i wr => ∃ k : Nat, k ≤ ks.length ∧ i = .int .i64 k ∧ g = ks.length - k ∧ Ext w wr)
  case atStart => exact ⟨0, by omega, rfl, rfl, Ext.refl _⟩
  case round =>
    obtain ⟨k, hk, rfl, rfl, hx⟩ := hrel
    by_cases hlt : k < ks.length
    · obtain ⟨b1, o1, rfl, hS1, hc1⟩ := h1.resolve_left (by intro h; rw [h] at hlt; simp at hlt)
      obtain ⟨b2, o2, rfl, hS2, hc2⟩ := h2.resolve_left (by intro h; rw [h] at hlt; simp at hlt)
      have d0 := hx.cell (hc1 k hlt)
      have d1 := hx.cell (hc2 k hlt)
      have hki0 : (0 : Int) ≤ (k : Int) := by omega
      have hki1 : (k : Int) < (ks.length : Int) := by omega
      clear hc1 hc2 h1 h2
      go_wp2_with fail
      go_quiet (fail)
      go_wp2_with fail
      go_roundg (ks.length - (k + 1))
      case measure => omega
      case rel => exact ⟨k + 1, by omega, by go_num, rfl, (by with_reducible repeat (first | exact Ext.refl _ | assumption | apply Ext.drew | apply Ext.drewN | apply Ext.alloc | (refine Ext.setCell ?_ ?_ _; rotate_left; (focus (first | (simp; done) | (simp; omega) | omega))) | refine Ext.trans ?_ (by assumption)))⟩
    · clear h1 h2
      go_wp2_with fail
      go_ret
      exact ⟨rfl, (by with_reducible repeat (first | exact Ext.refl _ | assumption | apply Ext.drew | apply Ext.drewN | apply Ext.alloc | (refine Ext.setCell ?_ ?_ _; rotate_left; (focus (first | (simp; done) | (simp; omega) | omega))) | refine Ext.trans ?_ (by assumption)))⟩

set_option maxHeartbeats 1000000 in
theorem points_law (w : World) (hm : MaxAt w) : Calls Tryd.prog 16 #[] w fun e w' => e = .returned (.bool true) ∧ Ext w w' := by
  go_enter Tryd.func16, Tryd.ntmps16
  go_wp2_with fail
  (refine (add_ok _ (hm.ext (by with_reducible repeat (first | exact Ext.refl _ | assumption | apply Ext.drew | apply Ext.drewN | apply Ext.alloc | (refine Ext.setCell ?_ ?_ _; rotate_left; (focus (first | (simp; done) | (simp; omega) | omega))) | refine Ext.trans ?_ (by assumption))))).mono ?_); rintro e w1 ⟨ka1, kc1, la1, lc1, rfl, hin1, h1⟩
  have hx1 : Ext w w1 := (by with_reducible repeat (first | exact Ext.refl _ | assumption | apply Ext.drew | apply Ext.drewN | apply Ext.alloc | (refine Ext.setCell ?_ ?_ _; rotate_left; (focus (first | (simp; done) | (simp; omega) | omega))) | refine Ext.trans ?_ (by assumption)))
  go_wp2_with fail
  (refine (get_ok ka1 kc1 la1 lc1 _ _ (hin1.ext (by with_reducible repeat (first | exact Ext.refl _ | assumption | apply Ext.drew | apply Ext.drewN | apply Ext.alloc | (refine Ext.setCell ?_ ?_ _; rotate_left; (focus (first | (simp; done) | (simp; omega) | omega))) | refine Ext.trans ?_ (by assumption)))) (hm.ext (by with_reducible repeat (first | exact Ext.refl _ | assumption | apply Ext.drew | apply Ext.drewN | apply Ext.alloc | (refine Ext.setCell ?_ ?_ _; rotate_left; (focus (first | (simp; done) | (simp; omega) | omega))) | refine Ext.trans ?_ (by assumption))))).mono ?_); rintro e w2 ⟨a3, c3, a4, c4, rfl, h2⟩
  go_wp2_with fail
  go_ret
  exact ⟨rfl, (by with_reducible repeat (first | exact Ext.refl _ | assumption | apply Ext.drew | apply Ext.drewN | apply Ext.alloc | (refine Ext.setCell ?_ ?_ _; rotate_left; (focus (first | (simp; done) | (simp; omega) | omega))) | refine Ext.trans ?_ (by assumption)))⟩

theorem wpList_copy_nil_w {P : Program} {w : World} {ops : Array Oper} {rest : List Oper} {o : Oper} {a : Act} {Q : Exit → Act → World → Prop} (hw : Region.wanted o (yielded ops a.tmps) = true) (s x : Operand) (t : TypeId)
    (ho : o.op = .call { callee := .builtin .append, args := #[s, x], argTypes := #[t, t] })
    (base : Nat) (e : TypeId) (i : TypeInfo) (z : Value) (size bytes : Nat) (ht : P.underlying t = some (.slice e)) (hi : P.info? e = some i) (hz : i.zero = some z)
    (hsize : i.size = size) (hby : i.bytes = bytes) (hzs : z.cells.size = size) (hsz : 0 < size)
    (hs : a.eval s = .slice none 0 0) (ad : Option Addr) (n c : Nat) (xs : List Value) (hx : a.eval x = .slice ad n c) (hok : SlOk ad n c) (hl : xs.length = n * size)
    (hsrc : n = 0 ∨ ∃ b, ad = some b ∧ ∀ j u, xs[j]? = some u → w.cell? (b.add j) = some u) (h1 : ∀ u ∈ xs, u.oneCell' = true) (hbytes : n * bytes ≤ 140737488355328) (hbase : base ≤ w.heap.size)
    (h : ∀ a' c' w', w'.ownsRow base e size (.slice a' n c') n xs → SlOk a' n c' → w.grownBy w' none → wpList P ops Q rest (a.put o.dst (.slice a' n c')) w') : wpList P ops Q (o :: rest) a w :=
  wpList_step fun _ hK => by
    rw [if_pos hw]
    exact wp_copy_nil s x t ho base e i z size bytes ht hi hz hsize hby hzs hsz hs ad n c xs hx hok hl hsrc h1 hbytes hbase (fun a' c' w' h2 h4 h3 => hK _ _ (h a' c' w' h2 h4 h3))

set_option maxRecDepth 100000 in
set_option maxHeartbeats 16000000 in
theorem walk (a : Option Addr) (n cap : Nat) (ks : List ByteArray) (S : Nat → Prop) (p : ByteArray) (w : World) (hks : StrsIn w S a ks) (hok : SlOk a n cap) (hn0 : ks.length = n) (hz : ∀ q ∈ ks, q.size ≤ 1048576) (hkl : ks.length ≤ 1048576) (hp : p.size ≤ 1048576) (hm : MaxAt w) :
    Calls Tryd.prog 3 #[.string p, .slice a n cap] w fun e w' => e = .returned (.bool true) ∧ Ext w w' := by
  have Hn := Lib.hid hn0
  have Hok := Lib.hid hok
  have hn1 : n ≤ 1048576 := by omega
  have Hz := Lib.hid (show ∀ i (h : i < ks.length), (ks[i]).size ≤ 2000000 from fun i h => by have := hz _ (List.getElem_mem h); omega)
  obtain ⟨i0, hi, hz0, hz1, hz2⟩ := info_parts Tryd.infoS
  clear hz hn0 hok
  go_enter Tryd.func3, Tryd.ntmps3
  go_wp2_with fail
  (refine (split_any p (by omega) _ (hm.ext (by with_reducible repeat (first | exact Ext.refl _ | assumption | apply Ext.drew | apply Ext.drewN | apply Ext.alloc | (refine Ext.setCell ?_ ?_ _; rotate_left; (focus (first | (simp; done) | (simp; omega) | omega))) | refine Ext.trans ?_ (by assumption))))).mono ?_); rintro e w1 h1'
  obtain ⟨a1, n1, c1, k1, rfl, hn1', hk1, hs1, h1⟩ := ret_val h1'
  clear h1'
  go_wp2_with fail
  (refine (splitPath_any p (by omega) _).mono ?_); rintro e w2 h2'
  obtain ⟨a2, n2, c2, k2, rfl, hn2', hk2, hs2, h2⟩ := ret_val h2'
  clear h2'
  obtain rfl : k1 = k2 := datas_inj (hk1.trans hk2.symm)
  have hkl1 : k1.length ≤ 1073741824 := by
    have e1 : k1.length = ((namesL p.data.toList).getD []).length := by rw [← hk1]; simp
    rw [e1]
    cases hnl : namesL p.data.toList with
    | none => simp
    | some l => have := (names_small hnl).1; simp only [Option.getD_some]; omega
  have hx2 : Ext w w2 := (by with_reducible repeat (first | exact Ext.refl _ | assumption | apply Ext.drew | apply Ext.drewN | apply Ext.alloc | (refine Ext.setCell ?_ ?_ _; rotate_left; (focus (first | (simp; done) | (simp; omega) | omega))) | refine Ext.trans ?_ (by assumption)))
  have hs1 := hs1.ext h2
  clear hk1 hk2 h1 h2
  go_wp2_with fail
  (refine (sameTexts_any k1 a1 a2 n1 n2 c1 c2 _ _ _ (hs1.ext (by with_reducible repeat (first | exact Ext.refl _ | assumption | apply Ext.drew | apply Ext.drewN | apply Ext.alloc | (refine Ext.setCell ?_ ?_ _; rotate_left; (focus (first | (simp; done) | (simp; omega) | omega))) | refine Ext.trans ?_ (by assumption)))) (hs2.ext (by with_reducible repeat (first | exact Ext.refl _ | assumption | apply Ext.drew | apply Ext.drewN | apply Ext.alloc | (refine Ext.setCell ?_ ?_ _; rotate_left; (focus (first | (simp; done) | (simp; omega) | omega))) | refine Ext.trans ?_ (by assumption)))) hn1' hn2' hkl1).mono ?_); rintro e w3 ⟨rfl, h3⟩
  have hx3 : Ext w w3 := (by with_reducible repeat (first | exact Ext.refl _ | assumption | apply Ext.drew | apply Ext.drewN | apply Ext.alloc | (refine Ext.setCell ?_ ?_ _; rotate_left; (focus (first | (simp; done) | (simp; omega) | omega))) | refine Ext.trans ?_ (by assumption)))
  have hsz3 := hx3.size
  clear h3 hx2 hs1 hs2
  go_wp2_with ((at_builtin; refine wpList_copy_nil_w (by kernel_rfl) _ _ 22 (by rfl) w.heap.size 9 i0 _ 1 16 Tryd.underlying22 hi hz0 hz1 hz2 rfl (by decide) (by rfl) a n cap (ks.map Value.string) (by rfl) Hok.out (by rw [List.length_map, Hn.out, Nat.mul_one]) (by rw [← Hn.out]; exact strs_src (hks.ext (by with_reducible repeat (first | exact Ext.refl _ | assumption | apply Ext.drew | apply Ext.drewN | apply Ext.alloc | (refine Ext.setCell ?_ ?_ _; rotate_left; (focus (first | (simp; done) | (simp; omega) | omega))) | refine Ext.trans ?_ (by assumption))))) (strs_one _) (by omega) (by omega) ?_; intro ka1 kc1 w4 hown4 hok4 hgrow4; have h4 := grown_ext hgrow4; have Hown4 := Lib.hid hown4; have Hok4 := Lib.hid hok4; clear hown4 hgrow4 hok4))
  have hx4 : Ext w w4 := (by with_reducible repeat (first | exact Ext.refl _ | assumption | apply Ext.drew | apply Ext.drewN | apply Ext.alloc | (refine Ext.setCell ?_ ?_ _; rotate_left; (focus (first | (simp; done) | (simp; omega) | omega))) | refine Ext.trans ?_ (by assumption)))
  obtain ⟨a5, c5, he5, hok5, -, hst5⟩ := OwnS.strs (base := w.heap.size) (ks := ks) ⟨Hn.out, Hown4.out⟩
  simp only [Value.slice.injEq, true_and] at he5
  obtain ⟨rfl, rfl⟩ := he5
  clear h4
  (refine (join_any ka1 n kc1 ks _ _ (hst5.ext (by with_reducible repeat (first | exact Ext.refl _ | assumption | apply Ext.drew | apply Ext.drewN | apply Ext.alloc | (refine Ext.setCell ?_ ?_ _; rotate_left; (focus (first | (simp; done) | (simp; omega) | omega))) | refine Ext.trans ?_ (by assumption)))) Hn.out Hz.out (by omega) (hm.ext (by with_reducible repeat (first | exact Ext.refl _ | assumption | apply Ext.drew | apply Ext.drewN | apply Ext.alloc | (refine Ext.setCell ?_ ?_ _; rotate_left; (focus (first | (simp; done) | (simp; omega) | omega))) | refine Ext.trans ?_ (by assumption))))).mono ?_); rintro e w5 ⟨s5, rfl, hs5, h5⟩
  have Hs5 := Lib.hid hs5
  have hx5 : Ext w w5 := (by with_reducible repeat (first | exact Ext.refl _ | assumption | apply Ext.drew | apply Ext.drewN | apply Ext.alloc | (refine Ext.setCell ?_ ?_ _; rotate_left; (focus (first | (simp; done) | (simp; omega) | omega))) | refine Ext.trans ?_ (by assumption)))
  clear hs5 h5
  go_wp2_with fail
  (refine (joinPath_any a n cap ks _ _ (hks.ext (by with_reducible repeat (first | exact Ext.refl _ | assumption | apply Ext.drew | apply Ext.drewN | apply Ext.alloc | (refine Ext.setCell ?_ ?_ _; rotate_left; (focus (first | (simp; done) | (simp; omega) | omega))) | refine Ext.trans ?_ (by assumption)))) Hn.out Hz.out (by omega)).mono ?_); rintro e w6 ⟨s6, rfl, hs6, h6⟩
  obtain rfl : s5 = s6 := bytes_ext (by rw [ByteArray.toList_eq, ByteArray.toList_eq, Hs5.out, hs6])
  have hx6 : Ext w w6 := (by with_reducible repeat (first | exact Ext.refl _ | assumption | apply Ext.drew | apply Ext.drewN | apply Ext.alloc | (refine Ext.setCell ?_ ?_ _; rotate_left; (focus (first | (simp; done) | (simp; omega) | omega))) | refine Ext.trans ?_ (by assumption)))
  clear hs6 h6
  go_wp2_with fail
  (with_reducible refine (points_law _ (hm.ext (by with_reducible repeat (first | exact Ext.refl _ | assumption | apply Ext.drew | apply Ext.drewN | apply Ext.alloc | (refine Ext.setCell ?_ ?_ _; rotate_left; (focus (first | (simp; done) | (simp; omega) | omega))) | refine Ext.trans ?_ (by assumption))))).mono ?_); rintro e w7 ⟨rfl, h7⟩; obtain ⟨hcw7, hfw7, hzw7⟩ := ext_facts h7; (try simp at hzw7); (try have hzAw7 : w.heap.size < w7.heap.size := by omega); (try have hzBw7 : w.heap.size + 1 < w7.heap.size := by omega); (try have hzCw7 : w.heap.size + 2 < w7.heap.size := by omega)
  go_wp2
  go_ret
  exact ⟨ret_bool (by simp), (by with_reducible repeat (first | exact Ext.refl _ | assumption | apply Ext.drew | apply Ext.drewN | apply Ext.alloc | (refine Ext.setCell ?_ ?_ _; rotate_left; (focus (first | (simp; done) | (simp; omega) | omega))) | refine Ext.trans ?_ (by assumption)))⟩
set_option maxRecDepth 100000 in
theorem lifted (os : Os) (started : os.Started) (H : Type) (enc : TypeId × Value → H) (F : Stop.Interp) :
    ReturnsInHanded {} Tryd.checked os 3 .any ((Rows.OpenSpec.upto Rows.pointSplitsSpec).preRow enc Tryd.prog Tryd.f3 Rows.pointSplitsUptoRow.domain false Rows.pointSplitsUptoRow.laid) (((Rows.OpenSpec.upto Rows.pointSplitsSpec).at F).post enc Tryd.prog Tryd.f3 false true false false) := by
  obtain ⟨places, hx⟩ : ∃ places, DataW.whole enc Tryd.prog ((start.laidWorld os).forCall (fun _ _ => 0) ⟨#[], #[.string ⟨#[]⟩, .slice none 0 0], []⟩).memory Tryd.f3.params.toList Rows.pointSplitsSpec.vars false (#[Value.string ⟨#[]⟩, .slice none 0 0]).toList 8 = some ([.lit (.string []), .nil], [], places) := ⟨[], by kernel_rfl⟩
  refine returnsInHanded_of_row (C := Tryd.checked) (s := Rows.OpenSpec.upto Rows.pointSplitsSpec) Tryd.own started (by kernel_rfl) Tryd.func3
    (witness_row_atRef (enc := enc) (C := Tryd.checked) false (start.laidWorld os) #[.string ⟨#[]⟩, .slice none 0 0] rfl (by kernel_rfl) (by kernel_rfl) (by kernel_rfl)
      (OpenSpec.preRow_of_cond 8 hx (by kernel_rfl) (fun k hk => by cases hk; kernel_rfl) (by kernel_rfl) (start.laid_met os _))) ?_
  intro W base args ds gs before hval0 hW _ hk _ _ hsh _
  have hkb := hk _ rfl
  have hval : ∀ (j : Nat) t v, Tryd.f3.params[j]? = some t → args[j]? = some v → Value.okWide Tryd.prog W .any base t v := hval0
  have hW' := hW
  obtain ⟨p, q, hA0, hV, rfl, hfz, hnd⟩ := hW
  have hA : DataW.TrodAll enc Tryd.prog W 0 (fun _ => true) true Tryd.f3.params.toList args.toList ds p := hA0
  rw [Tryd.params3] at hA hval
  obtain ⟨v0, vs0, d0, ds0, p0, q0, hargs, rfl, rfl, h0, r0⟩ := trodAll_cons hA
  obtain ⟨v1, vs1, d1, ds1, p1, q1, rfl, rfl, rfl, h1, r1⟩ := trodAll_cons r0
  obtain ⟨rfl, rfl, rfl⟩ := trodAll_nil r1
  obtain rfl : args = #[v0, v1] := by cases args; simp_all
  obtain ⟨rfl, rfl⟩ := trodVars_none hV
  have hbulk : Rows.uptoBulkAll [d0, d1] ≤ 1048576 := by simpa [Rows.uptoSmall] using hkb
  have k0 := h0
  have k1 := h1
  have lt0 : ∀ x ∈ p0, x.block < W.heap.size := by obtain ⟨m, hm⟩ := k0; exact DataW.trod_lt m _ _ _ hm
  have lt1 : ∀ x ∈ p1, x.block < W.heap.size := by obtain ⟨m, hm⟩ := k1; exact DataW.trod_lt m _ _ _ hm
  obtain ⟨m, hm⟩ := Tryd.laysM146.s1_3 W hsh
  have hmax : MaxAt W := ⟨m, hm⟩
  obtain ⟨a, len, cap, rfl⟩ := okWide_slice Tryd.underlying22 (hval 1 22 v1 rfl rfl)
  obtain ⟨fuel, hf⟩ := h1
  obtain ⟨a', cap', ks, hc, hok, hst, hb⟩ := open_texts hf
  simp only [Value.slice.injEq] at hc
  obtain ⟨rfl, rfl, rfl⟩ := hc
  obtain ⟨s, rfl, rfl, rfl, ws⟩ := open_string Tryd.underlying9 (hval 0 9 v0 rfl rfl) h0
  simp only [Rows.uptoBulkAll, Rows.uptoBulk] at hbulk hb
  have hs : s.size ≤ 1048576 := by
    have : s.data.toList.length = s.size := Array.length_toList
    omega
  have hks : ∀ q ∈ ks, q.size ≤ 1048576 := fun q hq => by
    have h1 := sum_ge (fun k : ByteArray => k.size + 1) hq
    have h2 : strsSize ks = (ks.map fun k => k.size + 1).sum := rfl
    omega
  have hkl : ks.length ≤ 1048576 := by
    have h1 := sum_len (fun k : ByteArray => k.size + 1) (fun _ => by omega) ks
    have h2 : strsSize ks = (ks.map fun k => k.size + 1).sum := rfl
    omega
  clear hA0 hval0
  refine (walk a ks.length cap ks _ s W hst hok rfl hks hkl hs hmax).mono fun e W' ⟨he, bel⟩ => ?_
  subst he
  exact ⟨_, rfl, _, _, _, [], _, [], hW', trodAll_mk1 (shut_bool Tryd.underlying4 _), (trodAll_cons_mk (Below.trod Tryd.laidOut (by kernel_rfl) (of_decide_eq_true (by kernel_rfl)) k0 bel lt0) (trodAll_cons_mk (Below.trod Tryd.laidOut (by kernel_rfl) (of_decide_eq_true (by kernel_rfl)) k1 bel lt1) trodAll_mk0)), rfl, Below.frame bel _, fun h => by cases h⟩

theorem said : Rows.PointSplitsUptoSaid :=
  OpenClaim.holds_of_cond 3 Tryd.f3 rfl rfl rfl rfl rfl rfl rfl ⟨rfl, rfl, rfl, rfl, rfl⟩ rfl rfl rfl rfl rfl (by kernel_rfl) Tryd.func3 (by kernel_rfl)
    (of_decide_eq_true (by kernel_rfl)) (by unfold Func.isWrapper; first | (rw [if_pos (by decide +kernel)]; kernel_rfl) | (rw [if_neg (by decide +kernel)]; exact ⟨rfl, rfl⟩))
    (fun os started H enc _ F => by rw [OpenClaim.pre_eq_preRow]; exact lifted os started H enc F)

theorem plain (f : FuncId) (fn : Func) (hf : Tryd.pinned.checked.prog.funcNamed "stairwell/stairwelllaw.PointSplits" = some f) (hfn : Tryd.pinned.checked.prog.funcs[f]? = some fn) :
    true = Tryd.pinned.checked.prog.looks [] ∧ ∀ (j : Nat) t, fn.params[j]? = some t → Tryd.pinned.checked.prog.wantsStandIn t = false := by
  obtain rfl : f = 3 := Option.some.inj ((show Tryd.prog.funcNamed "stairwell/stairwelllaw.PointSplits" = some 3 by kernel_rfl).symm.trans hf) |>.symm
  obtain rfl : fn = Tryd.f3 := (Option.some.inj (Tryd.func3.symm.trans hfn)).symm
  refine ⟨by kernel_rfl, fun j t ht => ?_⟩
  rw [Tryd.params3] at ht
  have h : t = 9 ∨ t = 22 := by simpa using Array.mem_of_getElem? ht
  rcases h with rfl | rfl
  · exact (show Tryd.prog.wantsStandIn 9 = false by kernel_rfl)
  · exact (show Tryd.prog.wantsStandIn 22 = false by kernel_rfl)

theorem proved : Rows.PointSplitsUptoCardSaid :=
  Claim7.holds_tied_plain_at .later [] _ _ _ _ said (fun _ h => by cases h) (by kernel_rfl) (fun _ h => by cases h) pointSplitsUpto_row_tie rfl ⟨rfl, rfl⟩ (by kernel_rfl) rfl plain (by kernel_rfl)
end Go.Proofs.YtknnflobpjppfaaDoor.lawPointSplits
