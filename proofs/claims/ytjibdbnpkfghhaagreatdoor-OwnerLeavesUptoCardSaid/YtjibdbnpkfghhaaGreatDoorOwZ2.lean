/- The walk of owner.Apply: its main way. -/
import Derived.Test.YtjibdbnpkfghhaaGreatDoorOwZ1
import Derived.Test.YtjibdbnpkfghhaaGreatDoorOwS
set_option linter.all false
namespace Go.Proofs.YtjibdbnpkfghhaaGreatDoor
open Go.RowKit
attribute [local go_sem ↓] Go.wp_at_zero Go.wp_at_succ
set_option maxRecDepth 100000 in
set_option maxHeartbeats 16000000 in
theorem apply_main (v : V) (ka : Option Addr) (kc : Nat) (la : Option Addr) (lc : Nat) (l : List Ow) (a : Option Addr) (c : Nat) (who : ByteArray) (want : V) (kb : Option Addr) (kd : Nat) (lb : Option Addr) (ld : Nat) (force : Bool) (S : Nat → Prop) (w : World)
    (hvz : v.size ≤ 1000000000) (hwz : want.size ≤ 1000000000) (hlz : owsSize l ≤ 2097152) (hhz : who.size ≤ 1073741824) (hok : SlOk a l.length c) (hin : v.In w S ka kc la lc) (hjn : OwsIn w S l a) (hkn : want.In w S kb kd lb ld) (hm : MaxAt w) (hb : formB v l who want = true) (hnc : ¬ (confL v l who want ≠ [] ∧ force = false)) :
    Calls Tryz.prog 15 #[v.val ka kc la lc, .slice a l.length c, .string who, want.val kb kd lb ld, .bool force] w
      (RetApply S (if (nextV v l who want).fine = false ∨ 6 < (outL v l who want).length then (v, l, [], 2) else (nextV v l who want, outL v l who want, [], 0)) w) := by
  have hmf : ∀ (fn : Fn) (first cap : Array Value) (w : World), (Instr.makeFunc fn first cap).run Tryz.prog w = .ok (.func fn first cap) w := fun _ _ _ _ => rfl
  obtain ⟨r0, hr0⟩ : ∃ r0, (if (nextV v l who want).fine = false ∨ 6 < (outL v l who want).length then (v, l, [], 2) else (nextV v l who want, outL v l who want, [], 0) : V × List Ow × List Cf × Int) = r0 := ⟨_, rfl⟩
  rw [hr0]
  have Hr0 := Lib.hid hr0
  clear hr0
  have Hin := Lib.hid (hin.mono (T := fun b => S b ∧ b < w.heap.size) (fun b h hl => ⟨h, hl⟩))
  have Hjn := Lib.hid (hjn.mono (T := fun b => S b ∧ b < w.heap.size) (fun b h hl => ⟨h, hl⟩))
  have Hkn := Lib.hid (hkn.mono (T := fun b => S b ∧ b < w.heap.size) (fun b h hl => ⟨h, hl⟩))
  have Hok := Lib.hid hok
  clear hin hjn hkn hok
  unfold formB at hb
  simp only [Bool.and_eq_true, decide_eq_true_eq] at hb
  obtain ⟨⟨⟨⟨⟨hf, hg⟩, h3⟩, h4⟩, hl⟩, hw⟩ := hb
  have hlen := owsSize_len l
  have hll := leaves_len want
  have Hgl := Lib.hid hl
  have Hfv := Lib.hid hf
  have Hf := Lib.hid hf
  have Hg := Lib.hid hg
  have Hl := Lib.hid hl
  have Hw := Lib.hid hw
  clear hf hg hl hw
  have h3n : (v.k != 5) = false := by simpa using h3
  have h4n : (want.k != 5) = false := by simpa using h4
  clear h3 h4
  obtain ⟨cs, hcs⟩ : ∃ cs, confL v l who want = cs := ⟨_, rfl⟩
  rw [hcs] at hnc
  have Hcs := Lib.hid hcs
  have hcase : (¬ (0 : Int) < (cs.length : Int)) ∨ ((0 : Int) < (cs.length : Int) ∧ force = true) := by
    by_cases h : cs = []
    · exact .inl (by rw [h]; simp)
    · exact .inr ⟨by have := List.length_pos_iff.2 h; omega, by cases force; exact absurd ⟨h, rfl⟩ hnc; rfl⟩
  have Hcase := Lib.hid hcase
  clear hnc hcs hcase
  go_enter Tryz.func15, Tryz.ntmps15
  go_upto_region 1 with fail
  refine gen_world (R := fun wx => Box wx w.heap.size #[.int .i64 v.k, .int .i64 v.n, .string v.s, .slice ka v.keys.length kc, .slice la v.l.length lc] 25 ∧ Box wx (w.heap.size + 1) #[.int .i64 want.k, .int .i64 want.n, .string want.s, .slice kb want.keys.length kd, .slice lb want.l.length ld] 25 ∧ Box wx (w.heap.size + 2) #[.int .i64 0, .int .i64 0, .string ⟨#[]⟩, .slice none 0 0, .slice none 0 0] 25 ∧ Ext w wx) ⟨Bxt, Bxt, Bxt, Xt⟩ ?_
  rintro wa ⟨hB0, hB1, hB2, hxa⟩
  have hza := hB2.lt
  have hc0 := hB0.cells; have hf0 := hB0.free; have hl0 := hB0.lt
  have hc1 := hB1.cells; have hf1 := hB1.free; have hl1 := hB1.lt
  go_wp2_with fail
  (refine (fine_any v ka kc la lc _ _ (by omega) (Hin.out.ext Xt)).mono ?_)
  rw [Hf.out]
  rintro e w1 ⟨rfl, h1_⟩
  have hB0 := Box.ext (w' := w1) Xt hB0
  have hB1 := Box.ext (w' := w1) Xt hB1
  have hB2 := Box.ext (w' := w1) Xt hB2
  have hx1_ : Ext w w1 := Xt
  clear h1_ hxa hc0 hf0 hl0 hc1 hf1 hl1
  have hc0 := hB0.cells; have hf0 := hB0.free; have hl0 := hB0.lt
  have hc1 := hB1.cells; have hf1 := hB1.free; have hl1 := hB1.lt
  go_wp2_with fail
  (refine (fine_any want kb kd lb ld _ _ (by omega) (Hkn.out.ext Xt)).mono ?_)
  rw [Hg.out]
  rintro e w2 ⟨rfl, h2_⟩
  have hB0 := Box.ext (w' := w2) Xt hB0
  have hB1 := Box.ext (w' := w2) Xt hB1
  have hB2 := Box.ext (w' := w2) Xt hB2
  have hx2_ : Ext w w2 := Xt
  clear h2_ hx1_ hc0 hf0 hl0 hc1 hf1 hl1
  have hc0 := hB0.cells; have hf0 := hB0.free; have hl0 := hB0.lt
  have hc1 := hB1.cells; have hf1 := hB1.free; have hl1 := hB1.lt
  go_wp2_with fail
  (refine (goodO_any l a c _ _ hlz (Hjn.out.ext Xt) (hm.ext Xt)).mono ?_)
  rw [Hl.out]
  rintro e w3 ⟨rfl, h3_⟩
  have hB0 := Box.ext (w' := w3) Xt hB0
  have hB1 := Box.ext (w' := w3) Xt hB1
  have hB2 := Box.ext (w' := w3) Xt hB2
  have hx3_ : Ext w w3 := Xt
  clear h3_ hx2_ hc0 hf0 hl0 hc1 hf1 hl1
  have hc0 := hB0.cells; have hf0 := hB0.free; have hl0 := hB0.lt
  have hc1 := hB1.cells; have hf1 := hB1.free; have hl1 := hB1.lt
  go_wp2_with fail
  (refine (named_any who _ hhz).mono ?_)
  rw [Hw.out]
  rintro e wn ⟨rfl, rfl⟩
  clear hc0 hf0 hl0 hc1 hf1 hl1
  have hc0 := hB0.cells; have hf0 := hB0.free; have hl0 := hB0.lt
  have hc1 := hB1.cells; have hf1 := hB1.free; have hl1 := hB1.lt
  have hz2 := hB2.lt
  go_wp2_with fail
  (refine (conflicts_any v ka kc la lc _ l a c _ who want kb kd lb ld _ _ hvz hwz hlz (Hin.out.ext Xt) (Hjn.out.ext Xt) (Hkn.out.ext Xt) (hm.ext Xt)).mono ?_)
  rw [Hcs.out]
  rintro e w9 ⟨a9, c9, rfl, hok9, hcf9, h9⟩
  have hB0 := Box.ext (w' := w9) Xt hB0
  have hB1 := Box.ext (w' := w9) Xt hB1
  have hB2 := Box.ext (w' := w9) Xt hB2
  have hx9 : Ext w w9 := Xt
  clear h9 hx3_ hc0 hf0 hl0 hc1 hf1 hl1 hcf9 hok9 hz2
  go_upto_region 4 with fail
  go_cut [74] (fun s wx => s = .bool false ∧ w9 = wx)
  case first =>
    rcases Hcase.out with h | ⟨h, h'⟩
    · go_wp2_with fail
      go_meet
      exact ⟨rfl, rfl⟩
    · subst h'
      go_wp2_with fail
      go_meet
      exact ⟨rfl, rfl⟩
  case rest =>
    obtain ⟨hs, rfl⟩ := hcut
    subst hs
    clear Hcase
    have hB2lt := hB2.lt
    have hc1 := hB1.cells; have hf1 := hB1.free; have hl1 := hB1.lt
    go_wp2_with fail
    (refine (leavesO_any want kb kd lb ld _ _ (by omega) (Hkn.out.ext Xt) (hm.ext Xt)).mono ?_)
    rintro e w10 ⟨pa, pc, rfl, hpok, hpst, h10⟩
    have hB0 := Box.ext (w' := w10) Xt hB0
    have hB1 := Box.ext (w' := w10) Xt hB1
    have hB2 := Box.ext (w' := w10) Xt hB2
    have hx10 : Ext w w10 := Xt
    have Hpst := Lib.hid (hpst.keep (T := fun b => w.heap.size + 3 ≤ b) (fun _ _ _ => rfl) (fun b h _ => by have := hB2lt; (try simp at h); omega))
    clear h10 hx9 hc1 hf1 hl1 hpst
    go_upto_region 9 with fail
    refine gen_world (R := fun wx => Box wx w.heap.size #[.int .i64 v.k, .int .i64 v.n, .string v.s, .slice ka v.keys.length kc, .slice la v.l.length lc] 25 ∧ Box wx (w.heap.size + 1) #[.int .i64 want.k, .int .i64 want.n, .string want.s, .slice kb want.keys.length kd, .slice lb want.l.length ld] 25 ∧ Box wx (w.heap.size + 2) #[.int .i64 0, .int .i64 0, .string ⟨#[]⟩, .slice none 0 0, .slice none 0 0] 25 ∧ Ext w10 wx) ⟨Bxt, Bxt, Bxt, Xt⟩ ?_
    clear hB0 hB1 hB2
    rintro wb ⟨hB0, hB1, hB2, hxb⟩
    have hxw : Ext w wb := hx10.trans hxb
    have Hpst := Lib.hid (Hpst.out.ext hxb)
    have hzb := hB2.lt
    have hmb := hm.ext hxw
    clear hx10 hxb
    go_wp2_with fail
    go_loopg [16, 17, 82] l.length (fun g s16 s17 i wr => ∃ (k : Nat) (a' : Option Addr) (c' : Nat) (os : List Ow) (ao : Option Addr) (co : Nat) (ol : List ByteArray), k ≤ l.length ∧ i = .int .i64 k ∧ g = l.length - k ∧ s16 = .slice a' os.length c' ∧ s17 = .slice ao ol.length co ∧
      os = othersL v want who (l.take k) ∧ ol = oldL who (l.take k) ∧ OwnOw wr wb.heap.size (fun _ => False) (.slice a' os.length c') os.length os ∧ SlOk ao ol.length co ∧ StrsIn wb (fun b => S b ∧ b < w.heap.size) ao ol ∧ Ext wb wr)
    case atStart => exact ⟨0, none, 0, [], none, 0, [], Nat.zero_le _, rfl, rfl, rfl, rfl, rfl, rfl, OwnOw.nil _ _ _, SlOk.nil, .inl rfl, Xt⟩
    case round =>
      obtain ⟨wo, rfl⟩ : ∃ x, x = wr := ⟨_, rfl⟩
      obtain ⟨k, a', c', os, ao, co, ol, hk, rfl, rfl, rfl, rfl, hos, hol, hO, hao, hast, hx⟩ := hrel
      have hosl : os.length ≤ l.length := by
        rw [hos]
        have := others_len v want who (l.take k)
        simp at this; omega
      have Hos := Lib.hid hos
      have Hol := Lib.hid hol
      have HO := Lib.hid hO
      have Hast := Lib.hid hast
      have hzx := hx.size
      have hxwo : Ext w wo := hxw.trans hx
      clear hos hol hO hast
      by_cases hlt : k < l.length
      · obtain ⟨b, o, rfl, hSb, qa, qc, d0, d1, hsl, hst⟩ := (Hjn.out.ext hxw).item hlt
        have d0 := hx.cell d0
        have d1 := hx.cell d1
        have hoz := owsSize_mem (List.getElem_mem hlt)
        have hpl := Ow.len_paths l[k]
        have Hpz := Lib.hid (fun (x : ByteArray) (h : x ∈ (l[k]).paths) => show x.size ≤ 2097152 from by have := Ow.len_path h; omega)
        have Htk := Lib.hid (others_take v want who l hlt)
        have Htl := Lib.hid (old_take who l hlt)
        obtain ⟨ow, how⟩ : ∃ ow, l[k] = ow := ⟨_, rfl⟩
        rw [how] at d0 d1 hsl hst hpl Hpz Htk Htl hoz
        have Hst := Lib.hid hst
        clear how hst
        by_cases hnw : ow.name = who
        · have hnb := eqb_of hnw
          have Hnext := Lib.hid (show os = othersL v want who (l.take (k + 1)) by rw [Htk.out, if_pos hnw, Hos.out, List.append_nil])
          have Hnold := Lib.hid (show ow.paths = oldL who (l.take (k + 1)) by rw [Htl.out, if_pos hnw])
          clear hnw
          go_wp2_with fail
          go_roundg (l.length - (k + 1))
          case measure => omega
          case rel => exact ⟨k + 1, a', c', os, qa, qc, ow.paths, by omega, by go_num, rfl, rfl, rfl, Hnext.out, Hnold.out, HO.out.ext Xt, hsl, Hst.out, Xt⟩
        · have hnb := neb_of hnw
          have Hnold := Lib.hid (show ol = oldL who (l.take (k + 1)) by rw [Htl.out, if_neg hnw, Hol.out])
          rw [if_neg hnw] at Htk
          clear hnw
          go_upto_region 14 with fail
          refine gen_world (R := fun wx => Box wx wo.heap.size #[.string ow.name, .slice qa ow.paths.length qc] 42 ∧ Ext wo wx) ⟨Bxt, Xt⟩ ?_
          rintro wq ⟨hB7, hxb⟩
          have hxbq : Ext wb wq := hx.trans hxb
          have hxwq : Ext w wq := hxw.trans hxbq
          have hBv := Box.ext hxbq hB0
          have hBw := Box.ext hxbq hB1
          have hzq := hxb.size
          have hz7 := hB7.lt
          have hc7 := hB7.cells; have hf7 := hB7.free; have hl7 := hB7.lt
          go_wp2_with fail
          (refine (cloneS_any ow.paths qa _ qc _ _ rfl hsl (by omega) (Hst.out.ext Xt)).mono ?_)
          rintro e w3 ⟨a3, c3, rfl, hok3, HS3, h3⟩
          have HS3 : OwnS w3 wq.heap.size (.slice a3 ow.paths.length c3) ow.paths.length ow.paths := by simpa using HS3
          have hx3 : Ext wq w3 := Xt
          have hB73 := Box.ext hx3 hB7
          have hGv : GivesS 49 #[.pointer (some ⟨w.heap.size, 0, none⟩), .pointer (some ⟨w.heap.size + 1, 0, none⟩)] (wayB v want) ow.paths wq :=
            ⟨enters_of Tryz.func49 (by kernel_rfl) rfl, fun W x hx e => apply1_any v ka kc la lc _ want kb kd lb ld _ w.heap.size (w.heap.size + 1) x W hvz hwz (Box.ext e hBv) (Box.ext e hBw) (Hin.out.ext (hxwq.trans e)) (Hkn.out.ext (hxwq.trans e)) (by have := Hpz.out x hx; omega) (hm.ext (hxwq.trans e))⟩
          clear hc7 hf7 hl7 h3
          have hc7 := hB73.cells; have hf7 := hB73.free; have hl7 := hB73.lt
          go_wp2_with fail
          (refine (delF_any ow.paths a3 _ c3 49 _ _ wq _ (HS3.ext Xt) (by omega) (by exact Xt) hGv).mono ?_)
          obtain ⟨ps, hps⟩ : ∃ ps, (ow.paths.filter fun x => !wayB v want x) = ps := ⟨_, rfl⟩
          have Hps := Lib.hid hps
          have hpsl : ps.length ≤ ow.paths.length := by rw [← hps]; exact List.length_filter_le _ _
          rw [hps]
          rintro e w4 ⟨rfl, HS4, h4⟩
          have hB74 := Box.ext h4 hB7
          have hz4 := h4.size
          have hx4 : Ext wo w4 := hxb.trans h4
          have HS4' := Lib.hid HS4
          clear hc7 hf7 hl7 hGv HS3 hB73 hx3 hps HS4
          have hc7 := hB74.cells; have hf7 := hB74.free; have hl7 := hB74.lt
          go_upto_region 15 with fail
          refine gen_world (R := fun wx => Box wx wo.heap.size #[.string ow.name, .slice a3 ps.length c3] 42 ∧ OwnS wx wq.heap.size (.slice a3 ps.length c3) ps.length ps ∧ Ext wo wx) ⟨Bxt, HS4'.out.keep (fun b hb he => Below.heap_setCell _ _ _ _ (by have := (HS4'.out.lt b he).1; simp; omega)), Xt⟩ ?_
          clear hB74 hB7 hc7 hf7 hl7 HS4' hx4 h4
          rintro wc ⟨hB7, HS5, hxc⟩
          have HS5 := Lib.hid HS5
          have hxac : Ext wb wc := hx.trans hxc
          have hzc := hxc.size
          have hc7 := hB7.cells; have hf7 := hB7.free; have hl7 := hB7.lt
          by_cases hpe : ps = []
          · have hp0 : ¬ (0 : Int) < (ps.length : Int) := by rw [hpe]; simp
            have Hnext := Lib.hid (show os = othersL v want who (l.take (k + 1)) by
              rw [Htk.out, Hos.out]
              unfold keepO
              rw [Hps.out, if_pos hpe]
              exact (List.append_nil _).symm)
            clear hpe
            go_wp2_with fail
            go_roundg (l.length - (k + 1))
            case measure => omega
            case rel => exact ⟨k + 1, a', c', os, ao, co, ol, by omega, by go_num, rfl, rfl, rfl, Hnext.out, Hnold.out, HO.out.ext Xt, hao, Hast.out, Xt⟩
          · have hp0 : (0 : Int) < (ps.length : Int) := by have := List.length_pos_iff.2 hpe; omega
            have Hnext := Lib.hid (show os ++ [⟨ow.name, ps⟩] = othersL v want who (l.take (k + 1)) by
              rw [Htk.out, Hos.out]
              unfold keepO
              rw [Hps.out, if_neg hpe])
            have hlo := HO.out.2
            have hown : ∀ q, (Value.slice a' os.length c').ownBlock = some q → q < wo.heap.size := by obtain ⟨xs, h1, -⟩ := hlo; exact fun q hq => (h1.lt q hq).2
            clear hpe hlo
            obtain ⟨a5, c5, he5, hok5, -, hst5⟩ := HS5.out.strs
            simp only [Value.slice.injEq, true_and] at he5
            obtain ⟨rfl, rfl⟩ := he5
            have Hfoot := Lib.hid (hst5.keep (T := Foot wb.heap.size (fun _ => False) (.slice a' os.length c')) (fun _ _ _ => rfl) (fun q hq _ => .inr ⟨by omega, fun e => by have := hown q e; omega⟩))
            clear hst5 HS5
            go_wp2_with (at_builtin; refine wpl_ow (x := ⟨ow.name, ps⟩) (by rfl) wc.heap.size (by rfl) (by rfl) (by rfl) (HO.out.ext Xt) hok5 (Hfoot.out.ext Xt) Bxt (by omega) (by simp; omega) ?_; intro g6 cap6 w6 hO6 hg6 hgb6; have HO6 := Lib.hid hO6; clear hO6)
            have hx6 : Ext wb w6 := Ext.grown (b := wc.alloc _) Xt hg6 hgb6
            go_roundg (l.length - (k + 1))
            case measure => omega
            case rel => exact ⟨k + 1, _, _, os ++ [⟨ow.name, ps⟩], ao, co, ol, by omega, by go_num, rfl, by rw [List.length_append]; rfl, rfl, Hnext.out, Hnold.out, by rw [List.length_append]; exact HO6.out.ext Xt, hao, Hast.out, Xt⟩
      · have Hos := Lib.hid (show os = othersL v want who l by rw [Hos.out, List.take_of_length_le (by omega)])
        have Hol := Lib.hid (show ol = oldL who l by rw [Hol.out, List.take_of_length_le (by omega)])
        have Holm := Lib.hid (fun (p : ByteArray) (h : p ∈ ol) => oldL_mem (who := who) (l := l) (by rw [← Hol.out]; exact h))
        have hoz : ∀ o ∈ os, o.size ≤ 2097152 := fun o ho => by have := others_size (v := v) (want := want) (who := who) (l := l) (by rw [← Hos.out]; exact ho); omega
        have Hoz := Lib.hid hoz
        obtain ⟨ar, cr, her, hokr, -, hor⟩ := HO.out.rows
        simp only [Value.slice.injEq, true_and] at her
        obtain ⟨rfl, rfl⟩ := her
        have Hor := Lib.hid (hor.mono (T := fun b => wb.heap.size ≤ b) (fun b h _ => by rcases h with h | h; exact h.2.elim; exact h))
        have holz : ol.length ≤ 2097152 := by
          by_cases h : ol = []
          · rw [h]; simp
          · obtain ⟨p, hp⟩ := List.exists_mem_of_ne_nil _ h
            have : ∀ (l : List Ow) (x : List ByteArray), x.length ≤ 2097152 → owsSize l ≤ 2097152 → (l.foldl (fun old o => if o.name = who then o.paths else old) x).length ≤ 2097152 := by
              intro l
              induction l with
              | nil => intro x hx _; exact hx
              | cons o r ih =>
                intro x hx hz
                have h1 : o.size ≤ owsSize (o :: r) := owsSize_mem (by simp)
                have h2 := o.len_paths
                have h3 : owsSize r ≤ owsSize (o :: r) := by unfold owsSize; simp
                rw [List.foldl_cons]
                refine ih _ ?_ (by omega)
                split
                · omega
                · exact hx
            rw [Hol.out]
            exact this l [] (by simp) hlz
        have hB0 := Box.ext hx hB0
        have hB1 := Box.ext hx hB1
        have hB2 := Box.ext hx hB2
        clear hoz hor
        have hc0 := hB0.cells; have hf0 := hB0.free; have hl0 := hB0.lt
        go_upto_region 19 with fail
        refine gen_world (R := fun wx => Box wx wo.heap.size #[.int .i64 v.k, .int .i64 v.n, .string v.s, .slice ka v.keys.length kc, .slice la v.l.length lc] 25 ∧ Ext wo wx) ⟨Bxt, Xt⟩ ?_
        clear hc0 hf0 hl0
        rintro wd ⟨hB20, hxd⟩
        have Hn0 := Lib.hid (show v.In wd (fun b => (S b ∧ b < w.heap.size) ∨ wo.heap.size < b) ka kc la lc from ((Hin.out.ext hxwo).mono (fun b h _ => .inl h)).ext hxd)
        have hxbd : Ext wb wd := hx.trans hxd
        go_wp2_with fail
        go_loopg [110] ol.length (fun g i wr => ∃ (j : Nat) (nx : V) (k5 : Option Addr) (c5 : Nat) (l5 : Option Addr) (d5 : Nat), j ≤ ol.length ∧ i = .int .i64 j ∧ g = ol.length - j ∧ nx = (ol.take j).foldl (dropStep want.leaves os) v ∧ Box wr wo.heap.size #[.int .i64 nx.k, .int .i64 nx.n, .string nx.s, .slice k5 nx.keys.length c5, .slice l5 nx.l.length d5] 25 ∧ nx.In wr (fun b => (S b ∧ b < w.heap.size) ∨ wo.heap.size < b) k5 c5 l5 d5 ∧ Ext wo wr)
        case atStart => exact ⟨0, v, ka, kc, la, lc, Nat.zero_le _, rfl, rfl, rfl, Bxt, Hn0.out.ext Xt, Xt⟩
        case round =>
          obtain ⟨wi, rfl⟩ : ∃ x, x = wr := ⟨_, rfl⟩
          clear hB20 Hn0 hxd hxbd
          obtain ⟨j, nx, k5, c5, l5, d5, hj, rfl, rfl, hnx, hB20, hnin, hxi⟩ := hrel
          have hbd := drops_ok Hfv.out want.leaves os (ol.take j)
          rw [← hnx] at hbd
          obtain ⟨hns, hncn⟩ := hbd
          have hnz := sound_bound hns (by omega)
          have Hns := Lib.hid hns
          have Hnx := Lib.hid hnx
          have Hnin := Lib.hid hnin
          have hxbi : Ext wb wi := hx.trans hxi
          have hxwi : Ext w wi := hxw.trans hxbi
          have hzi := hB20.lt
          clear hnx hnin hns
          by_cases hlt2 : j < ol.length
          · obtain ⟨b2, o2, rfl, hS2, hC2⟩ := (Hast.out.ext hxbi).resolve_left (by intro h; rw [h] at hlt2; simp at hlt2)
            have e0 := hC2 j hlt2
            have Hpm := Lib.hid (Holm.out _ (List.getElem_mem hlt2))
            have Hft := Lib.hid (fold_take (dropStep want.leaves os) v ol hlt2)
            obtain ⟨p, hp⟩ : ∃ p, ol[j] = p := ⟨_, rfl⟩
            rw [hp] at e0 Hpm Hft
            have hpz : p.size ≤ 2097152 := by obtain ⟨o', ho', hp'⟩ := Hpm.out; have := owsSize_mem ho'; have := Ow.len_path hp'; omega
            clear hp hC2
            go_upto_region 22 with fail
            refine gen_world (R := fun wx => Box wx wi.heap.size #[.string p] 9 ∧ Ext wi wx) ⟨Bxt, Xt⟩ ?_
            rintro we ⟨hB22, hxe⟩
            have hB20 := Box.ext hxe hB20
            have Hnin := Lib.hid (V.In.ext Hnin.out hxe)
            have hxbe : Ext wb we := hxbi.trans hxe
            have hxoe : Ext wo we := hxi.trans hxe
            have hc22 := hB22.cells; have hf22 := hB22.free; have hl22 := hB22.lt
            go_wp2_with fail
            (refine (containsS_any want.leaves p pa _ pc _ _ rfl (by omega) (Hpst.out.ext (w' := we) hxbe |>.ext Xt)).mono ?_)
            cases hcn : inB want.leaves p with
            | true =>
              have Hnext := Lib.hid (show nx = (ol.take (j + 1)).foldl (dropStep want.leaves os) v by
                rw [Hft.out, ← Hnx.out]; unfold dropStep; rw [if_neg (by rw [hcn]; simp)])
              rintro e w2 ⟨rfl, rfl⟩
              go_wp2_with fail
              go_roundg (ol.length - (j + 1))
              case measure => omega
              case rel => exact ⟨j + 1, nx, k5, c5, l5, d5, by omega, by go_num, rfl, Hnext.out, Bxt, Hnin.out.ext Xt, Xt⟩
            | false =>
              have Hcn := Lib.hid hcn
              rintro e w2 ⟨rfl, rfl⟩
              clear hcn
              go_wp2_with fail
              (refine (heldO_any os p a' _ c' wi.heap.size _ _ rfl (by omega) Hoz.out ((Hor.out.ext hxoe).ext Xt) (Box.ext (w := we) Xt hB22) (by omega)).mono ?_)
              cases hhn : heldB os p with
              | true =>
                have Hnext := Lib.hid (show nx = (ol.take (j + 1)).foldl (dropStep want.leaves os) v by
                  rw [Hft.out, ← Hnx.out]; unfold dropStep; rw [if_neg (by rw [hhn]; simp)])
                rintro e w2 ⟨rfl, h2⟩
                have hB202 := Box.ext (w' := w2) Xt hB20
                have hxo2 : Ext wo w2 := Xt
                have Hnin := Lib.hid (V.In.ext (w' := w2) Hnin.out Xt)
                clear h2 hc22 hf22 hl22
                go_wp2_with fail
                go_roundg (ol.length - (j + 1))
                case measure => omega
                case rel => exact ⟨j + 1, nx, k5, c5, l5, d5, by omega, by go_num, rfl, Hnext.out, Bxt, Hnin.out.ext Xt, Xt⟩
              | false =>
                have Hnext := Lib.hid (show dropV (namesD p) nx = (ol.take (j + 1)).foldl (dropStep want.leaves os) v by
                  rw [Hft.out, ← Hnx.out]; unfold dropStep; rw [if_pos ⟨Hcn.out, hhn⟩])
                rintro e w2 ⟨rfl, h2⟩
                have hB202 := Box.ext (w' := w2) Xt hB20
                have hB222 := Box.ext (w' := w2) Xt hB22
                have hxo2 : Ext wo w2 := Xt
                have Hnin := Lib.hid (V.In.ext (w' := w2) Hnin.out Xt)
                have hxw2 : Ext w w2 := hxwo.trans hxo2
                clear h2 hc22 hf22 hl22 hhn hB20 hB22
                have hc22 := hB222.cells; have hf22 := hB222.free; have hl22 := hB222.lt
                go_wp2_with fail
                (refine (splitD_any p _ (by omega) (hm.ext Xt)).mono ?_)
                obtain ⟨er, her⟩ : ∃ er : Int, (if (namesB p).isSome = true then (0 : Int) else 1) = er := ⟨_, rfl⟩
                rintro e w3 ⟨na, nc, rfl, hsln, hstn, h3⟩
                rw [her]
                have hne : namesD p ≠ [] := by
                  obtain ⟨o', ho', hp'⟩ := Hpm.out
                  obtain ⟨r, hr, hr2⟩ := goodOws_path Hgl.out ho' hp'
                  unfold namesD
                  rw [hr]; exact hr2
                have hnn := (namesD_small p).1
                obtain ⟨nb, no, rfl, hSn, hCn⟩ := hstn.resolve_left hne
                have hB203 := Box.ext (w' := w3) Xt hB202
                have hxo3 : Ext wo w3 := Xt
                have Hnin := Lib.hid (V.In.ext (w' := w3) Hnin.out Xt)
                have Hne := Lib.hid hne
                have HCn := Lib.hid hCn
                have hz3 := hB203.lt
                clear h3 hc22 hf22 hl22 hB202 hB222 her hstn hne hCn
                have hc20 := hB203.cells; have hf20 := hB203.free; have hl20 := hB203.lt
                go_wp2_with fail
                (refine (drop_any (namesD p) nx k5 c5 l5 d5 nb no _ nc (fun b => (S b ∧ b < w.heap.size) ∨ wo.heap.size < b) _ Hne.out rfl Hns.out (by omega) (by omega) hsln.1 hsln.2.1 (fun i h => Ext.cell (a := w3) Xt (HCn.out i h)) (Hnin.out.ext Xt)).mono ?_)
                rintro e w4 ⟨k6, c6, l6, d6, rfl, hin6, h4⟩
                have hB204 := Box.ext (w' := w4) Xt hB203
                have hxo4 : Ext wo w4 := Xt
                have hzo := hxwo.size
                have Hin6 := Lib.hid (V.In.mono (T := (fun b => (S b ∧ b < w.heap.size) ∨ wo.heap.size < b)) hin6 (fun b h _ => by rcases h with h | h; exact h; (try simp at h); exact .inr (by omega)))
                clear h4 hc20 hf20 hl20 hB203 hin6
                have hc20 := hB204.cells; have hf20 := hB204.free; have hl20 := hB204.lt
                go_wp2_with fail
                go_roundg (ol.length - (j + 1))
                case measure => omega
                case rel => exact ⟨j + 1, _, k6, c6, l6, d6, by omega, by go_num, rfl, Hnext.out, Bxt, V.In.keep (S := (fun b => (S b ∧ b < w.heap.size) ∨ wo.heap.size < b)) Hin6.out (Held.kept (a := w4) (T := (fun b => (S b ∧ b < w.heap.size) ∨ wo.heap.size < b)) Hxt) (fun b h _ => h), Xt⟩
          · have Hn1 := Lib.hid (show nx = ol.foldl (dropStep want.leaves os) v by rw [Hnx.out, List.take_of_length_le (by omega)])
            obtain ⟨n0, hn0⟩ : ∃ n0, nx = n0 := ⟨_, rfl⟩
            go_wp2_with fail
            go_loopg [135] want.leaves.length (fun g i wr => ∃ (j : Nat) (ny : V) (k5 : Option Addr) (c5 : Nat) (l5 : Option Addr) (d5 : Nat), j ≤ want.leaves.length ∧ i = .int .i64 j ∧ g = want.leaves.length - j ∧ ny = (want.leaves.take j).foldl (setStep want) nx ∧ Box wr wo.heap.size #[.int .i64 ny.k, .int .i64 ny.n, .string ny.s, .slice k5 ny.keys.length c5, .slice l5 ny.l.length d5] 25 ∧ ny.In wr (fun b => (S b ∧ b < w.heap.size) ∨ wo.heap.size < b) k5 c5 l5 d5 ∧ Ext wo wr)
            case atStart => exact ⟨0, nx, k5, c5, l5, d5, Nat.zero_le _, rfl, rfl, rfl, Bxt, Hnin.out.ext Xt, Xt⟩
            case round =>
              obtain ⟨ws, rfl⟩ : ∃ x, x = wr := ⟨_, rfl⟩
              clear hB20 Hnin
              obtain ⟨q, ny, k7, c7, l7, d7, hq, rfl, rfl, hny, hB20, hyin, hxs⟩ := hrel
              have hbd := sets_ok (want := want) Hns.out hncn q
              rw [← hny] at hbd
              obtain ⟨hys, hycn⟩ := hbd
              have hyz := sound_bound hys hycn
              have Hys := Lib.hid hys
              have Hny := Lib.hid hny
              have Hyin := Lib.hid hyin
              have hxbs : Ext wb ws := hx.trans hxs
              have hxws : Ext w ws := hxw.trans hxbs
              have hzs := hB20.lt
              have hzo := hxwo.size
              have hB1s := Box.ext hxs hB1
              clear hny hyin hys
              by_cases hlt3 : q < want.leaves.length
              · obtain ⟨b3, o3, rfl, hS3, hC3⟩ := (Hpst.out.ext hxbs).resolve_left (by intro h; rw [h] at hlt3; simp at hlt3)
                have e0 := hC3 q hlt3
                have Hpm := Lib.hid (List.getElem_mem hlt3)
                have Hft := Lib.hid (fold_take (setStep want) nx want.leaves hlt3)
                obtain ⟨p, hp⟩ : ∃ p, want.leaves[q] = p := ⟨_, rfl⟩
                rw [hp] at e0 Hpm Hft
                have hpz := leaf_size Hpm.out
                have Hlf := Lib.hid (leaf_names Hpm.out)
                have Hnext := Lib.hid (show setV (namesD p) ny ((findV want p).getD V.zero) = (want.leaves.take (q + 1)).foldl (setStep want) nx by rw [Hft.out, ← Hny.out]; rfl)
                have hxz : ((findV want p).getD V.zero).size ≤ 1073741824 := by have := findV_size (x := want) (p := p); omega
                obtain ⟨xv, hxv⟩ : ∃ xv, (findV want p).getD V.zero = xv := ⟨_, rfl⟩
                obtain ⟨xb, hxb⟩ : ∃ xb, (findV want p).isSome = xb := ⟨_, rfl⟩
                rw [hxv] at hxz Hnext
                have Hxv := Lib.hid hxv
                have Hxb := Lib.hid hxb
                clear hp hC3 hxv hxb
                go_wp2_with fail
                (refine (splitD_any p _ (by omega) (hm.ext Xt)).mono ?_)
                obtain ⟨er, her⟩ : ∃ er : Int, (if (namesB p).isSome = true then (0 : Int) else 1) = er := ⟨_, rfl⟩
                rintro e w3 ⟨na, nc, rfl, hsln, hstn, h3⟩
                rw [her]
                obtain ⟨nb, no, rfl, hSn, hCn⟩ := hstn.resolve_left Hlf.out.1
                have hnn := Hlf.out.2.1
                have hB203 := Box.ext (w' := w3) Xt hB20
                have hB13 := Box.ext (w' := w3) Xt hB1s
                have hxo3 : Ext wo w3 := Xt
                have hxw3 : Ext w w3 := hxwo.trans hxo3
                have Hyin := Lib.hid (V.In.ext (w' := w3) Hyin.out Xt)
                have HCn := Lib.hid hCn
                clear h3 her hstn hCn hB20 hB1s
                have hc1 := hB13.cells; have hf1 := hB13.free; have hl1 := hB13.lt
                have hz13 := hB203.lt
                go_wp2_with fail
                (refine (find_any want kb kd lb ld _ p _ (by omega) (Hkn.out.ext Xt) (by omega) (hm.ext Xt)).mono ?_)
                rw [Hxv.out, Hxb.out]
                rintro e w4 ⟨k8, c8, l8, d8, rfl, hin8, h4⟩
                have hB204 := Box.ext (w' := w4) Xt hB203
                have hx34 : Ext w3 w4 := Xt
                have hxo4 : Ext wo w4 := hxo3.trans hx34
                have Hin8 := Lib.hid (V.In.mono (T := (fun b => (S b ∧ b < w.heap.size) ∨ wo.heap.size < b)) hin8 (fun b h _ => by rcases h with h | h; exact .inl h; (try simp at h); exact .inr (by omega)))
                have Hyin := Lib.hid (V.In.ext (w' := w4) Hyin.out Xt)
                have hz4 := hB204.lt
                clear h4 hc1 hf1 hl1 hB203 hB13 hin8
                go_upto_region 31 with fail
                refine gen_world (R := fun wx => Box wx w4.heap.size #[.int .i64 xv.k, .int .i64 xv.n, .string xv.s, .slice k8 xv.keys.length c8, .slice l8 xv.l.length d8] 25 ∧ Ext w4 wx) ⟨Bxt, Xt⟩ ?_
                rintro w5 ⟨hB29, hx45⟩
                have hB205 := Box.ext hx45 hB204
                have Hin8 := Lib.hid (V.In.ext Hin8.out hx45)
                have Hyin := Lib.hid (V.In.ext Hyin.out hx45)
                have hx35 : Ext w3 w5 := hx34.trans hx45
                have hxo5 : Ext wo w5 := hxo4.trans hx45
                have hz5 := hB205.lt
                clear hB204 hx45
                have hc29 := hB29.cells; have hf29 := hB29.free; have hl29 := hB29.lt
                have hc20 := hB205.cells; have hf20 := hB205.free; have hl20 := hB205.lt
                go_wp2_with fail
                (refine (set_any (namesD p) ny xv k7 c7 l7 d7 k8 c8 l8 d8 nb no _ nc (fun b => (S b ∧ b < w.heap.size) ∨ wo.heap.size < b) _ Hlf.out.1 rfl Hys.out (by omega) hxz (by omega) hsln.1 hsln.2.1 (fun i h => Ext.cell (a := w3) (hx35.trans Xt) (HCn.out i h)) (Hyin.out.ext Xt) (Hin8.out.ext Xt)).mono ?_)
                rintro e w6 ⟨k6, c6, l6, d6, rfl, hin6, h6⟩
                have hB206 := Box.ext (w' := w6) Xt hB205
                have hxo6 : Ext wo w6 := Xt
                have Hin6 := Lib.hid (V.In.mono (T := (fun b => (S b ∧ b < w.heap.size) ∨ wo.heap.size < b)) hin6 (fun b h _ => by rcases h with h | h; exact h; (try simp at h); exact .inr (by omega)))
                clear h6 hc20 hf20 hl20 hc29 hf29 hl29 hB205 hin6
                have hc20 := hB206.cells; have hf20 := hB206.free; have hl20 := hB206.lt
                go_wp2_with fail
                go_roundg (want.leaves.length - (q + 1))
                case measure => omega
                case rel => exact ⟨q + 1, _, k6, c6, l6, d6, by omega, by go_num, rfl, Hnext.out, Bxt, V.In.keep (S := (fun b => (S b ∧ b < w.heap.size) ∨ wo.heap.size < b)) Hin6.out (Held.kept (a := w6) (T := (fun b => (S b ∧ b < w.heap.size) ∨ wo.heap.size < b)) Hxt) (fun b h _ => h), Xt⟩
              · have Hny := Lib.hid (show ny = nextV v l who want by
                  rw [Hny.out, List.take_of_length_le (by omega), Hn1.out, Hol.out, Hos.out]; rfl)
                have Hout := Lib.hid (show outL v l who want = insO os who want.leaves by unfold outL; rw [← Hos.out])
                rw [← Hny.out, Hout.out] at Hr0
                have hrs : Rises (os.map Ow.name) := by rw [Hos.out]; exact others_rises (goodOws_rises Hgl.out)
                have Hrs := Lib.hid hrs
                have hB0s := Box.ext hxs hB0
                have hB2s := Box.ext hxs hB2
                clear hrs hB1s
                go_upto_if 157 with fail
                go_cut [16] (fun s16 wx => ∃ (a6 : Option Addr) (c6 : Nat), s16 = .slice a6 (insO os who want.leaves).length c6 ∧ SlOk a6 (insO os who want.leaves).length c6 ∧ OwsIn wx (fun b => w.heap.size ≤ b ∧ b ≠ w.heap.size + 2) (insO os who want.leaves) a6 ∧ Box wx wo.heap.size #[.int .i64 ny.k, .int .i64 ny.n, .string ny.s, .slice k7 ny.keys.length c7, .slice l7 ny.l.length d7] 25 ∧ ny.In wx (fun b => (S b ∧ b < w.heap.size) ∨ wo.heap.size < b) k7 c7 l7 d7 ∧ Box wx w.heap.size #[.int .i64 v.k, .int .i64 v.n, .string v.s, .slice ka v.keys.length kc, .slice la v.l.length lc] 25 ∧ Box wx (w.heap.size + 2) #[.int .i64 0, .int .i64 0, .string ⟨#[]⟩, .slice none 0 0, .slice none 0 0] 25 ∧ Ext wb wx)
                case first =>
                  by_cases hpe : want.leaves = []
                  · have hp0 : ¬ (0 : Int) < (want.leaves.length : Int) := by rw [hpe]; simp
                    have Hio := Lib.hid (show insO os who want.leaves = os by unfold insO; rw [if_pos hpe])
                    clear hpe
                    go_wp2_with fail
                    go_meet
                    exact ⟨a', c', by rw [Hio.out], by rw [Hio.out]; exact hokr, by rw [Hio.out]; exact ((Hor.out.mono (T := fun b => w.heap.size ≤ b ∧ b ≠ w.heap.size + 2) (fun b h _ => by omega)).ext hxs).ext Xt, Bxt, Hyin.out.ext Xt, Bxt, Bxt, Xt⟩
                  · have hp0 : (0 : Int) < (want.leaves.length : Int) := by have := List.length_pos_iff.2 hpe; omega
                    have Hio := Lib.hid (show insO os who want.leaves = os.take (posO os who) ++ ⟨who, want.leaves⟩ :: os.drop (posO os who) by unfold insO; rw [if_neg hpe])
                    have hil : (insO os who want.leaves).length = os.length + 1 := by rw [insO_len, if_neg hpe]
                    have hpo : posO os who ≤ os.length := by have := posOf_le (os.map Ow.name) who; simpa [posO] using this
                    clear hpe
                    go_wp2_with fail
                    (refine (bsO_any os who a' _ c' _ _ rfl (by omega) Hrs.out ((Hor.out.ext hxs).ext Xt)).mono ?_)
                    rintro e w11 ⟨fb, rfl, h11⟩
                    have hx11 : Ext ws w11 := Xt
                    have hxo11 : Ext wo w11 := hxs.trans hx11
                    have HO11 := Lib.hid (HO.out.ext hxo11)
                    have hz11 := hxo11.size
                    clear h11
                    obtain ⟨hl0, xs, hI1, hI2⟩ := HO11.out
                    have hown : ∀ q, (Value.slice a' os.length c').ownBlock = some q → wb.heap.size ≤ q ∧ q < w11.heap.size := fun q hq => hI1.lt q hq
                    have hownl : ∀ q, (Value.slice a' os.length c').ownBlock = some q → q < wo.heap.size := by obtain ⟨-, ys, hy1, -⟩ := HO.out; exact fun q hq => (hy1.lt q hq).2
                    have HI2 := Lib.hid hI2
                    have Hin20 := Lib.hid (V.In.ext Hyin.out hx11)
                    have hB20b := Box.ext hx11 hB20
                    have hB0b := Box.ext hx11 hB0s
                    have hB2b := Box.ext hx11 hB2s
                    have hows := hxo11.size
                    have hltb := hB20b.lt
                    have hzw := hxwo.size
                    clear hI2
                    go_wp2_with fail
                    (refine (insOw_any wb.heap.size os.length (posO os who) w11.heap.size 1 (.slice a' os.length c') xs [.string who, .slice pa want.leaves.length pc] _ 42 (by simp; omega) (ownsRow_ext hI1 Xt) (by omega) hpo (show Box _ w11.heap.size #[.string who, .slice pa want.leaves.length pc] 42 from Bxt) (fun e => by have := (hown _ e).2; omega) rfl HI2.out.ones (by simp [Value.oneCell'])).mono ?_)
                    rintro e w12 ⟨g, cap, rfl, hrow, hg12, hat12⟩
                    have Hg12 := Lib.hid hg12
                    have Hrow := Lib.hid hrow
                    have Hat12 := Lib.hid hat12
                    have hx12 : Ext wb w12 := Ext.grown (b := w11.alloc (.cells #[.string who, .slice pa want.leaves.length pc] 42)) ((hx.trans hxo11).alloc _) (by first | exact hg12 | simpa using hg12) (fun q hq => (hown q hq).1)
                    have hkp : ∀ b, b < w11.heap.size → (Value.slice a' os.length c').ownBlock ≠ some b → w12.heap[b]? = w11.heap[b]? := fun b hb hne => by
                      rw [Hg12.out.block b (by simp; omega) (fun e => hne e.symm)]
                      exact Below.heap_alloc _ _ _ hb
                    have hO12 : OwnOw w12 wb.heap.size (fun b => w.heap.size ≤ b ∧ b ≠ w.heap.size + 2) (.slice (some ⟨g, 0, none⟩) (os.length + 1) cap) (os.length + 1) (os.take (posO os who) ++ ⟨who, want.leaves⟩ :: os.drop (posO os who)) := by
                      have hgo : ∀ b, b < w11.heap.size → (Value.slice a' os.length c').ownBlock ≠ some b → (Value.slice (some ⟨g, 0, none⟩) (os.length + 1) cap).ownBlock ≠ some b := fun b hb hne e => by
                        have hge : g = b := by simpa [Value.ownBlock] using e
                        subst hge
                        rcases Hat12.out with h | h
                        · exact hne h
                        · simp at h; omega
                      have hc12 : OCells w12 (Foot wb.heap.size (fun b => w.heap.size ≤ b ∧ b ≠ w.heap.size + 2) (.slice (some ⟨g, 0, none⟩) (os.length + 1) cap)) os xs := HI2.out.keep (fun b hb hl => hkp b hl (by rcases hb with h | h; exact h.2.elim; exact h.2)) (fun b hb hl => by rcases hb with h | h; exact h.2.elim; exact .inr ⟨h.1, hgo b hl h.2⟩)
                      refine ⟨by simp only [List.length_append, List.length_cons, List.length_take, List.length_drop]; omega, _, Hrow.out, ?_⟩
                      rw [List.append_assoc]
                      refine (hc12.take _).app (OCells.app (l := [⟨who, want.leaves⟩]) (OCells.one hpok (Hpst.out.keep (hx12.kept _) (fun b hb hl => .inl ⟨hl, by omega⟩))) (hc12.drop _))
                    have HO12 := Lib.hid hO12
                    have hB012 : Box w12 w.heap.size #[.int .i64 v.k, .int .i64 v.n, .string v.s, .slice ka v.keys.length kc, .slice la v.l.length lc] 25 := by unfold Box; rw [hkp _ (by omega) (fun e => by have := (hown _ e).1; omega)]; exact hB0b
                    have hB212 : Box w12 (w.heap.size + 2) #[.int .i64 0, .int .i64 0, .string ⟨#[]⟩, .slice none 0 0, .slice none 0 0] 25 := by unfold Box; rw [hkp _ (by omega) (fun e => by have := (hown _ e).1; omega)]; exact hB2b
                    have hB2012 : Box w12 wo.heap.size #[.int .i64 ny.k, .int .i64 ny.n, .string ny.s, .slice k7 ny.keys.length c7, .slice l7 ny.l.length d7] 25 := by unfold Box; rw [hkp _ (by omega) (fun e => by have := hownl _ e; omega)]; exact hB20b
                    have Hin12 := Lib.hid (V.In.keep (T := (fun b => (S b ∧ b < w.heap.size) ∨ wo.heap.size < b)) Hin20.out (fun b hb hl => hkp b hl (fun e => by have := (hown _ e).1; have := hownl _ e; rcases hb with h | h; (have := h.2; omega); omega)) (fun b h _ => h))
                    clear hO12 hrow hg12 hat12 hkp
                    go_wp2_with fail
                    go_meet
                    obtain ⟨a13, c13, he13, hok13, -, hr13⟩ := HO12.out.rows
                    simp only [Value.slice.injEq, true_and] at he13
                    obtain ⟨rfl, rfl⟩ := he13
                    refine ⟨some ⟨g, 0, none⟩, cap, by rw [hil], by rw [hil]; exact hok13, ?_, Bxt, Hin12.out.ext Xt, Bxt, Bxt, Xt⟩
                    rw [Hio.out]
                    exact (hr13.mono (T := fun b => w.heap.size ≤ b ∧ b ≠ w.heap.size + 2) (fun b h _ => by rcases h with h | h; exact h.2; omega)).ext Xt
                case rest =>
                  obtain ⟨a6, c6, rfl, hok6, hin6, hB20, hyin, hB0, hB2, hxwc⟩ := hcut
                  have Hyin := Lib.hid hyin
                  have Hin6 := Lib.hid hin6
                  have hxwc2 : Ext w wc := hxw.trans hxwc
                  clear hyin hin6 hB0s hB2s
                  have hc20 := hB20.cells; have hf20 := hB20.free; have hl20 := hB20.lt
                  go_wp2_with fail
                  (refine (fine_any ny k7 c7 l7 d7 _ _ (by omega) (Hyin.out.ext Xt)).mono ?_)
                  cases hfy : ny.fine with
                  | false =>
                    have Hr1 := Lib.hid (show r0 = (v, l, [], 2) by rw [← Hr0.out, if_pos (.inl hfy)])
                    rintro e w14 ⟨rfl, h14⟩
                    have hB0 := Box.ext (w' := w14) Xt hB0
                    have hB2 := Box.ext (w' := w14) Xt hB2
                    have hx14 : Ext w w14 := Xt
                    clear h14 hfy hc20 hf20 hl20
                    have hc0 := hB0.cells; have hf0 := hB0.free; have hl0 := hB0.lt
                    have hc2 := hB2.cells; have hf2 := hB2.free; have hl2 := hB2.lt
                    go_wp2_with fail
                    (with_reducible apply bp_ret); (focus (go_light; simp [results, Tryz.results15, go_sem, *]; rfl))
                    rw [Hr1.out]
                    exact ⟨ka, kc, la, lc, a, c, none, 0, rfl, V.In.keep (S := fun b => S b ∧ b < w.heap.size) (Hin.out.ext hx14) (Held.kept (a := w14) (T := fun b => S b ∧ b < w.heap.size) Hxt) (fun b h _ => .inl h.1), Hok.out, OwsIn.keep (S := fun b => S b ∧ b < w.heap.size) (Hjn.out.ext hx14) (Held.kept (a := w14) (T := fun b => S b ∧ b < w.heap.size) Hxt) (fun b h _ => .inl h.1), SlOk.nil, .inl rfl, Xt⟩
                  | true =>
                    by_cases h6 : 6 < (insO os who want.leaves).length
                    · have h6i : (6 : Int) < ((insO os who want.leaves).length : Int) := by omega
                      have Hr1 := Lib.hid (show r0 = (v, l, [], 2) by rw [← Hr0.out, if_pos (.inr h6)])
                      rintro e w14 ⟨rfl, h14⟩
                      have hB0 := Box.ext (w' := w14) Xt hB0
                      have hB2 := Box.ext (w' := w14) Xt hB2
                      have hx14 : Ext w w14 := Xt
                      clear h14 hfy hc20 hf20 hl20
                      have hc0 := hB0.cells; have hf0 := hB0.free; have hl0 := hB0.lt
                      have hc2 := hB2.cells; have hf2 := hB2.free; have hl2 := hB2.lt
                      go_wp2_with fail
                      (with_reducible apply bp_ret); (focus (go_light; simp [results, Tryz.results15, go_sem, *]; rfl))
                      rw [Hr1.out]
                      exact ⟨ka, kc, la, lc, a, c, none, 0, rfl, V.In.keep (S := fun b => S b ∧ b < w.heap.size) (Hin.out.ext hx14) (Held.kept (a := w14) (T := fun b => S b ∧ b < w.heap.size) Hxt) (fun b h _ => .inl h.1), Hok.out, OwsIn.keep (S := fun b => S b ∧ b < w.heap.size) (Hjn.out.ext hx14) (Held.kept (a := w14) (T := fun b => S b ∧ b < w.heap.size) Hxt) (fun b h _ => .inl h.1), SlOk.nil, .inl rfl, Xt⟩
                    · have h6i : ¬ (6 : Int) < ((insO os who want.leaves).length : Int) := by omega
                      have Hr1 := Lib.hid (show r0 = (ny, insO os who want.leaves, [], 0) by rw [← Hr0.out, if_neg (by rw [hfy]; rintro (h | h); cases h; exact h6 h)])
                      rintro e w14 ⟨rfl, h14⟩
                      have hB20 := Box.ext (w' := w14) Xt hB20
                      have hB2 := Box.ext (w' := w14) Xt hB2
                      have Hyin := Lib.hid (V.In.ext (w' := w14) Hyin.out Xt)
                      have Hin6 := Lib.hid (Hin6.out.ext (w' := w14) Xt)
                      have hx14 : Ext w w14 := Xt
                      have hB1w : w.heap.size + 2 < wb.heap.size := hzb
                      have hzbo := hx.size
                      clear h14 hfy hc20 hf20 hl20
                      have hc20 := hB20.cells; have hf20 := hB20.free; have hl20 := hB20.lt
                      have hc2 := hB2.cells; have hf2 := hB2.free; have hl2 := hB2.lt
                      go_wp2_with fail
                      (with_reducible apply bp_ret); (focus (go_light; simp [results, Tryz.results15, go_sem, *]; rfl))
                      rw [Hr1.out]
                      exact ⟨k7, c7, l7, d7, a6, c6, none, 0, rfl, V.In.keep (S := (fun b => (S b ∧ b < w.heap.size) ∨ wo.heap.size < b)) Hyin.out (Held.kept (a := w14) (T := (fun b => (S b ∧ b < w.heap.size) ∨ wo.heap.size < b)) Hxt) (fun b h _ => by rcases h with h | h; exact .inl h.1; exact .inr (by omega)), hok6, OwsIn.keep (S := fun b => w.heap.size ≤ b ∧ b ≠ w.heap.size + 2) (Hin6.out) (Held.kept (a := w14) (T := fun b => w.heap.size ≤ b ∧ b ≠ w.heap.size + 2) Hxt) (fun b h _ => .inr h.1), SlOk.nil, .inl rfl, Xt⟩
end Go.Proofs.YtjibdbnpkfghhaaGreatDoor
