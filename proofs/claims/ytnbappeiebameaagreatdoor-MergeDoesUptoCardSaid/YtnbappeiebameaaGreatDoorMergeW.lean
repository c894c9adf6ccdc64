/- The walks of package merge: Clean, merge, Merge. -/
import Derived.Test.YtnbappeiebameaaGreatDoorPkA
import Derived.Test.YtnbappeiebameaaGreatDoorPkC
import Derived.Test.YtnbappeiebameaaGreatDoorWith
import Derived.Test.YtnbappeiebameaaGreatDoorWout
set_option linter.all false
namespace Go.Proofs.YtnbappeiebameaaGreatDoor
open Go.RowKit
attribute [local go_sem ↓] Go.wp_at_zero Go.wp_at_succ

theorem memD_sound {x : V} (h : x.sound) (key : ByteArray) : (x.memD key).sound := getD_sound h key
theorem memD_count (x : V) (key : ByteArray) : (x.memD key).count ≤ x.count := by
  unfold V.memD
  cases h : x.member key with
  | none => have := x.count_pos; rw [Option.getD_none, V.count_eq V.zero]; simpa [V.zero] using this
  | some y => have := sum_ge V.count (member_mem h); rw [Option.getD_some, V.count_eq x]; omega
theorem mgo_facts {p u acc : V} {k : Nat} (hp : p.sound) (h5 : p.k = 5) (hu : u.sound) (hu5 : u.k = 5) (hk : k ≤ p.l.length) (h : V.mrg.go (p.l.take k) (p.keys.take k) u = acc) :
    acc.sound ∧ acc.k = 5 ∧ acc.count + ((p.l.drop k).map V.count).sum + 1 ≤ u.count + p.count := by
  have hlen := hp.flat.len h5
  have hl : (p.keys.take k).length = (p.l.take k).length := by simp; omega
  have hm : ∀ q ∈ p.l.take k, q.sound := fun q hq => hp.item (List.mem_of_mem_take hq)
  have hkp : ∀ z ∈ p.keys.take k, plainB z = true := fun z hz => hp.flat.kp z (List.mem_of_mem_take hz)
  obtain ⟨a1, a2⟩ := mgo_sound (p.l.take k) (p.keys.take k) u (fun q hq z hz => mrg_sound q (hm q hq) z hz) hkp hu hu5 hl
  have a3 := mgo_count (p.l.take k) (p.keys.take k) u (fun q hq => ⟨hm q hq, fun z hz => mrg_count q (hm q hq) z hz⟩) hkp hu hu5 hl
  rw [h] at a1 a2 a3
  refine ⟨a1, a2, ?_⟩
  have e : (p.l.map V.count).sum = ((p.l.take k).map V.count).sum + ((p.l.drop k).map V.count).sum := by rw [← List.sum_append, ← List.map_append, List.take_append_drop]
  rw [V.count_eq p]; omega
theorem mgo_next {p u acc : V} {k : Nat} (h1 : k < p.l.length) (h2 : k < p.keys.length) (h : V.mrg.go (p.l.take k) (p.keys.take k) u = acc) : V.mrg.go (p.l.take (k + 1)) (p.keys.take (k + 1)) u = p.l[k].mstep p.keys[k] acc := by
  rw [List.take_succ_eq_append_getElem h1, List.take_succ_eq_append_getElem h2, mgo_snoc _ _ _ _ _ (by simp; omega), h]
theorem mgo_room {p u acc : V} {k : Nat} (h : k < p.l.length) (hac : acc.count + ((p.l.drop k).map V.count).sum + 1 ≤ u.count + p.count) : acc.count + p.l[k].count ≤ u.count + p.count := by
  rw [List.drop_eq_getElem_cons h] at hac
  simp only [List.map_cons, List.sum_cons] at hac
  omega

set_option maxHeartbeats 1000000 in
theorem clean_any (m : Nat) : ∀ (x : V) (ka : Option Addr) (kc : Nat) (la : Option Addr) (lc : Nat) (S : Nat → Prop) (w : World), x.size ≤ m → x.size ≤ 1073741824 → x.In w S ka kc la lc →
    Calls Tryz.prog 53 #[x.val ka kc la lc] w fun e w' => e = .returned (.bool x.clean) ∧ Ext w w' := by
  induction m with
  | zero => intro x _ _ _ _ _ _ h; have := x.size_pos; omega
  | succ m ih =>
    intro x ka kc la lc S w hm hsz hin
    have hl := x.len_l
    have Hc := Lib.hid (clean_eq x)
    have Ih := Lib.hid ih
    clear ih
    by_cases h5 : x.k = 5
    · have h5b : (x.k != 5) = false := by simpa using h5
      have Hc5 := Lib.hid (show x.clean = x.l.all fun y => decide (y.k ≠ 0) && y.clean by rw [Hc.out]; simp [h5])
      clear h5 Hc
      go_enter Tryz.func53, Tryz.ntmps53
      go_wp2_with fail
      go_loopg [4, 11] x.l.length (fun g _ i wr => ∃ k : Nat, k ≤ x.l.length ∧ i = .int .i64 k ∧ g = x.l.length - k ∧ Hid (((x.l.take k).all fun y => decide (y.k ≠ 0) && y.clean) = true) ∧ Box wr w.heap.size #[.int .i64 x.k, .int .i64 x.n, .string x.s, .slice ka x.keys.length kc, .slice la x.l.length lc] 25 ∧ Ext w wr)
      case atStart => exact ⟨0, by omega, rfl, rfl, Lib.hid rfl, Bxt, Xt⟩
      case round =>
        obtain ⟨k, hk, rfl, rfl, Ht, hB0, hx⟩ := hrel
        have hc0 := hB0.cells; have hf0 := hB0.free; have hl0 := hB0.lt
        by_cases hlt : k < x.l.length
        · obtain ⟨b, o, rfl, hS, ka', kc', la', lc', ⟨d0, d1, d2, d3, d4⟩, hin'⟩ := (hin.ext hx).item hlt
          have hsi := V.size_item hlt
          have Hin' := Lib.hid hin'
          clear hin'
          by_cases h0 : x.l[k].k = 0
          · have h0b : (x.l[k].k == 0) = true := by simpa using h0
            have Hbad := Lib.hid (show x.clean = false by rw [Hc5.out]; exact all_bad _ x.l hlt (by simp [h0]))
            clear h0
            go_wp2_with fail
            go_ret
            exact ⟨ret_bool Hbad.out.symm, Xt⟩
          · have h0b : (x.l[k].k == 0) = false := by simpa using h0
            cases hcl : (x.l[k]).clean with
            | true =>
              have Ht2 := Lib.hid (all_take _ x.l hlt Ht.out (by simp [h0, hcl]))
              have Hcl := Lib.hid hcl
              clear h0 hcl
              go_wp2_with fail
              (refine (Ih.out x.l[k] ka' kc' la' lc' S _ (by omega) (by omega) (Hin'.out.ext Xt)).mono ?_); rintro e w1 ⟨rfl, h1⟩
              rw [Hcl.out]
              have hB1 : Box w1 w.heap.size #[.int .i64 x.k, .int .i64 x.n, .string x.s, .slice ka x.keys.length kc, .slice (some ⟨b, o, none⟩) x.l.length lc] 25 := Box.ext h1 Bxt
              have hx1 : Ext w w1 := Xt
              clear h1
              go_wp2_with fail
              go_roundg (x.l.length - (k + 1))
              case measure => omega
              case rel => exact ⟨k + 1, by omega, by go_num, rfl, Ht2, Bxt, Xt⟩
            | false =>
              have Hbad := Lib.hid (show x.clean = false by rw [Hc5.out]; exact all_bad _ x.l hlt (by simp [hcl]))
              have Hcl := Lib.hid hcl
              clear h0 hcl
              go_wp2_with fail
              (refine (Ih.out x.l[k] ka' kc' la' lc' S _ (by omega) (by omega) (Hin'.out.ext Xt)).mono ?_); rintro e w1 ⟨rfl, h1⟩
              rw [Hcl.out]
              have hx1 : Ext w w1 := Xt
              clear h1
              go_wp2_with fail
              go_ret
              exact ⟨ret_bool Hbad.out.symm, Xt⟩
        · have Hgood := Lib.hid (show x.clean = true by
            have := Ht.out
            rw [List.take_of_length_le (by omega)] at this
            rw [Hc5.out]; exact this)
          go_wp2_with fail
          go_ret
          exact ⟨ret_bool Hgood.out.symm, Xt⟩
    · have h5b : (x.k != 5) = true := by simpa using h5
      have Hgood := Lib.hid (show x.clean = true by rw [Hc.out]; simp [h5])
      clear h5
      go_enter Tryz.func53, Tryz.ntmps53
      go_wp2_with fail
      go_ret
      exact ⟨ret_bool Hgood.out.symm, Xt⟩

set_option maxRecDepth 100000 in
set_option maxHeartbeats 8000000 in
theorem mergeI_any (m : Nat) : ∀ (p v : V) (ka : Option Addr) (kc : Nat) (la : Option Addr) (lc : Nat) (kb : Option Addr) (kd : Nat) (lb : Option Addr) (ld : Nat) (S : Nat → Prop) (w : World), p.size ≤ m → p.sound → v.sound → v.count + p.count ≤ 1000000 → v.In w S ka kc la lc → p.In w S kb kd lb ld →
    Calls Tryz.prog 101 #[v.val ka kc la lc, p.val kb kd lb ld] w (RetV S (p.mrg v) w) := by
  induction m with
  | zero => intro p _ _ _ _ _ _ _ _ _ _ _ _ h; have := p.size_pos; omega
  | succ m ih =>
    intro p v ka kc la lc kb kd lb ld S w hm hp hv hcnt hin hjn
    have Ih := Lib.hid ih
    obtain ⟨SS, hSS⟩ : ∃ SS : Nat → Prop, SS = fun b => (S b ∧ b < w.heap.size) ∨ w.heap.size + 3 ≤ b := ⟨_, rfl⟩
    have Hin := Lib.hid (show v.In w SS ka kc la lc from hin.mono fun b h hl => by rw [hSS]; exact .inl ⟨h, hl⟩)
    have Hjn := Lib.hid (show p.In w SS kb kd lb ld from hjn.mono fun b h hl => by rw [hSS]; exact .inl ⟨h, hl⟩)
    have HS2 := Lib.hid (show ∀ b, w.heap.size + 3 ≤ b → SS b from fun b h => by rw [hSS]; exact .inr h)
    have HS3 := Lib.hid (show ∀ b, SS b → b ≠ w.heap.size from fun b h => by rw [hSS] at h; rcases h with h | h <;> omega)
    have HS5 := Lib.hid (show ∀ b, SS b → b ≠ w.heap.size + 2 from fun b h => by rw [hSS] at h; rcases h with h | h <;> omega)
    have HS4 := Lib.hid (show ∀ b, SS b → Plus S w b from fun b h => by rw [hSS] at h; exact h.elim (fun h => .inl h.1) (fun h => .inr (by omega)))
    clear hSS
    have hpl := p.len_l
    have hpk := p.len_keys
    have hpsz : p.size ≤ 1073741824 := by have := sound_size hp; omega
    have Hp := Lib.hid hp
    clear ih hin hjn
    by_cases h5 : p.k = 5
    · have h5b : (p.k != 5) = false := by simpa using h5
      have hlen := hp.flat.len h5
      obtain ⟨u, hu⟩ : ∃ u, v.base = u := ⟨_, rfl⟩
      have Hu := Lib.hid (show u.sound ∧ u.k = 5 from hu ▸ ⟨base_sound hv, (base_obj hv).k5⟩)
      have hcu : u.count + p.count ≤ 1000000 := by
        rw [← hu]; unfold V.base; split
        · exact hcnt
        · have : V.none5.count = 1 := by rw [V.count_eq]; rfl
          have := v.count_pos; omega
      have H5 := Lib.hid h5
      have Hlen := Lib.hid hlen
      clear hp h5 hlen
      by_cases hv5 : v.k = 5
      · have hv5b : (v.k != 5) = false := by simpa using hv5
        obtain rfl : u = v := by rw [← hu, base_of hv5]
        have HU := Lib.hid hu
        clear hv hv5 hu
        go_enter Tryz.func101, Tryz.ntmps101
        go_upto_region 5 with fail
        refine gen_world (R := fun wx => ∃ (ka1 : Option Addr) (kc1 : Nat) (la1 : Option Addr) (lc1 : Nat), Box wx w.heap.size #[.int .i64 u.k, .int .i64 u.n, .string u.s, .slice ka1 u.keys.length kc1, .slice la1 u.l.length lc1] 25 ∧ u.In wx SS ka1 kc1 la1 lc1 ∧ Box wx (w.heap.size + 1) #[.int .i64 p.k, .int .i64 p.n, .string p.s, .slice kb p.keys.length kd, .slice lb p.l.length ld] 25 ∧ Box wx (w.heap.size + 2) #[.int .i64 0, .int .i64 0, .string ⟨#[]⟩, .slice none 0 0, .slice none 0 0] 25 ∧ Ext w wx) ⟨ka, kc, la, lc, Bxt, Hin.out.ext Xt, Bxt, Bxt, Xt⟩ ?_
        rintro wa ⟨ka1, kc1, la1, lc1, hB0, hin1, hB1, hB2, hxa⟩
        have Hin1 := Lib.hid hin1
        clear hin1 Hin
        have hc1 := hB1.cells; have hf1 := hB1.free; have hl1 := hB1.lt
        go_wp2_with fail
        go_loopg [5, 6, 7, 8, 20] p.l.length (fun g _ _ _ _ i wr => ∃ (k : Nat) (acc : V) (ka2 : Option Addr) (kc2 : Nat) (la2 : Option Addr) (lc2 : Nat), k ≤ p.l.length ∧ i = .int .i64 k ∧ g = p.l.length - k ∧ Box wr w.heap.size #[.int .i64 acc.k, .int .i64 acc.n, .string acc.s, .slice ka2 acc.keys.length kc2, .slice la2 acc.l.length lc2] 25 ∧ acc.In wr SS ka2 kc2 la2 lc2 ∧ Hid (V.mrg.go (p.l.take k) (p.keys.take k) u = acc) ∧
          Box wr (w.heap.size + 1) #[.int .i64 p.k, .int .i64 p.n, .string p.s, .slice kb p.keys.length kd, .slice lb p.l.length ld] 25 ∧ Box wr (w.heap.size + 2) #[.int .i64 0, .int .i64 0, .string ⟨#[]⟩, .slice none 0 0, .slice none 0 0] 25 ∧ Ext w wr)
        case atStart => exact ⟨0, u, ka1, kc1, la1, lc1, by omega, rfl, rfl, hB0, Hin1.out, Lib.hid (by rw [List.take_zero, mgo_nil]), hB1, hB2, hxa⟩
        case round =>
          clear hB0 hB1 hB2 Hin1 hxa hc1 hf1 hl1
          obtain ⟨k, acc, ka2, kc2, la2, lc2, hk, rfl, rfl, hB0, hin2, Hacc, hB1, hB2, hx⟩ := hrel
          have Hin2 := Lib.hid hin2
          clear hin2
          have hz3 := hB2.lt
          have hc0 := hB0.cells; have hf0 := hB0.free; have hl0 := hB0.lt
          have hc1 := hB1.cells; have hf1 := hB1.free; have hl1 := hB1.lt
          obtain ⟨has, ha5, hac⟩ := mgo_facts Hp.out H5.out Hu.out.1 Hu.out.2 hk Hacc.out
          have hobj := sound_obj has ha5
          have hasz : acc.size ≤ 1073741824 := by have := sound_size has; omega
          have Has := Lib.hid has
          have Hobj := Lib.hid hobj
          clear has hobj ha5
          by_cases hlt : k < p.l.length
          · have hlt2 : k < p.keys.length := by rw [Hlen.out]; exact hlt
            obtain ⟨b1, o1, rfl, -, e0⟩ := Hjn.out.key hlt2
            obtain ⟨b2, o2, rfl, -, ka3, kc3, la3, lc3, ⟨d0, d1, d2, d3, d4⟩, hin3⟩ := Hjn.out.item hlt
            have e0 := hx.cell e0
            have d0 := hx.cell d0; have d1 := hx.cell d1; have d2 := hx.cell d2; have d3 := hx.cell d3; have d4 := hx.cell d4
            have Hin3 := Lib.hid (hin3.ext hx)
            have hqs := Hp.out.item (List.getElem_mem hlt)
            have hqz := V.size_item hlt
            have hqc := V.count_item hlt
            have Hqs := Lib.hid hqs
            have Hstep := Lib.hid (mgo_next hlt hlt2 Hacc.out)
            have hac2 := mgo_room hlt hac
            have hki0 : (0 : Int) ≤ (k : Int) := by omega
            have hki1 : (k : Int) < (p.l.length : Int) := by omega
            have hki2 : (k : Int) < (p.keys.length : Int) := by omega
            clear hin3 hqs hac
            obtain ⟨key, hkey⟩ : ∃ key, p.keys[k] = key := ⟨_, rfl⟩
            obtain ⟨q, hq⟩ : ∃ q, p.l[k] = q := ⟨_, rfl⟩
            rw [hkey] at e0
            rw [hq] at d0 d1 d2 d3 d4 hqz hqc
            have Hin3 := Lib.hid (show q.In wr _ ka3 kc3 la3 lc3 by rw [← hq]; exact Hin3.out)
            have Hqs := Lib.hid (show q.sound by rw [← hq]; exact Hqs.out)
            have Hstep := Lib.hid (show V.mrg.go (p.l.take (k + 1)) (p.keys.take (k + 1)) u = q.mstep key acc by rw [← hq, ← hkey]; exact Hstep.out)
            have hac2 : acc.count + q.count ≤ u.count + p.count := by rw [← hq]; exact hac2
            clear hkey hq
            by_cases hq0 : q.k = 0
            · have hqb : (q.k == 0) = true := by simpa using hq0
              have Hms := Lib.hid (show q.mstep key acc = acc.del key by unfold V.mstep; rw [if_pos hq0])
              clear hq0
              go_wp2_with fail
              (refine (without_any acc ka2 kc2 la2 lc2 key SS _ hasz Hobj.out.rise (Hin2.out.ext Xt)).mono ?_)
              rintro e w1 ⟨ka4, kc4, la4, lc4, rfl, hin4, h1⟩
              have Hin4 := Lib.hid (hin4.mono (T := SS) fun b h _ => h.elim id (fun h => HS2.out b (by (try simp at h); omega)))
              have hB0 := Box.ext h1 hB0
              have hB1 := Box.ext h1 hB1
              have hB2 := Box.ext h1 hB2
              have hx1 : Ext w w1 := Xt
              clear h1 hin4 hc0 hf0 hl0 hc1 hf1 hl1 hx e0 d0 d1 d2 d3 d4 Hin2
              have hc0 := hB0.cells; have hf0 := hB0.free; have hl0 := hB0.lt
              have Hs := Lib.hid (Hstep.out.trans Hms.out)
              go_wp2_with fail
              go_roundg (p.l.length - (k + 1))
              case measure => omega
              case rel => exact ⟨k + 1, acc.del key, ka4, kc4, la4, lc4, by omega, by go_num, rfl, Bxt, Hin4.out.keep (Held.kept (Held.mono (a := w1) (S := fun b => b ≠ w.heap.size) Hxt HS3.out)) (fun b hb _ => hb), Hs, Bxt, Bxt, Xt⟩
            · have hqb : (q.k == 0) = false := by simpa using hq0
              obtain ⟨old, hold⟩ : ∃ old, acc.memD key = old := ⟨_, rfl⟩
              have hos : old.sound := hold ▸ memD_sound Has.out key
              have hoc : old.count ≤ acc.count := hold ▸ memD_count acc key
              have Hos := Lib.hid hos
              have Hms := Lib.hid (show q.mstep key acc = acc.put key (q.mrg old) by rw [← hold]; unfold V.mstep; rw [if_neg hq0]; rfl)
              have Hold := Lib.hid hold
              clear hq0 hold hos
              go_wp2_with fail
              (refine (member_any acc key ka2 kc2 la2 lc2 SS _ hasz (Hin2.out.ext Xt)).mono ?_)
              rw [Hold.out]
              rintro e w1 ⟨ka5, kc5, la5, lc5, rfl, hin5, h1⟩
              have Hin5 := Lib.hid (hin5.mono (T := SS) fun b h _ => h.elim id (fun h => HS2.out b (by (try simp at h); omega)))
              have hB0 := Box.ext h1 hB0
              have hB1 := Box.ext h1 hB1
              have hB2 := Box.ext h1 hB2
              have Hin2 := Lib.hid (V.In.ext (w' := w1) Hin2.out Xt)
              have Hin3 := Lib.hid (V.In.ext (w' := w1) Hin3.out Xt)
              have hx1 : Ext w w1 := Xt
              have d0 := h1.cell d0; have d1 := h1.cell d1; have d2 := h1.cell d2; have d3 := h1.cell d3; have d4 := h1.cell d4
              clear hin5 hc0 hf0 hl0 hc1 hf1 hl1 hx e0 h1
              go_upto_region 11 with fail
              refine gen_world (R := fun wx => Box wx w.heap.size #[.int .i64 acc.k, .int .i64 acc.n, .string acc.s, .slice ka2 acc.keys.length kc2, .slice la2 acc.l.length lc2] 25 ∧ Box wx (w.heap.size + 1) #[.int .i64 p.k, .int .i64 p.n, .string p.s, .slice (some ⟨b1, o1, none⟩) p.keys.length kd, .slice (some ⟨b2, o2, none⟩) p.l.length ld] 25 ∧ Box wx (w.heap.size + 2) #[.int .i64 0, .int .i64 0, .string ⟨#[]⟩, .slice none 0 0, .slice none 0 0] 25 ∧ Box wx w1.heap.size #[.int .i64 old.k, .int .i64 old.n, .string old.s, .slice ka5 old.keys.length kc5, .slice la5 old.l.length lc5] 25 ∧ Ext w1 wx) ⟨Bxt, Bxt, Bxt, Bxt, Xt⟩ ?_
              clear hB0 hB1 hB2
              rintro wb ⟨hB0, hB1, hB2, hB5, hxb⟩
              have Hin2 := Lib.hid (V.In.ext Hin2.out hxb)
              have Hin3 := Lib.hid (V.In.ext Hin3.out hxb)
              have Hin5 := Lib.hid (V.In.ext Hin5.out hxb)
              have d0 := hxb.cell d0; have d1 := hxb.cell d1; have d2 := hxb.cell d2; have d3 := hxb.cell d3; have d4 := hxb.cell d4
              have hxb := hx1.trans hxb
              clear hx1
              have Sof : ∀ w', Ext wb w' → (w'.cell? ⟨w.heap.size, 0, none⟩ = some (.int .i64 acc.k) ∧ w'.cell? ⟨w.heap.size, 1, none⟩ = some (.int .i64 acc.n) ∧ w'.cell? ⟨w.heap.size, 2, none⟩ = some (.string acc.s) ∧ w'.cell? ⟨w.heap.size, 3, none⟩ = some (.slice ka2 acc.keys.length kc2) ∧ w'.cell? ⟨w.heap.size, 4, none⟩ = some (.slice la2 acc.l.length lc2) ∧ w'.cell? ⟨w1.heap.size, 0, none⟩ = some (.int .i64 old.k) ∧ w'.cell? ⟨w1.heap.size, 1, none⟩ = some (.int .i64 old.n) ∧ w'.cell? ⟨w1.heap.size, 2, none⟩ = some (.string old.s) ∧ w'.cell? ⟨w1.heap.size, 3, none⟩ = some (.slice ka5 old.keys.length kc5) ∧ w'.cell? ⟨w1.heap.size, 4, none⟩ = some (.slice la5 old.l.length lc5) ∧ w'.cell? ⟨w.heap.size + 1, 4, none⟩ = some (.slice (some ⟨b2, o2, none⟩) p.l.length ld) ∧ w'.cell? ⟨b2, o2 + k * 5, none⟩ = some (.int .i64 q.k) ∧ w'.cell? ⟨b2, o2 + k * 5 + 1, none⟩ = some (.int .i64 q.n) ∧ w'.cell? ⟨b2, o2 + k * 5 + 2, none⟩ = some (.string q.s) ∧ w'.cell? ⟨b2, o2 + k * 5 + 3, none⟩ = some (.slice ka3 q.keys.length kc3) ∧ w'.cell? ⟨b2, o2 + k * 5 + 4, none⟩ = some (.slice la3 q.l.length lc3)) :=
                fun w' e => ⟨e.cell (hB0.cells 0), e.cell (hB0.cells 1), e.cell (hB0.cells 2), e.cell (hB0.cells 3), e.cell (hB0.cells 4), e.cell (hB5.cells 0), e.cell (hB5.cells 1), e.cell (hB5.cells 2), e.cell (hB5.cells 3), e.cell (hB5.cells 4), e.cell (hB1.cells 4), e.cell d0, e.cell d1, e.cell d2, e.cell d3, e.cell d4⟩
              have hbl := hB5.lt
              have hz3b := hB2.lt
              refine wp_region_till (S := fun w' => w'.cell? ⟨w.heap.size, 0, none⟩ = some (.int .i64 acc.k) ∧ w'.cell? ⟨w.heap.size, 1, none⟩ = some (.int .i64 acc.n) ∧ w'.cell? ⟨w.heap.size, 2, none⟩ = some (.string acc.s) ∧ w'.cell? ⟨w.heap.size, 3, none⟩ = some (.slice ka2 acc.keys.length kc2) ∧ w'.cell? ⟨w.heap.size, 4, none⟩ = some (.slice la2 acc.l.length lc2) ∧ w'.cell? ⟨w1.heap.size, 0, none⟩ = some (.int .i64 old.k) ∧ w'.cell? ⟨w1.heap.size, 1, none⟩ = some (.int .i64 old.n) ∧ w'.cell? ⟨w1.heap.size, 2, none⟩ = some (.string old.s) ∧ w'.cell? ⟨w1.heap.size, 3, none⟩ = some (.slice ka5 old.keys.length kc5) ∧ w'.cell? ⟨w1.heap.size, 4, none⟩ = some (.slice la5 old.l.length lc5) ∧ w'.cell? ⟨w.heap.size + 1, 4, none⟩ = some (.slice (some ⟨b2, o2, none⟩) p.l.length ld) ∧ w'.cell? ⟨b2, o2 + k * 5, none⟩ = some (.int .i64 q.k) ∧ w'.cell? ⟨b2, o2 + k * 5 + 1, none⟩ = some (.int .i64 q.n) ∧ w'.cell? ⟨b2, o2 + k * 5 + 2, none⟩ = some (.string q.s) ∧ w'.cell? ⟨b2, o2 + k * 5 + 3, none⟩ = some (.slice ka3 q.keys.length kc3) ∧ w'.cell? ⟨b2, o2 + k * 5 + 4, none⟩ = some (.slice la3 q.l.length lc3)) (c := 10) (by kernel_rfl) ?_
              (refine wpAnyT_take (i := 0) (v := ?_) [9, 10] (Array.getElem?_eq_getElem (by decide)) (by kernel_rfl) (by kernel_rfl) (by kernel_rfl) (by kernel_rfl) rfl rfl (by kernel_rfl) (fun _ _ _ h => h) (Or.inl ⟨by kernel_rfl, ?_⟩) (Sof _ Xt) ?_); rotate_left; (focus (intro w hSw; (try dsimp only at hSw); (try simp only [rl]); go_simp; (try with_reducible rfl))); (try simp only [rl])
              (refine wpAnyT_take (i := 1) (v := ?_) [9, 10] (Array.getElem?_eq_getElem (by decide)) (by kernel_rfl) (by kernel_rfl) (by kernel_rfl) (by kernel_rfl) rfl rfl (by kernel_rfl) (fun _ _ _ h => h) (Or.inl ⟨by kernel_rfl, ?_⟩) (Sof _ Xt) ?_); rotate_left; (focus (intro w hSw; (try dsimp only at hSw); (try simp only [rl]); go_simp; (try with_reducible rfl))); (try simp only [rl])
              (refine wpAnyT_take (i := 2) (v := ?_) [8, 9, 10] (Array.getElem?_eq_getElem (by decide)) (by kernel_rfl) (by kernel_rfl) (by kernel_rfl) (by kernel_rfl) rfl rfl (by kernel_rfl) (fun _ _ _ h => h) (Or.inl ⟨by kernel_rfl, ?_⟩) (Sof _ Xt) ?_); rotate_left; (focus (intro w hSw; (try dsimp only at hSw); (try simp only [rl]); go_simp; (try with_reducible rfl))); (try simp only [rl])
              (refine wpAnyT_take (i := 3) (v := ?_) [4, 6, 7, 8, 9, 10] (Array.getElem?_eq_getElem (by decide)) (by kernel_rfl) (by kernel_rfl) (by kernel_rfl) (by kernel_rfl) rfl rfl (by kernel_rfl) (fun _ _ _ h => h) (Or.inl ⟨by kernel_rfl, ?_⟩) (Sof _ Xt) ?_); rotate_left; (focus (intro w hSw; (try dsimp only at hSw); (try simp only [rl]); go_simp; (try with_reducible rfl))); (try simp only [rl])
              (refine wpAnyT_take (i := 4) (v := ?_) [6, 7, 8, 9, 10] (Array.getElem?_eq_getElem (by decide)) (by kernel_rfl) (by kernel_rfl) (by kernel_rfl) (by kernel_rfl) rfl rfl (by kernel_rfl) (fun _ _ _ h => h) (Or.inl ⟨by kernel_rfl, ?_⟩) (Sof _ Xt) ?_); rotate_left; (focus (intro w hSw; (try dsimp only at hSw); (try simp only [rl]); go_simp; (try with_reducible rfl))); (try simp only [rl])
              (refine wpAnyT_take (i := 5) (v := ?_) [6, 7, 8, 9, 10] (Array.getElem?_eq_getElem (by decide)) (by kernel_rfl) (by kernel_rfl) (by kernel_rfl) (by kernel_rfl) rfl rfl (by kernel_rfl) (fun _ _ _ h => h) (Or.inl ⟨by kernel_rfl, ?_⟩) (Sof _ Xt) ?_); rotate_left; (focus (intro w hSw; (try dsimp only at hSw); (try simp only [rl]); go_simp; (try with_reducible rfl))); (try simp only [rl])
              (refine wpAnyT_take (i := 6) (v := ?_) [7, 8, 9, 10] (Array.getElem?_eq_getElem (by decide)) (by kernel_rfl) (by kernel_rfl) (by kernel_rfl) (by kernel_rfl) rfl rfl (by kernel_rfl) (fun _ _ _ h => h) (Or.inl ⟨by kernel_rfl, ?_⟩) (Sof _ Xt) ?_); rotate_left; (focus (intro w hSw; (try dsimp only at hSw); (try simp only [rl]); go_simp; (try with_reducible rfl))); (try simp only [rl])
              (refine wpAnyT_take (i := 7) (v := ?_) [8, 9, 10] (Array.getElem?_eq_getElem (by decide)) (by kernel_rfl) (by kernel_rfl) (by kernel_rfl) (by kernel_rfl) rfl rfl (by kernel_rfl) (fun _ _ _ h => h) (Or.inl ⟨by kernel_rfl, ?_⟩) (Sof _ Xt) ?_); rotate_left; (focus (intro w hSw; (try dsimp only at hSw); (try simp only [rl]); go_simp; (try with_reducible rfl))); (try simp only [rl])
              (refine wpAnyT_one (i := 8) (by kernel_rfl) (Array.getElem?_eq_getElem (by decide)) fun K hK => ?_); (try simp only [rl])
              (try go_simp)
              (refine (Ih.out q old ka5 kc5 la5 lc5 ka3 kc3 la3 lc3 SS _ (by omega) Hqs.out Hos.out (by omega) (Hin5.out.ext Xt) (Hin3.out.ext Xt)).mono ?_); rintro e w5 ⟨ka6, kc6, la6, lc6, rfl, hin6, h5⟩
              have Hin6 := Lib.hid (hin6.mono (T := SS) fun b h _ => h.elim id (fun h => HS2.out b (by (try simp at h); omega)))
              (try go_simp)
              refine hK.out _ _ (fun _ => Sof _ Xt) ?_; clear hK K; (try simp only [rl])
              (refine wpAnyT_one (i := 9) (by kernel_rfl) (Array.getElem?_eq_getElem (by decide)) fun K hK => ?_); (try simp only [rl])
              (try go_simp)
              (refine (with_any acc ka2 kc2 la2 lc2 key (q.mrg old) ka6 kc6 la6 lc6 SS _ hasz Hobj.out.rise (Hin2.out.ext Xt) (V.In.ext (w := w5) Hin6.out Xt)).mono ?_); rintro e w6 ⟨ka7, kc7, la7, lc7, rfl, hin7, h6⟩
              have hz5 := Ext.size h5
              have Hin7 := Lib.hid (hin7.mono (T := SS) fun b h _ => h.elim id (fun h => HS2.out b (by (try simp at h hz5); omega)))
              clear hz5
              (try go_simp)
              refine hK.out _ _ (fun _ => Sof _ Xt) ?_; clear hK K; (try simp only [rl])
              have hB0 : Box w6 w.heap.size #[.int .i64 acc.k, .int .i64 acc.n, .string acc.s, .slice ka2 acc.keys.length kc2, .slice la2 acc.l.length lc2] 25 := Box.ext (w := wb) Xt hB0
              have hB1 : Box w6 (w.heap.size + 1) #[.int .i64 p.k, .int .i64 p.n, .string p.s, .slice (some ⟨b1, o1, none⟩) p.keys.length kd, .slice (some ⟨b2, o2, none⟩) p.l.length ld] 25 := Box.ext (w := wb) Xt hB1
              have hB2 : Box w6 (w.heap.size + 2) #[.int .i64 0, .int .i64 0, .string ⟨#[]⟩, .slice none 0 0, .slice none 0 0] 25 := Box.ext (w := wb) Xt hB2
              have hx6 : Ext w w6 := Xt
              clear Sof h5 h6 hxb d0 d1 d2 d3 d4 hB5
              have hc0 := hB0.cells; have hf0 := hB0.free; have hl0 := hB0.lt
              (refine wpAnyT_one (i := 10) (by kernel_rfl) (Array.getElem?_eq_getElem (by decide)) fun K hK => ?_); (try simp only [rl])
              go_simp
              (refine hK.out _ _ (fun h => Bool.noConfusion (show true = false from h)) ?_); clear hK K; (try simp only [rl])
              refine wpAnyT_done (by kernel_rfl) ?_ _
              have Hs := Lib.hid (Hstep.out.trans Hms.out)
              clear hin6
              go_wp2_with fail
              go_roundg (p.l.length - (k + 1))
              case measure => omega
              case rel => exact ⟨k + 1, acc.put key (q.mrg old), ka7, kc7, la7, lc7, by omega, by go_num, rfl, Bxt, Hin7.out.keep (Held.kept (Held.mono (a := w6) (S := fun b => b ≠ w.heap.size) Hxt HS3.out)) (fun b hb _ => hb), Hs, Bxt, Bxt, Xt⟩
          · obtain rfl : k = p.l.length := by omega
            have hke : ¬ p.l.length < p.keys.length := by rw [Hlen.out]; omega
            have hkd : decide (p.l.length < p.keys.length) = false := by simpa using hke
            have hc2 := hB2.cells; have hf2 := hB2.free; have hl2 := hB2.lt
            have Hend := Lib.hid (show p.mrg u = acc by rw [mrg_eq, if_pos H5.out, HU.out, ← Hacc.out, List.take_of_length_le (Nat.le_refl _), List.take_of_length_le (by rw [Hlen.out]; exact Nat.le_refl _)])
            go_wp2_with fail
            (with_reducible apply bp_ret); (focus (go_light; simp [results, Tryz.results101, go_sem, *]; rfl))
            rw [Hend.out]
            exact ⟨ka2, kc2, la2, lc2, rfl, Hin2.out.keep (Held.kept (Held.mono (a := wr) (S := fun b => b ≠ w.heap.size + 2) Hxt HS5.out)) (fun b hb _ => HS4.out b hb), Xt⟩
      · have hv5b : (v.k != 5) = true := by simpa using hv5
        have hn5 : V.none5 = u := by rw [← hu, base_not hv5]
        have HU := Lib.hid hu
        have Hn5 := Lib.hid hn5
        clear hv hv5 hu hn5
        go_enter Tryz.func101, Tryz.ntmps101
        go_upto_region 5 with fail
        refine gen_world (R := fun wx => ∃ (ka1 : Option Addr) (kc1 : Nat) (la1 : Option Addr) (lc1 : Nat), Box wx w.heap.size #[.int .i64 u.k, .int .i64 u.n, .string u.s, .slice ka1 u.keys.length kc1, .slice la1 u.l.length lc1] 25 ∧ u.In wx SS ka1 kc1 la1 lc1 ∧ Box wx (w.heap.size + 1) #[.int .i64 p.k, .int .i64 p.n, .string p.s, .slice kb p.keys.length kd, .slice lb p.l.length ld] 25 ∧ Box wx (w.heap.size + 2) #[.int .i64 0, .int .i64 0, .string ⟨#[]⟩, .slice none 0 0, .slice none 0 0] 25 ∧ Ext w wx) ⟨none, 0, none, 0, by rw [← Hn5.out]; exact Bxt, by rw [← Hn5.out]; exact (V.in_iff ..).2 ⟨SlOk.nil, SlOk.nil, .inl rfl, .inl rfl⟩, Bxt, Bxt, Xt⟩ ?_
        rintro wa ⟨ka1, kc1, la1, lc1, hB0, hin1, hB1, hB2, hxa⟩
        have Hin1 := Lib.hid hin1
        clear hin1 Hin
        have hc1 := hB1.cells; have hf1 := hB1.free; have hl1 := hB1.lt
        go_wp2_with fail
        go_loopg [5, 6, 7, 8, 20] p.l.length (fun g _ _ _ _ i wr => ∃ (k : Nat) (acc : V) (ka2 : Option Addr) (kc2 : Nat) (la2 : Option Addr) (lc2 : Nat), k ≤ p.l.length ∧ i = .int .i64 k ∧ g = p.l.length - k ∧ Box wr w.heap.size #[.int .i64 acc.k, .int .i64 acc.n, .string acc.s, .slice ka2 acc.keys.length kc2, .slice la2 acc.l.length lc2] 25 ∧ acc.In wr SS ka2 kc2 la2 lc2 ∧ Hid (V.mrg.go (p.l.take k) (p.keys.take k) u = acc) ∧
          Box wr (w.heap.size + 1) #[.int .i64 p.k, .int .i64 p.n, .string p.s, .slice kb p.keys.length kd, .slice lb p.l.length ld] 25 ∧ Box wr (w.heap.size + 2) #[.int .i64 0, .int .i64 0, .string ⟨#[]⟩, .slice none 0 0, .slice none 0 0] 25 ∧ Ext w wr)
        case atStart => exact ⟨0, u, ka1, kc1, la1, lc1, by omega, rfl, rfl, hB0, Hin1.out, Lib.hid (by rw [List.take_zero, mgo_nil]), hB1, hB2, hxa⟩
        case round =>
          clear hB0 hB1 hB2 Hin1 hxa hc1 hf1 hl1
          obtain ⟨k, acc, ka2, kc2, la2, lc2, hk, rfl, rfl, hB0, hin2, Hacc, hB1, hB2, hx⟩ := hrel
          have Hin2 := Lib.hid hin2
          clear hin2
          have hz3 := hB2.lt
          have hc0 := hB0.cells; have hf0 := hB0.free; have hl0 := hB0.lt
          have hc1 := hB1.cells; have hf1 := hB1.free; have hl1 := hB1.lt
          obtain ⟨has, ha5, hac⟩ := mgo_facts Hp.out H5.out Hu.out.1 Hu.out.2 hk Hacc.out
          have hobj := sound_obj has ha5
          have hasz : acc.size ≤ 1073741824 := by have := sound_size has; omega
          have Has := Lib.hid has
          have Hobj := Lib.hid hobj
          clear has hobj ha5
          by_cases hlt : k < p.l.length
          · have hlt2 : k < p.keys.length := by rw [Hlen.out]; exact hlt
            obtain ⟨b1, o1, rfl, -, e0⟩ := Hjn.out.key hlt2
            obtain ⟨b2, o2, rfl, -, ka3, kc3, la3, lc3, ⟨d0, d1, d2, d3, d4⟩, hin3⟩ := Hjn.out.item hlt
            have e0 := hx.cell e0
            have d0 := hx.cell d0; have d1 := hx.cell d1; have d2 := hx.cell d2; have d3 := hx.cell d3; have d4 := hx.cell d4
            have Hin3 := Lib.hid (hin3.ext hx)
            have hqs := Hp.out.item (List.getElem_mem hlt)
            have hqz := V.size_item hlt
            have hqc := V.count_item hlt
            have Hqs := Lib.hid hqs
            have Hstep := Lib.hid (mgo_next hlt hlt2 Hacc.out)
            have hac2 := mgo_room hlt hac
            have hki0 : (0 : Int) ≤ (k : Int) := by omega
            have hki1 : (k : Int) < (p.l.length : Int) := by omega
            have hki2 : (k : Int) < (p.keys.length : Int) := by omega
            clear hin3 hqs hac
            obtain ⟨key, hkey⟩ : ∃ key, p.keys[k] = key := ⟨_, rfl⟩
            obtain ⟨q, hq⟩ : ∃ q, p.l[k] = q := ⟨_, rfl⟩
            rw [hkey] at e0
            rw [hq] at d0 d1 d2 d3 d4 hqz hqc
            have Hin3 := Lib.hid (show q.In wr _ ka3 kc3 la3 lc3 by rw [← hq]; exact Hin3.out)
            have Hqs := Lib.hid (show q.sound by rw [← hq]; exact Hqs.out)
            have Hstep := Lib.hid (show V.mrg.go (p.l.take (k + 1)) (p.keys.take (k + 1)) u = q.mstep key acc by rw [← hq, ← hkey]; exact Hstep.out)
            have hac2 : acc.count + q.count ≤ u.count + p.count := by rw [← hq]; exact hac2
            clear hkey hq
            by_cases hq0 : q.k = 0
            · have hqb : (q.k == 0) = true := by simpa using hq0
              have Hms := Lib.hid (show q.mstep key acc = acc.del key by unfold V.mstep; rw [if_pos hq0])
              clear hq0
              go_wp2_with fail
              (refine (without_any acc ka2 kc2 la2 lc2 key SS _ hasz Hobj.out.rise (Hin2.out.ext Xt)).mono ?_)
              rintro e w1 ⟨ka4, kc4, la4, lc4, rfl, hin4, h1⟩
              have Hin4 := Lib.hid (hin4.mono (T := SS) fun b h _ => h.elim id (fun h => HS2.out b (by (try simp at h); omega)))
              have hB0 := Box.ext h1 hB0
              have hB1 := Box.ext h1 hB1
              have hB2 := Box.ext h1 hB2
              have hx1 : Ext w w1 := Xt
              clear h1 hin4 hc0 hf0 hl0 hc1 hf1 hl1 hx e0 d0 d1 d2 d3 d4 Hin2
              have hc0 := hB0.cells; have hf0 := hB0.free; have hl0 := hB0.lt
              have Hs := Lib.hid (Hstep.out.trans Hms.out)
              go_wp2_with fail
              go_roundg (p.l.length - (k + 1))
              case measure => omega
              case rel => exact ⟨k + 1, acc.del key, ka4, kc4, la4, lc4, by omega, by go_num, rfl, Bxt, Hin4.out.keep (Held.kept (Held.mono (a := w1) (S := fun b => b ≠ w.heap.size) Hxt HS3.out)) (fun b hb _ => hb), Hs, Bxt, Bxt, Xt⟩
            · have hqb : (q.k == 0) = false := by simpa using hq0
              obtain ⟨old, hold⟩ : ∃ old, acc.memD key = old := ⟨_, rfl⟩
              have hos : old.sound := hold ▸ memD_sound Has.out key
              have hoc : old.count ≤ acc.count := hold ▸ memD_count acc key
              have Hos := Lib.hid hos
              have Hms := Lib.hid (show q.mstep key acc = acc.put key (q.mrg old) by rw [← hold]; unfold V.mstep; rw [if_neg hq0]; rfl)
              have Hold := Lib.hid hold
              clear hq0 hold hos
              go_wp2_with fail
              (refine (member_any acc key ka2 kc2 la2 lc2 SS _ hasz (Hin2.out.ext Xt)).mono ?_)
              rw [Hold.out]
              rintro e w1 ⟨ka5, kc5, la5, lc5, rfl, hin5, h1⟩
              have Hin5 := Lib.hid (hin5.mono (T := SS) fun b h _ => h.elim id (fun h => HS2.out b (by (try simp at h); omega)))
              have hB0 := Box.ext h1 hB0
              have hB1 := Box.ext h1 hB1
              have hB2 := Box.ext h1 hB2
              have Hin2 := Lib.hid (V.In.ext (w' := w1) Hin2.out Xt)
              have Hin3 := Lib.hid (V.In.ext (w' := w1) Hin3.out Xt)
              have hx1 : Ext w w1 := Xt
              have d0 := h1.cell d0; have d1 := h1.cell d1; have d2 := h1.cell d2; have d3 := h1.cell d3; have d4 := h1.cell d4
              clear hin5 hc0 hf0 hl0 hc1 hf1 hl1 hx e0 h1
              go_upto_region 11 with fail
              refine gen_world (R := fun wx => Box wx w.heap.size #[.int .i64 acc.k, .int .i64 acc.n, .string acc.s, .slice ka2 acc.keys.length kc2, .slice la2 acc.l.length lc2] 25 ∧ Box wx (w.heap.size + 1) #[.int .i64 p.k, .int .i64 p.n, .string p.s, .slice (some ⟨b1, o1, none⟩) p.keys.length kd, .slice (some ⟨b2, o2, none⟩) p.l.length ld] 25 ∧ Box wx (w.heap.size + 2) #[.int .i64 0, .int .i64 0, .string ⟨#[]⟩, .slice none 0 0, .slice none 0 0] 25 ∧ Box wx w1.heap.size #[.int .i64 old.k, .int .i64 old.n, .string old.s, .slice ka5 old.keys.length kc5, .slice la5 old.l.length lc5] 25 ∧ Ext w1 wx) ⟨Bxt, Bxt, Bxt, Bxt, Xt⟩ ?_
              clear hB0 hB1 hB2
              rintro wb ⟨hB0, hB1, hB2, hB5, hxb⟩
              have Hin2 := Lib.hid (V.In.ext Hin2.out hxb)
              have Hin3 := Lib.hid (V.In.ext Hin3.out hxb)
              have Hin5 := Lib.hid (V.In.ext Hin5.out hxb)
              have d0 := hxb.cell d0; have d1 := hxb.cell d1; have d2 := hxb.cell d2; have d3 := hxb.cell d3; have d4 := hxb.cell d4
              have hxb := hx1.trans hxb
              clear hx1
              have Sof : ∀ w', Ext wb w' → (w'.cell? ⟨w.heap.size, 0, none⟩ = some (.int .i64 acc.k) ∧ w'.cell? ⟨w.heap.size, 1, none⟩ = some (.int .i64 acc.n) ∧ w'.cell? ⟨w.heap.size, 2, none⟩ = some (.string acc.s) ∧ w'.cell? ⟨w.heap.size, 3, none⟩ = some (.slice ka2 acc.keys.length kc2) ∧ w'.cell? ⟨w.heap.size, 4, none⟩ = some (.slice la2 acc.l.length lc2) ∧ w'.cell? ⟨w1.heap.size, 0, none⟩ = some (.int .i64 old.k) ∧ w'.cell? ⟨w1.heap.size, 1, none⟩ = some (.int .i64 old.n) ∧ w'.cell? ⟨w1.heap.size, 2, none⟩ = some (.string old.s) ∧ w'.cell? ⟨w1.heap.size, 3, none⟩ = some (.slice ka5 old.keys.length kc5) ∧ w'.cell? ⟨w1.heap.size, 4, none⟩ = some (.slice la5 old.l.length lc5) ∧ w'.cell? ⟨w.heap.size + 1, 4, none⟩ = some (.slice (some ⟨b2, o2, none⟩) p.l.length ld) ∧ w'.cell? ⟨b2, o2 + k * 5, none⟩ = some (.int .i64 q.k) ∧ w'.cell? ⟨b2, o2 + k * 5 + 1, none⟩ = some (.int .i64 q.n) ∧ w'.cell? ⟨b2, o2 + k * 5 + 2, none⟩ = some (.string q.s) ∧ w'.cell? ⟨b2, o2 + k * 5 + 3, none⟩ = some (.slice ka3 q.keys.length kc3) ∧ w'.cell? ⟨b2, o2 + k * 5 + 4, none⟩ = some (.slice la3 q.l.length lc3)) :=
                fun w' e => ⟨e.cell (hB0.cells 0), e.cell (hB0.cells 1), e.cell (hB0.cells 2), e.cell (hB0.cells 3), e.cell (hB0.cells 4), e.cell (hB5.cells 0), e.cell (hB5.cells 1), e.cell (hB5.cells 2), e.cell (hB5.cells 3), e.cell (hB5.cells 4), e.cell (hB1.cells 4), e.cell d0, e.cell d1, e.cell d2, e.cell d3, e.cell d4⟩
              have hbl := hB5.lt
              have hz3b := hB2.lt
              refine wp_region_till (S := fun w' => w'.cell? ⟨w.heap.size, 0, none⟩ = some (.int .i64 acc.k) ∧ w'.cell? ⟨w.heap.size, 1, none⟩ = some (.int .i64 acc.n) ∧ w'.cell? ⟨w.heap.size, 2, none⟩ = some (.string acc.s) ∧ w'.cell? ⟨w.heap.size, 3, none⟩ = some (.slice ka2 acc.keys.length kc2) ∧ w'.cell? ⟨w.heap.size, 4, none⟩ = some (.slice la2 acc.l.length lc2) ∧ w'.cell? ⟨w1.heap.size, 0, none⟩ = some (.int .i64 old.k) ∧ w'.cell? ⟨w1.heap.size, 1, none⟩ = some (.int .i64 old.n) ∧ w'.cell? ⟨w1.heap.size, 2, none⟩ = some (.string old.s) ∧ w'.cell? ⟨w1.heap.size, 3, none⟩ = some (.slice ka5 old.keys.length kc5) ∧ w'.cell? ⟨w1.heap.size, 4, none⟩ = some (.slice la5 old.l.length lc5) ∧ w'.cell? ⟨w.heap.size + 1, 4, none⟩ = some (.slice (some ⟨b2, o2, none⟩) p.l.length ld) ∧ w'.cell? ⟨b2, o2 + k * 5, none⟩ = some (.int .i64 q.k) ∧ w'.cell? ⟨b2, o2 + k * 5 + 1, none⟩ = some (.int .i64 q.n) ∧ w'.cell? ⟨b2, o2 + k * 5 + 2, none⟩ = some (.string q.s) ∧ w'.cell? ⟨b2, o2 + k * 5 + 3, none⟩ = some (.slice ka3 q.keys.length kc3) ∧ w'.cell? ⟨b2, o2 + k * 5 + 4, none⟩ = some (.slice la3 q.l.length lc3)) (c := 10) (by kernel_rfl) ?_
              (refine wpAnyT_take (i := 0) (v := ?_) [9, 10] (Array.getElem?_eq_getElem (by decide)) (by kernel_rfl) (by kernel_rfl) (by kernel_rfl) (by kernel_rfl) rfl rfl (by kernel_rfl) (fun _ _ _ h => h) (Or.inl ⟨by kernel_rfl, ?_⟩) (Sof _ Xt) ?_); rotate_left; (focus (intro w hSw; (try dsimp only at hSw); (try simp only [rl]); go_simp; (try with_reducible rfl))); (try simp only [rl])
              (refine wpAnyT_take (i := 1) (v := ?_) [9, 10] (Array.getElem?_eq_getElem (by decide)) (by kernel_rfl) (by kernel_rfl) (by kernel_rfl) (by kernel_rfl) rfl rfl (by kernel_rfl) (fun _ _ _ h => h) (Or.inl ⟨by kernel_rfl, ?_⟩) (Sof _ Xt) ?_); rotate_left; (focus (intro w hSw; (try dsimp only at hSw); (try simp only [rl]); go_simp; (try with_reducible rfl))); (try simp only [rl])
              (refine wpAnyT_take (i := 2) (v := ?_) [8, 9, 10] (Array.getElem?_eq_getElem (by decide)) (by kernel_rfl) (by kernel_rfl) (by kernel_rfl) (by kernel_rfl) rfl rfl (by kernel_rfl) (fun _ _ _ h => h) (Or.inl ⟨by kernel_rfl, ?_⟩) (Sof _ Xt) ?_); rotate_left; (focus (intro w hSw; (try dsimp only at hSw); (try simp only [rl]); go_simp; (try with_reducible rfl))); (try simp only [rl])
              (refine wpAnyT_take (i := 3) (v := ?_) [4, 6, 7, 8, 9, 10] (Array.getElem?_eq_getElem (by decide)) (by kernel_rfl) (by kernel_rfl) (by kernel_rfl) (by kernel_rfl) rfl rfl (by kernel_rfl) (fun _ _ _ h => h) (Or.inl ⟨by kernel_rfl, ?_⟩) (Sof _ Xt) ?_); rotate_left; (focus (intro w hSw; (try dsimp only at hSw); (try simp only [rl]); go_simp; (try with_reducible rfl))); (try simp only [rl])
              (refine wpAnyT_take (i := 4) (v := ?_) [6, 7, 8, 9, 10] (Array.getElem?_eq_getElem (by decide)) (by kernel_rfl) (by kernel_rfl) (by kernel_rfl) (by kernel_rfl) rfl rfl (by kernel_rfl) (fun _ _ _ h => h) (Or.inl ⟨by kernel_rfl, ?_⟩) (Sof _ Xt) ?_); rotate_left; (focus (intro w hSw; (try dsimp only at hSw); (try simp only [rl]); go_simp; (try with_reducible rfl))); (try simp only [rl])
              (refine wpAnyT_take (i := 5) (v := ?_) [6, 7, 8, 9, 10] (Array.getElem?_eq_getElem (by decide)) (by kernel_rfl) (by kernel_rfl) (by kernel_rfl) (by kernel_rfl) rfl rfl (by kernel_rfl) (fun _ _ _ h => h) (Or.inl ⟨by kernel_rfl, ?_⟩) (Sof _ Xt) ?_); rotate_left; (focus (intro w hSw; (try dsimp only at hSw); (try simp only [rl]); go_simp; (try with_reducible rfl))); (try simp only [rl])
              (refine wpAnyT_take (i := 6) (v := ?_) [7, 8, 9, 10] (Array.getElem?_eq_getElem (by decide)) (by kernel_rfl) (by kernel_rfl) (by kernel_rfl) (by kernel_rfl) rfl rfl (by kernel_rfl) (fun _ _ _ h => h) (Or.inl ⟨by kernel_rfl, ?_⟩) (Sof _ Xt) ?_); rotate_left; (focus (intro w hSw; (try dsimp only at hSw); (try simp only [rl]); go_simp; (try with_reducible rfl))); (try simp only [rl])
              (refine wpAnyT_take (i := 7) (v := ?_) [8, 9, 10] (Array.getElem?_eq_getElem (by decide)) (by kernel_rfl) (by kernel_rfl) (by kernel_rfl) (by kernel_rfl) rfl rfl (by kernel_rfl) (fun _ _ _ h => h) (Or.inl ⟨by kernel_rfl, ?_⟩) (Sof _ Xt) ?_); rotate_left; (focus (intro w hSw; (try dsimp only at hSw); (try simp only [rl]); go_simp; (try with_reducible rfl))); (try simp only [rl])
              (refine wpAnyT_one (i := 8) (by kernel_rfl) (Array.getElem?_eq_getElem (by decide)) fun K hK => ?_); (try simp only [rl])
              (try go_simp)
              (refine (Ih.out q old ka5 kc5 la5 lc5 ka3 kc3 la3 lc3 SS _ (by omega) Hqs.out Hos.out (by omega) (Hin5.out.ext Xt) (Hin3.out.ext Xt)).mono ?_); rintro e w5 ⟨ka6, kc6, la6, lc6, rfl, hin6, h5⟩
              have Hin6 := Lib.hid (hin6.mono (T := SS) fun b h _ => h.elim id (fun h => HS2.out b (by (try simp at h); omega)))
              (try go_simp)
              refine hK.out _ _ (fun _ => Sof _ Xt) ?_; clear hK K; (try simp only [rl])
              (refine wpAnyT_one (i := 9) (by kernel_rfl) (Array.getElem?_eq_getElem (by decide)) fun K hK => ?_); (try simp only [rl])
              (try go_simp)
              (refine (with_any acc ka2 kc2 la2 lc2 key (q.mrg old) ka6 kc6 la6 lc6 SS _ hasz Hobj.out.rise (Hin2.out.ext Xt) (V.In.ext (w := w5) Hin6.out Xt)).mono ?_); rintro e w6 ⟨ka7, kc7, la7, lc7, rfl, hin7, h6⟩
              have hz5 := Ext.size h5
              have Hin7 := Lib.hid (hin7.mono (T := SS) fun b h _ => h.elim id (fun h => HS2.out b (by (try simp at h hz5); omega)))
              clear hz5
              (try go_simp)
              refine hK.out _ _ (fun _ => Sof _ Xt) ?_; clear hK K; (try simp only [rl])
              have hB0 : Box w6 w.heap.size #[.int .i64 acc.k, .int .i64 acc.n, .string acc.s, .slice ka2 acc.keys.length kc2, .slice la2 acc.l.length lc2] 25 := Box.ext (w := wb) Xt hB0
              have hB1 : Box w6 (w.heap.size + 1) #[.int .i64 p.k, .int .i64 p.n, .string p.s, .slice (some ⟨b1, o1, none⟩) p.keys.length kd, .slice (some ⟨b2, o2, none⟩) p.l.length ld] 25 := Box.ext (w := wb) Xt hB1
              have hB2 : Box w6 (w.heap.size + 2) #[.int .i64 0, .int .i64 0, .string ⟨#[]⟩, .slice none 0 0, .slice none 0 0] 25 := Box.ext (w := wb) Xt hB2
              have hx6 : Ext w w6 := Xt
              clear Sof h5 h6 hxb d0 d1 d2 d3 d4 hB5
              have hc0 := hB0.cells; have hf0 := hB0.free; have hl0 := hB0.lt
              (refine wpAnyT_one (i := 10) (by kernel_rfl) (Array.getElem?_eq_getElem (by decide)) fun K hK => ?_); (try simp only [rl])
              go_simp
              (refine hK.out _ _ (fun h => Bool.noConfusion (show true = false from h)) ?_); clear hK K; (try simp only [rl])
              refine wpAnyT_done (by kernel_rfl) ?_ _
              have Hs := Lib.hid (Hstep.out.trans Hms.out)
              clear hin6
              go_wp2_with fail
              go_roundg (p.l.length - (k + 1))
              case measure => omega
              case rel => exact ⟨k + 1, acc.put key (q.mrg old), ka7, kc7, la7, lc7, by omega, by go_num, rfl, Bxt, Hin7.out.keep (Held.kept (Held.mono (a := w6) (S := fun b => b ≠ w.heap.size) Hxt HS3.out)) (fun b hb _ => hb), Hs, Bxt, Bxt, Xt⟩
          · obtain rfl : k = p.l.length := by omega
            have hke : ¬ p.l.length < p.keys.length := by rw [Hlen.out]; omega
            have hkd : decide (p.l.length < p.keys.length) = false := by simpa using hke
            have hc2 := hB2.cells; have hf2 := hB2.free; have hl2 := hB2.lt
            have Hend := Lib.hid (show p.mrg v = acc by rw [mrg_eq, if_pos H5.out, HU.out, ← Hacc.out, List.take_of_length_le (Nat.le_refl _), List.take_of_length_le (by rw [Hlen.out]; exact Nat.le_refl _)])
            go_wp2_with fail
            (with_reducible apply bp_ret); (focus (go_light; simp [results, Tryz.results101, go_sem, *]; rfl))
            rw [Hend.out]
            exact ⟨ka2, kc2, la2, lc2, rfl, Hin2.out.keep (Held.kept (Held.mono (a := wr) (S := fun b => b ≠ w.heap.size + 2) Hxt HS5.out)) (fun b hb _ => HS4.out b hb), Xt⟩
    · have h5b : (p.k != 5) = true := by simpa using h5
      have Hr := Lib.hid (show p.mrg v = p by rw [mrg_eq, if_neg h5])
      clear h5 hp hv
      go_enter Tryz.func101, Tryz.ntmps101
      go_wp2_with fail
      (with_reducible apply bp_ret); (focus (go_light; simp [results, Tryz.results101, go_sem, *]; rfl))
      rw [Hr.out]
      exact ⟨kb, kd, lb, ld, rfl, Hjn.out.keep (Held.kept (Held.mono (a := w) (S := fun b => b ≠ w.heap.size + 2) Hxt HS5.out)) (fun b hb _ => HS4.out b hb), Xt⟩
end Go.Proofs.YtnbappeiebameaaGreatDoor
