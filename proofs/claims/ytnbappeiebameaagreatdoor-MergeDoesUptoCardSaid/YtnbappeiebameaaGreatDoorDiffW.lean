/- The walk of merge.diff. -/
import Derived.Test.YtnbappeiebameaaGreatDoorMergeW
import Derived.Test.YtnbappeiebameaaGreatDoorSameJ
import Derived.Test.YtnbappeiebameaaGreatDoorPkA
set_option linter.all false
namespace Go.Proofs.YtnbappeiebameaaGreatDoor
open Go.RowKit
attribute [local go_sem ↓] Go.wp_at_zero Go.wp_at_succ

theorem gone_facts {a b acc : V} {k : Nat} (ha : a.sound) (hk : k ≤ a.keys.length) (h : b.gone (a.keys.take k) V.none5 = acc) : acc.sound ∧ acc.k = 5 ∧ acc.count ≤ 1 + a.keys.length := by
  obtain ⟨h1, h2, h3⟩ := gone_sound b (a.keys.take k) V.none5 (fun z hz => ha.flat.kp z (List.mem_of_mem_take hz)) none5_sound rfl
  rw [h] at h1 h2 h3
  have e : V.none5.count = 1 := by rw [V.count_eq]; rfl
  have := List.length_take_le k a.keys
  exact ⟨h1, h2, by omega⟩
theorem gone_next {a b acc : V} {k : Nat} (hk : k < a.keys.length) (h : b.gone (a.keys.take k) V.none5 = acc) : b.gone (a.keys.take (k + 1)) V.none5 = if (b.member a.keys[k]).isSome = true then acc else acc.put a.keys[k] V.zero := by
  rw [List.take_succ_eq_append_getElem hk, gone_snoc, h]
  cases b.member a.keys[k] <;> simp
theorem dgo_facts {a b u acc : V} {k : Nat} (ha : a.sound) (hb : b.sound) (h5 : b.k = 5) (hac : a.count ≤ 120) (hu : u.sound) (hu5 : u.k = 5) (hk : k ≤ b.l.length) (h : V.dif.go a (b.l.take k) (b.keys.take k) u = acc) :
    acc.sound ∧ acc.k = 5 ∧ acc.count ≤ u.count + b.count * 121 := by
  have hlen := hb.flat.len h5
  have hl : (b.keys.take k).length = (b.l.take k).length := by simp; omega
  obtain ⟨h1, h2, h3⟩ := dgo_sound (M := 120) ha hac (b.l.take k) (b.keys.take k) u (fun q hq => ⟨hb.item (List.mem_of_mem_take hq), fun z hz hM => dif_sound 120 q (hb.item (List.mem_of_mem_take hq)) z hz hM⟩) (fun z hz => hb.flat.kp z (List.mem_of_mem_take hz)) hu hu5 hl
  rw [h] at h1 h2 h3
  have e : (b.l.map V.count).sum = ((b.l.take k).map V.count).sum + ((b.l.drop k).map V.count).sum := by rw [← List.sum_append, ← List.map_append, List.take_append_drop]
  have e2 := V.count_eq b
  refine ⟨h1, h2, ?_⟩
  have : ((b.l.take k).map V.count).sum * 121 ≤ b.count * 121 := Nat.mul_le_mul_right _ (by omega)
  omega
theorem dgo_next {a b u acc : V} {k : Nat} (h1 : k < b.l.length) (h2 : k < b.keys.length) (h : V.dif.go a (b.l.take k) (b.keys.take k) u = acc) : V.dif.go a (b.l.take (k + 1)) (b.keys.take (k + 1)) u = V.dstep a b.l[k] b.keys[k] acc := by
  rw [List.take_succ_eq_append_getElem h1, List.take_succ_eq_append_getElem h2, dgo_snoc _ _ _ _ _ _ (by simp; omega), h]

set_option maxRecDepth 100000 in
set_option maxHeartbeats 8000000 in
theorem diffI_any (m : Nat) : ∀ (b a : V) (ka : Option Addr) (kc : Nat) (la : Option Addr) (lc : Nat) (kb : Option Addr) (kd : Nat) (lb : Option Addr) (ld : Nat) (S : Nat → Prop) (w : World), b.size ≤ m → b.sound → a.sound → a.count ≤ 120 → b.count ≤ 120 → a.In w S ka kc la lc → b.In w S kb kd lb ld →
    Calls Tryz.prog 103 #[a.val ka kc la lc, b.val kb kd lb ld] w (RetV S (b.dif a) w) := by
  induction m with
  | zero => intro b _ _ _ _ _ _ _ _ _ _ _ h; have := b.size_pos; omega
  | succ m ih =>
    intro b a ka kc la lc kb kd lb ld S w hm hb ha hac hbc hin hjn
    have Ih := Lib.hid ih
    obtain ⟨SS, hSS⟩ : ∃ SS : Nat → Prop, SS = fun b => (S b ∧ b < w.heap.size) ∨ w.heap.size + 4 ≤ b := ⟨_, rfl⟩
    have Hin := Lib.hid (show a.In w SS ka kc la lc from hin.mono fun b h hl => by rw [hSS]; exact .inl ⟨h, hl⟩)
    have Hjn := Lib.hid (show b.In w SS kb kd lb ld from hjn.mono fun b h hl => by rw [hSS]; exact .inl ⟨h, hl⟩)
    have HS2 := Lib.hid (show ∀ b, w.heap.size + 4 ≤ b → SS b from fun b h => by rw [hSS]; exact .inr h)
    have HS3 := Lib.hid (show ∀ b, SS b → b ≠ w.heap.size + 3 from fun b h => by rw [hSS] at h; rcases h with h | h <;> omega)
    have HS5 := Lib.hid (show ∀ b, SS b → b ≠ w.heap.size + 2 from fun b h => by rw [hSS] at h; rcases h with h | h <;> omega)
    have HS4 := Lib.hid (show ∀ b, SS b → Plus S w b from fun b h => by rw [hSS] at h; exact h.elim (fun h => .inl h.1) (fun h => .inr (by omega)))
    clear hSS
    have hbl := b.len_l
    have hbk := b.len_keys
    have hal := a.len_l
    have hak := a.len_keys
    have hasz0 : a.size ≤ 14640 := by have := sound_size ha; omega
    have hbsz0 : b.size ≤ 14640 := by have := sound_size hb; omega
    have Ha := Lib.hid ha
    have Hb := Lib.hid hb
    clear ih hin hjn
    by_cases h5 : a.k ≠ 5 ∨ b.k ≠ 5
    · have Hr := Lib.hid (show b.dif a = b by rw [dif_eq, if_pos h5])
      clear ha hb
      by_cases ha5 : a.k = 5
      · have hb5 : ¬ b.k = 5 := h5.resolve_left (fun h => h ha5)
        have ha5b : (a.k != 5) = false := by simpa using ha5
        have hb5b : (b.k != 5) = true := by simpa using hb5
        clear h5 ha5 hb5
        go_enter Tryz.func103, Tryz.ntmps103
        go_wp2_with fail
        (with_reducible apply bp_ret); (focus (go_light; simp [results, Tryz.results103, go_sem, *]; rfl))
        rw [Hr.out]
        exact ⟨kb, kd, lb, ld, rfl, Hjn.out.keep (Held.kept (Held.mono (a := w) (S := fun b => b ≠ w.heap.size + 2) Hxt HS5.out)) (fun b hb _ => HS4.out b hb), Xt⟩
      · have ha5b : (a.k != 5) = true := by simpa using ha5
        clear h5 ha5
        go_enter Tryz.func103, Tryz.ntmps103
        go_wp2_with fail
        (with_reducible apply bp_ret); (focus (go_light; simp [results, Tryz.results103, go_sem, *]; rfl))
        rw [Hr.out]
        exact ⟨kb, kd, lb, ld, rfl, Hjn.out.keep (Held.kept (Held.mono (a := w) (S := fun b => b ≠ w.heap.size + 2) Hxt HS5.out)) (fun b hb _ => HS4.out b hb), Xt⟩
    · have h5' : a.k = 5 ∧ b.k = 5 := by
        constructor
        · exact Classical.byContradiction fun e => h5 (.inl e)
        · exact Classical.byContradiction fun e => h5 (.inr e)
      have ha5b : (a.k != 5) = false := by simpa using h5'.1
      have hb5b : (b.k != 5) = false := by simpa using h5'.2
      have Hlen := Lib.hid (hb.flat.len h5'.2)
      have hac1 : a.keys.length ≤ 120 := by have h1 := ha.flat.len h5'.1; have h2 := sum_len V.count V.count_pos a.l; have h3 := V.count_eq a; omega
      have Hr := Lib.hid (show b.dif a = V.dif.go a b.l b.keys (b.gone a.keys V.none5) by rw [dif_eq, if_neg h5])
      have H5 := Lib.hid h5'
      clear h5 h5' ha hb
      go_enter Tryz.func103, Tryz.ntmps103
      go_upto_region 4 with fail
      refine gen_world (R := fun wx => Box wx w.heap.size #[.int .i64 a.k, .int .i64 a.n, .string a.s, .slice ka a.keys.length kc, .slice la a.l.length lc] 25 ∧ Box wx (w.heap.size + 1) #[.int .i64 b.k, .int .i64 b.n, .string b.s, .slice kb b.keys.length kd, .slice lb b.l.length ld] 25 ∧ Box wx (w.heap.size + 2) #[.int .i64 0, .int .i64 0, .string ⟨#[]⟩, .slice none 0 0, .slice none 0 0] 25 ∧ Box wx (w.heap.size + 3) #[.int .i64 5, .int .i64 0, .string ⟨#[]⟩, .slice none 0 0, .slice none 0 0] 25 ∧ Ext w wx) ⟨Bxt, Bxt, Bxt, Bxt, Xt⟩ ?_
      rintro wa ⟨hB0, hB1, hB2, hB3, hxa⟩
      have hc0 := hB0.cells; have hf0 := hB0.free; have hl0 := hB0.lt
      go_wp2_with fail
      go_loopg [7, 8, 9, 27] a.keys.length (fun g _ _ _ i wr => ∃ (k : Nat) (acc : V) (ka2 : Option Addr) (kc2 : Nat) (la2 : Option Addr) (lc2 : Nat), k ≤ a.keys.length ∧ i = .int .i64 k ∧ g = a.keys.length - k ∧ Box wr (w.heap.size + 3) #[.int .i64 acc.k, .int .i64 acc.n, .string acc.s, .slice ka2 acc.keys.length kc2, .slice la2 acc.l.length lc2] 25 ∧ acc.In wr SS ka2 kc2 la2 lc2 ∧ Hid (b.gone (a.keys.take k) V.none5 = acc) ∧ Box wr w.heap.size #[.int .i64 a.k, .int .i64 a.n, .string a.s, .slice ka a.keys.length kc, .slice la a.l.length lc] 25 ∧ Box wr (w.heap.size + 1) #[.int .i64 b.k, .int .i64 b.n, .string b.s, .slice kb b.keys.length kd, .slice lb b.l.length ld] 25 ∧ Box wr (w.heap.size + 2) #[.int .i64 0, .int .i64 0, .string ⟨#[]⟩, .slice none 0 0, .slice none 0 0] 25 ∧ Ext w wr)
      case atStart => exact ⟨0, V.none5, none, 0, none, 0, by omega, rfl, rfl, hB3, (V.in_iff ..).2 ⟨SlOk.nil, SlOk.nil, .inl rfl, .inl rfl⟩, Lib.hid (by rw [List.take_zero, V.gone]), hB0, hB1, hB2, hxa⟩
      case round =>
        clear hB0 hB1 hB2 hB3 hxa hc0 hf0 hl0
        obtain ⟨k, acc, ka2, kc2, la2, lc2, hk, rfl, rfl, hB3, hin2, Hacc, hB0, hB1, hB2, hx⟩ := hrel
        have Hin2 := Lib.hid hin2
        clear hin2
        obtain ⟨has, ha5, hcc⟩ := gone_facts Ha.out hk Hacc.out
        have hobj := sound_obj has ha5
        have hasz : acc.size ≤ 1073741824 := by have := sound_size has; omega
        have Has := Lib.hid has
        have Hobj := Lib.hid hobj
        have Ha5 := Lib.hid ha5
        clear has hobj ha5
        have hz3 := hB3.lt
        have hc0 := hB0.cells; have hf0 := hB0.free; have hl0 := hB0.lt
        have hc1 := hB1.cells; have hf1 := hB1.free; have hl1 := hB1.lt
        have hc3 := hB3.cells; have hf3 := hB3.free; have hl3 := hB3.lt
        by_cases hlt : k < a.keys.length
        · obtain ⟨b1, o1, rfl, -, e0⟩ := Hin.out.key hlt
          have e0 := hx.cell e0
          have Hstep := Lib.hid (gone_next hlt Hacc.out)
          have hki0 : (0 : Int) ≤ (k : Int) := by omega
          have hki1 : (k : Int) < (a.keys.length : Int) := by omega
          obtain ⟨key, hkey⟩ : ∃ key, a.keys[k] = key := ⟨_, rfl⟩
          rw [hkey] at e0
          have Hstep := Lib.hid (show b.gone (a.keys.take (k + 1)) V.none5 = if (b.member key).isSome = true then acc else acc.put key V.zero by rw [← hkey]; exact Hstep.out)
          clear hkey
          obtain ⟨old, hold⟩ : ∃ old, b.memD key = old := ⟨_, rfl⟩
          have Hold := Lib.hid hold
          clear hold
          go_wp2_with fail
          (refine (member_any b key kb kd lb ld SS _ (by omega) (Hjn.out.ext Xt)).mono ?_)
          rw [Hold.out]
          cases hs : (b.member key).isSome with
          | true =>
            rintro e w1 ⟨ka5, kc5, la5, lc5, rfl, -, h1⟩
            have Hs := Lib.hid (show b.gone (a.keys.take (k + 1)) V.none5 = acc by rw [Hstep.out, if_pos hs])
            have hB0 := Box.ext h1 hB0
            have hB1 := Box.ext h1 hB1
            have hB2 := Box.ext h1 hB2
            have hB3 := Box.ext h1 hB3
            have Hin2 := Lib.hid (V.In.ext (w' := w1) Hin2.out h1)
            have hx1 := hx.trans h1
            clear h1 hx hs e0 hc0 hf0 hl0 hc1 hf1 hl1 hc3 hf3 hl3
            go_wp2_with fail
            go_roundg (a.keys.length - (k + 1))
            case measure => omega
            case rel => exact ⟨k + 1, acc, ka2, kc2, la2, lc2, by omega, by go_num, rfl, Bxt, Hin2.out.ext Xt, Hs, Bxt, Bxt, Bxt, Xt⟩
          | false =>
            rintro e w1 ⟨ka5, kc5, la5, lc5, rfl, -, h1⟩
            have Hs := Lib.hid (show b.gone (a.keys.take (k + 1)) V.none5 = acc.put key V.zero by rw [Hstep.out, if_neg (by rw [hs]; decide)])
            have hB0 := Box.ext h1 hB0
            have hB1 := Box.ext h1 hB1
            have hB2 := Box.ext h1 hB2
            have hB3 := Box.ext h1 hB3
            have Hin2 := Lib.hid (V.In.ext (w' := w1) Hin2.out h1)
            have hx1 := hx.trans h1
            clear h1 hx hs e0 hc0 hf0 hl0 hc1 hf1 hl1 hc3 hf3 hl3
            go_upto_region 9 with fail
            refine gen_world (R := fun wx => Box wx w.heap.size #[.int .i64 a.k, .int .i64 a.n, .string a.s, .slice (some ⟨b1, o1, none⟩) a.keys.length kc, .slice la a.l.length lc] 25 ∧ Box wx (w.heap.size + 1) #[.int .i64 b.k, .int .i64 b.n, .string b.s, .slice kb b.keys.length kd, .slice lb b.l.length ld] 25 ∧ Box wx (w.heap.size + 2) #[.int .i64 0, .int .i64 0, .string ⟨#[]⟩, .slice none 0 0, .slice none 0 0] 25 ∧ Box wx (w.heap.size + 3) #[.int .i64 acc.k, .int .i64 acc.n, .string acc.s, .slice ka2 acc.keys.length kc2, .slice la2 acc.l.length lc2] 25 ∧ acc.In wx SS ka2 kc2 la2 lc2 ∧ Ext w wx) ⟨Bxt, Bxt, Bxt, Bxt, Hin2.out.ext Xt, Xt⟩ ?_
            clear hB0 hB1 hB2 hB3 Hin2 hx1
            rintro wb ⟨hB0, hB1, hB2, hB3, hin2, hxb⟩
            have Hin2 := Lib.hid hin2
            clear hin2
            have hz3b := hB3.lt
            have hc3 := hB3.cells; have hf3 := hB3.free; have hl3 := hB3.lt
            go_wp2_with fail
            (refine (with_any acc ka2 kc2 la2 lc2 key V.zero none 0 none 0 SS _ hasz Hobj.out.rise (Hin2.out.ext Xt) (V.zero_in _ _)).mono ?_)
            rintro e w6 ⟨ka7, kc7, la7, lc7, rfl, hin7, h6⟩
            have Hin7 := Lib.hid (hin7.mono (T := SS) fun b h _ => h.elim id (fun h => HS2.out b (by (try simp at h); omega)))
            have hB0 := Box.ext h6 hB0
            have hB1 := Box.ext h6 hB1
            have hB2 := Box.ext h6 hB2
            have hB3 := Box.ext h6 hB3
            have hx6 := hxb.trans h6
            clear h6 hxb hin7 hc3 hf3 hl3
            have hc3 := hB3.cells; have hf3 := hB3.free; have hl3 := hB3.lt
            go_wp2_with fail
            go_roundg (a.keys.length - (k + 1))
            case measure => omega
            case rel => exact ⟨k + 1, acc.put key V.zero, ka7, kc7, la7, lc7, by omega, by go_num, rfl, Bxt, Hin7.out.keep (Held.kept (Held.mono (a := w6) (S := fun b => b ≠ w.heap.size + 3) Hxt HS3.out)) (fun b hb _ => hb), Hs, Bxt, Bxt, Bxt, Xt⟩
        · obtain rfl : k = a.keys.length := by omega
          have Hu := Lib.hid (show b.gone a.keys V.none5 = acc by rw [← Hacc.out, List.take_of_length_le (Nat.le_refl _)])
          clear Hacc
          go_upto_region 11 with fail
          refine gen_world (R := fun wx => Box wx w.heap.size #[.int .i64 a.k, .int .i64 a.n, .string a.s, .slice ka a.keys.length kc, .slice la a.l.length lc] 25 ∧ Box wx (w.heap.size + 1) #[.int .i64 b.k, .int .i64 b.n, .string b.s, .slice kb b.keys.length kd, .slice lb b.l.length ld] 25 ∧ Box wx (w.heap.size + 2) #[.int .i64 0, .int .i64 0, .string ⟨#[]⟩, .slice none 0 0, .slice none 0 0] 25 ∧ Box wx (w.heap.size + 3) #[.int .i64 acc.k, .int .i64 acc.n, .string acc.s, .slice ka2 acc.keys.length kc2, .slice la2 acc.l.length lc2] 25 ∧ acc.In wx SS ka2 kc2 la2 lc2 ∧ Ext w wx) ⟨Bxt, Bxt, Bxt, Bxt, Hin2.out.ext Xt, Xt⟩ ?_
          clear hB0 hB1 hB2 hB3 Hin2 hx hc0 hf0 hl0 hc1 hf1 hl1 hc3 hf3 hl3
          rintro wa2 ⟨hB0, hB1, hB2, hB3, hin2, hxa⟩
          have Hin2 := Lib.hid hin2
          clear hin2
          obtain ⟨u, hu⟩ : ∃ u, u = acc := ⟨_, rfl⟩
          subst hu
          have Hus := Lib.hid (show u.sound ∧ u.k = 5 from ⟨Has.out, Ha5.out⟩)
          have hcu := hcc
          clear Has Ha5 Hobj hcc hasz
          have hc1 := hB1.cells; have hf1 := hB1.free; have hl1 := hB1.lt
          go_wp2_with fail
          go_loopg [10, 11, 12, 13, 47, 66, 77] b.l.length (fun g _ _ _ _ i _ _ wr => ∃ (k : Nat) (acc : V) (ka2 : Option Addr) (kc2 : Nat) (la2 : Option Addr) (lc2 : Nat), k ≤ b.l.length ∧ i = .int .i64 k ∧ g = b.l.length - k ∧ Box wr (w.heap.size + 3) #[.int .i64 acc.k, .int .i64 acc.n, .string acc.s, .slice ka2 acc.keys.length kc2, .slice la2 acc.l.length lc2] 25 ∧ acc.In wr SS ka2 kc2 la2 lc2 ∧ Hid (V.dif.go a (b.l.take k) (b.keys.take k) u = acc) ∧ Box wr w.heap.size #[.int .i64 a.k, .int .i64 a.n, .string a.s, .slice ka a.keys.length kc, .slice la a.l.length lc] 25 ∧ Box wr (w.heap.size + 1) #[.int .i64 b.k, .int .i64 b.n, .string b.s, .slice kb b.keys.length kd, .slice lb b.l.length ld] 25 ∧ Box wr (w.heap.size + 2) #[.int .i64 0, .int .i64 0, .string ⟨#[]⟩, .slice none 0 0, .slice none 0 0] 25 ∧ Ext w wr)
          case atStart => exact ⟨0, u, ka2, kc2, la2, lc2, by omega, rfl, rfl, hB3, Hin2.out, Lib.hid (by rw [List.take_zero, dgo_nil]), hB0, hB1, hB2, hxa⟩
          case round =>
            clear hB0 hB1 hB2 hB3 hxa hc1 hf1 hl1 Hin2
            obtain ⟨k, acc, ka2, kc2, la2, lc2, hk, rfl, rfl, hB3, hin2, Hacc, hB0, hB1, hB2, hx⟩ := hrel
            have Hin2 := Lib.hid hin2
            clear hin2
            obtain ⟨has, ha5, hcc⟩ := dgo_facts Ha.out Hb.out H5.out.2 hac Hus.out.1 Hus.out.2 hk Hacc.out
            have hobj := sound_obj has ha5
            have hasz : acc.size ≤ 1073741824 := by have := sound_size has; omega
            have Hobj := Lib.hid hobj
            clear has hobj ha5
            have hz3 := hB3.lt
            have hc0 := hB0.cells; have hf0 := hB0.free; have hl0 := hB0.lt
            have hc1 := hB1.cells; have hf1 := hB1.free; have hl1 := hB1.lt
            by_cases hlt : k < b.l.length
            · have hlt2 : k < b.keys.length := by rw [Hlen.out]; exact hlt
              obtain ⟨b1, o1, rfl, -, e0⟩ := Hjn.out.key hlt2
              obtain ⟨b2, o2, rfl, -, ka3, kc3, la3, lc3, ⟨d0, d1, d2, d3, d4⟩, hin3⟩ := Hjn.out.item hlt
              have e0 := hx.cell e0
              have d0 := hx.cell d0; have d1 := hx.cell d1; have d2 := hx.cell d2; have d3 := hx.cell d3; have d4 := hx.cell d4
              have Hin3 := Lib.hid (hin3.ext hx)
              have Hqs := Lib.hid (Hb.out.item (List.getElem_mem hlt))
              have hqz := V.size_item hlt
              have hqc := V.count_item hlt
              have Hstep := Lib.hid (dgo_next hlt hlt2 Hacc.out)
              have hki0 : (0 : Int) ≤ (k : Int) := by omega
              have hki1 : (k : Int) < (b.l.length : Int) := by omega
              have hki2 : (k : Int) < (b.keys.length : Int) := by omega
              clear hin3
              obtain ⟨key, hkey⟩ : ∃ key, b.keys[k] = key := ⟨_, rfl⟩
              obtain ⟨q, hq⟩ : ∃ q, b.l[k] = q := ⟨_, rfl⟩
              rw [hkey] at e0
              rw [hq] at d0 d1 d2 d3 d4 hqz hqc
              have Hin3 := Lib.hid (show q.In wr _ ka3 kc3 la3 lc3 by rw [← hq]; exact Hin3.out)
              have Hqs := Lib.hid (show q.sound by rw [← hq]; exact Hqs.out)
              have Hstep := Lib.hid (show V.dif.go a (b.l.take (k + 1)) (b.keys.take (k + 1)) u = V.dstep a q key acc by rw [← hq, ← hkey]; exact Hstep.out)
              clear hkey hq
              obtain ⟨old, hold⟩ : ∃ old, a.memD key = old := ⟨_, rfl⟩
              have Hos := Lib.hid (show old.sound from hold ▸ memD_sound Ha.out key)
              have hoc : old.count ≤ a.count := hold ▸ memD_count a key
              have hosz : old.size ≤ 1073741824 := by have := sound_size Hos.out; omega
              have Hold := Lib.hid hold
              clear hold
              go_wp2_with fail
              (refine (member_any a key ka kc la lc SS _ (by omega) (Hin.out.ext Xt)).mono ?_)
              rw [Hold.out]
              cases hs : a.member key with
              | some o =>
                have Hoo := Lib.hid (show o = old by have := Hold.out; unfold V.memD at this; rw [hs] at this; exact this)
                simp only [Option.isSome_some]
                rintro e w1 ⟨ka5, kc5, la5, lc5, rfl, hin5, h1⟩
                have Hin5 := Lib.hid (hin5.mono (T := SS) fun b h _ => h.elim id (fun h => HS2.out b (by (try simp at h); omega)))
                have Hst := Lib.hid (show V.dstep a q key acc = if old.same q = true then acc else acc.put key (q.dif old) by unfold V.dstep; rw [hs]; simp only [Hoo.out])
                have hB0 := Box.ext h1 hB0
                have hB1 := Box.ext h1 hB1
                have hB2 := Box.ext h1 hB2
                have hB3 := Box.ext h1 hB3
                have Hin2 := Lib.hid (V.In.ext (w' := w1) Hin2.out h1)
                have Hin3 := Lib.hid (V.In.ext (w' := w1) Hin3.out h1)
                have d0 := h1.cell d0; have d1 := h1.cell d1; have d2 := h1.cell d2; have d3 := h1.cell d3; have d4 := h1.cell d4
                have hx1 := hx.trans h1
                clear hin5 hs hc0 hf0 hl0 hc1 hf1 hl1 hx e0 h1
                go_upto_region 16 with fail
                refine gen_world (R := fun wx => Box wx w.heap.size #[.int .i64 a.k, .int .i64 a.n, .string a.s, .slice ka a.keys.length kc, .slice la a.l.length lc] 25 ∧ Box wx (w.heap.size + 1) #[.int .i64 b.k, .int .i64 b.n, .string b.s, .slice (some ⟨b1, o1, none⟩) b.keys.length kd, .slice (some ⟨b2, o2, none⟩) b.l.length ld] 25 ∧ Box wx (w.heap.size + 2) #[.int .i64 0, .int .i64 0, .string ⟨#[]⟩, .slice none 0 0, .slice none 0 0] 25 ∧ Box wx (w.heap.size + 3) #[.int .i64 acc.k, .int .i64 acc.n, .string acc.s, .slice ka2 acc.keys.length kc2, .slice la2 acc.l.length lc2] 25 ∧ Box wx w1.heap.size #[.int .i64 old.k, .int .i64 old.n, .string old.s, .slice ka5 old.keys.length kc5, .slice la5 old.l.length lc5] 25 ∧ Ext w1 wx) ⟨Bxt, Bxt, Bxt, Bxt, Bxt, Xt⟩ ?_
                clear hB0 hB1 hB2 hB3
                rintro wb ⟨hB0, hB1, hB2, hB3, hB5, hxb⟩
                have Hin2 := Lib.hid (V.In.ext Hin2.out hxb)
                have Hin3 := Lib.hid (V.In.ext Hin3.out hxb)
                have Hin5 := Lib.hid (V.In.ext Hin5.out hxb)
                have d0 := hxb.cell d0; have d1 := hxb.cell d1; have d2 := hxb.cell d2; have d3 := hxb.cell d3; have d4 := hxb.cell d4
                have hxb := hx1.trans hxb
                clear hx1
                have hsm : (old.same q = true) ∨ (old.same q = false) := by cases old.same q; exact .inr rfl; exact .inl rfl
                have Sof : ∀ w', Ext wb w' → (w'.cell? ⟨w1.heap.size, 0, none⟩ = some (.int .i64 old.k) ∧ w'.cell? ⟨w1.heap.size, 1, none⟩ = some (.int .i64 old.n) ∧ w'.cell? ⟨w1.heap.size, 2, none⟩ = some (.string old.s) ∧ w'.cell? ⟨w1.heap.size, 3, none⟩ = some (.slice ka5 old.keys.length kc5) ∧ w'.cell? ⟨w1.heap.size, 4, none⟩ = some (.slice la5 old.l.length lc5) ∧ w'.cell? ⟨w.heap.size + 1, 4, none⟩ = some (.slice (some ⟨b2, o2, none⟩) b.l.length ld) ∧ w'.cell? ⟨b2, o2 + k * 5, none⟩ = some (.int .i64 q.k) ∧ w'.cell? ⟨b2, o2 + k * 5 + 1, none⟩ = some (.int .i64 q.n) ∧ w'.cell? ⟨b2, o2 + k * 5 + 2, none⟩ = some (.string q.s) ∧ w'.cell? ⟨b2, o2 + k * 5 + 3, none⟩ = some (.slice ka3 q.keys.length kc3) ∧ w'.cell? ⟨b2, o2 + k * 5 + 4, none⟩ = some (.slice la3 q.l.length lc3)) :=
                  fun w' e => ⟨e.cell (hB5.cells 0), e.cell (hB5.cells 1), e.cell (hB5.cells 2), e.cell (hB5.cells 3), e.cell (hB5.cells 4), e.cell (hB1.cells 4), e.cell d0, e.cell d1, e.cell d2, e.cell d3, e.cell d4⟩
                have hB5l := hB5.lt
                go_wp2_with fail
                go_region_held3 (fun w' => w'.cell? ⟨w1.heap.size, 0, none⟩ = some (.int .i64 old.k) ∧ w'.cell? ⟨w1.heap.size, 1, none⟩ = some (.int .i64 old.n) ∧ w'.cell? ⟨w1.heap.size, 2, none⟩ = some (.string old.s) ∧ w'.cell? ⟨w1.heap.size, 3, none⟩ = some (.slice ka5 old.keys.length kc5) ∧ w'.cell? ⟨w1.heap.size, 4, none⟩ = some (.slice la5 old.l.length lc5) ∧ w'.cell? ⟨w.heap.size + 1, 4, none⟩ = some (.slice (some ⟨b2, o2, none⟩) b.l.length ld) ∧ w'.cell? ⟨b2, o2 + k * 5, none⟩ = some (.int .i64 q.k) ∧ w'.cell? ⟨b2, o2 + k * 5 + 1, none⟩ = some (.int .i64 q.n) ∧ w'.cell? ⟨b2, o2 + k * 5 + 2, none⟩ = some (.string q.s) ∧ w'.cell? ⟨b2, o2 + k * 5 + 3, none⟩ = some (.slice ka3 q.keys.length kc3) ∧ w'.cell? ⟨b2, o2 + k * 5 + 4, none⟩ = some (.slice la3 q.l.length lc3))
                  (first | (exact Sof _ ((Ext.refl _).drew)) | (exact Sof _ (Ext.trans ((Ext.refl _).drew) h5)))
                  (first | (go_at_call 35; refine (sameJ_any old q ka5 kc5 la5 lc5 SS ka3 kc3 la3 lc3 SS _ hosz (by omega) (Hin5.out.ext Xt) (Hin3.out.ext Xt)).mono ?_; rintro e w5 ⟨rfl, h5⟩))
                all_goals
                  have hB0 : Box w5 w.heap.size #[.int .i64 a.k, .int .i64 a.n, .string a.s, .slice ka a.keys.length kc, .slice la a.l.length lc] 25 := Box.ext (w := wb) Xt hB0
                  have hB1 : Box w5 (w.heap.size + 1) #[.int .i64 b.k, .int .i64 b.n, .string b.s, .slice (some ⟨b1, o1, none⟩) b.keys.length kd, .slice (some ⟨b2, o2, none⟩) b.l.length ld] 25 := Box.ext (w := wb) Xt hB1
                  have hB2 : Box w5 (w.heap.size + 2) #[.int .i64 0, .int .i64 0, .string ⟨#[]⟩, .slice none 0 0, .slice none 0 0] 25 := Box.ext (w := wb) Xt hB2
                  have hB3 : Box w5 (w.heap.size + 3) #[.int .i64 acc.k, .int .i64 acc.n, .string acc.s, .slice ka2 acc.keys.length kc2, .slice la2 acc.l.length lc2] 25 := Box.ext (w := wb) Xt hB3
                  have hB5 : Box w5 w1.heap.size #[.int .i64 old.k, .int .i64 old.n, .string old.s, .slice ka5 old.keys.length kc5, .slice la5 old.l.length lc5] 25 := Box.ext (w := wb) Xt hB5
                  have Hin2 := Lib.hid (V.In.ext (w := wb) (w' := w5) Hin2.out Xt)
                  have Hin3 := Lib.hid (V.In.ext (w := wb) (w' := w5) Hin3.out Xt)
                  have Hin5 := Lib.hid (V.In.ext (w := wb) (w' := w5) Hin5.out Xt)
                  have hb2 : b2 < wb.heap.size := cell_lt d0
                  have d0 := Ext.cell (a := wb) (b := w5) Xt d0
                  have d1 := Ext.cell (a := wb) (b := w5) Xt d1
                  have d2 := Ext.cell (a := wb) (b := w5) Xt d2
                  have d3 := Ext.cell (a := wb) (b := w5) Xt d3
                  have d4 := Ext.cell (a := wb) (b := w5) Xt d4
                  have hx5 : Ext w w5 := Xt
                  clear h5 hxb Sof hb2
                  rcases hsm with hsm | hsm
                  · rw [hsm]
                    have Hs := Lib.hid (show V.dif.go a (b.l.take (k + 1)) (b.keys.take (k + 1)) u = acc by rw [Hstep.out, Hst.out, if_pos hsm])
                    clear hsm
                    go_wp2_with fail
                    go_roundg (b.l.length - (k + 1))
                    case measure => omega
                    case rel => exact ⟨k + 1, acc, ka2, kc2, la2, lc2, by omega, by go_num, rfl, Bxt, Hin2.out.ext Xt, Hs, Bxt, Bxt, Bxt, Xt⟩
                  · rw [hsm]
                    have Hs := Lib.hid (show V.dif.go a (b.l.take (k + 1)) (b.keys.take (k + 1)) u = acc.put key (q.dif old) by rw [Hstep.out, Hst.out, if_neg (by rw [hsm]; decide)])
                    clear hsm
                    go_upto_region 18 with fail
                    refine gen_world (R := fun wx => Box wx w.heap.size #[.int .i64 a.k, .int .i64 a.n, .string a.s, .slice ka a.keys.length kc, .slice la a.l.length lc] 25 ∧ Box wx (w.heap.size + 1) #[.int .i64 b.k, .int .i64 b.n, .string b.s, .slice (some ⟨b1, o1, none⟩) b.keys.length kd, .slice (some ⟨b2, o2, none⟩) b.l.length ld] 25 ∧ Box wx (w.heap.size + 2) #[.int .i64 0, .int .i64 0, .string ⟨#[]⟩, .slice none 0 0, .slice none 0 0] 25 ∧ Box wx (w.heap.size + 3) #[.int .i64 acc.k, .int .i64 acc.n, .string acc.s, .slice ka2 acc.keys.length kc2, .slice la2 acc.l.length lc2] 25 ∧ Box wx w1.heap.size #[.int .i64 old.k, .int .i64 old.n, .string old.s, .slice ka5 old.keys.length kc5, .slice la5 old.l.length lc5] 25 ∧ Ext w5 wx) ⟨Bxt, Bxt, Bxt, Bxt, Bxt, Xt⟩ ?_
                    clear hB0 hB1 hB2 hB3 hB5
                    rintro wb ⟨hB0, hB1, hB2, hB3, hB5, hxb⟩
                    have Hin2 := Lib.hid (V.In.ext Hin2.out hxb)
                    have Hin3 := Lib.hid (V.In.ext Hin3.out hxb)
                    have Hin5 := Lib.hid (V.In.ext Hin5.out hxb)
                    have d0 := hxb.cell d0; have d1 := hxb.cell d1; have d2 := hxb.cell d2; have d3 := hxb.cell d3; have d4 := hxb.cell d4
                    have hxb := hx5.trans hxb
                    clear hx5
                    have Sof : ∀ w', Ext wb w' → (w'.cell? ⟨w.heap.size + 3, 0, none⟩ = some (.int .i64 acc.k) ∧ w'.cell? ⟨w.heap.size + 3, 1, none⟩ = some (.int .i64 acc.n) ∧ w'.cell? ⟨w.heap.size + 3, 2, none⟩ = some (.string acc.s) ∧ w'.cell? ⟨w.heap.size + 3, 3, none⟩ = some (.slice ka2 acc.keys.length kc2) ∧ w'.cell? ⟨w.heap.size + 3, 4, none⟩ = some (.slice la2 acc.l.length lc2) ∧ w'.cell? ⟨w1.heap.size, 0, none⟩ = some (.int .i64 old.k) ∧ w'.cell? ⟨w1.heap.size, 1, none⟩ = some (.int .i64 old.n) ∧ w'.cell? ⟨w1.heap.size, 2, none⟩ = some (.string old.s) ∧ w'.cell? ⟨w1.heap.size, 3, none⟩ = some (.slice ka5 old.keys.length kc5) ∧ w'.cell? ⟨w1.heap.size, 4, none⟩ = some (.slice la5 old.l.length lc5) ∧ w'.cell? ⟨w.heap.size + 1, 4, none⟩ = some (.slice (some ⟨b2, o2, none⟩) b.l.length ld) ∧ w'.cell? ⟨b2, o2 + k * 5, none⟩ = some (.int .i64 q.k) ∧ w'.cell? ⟨b2, o2 + k * 5 + 1, none⟩ = some (.int .i64 q.n) ∧ w'.cell? ⟨b2, o2 + k * 5 + 2, none⟩ = some (.string q.s) ∧ w'.cell? ⟨b2, o2 + k * 5 + 3, none⟩ = some (.slice ka3 q.keys.length kc3) ∧ w'.cell? ⟨b2, o2 + k * 5 + 4, none⟩ = some (.slice la3 q.l.length lc3)) :=
                      fun w' e => ⟨e.cell (hB3.cells 0), e.cell (hB3.cells 1), e.cell (hB3.cells 2), e.cell (hB3.cells 3), e.cell (hB3.cells 4), e.cell (hB5.cells 0), e.cell (hB5.cells 1), e.cell (hB5.cells 2), e.cell (hB5.cells 3), e.cell (hB5.cells 4), e.cell (hB1.cells 4), e.cell d0, e.cell d1, e.cell d2, e.cell d3, e.cell d4⟩
                    have hbl := hB5.lt
                    have hz3b := hB2.lt
                    have hz3c := hB3.lt
                    refine wp_region_till (S := fun w' => w'.cell? ⟨w.heap.size + 3, 0, none⟩ = some (.int .i64 acc.k) ∧ w'.cell? ⟨w.heap.size + 3, 1, none⟩ = some (.int .i64 acc.n) ∧ w'.cell? ⟨w.heap.size + 3, 2, none⟩ = some (.string acc.s) ∧ w'.cell? ⟨w.heap.size + 3, 3, none⟩ = some (.slice ka2 acc.keys.length kc2) ∧ w'.cell? ⟨w.heap.size + 3, 4, none⟩ = some (.slice la2 acc.l.length lc2) ∧ w'.cell? ⟨w1.heap.size, 0, none⟩ = some (.int .i64 old.k) ∧ w'.cell? ⟨w1.heap.size, 1, none⟩ = some (.int .i64 old.n) ∧ w'.cell? ⟨w1.heap.size, 2, none⟩ = some (.string old.s) ∧ w'.cell? ⟨w1.heap.size, 3, none⟩ = some (.slice ka5 old.keys.length kc5) ∧ w'.cell? ⟨w1.heap.size, 4, none⟩ = some (.slice la5 old.l.length lc5) ∧ w'.cell? ⟨w.heap.size + 1, 4, none⟩ = some (.slice (some ⟨b2, o2, none⟩) b.l.length ld) ∧ w'.cell? ⟨b2, o2 + k * 5, none⟩ = some (.int .i64 q.k) ∧ w'.cell? ⟨b2, o2 + k * 5 + 1, none⟩ = some (.int .i64 q.n) ∧ w'.cell? ⟨b2, o2 + k * 5 + 2, none⟩ = some (.string q.s) ∧ w'.cell? ⟨b2, o2 + k * 5 + 3, none⟩ = some (.slice ka3 q.keys.length kc3) ∧ w'.cell? ⟨b2, o2 + k * 5 + 4, none⟩ = some (.slice la3 q.l.length lc3)) (c := 10) (by kernel_rfl) ?_
                    (refine wpAnyT_take (i := 0) (v := ?_) [9, 10] (Array.getElem?_eq_getElem (by decide)) (by kernel_rfl) (by kernel_rfl) (by kernel_rfl) (by kernel_rfl) rfl rfl (by kernel_rfl) (fun _ _ _ h => h) (Or.inl ⟨by kernel_rfl, ?_⟩) (Sof _ Xt) ?_); rotate_left; (focus (intro w hSw; (try dsimp only at hSw); (try simp only [rl]); go_simp; (try with_reducible rfl))); (try simp only [rl])
                    (refine wpAnyT_take (i := 1) (v := ?_) [9, 10] (Array.getElem?_eq_getElem (by decide)) (by kernel_rfl) (by kernel_rfl) (by kernel_rfl) (by kernel_rfl) rfl rfl (by kernel_rfl) (fun _ _ _ h => h) (Or.inl ⟨by kernel_rfl, ?_⟩) (Sof _ Xt) ?_); rotate_left; (focus (intro w hSw; (try dsimp only at hSw); (try simp only [rl]); go_simp; (try with_reducible rfl))); (try simp only [rl])
                    (refine wpAnyT_take (i := 2) (v := ?_) [8, 9, 10] (Array.getElem?_eq_getElem (by decide)) (by kernel_rfl) (by kernel_rfl) (by kernel_rfl) (by kernel_rfl) rfl rfl (by kernel_rfl) (fun _ _ _ h => h) (Or.inl ⟨by kernel_rfl, ?_⟩) (Sof _ Xt) ?_); rotate_left; (focus (intro w hSw; (try dsimp only at hSw); (try simp only [rl]); go_simp; (try with_reducible rfl))); (try simp only [rl])
                    (refine wpAnyT_take (i := 3) (v := ?_) [4, 6, 7, 8, 9, 10] (Array.getElem?_eq_getElem (by decide)) (by kernel_rfl) (by kernel_rfl) (by kernel_rfl) (by kernel_rfl) rfl rfl (by kernel_rfl) (fun _ _ _ h => h) (Or.inl ⟨by kernel_rfl, ?_⟩) (Sof _ Xt) ?_); rotate_left; (focus (intro w hSw; (try dsimp only at hSw); (try simp only [rl]); go_simp; (try with_reducible rfl))); (try simp only [rl])
                    (refine wpAnyT_take (i := 4) (v := ?_) [6, 7, 8, 9, 10] (Array.getElem?_eq_getElem (by decide)) (by kernel_rfl) (by kernel_rfl) (by kernel_rfl) (by kernel_rfl) rfl rfl (by kernel_rfl) (fun _ _ _ h => h) (Or.inl ⟨by kernel_rfl, ?_⟩) (Sof _ Xt) ?_); rotate_left; (focus (intro w hSw; (try dsimp only at hSw); (try simp only [rl]); go_simp; (try with_reducible rfl))); (try simp only [rl])
                    (refine wpAnyT_take (i := 5) (v := ?_) [6, 7, 8, 9, 10] (Array.getElem?_eq_getElem (by decide)) (by kernel_rfl) (by kernel_rfl) (by kernel_rfl) (by kernel_rfl) rfl rfl (by kernel_rfl) (fun _ _ _ h => h) (Or.inl ⟨by kernel_rfl, ?_⟩) (Sof _ Xt) ?_); rotate_left; (focus (intro w hSw; (try dsimp only at hSw); (try simp only [rl]); go_simp; (try with_reducible rfl))); (try simp only [rl])
                    (refine wpAnyT_take (i := 6) (v := ?_) [7, 8, 9, 10] (Array.getElem?_eq_getElem (by decide)) (by kernel_rfl) (by kernel_rfl) (by kernel_rfl) (by kernel_rfl) rfl rfl (by kernel_rfl) (fun _ _ _ h => h) (Or.inl ⟨by kernel_rfl, ?_⟩) (Sof _ Xt) ?_); rotate_left; (focus (intro w hSw; (try dsimp only at hSw); (try simp only [rl]); go_simp; (try with_reducible rfl))); (try simp only [rl])
                    (refine wpAnyT_take (i := 7) (v := ?_) [8, 9, 10] (Array.getElem?_eq_getElem (by decide)) (by kernel_rfl) (by kernel_rfl) (by kernel_rfl) (by kernel_rfl) rfl rfl (by kernel_rfl) (fun _ _ _ h => h) (Or.inl ⟨by kernel_rfl, ?_⟩) (Sof _ Xt) ?_); rotate_left; (focus (intro w hSw; (try dsimp only at hSw); (try simp only [rl]); go_simp; (try with_reducible rfl))); (try simp only [rl])
                    (refine wpAnyT_one (i := 8) (by kernel_rfl) (Array.getElem?_eq_getElem (by decide)) fun K hK => ?_); (try simp only [rl])
                    (try go_simp)
                    (refine (Ih.out q old ka5 kc5 la5 lc5 ka3 kc3 la3 lc3 SS _ (by omega) Hqs.out Hos.out (by omega) (by omega) (Hin5.out.ext Xt) (Hin3.out.ext Xt)).mono ?_); rintro e w5 ⟨ka6, kc6, la6, lc6, rfl, hin6, h5⟩
                    have Hin6 := Lib.hid (hin6.mono (T := SS) fun b h _ => h.elim id (fun h => HS2.out b (by (try simp at h); omega)))
                    (try go_simp)
                    refine hK.out _ _ (fun _ => Sof _ Xt) ?_; clear hK K; (try simp only [rl])
                    (refine wpAnyT_one (i := 9) (by kernel_rfl) (Array.getElem?_eq_getElem (by decide)) fun K hK => ?_); (try simp only [rl])
                    (try go_simp)
                    (refine (with_any acc ka2 kc2 la2 lc2 key (q.dif old) ka6 kc6 la6 lc6 SS _ hasz Hobj.out.rise (Hin2.out.ext Xt) (V.In.ext (w := w5) Hin6.out Xt)).mono ?_); rintro e w6 ⟨ka7, kc7, la7, lc7, rfl, hin7, h6⟩
                    have hz5 := Ext.size h5
                    have Hin7 := Lib.hid (hin7.mono (T := SS) fun b h _ => h.elim id (fun h => HS2.out b (by (try simp at h hz5); omega)))
                    clear hz5
                    (try go_simp)
                    refine hK.out _ _ (fun _ => Sof _ Xt) ?_; clear hK K; (try simp only [rl])
                    have hB0 : Box w6 w.heap.size #[.int .i64 a.k, .int .i64 a.n, .string a.s, .slice ka a.keys.length kc, .slice la a.l.length lc] 25 := Box.ext (w := wb) Xt hB0
                    have hB1 : Box w6 (w.heap.size + 1) #[.int .i64 b.k, .int .i64 b.n, .string b.s, .slice (some ⟨b1, o1, none⟩) b.keys.length kd, .slice (some ⟨b2, o2, none⟩) b.l.length ld] 25 := Box.ext (w := wb) Xt hB1
                    have hB2 : Box w6 (w.heap.size + 2) #[.int .i64 0, .int .i64 0, .string ⟨#[]⟩, .slice none 0 0, .slice none 0 0] 25 := Box.ext (w := wb) Xt hB2
                    have hB3 : Box w6 (w.heap.size + 3) #[.int .i64 acc.k, .int .i64 acc.n, .string acc.s, .slice ka2 acc.keys.length kc2, .slice la2 acc.l.length lc2] 25 := Box.ext (w := wb) Xt hB3
                    have hx6 : Ext w w6 := Xt
                    clear Sof hxb d0 d1 d2 d3 d4 hB5
                    have hc3 := hB3.cells; have hf3 := hB3.free; have hl3 := hB3.lt
                    (refine wpAnyT_one (i := 10) (by kernel_rfl) (Array.getElem?_eq_getElem (by decide)) fun K hK => ?_); (try simp only [rl])
                    go_simp
                    (refine hK.out _ _ (fun h => Bool.noConfusion (show true = false from h)) ?_); clear hK K; (try simp only [rl])
                    refine wpAnyT_done (by kernel_rfl) ?_ _
                    go_wp2_with fail
                    go_roundg (b.l.length - (k + 1))
                    case measure => omega
                    case rel => exact ⟨k + 1, acc.put key (q.dif old), ka7, kc7, la7, lc7, by omega, by go_num, rfl, Bxt, Hin7.out.keep (Held.kept (Held.mono (a := w6) (S := fun b => b ≠ w.heap.size + 3) Hxt HS3.out)) (fun b hb _ => hb), Hs, Bxt, Bxt, Bxt, Xt⟩
              | none =>
                simp only [Option.isSome_none]
                rintro e w1 ⟨ka5, kc5, la5, lc5, rfl, hin5, h1⟩
                have Hin5 := Lib.hid (hin5.mono (T := SS) fun b h _ => h.elim id (fun h => HS2.out b (by (try simp at h); omega)))
                have Hst := Lib.hid (show V.dstep a q key acc = acc.put key q by unfold V.dstep; rw [hs])
                have hB0 := Box.ext h1 hB0
                have hB1 := Box.ext h1 hB1
                have hB2 := Box.ext h1 hB2
                have hB3 := Box.ext h1 hB3
                have Hin2 := Lib.hid (V.In.ext (w' := w1) Hin2.out h1)
                have Hin3 := Lib.hid (V.In.ext (w' := w1) Hin3.out h1)
                have d0 := h1.cell d0; have d1 := h1.cell d1; have d2 := h1.cell d2; have d3 := h1.cell d3; have d4 := h1.cell d4
                have hx1 := hx.trans h1
                clear hin5 hs hc0 hf0 hl0 hc1 hf1 hl1 hx e0 h1
                go_upto_region 16 with fail
                refine gen_world (R := fun wx => Box wx w.heap.size #[.int .i64 a.k, .int .i64 a.n, .string a.s, .slice ka a.keys.length kc, .slice la a.l.length lc] 25 ∧ Box wx (w.heap.size + 1) #[.int .i64 b.k, .int .i64 b.n, .string b.s, .slice (some ⟨b1, o1, none⟩) b.keys.length kd, .slice (some ⟨b2, o2, none⟩) b.l.length ld] 25 ∧ Box wx (w.heap.size + 2) #[.int .i64 0, .int .i64 0, .string ⟨#[]⟩, .slice none 0 0, .slice none 0 0] 25 ∧ Box wx (w.heap.size + 3) #[.int .i64 acc.k, .int .i64 acc.n, .string acc.s, .slice ka2 acc.keys.length kc2, .slice la2 acc.l.length lc2] 25 ∧ Box wx w1.heap.size #[.int .i64 old.k, .int .i64 old.n, .string old.s, .slice ka5 old.keys.length kc5, .slice la5 old.l.length lc5] 25 ∧ Ext w1 wx) ⟨Bxt, Bxt, Bxt, Bxt, Bxt, Xt⟩ ?_
                clear hB0 hB1 hB2 hB3
                rintro wq ⟨hB0, hB1, hB2, hB3, hB5, hxb⟩
                have Hin2 := Lib.hid (V.In.ext Hin2.out hxb)
                have Hin3 := Lib.hid (V.In.ext Hin3.out hxb)
                have Hin5 := Lib.hid (V.In.ext Hin5.out hxb)
                have d0 := hxb.cell d0; have d1 := hxb.cell d1; have d2 := hxb.cell d2; have d3 := hxb.cell d3; have d4 := hxb.cell d4
                have hxb := hx1.trans hxb
                clear hx1
                have Hs := Lib.hid (show V.dif.go a (b.l.take (k + 1)) (b.keys.take (k + 1)) u = acc.put key q by rw [Hstep.out, Hst.out])
                go_wp2_with fail
                go_quiet (fail)
                go_upto_region 15 with fail
                refine gen_world (R := fun wx => Box wx w.heap.size #[.int .i64 a.k, .int .i64 a.n, .string a.s, .slice ka a.keys.length kc, .slice la a.l.length lc] 25 ∧ Box wx (w.heap.size + 1) #[.int .i64 b.k, .int .i64 b.n, .string b.s, .slice (some ⟨b1, o1, none⟩) b.keys.length kd, .slice (some ⟨b2, o2, none⟩) b.l.length ld] 25 ∧ Box wx (w.heap.size + 2) #[.int .i64 0, .int .i64 0, .string ⟨#[]⟩, .slice none 0 0, .slice none 0 0] 25 ∧ Box wx (w.heap.size + 3) #[.int .i64 acc.k, .int .i64 acc.n, .string acc.s, .slice ka2 acc.keys.length kc2, .slice la2 acc.l.length lc2] 25 ∧ Box wx w1.heap.size #[.int .i64 old.k, .int .i64 old.n, .string old.s, .slice ka5 old.keys.length kc5, .slice la5 old.l.length lc5] 25 ∧ Ext wq wx) ⟨Box.ext (w := wq) Xt hB0, Box.ext (w := wq) Xt hB1, Box.ext (w := wq) Xt hB2, Box.ext (w := wq) Xt hB3, Box.ext (w := wq) Xt hB5, Xt⟩ ?_
                clear hB0 hB1 hB2 hB3 hB5
                rintro wb ⟨hB0, hB1, hB2, hB3, hB5, hxc⟩
                have Hin2 := Lib.hid (V.In.ext Hin2.out hxc)
                have Hin3 := Lib.hid (V.In.ext Hin3.out hxc)
                have d0 := hxc.cell d0; have d1 := hxc.cell d1; have d2 := hxc.cell d2; have d3 := hxc.cell d3; have d4 := hxc.cell d4
                have hxb := hxb.trans hxc
                clear hxc
                have Sof : ∀ w', Ext wb w' → (w'.cell? ⟨w.heap.size + 3, 0, none⟩ = some (.int .i64 acc.k) ∧ w'.cell? ⟨w.heap.size + 3, 1, none⟩ = some (.int .i64 acc.n) ∧ w'.cell? ⟨w.heap.size + 3, 2, none⟩ = some (.string acc.s) ∧ w'.cell? ⟨w.heap.size + 3, 3, none⟩ = some (.slice ka2 acc.keys.length kc2) ∧ w'.cell? ⟨w.heap.size + 3, 4, none⟩ = some (.slice la2 acc.l.length lc2) ∧ w'.cell? ⟨w.heap.size + 1, 4, none⟩ = some (.slice (some ⟨b2, o2, none⟩) b.l.length ld) ∧ w'.cell? ⟨b2, o2 + k * 5, none⟩ = some (.int .i64 q.k) ∧ w'.cell? ⟨b2, o2 + k * 5 + 1, none⟩ = some (.int .i64 q.n) ∧ w'.cell? ⟨b2, o2 + k * 5 + 2, none⟩ = some (.string q.s) ∧ w'.cell? ⟨b2, o2 + k * 5 + 3, none⟩ = some (.slice ka3 q.keys.length kc3) ∧ w'.cell? ⟨b2, o2 + k * 5 + 4, none⟩ = some (.slice la3 q.l.length lc3)) :=
                  fun w' e => ⟨e.cell (hB3.cells 0), e.cell (hB3.cells 1), e.cell (hB3.cells 2), e.cell (hB3.cells 3), e.cell (hB3.cells 4), e.cell (hB1.cells 4), e.cell d0, e.cell d1, e.cell d2, e.cell d3, e.cell d4⟩
                have hbl := hB5.lt
                have hz3b := hB2.lt
                have hz3c := hB3.lt
                refine wp_region_till (S := fun w' => w'.cell? ⟨w.heap.size + 3, 0, none⟩ = some (.int .i64 acc.k) ∧ w'.cell? ⟨w.heap.size + 3, 1, none⟩ = some (.int .i64 acc.n) ∧ w'.cell? ⟨w.heap.size + 3, 2, none⟩ = some (.string acc.s) ∧ w'.cell? ⟨w.heap.size + 3, 3, none⟩ = some (.slice ka2 acc.keys.length kc2) ∧ w'.cell? ⟨w.heap.size + 3, 4, none⟩ = some (.slice la2 acc.l.length lc2) ∧ w'.cell? ⟨w.heap.size + 1, 4, none⟩ = some (.slice (some ⟨b2, o2, none⟩) b.l.length ld) ∧ w'.cell? ⟨b2, o2 + k * 5, none⟩ = some (.int .i64 q.k) ∧ w'.cell? ⟨b2, o2 + k * 5 + 1, none⟩ = some (.int .i64 q.n) ∧ w'.cell? ⟨b2, o2 + k * 5 + 2, none⟩ = some (.string q.s) ∧ w'.cell? ⟨b2, o2 + k * 5 + 3, none⟩ = some (.slice ka3 q.keys.length kc3) ∧ w'.cell? ⟨b2, o2 + k * 5 + 4, none⟩ = some (.slice la3 q.l.length lc3)) (c := 8) (by kernel_rfl) ?_
                (refine wpAnyT_take (i := 0) (v := ?_) [7, 8] (Array.getElem?_eq_getElem (by decide)) (by kernel_rfl) (by kernel_rfl) (by kernel_rfl) (by kernel_rfl) rfl rfl (by kernel_rfl) (fun _ _ _ h => h) (Or.inl ⟨by kernel_rfl, ?_⟩) (Sof _ Xt) ?_); rotate_left; (focus (intro w hSw; (try dsimp only at hSw); (try simp only [rl]); go_simp; (try with_reducible rfl))); (try simp only [rl])
                (refine wpAnyT_take (i := 1) (v := ?_) [7, 8] (Array.getElem?_eq_getElem (by decide)) (by kernel_rfl) (by kernel_rfl) (by kernel_rfl) (by kernel_rfl) rfl rfl (by kernel_rfl) (fun _ _ _ h => h) (Or.inl ⟨by kernel_rfl, ?_⟩) (Sof _ Xt) ?_); rotate_left; (focus (intro w hSw; (try dsimp only at hSw); (try simp only [rl]); go_simp; (try with_reducible rfl))); (try simp only [rl])
                (refine wpAnyT_take (i := 2) (v := ?_) [3, 5, 6, 7, 8] (Array.getElem?_eq_getElem (by decide)) (by kernel_rfl) (by kernel_rfl) (by kernel_rfl) (by kernel_rfl) rfl rfl (by kernel_rfl) (fun _ _ _ h => h) (Or.inl ⟨by kernel_rfl, ?_⟩) (Sof _ Xt) ?_); rotate_left; (focus (intro w hSw; (try dsimp only at hSw); (try simp only [rl]); go_simp; (try with_reducible rfl))); (try simp only [rl])
                (refine wpAnyT_take (i := 3) (v := ?_) [5, 6, 7, 8] (Array.getElem?_eq_getElem (by decide)) (by kernel_rfl) (by kernel_rfl) (by kernel_rfl) (by kernel_rfl) rfl rfl (by kernel_rfl) (fun _ _ _ h => h) (Or.inl ⟨by kernel_rfl, ?_⟩) (Sof _ Xt) ?_); rotate_left; (focus (intro w hSw; (try dsimp only at hSw); (try simp only [rl]); go_simp; (try with_reducible rfl))); (try simp only [rl])
                (refine wpAnyT_take (i := 4) (v := ?_) [5, 6, 7, 8] (Array.getElem?_eq_getElem (by decide)) (by kernel_rfl) (by kernel_rfl) (by kernel_rfl) (by kernel_rfl) rfl rfl (by kernel_rfl) (fun _ _ _ h => h) (Or.inl ⟨by kernel_rfl, ?_⟩) (Sof _ Xt) ?_); rotate_left; (focus (intro w hSw; (try dsimp only at hSw); (try simp only [rl]); go_simp; (try with_reducible rfl))); (try simp only [rl])
                (refine wpAnyT_take (i := 5) (v := ?_) [6, 7, 8] (Array.getElem?_eq_getElem (by decide)) (by kernel_rfl) (by kernel_rfl) (by kernel_rfl) (by kernel_rfl) rfl rfl (by kernel_rfl) (fun _ _ _ h => h) (Or.inl ⟨by kernel_rfl, ?_⟩) (Sof _ Xt) ?_); rotate_left; (focus (intro w hSw; (try dsimp only at hSw); (try simp only [rl]); go_simp; (try with_reducible rfl))); (try simp only [rl])
                (refine wpAnyT_take (i := 6) (v := ?_) [7, 8] (Array.getElem?_eq_getElem (by decide)) (by kernel_rfl) (by kernel_rfl) (by kernel_rfl) (by kernel_rfl) rfl rfl (by kernel_rfl) (fun _ _ _ h => h) (Or.inl ⟨by kernel_rfl, ?_⟩) (Sof _ Xt) ?_); rotate_left; (focus (intro w hSw; (try dsimp only at hSw); (try simp only [rl]); go_simp; (try with_reducible rfl))); (try simp only [rl])
                (refine wpAnyT_one (i := 7) (by kernel_rfl) (Array.getElem?_eq_getElem (by decide)) fun K hK => ?_); (try simp only [rl])
                (try go_simp)
                (refine (with_any acc ka2 kc2 la2 lc2 key q ka3 kc3 la3 lc3 SS _ hasz Hobj.out.rise (Hin2.out.ext Xt) (Hin3.out.ext Xt)).mono ?_); rintro e w6 ⟨ka7, kc7, la7, lc7, rfl, hin7, h6⟩
                have Hin7 := Lib.hid (hin7.mono (T := SS) fun b h _ => h.elim id (fun h => HS2.out b (by (try simp at h); omega)))
                (try go_simp)
                refine hK.out _ _ (fun _ => Sof _ Xt) ?_; clear hK K; (try simp only [rl])
                have hB0 : Box w6 w.heap.size #[.int .i64 a.k, .int .i64 a.n, .string a.s, .slice ka a.keys.length kc, .slice la a.l.length lc] 25 := Box.ext (w := wb) Xt hB0
                have hB1 : Box w6 (w.heap.size + 1) #[.int .i64 b.k, .int .i64 b.n, .string b.s, .slice (some ⟨b1, o1, none⟩) b.keys.length kd, .slice (some ⟨b2, o2, none⟩) b.l.length ld] 25 := Box.ext (w := wb) Xt hB1
                have hB2 : Box w6 (w.heap.size + 2) #[.int .i64 0, .int .i64 0, .string ⟨#[]⟩, .slice none 0 0, .slice none 0 0] 25 := Box.ext (w := wb) Xt hB2
                have hB3 : Box w6 (w.heap.size + 3) #[.int .i64 acc.k, .int .i64 acc.n, .string acc.s, .slice ka2 acc.keys.length kc2, .slice la2 acc.l.length lc2] 25 := Box.ext (w := wb) Xt hB3
                have hx6 : Ext w w6 := Xt
                clear Sof hxb d0 d1 d2 d3 d4 hB5
                have hc3 := hB3.cells; have hf3 := hB3.free; have hl3 := hB3.lt
                (refine wpAnyT_one (i := 8) (by kernel_rfl) (Array.getElem?_eq_getElem (by decide)) fun K hK => ?_); (try simp only [rl])
                go_simp
                (refine hK.out _ _ (fun h => Bool.noConfusion (show true = false from h)) ?_); clear hK K; (try simp only [rl])
                refine wpAnyT_done (by kernel_rfl) ?_ _
                go_wp2_with fail
                go_roundg (b.l.length - (k + 1))
                case measure => omega
                case rel => exact ⟨k + 1, acc.put key q, ka7, kc7, la7, lc7, by omega, by go_num, rfl, Bxt, Hin7.out.keep (Held.kept (Held.mono (a := w6) (S := fun b => b ≠ w.heap.size + 3) Hxt HS3.out)) (fun b hb _ => hb), Hs, Bxt, Bxt, Bxt, Xt⟩
            · obtain rfl : k = b.l.length := by omega
              have Hend := Lib.hid (show b.dif a = acc by rw [Hr.out, Hu.out, ← Hacc.out, List.take_of_length_le (Nat.le_refl _), List.take_of_length_le (by rw [Hlen.out]; exact Nat.le_refl _)])
              have hke : ¬ b.l.length < b.keys.length := by rw [Hlen.out]; omega
              have hkd : decide (b.l.length < b.keys.length) = false := by simpa using hke
              have hc2 := hB2.cells; have hf2 := hB2.free; have hl2 := hB2.lt
              have hc3 := hB3.cells; have hf3 := hB3.free; have hl3 := hB3.lt
              go_wp2_with fail
              (with_reducible apply bp_ret); (focus (go_light; simp [results, Tryz.results103, go_sem, *]; rfl))
              rw [Hend.out]
              exact ⟨ka2, kc2, la2, lc2, rfl, Hin2.out.keep (Held.kept (Held.mono (a := wr) (S := fun b => b ≠ w.heap.size + 2) Hxt HS5.out)) (fun b hb _ => HS4.out b hb), Xt⟩
end Go.Proofs.YtnbappeiebameaaGreatDoor
