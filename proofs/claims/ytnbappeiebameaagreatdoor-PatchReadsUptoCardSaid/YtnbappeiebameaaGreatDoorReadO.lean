/- The walk of patch.read. -/
import Derived.Test.YtnbappeiebameaaGreatDoorReadT
set_option linter.all false
namespace Go.Proofs.YtnbappeiebameaaGreatDoor
open Go.RowKit
attribute [local go_sem ↓] Go.wp_at_zero Go.wp_at_succ

/-- The kinds' names, where the program keeps them. -/
def NamesAt (w : World) : Prop := ∀ i, i < 7 → w.cell? ⟨0, i, none⟩ = some (.string (nmB i))
theorem NamesAt.ext {w w' : World} (h : NamesAt w) (e : Ext w w') : NamesAt w' := fun i hi => e.cell (h i hi)
/-- The call gives an operation, and whether it is one. -/
def RetO (S : Nat → Prop) (x : V) (w : World) (e : Ending) (w' : World) : Prop :=
  ∃ (o : OpV) (ka : Option Addr) (kc : Nat) (la : Option Addr) (lc : Nat) (b : Bool), e = .returned (.tuple #[.agg #[.int .i64 o.k, .string o.p, .string o.f, .int .i64 (o.v).k, .int .i64 (o.v).n, .string (o.v).s, .slice ka (o.v).keys.length kc, .slice la (o.v).l.length lc], .bool b]) ∧ o.v.In w' (Plus S w) ka kc la lc ∧ x.opO = (if b = true then some o else none) ∧ Ext w w'
theorem kind_hit {s : ByteArray} {k : Nat} (hk : 1 ≤ k) (h : nmB k = s) : kindTo s true (k + 1) = k := by unfold kindTo; rw [if_pos ⟨hk, rfl, h⟩]
theorem kind_miss {s : ByteArray} {ok : Bool} {k : Nat} (h : ok = false ∨ nmB k ≠ s) : kindTo s ok (k + 1) = kindTo s ok k := by
  rw [kindTo, if_neg]
  rintro ⟨_, h1, h2⟩
  rcases h with h | h
  · rw [h] at h1; cases h1
  · exact h h2
section
variable {x : V}
theorem opO_none (h : x.kd = 0) : x.opO = none := by unfold V.opO; rw [if_pos h]
theorem opO_path (h : x.kd ≠ 0) (hp : (x.txt tPath).2 = false) : x.opO = none := by unfold V.opO; rw [if_neg h, if_pos hp]
theorem opO_val (h : x.kd = 1 ∨ x.kd = 3 ∨ x.kd = 6) (hp : (x.txt tPath).2 = true) : x.opO = if (x.member tValue).isSome = true then some ⟨x.kd, (x.txt tPath).1, ⟨#[]⟩, x.memD tValue⟩ else none := by
  unfold V.opO; rw [if_neg (by omega), if_neg (by rw [hp]; decide), if_pos h]
theorem opO_from (h : x.kd = 4 ∨ x.kd = 5) (hp : (x.txt tPath).2 = true) : x.opO = if (x.txt tFrom).2 = true then some ⟨x.kd, (x.txt tPath).1, (x.txt tFrom).1, V.zero⟩ else none := by
  unfold V.opO; rw [if_neg (by omega), if_neg (by rw [hp]; decide), if_neg (by omega), if_pos h]
theorem opO_rem (h : x.kd = 2) (hp : (x.txt tPath).2 = true) : x.opO = some ⟨x.kd, (x.txt tPath).1, ⟨#[]⟩, V.zero⟩ := by
  unfold V.opO; rw [if_neg (by omega), if_neg (by rw [hp]; decide), if_neg (by omega), if_neg (by omega)]
end

set_option maxRecDepth 100000 in
set_option maxHeartbeats 16000000 in
theorem readO_any (x : V) (ka : Option Addr) (kc : Nat) (la : Option Addr) (lc : Nat) (S : Nat → Prop) (w : World) (hsz : x.size ≤ 1073741824) (hnm : NamesAt w) (hin : x.In w S ka kc la lc) :
    Calls Tryz.prog 100 #[x.val ka kc la lc] w (RetO S x w) := by
  obtain ⟨SS, hSS⟩ : ∃ SS : Nat → Prop, SS = fun b => (S b ∧ b < w.heap.size) ∨ w.heap.size + 3 ≤ b := ⟨_, rfl⟩
  have Hin := Lib.hid (show x.In w SS ka kc la lc from hin.mono fun b h hl => by rw [hSS]; exact .inl ⟨h, hl⟩)
  have HS2 := Lib.hid (show ∀ b, w.heap.size + 3 ≤ b → SS b from fun b h => by rw [hSS]; exact .inr h)
  have HS5 := Lib.hid (show ∀ b, SS b → b ≠ w.heap.size + 1 ∧ b ≠ w.heap.size + 2 from fun b h => by rw [hSS] at h; rcases h with h | h <;> omega)
  have HS4 := Lib.hid (show ∀ b, SS b → Plus S w b from fun b h => by rw [hSS] at h; exact h.elim (fun h => .inl h.1) (fun h => .inr (by omega)))
  clear hSS hin
  obtain ⟨s, hs⟩ : ∃ s, (x.txt tOp).1 = s := ⟨_, rfl⟩
  obtain ⟨ok, hok⟩ : ∃ b, (x.txt tOp).2 = b := ⟨_, rfl⟩
  obtain ⟨p, hp⟩ : ∃ p, (x.txt tPath).1 = p := ⟨_, rfl⟩
  obtain ⟨okp, hokp⟩ : ∃ b, (x.txt tPath).2 = b := ⟨_, rfl⟩
  have Hs := Lib.hid hs
  have Hok := Lib.hid hok
  have Hp := Lib.hid hp
  have Hokp := Lib.hid hokp
  have Hkd := Lib.hid (show x.kd = kindTo s ok 7 by unfold V.kd; rw [hs, hok])
  have Hnm := Lib.hid hnm
  clear hs hok hp hokp hnm
  go_enter Tryz.func100, Tryz.ntmps100
  go_upto_region 2 with fail
  refine gen_world (R := fun wx => Box wx w.heap.size #[.int .i64 x.k, .int .i64 x.n, .string x.s, .slice ka x.keys.length kc, .slice la x.l.length lc] 25 ∧ Box wx (w.heap.size + 1) #[.int .i64 0, .string ⟨#[]⟩, .string ⟨#[]⟩, .int .i64 0, .int .i64 0, .string ⟨#[]⟩, .slice none 0 0, .slice none 0 0] 49 ∧ Box wx (w.heap.size + 2) #[.int .i64 0, .string ⟨#[]⟩, .string ⟨#[]⟩, .int .i64 0, .int .i64 0, .string ⟨#[]⟩, .slice none 0 0, .slice none 0 0] 49 ∧ Ext w wx) ⟨Bxt, Bxt, Bxt, Xt⟩ ?_
  rintro wa ⟨hB0, hB1, hB2, hxa⟩
  have hz2 := hB2.lt
  have hc0 := hB0.cells; have hf0 := hB0.free; have hl0 := hB0.lt
  go_wp2_with fail
  (refine (ptext_any x ka kc la lc SS tOp _ hsz (Hin.out.ext Xt)).mono ?_)
  rw [Hs.out, Hok.out]
  rintro e w1 ⟨rfl, h1⟩
  have hB0 := Box.ext (w' := w1) Xt hB0
  have hB1 := Box.ext (w' := w1) Xt hB1
  have hB2 := Box.ext (w' := w1) Xt hB2
  have hx1 : Ext w w1 := Xt
  clear h1 hxa hc0 hf0 hl0
  go_wp2_with fail
  go_loopg [7] 6 (fun g i wr => ∃ k : Nat, 1 ≤ k ∧ k ≤ 7 ∧ i = .int .i64 k ∧ g = 7 - k ∧ Box wr w.heap.size #[.int .i64 x.k, .int .i64 x.n, .string x.s, .slice ka x.keys.length kc, .slice la x.l.length lc] 25 ∧ Box wr (w.heap.size + 1) #[.int .i64 0, .string ⟨#[]⟩, .string ⟨#[]⟩, .int .i64 0, .int .i64 0, .string ⟨#[]⟩, .slice none 0 0, .slice none 0 0] 49 ∧ Box wr (w.heap.size + 2) #[.int .i64 (kindTo s ok k), .string ⟨#[]⟩, .string ⟨#[]⟩, .int .i64 0, .int .i64 0, .string ⟨#[]⟩, .slice none 0 0, .slice none 0 0] 49 ∧ Ext w wr)
  case atStart => exact ⟨1, by omega, by omega, rfl, rfl, hB0, hB1, by rw [kindTo_one]; exact hB2, hx1⟩
  case round =>
    clear hB0 hB1 hB2 hx1
    obtain ⟨k, hk1, hk7, rfl, rfl, hB0, hB1, hB2, hx⟩ := hrel
    have hc2 := hB2.cells; have hf2 := hB2.free; have hl2 := hB2.lt
    by_cases hlt : k < 7
    · have hle : (k : Int) ≤ 6 := by omega
      have hk0 : (0 : Int) ≤ (k : Int) := by omega
      have hk7b : (k : Int) < 7 := by omega
      have e0 := hx.cell (Hnm.out k hlt)
      obtain ⟨nk, hnk⟩ : ∃ q, nmB k = q := ⟨_, rfl⟩
      have Hnk := Lib.hid hnk
      rw [hnk] at e0
      clear hnk
      by_cases hq : nk = s
      · have hqb : (nk.toList == s.toList) = true := by rw [hq]; simp
        cases ok with
        | true =>
          have Hk := Lib.hid (kind_hit hk1 (Hnk.out.trans hq))
          clear hq
          go_wp2_with fail
          go_roundg (7 - (k + 1))
          case measure => omega
          case rel => exact ⟨k + 1, by omega, by omega, by go_num, rfl, Bxt, Bxt, by rw [Hk.out]; exact Bxt, Xt⟩
        | false =>
          have Hk := Lib.hid (kind_miss (s := s) (ok := false) (k := k) (.inl rfl))
          clear hq
          go_wp2_with fail
          go_roundg (7 - (k + 1))
          case measure => omega
          case rel => exact ⟨k + 1, by omega, by omega, by go_num, rfl, Bxt, Bxt, by rw [Hk.out]; exact Bxt, Xt⟩
      · have hqb : (nk.toList == s.toList) = false := by simpa using fun h => hq (bytes_ext h)
        have Hk := Lib.hid (kind_miss (ok := ok) (k := k) (.inr (fun h => hq (Hnk.out.symm.trans h))))
        clear hq
        go_wp2_with fail
        go_roundg (7 - (k + 1))
        case measure => omega
        case rel => exact ⟨k + 1, by omega, by omega, by go_num, rfl, Bxt, Bxt, by rw [Hk.out]; exact Bxt, Xt⟩
    · obtain rfl : k = 7 := by omega
      rw [← Hkd.out] at hB2
      obtain ⟨kd, hkd⟩ : ∃ q, x.kd = q := ⟨_, rfl⟩
      have hrng := kindTo_rng s ok 7
      rw [← Hkd.out, hkd] at hrng
      rw [hkd] at hB2
      have Hq := Lib.hid hkd
      clear Hkd hkd hc2 hf2 hl2
      have hc1 := hB1.cells; have hf1 := hB1.free; have hl1 := hB1.lt
      have hc2 := hB2.cells; have hf2 := hB2.free; have hl2 := hB2.lt
      by_cases h0 : kd = 0
      · have b0 : (kd == 0) = true := by simpa using h0
        have Hr := Lib.hid (opO_none (Hq.out.trans h0))
        clear h0
        go_wp2_with fail
        (with_reducible apply bp_ret); (focus (go_light; simp [results, Tryz.results100, go_sem, *]; rfl))
        exact ⟨⟨kd, ⟨#[]⟩, ⟨#[]⟩, V.zero⟩, none, 0, none, 0, false, rfl, V.zero_in _ _, Hr.out, Xt⟩
      have b0 : (kd == 0) = false := by simpa using h0
      have H0 := Lib.hid h0
      clear h0
      have hc0 := hB0.cells; have hf0 := hB0.free; have hl0 := hB0.lt
      go_wp2_with fail
      (refine (ptext_any x ka kc la lc SS tPath _ hsz (Hin.out.ext Xt)).mono ?_)
      rw [Hp.out, Hokp.out]
      rintro e w2 ⟨rfl, h2⟩
      have hB0 := Box.ext (w' := w2) Xt hB0
      have hB1 := Box.ext (w' := w2) Xt hB1
      have hB2 := Box.ext (w' := w2) Xt hB2
      have hx2 : Ext w w2 := Xt
      clear h2 hx hc0 hf0 hl0 hc1 hf1 hl1 hc2 hf2 hl2
      have hc2 := hB2.cells; have hf2 := hB2.free; have hl2 := hB2.lt
      go_upto_region 11 with fail
      refine gen_world (R := fun wx => Box wx w.heap.size #[.int .i64 x.k, .int .i64 x.n, .string x.s, .slice ka x.keys.length kc, .slice la x.l.length lc] 25 ∧ Box wx (w.heap.size + 1) #[.int .i64 0, .string ⟨#[]⟩, .string ⟨#[]⟩, .int .i64 0, .int .i64 0, .string ⟨#[]⟩, .slice none 0 0, .slice none 0 0] 49 ∧ Box wx (w.heap.size + 2) #[.int .i64 kd, .string p, .string ⟨#[]⟩, .int .i64 0, .int .i64 0, .string ⟨#[]⟩, .slice none 0 0, .slice none 0 0] 49 ∧ Ext w wx) ⟨Bxt, Bxt, Bxt, Xt⟩ ?_
      clear hB0 hB1 hB2 hx2 hc2 hf2 hl2
      rintro wb ⟨hB0, hB1, hB2, hx⟩
      have hz3 := hB2.lt
      have hc0 := hB0.cells; have hf0 := hB0.free; have hl0 := hB0.lt
      have hc1 := hB1.cells; have hf1 := hB1.free; have hl1 := hB1.lt
      have hc2 := hB2.cells; have hf2 := hB2.free; have hl2 := hB2.lt
      cases okp with
      | false =>
        have Hr := Lib.hid (opO_path (by rw [Hq.out]; exact H0.out) Hokp.out)
        go_wp2_with fail
        (with_reducible apply bp_ret); (focus (go_light; simp [results, Tryz.results100, go_sem, *]; rfl))
        exact ⟨⟨kd, p, ⟨#[]⟩, V.zero⟩, none, 0, none, 0, false, rfl, V.zero_in _ _, Hr.out, Xt⟩
      | true =>
        by_cases hv : kd = 1 ∨ kd = 3 ∨ kd = 6
        · obtain ⟨z, hz⟩ : ∃ z, x.memD tValue = z := ⟨_, rfl⟩
          obtain ⟨ms, hms⟩ : ∃ b, (x.member tValue).isSome = b := ⟨_, rfl⟩
          have Hr := Lib.hid (show x.opO = if ms = true then some ⟨kd, p, ⟨#[]⟩, z⟩ else none by rw [opO_val (by rw [Hq.out]; exact hv) Hokp.out, Hq.out, Hp.out, hz, hms])
          have Hz := Lib.hid hz
          have Hms := Lib.hid hms
          clear hz hms
          rcases hv with rfl | rfl | rfl
          all_goals
            go_wp2_with fail
            (refine (member_any x tValue ka kc la lc SS _ hsz (Hin.out.ext Xt)).mono ?_)
            rw [Hz.out, Hms.out]
            rintro e w3 ⟨ka3, kc3, la3, lc3, rfl, hin3, h3⟩
            have hB1 := Box.ext (w' := w3) Xt hB1
            have hB2 := Box.ext (w' := w3) Xt hB2
            have hx3 : Ext w w3 := Xt
            have Hin3 := Lib.hid (show z.In w3 SS ka3 kc3 la3 lc3 from hin3.mono fun q h _ => h.elim id (fun h => HS2.out q (by (try simp at h); omega)))
            clear h3 hx hin3 hB0 hc0 hf0 hl0 hc1 hf1 hl1 hc2 hf2 hl2
            have hc1 := hB1.cells; have hf1 := hB1.free; have hl1 := hB1.lt
            have hc2 := hB2.cells; have hf2 := hB2.free; have hl2 := hB2.lt
            go_wp2_with fail
            (with_reducible apply bp_ret); (focus (go_light; simp [results, Tryz.results100, go_sem, *]; rfl))
            exact ⟨⟨_, p, ⟨#[]⟩, z⟩, ka3, kc3, la3, lc3, ms, rfl, Hin3.out.keep (Held.kept (Held.mono (a := w3) (S := fun b => b ≠ w.heap.size + 1 ∧ b ≠ w.heap.size + 2) Hxt HS5.out)) (fun b hb _ => HS4.out b hb), Hr.out, Xt⟩
        · by_cases hf : kd = 4 ∨ kd = 5
          · obtain ⟨f, hff⟩ : ∃ f, (x.txt tFrom).1 = f := ⟨_, rfl⟩
            obtain ⟨okf, hokf⟩ : ∃ b, (x.txt tFrom).2 = b := ⟨_, rfl⟩
            have Hr := Lib.hid (show x.opO = if okf = true then some ⟨kd, p, f, V.zero⟩ else none by rw [opO_from (by rw [Hq.out]; exact hf) Hokp.out, Hq.out, Hp.out, hff, hokf])
            have Hff := Lib.hid hff
            have Hokf := Lib.hid hokf
            clear hff hokf hv
            rcases hf with rfl | rfl
            all_goals
              go_wp2_with fail
              (refine (ptext_any x ka kc la lc SS tFrom _ hsz (Hin.out.ext Xt)).mono ?_)
              rw [Hff.out, Hokf.out]
              rintro e w3 ⟨rfl, h3⟩
              have hB1 := Box.ext (w' := w3) Xt hB1
              have hB2 := Box.ext (w' := w3) Xt hB2
              have hx3 : Ext w w3 := Xt
              clear h3 hx hB0 hc0 hf0 hl0 hc1 hf1 hl1 hc2 hf2 hl2
              have hc1 := hB1.cells; have hf1 := hB1.free; have hl1 := hB1.lt
              have hc2 := hB2.cells; have hf2 := hB2.free; have hl2 := hB2.lt
              go_wp2_with fail
              (with_reducible apply bp_ret); (focus (go_light; simp [results, Tryz.results100, go_sem, *]; rfl))
              exact ⟨⟨_, p, f, V.zero⟩, none, 0, none, 0, okf, rfl, V.zero_in _ _, Hr.out, Xt⟩
          · have h2 : kd = 2 := by have := H0.out; omega
            have Hr := Lib.hid (show x.opO = some ⟨kd, p, ⟨#[]⟩, V.zero⟩ by rw [opO_rem (by rw [Hq.out]; exact h2) Hokp.out, Hq.out, Hp.out])
            subst h2
            clear hv hf
            go_wp2_with fail
            (with_reducible apply bp_ret); (focus (go_light; simp [results, Tryz.results100, go_sem, *]; rfl))
            exact ⟨⟨_, p, ⟨#[]⟩, V.zero⟩, none, 0, none, 0, true, rfl, V.zero_in _ _, Hr.out, Xt⟩
end Go.Proofs.YtnbappeiebameaaGreatDoor
