/- The walk of patch.All. -/
import Derived.Test.YtnbappeiebameaaGreatDoorPatchW
import Derived.Test.YtnbappeiebameaaGreatDoorOpenO
set_option linter.all false
namespace Go.Proofs.YtnbappeiebameaaGreatDoor
open Go.RowKit
attribute [local go_sem ↓] Go.wp_at_zero Go.wp_at_succ

theorem all_next {x acc r : V} {l : List OpV} {k : Nat} {e : Int} (hk : k < l.length) (h : goV (l.take k) x = (acc, 0)) (h1 : oneV acc l[k] = (r, e)) : goV (l.take (k + 1)) x = (r, e) := by
  rw [List.take_succ_eq_append_getElem hk, go_snoc _ _ _ (by rw [h]), h]; exact h1
theorem all_err {x r : V} {l : List OpV} {k : Nat} {e : Int} (hl : ¬ 20 < l.length) (h : goV (l.take k) x = (r, e)) (he : e ≠ 0) : allV x l = (x, e) := by
  have hg : goV l x = (r, e) := by
    have : l = l.take k ++ l.drop k := (List.take_append_drop k l).symm
    rw [this, go_app, h, if_pos he]
  unfold allV
  rw [if_neg hl, hg, if_pos he]
theorem all_ok {x acc : V} {l : List OpV} (hl : ¬ 20 < l.length) (h : goV l x = (acc, 0)) : allV x l = (acc, 0) := by
  unfold allV
  rw [if_neg hl, h, if_neg (by simp)]
theorem ops_item {l : List OpV} {i : Nat} (h : i < l.length) (hs : (l.map OpV.size).sum ≤ 4194304) : (l[i]).p.size ≤ 4194304 ∧ (l[i]).f.size ≤ 4194304 ∧ (l[i]).v.size ≤ 4194304 := by
  have h1 := sum_ge OpV.size (List.getElem_mem h)
  have h2 : OpV.size l[i] = 1 + (l[i]).p.size + (l[i]).f.size + (l[i]).v.size := rfl
  omega

set_option maxRecDepth 100000 in
set_option maxHeartbeats 8000000 in
theorem all_any (x : V) (ka : Option Addr) (kc : Nat) (la : Option Addr) (lc : Nat) (a : Option Addr) (cap : Nat) (l : List OpV) (n : Nat) (w : World) (hn : Hid (l.length = n)) (hl : LibAt w) (hsx : x.size ≤ 4194304) (hls : (l.map OpV.size).sum ≤ 4194304) (hn2 : n ≤ 4194304) (S : Nat → Prop) (hin : x.In w S ka kc la lc) (hops : OpsIn w S a l) :
    Calls Tryz.prog 40 #[x.val ka kc la lc, .slice a n cap] w (RetV2 S (allV x l).1 (.int .i64 (allV x l).2) w) := by
  obtain ⟨SS, hSS⟩ : ∃ SS : Nat → Prop, SS = fun b => (S b ∧ b < w.heap.size) ∨ w.heap.size + 3 ≤ b := ⟨_, rfl⟩
  have Hin := Lib.hid (show x.In w SS ka kc la lc from hin.mono fun b h hl => by rw [hSS]; exact .inl ⟨h, hl⟩)
  have HSo := Lib.hid (show ∀ b, S b → b < w.heap.size → SS b from fun b h hl => by rw [hSS]; exact .inl ⟨h, hl⟩)
  have HS2 := Lib.hid (show ∀ b, w.heap.size + 3 ≤ b → SS b from fun b h => by rw [hSS]; exact .inr h)
  have HS3 := Lib.hid (show ∀ b, SS b → b ≠ w.heap.size + 2 from fun b h => by rw [hSS] at h; rcases h with h | h <;> omega)
  have HS5 := Lib.hid (show ∀ b, SS b → b ≠ w.heap.size + 1 from fun b h => by rw [hSS] at h; rcases h with h | h <;> omega)
  have HS4 := Lib.hid (show ∀ b, SS b → Plus S w b from fun b h => by rw [hSS] at h; exact h.elim (fun h => .inl h.1) (fun h => .inr (by omega)))
  have Hops := Lib.hid hops
  have Hls := Lib.hid hls
  clear hSS hin hops hls
  by_cases h20 : 20 < n
  · have h20i : (20 : Int) < (n : Int) := by omega
    have Hr := Lib.hid (show allV x l = (x, 2) by unfold allV; rw [if_pos (by rw [hn.out]; exact h20)])
    go_enter Tryz.func40, Tryz.ntmps40
    go_wp2_with fail
    (with_reducible apply bp_ret); (focus (go_light; simp [results, Tryz.results40, go_sem, *]; rfl))
    rw [Hr.out]
    exact ⟨ka, kc, la, lc, rfl, Hin.out.keep (Held.kept (Held.mono (a := w) (S := fun b => b ≠ w.heap.size + 1) Hxt HS5.out)) (fun b hb _ => HS4.out b hb), Xt⟩
  · have h20i : ¬ (20 : Int) < (n : Int) := by omega
    have Hl20 := Lib.hid (show ¬ 20 < l.length by rw [hn.out]; exact h20)
    go_enter Tryz.func40, Tryz.ntmps40
    go_upto_region 4 with fail
    refine gen_world (R := fun wx => Box wx w.heap.size #[.int .i64 x.k, .int .i64 x.n, .string x.s, .slice ka x.keys.length kc, .slice la x.l.length lc] 25 ∧ Box wx (w.heap.size + 1) #[.int .i64 0, .int .i64 0, .string ⟨#[]⟩, .slice none 0 0, .slice none 0 0] 25 ∧ Box wx (w.heap.size + 2) #[.int .i64 x.k, .int .i64 x.n, .string x.s, .slice ka x.keys.length kc, .slice la x.l.length lc] 25 ∧ Ext w wx) ⟨Bxt, Bxt, Bxt, Xt⟩ ?_
    rintro wa ⟨hB0, hB1, hB2, hxa⟩
    go_wp2_with fail
    go_loopg [8, 9, 17] n (fun g _ _ i wr => ∃ (k : Nat) (acc : V) (ka2 : Option Addr) (kc2 : Nat) (la2 : Option Addr) (lc2 : Nat), k ≤ n ∧ i = .int .i64 k ∧ g = n - k ∧ Box wr (w.heap.size + 2) #[.int .i64 acc.k, .int .i64 acc.n, .string acc.s, .slice ka2 acc.keys.length kc2, .slice la2 acc.l.length lc2] 25 ∧ acc.In wr SS ka2 kc2 la2 lc2 ∧ Hid (goV (l.take k) x = (acc, 0)) ∧
      Box wr w.heap.size #[.int .i64 x.k, .int .i64 x.n, .string x.s, .slice ka x.keys.length kc, .slice la x.l.length lc] 25 ∧ Box wr (w.heap.size + 1) #[.int .i64 0, .int .i64 0, .string ⟨#[]⟩, .slice none 0 0, .slice none 0 0] 25 ∧ Ext w wr)
    case atStart => exact ⟨0, x, ka, kc, la, lc, by omega, rfl, rfl, hB2, Hin.out.ext Xt, Lib.hid (by rw [List.take_zero, goV]), hB0, hB1, hxa⟩
    case round =>
      clear hB0 hB1 hB2 hxa
      obtain ⟨k, acc, ka2, kc2, la2, lc2, hk, rfl, rfl, hB2, hin2, Hacc, hB0, hB1, hx⟩ := hrel
      have Hin2 := Lib.hid hin2
      clear hin2
      have hz := hB2.lt
      have hacs : acc.size ≤ 4194304 := by
        have h := go_size (l.take k) x (by rw [Hacc.out])
        rw [Hacc.out] at h
        simp only at h
        omega
      by_cases hlt : k < n
      · have hlt2 : k < l.length := by rw [hn.out]; exact hlt
        obtain ⟨b, o, rfl, hSb, hit⟩ := Hops.out.resolve_left (by intro e; rw [e] at hlt2; simp at hlt2)
        obtain ⟨d0, d1, d2, ka3, kc3, la3, lc3, ⟨d3, d4, d5, d6, d7⟩, hin3⟩ := hit k hlt2
        obtain ⟨hq1, hq2, hq3⟩ := ops_item hlt2 Hls.out
        have Hsn := Lib.hid (fun (r : V) (e : Int) (h : oneV acc l[k] = (r, e)) => all_next hlt2 Hacc.out h)
        obtain ⟨⟨qk, qp, qf, qv⟩, hq⟩ : ∃ q, l[k] = q := ⟨_, rfl⟩
        have Hsn := Lib.hid (show ∀ (r : V) (e : Int), oneV acc ⟨qk, qp, qf, qv⟩ = (r, e) → goV (l.take (k + 1)) x = (r, e) by rw [← hq]; exact Hsn.out)
        rw [hq] at d0 d1 d2 d3 d4 d5 d6 d7 hin3 hq1 hq2 hq3
        simp only at d0 d1 d2 d3 d4 d5 d6 d7 hin3 hq1 hq2 hq3
        have Hin3 := Lib.hid (V.In.ext (w' := wr) (hin3.mono (T := SS) fun b h hl => HSo.out b h hl) hx)
        have d0 := hx.cell d0
        have d1 := hx.cell d1
        have d2 := hx.cell d2
        have d3 := hx.cell d3
        have d4 := hx.cell d4
        have d5 := hx.cell d5
        have d6 := hx.cell d6
        have d7 := hx.cell d7
        have hki0 : (0 : Int) ≤ (k : Int) := by omega
        have hki1 : (k : Int) < (n : Int) := by omega
        clear hin3 hit hq
        go_upto_region 8 with fail
        refine gen_world (R := fun wx => Box wx w.heap.size #[.int .i64 x.k, .int .i64 x.n, .string x.s, .slice ka x.keys.length kc, .slice la x.l.length lc] 25 ∧ Box wx (w.heap.size + 1) #[.int .i64 0, .int .i64 0, .string ⟨#[]⟩, .slice none 0 0, .slice none 0 0] 25 ∧ Box wx (w.heap.size + 2) #[.int .i64 acc.k, .int .i64 acc.n, .string acc.s, .slice ka2 acc.keys.length kc2, .slice la2 acc.l.length lc2] 25 ∧ Box wx wr.heap.size #[.int .i64 qk, .string qp, .string qf, .int .i64 qv.k, .int .i64 qv.n, .string qv.s, .slice ka3 qv.keys.length kc3, .slice la3 qv.l.length lc3] 49 ∧ acc.In wx SS ka2 kc2 la2 lc2 ∧ qv.In wx SS ka3 kc3 la3 lc3 ∧ Ext w wx) ⟨Bxt, Bxt, Bxt, Bxt, Hin2.out.ext Xt, Hin3.out.ext Xt, Xt⟩ ?_
        clear hB0 hB1 hB2 Hin2 Hin3 hx d0 d1 d2 d3 d4 d5 d6 d7 hki0 hki1
        rintro wb ⟨hB0, hB1, hB2, hB4, hin2, hin3, hx⟩
        have Hin2 := Lib.hid hin2
        have Hin3 := Lib.hid hin3
        clear hin2 hin3
        obtain ⟨r, hr⟩ : ∃ r, (oneV acc ⟨qk, qp, qf, qv⟩).1 = r := ⟨_, rfl⟩
        obtain ⟨er, her⟩ : ∃ er, (oneV acc ⟨qk, qp, qf, qv⟩).2 = er := ⟨_, rfl⟩
        have Hone := Lib.hid (show oneV acc ⟨qk, qp, qf, qv⟩ = (r, er) from Prod.ext hr her)
        have Hnx := Lib.hid (Hsn.out r er Hone.out)
        clear hr her
        have hz2_ := hB2.lt
        have hc2 := hB2.cells; have hf2 := hB2.free; have hl2 := hB2.lt
        have hc4 := hB4.cells; have hf4 := hB4.free; have hl4 := hB4.lt
        go_wp2_with fail
        (refine (one_any acc ka2 kc2 la2 lc2 qk qp qf qv ka3 kc3 la3 lc3 _ (hl.ext Xt) hacs hq3 hq1 hq2 SS (Hin2.out.ext Xt) (Hin3.out.ext Xt)).mono ?_)
        rw [Hone.out]
        rintro e w1 ⟨ka5, kc5, la5, lc5, rfl, hin_, h1⟩
        have Hin5 := Lib.hid (hin_.mono (T := SS) fun b h hlt_ => h.elim id (fun h => HS2.out b (by (try simp at h); omega)))
        have hB0 := Box.ext h1 hB0
        have hB1 := Box.ext h1 hB1
        have hB2 := Box.ext h1 hB2
        have hx1 := hx.trans h1
        clear hin_ h1 hx hB4 hc2 hf2 hl2 hc4 hf4 hl4 hz2_ Hin2 Hin3
        by_cases h0 : er = 0
        · subst h0
          have hc2 := hB2.cells; have hf2 := hB2.free; have hl2 := hB2.lt
          go_wp2_with fail
          go_roundg (n - (k + 1))
          case measure => omega
          case rel => exact ⟨k + 1, r, ka5, kc5, la5, lc5, by omega, by go_num, rfl, Bxt, Hin5.out.keep (Held.kept (Held.mono (a := w1) (S := fun b => b ≠ w.heap.size + 2) Hxt HS3.out)) (fun b hb _ => hb), Hnx, Bxt, Bxt, Xt⟩
        · have h0b : (er != 0) = true := by simpa using h0
          have Hr := Lib.hid (all_err Hl20.out Hnx.out h0)
          clear h0
          have hc0 := hB0.cells; have hf0 := hB0.free; have hl0 := hB0.lt
          have hc1 := hB1.cells; have hf1 := hB1.free; have hl1 := hB1.lt
          have hc2 := hB2.cells; have hf2 := hB2.free; have hl2 := hB2.lt
          go_wp2_with fail
          (with_reducible apply bp_ret); (focus (go_light; simp [results, Tryz.results40, go_sem, *]; rfl))
          rw [Hr.out]
          exact ⟨ka, kc, la, lc, rfl, Hin.out.keep (Held.kept (Held.mono (a := w) (S := fun b => b ≠ w.heap.size + 1 ∧ b ≠ w.heap.size + 2) Hxt fun b h => ⟨HS5.out b h, HS3.out b h⟩)) (fun b hb _ => HS4.out b hb), Xt⟩
      · obtain rfl : k = n := by omega
        have Hr := Lib.hid (all_ok Hl20.out (by have := Hacc.out; rwa [List.take_of_length_le (by rw [hn.out]; exact Nat.le_refl _)] at this))
        have hc2 := hB2.cells; have hf2 := hB2.free; have hl2 := hB2.lt
        have hc1 := hB1.cells; have hf1 := hB1.free; have hl1 := hB1.lt
        go_wp2_with fail
        (with_reducible apply bp_ret); (focus (go_light; simp [results, Tryz.results40, go_sem, *]; rfl))
        rw [Hr.out]
        exact ⟨ka2, kc2, la2, lc2, rfl, Hin2.out.keep (Held.kept (Held.mono (a := wr) (S := fun b => b ≠ w.heap.size + 1) Hxt HS5.out)) (fun b hb _ => HS4.out b hb), Xt⟩
end Go.Proofs.YtnbappeiebameaaGreatDoor
