/- The walk of point.change. -/
import Derived.Test.YtnbappeiebameaaGreatDoorAto
set_option linter.all false
namespace Go.Proofs.YtnbappeiebameaaGreatDoor
open Go.RowKit
attribute [local go_sem ↓] Go.wp_at_zero Go.wp_at_succ

set_option maxRecDepth 100000 in
set_option maxHeartbeats 8000000 in
theorem change_any (F : Doer) (S : Nat → Prop) (fid : FuncId) (caps : Array Value) (w : World) (hS : Hid (∀ b, S b → b < w.heap.size)) (hE : Hid (∀ args w, (callFunc fid args).run Tryz.prog w = .ok (.enter fid args) w)) (hD : Hid (Does F S fid caps w)) (hl : LibAt w)
    (x : V) (ka : Option Addr) (kc : Nat) (la : Option Addr) (lc : Nat) (p : ByteArray) (hsz : x.size ≤ 1073741824) (hB : Hid (∀ ks : List ByteArray, (∀ k ∈ ks, k.size ≤ 8000) → (atV F ks x).1.size ≤ 1073741824)) (hin : x.In w S ka kc la lc) (hp : p.size ≤ 1073741824) :
    Calls Tryz.prog 74 #[x.val ka kc la lc, .string p, .func (Fn.func fid) #[] caps] w (RetV2 S (changeV x p F).1 (.int .i64 (changeV x p F).2) w) := by
  have hm := hl.max
  have Hin := Lib.hid hin
  clear hin
  go_enter Tryz.func74, Tryz.ntmps74
  go_upto_region 1 with fail
  refine gen_world (R := fun wx => Box wx w.heap.size #[.int .i64 x.k, .int .i64 x.n, .string x.s, .slice ka x.keys.length kc, .slice la x.l.length lc] 25 ∧ Box wx (w.heap.size + 1) #[.int .i64 0, .int .i64 0, .string ⟨#[]⟩, .slice none 0 0, .slice none 0 0] 25 ∧ Ext w wx) ⟨Bxt, Bxt, Xt⟩ ?_
  rintro wa ⟨hB0, hB1, hxa⟩
  have hc0 := hB0.cells; have hf0 := hB0.free; have hl0 := hB0.lt
  go_wp2_with fail
  (refine (may_any x ka kc la lc _ p _ hsz (Hin.out.ext Xt) hp (hm.ext Xt)).mono ?_)
  rintro e w2 (⟨a, n, c, ks, hnb, hfi, rfl, hn, hok, hst, h2⟩ | ⟨hbad, rfl, h2⟩)
  · have hcp : changeV x p F = if ks = [] then (x, 1) else if (atV F ks x).2 = 0 then (if (atV F ks x).1.fine = true then ((atV F ks x).1, 0) else (x, 2)) else (x, (atV F ks x).2) := by
      unfold changeV; rw [hnb]; simp only; rw [if_neg (by rw [hfi]; decide)]
    have hsm := (namesB_small hnb).2
    have hlen := (namesB_small hnb).1
    have Hcp := Lib.hid hcp
    have hso := fine_sound hfi
    have Hsm := Lib.hid hsm
    have Hst := Lib.hid hst
    have hB0 := Box.ext h2 hB0
    have hB1 := Box.ext h2 hB1
    have hx2 : Ext w w2 := Xt
    clear h2 hc0 hf0 hl0 hxa hcp hnb hsm hst hfi
    subst hn
    have hc0 := hB0.cells; have hf0 := hB0.free; have hl0 := hB0.lt
    have hc1 := hB1.cells; have hf1 := hB1.free; have hl1 := hB1.lt
    by_cases hk0 : ks = []
    · subst hk0
      go_wp2_with fail
      (with_reducible apply bp_ret); (focus (go_light; simp [results, Tryz.results74, go_sem, *]; rfl))
      rw [Hcp.out, if_pos trivial]
      exact ⟨ka, kc, la, lc, rfl, (Hin.out.ext Xt).mono (fun b h _ => .inl h), Xt⟩
    · have hks : ((ks.length : Int) == 0) = false := by
        have := List.length_pos_iff.2 hk0
        simp; omega
      have Hk0 := Lib.hid hk0
      clear hk0
      go_wp2_with fail
      (refine (at_any F S fid caps w hS hE hD hl ks x ka kc la lc a ks.length c _ _ Hk0.out rfl (by omega) hok.1 hok.2.1 Hsm.out hso hsz Xt (Hin.out.ext Xt) (Hst.out.ext Xt)).mono ?_)
      rintro e w3 ⟨ka3, kc3, la3, lc3, rfl, hin3, h3⟩
      have hx3 : Ext w w3 := Xt
      have hz2 := hB1.lt
      have hin4 : (atV F ks x).1.In w3 (fun b => S b ∨ w.heap.size + 2 ≤ b) ka3 kc3 la3 lc3 := hin3.mono (fun b h _ => by rcases h with h | h; exact .inl h; exact .inr (by (try simp at h); omega))
      have hB0 := Box.ext (w := w2) (w' := w3) Xt hB0
      have hB1 := Box.ext (w := w2) (w' := w3) Xt hB1
      have Hin4 := Lib.hid hin4
      clear h3 hin3 hin4 hc0 hf0 hl0 hc1 hf1 hl1 hx2 Hst
      go_upto_region 7 with fail
      refine gen_world (R := fun wx => Box wx w.heap.size #[.int .i64 x.k, .int .i64 x.n, .string x.s, .slice ka x.keys.length kc, .slice la x.l.length lc] 25 ∧ Box wx (w.heap.size + 1) #[.int .i64 0, .int .i64 0, .string ⟨#[]⟩, .slice none 0 0, .slice none 0 0] 25 ∧ Box wx w3.heap.size #[.int .i64 (atV F ks x).1.k, .int .i64 (atV F ks x).1.n, .string (atV F ks x).1.s, .slice ka3 (atV F ks x).1.keys.length kc3, .slice la3 (atV F ks x).1.l.length lc3] 25 ∧ (atV F ks x).1.In wx (fun b => S b ∨ w.heap.size + 2 ≤ b) ka3 kc3 la3 lc3 ∧ Ext w wx) ⟨Bxt, Bxt, Bxt, Hin4.out.ext Xt, Xt⟩ ?_
      have hl3 := hB1.lt
      clear hB0 hB1 Hin4 hx3
      rintro wd ⟨hB0, hB1, hBy, hjn, hxd⟩
      have Hjn := Lib.hid hjn
      clear hjn
      by_cases her : (atV F ks x).2 = 0
      · have he : ((atV F ks x).2 != 0) = false := by simpa using her
        have Her := Lib.hid her
        have hBs := hB.out ks Hsm.out
        clear her
        have hcy := hBy.cells; have hfy := hBy.free; have hly := hBy.lt
        have hf0 : (atV F ks x).1.fine = false ∨ (atV F ks x).1.fine = true := by cases (atV F ks x).1.fine <;> simp
        rcases hf0 with hf | hf
        all_goals
          have Hf := Lib.hid hf
          go_wp2_with fail
          (refine (fine_any (atV F ks x).1 ka3 kc3 la3 lc3 _ _ hBs (Hjn.out.ext Xt)).mono ?_); rintro e w4 ⟨rfl, h4⟩
          rw [hf]
          have hB0 := Box.ext h4 hB0
          have hB1 := Box.ext h4 hB1
          have hBy := Box.ext h4 hBy
          have hx4 : Ext w w4 := Xt
          have hj4 := Hjn.out.ext h4
          clear h4 hcy hfy hly hxd
          have hc0 := hB0.cells; have hf0 := hB0.free; have hl0 := hB0.lt
          have hc1 := hB1.cells; have hf1 := hB1.free; have hl1 := hB1.lt
          have hcy := hBy.cells; have hfy := hBy.free; have hly := hBy.lt
        · go_wp2_with fail
          (with_reducible apply bp_ret); (focus (go_light; simp [results, Tryz.results74, go_sem, *]; rfl))
          rw [Hcp.out, if_neg Hk0.out, if_pos Her.out, if_neg (by rw [Hf.out]; decide)]
          exact ⟨ka, kc, la, lc, rfl, (Hin.out.ext Xt).mono (fun b h _ => .inl h), Xt⟩
        · have Hj4 := Lib.hid hj4
          clear hj4
          go_wp2_with fail
          (with_reducible apply bp_ret); (focus (go_light; simp [results, Tryz.results74, go_sem, *]; rfl))
          rw [Hcp.out, if_neg Hk0.out, if_pos Her.out, if_pos Hf.out]
          exact ⟨ka3, kc3, la3, lc3, rfl, Hj4.out.keep (Held.kept (Held.mono (S := fun b => b ≠ w.heap.size + 1) (a := w4) Hxt (fun b h => by rcases h with h | h; (have := hS.out b h; simp; omega); (simp; omega)))) (fun b h _ => by rcases h with h | h; exact .inl h; exact .inr (by omega)), Xt⟩
      · have he : ((atV F ks x).2 != 0) = true := by simpa using her
        have Her := Lib.hid her
        clear her
        have hc0 := hB0.cells; have hf0 := hB0.free; have hl0 := hB0.lt
        have hc1 := hB1.cells; have hf1 := hB1.free; have hl1 := hB1.lt
        go_wp2_with fail
        (with_reducible apply bp_ret); (focus (go_light; simp [results, Tryz.results74, go_sem, *]; rfl))
        rw [Hcp.out, if_neg Hk0.out, if_neg Her.out]
        exact ⟨ka, kc, la, lc, rfl, (Hin.out.ext Xt).mono (fun b h _ => .inl h), Xt⟩
  · have hcp : changeV x p F = (x, 1) := by
      unfold changeV
      rcases hbad with h | h
      · rw [h]
      · cases namesB p <;> simp [h]
    have Hcp := Lib.hid hcp
    have hB0 := Box.ext h2 hB0
    have hB1 := Box.ext h2 hB1
    have hx2 : Ext w w2 := Xt
    clear h2 hc0 hf0 hl0 hxa hcp hbad
    have hc0 := hB0.cells; have hf0 := hB0.free; have hl0 := hB0.lt
    have hc1 := hB1.cells; have hf1 := hB1.free; have hl1 := hB1.lt
    go_wp2_with fail
    (with_reducible apply bp_ret); (focus (go_light; simp [results, Tryz.results74, go_sem, *]; rfl))
    rw [Hcp.out]
    exact ⟨ka, kc, la, lc, rfl, (Hin.out.ext Xt).mono (fun b h _ => .inl h), Xt⟩
end Go.Proofs.YtnbappeiebameaaGreatDoor
