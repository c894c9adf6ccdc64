/- The walks of point.Add, point.Put, point.Remove. -/
import Derived.Test.YtjibdbnpkfghhaaGreatDoorAdd2
set_option linter.all false
namespace Go.Proofs.YtjibdbnpkfghhaaGreatDoor
open Go.RowKit
attribute [local go_sem ↓] Go.wp_at_zero Go.wp_at_succ
theorem sum_set_at {α : Type} (f : α → Nat) (l : List α) (i : Nat) (hi : i < l.length) (a : α) : ((l.set i a).map f).sum + f l[i] = (l.map f).sum + f a := by
 induction l generalizing i with
 | nil => simp at hi
 | cons b r ih =>
  cases i with
  | zero => simp only [List.set_cons_zero, List.map_cons, List.sum_cons, List.getElem_cons_zero]; omega
  | succ i => have := ih i (by simpa using hi); simp only [List.set_cons_succ, List.map_cons, List.sum_cons, List.getElem_cons_succ]; omega
theorem setL_size {x y : V} {i : Nat} (hi : i < x.l.length) {B : Nat} (h : y.size ≤ (x.l[i]).size + B) : (x.setL i y).size ≤ x.size + B := by
 rw [V.size_eq, V.size_eq x]
 have := sum_set_at V.size x.l i hi y
 simp only [V.setL, V.s_mk, V.keys_mk, V.l_mk]
 omega
theorem at_size (F : Doer) (B : Nat) (hF : ∀ (y : V) (name : ByteArray), name.size ≤ 8000 → (F y name).1.size ≤ y.size + B) : ∀ (ks : List ByteArray) (x : V), (∀ k ∈ ks, k.size ≤ 8000) → (atV F ks x).1.size ≤ x.size + B := by
 intro ks
 induction ks with
 | nil => intro x _; simp [atV]
 | cons k r ih =>
  intro x hk
  cases r with
  | nil => rw [atV_one]; exact hF x k (hk k (by simp))
  | cons k2 r =>
   cases hc : x.child k with
   | none => rw [atV_none hc]; simp
   | some i =>
    by_cases hi : i < x.l.length
    ·rw [atV_some hc hi]
     split
     ·exact setL_size hi (ih _ (fun k h => hk k (by simp [List.mem_cons.1 h])))
     ·simp
    ·rw [atV, if_neg (by simp), hc]
     simp only [List.getElem?_eq_none (Nat.le_of_not_lt hi)]
     omega
theorem addF_size (y x : V) (name : ByteArray) (hn : name.size ≤ 8000) : (addF y x name).1.size ≤ x.size + (y.size + 8001) := by
 unfold addF
 split
 ·have := put_size x name y; simp only; omega
 ·split
  ·split
   ·split
    ·have := sum_insert V.size x.l (by assumption) y
     rw [V.size_eq, V.size_eq x]
     simp only [V.insL, V.s_mk, V.keys_mk, V.l_mk]
     omega
    ·simp
   ·simp
  ·simp
set_option maxRecDepth 100000 in
set_option maxHeartbeats 8000000 in
theorem add_any (y : V) (kb : Option Addr) (kd : Nat) (lb : Option Addr) (ld : Nat) (x : V) (ka : Option Addr) (kc : Nat) (la : Option Addr) (lc : Nat) (p : ByteArray) (S : Nat → Prop) (w : World) (hl : LibAt w) (hsx : x.size ≤ 536870912) (hsy : y.size ≤ 536862000) (hp : p.size ≤ 1073741824) (hin : x.In w S ka kc la lc) (hjn : y.In w S kb kd lb ld) :
  Calls Tryz.prog 41 #[x.val ka kc la lc, .string p, y.val kb kd lb ld] w (RetV2 S (addP x p y).1 (.int .i64 (addP x p y).2) w) := by
 have hsz2 : ∀ (ks : List ByteArray), (∀ k ∈ ks, k.size ≤ 8000) → (atV (addF y) ks x).1.size ≤ 1073741824 := fun ks h => by
  have := at_size (addF y) (y.size + 8001) (addF_size y) ks x h
  omega
 have Hin : Hid (x.In w (fun b => S b ∧ b < w.heap.size) ka kc la lc) := hin.mono fun b h hl => ⟨h, hl⟩
 have Hjn : Hid (y.In w (fun b => S b ∧ b < w.heap.size) kb kd lb ld) := hjn.mono fun b h hl => ⟨h, hl⟩
 have hm := hl.max
 clear hin hjn
 by_cases hy : y.fine = true
 ·have Hy := Lib.hid hy
  by_cases hpe : p.data.toList = []
  ·have hpe1 : p.toList.isEmpty = true := by rw [ByteArray.toList_eq, hpe]; rfl
   have hpe2 : p.toList = [] := by rw [ByteArray.toList_eq, hpe]
   have Hpe := Lib.hid hpe
   clear hpe
   go_enter Tryz.func41, Tryz.ntmps41
   go_upto_region 1 with fail
   refine gen_world (R := fun wx => Box wx w.heap.size #[.int .i64 x.k, .int .i64 x.n, .string x.s, .slice ka x.keys.length kc, .slice la x.l.length lc] 25 ∧ Box wx (w.heap.size + 1) #[.int .i64 y.k, .int .i64 y.n, .string y.s, .slice kb y.keys.length kd, .slice lb y.l.length ld] 25 ∧ Box wx (w.heap.size + 2) #[.int .i64 0, .int .i64 0, .string ⟨#[]⟩, .slice none 0 0, .slice none 0 0] 25 ∧ Ext w wx) ⟨Bxt, Bxt, Bxt, Xt⟩ ?_
   rintro wa ⟨hB0, hB1, hB2, hxa⟩
   have hc1 := hB1.cells; have hf1 := hB1.free; have hl1 := hB1.lt
   go_wp2_with fail
   (refine (fine_any y kb kd lb ld _ _ (by omega) (Hjn.out.ext Xt)).mono ?_); rintro e w1 ⟨rfl, h1⟩
   have hB0 := Box.ext h1 hB0
   have hB1 := Box.ext h1 hB1
   have hB2 := Box.ext h1 hB2
   have hx1 : Ext w w1 := Xt
   clear h1 hxa hc1 hf1 hl1
   rw [hy]
   have hc0 := hB0.cells; have hf0 := hB0.free; have hl0 := hB0.lt
   have hc1 := hB1.cells; have hf1 := hB1.free; have hl1 := hB1.lt
   go_wp2_with fail
   (refine (may_any x ka kc la lc _ p _ (by omega) (Hin.out.ext Xt) hp (hm.ext Xt)).mono ?_)
   rintro e w2 (⟨a, n, c, ks, hnb, hfi, rfl, hn, hok, hst, h2⟩ | ⟨hbad, rfl, h2⟩)
   ·have hap : addP x p y = (y, 0) := by unfold addP; rw [if_neg (by rw [hy]; decide), if_pos ⟨Hpe.out, hfi⟩]
    have Hap := Lib.hid hap
    have hB1 := Box.ext h2 hB1
    have hB2 := Box.ext h2 hB2
    have hx2 : Ext w w2 := Xt
    clear h2 hc0 hf0 hl0 hc1 hf1 hl1 hx1 hnb hn hok hst hfi hap
    have hc1 := hB1.cells; have hf1 := hB1.free; have hl1 := hB1.lt
    have hc2 := hB2.cells; have hf2 := hB2.free; have hl2 := hB2.lt
    go_wp2_with fail
    (with_reducible apply bp_ret); (focus (go_light; simp [results, Tryz.results41, go_sem, *]; rfl))
    rw [Hap.out]
    exact ⟨kb, kd, lb, ld, rfl, (Hjn.out.ext Xt).mono (fun b h _ => .inl h.1), Xt⟩
   ·have hfx : x.fine = false := by
     rcases hbad with h | h
     ·rw [names_empty Hpe.out] at h; cases h
     ·exact h
    have hap : addP x p y = changeV x p (addF y) := by unfold addP; rw [if_neg (by rw [hy]; decide), if_neg (fun h => by rw [hfx] at h; exact absurd h.2 (by decide))]
    have Hap := Lib.hid hap
    clear hap hbad hfx hc1 hf1 hl1
    have hx2 : Ext w w2 := Xt
    have hB0 := Box.ext h2 hB0
    have hB1 := Box.ext h2 hB1
    have hB2 := Box.ext h2 hB2
    clear h2 hc0 hf0 hl0 hx1
    have hc0 := hB0.cells; have hf0 := hB0.free; have hl0 := hB0.lt
    go_wp2_with fail
    have hSw : ∀ b, (S b ∧ b < w.heap.size) → b < w2.heap.size := fun b h => Nat.lt_of_lt_of_le h.2 hx2.size
    (refine (change_any (addF y) (fun b => S b ∧ b < w.heap.size) 89 #[.pointer (some ⟨w.heap.size + 1, 0, none⟩)] _ hSw enters_add (does_add y kb kd lb ld (w.heap.size + 1) _ _ hSw hB1 (Hjn.out.ext hx2) (hl.ext hx2)) (hl.ext hx2) x ka kc la lc p (by omega) hsz2 (Hin.out.ext Xt) hp).mono ?_); rintro e w3 ⟨ka3, kc3, la3, lc3, rfl, hin3, h3⟩
    have hz2 := hB2.lt
    have hin4 : (changeV x p (addF y)).1.In w3 (fun b => (S b ∧ b < w.heap.size) ∨ w.heap.size + 3 ≤ b) ka3 kc3 la3 lc3 := hin3.mono (fun b h _ => by rcases h with h | h; exact .inl h; exact .inr (by (try simp at h); omega))
    have hB2 := Box.ext h3 hB2
    have hx3 : Ext w w3 := Xt
    have Hin4 := Lib.hid hin4
    clear h3 hin3 hin4 hc0 hf0 hl0 hx2 hB0 hB1
    have hc2 := hB2.cells; have hf2 := hB2.free; have hl2 := hB2.lt
    go_wp2_with fail
    (with_reducible apply bp_ret); (focus (go_light; simp [results, Tryz.results41, go_sem, *]; rfl))
    rw [Hap.out]
    exact ⟨ka3, kc3, la3, lc3, rfl, Hin4.out.keep (Held.kept (Held.mono (S := fun b => b ≠ w.heap.size + 2) (a := w3) Hxt (fun b h => by rcases h with h | h; (have := h.2; simp; omega); (simp; omega)))) (fun b h _ => by rcases h with h | h; exact .inl h.1; exact .inr (by omega)), Xt⟩
  ·have hpe1 : p.toList.isEmpty = false := by rw [ByteArray.toList_eq]; cases hq : p.data.toList with | nil => exact absurd hq hpe | cons => rfl
   have hpe2 : ¬ p.toList = [] := by rw [ByteArray.toList_eq]; exact hpe
   have hap : addP x p y = changeV x p (addF y) := by unfold addP; rw [if_neg (by rw [hy]; decide), if_neg (fun h => hpe h.1)]
   have Hap := Lib.hid hap
   clear hpe hap
   go_enter Tryz.func41, Tryz.ntmps41
   go_upto_region 1 with fail
   refine gen_world (R := fun wx => Box wx w.heap.size #[.int .i64 x.k, .int .i64 x.n, .string x.s, .slice ka x.keys.length kc, .slice la x.l.length lc] 25 ∧ Box wx (w.heap.size + 1) #[.int .i64 y.k, .int .i64 y.n, .string y.s, .slice kb y.keys.length kd, .slice lb y.l.length ld] 25 ∧ Box wx (w.heap.size + 2) #[.int .i64 0, .int .i64 0, .string ⟨#[]⟩, .slice none 0 0, .slice none 0 0] 25 ∧ Ext w wx) ⟨Bxt, Bxt, Bxt, Xt⟩ ?_
   rintro wa ⟨hB0, hB1, hB2, hxa⟩
   have hc1 := hB1.cells; have hf1 := hB1.free; have hl1 := hB1.lt
   go_wp2_with fail
   (refine (fine_any y kb kd lb ld _ _ (by omega) (Hjn.out.ext Xt)).mono ?_); rintro e w1 ⟨rfl, h1⟩
   have hB0 := Box.ext h1 hB0
   have hB1 := Box.ext h1 hB1
   have hB2 := Box.ext h1 hB2
   have hx1 : Ext w w1 := Xt
   clear h1 hxa hc1 hf1 hl1
   rw [hy]
   have hc0 := hB0.cells; have hf0 := hB0.free; have hl0 := hB0.lt
   have hc1 := hB1.cells; have hf1 := hB1.free; have hl1 := hB1.lt
   go_wp2_with fail
   (refine (may_any x ka kc la lc _ p _ (by omega) (Hin.out.ext Xt) hp (hm.ext Xt)).mono ?_)
   rintro e w2 (⟨a, n, c, ks, hnb, hfi, rfl, hn, hok, hst, h2⟩ | ⟨hbad, rfl, h2⟩)
   ·clear hc1 hf1 hl1 hnb hn hok hst hfi
    have hx2 : Ext w w2 := Xt
    have hB0 := Box.ext h2 hB0
    have hB1 := Box.ext h2 hB1
    have hB2 := Box.ext h2 hB2
    clear h2 hc0 hf0 hl0 hx1
    have hc0 := hB0.cells; have hf0 := hB0.free; have hl0 := hB0.lt
    go_wp2_with fail
    have hSw : ∀ b, (S b ∧ b < w.heap.size) → b < w2.heap.size := fun b h => Nat.lt_of_lt_of_le h.2 hx2.size
    (refine (change_any (addF y) (fun b => S b ∧ b < w.heap.size) 89 #[.pointer (some ⟨w.heap.size + 1, 0, none⟩)] _ hSw enters_add (does_add y kb kd lb ld (w.heap.size + 1) _ _ hSw hB1 (Hjn.out.ext hx2) (hl.ext hx2)) (hl.ext hx2) x ka kc la lc p (by omega) hsz2 (Hin.out.ext Xt) hp).mono ?_); rintro e w3 ⟨ka3, kc3, la3, lc3, rfl, hin3, h3⟩
    have hz2 := hB2.lt
    have hin4 : (changeV x p (addF y)).1.In w3 (fun b => (S b ∧ b < w.heap.size) ∨ w.heap.size + 3 ≤ b) ka3 kc3 la3 lc3 := hin3.mono (fun b h _ => by rcases h with h | h; exact .inl h; exact .inr (by (try simp at h); omega))
    have hB2 := Box.ext h3 hB2
    have hx3 : Ext w w3 := Xt
    have Hin4 := Lib.hid hin4
    clear h3 hin3 hin4 hc0 hf0 hl0 hx2 hB0 hB1
    have hc2 := hB2.cells; have hf2 := hB2.free; have hl2 := hB2.lt
    go_wp2_with fail
    (with_reducible apply bp_ret); (focus (go_light; simp [results, Tryz.results41, go_sem, *]; rfl))
    rw [Hap.out]
    exact ⟨ka3, kc3, la3, lc3, rfl, Hin4.out.keep (Held.kept (Held.mono (S := fun b => b ≠ w.heap.size + 2) (a := w3) Hxt (fun b h => by rcases h with h | h; (have := h.2; simp; omega); (simp; omega)))) (fun b h _ => by rcases h with h | h; exact .inl h.1; exact .inr (by omega)), Xt⟩
   ·clear hc1 hf1 hl1 hbad
    have hx2 : Ext w w2 := Xt
    have hB0 := Box.ext h2 hB0
    have hB1 := Box.ext h2 hB1
    have hB2 := Box.ext h2 hB2
    clear h2 hc0 hf0 hl0 hx1
    have hc0 := hB0.cells; have hf0 := hB0.free; have hl0 := hB0.lt
    go_wp2_with fail
    have hSw : ∀ b, (S b ∧ b < w.heap.size) → b < w2.heap.size := fun b h => Nat.lt_of_lt_of_le h.2 hx2.size
    (refine (change_any (addF y) (fun b => S b ∧ b < w.heap.size) 89 #[.pointer (some ⟨w.heap.size + 1, 0, none⟩)] _ hSw enters_add (does_add y kb kd lb ld (w.heap.size + 1) _ _ hSw hB1 (Hjn.out.ext hx2) (hl.ext hx2)) (hl.ext hx2) x ka kc la lc p (by omega) hsz2 (Hin.out.ext Xt) hp).mono ?_); rintro e w3 ⟨ka3, kc3, la3, lc3, rfl, hin3, h3⟩
    have hz2 := hB2.lt
    have hin4 : (changeV x p (addF y)).1.In w3 (fun b => (S b ∧ b < w.heap.size) ∨ w.heap.size + 3 ≤ b) ka3 kc3 la3 lc3 := hin3.mono (fun b h _ => by rcases h with h | h; exact .inl h; exact .inr (by (try simp at h); omega))
    have hB2 := Box.ext h3 hB2
    have hx3 : Ext w w3 := Xt
    have Hin4 := Lib.hid hin4
    clear h3 hin3 hin4 hc0 hf0 hl0 hx2 hB0 hB1
    have hc2 := hB2.cells; have hf2 := hB2.free; have hl2 := hB2.lt
    go_wp2_with fail
    (with_reducible apply bp_ret); (focus (go_light; simp [results, Tryz.results41, go_sem, *]; rfl))
    rw [Hap.out]
    exact ⟨ka3, kc3, la3, lc3, rfl, Hin4.out.keep (Held.kept (Held.mono (S := fun b => b ≠ w.heap.size + 2) (a := w3) Hxt (fun b h => by rcases h with h | h; (have := h.2; simp; omega); (simp; omega)))) (fun b h _ => by rcases h with h | h; exact .inl h.1; exact .inr (by omega)), Xt⟩
 ·have hy' : y.fine = false := by simpa using hy
  have hap : addP x p y = (x, 1) := by unfold addP; rw [if_pos hy']
  have Hap := Lib.hid hap
  clear hap hy
  go_enter Tryz.func41, Tryz.ntmps41
  go_upto_region 1 with fail
  refine gen_world (R := fun wx => Box wx w.heap.size #[.int .i64 x.k, .int .i64 x.n, .string x.s, .slice ka x.keys.length kc, .slice la x.l.length lc] 25 ∧ Box wx (w.heap.size + 1) #[.int .i64 y.k, .int .i64 y.n, .string y.s, .slice kb y.keys.length kd, .slice lb y.l.length ld] 25 ∧ Box wx (w.heap.size + 2) #[.int .i64 0, .int .i64 0, .string ⟨#[]⟩, .slice none 0 0, .slice none 0 0] 25 ∧ Ext w wx) ⟨Bxt, Bxt, Bxt, Xt⟩ ?_
  rintro wa ⟨hB0, hB1, hB2, hxa⟩
  have hc1 := hB1.cells; have hf1 := hB1.free; have hl1 := hB1.lt
  go_wp2_with fail
  (refine (fine_any y kb kd lb ld _ _ (by omega) (Hjn.out.ext Xt)).mono ?_); rintro e w1 ⟨rfl, h1⟩
  have hB0 := Box.ext h1 hB0
  have hB1 := Box.ext h1 hB1
  have hB2 := Box.ext h1 hB2
  have hx1 : Ext w w1 := Xt
  clear h1 hxa hc1 hf1 hl1
  rw [hy']
  have hc0 := hB0.cells; have hf0 := hB0.free; have hl0 := hB0.lt
  have hc2 := hB2.cells; have hf2 := hB2.free; have hl2 := hB2.lt
  go_wp2_with fail
  (with_reducible apply bp_ret); (focus (go_light; simp [results, Tryz.results41, go_sem, *]; rfl))
  rw [Hap.out]
  exact ⟨ka, kc, la, lc, rfl, (Hin.out.ext Xt).mono (fun b h _ => .inl h.1), Xt⟩
end Go.Proofs.YtjibdbnpkfghhaaGreatDoor
