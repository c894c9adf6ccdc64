/- The walks of stairwellkeep.pathsOf, sameTexts, through. -/
import Derived.Test.YtjibdbnpkfghhaaGreatDoorPkR
import Derived.Test.YtjibdbnpkfghhaaGreatDoorPkQ
set_option linter.all false
namespace Go.Proofs.YtjibdbnpkfghhaaGreatDoor
open Go.RowKit
attribute [local go_sem ↓] Go.wp_at_zero Go.wp_at_succ

set_option maxHeartbeats 2000000 in
theorem sameTextsK_any (ks : List ByteArray) (a1 a2 : Option Addr) (n1 n2 c1 c2 : Nat) (S1 S2 : Nat → Prop) (w : World) (h1 : StrsIn w S1 a1 ks) (h2 : StrsIn w S2 a2 ks) (e1 : ks.length = n1) (e2 : ks.length = n2) (hl : ks.length ≤ 1073741824) :
    Calls Tryz.prog 21 #[.slice a1 n1 c1, .slice a2 n2 c2] w fun e w' => e = .returned (.bool true) ∧ Ext w w' := by
  subst e1
  subst e2
  go_enter Tryz.func21, Tryz.ntmps21
  go_wp2_with fail
  go_loopg [5, 13] ks.length (fun g _ i wr => ∃ k : Nat, k ≤ ks.length ∧ i = .int .i64 k ∧ g = ks.length - k ∧ Ext w wr)
  case atStart => exact ⟨0, by omega, rfl, rfl, Ext.refl _⟩
  case round =>
    obtain ⟨k, hk, rfl, rfl, hx⟩ := hrel
    by_cases hlt : k < ks.length
    · obtain ⟨b1, o1, rfl, hS1, hc1⟩ := h1.resolve_left (by intro h; rw [h] at hlt; simp at hlt)
      obtain ⟨b2, o2, rfl, hS2, hc2⟩ := h2.resolve_left (by intro h; rw [h] at hlt; simp at hlt)
      have d0 := hx.cell (hc1 k hlt)
      have d1 := hx.cell (hc2 k hlt)
      have hki0 : (0 : Int) ≤ (k : Int) := by omega
      have hki1 : (k : Int) < (ks.length : Int) := by omega
      clear hc1 hc2 h1 h2
      go_wp2_with fail
      go_quiet (fail)
      go_wp2_with fail
      go_roundg (ks.length - (k + 1))
      case measure => omega
      case rel => exact ⟨k + 1, by omega, by go_num, rfl, Xt⟩
    · clear h1 h2
      go_wp2_with fail
      go_ret
      exact ⟨rfl, Xt⟩

theorem find_drop {l : List Ow} {who : ByteArray} {k : Nat} (h : k < l.length) : pathsOfL (l.drop k) who = if l[k].name = who then l[k].paths else pathsOfL (l.drop (k + 1)) who := by
  rw [List.drop_eq_getElem_cons h]
  unfold pathsOfL
  rw [List.find?_cons]
  by_cases he : l[k].name = who
  · rw [decide_eq_true he, if_pos he]
  · rw [decide_eq_false he, if_neg he]

/-- A call that gives texts that may be older than it. -/
def RetStrsO (S : Nat → Prop) (r : List ByteArray) (w : World) (e : Ending) (w' : World) : Prop :=
  ∃ a c, e = .returned (.slice a r.length c) ∧ SlOk a r.length c ∧ StrsIn w' S a r ∧ Ext w w'
set_option maxHeartbeats 4000000 in
theorem pathsOf_any (l : List Ow) (a : Option Addr) (c : Nat) (who : ByteArray) (T : Nat → Prop) (w : World) (hlz : l.length ≤ 1073741824) (hjn : OwsIn w T l a) :
    Calls Tryz.prog 22 #[.slice a l.length c, .string who] w (RetStrsO T (pathsOfL l who) w) := by
  have Hjn := Lib.hid hjn
  clear hjn
  go_enter Tryz.func22, Tryz.ntmps22
  go_wp2_with fail
  go_loopg [9] l.length (fun g i wr => ∃ (k : Nat), k ≤ l.length ∧ i = .int .i64 k ∧ g = l.length - k ∧ pathsOfL (l.drop k) who = pathsOfL l who ∧ Ext w wr)
  case atStart => exact ⟨0, Nat.zero_le _, rfl, rfl, rfl, Xt⟩
  case round =>
    obtain ⟨k, hk, rfl, rfl, hps, hx⟩ := hrel
    have Hps := Lib.hid hps
    clear hps
    by_cases hlt : k < l.length
    · obtain ⟨b, o, rfl, hSb, pa, pc, d0, d1, hsl, hst⟩ := (Hjn.out.ext hx).item hlt
      have Hd := Lib.hid (find_drop (who := who) hlt)
      obtain ⟨ow, how⟩ : ∃ ow, l[k] = ow := ⟨_, rfl⟩
      rw [how] at d0 d1 hsl hst Hd
      have Hst := Lib.hid hst
      clear how hst
      go_upto_region 4 with fail
      refine gen_world (R := fun wx => Box wx wr.heap.size #[.string ow.name, .slice pa ow.paths.length pc] 42 ∧ Ext wr wx) ⟨Bxt, Xt⟩ ?_
      rintro wb ⟨hB6, hxb⟩
      have hxw : Ext w wb := hx.trans hxb
      have hc6 := hB6.cells; have hf6 := hB6.free; have hl6 := hB6.lt
      by_cases he : ow.name = who
      · have hb := eqb_of he
        have Hr := Lib.hid (show pathsOfL l who = ow.paths by rw [← Hps.out, Hd.out, if_pos he])
        clear he
        go_wp2_with fail
        go_ret
        rw [Hr.out]
        exact ⟨_, _, rfl, hsl, Hst.out.ext Xt, Xt⟩
      · have hb := neb_of he
        have Hr := Lib.hid (show pathsOfL (l.drop (k + 1)) who = pathsOfL l who by rw [← Hps.out, Hd.out, if_neg he])
        clear he
        go_wp2_with fail
        go_roundg (l.length - (k + 1))
        case measure => omega
        case rel => exact ⟨k + 1, by omega, by go_num, rfl, Hr.out, Xt⟩
    · have Hr := Lib.hid (show pathsOfL l who = [] by rw [← Hps.out, List.drop_eq_nil_of_le (by omega)]; rfl)
      go_wp2_with fail
      go_ret
      rw [Hr.out]
      exact ⟨none, 0, rfl, SlOk.nil, .inl rfl, Xt⟩

/-- What through gives: what stands there, or something. -/
def RetThr (S : Nat → Prop) (x : V) (p : ByteArray) (w : World) (e : Ending) (w' : World) : Prop :=
  ∃ z : V, (∀ y, findV x p = some y → z = y) ∧ z.size ≤ 1073741824 ∧ RetV2 S z (.bool (findV x p).isSome) w e w'

set_option maxRecDepth 100000 in
set_option maxHeartbeats 8000000 in
theorem through_any (x : V) (ka : Option Addr) (kc : Nat) (la : Option Addr) (lc : Nat) (S : Nat → Prop) (p : ByteArray) (w : World) (hsz : x.size ≤ 1073741824) (hin : x.In w S ka kc la lc) (hp : p.size ≤ 1073741824) (hsm : (namesB p).isSome = true) (hm : MaxAt w) :
    Calls Tryz.prog 23 #[x.val ka kc la lc, .string p] w (RetThr S x p w) := by
  have Hin := Lib.hid (hin.mono (T := fun b => (S b ∧ b < w.heap.size) ∨ w.heap.size + 2 ≤ b) (fun b h hl => .inl ⟨h, hl⟩))
  clear hin
  go_enter Tryz.func23, Tryz.ntmps23
  go_upto_region 1 with fail
  refine gen_world (R := fun wx => Box wx w.heap.size #[.int .i64 x.k, .int .i64 x.n, .string x.s, .slice ka x.keys.length kc, .slice la x.l.length lc] 25 ∧ Box wx (w.heap.size + 1) #[.int .i64 0, .int .i64 0, .string ⟨#[]⟩, .slice none 0 0, .slice none 0 0] 25 ∧ Ext w wx) ⟨Bxt, Bxt, Xt⟩ ?_
  rintro wa ⟨hB0, hB1, hxa⟩
  have hl1 := hB1.lt
  go_wp2_with fail
  (refine (splitD_any p _ hp (hm.ext Xt)).mono ?_)
  rintro e w1 ⟨na, nc, rfl, hsln, hstn, h1⟩
  rw [if_pos hsm]
  have hnl := (namesD_small p).1
  have hB0 := Box.ext h1 hB0
  have hB1 := Box.ext h1 hB1
  have hx1 : Ext w w1 := hxa.trans h1
  have Hin := Lib.hid (Hin.out.ext hx1)
  have Hst := Lib.hid (hstn.keep (T := fun b => w.heap.size + 2 ≤ b) (fun _ _ _ => rfl) (fun b h _ => by omega))
  have Hfv := Lib.hid (show goV ((namesD p).drop 0) x = findV x p from rfl)
  clear h1 hxa hl1 hstn
  go_wp2_with fail
  go_loopg [22] (namesD p).length (fun g i wr => ∃ (k : Nat) (y : V) (ky : Option Addr) (kd : Nat) (ly : Option Addr) (ld : Nat), k ≤ (namesD p).length ∧ i = .int .i64 k ∧ g = (namesD p).length - k ∧ goV ((namesD p).drop k) y = findV x p ∧ y.size ≤ 1073741824 ∧
    Box wr w.heap.size #[.int .i64 y.k, .int .i64 y.n, .string y.s, .slice ky y.keys.length kd, .slice ly y.l.length ld] 25 ∧ Box wr (w.heap.size + 1) #[.int .i64 0, .int .i64 0, .string ⟨#[]⟩, .slice none 0 0, .slice none 0 0] 25 ∧ y.In wr (fun b => (S b ∧ b < w.heap.size) ∨ w.heap.size + 2 ≤ b) ky kd ly ld ∧ StrsIn wr (fun b => w.heap.size + 2 ≤ b) na (namesD p) ∧ Ext w wr)
  case atStart => exact ⟨0, x, ka, kc, la, lc, Nat.zero_le _, rfl, rfl, Hfv.out, hsz, Bxt, Bxt, Hin.out.ext Xt, Hst.out.ext Xt, Xt⟩
  case round =>
    obtain ⟨k, y, ky, kd, ly, ld, hk, rfl, rfl, hgo, hys, hB0, hB1, hiny, hst, hx⟩ := hrel
    clear Hin Hst Hfv hx1
    have Hgo := Lib.hid hgo
    have Hiny := Lib.hid hiny
    clear hgo hiny
    have hlw := hB1.lt
    by_cases hlt : k < (namesD p).length
    · obtain ⟨b, o, rfl, hS, hC⟩ := hst.resolve_left (by intro h; rw [h] at hlt; simp at hlt)
      have d0 := hC k hlt
      have Hst := Lib.hid hst
      have Hst2 := Lib.hid (goV_step hlt y)
      clear hC hst
      have hc0 := hB0.cells; have hf0 := hB0.free; have hl0 := hB0.lt
      go_wp2_with fail
      (refine (member_any y (namesD p)[k] ky kd ly ld _ _ hys (Hiny.out.ext Xt)).mono ?_)
      have hms := memD_size y (namesD p)[k]
      cases hmm : y.member (namesD p)[k] with
      | none =>
        have hmz : y.memD (namesD p)[k] = V.zero := by unfold V.memD; rw [hmm]; rfl
        rw [hmz]
        have Hnone := Lib.hid (show findV x p = none by rw [← Hgo.out, Hst2.out, hmm]; rfl)
        rintro e w2 ⟨ka3, kc3, la3, lc3, rfl, hin3, h2⟩
        have hB0 := Box.ext (w' := w2) Xt hB0
        have hB1 := Box.ext (w' := w2) Xt hB1
        have hx2 : Ext w w2 := Xt
        have hzz := hx.size
        have hw2 := hB1.lt
        have Hiny := Lib.hid (Hiny.out.ext (w' := w2) Xt)
        clear h2 hc0 hf0 hl0 hmz hmm hms hin3
        go_upto_region 9 with fail
        refine gen_world (R := fun wx => Box wx w.heap.size #[.int .i64 y.k, .int .i64 y.n, .string y.s, .slice ky y.keys.length kd, .slice ly y.l.length ld] 25 ∧ Box wx (w.heap.size + 1) #[.int .i64 0, .int .i64 0, .string ⟨#[]⟩, .slice none 0 0, .slice none 0 0] 25 ∧ Ext w2 wx) ⟨Bxt, Bxt, Xt⟩ ?_
        clear hB0 hB1
        rintro wb ⟨hB0, hB1, hxb⟩
        have hx3 : Ext w wb := hx2.trans hxb
        have Hiny := Lib.hid (Hiny.out.ext hxb)
        clear hxb hx2
        have hc0 := hB0.cells; have hf0 := hB0.free; have hl0 := hB0.lt
        have hc1 := hB1.cells; have hf1 := hB1.free; have hl1 := hB1.lt
        go_wp2_with fail
        (with_reducible apply bp_ret); (focus (go_light; simp [results, Tryz.results23, go_sem, *]; rfl))
        refine ⟨y, fun y' h => (by rw [Hnone.out] at h; cases h), hys, ?_⟩
        rw [Hnone.out]
        exact ⟨ky, kd, ly, ld, rfl, V.In.keep (S := fun b => (S b ∧ b < w.heap.size) ∨ w.heap.size + 2 ≤ b) Hiny.out (Held.kept (a := wb) (T := fun b => (S b ∧ b < w.heap.size) ∨ w.heap.size + 2 ≤ b) Hxt) (fun b h _ => by rcases h with h | h; exact .inl h.1; exact .inr (by omega)), Xt⟩
      | some z =>
        have hmz : y.memD (namesD p)[k] = z := by unfold V.memD; rw [hmm]; rfl
        rw [hmz]
        have Hgo2 := Lib.hid (show goV ((namesD p).drop (k + 1)) z = findV x p by rw [← Hgo.out, Hst2.out, hmm]; rfl)
        have hzs : z.size ≤ 1073741824 := by have := member_size hmm; omega
        rintro e w2 ⟨ka3, kc3, la3, lc3, rfl, hin3, h2⟩
        have hB0 := Box.ext (w' := w2) Xt hB0
        have hB1 := Box.ext (w' := w2) Xt hB1
        have hx2 : Ext w w2 := Xt
        have hzz := hx.size
        have hw2 := hB1.lt
        have Hst := Lib.hid (Hst.out.ext (w' := w2) Xt)
        have Hin3 := Lib.hid (hin3.mono (T := fun b => (S b ∧ b < w.heap.size) ∨ w.heap.size + 2 ≤ b) (fun b h _ => by rcases h with h | h; exact h; (try simp at h); exact .inr (by omega)))
        clear h2 hc0 hf0 hl0 hmz hmm hms hin3
        go_upto_region 10 with fail
        refine gen_world (R := fun wx => Box wx w2.heap.size #[.int .i64 z.k, .int .i64 z.n, .string z.s, .slice ka3 z.keys.length kc3, .slice la3 z.l.length lc3] 25 ∧ Box wx w.heap.size #[.int .i64 y.k, .int .i64 y.n, .string y.s, .slice ky y.keys.length kd, .slice ly y.l.length ld] 25 ∧ Box wx (w.heap.size + 1) #[.int .i64 0, .int .i64 0, .string ⟨#[]⟩, .slice none 0 0, .slice none 0 0] 25 ∧ Ext w2 wx) ⟨Bxt, Bxt, Bxt, Xt⟩ ?_
        clear hB0 hB1
        rintro wb ⟨hB10, hB0, hB1, hxb⟩
        have Hin3 := Lib.hid (Hin3.out.ext hxb)
        have Hst := Lib.hid (Hst.out.ext hxb)
        have hx3 : Ext w wb := hx2.trans hxb
        clear hxb hx2
        have hc10 := hB10.cells; have hf10 := hB10.free; have hl10 := hB10.lt
        have hc0 := hB0.cells; have hf0 := hB0.free; have hl0 := hB0.lt
        go_wp2_with fail
        go_roundg ((namesD p).length - (k + 1))
        case measure => omega
        case rel => exact ⟨k + 1, z, ka3, kc3, la3, lc3, by omega, by go_num, rfl, Hgo2.out, hzs, Bxt, Bxt, Hin3.out.keep (Held.kept (a := wb) (T := fun b => (S b ∧ b < w.heap.size) ∨ w.heap.size + 2 ≤ b) Hxt) (fun b h _ => h), Hst.out.keep (Held.kept (a := wb) (T := fun b => w.heap.size + 2 ≤ b) Hxt) (fun b h _ => h), Xt⟩
    · have Hsome := Lib.hid (show findV x p = some y by rw [← Hgo.out, goV_end hlt])
      have hc0 := hB0.cells; have hf0 := hB0.free; have hl0 := hB0.lt
      have hc1 := hB1.cells; have hf1 := hB1.free; have hl1 := hB1.lt
      go_wp2_with fail
      (with_reducible apply bp_ret); (focus (go_light; simp [results, Tryz.results23, go_sem, *]; rfl))
      refine ⟨y, fun y' h => (by rw [Hsome.out] at h; cases h; rfl), hys, ?_⟩
      rw [Hsome.out]
      have hx9 : Ext w wr := Xt
      exact ⟨ky, kd, ly, ld, rfl, V.In.keep (S := fun b => (S b ∧ b < w.heap.size) ∨ w.heap.size + 2 ≤ b) Hiny.out (Held.kept (a := wr) (T := fun b => (S b ∧ b < w.heap.size) ∨ w.heap.size + 2 ≤ b) Hxt) (fun b h _ => by rcases h with h | h; exact .inl h.1; exact .inr (by omega)), Xt⟩
end Go.Proofs.YtjibdbnpkfghhaaGreatDoor
