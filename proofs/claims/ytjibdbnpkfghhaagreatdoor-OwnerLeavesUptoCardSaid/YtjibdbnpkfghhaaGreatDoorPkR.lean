/- Several texts in one. -/
import Derived.Test.YtjibdbnpkfghhaaGreatDoorPkQ
import Derived.Test.YtjibdbnpkfghhaaGreatDoorSameJ
import Derived.Test.YtjibdbnpkfghhaaGreatDoorPkC
import Derived.Test.YtjibdbnpkfghhaaGreatDoorPkG
import Derived.Test.YtjibdbnpkfghhaaGreatDoorOwnP
import Derived.Sort.OwnSorted
set_option linter.all false
/- The walks of owner.above, owner.find, owner.like. -/
namespace Go.Proofs.YtjibdbnpkfghhaaGreatDoor
open Go.RowKit
attribute [local go_sem ↓] Go.wp_at_zero Go.wp_at_succ
theorem above_any (p q : ByteArray) (w : World) (hp : p.size ≤ 1073741824) : Calls Tryz.prog 56 #[.string p, .string q] w fun e w' => e = .returned (.bool (aboveB p q)) ∧ w = w' := by
  have c1 : ¬ p.size + (⟨#[47]⟩ : ByteArray).size > 9223372036854775807 := by
    have : (⟨#[47]⟩ : ByteArray).size = 1 := rfl
    omega
  go_enter Tryz.func56, Tryz.ntmps56
  go_wp2_with fail
  have hP := Tryz.strings_HasPrefix q (p ++ ⟨#[47]⟩) w
  (refine hP.mono ?_)
  rintro e w1 ⟨rfl, rfl⟩
  go_wp2_with fail
  go_ret
  refine ⟨ret_bool ?_, rfl⟩
  unfold aboveB Lib.hasPrefix
  simp
theorem goV_step {ks : List ByteArray} {k : Nat} (h : k < ks.length) (y : V) : goV (ks.drop k) y = (y.member ks[k]).bind (goV (ks.drop (k + 1))) := by
  rw [List.drop_eq_getElem_cons h]; rfl
theorem goV_end {ks : List ByteArray} {k : Nat} (h : ¬ k < ks.length) (y : V) : goV (ks.drop k) y = some y := by
  rw [List.drop_eq_nil_of_le (by omega)]; rfl
set_option maxRecDepth 100000 in
set_option maxHeartbeats 8000000 in
theorem find_any (x : V) (ka : Option Addr) (kc : Nat) (la : Option Addr) (lc : Nat) (S : Nat → Prop) (p : ByteArray) (w : World) (hsz : x.size ≤ 1073741824) (hin : x.In w S ka kc la lc) (hp : p.size ≤ 1073741824) (hm : MaxAt w) :
    Calls Tryz.prog 58 #[x.val ka kc la lc, .string p] w (RetV2 S ((findV x p).getD V.zero) (.bool (findV x p).isSome) w) := by
  have Hin := Lib.hid (hin.mono (T := fun b => (S b ∧ b < w.heap.size) ∨ w.heap.size + 2 ≤ b) (fun b h hl => .inl ⟨h, hl⟩))
  clear hin
  go_enter Tryz.func58, Tryz.ntmps58
  go_upto_region 1 with fail
  refine gen_world (R := fun wx => Box wx w.heap.size #[.int .i64 x.k, .int .i64 x.n, .string x.s, .slice ka x.keys.length kc, .slice la x.l.length lc] 25 ∧ Box wx (w.heap.size + 1) #[.int .i64 0, .int .i64 0, .string ⟨#[]⟩, .slice none 0 0, .slice none 0 0] 25 ∧ Ext w wx) ⟨Bxt, Bxt, Xt⟩ ?_
  rintro wa ⟨hB0, hB1, hxa⟩
  have hl1 := hB1.lt
  go_wp2_with fail
  (refine (splitD_any p _ hp (hm.ext Xt)).mono ?_)
  rintro e w1 ⟨na, nc, rfl, hsln, hstn, h1⟩
  obtain ⟨er, her⟩ : ∃ er : Int, (if (namesB p).isSome = true then (0 : Int) else 1) = er := ⟨_, rfl⟩
  rw [her]
  clear her
  have hnl := (namesD_small p).1
  have hB0 := Box.ext h1 hB0
  have hB1 := Box.ext h1 hB1
  have hx1 : Ext w w1 := hxa.trans h1
  have Hin := Lib.hid (Hin.out.ext hx1)
  have Hst := Lib.hid (hstn.keep (T := fun b => w.heap.size + 2 ≤ b) (fun _ _ _ => rfl) (fun b h _ => by omega))
  have Hfv := Lib.hid (show goV ((namesD p).drop 0) x = findV x p from rfl)
  clear h1 hxa hl1 hstn
  go_wp2_with fail
  go_loopg [19] (namesD p).length (fun g i wr => ∃ (k : Nat) (y : V) (ky : Option Addr) (kd : Nat) (ly : Option Addr) (ld : Nat), k ≤ (namesD p).length ∧ i = .int .i64 k ∧ g = (namesD p).length - k ∧ goV ((namesD p).drop k) y = findV x p ∧ y.size ≤ 1073741824 ∧
    Box wr w.heap.size #[.int .i64 y.k, .int .i64 y.n, .string y.s, .slice ky y.keys.length kd, .slice ly y.l.length ld] 25 ∧ Box wr (w.heap.size + 1) #[.int .i64 0, .int .i64 0, .string ⟨#[]⟩, .slice none 0 0, .slice none 0 0] 25 ∧ y.In wr (fun b => (S b ∧ b < w.heap.size) ∨ w.heap.size + 2 ≤ b) ky kd ly ld ∧ StrsIn wr (fun b => w.heap.size + 2 ≤ b) na (namesD p) ∧ Ext w wr)
  case atStart => exact ⟨0, x, ka, kc, la, lc, Nat.zero_le _, rfl, rfl, Hfv.out, hsz, Bxt, Bxt, Hin.out.ext Xt, Hst.out.ext Xt, Xt⟩
  case round =>
    obtain ⟨k, y, ky, kd, ly, ld, hk, rfl, rfl, hgo, hys, hB0, hB1, hiny, hst, hx⟩ := hrel
    clear Hin Hst Hfv hx1
    have Hgo := Lib.hid hgo
    have Hiny := Lib.hid hiny
    clear hgo hiny
    have hlw := hB1.lt
    by_cases hlt : k < (namesD p).length
    · obtain ⟨b, o, rfl, hS, hC⟩ := hst.resolve_left (by intro h; rw [h] at hlt; simp at hlt)
      have d0 := hC k hlt
      have Hst := Lib.hid hst
      have Hst2 := Lib.hid (goV_step hlt y)
      clear hC hst
      have hc0 := hB0.cells; have hf0 := hB0.free; have hl0 := hB0.lt
      go_wp2_with fail
      (refine (member_any y (namesD p)[k] ky kd ly ld _ _ hys (Hiny.out.ext Xt)).mono ?_)
      have hms := memD_size y (namesD p)[k]
      cases hmm : y.member (namesD p)[k] with
      | none =>
        have hmz : y.memD (namesD p)[k] = V.zero := by unfold V.memD; rw [hmm]; rfl
        rw [hmz]
        have Hnone := Lib.hid (show findV x p = none by rw [← Hgo.out, Hst2.out, hmm]; rfl)
        rintro e w2 ⟨ka3, kc3, la3, lc3, rfl, hin3, h2⟩
        have hB1 := Box.ext (w' := w2) Xt hB1
        have hx2 : Ext w w2 := Xt
        have hzz := hx.size
        clear h2 hc0 hf0 hl0 hmz hmm hms
        go_upto_region 7 with fail
        refine gen_world (R := fun wx => Box wx w2.heap.size #[.int .i64 V.zero.k, .int .i64 V.zero.n, .string V.zero.s, .slice ka3 V.zero.keys.length kc3, .slice la3 V.zero.l.length lc3] 25 ∧ Box wx (w.heap.size + 1) #[.int .i64 0, .int .i64 0, .string ⟨#[]⟩, .slice none 0 0, .slice none 0 0] 25 ∧ Ext w2 wx) ⟨Bxt, Bxt, Xt⟩ ?_
        rintro wb ⟨hB10, hB1, hxb⟩
        have Hin3 := Lib.hid (hin3.ext hxb)
        have hx3 : Ext w wb := hx2.trans hxb
        clear hin3 hxb hx2
        have hc10 := hB10.cells; have hf10 := hB10.free; have hl10 := hB10.lt
        have hc1 := hB1.cells; have hf1 := hB1.free; have hl1 := hB1.lt
        go_wp2_with fail
        (with_reducible apply bp_ret); (focus (go_light; simp [results, Tryz.results58, go_sem, *]; rfl))
        rw [Hnone.out]
        exact ⟨ka3, kc3, la3, lc3, rfl, V.In.keep (S := fun b => b ≠ w.heap.size + 1 ∧ ((S b ∧ b < w.heap.size) ∨ w.heap.size + 2 ≤ b)) (Hin3.out.mono (fun b h _ => by rcases h with (h | h) | h; exact ⟨by omega, .inl h⟩; exact ⟨by omega, .inr h⟩; (try simp at h); exact ⟨by omega, .inr (by omega)⟩)) (Held.kept (a := wb) (T := fun b => b ≠ w.heap.size + 1 ∧ ((S b ∧ b < w.heap.size) ∨ w.heap.size + 2 ≤ b)) Hxt) (fun b h _ => by rcases h.2 with h | h; exact .inl h.1; exact .inr (by omega)), Xt⟩
      | some z =>
        have hmz : y.memD (namesD p)[k] = z := by unfold V.memD; rw [hmm]; rfl
        rw [hmz]
        have Hgo2 := Lib.hid (show goV ((namesD p).drop (k + 1)) z = findV x p by rw [← Hgo.out, Hst2.out, hmm]; rfl)
        have hzs : z.size ≤ 1073741824 := by have := member_size hmm; omega
        rintro e w2 ⟨ka3, kc3, la3, lc3, rfl, hin3, h2⟩
        have hB0 := Box.ext (w' := w2) Xt hB0
        have hB1 := Box.ext (w' := w2) Xt hB1
        have hx2 : Ext w w2 := Xt
        have hzz := hx.size
        have hw2 := hB1.lt
        have Hst := Lib.hid (Hst.out.ext (w' := w2) Xt)
        have Hin3 := Lib.hid (hin3.mono (T := fun b => (S b ∧ b < w.heap.size) ∨ w.heap.size + 2 ≤ b) (fun b h _ => by rcases h with h | h; exact h; (try simp at h); exact .inr (by omega)))
        clear h2 hc0 hf0 hl0 hmz hmm hms hin3
        go_upto_region 8 with fail
        refine gen_world (R := fun wx => Box wx w2.heap.size #[.int .i64 z.k, .int .i64 z.n, .string z.s, .slice ka3 z.keys.length kc3, .slice la3 z.l.length lc3] 25 ∧ Box wx w.heap.size #[.int .i64 y.k, .int .i64 y.n, .string y.s, .slice ky y.keys.length kd, .slice ly y.l.length ld] 25 ∧ Box wx (w.heap.size + 1) #[.int .i64 0, .int .i64 0, .string ⟨#[]⟩, .slice none 0 0, .slice none 0 0] 25 ∧ Ext w2 wx) ⟨Bxt, Bxt, Bxt, Xt⟩ ?_
        clear hB0 hB1
        rintro wb ⟨hB10, hB0, hB1, hxb⟩
        have Hin3 := Lib.hid (Hin3.out.ext hxb)
        have Hst := Lib.hid (Hst.out.ext hxb)
        have hx3 : Ext w wb := hx2.trans hxb
        clear hxb hx2
        have hc10 := hB10.cells; have hf10 := hB10.free; have hl10 := hB10.lt
        have hc0 := hB0.cells; have hf0 := hB0.free; have hl0 := hB0.lt
        go_wp2_with fail
        go_roundg ((namesD p).length - (k + 1))
        case measure => omega
        case rel => exact ⟨k + 1, z, ka3, kc3, la3, lc3, by omega, by go_num, rfl, Hgo2.out, hzs, Bxt, Bxt, Hin3.out.keep (Held.kept (a := wb) (T := fun b => (S b ∧ b < w.heap.size) ∨ w.heap.size + 2 ≤ b) Hxt) (fun b h _ => h), Hst.out.keep (Held.kept (a := wb) (T := fun b => w.heap.size + 2 ≤ b) Hxt) (fun b h _ => h), Xt⟩
    · have Hsome := Lib.hid (show findV x p = some y by rw [← Hgo.out, goV_end hlt])
      have hc0 := hB0.cells; have hf0 := hB0.free; have hl0 := hB0.lt
      have hc1 := hB1.cells; have hf1 := hB1.free; have hl1 := hB1.lt
      go_wp2_with fail
      (with_reducible apply bp_ret); (focus (go_light; simp [results, Tryz.results58, go_sem, *]; rfl))
      rw [Hsome.out]
      have hx9 : Ext w wr := Xt
      exact ⟨ky, kd, ly, ld, rfl, V.In.keep (S := fun b => (S b ∧ b < w.heap.size) ∨ w.heap.size + 2 ≤ b) Hiny.out (Held.kept (a := wr) (T := fun b => (S b ∧ b < w.heap.size) ∨ w.heap.size + 2 ≤ b) Hxt) (fun b h _ => by rcases h with h | h; exact .inl h.1; exact .inr (by omega)), Xt⟩
set_option maxHeartbeats 2000000 in
theorem like_any (x y : V) (ka : Option Addr) (kc : Nat) (la : Option Addr) (lc : Nat) (S : Nat → Prop) (kb : Option Addr) (kd : Nat) (lb : Option Addr) (ld : Nat) (T : Nat → Prop) (w : World) (hsz : x.size ≤ 1073741824) (hsy : y.size ≤ 1073741824) (hin : x.In w S ka kc la lc) (hjn : y.In w T kb kd lb ld) :
    Calls Tryz.prog 109 #[x.val ka kc la lc, y.val kb kd lb ld] w fun e w' => e = .returned (.bool (likeB x y)) ∧ Ext w w' := by
  have Hin := Lib.hid hin
  have Hjn := Lib.hid hjn
  have Hl := Lib.hid (show likeB x y = (x.same y || (decide (x.k = 5) && decide (y.k = 5) && decide (y.l.length = 0))) from rfl)
  clear hin hjn
  go_enter Tryz.func109, Tryz.ntmps109
  go_upto_region 1 with fail
  refine gen_world (R := fun wx => Box wx w.heap.size #[.int .i64 x.k, .int .i64 x.n, .string x.s, .slice ka x.keys.length kc, .slice la x.l.length lc] 25 ∧ Box wx (w.heap.size + 1) #[.int .i64 y.k, .int .i64 y.n, .string y.s, .slice kb y.keys.length kd, .slice lb y.l.length ld] 25 ∧ Ext w wx) ⟨Bxt, Bxt, Xt⟩ ?_
  rintro wa ⟨hB0, hB1, hxa⟩
  have hc0 := hB0.cells; have hf0 := hB0.free; have hl0 := hB0.lt
  have hc1 := hB1.cells; have hf1 := hB1.free; have hl1 := hB1.lt
  go_wp2_with fail
  (refine (sameJ_any x y ka kc la lc S kb kd lb ld T _ hsz hsy (Hin.out.ext Xt) (Hjn.out.ext Xt)).mono ?_)
  rintro e w1 ⟨rfl, h1⟩
  have hB0 := Box.ext h1 hB0
  have hB1 := Box.ext h1 hB1
  have hx1 : Ext w w1 := hxa.trans h1
  clear h1 hxa hc0 hf0 hl0 hc1 hf1 hl1
  have hc0 := hB0.cells; have hf0 := hB0.free; have hl0 := hB0.lt
  have hc1 := hB1.cells; have hf1 := hB1.free; have hl1 := hB1.lt
  cases hs : x.same y with
  | true =>
    rw [hs] at Hl
    clear hs
    go_wp2_with fail
    go_ret
    exact ⟨ret_bool (by rw [Hl.out]; rfl), Xt⟩
  | false =>
    rw [hs] at Hl
    clear hs
    by_cases h5 : x.k = 5
    · have h5b : (x.k == 5) = true := by simpa using h5
      have Hx5 := Lib.hid h5
      clear h5
      by_cases h6 : y.k = 5
      · have h6b : (y.k == 5) = true := by simpa using h6
        have Hy5 := Lib.hid h6
        clear h6
        by_cases h7 : y.l.length = 0
        · have h7b : ((y.l.length : Int) == 0) = true := by rw [h7]; rfl
          have H7 := Lib.hid h7
          clear h7
          go_wp2_with fail
          go_ret
          exact ⟨ret_bool (by rw [Hl.out, decide_eq_true Hx5.out, decide_eq_true Hy5.out, decide_eq_true H7.out]; rfl), Xt⟩
        · have h7b : ((y.l.length : Int) == 0) = false := beq_eq_false_iff_ne.2 (by omega)
          have H7 := Lib.hid h7
          clear h7
          go_wp2_with fail
          go_ret
          exact ⟨ret_bool (by rw [Hl.out, decide_eq_true Hx5.out, decide_eq_true Hy5.out, decide_eq_false H7.out]; rfl), Xt⟩
      · have h6b : (y.k == 5) = false := by simpa using h6
        have Hy5 := Lib.hid h6
        clear h6
        go_wp2_with fail
        go_ret
        refine ⟨ret_bool ?_, Xt⟩
        rw [Hl.out, decide_eq_false Hy5.out]
        simp
    · have h5b : (x.k == 5) = false := by simpa using h5
      have Hx5 := Lib.hid h5
      clear h5
      go_wp2_with fail
      go_ret
      refine ⟨ret_bool ?_, Xt⟩
      rw [Hl.out, decide_eq_false Hx5.out]
      simp
end Go.Proofs.YtjibdbnpkfghhaaGreatDoor
/- The walk of owner.leaves. -/
namespace Go.Proofs.YtjibdbnpkfghhaaGreatDoor
open Go.RowKit
attribute [local go_sem ↓] Go.wp_at_zero Go.wp_at_succ
theorem cloneS_any (ks : List ByteArray) (a : Option Addr) (n c : Nat) (S : Nat → Prop) (w : World) (hn : ks.length = n) (hok : SlOk a n c) (hbig : n ≤ 1073741824) (hst : StrsIn w S a ks) :
    Calls Tryz.prog 48 #[.slice a n c] w fun e w' => ∃ a' c', e = .returned (.slice a' n c') ∧ SlOk a' n c' ∧ OwnS w' w.heap.size (.slice a' n c') n ks ∧ Ext w w' := by
  refine (cloneS_row a n c (ks.map Value.string) w hok hbig (by simp [hn]) (by have := strs_src hst; rwa [hn] at this) (strs_one ks)).mono ?_
  rintro e w' ⟨a', c', rfl, h1, h2, h3⟩
  exact ⟨a', c', rfl, h1, ⟨hn, h2⟩, h3⟩
theorem app_str {W : World} {o : Oper} {a : Act} {K : Act → World → Prop} {Q : Exit → Act → World → Prop} {base n : Nat} {v : Value} {ks : List ByteArray} (key : ByteArray) (B : Nat) {s x : Operand}
    (ho : o.op = .call { callee := .builtin .append, args := #[s, x], argTypes := #[22, 22] }) (hs : a.eval s = v) (hx : a.eval x = .slice (some ⟨B, 0, none⟩) 1 1)
    (hS : OwnS W base v n ks) (hB : Box W B #[.string key] 9) (hn : n ≤ 1073741824) (hbase : base ≤ W.heap.size)
    (h : ∀ g cap w', OwnS w' base (.slice (some ⟨g, 0, none⟩) (n + 1) cap) (n + 1) (ks ++ [key]) → W.grownBy w' v.ownBlock → (v.ownBlock = some g ∨ g = W.heap.size) → K (a.put o.dst (.slice (some ⟨g, 0, none⟩) (n + 1) cap)) w') : o.wp Tryz.prog a W K Q := by
  obtain ⟨i0, hi, hz0, hz1, hz2⟩ := info_parts Tryz.infoS
  refine wp_append_lies _ s x _ ho base 9 i0 _ 1 16 Tryz.underlying22 hi hz0 hz1 hz2 rfl (by decide) v n (ks.map Value.string) hs hS.2 ⟨B, 0, none⟩ 1 1 [.string key] hx (by rfl) (World.news_of_block (cs := #[.string key]) hB) (by simp [Value.oneCell']) (by omega) (by unfold maxLen; omega) (by omega) hbase _ rfl ?_
  intro g cap w' hown hgrow hat _
  exact h g cap w' (OwnS.push hS.1 hown) hgrow hat
def Off (p : Nat) (v : Value) : Nat → Prop := fun b => b ≠ p ∧ v.ownBlock ≠ some b
theorem MaxAt.held {w w' : World} {T : Nat → Prop} (h : MaxAt w) (e : Held T w w') (hT : T 0) : MaxAt w' := by
  obtain ⟨m, hm⟩ := h
  exact ⟨m, e.kept.cell (p := ⟨_, 0, none⟩) hT hm⟩
def LeavesR (p : Nat) (v : Value) (qs : List ByteArray) (w : World) (e : Ending) (w' : World) : Prop :=
  e = .returned (.tuple #[]) ∧ ∃ a c, Box w' p #[.slice a qs.length c] 22 ∧ OwnS w' (p + 1) (.slice a qs.length c) qs.length qs ∧ Held (Off p v) w w' ∧ (∀ g, (Value.slice a qs.length c).ownBlock = some g → v.ownBlock = some g ∨ w.heap.size ≤ g) ∧ Below p w w'
def LeavesC (m : Nat) : Prop := ∀ (x : V) (ka : Option Addr) (kc : Nat) (la : Option Addr) (lc : Nat) (d : Int) (ns : List ByteArray) (na : Option Addr) (nc p : Nat) (a : Option Addr) (c : Nat) (ps : List ByteArray) (w : World),
  x.size ≤ m → x.size ≤ 1073741824 → x.good d = true → (ns.length : Int) < d → (∀ k ∈ ns, k.size ≤ 60) → x.In w (fun b => b < p) ka kc la lc → SlOk na ns.length nc → StrsIn w (Off p (.slice a ps.length c)) na ns →
  Box w p #[.slice a ps.length c] 22 → OwnS w (p + 1) (.slice a ps.length c) ps.length ps → ps.length + x.count ≤ 1000000 → 0 < p → MaxAt w →
  Calls Tryz.prog 74 #[x.val ka kc la lc, .slice na ns.length nc, .pointer (some ⟨p, 0, none⟩)] w (LeavesR p (.slice a ps.length c) (ps ++ (x.lvs ns).map joinB) w)
set_option maxRecDepth 100000 in
set_option maxHeartbeats 8000000 in
theorem leaves_leaf (x : V) (ka : Option Addr) (kc : Nat) (la : Option Addr) (lc : Nat) (ns : List ByteArray) (na : Option Addr) (nc p : Nat) (a : Option Addr) (c : Nat) (ps : List ByteArray) (w : World)
    (hleaf : x.k ≠ 5 ∨ (x.l = [] ∧ ns ≠ [])) (hnl : ns.length ≤ 12) (hnz : ∀ k ∈ ns, k.size ≤ 60) (hst : StrsIn w (Off p (.slice a ps.length c)) na ns)
    (hB : Box w p #[.slice a ps.length c] 22) (hS : OwnS w (p + 1) (.slice a ps.length c) ps.length ps) (hps : ps.length ≤ 1000000) (hm : MaxAt w) :
    Calls Tryz.prog 74 #[x.val ka kc la lc, .slice na ns.length nc, .pointer (some ⟨p, 0, none⟩)] w (LeavesR p (.slice a ps.length c) (ps ++ [joinB ns]) w) := by
  have HS := Lib.hid hS
  have Hst := Lib.hid hst
  have hpl := hB.lt
  have hc5 : (x.k == 5) = false ∨ ((x.k == 5) = true ∧ ((x.l.length : Int) == 0) = true ∧ (0 : Int) < (ns.length : Int)) := by
    by_cases h5 : x.k = 5
    · rcases hleaf with h | ⟨h1, h2⟩
      · exact absurd h5 h
      · exact .inr ⟨by simpa using h5, by rw [h1]; rfl, by have := List.length_pos_iff.2 h2; omega⟩
    · exact .inl (by simpa using h5)
  have hrow : ∀ k, (Value.slice a ps.length c).ownBlock = some k → ¬ Off p (.slice a ps.length c) k := fun k hk h => h.2 hk
  have hgo := fun g => HS.out.lt g
  clear hS hst hleaf
  go_enter Tryz.func74, Tryz.ntmps74
  go_upto_region 1 with fail
  refine gen_world (R := fun wx => Box wx w.heap.size #[.int .i64 x.k, .int .i64 x.n, .string x.s, .slice ka x.keys.length kc, .slice la x.l.length lc] 25 ∧ Ext w wx) ⟨Bxt, Xt⟩ ?_
  rintro wa ⟨hB0, hxa⟩
  have hc0 := hB0.cells; have hf0 := hB0.free; have hl0 := hB0.lt
  rcases hc5 with h5 | ⟨h5, h6, h7⟩
  all_goals
    (try have h5n : (x.k != 5) = true := by simpa using h5)
    (try have h5n : (x.k != 5) = false := by simpa using h5)
    go_upto_region 2 with fail
    refine gen_world (R := fun wx => Ext w wx) (by exact Xt) ?_
    clear hc0 hf0 hl0 hB0 hxa
    rintro wa hxa
    have hBa := Box.ext hxa hB
    have Sof : ∀ w', Ext wa w' → w'.cell? ⟨p, 0, none⟩ = some (.slice a ps.length c) := fun w' e => e.cell (hBa.cells 0)
    refine wp_region_till (S := fun w' => w'.cell? ⟨p, 0, none⟩ = some (.slice a ps.length c)) (c := 9) (by kernel_rfl) ?_
    (refine wpAnyT_take (i := 0) (v := ?_) [8, 9] (Array.getElem?_eq_getElem (by decide)) (by kernel_rfl) (by kernel_rfl) (by kernel_rfl) (by kernel_rfl) rfl rfl (by kernel_rfl) (fun _ _ _ h => h) (Or.inl ⟨by kernel_rfl, ?_⟩) (Sof _ Xt) ?_); rotate_left; (focus (intro w hSw; (try dsimp only at hSw); (try simp only [rl]); go_simp; (try with_reducible rfl))); (try simp only [rl])
    (refine wpAnyT_take (i := 1) (v := ?_) [2, 3, 7, 9] (Array.getElem?_eq_getElem (by decide)) (by kernel_rfl) (by kernel_rfl) (by kernel_rfl) (by kernel_rfl) rfl rfl (by kernel_rfl) (fun _ _ _ h => h) (Or.inl ⟨by kernel_rfl, ?_⟩) (Sof _ Xt) ?_); rotate_left; (focus (intro w hSw; (try dsimp only at hSw); (try simp only [rl]); go_simp; (try with_reducible rfl))); (try simp only [rl])
    (refine wpAnyT_take (i := 2) (v := ?_) [3, 7, 9] (Array.getElem?_eq_getElem (by decide)) (by kernel_rfl) (by kernel_rfl) (by kernel_rfl) (by kernel_rfl) rfl rfl (by kernel_rfl) (fun _ _ _ h => h) (Or.inl ⟨by kernel_rfl, ?_⟩) (Sof _ Xt) ?_); rotate_left; (focus (intro w hSw; (try dsimp only at hSw); (try simp only [rl]); go_simp; (try with_reducible rfl))); (try simp only [rl])
    (refine wpAnyT_take (i := 3) (v := ?_) [7, 9] (Array.getElem?_eq_getElem (by decide)) (by kernel_rfl) (by kernel_rfl) (by kernel_rfl) (by kernel_rfl) rfl rfl (by kernel_rfl) (fun _ _ _ h => h) (Or.inl ⟨by kernel_rfl, ?_⟩) (Sof _ Xt) ?_); rotate_left; (focus (intro w hSw; (try dsimp only at hSw); (try simp only [rl]); go_simp; (try with_reducible rfl))); (try simp only [rl])
    (refine wpAnyT_take (i := 4) (v := ?_) [5, 6, 7, 9] (Array.getElem?_eq_getElem (by decide)) (by kernel_rfl) (by kernel_rfl) (by kernel_rfl) (by kernel_rfl) rfl rfl (by kernel_rfl) (fun _ _ _ h => h) (Or.inl ⟨by kernel_rfl, ?_⟩) (Sof _ Xt) ?_); rotate_left; (focus (intro w hSw; (try dsimp only at hSw); (try simp only [rl]); go_simp; (try with_reducible rfl))); (try simp only [rl])
    (refine wpAnyT_one (i := 5) (by kernel_rfl) (Array.getElem?_eq_getElem (by decide)) fun K hK => ?_); (try simp only [rl])
    (try go_simp)
    (refine (joinB_any na nc ns _ _ (Hst.out.ext Xt) (fun q hq => by have := hnz q hq; omega) (by omega) (hm.ext Xt)).mono ?_)
    rintro e w2 ⟨rfl, h2⟩
    (try go_simp)
    refine hK.out _ _ (fun _ => Sof _ Xt) ?_; clear hK K; (try simp only [rl])
    (refine wpAnyT_one (i := 6) (by kernel_rfl) (Array.getElem?_eq_getElem (by decide)) fun K hK => ?_); (try simp only [rl])
    go_simp
    refine hK.out _ _ (fun _ => Sof _ Xt) ?_; clear hK K; (try simp only [rl])
    (refine wpAnyT_one (i := 7) (by kernel_rfl) (Array.getElem?_eq_getElem (by decide)) fun K hK => ?_); (try simp only [rl])
    rw [if_pos (by simp [Region.wanted])]
    refine app_str (joinB ns) w2.heap.size (by rfl) (by rfl) (by rfl) (HS.out.ext Xt) Bxt (by omega) (by have := hxa.size; have := Ext.size (a := wa) (b := w2) Xt; simp; omega) ?_
    intro g4 cap4 w4 HS4 hg4 hat4
    have hx2 : Ext w w2 := Xt
    have hB4 : Box w4 p #[.slice a ps.length c] 22 := Box.grown (w := w2.alloc _) (Box.alloc (Box.ext hx2 hB) _) hg4 (fun e => by have := (hgo _ e.symm).1; omega)
    have hh4 : Held (Off p (.slice a ps.length c)) w w4 := Held.grown (b := w2.alloc _) Hxt hg4 hrow
    refine hK.out _ _ (fun _ => hB4.cells 0) ?_
    clear hK K
    (try simp only [rl])
    have hc4 := hB4.cells
    have hf4 := hB4.free
    have hl4 := hB4.lt
    have hg4p := (HS4.lt g4 rfl).1
    (refine wpAnyT_one (i := 8) (by kernel_rfl) (Array.getElem?_eq_getElem (by decide)) fun K hK => ?_); (try simp only [rl])
    go_simp
    refine hK.out _ _ (fun _ => hB4.cells 0) ?_
    clear hK K
    (try simp only [rl])
    (refine wpAnyT_one (i := 9) (by kernel_rfl) (Array.getElem?_eq_getElem (by decide)) fun K hK => ?_); (try simp only [rl])
    go_simp
    (refine hK.out _ _ (fun h => Bool.noConfusion (show true = false from h)) ?_); clear hK K; (try simp only [rl])
    refine wpAnyT_done (by kernel_rfl) ?_ _
    go_wp2_with fail
    (with_reducible apply bp_ret); (focus (go_light; simp [results, Tryz.results74, go_sem, *]; rfl))
    have hh5 : Held (fun b => b ≠ p) w4 (w4.setCell ⟨p, 0, none⟩ (.slice (some ⟨g4, 0, none⟩) (ps.length + 1) cap4)) := (Held.refl _ _).set (by simp) _
    have hb4 : Below p w w4 := Below.grown (Below.alloc (Below.mono hx2 (by omega)) (by have := hx2.size; omega) _) hg4 (by have := hx2.size; simp; omega) (fun k hk => by have := (hgo k hk).1; omega)
    refine ⟨rfl, some ⟨g4, 0, none⟩, cap4, ?_, ?_, ?_, ?_, hb4.setCell (Nat.le_refl _) _⟩
    · rw [List.length_append]; exact Box.to (hB4.set 0 _) (by simp)
    · rw [List.length_append]; exact HS4.keep (fun b hb he => hh5.block b (by have := (HS4.lt b he).1; omega) hb)
    · exact hh4.trans (hh5.mono (fun b h => h.1))
    · intro g hg
      rw [List.length_append] at hg
      have hge : g4 = g := by simpa [Value.ownBlock] using hg
      subst hge
      rcases hat4 with h | h
      · exact .inl h
      · have := hx2.size
        simp at h
        exact .inr (by omega)
end Go.Proofs.YtjibdbnpkfghhaaGreatDoor
/- The walk of owner.leaves: its loop; owner.Leaves. -/
namespace Go.Proofs.YtjibdbnpkfghhaaGreatDoor
open Go.RowKit
attribute [local go_sem ↓] Go.wp_at_zero Go.wp_at_succ
theorem lgo_take {x : V} (hl : x.keys.length = x.l.length) (ns : List ByteArray) {k : Nat} (h : k < x.keys.length) : V.lvs.go (x.l.take (k + 1)) (x.keys.take (k + 1)) ns = V.lvs.go (x.l.take k) (x.keys.take k) ns ++ (x.l[k]'(by omega)).lvs (ns ++ [x.keys[k]]) := by
  rw [List.take_succ_eq_append_getElem h, List.take_succ_eq_append_getElem (show k < x.l.length by omega), lgo_snoc ns _ _ _ _ (by simp; omega)]
theorem lgo_len : ∀ (l : List V) (ks ns : List ByteArray), (V.lvs.go l ks ns).length ≤ (l.map V.count).sum
  | [], ks, ns => by rw [lgo_nil]; simp
  | _ :: _, [], ns => by rw [lgo_nil']; simp
  | y :: l, k :: ks, ns => by
    rw [lgo_cons, List.length_append, List.map_cons, List.sum_cons]
    have := lvs_len y (ns ++ [k])
    have := lgo_len l ks ns
    omega
set_option maxRecDepth 100000 in
set_option maxHeartbeats 8000000 in
theorem leaves_val (m : Nat) : LeavesC m := by
  induction m with
  | zero => intro x _ _ _ _ _ _ _ _ _ _ _ _ _ h; have := x.size_pos; omega
  | succ m ih =>
    intro x ka kc la lc d ns na nc p a c ps w hm hsz hg hnd hnz hin hok hst hB hS hps hgp hmx
    obtain ⟨hfl, hd⟩ := flat_of (show x.flat d = true by rw [V.good_eq, Bool.and_eq_true] at hg; exact hg.1)
    by_cases hleaf : x.k ≠ 5 ∨ (x.l = [] ∧ ns ≠ [])
    · have := leaves_leaf x ka kc la lc ns na nc p a c ps w hleaf (by omega) hnz hst hB hS (by omega) hmx
      rw [lvs_eq, if_pos hleaf]
      exact this
    · have h5 : x.k = 5 := Classical.byContradiction fun h => hleaf (.inl h)
      have hob := sound_obj (good_sound hg) h5
      have hkl := x.len_keys
      have hln := hob.len
      have Hlv := Lib.hid (show x.lvs ns = V.lvs.go x.l x.keys ns by rw [lvs_eq, if_neg hleaf])
      have Hcount := Lib.hid (show x.count = 1 + (x.l.map V.count).sum from V.count_eq x)
      have hcl := hin
      have Hin := Lib.hid hin
      have Hst := Lib.hid hst
      have HS := Lib.hid hS
      have Hg := Lib.hid hg
      have Hkz := Lib.hid (fun k (h : k < x.keys.length) => plain_size (hfl.kp _ (List.getElem_mem h)))
      have hpl := hB.lt
      have h5b : (x.k == 5) = true := by simpa using h5
      have h5n : (x.k != 5) = false := by simpa using h5
      have hl0 : ((x.l.length : Int) == 0) = false ∨ (((x.l.length : Int) == 0) = true ∧ ns.length = 0 ∧ na = na) := by
        by_cases h : x.l = []
        · exact .inr ⟨by rw [h]; rfl, by
            have : ns = [] := Classical.byContradiction fun h2 => hleaf (.inr ⟨h, h2⟩)
            rw [this]; rfl, rfl⟩
        · exact .inl (beq_eq_false_iff_ne.2 (by have := List.length_pos_iff.2 h; omega))
      clear hin hcl hst hS hg hfl hleaf h5 hob
      rcases hl0 with hl0 | ⟨hl0, hn0, -⟩
      all_goals
        (try (have hn0i : ¬ (0 : Int) < (ns.length : Int) := by omega
              have Hn0 := Lib.hid hn0
              clear hn0))
        go_enter Tryz.func74, Tryz.ntmps74
        go_upto_region 1 with fail
        refine gen_world (R := fun wx => Box wx w.heap.size #[.int .i64 x.k, .int .i64 x.n, .string x.s, .slice ka x.keys.length kc, .slice la x.l.length lc] 25 ∧ Ext w wx) ⟨Bxt, Xt⟩ ?_
        rintro wa ⟨hB0, hxa⟩
        have hc0 := hB0.cells; have hf0 := hB0.free; have hl0 := hB0.lt
        go_upto_region 3 with fail
        refine gen_world (R := fun wx => Box wx w.heap.size #[.int .i64 x.k, .int .i64 x.n, .string x.s, .slice ka x.keys.length kc, .slice la x.l.length lc] 25 ∧ Ext w wx) ⟨Bxt, Xt⟩ ?_
        clear hc0 hf0 hl0 hB0 hxa
        rintro wa ⟨hB0, hxa⟩
        have hc0 := hB0.cells; have hf0 := hB0.free; have hl0 := hB0.lt
        go_wp2_with fail
        go_loopg [34] x.keys.length (fun g i wr => ∃ (k : Nat) (a' : Option Addr) (c' : Nat) (qs : List ByteArray), k ≤ x.keys.length ∧ i = .int .i64 k ∧ g = x.keys.length - k ∧ qs = ps ++ (V.lvs.go (x.l.take k) (x.keys.take k) ns).map joinB ∧ Box wr w.heap.size #[.int .i64 x.k, .int .i64 x.n, .string x.s, .slice ka x.keys.length kc, .slice la x.l.length lc] 25 ∧
          Box wr p #[.slice a' qs.length c'] 22 ∧ OwnS wr (p + 1) (.slice a' qs.length c') qs.length qs ∧ Held (Off p (.slice a ps.length c)) w wr ∧ (∀ g, (Value.slice a' qs.length c').ownBlock = some g → (Value.slice a ps.length c).ownBlock = some g ∨ w.heap.size < g) ∧ Below p w wr)
        case atStart => exact ⟨0, a, c, ps, Nat.zero_le _, rfl, rfl, by simp [lgo_nil], Bxt, Box.ext (w := w) Xt hB, HS.out.ext Xt, Ext.held Xt _, fun g hg => .inl hg, Below.mono (B := w.heap.size) (by exact Xt) (by omega)⟩
        case round =>
          obtain ⟨wo, rfl⟩ : ∃ x, x = wr := ⟨_, rfl⟩
          obtain ⟨k, a', c', qs, hk, rfl, rfl, hqs, hB0, hBp, hSo, hho, hgo, hbo⟩ := hrel
          have Hqs := Lib.hid hqs
          have HSo := Lib.hid hSo
          have Hgo := Lib.hid hgo
          have hlo := HS.out.lt
          have hTg : ∀ b, b < p → Off p (.slice a ps.length c) b := fun b hb => ⟨by omega, fun e => by have := (hlo b e).1; omega⟩
          have hmo : MaxAt wo := hmx.held hho (hTg _ hgp)
          have hin := Hin.out.keep (T := fun b => b < p) (Held.kept (hho.mono hTg)) (fun _ h _ => h)
          have hst : StrsIn wo (fun b => b < w.heap.size ∧ Off p (.slice a' qs.length c') b) na ns := Hst.out.keep (Held.kept hho) (fun b hb hl => ⟨hl, hb.1, fun e => by
            rcases Hgo.out b e with h | h
            · exact hb.2 h
            · omega⟩)
          have Hst2 := Lib.hid hst
          have hzo := hho.size
          have hl1 := hB0.lt
          have hlo2 := hSo.lt
          have hw0 : Off p (.slice a' qs.length c') w.heap.size := ⟨by omega, fun e => by
            rcases Hgo.out _ e with h | h
            · have := (hlo _ h).2; omega
            · omega⟩
          have Hw0 := Lib.hid hw0
          clear hqs hSo hgo hst hTg hlo hw0
          have hc0 := hB0.cells; have hf0 := hB0.free; have hl0 := hB0.lt
          by_cases hlt : k < x.keys.length
          · obtain ⟨b, o, rfl, hSb, ka', kc', la', lc', ⟨d0, d1, d2, d3, d4⟩, hin'⟩ := hin.item (i := k) (by omega)
            obtain ⟨kb, ko, rfl, hSk, dk⟩ := hin.key hlt
            have hsi := V.size_item (x := x) (i := k) (by omega)
            have Hin' := Lib.hid hin'
            have Hlt := Lib.hid (lgo_take hln ns hlt)
            have hql : qs.length + (x.l[k]'(by omega)).count ≤ 1000000 := by
              have h1 := lgo_len (x.l.take k) (x.keys.take k) ns
              have h2 := sum_take V.count x.l (k := k) (by omega)
              have h3 := sum_take_le V.count x.l (k + 1)
              have h4 := Hcount.out
              have h5 := congrArg List.length Hqs.out
              rw [List.length_append, List.length_map] at h5
              omega
            have Hgi := Lib.hid (good_item Hg.out (i := k) (by omega))
            have hkz := Hkz.out k hlt
            have hk0 : (0 : Int) ≤ (k : Int) := by omega
            have hk1 : (k : Int) < (x.l.length : Int) := by omega
            have hk2 : (k : Int) < (x.keys.length : Int) := by omega
            clear hin hin'
            go_upto_region 6 with fail
            refine gen_world (R := fun wx => Ext wo wx) (by exact Xt) ?_
            rintro wb hxb
            have hB0b := Box.ext hxb hB0
            have hBpb := Box.ext hxb hBp
            have hzb := hxb.size
            have d0 := hxb.cell d0; have d1 := hxb.cell d1; have d2 := hxb.cell d2; have d3 := hxb.cell d3; have d4 := hxb.cell d4
            have HSb := Lib.hid (HSo.out.ext hxb)
            have Hstb := Lib.hid (Hst2.out.ext hxb)
            have Hinb := Lib.hid (Hin'.out.ext hxb)
            have hmb := hmo.ext hxb
            have hbb : Below p w wb := hbo.trans (Below.mono hxb (by omega))
            have hhb := hho.ext hxb
            clear hc0 hf0 hl0 hB0 hBp hxb HSo Hst2 Hin' hmo hho
            have Sof : ∀ w', Ext wb w' → (w'.cell? ⟨w.heap.size, 4, none⟩ = some (.slice (some ⟨b, o, none⟩) x.l.length lc) ∧ w'.cell? ⟨b, o + k * 5, none⟩ = some (.int .i64 (x.l[k]'(by omega)).k) ∧ w'.cell? ⟨b, o + k * 5 + 1, none⟩ = some (.int .i64 (x.l[k]'(by omega)).n) ∧ w'.cell? ⟨b, o + k * 5 + 2, none⟩ = some (.string (x.l[k]'(by omega)).s) ∧ w'.cell? ⟨b, o + k * 5 + 3, none⟩ = some (.slice ka' (x.l[k]'(by omega)).keys.length kc') ∧ w'.cell? ⟨b, o + k * 5 + 4, none⟩ = some (.slice la' (x.l[k]'(by omega)).l.length lc')) := fun w' e => ⟨e.cell (hB0b.cells 4), e.cell (d0), e.cell (d1), e.cell (d2), e.cell (d3), e.cell (d4)⟩
            refine wp_region_till (S := fun w' => w'.cell? ⟨w.heap.size, 4, none⟩ = some (.slice (some ⟨b, o, none⟩) x.l.length lc) ∧ w'.cell? ⟨b, o + k * 5, none⟩ = some (.int .i64 (x.l[k]'(by omega)).k) ∧ w'.cell? ⟨b, o + k * 5 + 1, none⟩ = some (.int .i64 (x.l[k]'(by omega)).n) ∧ w'.cell? ⟨b, o + k * 5 + 2, none⟩ = some (.string (x.l[k]'(by omega)).s) ∧ w'.cell? ⟨b, o + k * 5 + 3, none⟩ = some (.slice ka' (x.l[k]'(by omega)).keys.length kc') ∧ w'.cell? ⟨b, o + k * 5 + 4, none⟩ = some (.slice la' (x.l[k]'(by omega)).l.length lc')) (c := 11) (by kernel_rfl) ?_
            (refine wpAnyT_take (i := 0) (v := ?_) [1, 3, 4, 11] (Array.getElem?_eq_getElem (by decide)) (by kernel_rfl) (by kernel_rfl) (by kernel_rfl) (by kernel_rfl) rfl rfl (by kernel_rfl) (fun _ _ _ h => h) (Or.inl ⟨by kernel_rfl, ?_⟩) (Sof _ Xt) ?_); rotate_left; (focus (intro w hSw; (try dsimp only at hSw); (try simp only [rl]); go_simp; (try with_reducible rfl))); (try simp only [rl])
            (refine wpAnyT_take (i := 1) (v := ?_) [3, 4, 11] (Array.getElem?_eq_getElem (by decide)) (by kernel_rfl) (by kernel_rfl) (by kernel_rfl) (by kernel_rfl) rfl rfl (by kernel_rfl) (fun _ _ _ h => h) (Or.inl ⟨by kernel_rfl, ?_⟩) (Sof _ Xt) ?_); rotate_left; (focus (intro w hSw; (try dsimp only at hSw); (try simp only [rl]); go_simp; (try with_reducible rfl))); (try simp only [rl])
            (refine wpAnyT_take (i := 2) (v := ?_) [3, 4, 11] (Array.getElem?_eq_getElem (by decide)) (by kernel_rfl) (by kernel_rfl) (by kernel_rfl) (by kernel_rfl) rfl rfl (by kernel_rfl) (fun _ _ _ h => h) (Or.inl ⟨by kernel_rfl, ?_⟩) (Sof _ Xt) ?_); rotate_left; (focus (intro w hSw; (try dsimp only at hSw); (try simp only [rl]); go_simp; (try with_reducible rfl))); (try simp only [rl])
            (refine wpAnyT_take (i := 3) (v := ?_) [4, 11] (Array.getElem?_eq_getElem (by decide)) (by kernel_rfl) (by kernel_rfl) (by kernel_rfl) (by kernel_rfl) rfl rfl (by kernel_rfl) (fun _ _ _ h => h) (Or.inl ⟨by kernel_rfl, ?_⟩) (Sof _ Xt) ?_); rotate_left; (focus (intro w hSw; (try dsimp only at hSw); (try simp only [rl]); go_simp; (try with_reducible rfl))); (try simp only [rl])
            (refine wpAnyT_take (i := 4) (v := ?_) [11] (Array.getElem?_eq_getElem (by decide)) (by kernel_rfl) (by kernel_rfl) (by kernel_rfl) (by kernel_rfl) rfl rfl (by kernel_rfl) (fun _ _ _ h => h) (Or.inl ⟨by kernel_rfl, ?_⟩) (Sof _ Xt) ?_); rotate_left; (focus (intro w hSw; (try dsimp only at hSw); (try simp only [rl]); go_simp; (try with_reducible rfl))); (try simp only [rl])
            (refine wpAnyT_take (i := 5) (v := ?_) [6, 9, 11] (Array.getElem?_eq_getElem (by decide)) (by kernel_rfl) (by kernel_rfl) (by kernel_rfl) (by kernel_rfl) rfl rfl (by kernel_rfl) (fun _ _ _ h => h) (Or.inl ⟨by kernel_rfl, ?_⟩) (Sof _ Xt) ?_); rotate_left; (focus (intro w hSw; (try dsimp only at hSw); (try simp only [rl]); go_simp; (try with_reducible rfl))); (try simp only [rl])
            (refine wpAnyT_take (i := 7) (v := ?_) [8, 9, 11] (Array.getElem?_eq_getElem (by decide)) (by kernel_rfl) (by kernel_rfl) (by kernel_rfl) (by kernel_rfl) rfl rfl (by kernel_rfl) (fun _ _ _ h => h) (Or.inl ⟨by kernel_rfl, ?_⟩) (Sof _ Xt) ?_); rotate_left; (focus (intro w hSw; (try dsimp only at hSw); (try simp only [rl]); go_simp; (try with_reducible rfl))); (try simp only [rl])
            (refine wpAnyT_take (i := 10) (v := ?_) [11] (Array.getElem?_eq_getElem (by decide)) (by kernel_rfl) (by kernel_rfl) (by kernel_rfl) (by kernel_rfl) rfl rfl (by kernel_rfl) (fun _ _ _ h => h) (Or.inl ⟨by kernel_rfl, ?_⟩) (Sof _ Xt) ?_); rotate_left; (focus (intro w hSw; (try dsimp only at hSw); (try simp only [rl]); go_simp; (try with_reducible rfl))); (try simp only [rl])
            refine wpAnyT_ready (rs := [6, 8]) (by kernel_rfl) (by simp) ?_
            refine AllReadyT.cons (Array.getElem?_eq_getElem (by decide)) (fun K hK => ?_) (AllReadyT.cons (Array.getElem?_eq_getElem (by decide)) (fun K hK => ?_) AllReadyT.nil)
            · (try simp only [rl])
              (try go_simp)
              (refine (cloneS_any ns na ns.length nc _ _ rfl hok (by omega) (Hstb.out.ext Xt)).mono ?_)
              rintro e w2 ⟨a1, c1, rfl, hok1, HS1, h2⟩
              (try go_simp)
              refine hK.out _ _ (fun _ => Sof _ Xt) ?_; clear hK K; (try simp only [rl])
              (refine wpAnyT_one (i := 8) (by kernel_rfl) (Array.getElem?_eq_getElem (by decide)) fun K hK => ?_); (try simp only [rl])
              go_simp
              refine hK.out _ _ (fun _ => Sof _ Xt) ?_; clear hK K; (try simp only [rl])
              (refine wpAnyT_one (i := 9) (by kernel_rfl) (Array.getElem?_eq_getElem (by decide)) fun K hK => ?_); (try simp only [rl])
              have hbase := h2.size
              rw [if_pos (by simp [Region.wanted])]
              refine app_str (x.keys[k]) w2.heap.size (by rfl) (by rfl) (by rfl) (HS1.ext Xt) Bxt (by omega) (by first | exact hbase | (simp at hbase ⊢; omega)) ?_
              intro g4 cap4 w4 HS4 hg4 hat4
              have hx4 : Ext wb w4 := Ext.grown (by exact Xt) hg4 (fun g hg => by have := (HS1.lt g hg).1; (try simp at this); omega)
              have hg4b : wb.heap.size ≤ g4 := by have := (HS4.lt g4 rfl).1; (try simp at this); omega
              have Hnm : Hid (StrsIn w4 (Off p (.slice a' qs.length c')) (some ⟨g4, 0, none⟩) (ns ++ [x.keys[k]])) := by
                obtain ⟨a5, c5, he5, -, -, hst5⟩ := HS4.strs
                simp only [Value.slice.injEq, true_and] at he5
                obtain ⟨rfl, rfl⟩ := he5
                rcases hst5 with h | ⟨b5, o5, he, -, hc5⟩
                · simp at h
                · simp only [Option.some.injEq, Addr.mk.injEq] at he
                  obtain ⟨rfl, rfl, -⟩ := he
                  exact .inr ⟨_, _, rfl, ⟨by omega, fun e => by have := (hlo2 _ e).2; omega⟩, hc5⟩
              have Hok4 : SlOk (some ⟨g4, 0, none⟩) (ns ++ [x.keys[k]]).length cap4 := by
                obtain ⟨a5, c5, he5, hok5, -, -⟩ := HS4.strs
                simp only [Value.slice.injEq, true_and] at he5
                obtain ⟨rfl, rfl⟩ := he5
                rw [List.length_append]; exact hok5
              have HSc := Lib.hid (HSb.out.ext hx4)
              have hBpc := Box.ext hx4 hBpb
              have hB0c := Box.ext hx4 hB0b
              have hmc := hmb.ext hx4
              clear HS4 HS1 hat4 hg4 h2 hok1 hbase
              refine hK.out _ _ (fun _ => Sof _ hx4) ?_
              clear hK K
              (try simp only [rl])
              (refine wpAnyT_one (i := 11) (by kernel_rfl) (Array.getElem?_eq_getElem (by decide)) fun K hK => ?_); (try simp only [rl])
              (try go_simp)
              have hrec := ih (x.l[k]'(by omega)) ka' kc' la' lc' (d + 1) (ns ++ [x.keys[k]]) (some ⟨g4, 0, none⟩) cap4 p a' c' qs w4 (by omega) (by omega) Hgi.out (by rw [List.length_append]; simp; omega) (fun q hq => by rcases List.mem_append.1 hq with h | h; exact hnz q h; simp at h; rw [h]; exact hkz) (Hinb.out.ext hx4) Hok4 Hnm.out hBpc HSc.out hql hgp hmc
              rw [List.length_append] at hrec
              (refine hrec.mono ?_)
              rintro e w5 ⟨rfl, a6, c6, hB6, HS6, hh6, hg6, hb6⟩
              (try go_simp)
              (refine hK.out _ _ (fun h => Bool.noConfusion (show true = false from h)) ?_); clear hK K; (try simp only [rl])
              refine wpAnyT_done (by kernel_rfl) ?_ _
              have hz4 := hx4.size
              have hB05 := Box.held hh6 hB0c Hw0.out
              have hh5 : Held (Off p (.slice a ps.length c)) w w5 := ⟨Nat.le_trans hhb.size (Nat.le_trans hz4 hh6.size), fun b hb hl => by
                have e1 := hh6.block b ⟨hb.1, fun e => by
                  rcases Hgo.out b e with h | h
                  · exact hb.2 h
                  · omega⟩ (by omega)
                rw [e1, Below.block hx4 b (by omega), hhb.block b hb hl]⟩
              have hb9 : Below p w w5 := (hbb.trans (Below.mono hx4 (by omega))).trans hb6
              have hz9 := hh6.size
              clear Hnm HSc hrec
              go_wp2_with fail
              go_roundg (x.keys.length - (k + 1))
              case measure => omega
              case rel => exact ⟨k + 1, a6, c6, _, by omega, by go_num, rfl, by rw [Hlt.out, List.map_append, ← List.append_assoc, ← Hqs.out], Bxt, Box.ext (w := w5) Xt hB6, HS6.ext Xt, hh5.ext Xt, fun g hg => by
                rcases hg6 g hg with h | h
                · exact Hgo.out g h
                · exact .inr (by omega), hb9.trans (Below.mono (B := w5.heap.size) (by exact Xt) (by omega))⟩
            · (try simp only [rl])
              go_simp
              refine hK.out _ _ (fun _ => Sof _ Xt) ?_; clear hK K; (try simp only [rl])
              (refine wpAnyT_one (i := 6) (by kernel_rfl) (Array.getElem?_eq_getElem (by decide)) fun K hK => ?_); (try simp only [rl])
              (try go_simp)
              (refine (cloneS_any ns na ns.length nc _ _ rfl hok (by omega) (Hstb.out.ext Xt)).mono ?_)
              rintro e w2 ⟨a1, c1, rfl, hok1, HS1, h2⟩
              (try go_simp)
              refine hK.out _ _ (fun _ => Sof _ Xt) ?_; clear hK K; (try simp only [rl])
              (refine wpAnyT_one (i := 9) (by kernel_rfl) (Array.getElem?_eq_getElem (by decide)) fun K hK => ?_); (try simp only [rl])
              have hbase := h2.size
              rw [if_pos (by simp [Region.wanted])]
              refine app_str (x.keys[k]) wb.heap.size (by rfl) (by rfl) (by rfl) (HS1.ext Xt) Bxt (by omega) (by first | exact hbase | (simp at hbase ⊢; omega)) ?_
              intro g4 cap4 w4 HS4 hg4 hat4
              have hx4 : Ext wb w4 := Ext.grown (by exact Xt) hg4 (fun g hg => by have := (HS1.lt g hg).1; (try simp at this); omega)
              have hg4b : wb.heap.size ≤ g4 := by have := (HS4.lt g4 rfl).1; (try simp at this); omega
              have Hnm : Hid (StrsIn w4 (Off p (.slice a' qs.length c')) (some ⟨g4, 0, none⟩) (ns ++ [x.keys[k]])) := by
                obtain ⟨a5, c5, he5, -, -, hst5⟩ := HS4.strs
                simp only [Value.slice.injEq, true_and] at he5
                obtain ⟨rfl, rfl⟩ := he5
                rcases hst5 with h | ⟨b5, o5, he, -, hc5⟩
                · simp at h
                · simp only [Option.some.injEq, Addr.mk.injEq] at he
                  obtain ⟨rfl, rfl, -⟩ := he
                  exact .inr ⟨_, _, rfl, ⟨by omega, fun e => by have := (hlo2 _ e).2; omega⟩, hc5⟩
              have Hok4 : SlOk (some ⟨g4, 0, none⟩) (ns ++ [x.keys[k]]).length cap4 := by
                obtain ⟨a5, c5, he5, hok5, -, -⟩ := HS4.strs
                simp only [Value.slice.injEq, true_and] at he5
                obtain ⟨rfl, rfl⟩ := he5
                rw [List.length_append]; exact hok5
              have HSc := Lib.hid (HSb.out.ext hx4)
              have hBpc := Box.ext hx4 hBpb
              have hB0c := Box.ext hx4 hB0b
              have hmc := hmb.ext hx4
              clear HS4 HS1 hat4 hg4 h2 hok1 hbase
              refine hK.out _ _ (fun _ => Sof _ hx4) ?_
              clear hK K
              (try simp only [rl])
              (refine wpAnyT_one (i := 11) (by kernel_rfl) (Array.getElem?_eq_getElem (by decide)) fun K hK => ?_); (try simp only [rl])
              (try go_simp)
              have hrec := ih (x.l[k]'(by omega)) ka' kc' la' lc' (d + 1) (ns ++ [x.keys[k]]) (some ⟨g4, 0, none⟩) cap4 p a' c' qs w4 (by omega) (by omega) Hgi.out (by rw [List.length_append]; simp; omega) (fun q hq => by rcases List.mem_append.1 hq with h | h; exact hnz q h; simp at h; rw [h]; exact hkz) (Hinb.out.ext hx4) Hok4 Hnm.out hBpc HSc.out hql hgp hmc
              rw [List.length_append] at hrec
              (refine hrec.mono ?_)
              rintro e w5 ⟨rfl, a6, c6, hB6, HS6, hh6, hg6, hb6⟩
              (try go_simp)
              (refine hK.out _ _ (fun h => Bool.noConfusion (show true = false from h)) ?_); clear hK K; (try simp only [rl])
              refine wpAnyT_done (by kernel_rfl) ?_ _
              have hz4 := hx4.size
              have hB05 := Box.held hh6 hB0c Hw0.out
              have hh5 : Held (Off p (.slice a ps.length c)) w w5 := ⟨Nat.le_trans hhb.size (Nat.le_trans hz4 hh6.size), fun b hb hl => by
                have e1 := hh6.block b ⟨hb.1, fun e => by
                  rcases Hgo.out b e with h | h
                  · exact hb.2 h
                  · omega⟩ (by omega)
                rw [e1, Below.block hx4 b (by omega), hhb.block b hb hl]⟩
              have hb9 : Below p w w5 := (hbb.trans (Below.mono hx4 (by omega))).trans hb6
              have hz9 := hh6.size
              clear Hnm HSc hrec
              go_wp2_with fail
              go_roundg (x.keys.length - (k + 1))
              case measure => omega
              case rel => exact ⟨k + 1, a6, c6, _, by omega, by go_num, rfl, by rw [Hlt.out, List.map_append, ← List.append_assoc, ← Hqs.out], Bxt, Box.ext (w := w5) Xt hB6, HS6.ext Xt, hh5.ext Xt, fun g hg => by
                rcases hg6 g hg with h | h
                · exact Hgo.out g h
                · exact .inr (by omega), hb9.trans (Below.mono (B := w5.heap.size) (by exact Xt) (by omega))⟩
          · have hq : qs = ps ++ (x.lvs ns).map joinB := by
              rw [Hqs.out, Hlv.out, List.take_of_length_le (by omega), List.take_of_length_le (by omega)]
            have Hq := Lib.hid hq
            clear hq
            go_wp2_with fail
            go_end0
            rw [← Hq.out]
            exact ⟨rfl, a', c', Box.ext (w := wo) Xt hBp, HSo.out.ext Xt, hho.ext Xt, fun g hg => by
              rcases Hgo.out g hg with h | h
              · exact .inl h
              · exact .inr (by omega), hbo.trans (Below.mono (B := wo.heap.size) (by exact Xt) (by omega))⟩
end Go.Proofs.YtjibdbnpkfghhaaGreatDoor
/- The walk of owner.Leaves; texts sorted by the library. -/
namespace Go.Proofs.YtjibdbnpkfghhaaGreatDoor
open Go.RowKit
attribute [local go_sem ↓] Go.wp_at_zero Go.wp_at_succ
theorem le_of_data {x y : List UInt8} (h : x ≤ y) : Op.bytesLess y x = false := by
  rw [Go.Proofs.bytesLess_eq, decide_eq_false_iff_not]
  exact List.not_lt.2 h
theorem sort_data (ks : List ByteArray) : ((ks.map (·.data.toList)).mergeSort fun x y => decide (x ≤ y)) = (sortB ks).map (·.data.toList) := by
  obtain ⟨ss, hss⟩ : ∃ ss, ((ks.map (·.data.toList)).mergeSort fun x y => decide (x ≤ y)) = ss := ⟨_, rfl⟩
  have hp : ss.Perm (ks.map (·.data.toList)) := hss ▸ List.mergeSort_perm _ _
  have hs : ss.Pairwise fun a b => Op.bytesLess b a = false := by
    rw [← hss]
    refine (List.pairwise_mergeSort (le := fun x y => decide (x ≤ y)) (fun a b c h1 h2 => ?_) (fun a b => ?_) _).imp (fun h => le_of_data (by simpa using h))
    · simp only [decide_eq_true_eq] at *; exact List.le_trans h1 h2
    · simp only [Bool.or_eq_true, decide_eq_true_eq]; exact List.le_total a b
  rw [hss]
  have e1 : (ss.map fun l => (⟨l.toArray⟩ : ByteArray)) = sortB ks := by
    refine sorted_perm ?_ (sortB_sorted ks) ?_
    · refine List.pairwise_map.2 (hs.imp fun h => ?_)
      unfold ltS
      rw [ByteArray.toList_eq, ByteArray.toList_eq]
      exact h
    · refine (hp.map fun l => (⟨l.toArray⟩ : ByteArray)).trans ?_
      rw [List.map_map]
      have : (ks.map ((fun l => (⟨l.toArray⟩ : ByteArray)) ∘ fun x => x.data.toList)) = ks := by
        conv => rhs; rw [← List.map_id ks]
        refine List.map_congr_left fun k _ => ?_
        simp
      rw [this]
      exact (sortB_perm ks).symm
  rw [← e1, List.map_map]
  conv => lhs; rw [← List.map_id ss]
  refine List.map_congr_left fun k _ => ?_
  simp
theorem encStr_data (ks : List ByteArray) : (ks.map (·.data.toList)).map encStr = ks.map Value.string := by
  rw [List.map_map]
  refine List.map_congr_left fun k _ => ?_
  simp [encStr]
theorem sortS_any (ks : List ByteArray) (base : Nat) (a : Option Addr) (c : Nat) (w : World) (hS : OwnS w base (.slice a ks.length c) ks.length ks) (hn : ks.length ≤ 1073741824) :
    Calls Tryz.prog 75 #[.slice a ks.length c] w fun e w' => e = .returned (.tuple #[]) ∧ OwnS w' base (.slice a ks.length c) ks.length (sortB ks) ∧ w.grownBy w' (Value.slice a ks.length c).ownBlock := by
  rcases hS.2.2 with ⟨hv, h0⟩ | ⟨g, cap, cur, hv, hb, hg, hnc, hcm, hcs, ht⟩
  · have hk : ks = [] := List.eq_nil_of_length_eq_zero h0
    subst hk
    refine (Tryz.slices_Sort_string_none a c w).mono ?_
    rintro e w' ⟨rfl, rfl⟩
    exact ⟨rfl, hS, ⟨rfl, rfl, rfl, Nat.le_refl _, fun _ _ _ => rfl⟩⟩
  · simp only [Value.slice.injEq, true_and] at hv
    obtain ⟨rfl, rfl⟩ := hv
    have hlen : (ks.map (·.data.toList)).length = ks.length := by simp
    have hH : Go.Sort.Holds encStr w g 0 (ks.map (·.data.toList)).toArray := holds_of_block hg (by rw [encStr_data, hlen]; simpa using ht)
    have hc := Tryz.slices_Sort_string g 0 c (ks.map (·.data.toList)) w hH (Array.getElem?_eq_some_iff.1 hg).1 (by rw [hlen]; omega)
    rw [hlen] at hc
    refine hc.mono ?_
    rintro e w' ⟨rfl, n, os, rfl⟩
    rw [sort_data]
    have ho := ownsRow_sorted (w := w) (base := base) (g := g) (cap := c) (n := n) (os := os) (cur := cur) (ss := ks.map (·.data.toList)) (ts := (sortB ks).map (·.data.toList)) (by simp [(sortB_perm ks).length_eq]) hb hg (by simpa using hnc) hcm hcs
    rw [encStr_data, hlen] at ho
    exact ⟨rfl, ⟨(sortB_perm ks).length_eq, ho⟩, grownBy_sorted _⟩
set_option maxRecDepth 100000 in
set_option maxHeartbeats 8000000 in
theorem leavesO_any (x : V) (ka : Option Addr) (kc : Nat) (la : Option Addr) (lc : Nat) (S : Nat → Prop) (w : World) (hsz : x.size ≤ 1073741824) (hin : x.In w S ka kc la lc) (hm : MaxAt w) :
    Calls Tryz.prog 30 #[x.val ka kc la lc] w (RetStrs x.leaves w) := by
  have Hin := Lib.hid (hin.mono (T := fun b => b < w.heap.size) (fun b _ h => h))
  clear hin
  by_cases hc : x.fine = true ∧ x.k = 5
  · obtain ⟨hf, h5⟩ := hc
    obtain ⟨qs, hqs⟩ : ∃ qs, (x.lvs []).map joinB = qs := ⟨_, rfl⟩
    have Hqs := Lib.hid (show [] ++ (x.lvs []).map joinB = qs by rw [List.nil_append]; exact hqs)
    have Hlv := Lib.hid (show x.leaves = sortB qs by rw [← hqs]; exact if_pos ⟨hf, h5⟩)
    have hgm : 0 < w.heap.size := by obtain ⟨m, h⟩ := hm; exact cell_lt h
    have hcz := fine_count hf
    have hg := fine_good hf
    have h5n : (x.k != 5) = false := by simpa using h5
    have Hf := Lib.hid hf
    have hln : (sortB qs).length = qs.length := (sortB_perm _).length_eq
    have hl1 : qs.length ≤ x.count := by rw [← hqs, List.length_map]; exact lvs_len x []
    clear hf h5 hqs
    go_enter Tryz.func30, Tryz.ntmps30
    go_upto_region 2 with fail
    refine gen_world (R := fun wx => Box wx w.heap.size #[.int .i64 x.k, .int .i64 x.n, .string x.s, .slice ka x.keys.length kc, .slice la x.l.length lc] 25 ∧ Box wx (w.heap.size + 1) #[.slice none 0 0] 22 ∧ Ext w wx) ⟨Bxt, Bxt, Xt⟩ ?_
    rintro wa ⟨hB0, hB1, hxa⟩
    have hc0 := hB0.cells; have hf0 := hB0.free; have hl0 := hB0.lt
    go_wp2_with fail
    (refine (fine_any x ka kc la lc _ _ hsz (Hin.out.ext Xt)).mono ?_)
    rw [Hf.out]
    rintro e w1 ⟨rfl, h1⟩
    have hB0 := Box.ext h1 hB0
    have hB1 := Box.ext h1 hB1
    have hx1 : Ext w w1 := hxa.trans h1
    clear h1 hxa hc0 hf0 hl0
    have hc0 := hB0.cells; have hf0 := hB0.free; have hl0 := hB0.lt
    have hlB := hB1.lt
    go_wp2_with fail
    (refine (leaves_val x.size x ka kc la lc 1 [] none 0 (w.heap.size + 1) none 0 [] _ (Nat.le_refl _) hsz hg (by decide) (by simp) ((Hin.out.mono (T := fun b => b < w.heap.size + 1) (fun b h _ => by omega)).ext Xt) SlOk.nil (.inl rfl) (Box.ext (w := w1) Xt hB1) ⟨rfl, World.ownsRow_nil _ _ _ _⟩ (by simp; omega) (by omega) (hm.ext Xt)).mono ?_)
    rw [Hqs.out]
    rintro e w2 ⟨rfl, a, c, hB2, hS2, hh2, hg2, hb2⟩
    have hx2 : Ext w w2 := Below.trans (Ext.trans hx1 (Ext.refl w1)) (Below.mono (B := w.heap.size + 1) (by exact hb2) (by omega))
    have HS2 := Lib.hid hS2
    have hl2 := hB2.lt
    clear hc0 hf0 hl0 hB0 hB1 hh2 hg2 hb2 hS2 hx1
    have hc2 := hB2.cells; have hf2 := hB2.free; have hl2 := hB2.lt
    go_wp2_with fail
    (refine (sortS_any _ _ a c _ HS2.out (by omega)).mono ?_)
    rintro e w3 ⟨rfl, hS3, hg3⟩
    have hB3 := Box.grown hB2 hg3 (fun e => by have := (HS2.out.lt _ e.symm).1; omega)
    have hx3 : Ext w w3 := Ext.grown hx2 hg3 (fun k hk => by have := (HS2.out.lt k hk).1; omega)
    have HS3 := Lib.hid hS3
    clear hc2 hf2 hS3 hg3 hB2 HS2
    have hc3 := hB3.cells; have hf3 := hB3.free; have hl3 := hB3.lt
    go_wp2_with fail
    go_ret
    rw [Hlv.out]
    obtain ⟨a5, c5, he, hok, -, hst⟩ := HS3.out.strs
    simp only [Value.slice.injEq, true_and] at he
    obtain ⟨rfl, rfl⟩ := he
    exact ⟨a, c, by rw [hln]; rfl, by rw [hln]; exact hok, (hst.ext Xt).keep (fun _ _ _ => rfl) (fun b hb _ => by omega), Xt⟩
  · have Hlv := Lib.hid (show x.leaves = [] from if_neg hc)
    cases hf : x.fine with
    | false =>
      have Hf := Lib.hid hf
      clear hf hc
      go_enter Tryz.func30, Tryz.ntmps30
      go_upto_region 2 with fail
      refine gen_world (R := fun wx => Box wx w.heap.size #[.int .i64 x.k, .int .i64 x.n, .string x.s, .slice ka x.keys.length kc, .slice la x.l.length lc] 25 ∧ Ext w wx) ⟨Bxt, Xt⟩ ?_
      rintro wa ⟨hB0, hxa⟩
      have hc0 := hB0.cells; have hf0 := hB0.free; have hl0 := hB0.lt
      go_wp2_with fail
      (refine (fine_any x ka kc la lc _ _ hsz (Hin.out.ext Xt)).mono ?_)
      rw [Hf.out]
      rintro e w1 ⟨rfl, h1⟩
      go_wp2_with fail
      go_ret
      rw [Hlv.out]
      exact ⟨none, 0, rfl, SlOk.nil, .inl rfl, Xt⟩
    | true =>
      have Hf := Lib.hid hf
      have h5 : (x.k != 5) = true := by
        simp only [bne_iff_ne, ne_eq]
        exact fun h => hc ⟨hf, h⟩
      clear hf hc
      go_enter Tryz.func30, Tryz.ntmps30
      go_upto_region 2 with fail
      refine gen_world (R := fun wx => Box wx w.heap.size #[.int .i64 x.k, .int .i64 x.n, .string x.s, .slice ka x.keys.length kc, .slice la x.l.length lc] 25 ∧ Ext w wx) ⟨Bxt, Xt⟩ ?_
      rintro wa ⟨hB0, hxa⟩
      have hc0 := hB0.cells; have hf0 := hB0.free; have hl0 := hB0.lt
      go_wp2_with fail
      (refine (fine_any x ka kc la lc _ _ hsz (Hin.out.ext Xt)).mono ?_)
      rw [Hf.out]
      rintro e w1 ⟨rfl, h1⟩
      have hB0 := Box.ext h1 hB0
      clear hc0 hf0 hl0
      have hc0 := hB0.cells; have hf0 := hB0.free; have hl0 := hB0.lt
      go_wp2_with fail
      go_ret
      rw [Hlv.out]
      exact ⟨none, 0, rfl, SlOk.nil, .inl rfl, Xt⟩
end Go.Proofs.YtjibdbnpkfghhaaGreatDoor
/- The walk of owner.way. -/
namespace Go.Proofs.YtjibdbnpkfghhaaGreatDoor
open Go.RowKit
attribute [local go_sem ↓] Go.wp_at_zero Go.wp_at_succ
theorem leaf_size {x : V} {p : ByteArray} (h : p ∈ x.leaves) : p.size ≤ 2000 := by
  obtain ⟨-, -, r, rfl, -, -, hl, hp, -⟩ := leaf_at h
  have h1 := joinL_len r (fun a ha => plain_size (hp a ha))
  have h2 : (joinB r).size = (joinL (r.map (·.data.toList))).length := by rw [← joinB_list]; exact Array.length_toList.symm
  omega
theorem eqb_of {a b : ByteArray} (h : a = b) : (a.toList == b.toList) = true := by rw [h, beq_self_eq_true]
theorem neb_of {a b : ByteArray} (h : a ≠ b) : (a.toList == b.toList) = false := by
  rw [beq_eq_false_iff_ne]; exact fun e => h (bytes_ext e)
theorem wayL_cons (v want : V) (q p : ByteArray) (r : List ByteArray) : wayL v want q (p :: r) = if (aboveB p q || aboveB q p) = true then true else if p = q then (match findV v p with | none => true | some now => !likeB now ((findV want p).getD V.zero)) else wayL v want q r := rfl
theorem findV_size {x : V} {p : ByteArray} : ((findV x p).getD V.zero).size ≤ x.size + 1 := by
  cases h : findV x p with
  | none => have e : V.zero.size = 1 := by decide +kernel
            simp only [Option.getD_none]; omega
  | some y => have := go_size (namesD p) (x := x) (y := y) h; simp only [Option.getD_some]; omega
set_option maxRecDepth 100000 in
set_option maxHeartbeats 8000000 in
theorem way_any (v : V) (ka : Option Addr) (kc : Nat) (la : Option Addr) (lc : Nat) (S : Nat → Prop) (want : V) (kb : Option Addr) (kd : Nat) (lb : Option Addr) (ld : Nat) (T : Nat → Prop) (q : ByteArray) (w : World) (hvz : v.size ≤ 1000000000) (hwz : want.size ≤ 1000000000)
    (hin : v.In w S ka kc la lc) (hjn : want.In w T kb kd lb ld) (hq : q.size ≤ 1073741824) (hm : MaxAt w) :
    Calls Tryz.prog 50 #[v.val ka kc la lc, want.val kb kd lb ld, .string q] w fun e w' => e = .returned (.bool (wayB v want q)) ∧ Ext w w' := by
  have Hin := Lib.hid hin
  have Hjn := Lib.hid hjn
  have hll := leaves_len want
  have Hwl := Lib.hid (fun k (h : k < want.leaves.length) => leaf_size (List.getElem_mem h))
  have Hstart := Lib.hid (show wayL v want q (want.leaves.drop 0) = wayB v want q from rfl)
  clear hin hjn
  go_enter Tryz.func50, Tryz.ntmps50
  go_upto_region 1 with fail
  refine gen_world (R := fun wx => Box wx w.heap.size #[.int .i64 v.k, .int .i64 v.n, .string v.s, .slice ka v.keys.length kc, .slice la v.l.length lc] 25 ∧ Box wx (w.heap.size + 1) #[.int .i64 want.k, .int .i64 want.n, .string want.s, .slice kb want.keys.length kd, .slice lb want.l.length ld] 25 ∧ Ext w wx) ⟨Bxt, Bxt, Xt⟩ ?_
  rintro wa ⟨hB0, hB1, hxa⟩
  have hc1 := hB1.cells; have hf1 := hB1.free; have hl1 := hB1.lt
  go_wp2_with fail
  (refine (leavesO_any want kb kd lb ld _ _ (by omega) (Hjn.out.ext Xt) (hm.ext Xt)).mono ?_)
  rintro e w1 ⟨pa, pc, rfl, hpok, hpst, h1⟩
  have hB0 := Box.ext h1 hB0
  have hB1 := Box.ext h1 hB1
  have hx1 : Ext w w1 := hxa.trans h1
  have Hst := Lib.hid hpst
  clear h1 hxa hc1 hf1 hl1 hpst
  go_wp2_with fail
  go_loopg [16] want.leaves.length (fun g i wr => ∃ k : Nat, k ≤ want.leaves.length ∧ i = .int .i64 k ∧ g = want.leaves.length - k ∧ wayL v want q (want.leaves.drop k) = wayB v want q ∧ Ext w1 wr)
  case atStart => exact ⟨0, Nat.zero_le _, rfl, rfl, Hstart.out, Xt⟩
  case round =>
    obtain ⟨k, hk, rfl, rfl, hway, hx⟩ := hrel
    have Hway := Lib.hid hway
    have hB0 := Box.ext hx hB0
    have hB1 := Box.ext hx hB1
    have hxw : Ext w wr := hx1.trans hx
    clear hway Hstart
    by_cases hlt : k < want.leaves.length
    · obtain ⟨b, o, rfl, hSb, hC⟩ := Hst.out.resolve_left (by intro h; rw [h] at hlt; simp at hlt)
      have d0 := hx.cell (hC k hlt)
      have hpz := Hwl.out k hlt
      have Hpm := Lib.hid (show want.leaves[k] ∈ want.leaves from List.getElem_mem hlt)
      have Hcons := Lib.hid (show wayL v want q (want.leaves.drop k) = _ from (congrArg (wayL v want q) (List.drop_eq_getElem_cons hlt)).trans (wayL_cons v want q _ _))
      obtain ⟨p, hp⟩ : ∃ p, want.leaves[k] = p := ⟨_, rfl⟩
      rw [hp] at d0 hpz Hpm Hcons
      clear hp hC
      cases ha1 : aboveB p q with
      | true =>
        have Hr := Lib.hid (show wayB v want q = true by rw [← Hway.out, Hcons.out, ha1]; rfl)
        have Ha := Lib.hid ha1
        clear ha1
        go_wp2_with fail
        (refine (above_any p q _ (by omega)).mono ?_)
        rw [Ha.out]
        rintro e w2 ⟨rfl, rfl⟩
        go_wp2_with fail
        go_ret
        exact ⟨ret_bool Hr.out.symm, Xt⟩
      | false =>
        cases ha2 : aboveB q p with
        | true =>
          have Hr := Lib.hid (show wayB v want q = true by rw [← Hway.out, Hcons.out, ha1, ha2]; rfl)
          have Ha := Lib.hid ha1
          have Hb := Lib.hid ha2
          clear ha1 ha2
          go_wp2_with fail
          (refine (above_any p q _ (by omega)).mono ?_)
          rw [Ha.out]
          rintro e w2 ⟨rfl, rfl⟩
          go_wp2_with fail
          (refine (above_any q p _ (by omega)).mono ?_)
          rw [Hb.out]
          rintro e w3 ⟨rfl, rfl⟩
          go_wp2_with fail
          go_ret
          exact ⟨ret_bool Hr.out.symm, Xt⟩
        | false =>
          have Hcons2 := Lib.hid (show wayL v want q (want.leaves.drop k) = if p = q then _ else _ by rw [Hcons.out, ha1, ha2]; rfl)
          have Ha := Lib.hid ha1
          have Hb := Lib.hid ha2
          clear ha1 ha2 Hcons
          by_cases hpq : p = q
          · have hpb := eqb_of hpq
            have Hr := Lib.hid (show wayB v want q = _ by rw [← Hway.out, Hcons2.out, if_pos hpq])
            clear hpq Hcons2
            have hnz : ((findV v p).getD V.zero).size ≤ 1073741824 := by have := findV_size (x := v) (p := p); omega
            have hxz : ((findV want p).getD V.zero).size ≤ 1073741824 := by have := findV_size (x := want) (p := p); omega
            obtain ⟨xv, hxv⟩ : ∃ xv, (findV want p).getD V.zero = xv := ⟨_, rfl⟩
            obtain ⟨xb, hxb⟩ : ∃ xb, (findV want p).isSome = xb := ⟨_, rfl⟩
            rw [hxv] at hxz Hr
            have Hxv := Lib.hid hxv
            have Hxb := Lib.hid hxb
            clear hxv hxb
            go_wp2_with fail
            (refine (above_any p q _ (by omega)).mono ?_)
            rw [Ha.out]
            rintro e w2 ⟨rfl, rfl⟩
            go_wp2_with fail
            (refine (above_any q p _ (by omega)).mono ?_)
            rw [Hb.out]
            rintro e w3 ⟨rfl, rfl⟩
            have hc0 := hB0.cells; have hf0 := hB0.free; have hl0 := hB0.lt
            go_wp2_with fail
            (refine (find_any v ka kc la lc _ p _ (by omega) (Hin.out.ext Xt) (by omega) (hm.ext Xt)).mono ?_)
            cases hfv : findV v p with
            | none =>
              rw [hfv] at Hr
              rintro e w4 ⟨k2, c2, l2, d2, rfl, hin2, h4⟩
              have hB1 := Box.ext (w' := w4) Xt hB1
              have hx4 : Ext w w4 := Xt
              clear h4 hc0 hf0 hl0 hfv hin2
              go_upto_region 8 with fail
              refine gen_world (R := fun wx => Ext w4 wx) (by exact Xt) ?_
              rintro wb hxb
              have hB1 := Box.ext hxb hB1
              have hx5 : Ext w wb := hx4.trans hxb
              clear hxb
              have hc1 := hB1.cells; have hf1 := hB1.free; have hl1 := hB1.lt
              go_wp2_with fail
              (refine (find_any want kb kd lb ld _ p _ (by omega) (Hjn.out.ext Xt) (by omega) (hm.ext Xt)).mono ?_)
              rw [Hxv.out, Hxb.out]
              rintro e w6 ⟨k3, c3, l3, d3, rfl, hin3, h6⟩
              go_wp2_with fail
              go_ret
              exact ⟨ret_bool Hr.out.symm, Xt⟩
            | some now =>
              rw [hfv] at Hr hnz
              simp only [Option.getD_some] at hnz
              simp only [Option.getD_some, Option.isSome_some]
              rintro e w4 ⟨k2, c2, l2, d2, rfl, hin2, h4⟩
              have Hn2 := Lib.hid (all_in hin2)
              have hB1 := Box.ext (w' := w4) Xt hB1
              have hx4 : Ext w w4 := Xt
              clear h4 hc0 hf0 hl0 hfv hin2
              go_upto_region 8 with fail
              refine gen_world (R := fun wx => Box wx w4.heap.size #[.int .i64 now.k, .int .i64 now.n, .string now.s, .slice k2 now.keys.length c2, .slice l2 now.l.length d2] 25 ∧ Ext w4 wx) ⟨Bxt, Xt⟩ ?_
              rintro wb ⟨hB9, hxb⟩
              have hB1 := Box.ext hxb hB1
              have Hn2 := Lib.hid (V.In.ext Hn2.out hxb)
              have hx5 : Ext w wb := hx4.trans hxb
              clear hxb
              have hc1 := hB1.cells; have hf1 := hB1.free; have hl1 := hB1.lt
              go_wp2_with fail
              (refine (find_any want kb kd lb ld _ p _ (by omega) (Hjn.out.ext Xt) (by omega) (hm.ext Xt)).mono ?_)
              rw [Hxv.out, Hxb.out]
              rintro e w6 ⟨k3, c3, l3, d3, rfl, hin3, h6⟩
              have Hn3 := Lib.hid (all_in hin3)
              have hB9 := Box.ext (w' := w6) Xt hB9
              have Hn2 := Lib.hid (V.In.ext (w' := w6) Hn2.out Xt)
              have hx6 : Ext w w6 := Xt
              clear h6 hc1 hf1 hl1 hin3 hx5
              go_upto_region 9 with fail
              refine gen_world (R := fun wx => Box wx w4.heap.size #[.int .i64 now.k, .int .i64 now.n, .string now.s, .slice k2 now.keys.length c2, .slice l2 now.l.length d2] 25 ∧ Box wx w6.heap.size #[.int .i64 xv.k, .int .i64 xv.n, .string xv.s, .slice k3 xv.keys.length c3, .slice l3 xv.l.length d3] 25 ∧ Ext w6 wx) ⟨Bxt, Bxt, Xt⟩ ?_
              clear hB9
              rintro wc ⟨hB9, hB11, hxc⟩
              have hx7 : Ext w wc := hx6.trans hxc
              have Hn2 := Lib.hid (V.In.ext Hn2.out hxc)
              have Hn3 := Lib.hid (V.In.ext Hn3.out hxc)
              clear hxc
              have hc9 := hB9.cells; have hf9 := hB9.free; have hl9 := hB9.lt
              have hc11 := hB11.cells; have hf11 := hB11.free; have hl11 := hB11.lt
              go_wp2_with fail
              (refine (like_any now xv k2 c2 l2 d2 _ k3 c3 l3 d3 _ _ hnz hxz (Hn2.out.ext Xt) (Hn3.out.ext Xt)).mono ?_)
              rintro e w8 ⟨rfl, h8⟩
              go_wp2_with fail
              go_ret
              exact ⟨ret_bool Hr.out.symm, Xt⟩
          · have hpb := neb_of hpq
            have Hnext := Lib.hid (show wayL v want q (want.leaves.drop (k + 1)) = wayB v want q by rw [← Hway.out, Hcons2.out, if_neg hpq])
            clear hpq Hcons2
            go_wp2_with fail
            (refine (above_any p q _ (by omega)).mono ?_)
            rw [Ha.out]
            rintro e w2 ⟨rfl, rfl⟩
            go_wp2_with fail
            (refine (above_any q p _ (by omega)).mono ?_)
            rw [Hb.out]
            rintro e w3 ⟨rfl, rfl⟩
            go_wp2_with fail
            go_roundg (want.leaves.length - (k + 1))
            case measure => omega
            case rel => exact ⟨k + 1, by omega, by go_num, rfl, Hnext.out, Xt⟩
    · have Hr := Lib.hid (show wayB v want q = false by rw [← Hway.out, List.drop_eq_nil_of_le (show want.leaves.length ≤ k by omega)]; rfl)
      go_wp2_with fail
      go_ret
      exact ⟨ret_bool Hr.out.symm, Xt⟩
end Go.Proofs.YtjibdbnpkfghhaaGreatDoor
