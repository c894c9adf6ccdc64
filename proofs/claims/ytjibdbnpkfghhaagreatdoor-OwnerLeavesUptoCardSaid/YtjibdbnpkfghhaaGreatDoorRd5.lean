/- The walk of the reader's list. -/
import Derived.Test.YtjibdbnpkfghhaaGreatDoorRd4
import Derived.Test.YtjibdbnpkfghhaaGreatDoorRd2
set_option linter.all false
namespace Go.Proofs.YtjibdbnpkfghhaaGreatDoor
open Go.RowKit
attribute [local go_sem ↓] Go.wp_at_zero Go.wp_at_succ
def ValR (r : Nat) (o : Option (V × Bytes)) (w : World) (e : Ending) (w' : World) : Prop :=
 Rd r w w' ∧ ∃ (v : V) (ka : Option Addr) (kc : Nat) (la : Option Addr) (lc : Nat) (s' : ByteArray) (bad' : Bool), e = .returned (v.val ka kc la lc) ∧ v.In w' (fun b => w.heap.size ≤ b) ka kc la lc ∧ Sr w' r s' bad' ∧
  ((bad' = false ∧ o = some (v, s'.data.toList)) ∨ (bad' = true ∧ s'.data.toList = [] ∧ o = none))
def ValC (f : Nat) : Prop := ∀ (r : Nat) (d : Int) (s : ByteArray) (bad : Bool) (w : World), d = 13 - (f : Int) → (bad = true → s.data.toList = []) → s.size ≤ 1048576 → Sr w r s bad → LibB r w →
 Calls Tryz.prog 42 #[.pointer (some ⟨r, 0, none⟩), .int .i64 d] w (ValR r (valL f s.data.toList) w)
theorem Rd.setNew {r : Nat} {a b : World} (h : Rd r a b) {p : Addr} (hp : a.heap.size ≤ p.block) (v : Value) (hr : r < a.heap.size) : Rd r a (b.setCell p v) :=
 ⟨h.below.setCell (by omega) v, ⟨by have := h.size; simpa using this, fun k hk hl => by rw [Below.heap_setCell _ _ _ _ (by omega)]; exact h.held.block k hk hl⟩⟩
theorem Rd.alloc {r : Nat} {a b : World} (h : Rd r a b) (hr : r < a.heap.size) (o : Obj) : Rd r a (b.alloc o) := h.ext hr ((Ext.refl b).alloc o)
theorem Rd.drew {r : Nat} {a b : World} (h : Rd r a b) : Rd r a b.drew := ⟨h.below.drew, h.held.drew⟩
theorem Rxt {r : Nat} {a b : World} (h : Rd r a b := by with_reducible repeat (first | assumption | (refine Rd.setNew ?_ ?_ _ (by assumption); rotate_left; (focus (first | (simp; done) | (simp; omega) | omega))) | apply Rd.drew | (refine Rd.alloc ?_ (by assumption) _) | (refine Rd.trans ?_ (by assumption)))) : Rd r a b := h
theorem Srt {w : World} {r : Nat} {s : ByteArray} {bad : Bool} (h : Sr w r s bad := by unfold Sr; (with_reducible apply Box.to); (focus (with_reducible repeat (first | assumption | (apply Box.new; (focus (first | rfl | (first | (simp; done) | (simp; omega) | omega)))) | apply Box.set | (apply Box.other; rotate_left; (focus (first | (simp; done) | (simp; omega) | omega))) | apply Box.alloc | apply Box.drew | (apply Box.ext; (focus assumption))))); (first | rfl | (simp; done) | (go_light; simp [*]; done))) : Sr w r s bad := h
abbrev None0 : Nat → Prop := fun _ => False
theorem rd_push {r base n : Nat} {wm w3 W w1 : World} {v v' : Value} {l : List V} {xs : List Value} (hl0 : l.length = n) (hown : wm.ownsRow base 25 5 v n xs) (hcells : CellsOf wm (Foot base None0 v) l xs) (hrd : Rd r wm w3) (hrb : r < base) (e : Ext w3 W)
  {x : V} {ka : Option Addr} {kc : Nat} {la : Option Addr} {lc : Nat} (hx : x.In w3 (fun b => wm.heap.size ≤ b) ka kc la lc) (hbase : base ≤ wm.heap.size)
  (hown1 : w1.ownsRow base 25 5 v' (n + 1) (xs ++ [.int .i64 x.k, .int .i64 x.n, .string x.s, .slice ka x.keys.length kc, .slice la x.l.length lc])) (hgrow : W.grownBy w1 v.ownBlock)
  (g : Nat) (hv' : v'.ownBlock = some g) (hat : v.ownBlock = some g ∨ g = W.heap.size) : OwnL w1 base None0 v' (n + 1) (l ++ [x]) := by
 have hvb : v.ownBlock = none ∨ ∃ g, v.ownBlock = some g ∧ base ≤ g := by
  cases hv : v.ownBlock with
  | none => exact .inl rfl
  | some g => exact .inr ⟨g, rfl, (hown.lt g hv).1⟩
 have hc3 : CellsOf w3 (Foot base None0 v) l xs := hcells.keep (fun b hb hl => hrd.held.block b (by rcases hb with hb | hb; exact hb.2.elim; omega) hl) (fun _ h _ => h)
 refine OwnL.push hl0 (hc3.keep (e.kept _) (fun _ h _ => h)) hvb (hx.keep (e.kept _) ?_) hown1 hgrow g hv' hat
 intro b hb _
 refine .inr ⟨Nat.le_trans hbase hb, fun he => ?_⟩
 have := (hown.lt b he).2
 omega
theorem OwnL.rd {r base n : Nat} {w w' : World} {v : Value} {l : List V} (h : OwnL w base None0 v n l) (e : Rd r w w') (hr : r < base) : OwnL w' base None0 v n l :=
 h.keep (fun b hb hk => e.held.block b (by rcases hk with hk | hk; exact hk.2.elim; omega) hb)
def Front1 {α : Type} (e : UInt8) (first : Bool) (F K : Bytes → Option α) (s : Bytes) : Option α :=
 match spaceL s with
 | [] => none
 | c :: t => if c = e then F t else (if first = true then some (c :: t) else if c = 44 then some t else none).bind K
theorem more_then {α : Type} {r : Nat} {s : ByteArray} {bad first : Bool} {c : UInt8} {w w' : World} {e : Ending} {R : Option α} {F K : Bytes → Option α} (hm : MoreR r (spaceL s.data.toList) bad first c w e w') (hR : bad = false → R = Front1 c first F K s.data.toList)
  (hb : bad = true → s.data.toList = [] ∧ R = none) (hK : K [] = none) (hc : c ≠ 0) :
  Rd r w w' ∧ ((e = .returned (.bool false) ∧ ∃ s' bad', Sr w' r s' bad' ∧ ((bad' = false ∧ R = F s'.data.toList) ∨ (bad' = true ∧ s'.data.toList = [] ∧ R = none))) ∨
   (e = .returned (.bool true) ∧ bad = false ∧ ∃ s', Sr w' r s' false ∧ s'.size ≤ s.size ∧ R = K s'.data.toList)) := by
 obtain ⟨hrd, s', bad', hs', hbs, h⟩ := hm
 have hl : s.data.toList.length = s.size := Array.length_toList
 have hl' : s'.data.toList.length = s'.size := Array.length_toList
 have hsp := spaceL_len s.data.toList
 refine ⟨hrd, ?_⟩
 cases bad with
 | true =>
  obtain ⟨h0, hn⟩ := hb rfl
  have h1 : spaceL s.data.toList = [] := by rw [h0]; rfl
  rw [h1] at h
  rcases h with ⟨u, hu, -⟩ | ⟨-, he, h⟩
  ·cases hu
  ·have hbt : bad' = true := by
    rcases h with ⟨-, h, -⟩ | ⟨-, ⟨u, hu, -⟩ | ⟨-, h⟩⟩
    ·exact h
    ·cases hu
    ·exact h
   subst hbt
   exact .inl ⟨he, s', true, hs', .inr ⟨rfl, hbs rfl, hn⟩⟩
 | false =>
  have hR := hR rfl
  unfold Front1 at hR
  rcases h with ⟨u, hu, he, rfl, hus⟩ | ⟨hne, he, h⟩
  ·refine .inl ⟨he, s', false, hs', .inl ⟨rfl, ?_⟩⟩
   rw [hR, hu, hus]; simp
  ·rcases h with ⟨rfl, rfl, h⟩ | ⟨rfl, ⟨u, hu, rfl, h⟩ | ⟨h44, rfl⟩⟩
   ·refine .inr ⟨he, rfl, s', hs', ?_, ?_⟩
    ·rw [← hl, ← hl', h]; exact hsp
    ·rw [hR, h]
     cases hq : spaceL s.data.toList with
     | nil => exact hK.symm
     | cons d t =>
      rw [hq] at hne
      have hne : d ≠ c := hne
      simp only [if_neg hne]; rfl
   ·refine .inr ⟨he, rfl, s', hs', ?_, ?_⟩
    ·rw [hu, List.length_cons] at hsp
     rw [← hl, ← hl', h]; omega
    ·rw [hR, hu, h]
     rw [hu] at hne
     have hne : (44 : UInt8) ≠ c := hne
     simp only [if_neg hne]; rfl
   ·refine .inl ⟨he, s', true, hs', .inr ⟨rfl, hbs rfl, ?_⟩⟩
    rw [hR]
    cases hq : spaceL s.data.toList with
    | nil => rfl
    | cons d t =>
     rw [hq] at hne h44
     have hne : d ≠ c := hne
     have h44 : d ≠ 44 := h44
     simp only [if_neg hne, if_neg h44]; rfl
def LsInv (val : Bytes → Option (V × Bytes)) (R : Option (List V × Bytes)) (s : ByteArray) (bad : Bool) (l : List V) : Prop :=
 (bad = true → s.data.toList = []) ∧ ((bad = false ∧ listL val (s.size + 1) s.data.toList l = R) ∨ (bad = true ∧ R = none))
theorem ls_front {val : Bytes → Option (V × Bytes)} {R : Option (List V × Bytes)} {s : ByteArray} {l : List V} (h : LsInv val R s false l) :
  R = Front1 93 (decide (l = [])) (fun t => some (l, t)) (fun s1 => (val s1).bind fun p => listL val s.size p.2 (l ++ [p.1])) s.data.toList := by
 rcases h.2 with ⟨-, h⟩ | ⟨h, -⟩
 ·rw [← h, listL]
  unfold Front1
  cases spaceL s.data.toList with
  | nil => rfl
  | cons c t => simp only [decide_eq_true_eq]
 ·cases h
theorem valL_nil (f : Nat) : valL f [] = none := by cases f <;> rfl
theorem ls_next {f : Nat} {R : Option (List V × Bytes)} {n : Nat} {s3 s5 : ByteArray} {bad : Bool} {l : List V} {x : V} (hR : R = (valL f s3.data.toList).bind fun p => listL (valL f) n p.2 (l ++ [p.1])) (h3 : s3.size ≤ n)
  (h : (bad = false ∧ valL f s3.data.toList = some (x, s5.data.toList)) ∨ (bad = true ∧ s5.data.toList = [] ∧ valL f s3.data.toList = none)) : s5.size + (if bad = true then 0 else 1) < n + 1 ∧ LsInv (valL f) R s5 bad (l ++ [x]) := by
 have e3 : s3.data.toList.length = s3.size := Array.length_toList
 have e5 : s5.data.toList.length = s5.size := Array.length_toList
 rcases h with ⟨rfl, h⟩ | ⟨rfl, h0, h⟩
 ·have hl := valL_len _ _ _ h
  simp only at hl
  refine ⟨by simp; omega, (fun h => by cases h), .inl ⟨rfl, ?_⟩⟩
  rw [hR, h]
  exact listL_fuel (fun s p h => valL_len f s p h) _ _ _ _ (by omega) (by omega)
 ·rw [h0] at e5
  refine ⟨by simp at e5 ⊢; omega, fun _ => h0, .inr ⟨rfl, by rw [hR, h]; rfl⟩⟩
set_option maxRecDepth 100000 in
set_option maxHeartbeats 4000000 in
theorem list_any (f : Nat) (hv : ValC f) (r : Nat) (d : Int) (hd : d = 12 - (f : Int)) (hf : f ≤ 12) (s : ByteArray) (t : Bytes) (hs : s.data.toList = 91 :: t) (hsz : s.size ≤ 1048576) (w : World) (hr : Sr w r s false) (hl : LibB r w) :
  Calls Tryz.prog 99 #[.pointer (some ⟨r, 0, none⟩), .int .i64 d] w (ValR r ((listL (valL f) (t.length + 1) t []).map fun p => (.mk 4 0 ⟨#[]⟩ [] p.1, p.2)) w) := by
 have hlt := hr.lt
 obtain ⟨R, hR⟩ : ∃ R, listL (valL f) (t.length + 1) t [] = R := ⟨_, rfl⟩
 rw [hR]
 have Hs := Lib.hid hs
 have HR := Lib.hid hR
 have Hv := Lib.hid hv
 have Hl := Lib.hid hl
 have Hd := Lib.hid hd
 have hd1 : 0 ≤ d := by omega
 have hd2 : d ≤ 12 := by omega
 have hwr : IntKind.i64.wrap (d + 1) = d + 1 := by rw [IntKind.wrap_i64]; omega
 clear hs hR hv hl hd
 go_enter Tryz.func99, Tryz.ntmps99
 go_upto_region 2 with fail
 refine gen_world (R := fun wx => Box wx w.heap.size #[.int .i64 0, .int .i64 0, .string ⟨#[]⟩, .slice none 0 0, .slice none 0 0] 25 ∧ Box wx (w.heap.size + 1) #[.int .i64 4, .int .i64 0, .string ⟨#[]⟩, .slice none 0 0, .slice none 0 0] 25 ∧ Ext w wx) ⟨Bxt, Bxt, Xt⟩ ?_
 rintro wa ⟨hB0, hB1, hxa⟩
 have hra := hr.ext hxa
 clear hr
 go_wp2_with fail
 (refine (take_any r s false ⟨#[91]⟩ _ hra).mono ?_)
 rintro e w1 ⟨rfl, h1, (⟨hp, s1, hs1, hr1⟩ | ⟨hp, hr1⟩)⟩
 rotate_left
 ·rw [Hs.out] at hp; simp [List.isPrefixOf] at hp
 have hst : s1.data.toList = t := by rw [hs1, Hs.out]; rfl
 have hl1 : t.length = s1.size := by rw [← hst]; exact Array.length_toList
 have hl0 : s.size = t.length + 1 := by
  have : s.data.toList.length = s.size := Array.length_toList
  rw [Hs.out] at this
  exact this.symm
 have hli : LsInv (valL f) R s1 false [] := ⟨(fun h => by cases h), .inl ⟨rfl, by rw [hst, ← hl1, HR.out]⟩⟩
 have Hli := Lib.hid hli
 have hs1z : s1.size ≤ 1048576 := by omega
 have hB0 := Box.rd h1 hB0 (by omega)
 have hB1 := Box.rd h1 hB1 (by omega)
 have hx1 : Rd r w w1 := (Rd.of hlt hxa).trans h1
 have hz1 := hB1.lt
 clear hp hs1 hst hli hl0 hl1 hra hxa h1
 go_wp2_with fail
 go_loopg [] (s1.size + 1) (fun g wr => ∃ (s2 : ByteArray) (bad : Bool) (l : List V) (a0 : Option Addr) (c0 : Nat), Sr wr r s2 bad ∧ OwnL wr (w.heap.size + 2) None0 (.slice a0 l.length c0) l.length l ∧ Box wr w.heap.size #[.int .i64 0, .int .i64 0, .string ⟨#[]⟩, .slice none 0 0, .slice none 0 0] 25 ∧
  Box wr (w.heap.size + 1) #[.int .i64 4, .int .i64 0, .string ⟨#[]⟩, .slice none 0 0, .slice a0 l.length c0] 25 ∧ g = s2.size + (if bad = true then 0 else 1) ∧ l.length + (s2.size + (if bad = true then 0 else 1)) ≤ 1048577 ∧ Rd r w wr ∧ LsInv (valL f) R s2 bad l)
 case atStart => exact ⟨s1, false, [], none, 0, hr1, OwnL.nil _ _ _, hB0, hB1, rfl, by simp; omega, hx1, Hli.out⟩
 case round =>
  clear hr1 hx1 Hli hs1z hB0 hB1 hz1
  obtain ⟨s2, bad, l, a0, c0, hr2, hO, hB0, hB1, rfl, hlz, hx, hli⟩ := hrel
  have HO := Lib.hid hO
  have Hb := Lib.hid hli.1
  have Hbn := Lib.hid (show bad = true → s2.data.toList = [] ∧ R = none from fun h => ⟨hli.1 h, by rcases hli.2 with ⟨h', -⟩ | ⟨-, h'⟩; rw [h] at h'; cases h'; exact h'⟩)
  have Hkn := Lib.hid (show ((valL f []).bind fun p => listL (valL f) s2.size p.2 (l ++ [p.1])) = none by rw [valL_nil]; rfl)
  have Hli := Lib.hid hli
  have hlz1 : l.length + s2.size ≤ 1048577 := by omega
  have Hlz := Lib.hid hlz
  clear hlz
  have hlr := hr2.lt
  have hxz := hx.size
  have hl1z := hB1.lt
  clear hO hli
  have hc1 := hB1.cells; have hf1 := hB1.free; have hl1 := hB1.lt
  by_cases hl0 : l = []
  ·have hln : ((l.length : Int) == 0) = true := by rw [hl0]; rfl
   have Hfront := Lib.hid (show bad = false → R = Front1 93 true (fun t => some (l, t)) (fun s1 => (valL f s1).bind fun p => listL (valL f) s2.size p.2 (l ++ [p.1])) s2.data.toList from fun h => by subst h; have := ls_front Hli.out; rwa [show decide (l = []) = true by simpa using hl0] at this)
   clear hl0
   go_wp2_with fail
   (refine (more_any r s2 bad true 93 (by decide) Hb.out _ hr2).mono ?_)
   rintro e w3 hm
   obtain ⟨h3, hend⟩ := more_then hm (fun hb => by subst hb; exact Hfront.out rfl) Hbn.out Hkn.out (by decide)
   have Hend := Lib.hid hend
   have hB03 := Box.rd h3 hB0 (by omega)
   have hB13 := Box.rd h3 hB1 (by omega)
   have hx3 := hx.trans h3
   have HO3 := Lib.hid (OwnL.rd HO.out h3 (by omega))
   have hz3 := h3.size
   clear hm hend hB0 hB1 hr2 hx hc1 hf1 hl1 Hfront Hbn Hkn HO
   rcases Hend.out with ⟨rfl, s3, bad3, hr3, hfin⟩ | ⟨rfl, rfl, s3, hr3, hsz3, hR3⟩
   ·have Hfin := Lib.hid hfin
    clear hfin
    obtain ⟨a9, c9, he9, hok9, -, hrows9⟩ := HO3.out.rows
    simp only [Value.slice.injEq, true_and] at he9
    obtain ⟨rfl, rfl⟩ := he9
    have Hrows := Lib.hid hrows9
    have Hok := Lib.hid hok9
    clear hrows9 hok9
    have hc0 := hB03.cells; have hf0 := hB03.free; have hl0 := hB03.lt
    have hc1 := hB13.cells; have hf1 := hB13.free; have hl1 := hB13.lt
    go_wp2_with fail
    (with_reducible apply bp_ret); (focus (go_light; simp [results, Tryz.results99, go_sem, *]; rfl))
    refine ⟨Rxt, .mk 4 0 ⟨#[]⟩ [] l, none, 0, a0, c0, s3, bad3, rfl, (V.in_iff ..).2 ⟨SlOk.nil, Hok.out, .inl rfl, Hrows.out.keep (Held.kept (a := w3) (T := fun b => (b < w.heap.size + 2 ∧ None0 b) ∨ w.heap.size + 2 ≤ b) Hxt) (fun b hb _ => by rcases hb with hb | hb; exact hb.2.elim; omega)⟩, Srt, ?_⟩
    rcases Hfin.out with ⟨rfl, hq⟩ | ⟨rfl, h0, hq⟩
    ·exact .inl ⟨rfl, by rw [hq]; rfl⟩
    ·exact .inr ⟨rfl, h0, by rw [hq]; rfl⟩
   ·have HR3 := Lib.hid hR3
    clear hR3
    obtain ⟨hl0, xs, hown, hcells⟩ := HO3.out
    have Hl0 := Lib.hid hl0
    have Hcells := Lib.hid hcells
    have Hown := Lib.hid hown
    obtain ⟨j0, hj, hy0, hy1, hy2⟩ := info_parts Tryz.infoV
    have Hnb := Lib.hid (show ∀ b, b < w.heap.size + 2 → some b ≠ (Value.slice a0 l.length c0).ownBlock from fun b hb he => by have := (hown.lt b he.symm).1; omega)
    clear hl0 hcells hown
    have hlt3 := hr3.lt
    have hk63 : l.length + 1 ≤ maxLen := by unfold maxLen; omega
    have hsz5 : (l.length + 1) * 80 ≤ 140737488355328 := by omega
    have hc13 := hB13.cells; have hf13 := hB13.free; have hl13 := hB13.lt
    go_wp2_with fail
    go_region_law
     (first
      | ((refine step_append_lies _ (by rfl) _ _ _ (by rfl) (w.heap.size + 2) 25 j0 _ 5 80 Tryz.underlying23 hj hy0 hy1 hy2 rfl (by decide) (.slice a0 l.length c0) l.length xs (by rfl) (Hown5.out.alloc _) ⟨w5.heap.size, 0, none⟩ 1 1 [.int .i64 x.k, .int .i64 x.n, .string x.s, .slice ka5 x.keys.length kc5, .slice la5 x.l.length lc5] (by rfl) (by rfl) (World.news_of_block (cs := #[.int .i64 x.k, .int .i64 x.n, .string x.s, .slice ka5 x.keys.length kc5, .slice la5 x.l.length lc5]) (t := 25) (fr := (0, 0)) (heap_alloc_new w5 _)) (by simp [Value.oneCell']) (by omega) hk63 hsz5 (by simp; omega) _ rfl ?_; intro g4 cap4 w6 hown4 hgrow4 hat4 hlt4; have hB06 := Box.grown (Box.alloc hB05 _) hgrow4 (Hnb.out _ (by omega)); have hB16 := Box.grown (Box.alloc hB15 _) hgrow4 (Hnb.out _ (by omega)); have hr6 : Sr w6 r s5 bad5 := Box.grown (Box.alloc hr5 _) hgrow4 (Hnb.out _ (by omega)); have hcB := hB16.cells; have hfB := hB16.free; have hlB := hB16.lt; have Hg4 := Lib.hid hgrow4; have Hown6 := Lib.hid hown4; have Hat4 := Lib.hid hat4; clear hgrow4 hown4 hat4))
      | ((go_simp; go_at_call 42; refine (Hv.out r (d + 1) s3 false _ (by have := Hd.out; omega) (fun h => by cases h) (by have := Hlz.out; simp at this; omega) (hr3.ext Xt) (Hl.out.on (Rd.below (Rd.ext hx3 hlt Xt)))).mono ?_; rintro e w5 hval; obtain ⟨h5', x, ka5, kc5, la5, lc5, s5, bad5, rfl, hin5, hr5, hcase⟩ := hval; have h5 : Rd r w3 w5 := (Rd.of hlt3 Xt).trans h5'; have hB05 := Box.rd h5 hB03 (by omega); have hB15 := Box.rd h5 hB13 (by omega); have q15 : w5.cell? ⟨w.heap.size + 1, 4, none⟩ = some (.slice a0 l.length c0) := (by rw [hB15.cells]; rfl); have hlB5 : w.heap.size + 1 < w5.heap.size := hB15.lt; have hlB6 : w.heap.size < w5.heap.size := hB05.lt; have hz5 := h5.size; have Hown5 := Lib.hid (ownsRow_keep Hown.out (fun b hb he => h5.held.block b (by have := (Hown.out.lt b he).1; omega) hb)); have Hin5 := Lib.hid hin5; have Hcase := Lib.hid hcase; clear hin5 hcase; dsimp only)))
    all_goals
     have hx6 : Rd r w w6 := Rd.grown (b := w5.alloc _) (Rd.alloc (hx3.trans h5) hlt _) Hg4.out (fun g hg => by have := (Hown.out.lt g hg).1; omega) hlt
     have hp := rd_push (n := l.length) (W := w5.alloc _) rfl Hown.out Hcells.out h5 (by omega) Xt (Hin5.out.mono (fun b h _ => h)) (by omega) Hown6.out Hg4.out g4 rfl Hat4.out
     have Hp7 := Lib.hid (show ∀ v, OwnL (w6.setCell ⟨w.heap.size + 1, 4, none⟩ v) (w.heap.size + 2) None0 (.slice (some ⟨g4, 0, none⟩) (l ++ [x]).length cap4) (l ++ [x]).length (l ++ [x]) from fun v => by
      have h7 := OwnL.keep hp (w' := w6.setCell ⟨w.heap.size + 1, 4, none⟩ v) (fun b hb hk => by rcases hk with hk | hk; exact hk.2.elim; exact Below.heap_setCell _ _ _ _ (by simp; omega))
      rw [List.length_append, List.length_singleton]; exact h7)
     obtain ⟨hg5, hli5⟩ := ls_next HR3.out hsz3 Hcase.out
     have Hli5 := Lib.hid hli5
     have Hg5 := Lib.hid hg5
     have Hlen := Lib.hid (show (l ++ [x]).length + (s5.size + (if bad5 = true then 0 else 1)) ≤ 1048577 by
      have h1 := Hlz.out
      rw [List.length_append, List.length_singleton]
      simp only [Bool.false_eq_true, if_false] at h1
      omega)
     clear hp hli5 hg5
     go_wp2_with fail
     go_roundg (s5.size + (if bad5 = true then 0 else 1))
     case measure => have := Hg5.out; simpa using this
     case rel => exact ⟨s5, bad5, l ++ [x], some ⟨g4, 0, none⟩, cap4, Bxt, Hp7.out _, Bxt, (by rw [List.length_append, List.length_singleton]; exact Bxt), rfl, Hlen.out, Rxt, Hli5.out⟩
  ·have hlp : 0 < l.length := List.length_pos_iff.2 hl0
   have hln : ((l.length : Int) == 0) = false := by simp; omega
   have Hfront := Lib.hid (show bad = false → R = Front1 93 false (fun t => some (l, t)) (fun s1 => (valL f s1).bind fun p => listL (valL f) s2.size p.2 (l ++ [p.1])) s2.data.toList from fun h => by subst h; have := ls_front Hli.out; rwa [show decide (l = []) = false by simpa using hl0] at this)
   clear hl0
   go_wp2_with fail
   (refine (more_any r s2 bad false 93 (by decide) Hb.out _ hr2).mono ?_)
   rintro e w3 hm
   obtain ⟨h3, hend⟩ := more_then hm (fun hb => by subst hb; exact Hfront.out rfl) Hbn.out Hkn.out (by decide)
   have Hend := Lib.hid hend
   have hB03 := Box.rd h3 hB0 (by omega)
   have hB13 := Box.rd h3 hB1 (by omega)
   have hx3 := hx.trans h3
   have HO3 := Lib.hid (OwnL.rd HO.out h3 (by omega))
   have hz3 := h3.size
   clear hm hend hB0 hB1 hr2 hx hc1 hf1 hl1 Hfront Hbn Hkn HO
   rcases Hend.out with ⟨rfl, s3, bad3, hr3, hfin⟩ | ⟨rfl, rfl, s3, hr3, hsz3, hR3⟩
   ·have Hfin := Lib.hid hfin
    clear hfin
    obtain ⟨a9, c9, he9, hok9, -, hrows9⟩ := HO3.out.rows
    simp only [Value.slice.injEq, true_and] at he9
    obtain ⟨rfl, rfl⟩ := he9
    have Hrows := Lib.hid hrows9
    have Hok := Lib.hid hok9
    clear hrows9 hok9
    have hc0 := hB03.cells; have hf0 := hB03.free; have hl0 := hB03.lt
    have hc1 := hB13.cells; have hf1 := hB13.free; have hl1 := hB13.lt
    go_wp2_with fail
    (with_reducible apply bp_ret); (focus (go_light; simp [results, Tryz.results99, go_sem, *]; rfl))
    refine ⟨Rxt, .mk 4 0 ⟨#[]⟩ [] l, none, 0, a0, c0, s3, bad3, rfl, (V.in_iff ..).2 ⟨SlOk.nil, Hok.out, .inl rfl, Hrows.out.keep (Held.kept (a := w3) (T := fun b => (b < w.heap.size + 2 ∧ None0 b) ∨ w.heap.size + 2 ≤ b) Hxt) (fun b hb _ => by rcases hb with hb | hb; exact hb.2.elim; omega)⟩, Srt, ?_⟩
    rcases Hfin.out with ⟨rfl, hq⟩ | ⟨rfl, h0, hq⟩
    ·exact .inl ⟨rfl, by rw [hq]; rfl⟩
    ·exact .inr ⟨rfl, h0, by rw [hq]; rfl⟩
   ·have HR3 := Lib.hid hR3
    clear hR3
    obtain ⟨hl0, xs, hown, hcells⟩ := HO3.out
    have Hl0 := Lib.hid hl0
    have Hcells := Lib.hid hcells
    have Hown := Lib.hid hown
    obtain ⟨j0, hj, hy0, hy1, hy2⟩ := info_parts Tryz.infoV
    have Hnb := Lib.hid (show ∀ b, b < w.heap.size + 2 → some b ≠ (Value.slice a0 l.length c0).ownBlock from fun b hb he => by have := (hown.lt b he.symm).1; omega)
    clear hl0 hcells hown
    have hlt3 := hr3.lt
    have hk63 : l.length + 1 ≤ maxLen := by unfold maxLen; omega
    have hsz5 : (l.length + 1) * 80 ≤ 140737488355328 := by omega
    have hc13 := hB13.cells; have hf13 := hB13.free; have hl13 := hB13.lt
    go_wp2_with fail
    go_region_law
     (first
      | ((refine step_append_lies _ (by rfl) _ _ _ (by rfl) (w.heap.size + 2) 25 j0 _ 5 80 Tryz.underlying23 hj hy0 hy1 hy2 rfl (by decide) (.slice a0 l.length c0) l.length xs (by rfl) (Hown5.out.alloc _) ⟨w5.heap.size, 0, none⟩ 1 1 [.int .i64 x.k, .int .i64 x.n, .string x.s, .slice ka5 x.keys.length kc5, .slice la5 x.l.length lc5] (by rfl) (by rfl) (World.news_of_block (cs := #[.int .i64 x.k, .int .i64 x.n, .string x.s, .slice ka5 x.keys.length kc5, .slice la5 x.l.length lc5]) (t := 25) (fr := (0, 0)) (heap_alloc_new w5 _)) (by simp [Value.oneCell']) (by omega) hk63 hsz5 (by simp; omega) _ rfl ?_; intro g4 cap4 w6 hown4 hgrow4 hat4 hlt4; have hB06 := Box.grown (Box.alloc hB05 _) hgrow4 (Hnb.out _ (by omega)); have hB16 := Box.grown (Box.alloc hB15 _) hgrow4 (Hnb.out _ (by omega)); have hr6 : Sr w6 r s5 bad5 := Box.grown (Box.alloc hr5 _) hgrow4 (Hnb.out _ (by omega)); have hcB := hB16.cells; have hfB := hB16.free; have hlB := hB16.lt; have Hg4 := Lib.hid hgrow4; have Hown6 := Lib.hid hown4; have Hat4 := Lib.hid hat4; clear hgrow4 hown4 hat4))
      | ((go_simp; go_at_call 42; refine (Hv.out r (d + 1) s3 false _ (by have := Hd.out; omega) (fun h => by cases h) (by have := Hlz.out; simp at this; omega) (hr3.ext Xt) (Hl.out.on (Rd.below (Rd.ext hx3 hlt Xt)))).mono ?_; rintro e w5 hval; obtain ⟨h5', x, ka5, kc5, la5, lc5, s5, bad5, rfl, hin5, hr5, hcase⟩ := hval; have h5 : Rd r w3 w5 := (Rd.of hlt3 Xt).trans h5'; have hB05 := Box.rd h5 hB03 (by omega); have hB15 := Box.rd h5 hB13 (by omega); have q15 : w5.cell? ⟨w.heap.size + 1, 4, none⟩ = some (.slice a0 l.length c0) := (by rw [hB15.cells]; rfl); have hlB5 : w.heap.size + 1 < w5.heap.size := hB15.lt; have hlB6 : w.heap.size < w5.heap.size := hB05.lt; have hz5 := h5.size; have Hown5 := Lib.hid (ownsRow_keep Hown.out (fun b hb he => h5.held.block b (by have := (Hown.out.lt b he).1; omega) hb)); have Hin5 := Lib.hid hin5; have Hcase := Lib.hid hcase; clear hin5 hcase; dsimp only)))
    all_goals
     have hx6 : Rd r w w6 := Rd.grown (b := w5.alloc _) (Rd.alloc (hx3.trans h5) hlt _) Hg4.out (fun g hg => by have := (Hown.out.lt g hg).1; omega) hlt
     have hp := rd_push (n := l.length) (W := w5.alloc _) rfl Hown.out Hcells.out h5 (by omega) Xt (Hin5.out.mono (fun b h _ => h)) (by omega) Hown6.out Hg4.out g4 rfl Hat4.out
     have Hp7 := Lib.hid (show ∀ v, OwnL (w6.setCell ⟨w.heap.size + 1, 4, none⟩ v) (w.heap.size + 2) None0 (.slice (some ⟨g4, 0, none⟩) (l ++ [x]).length cap4) (l ++ [x]).length (l ++ [x]) from fun v => by
      have h7 := OwnL.keep hp (w' := w6.setCell ⟨w.heap.size + 1, 4, none⟩ v) (fun b hb hk => by rcases hk with hk | hk; exact hk.2.elim; exact Below.heap_setCell _ _ _ _ (by simp; omega))
      rw [List.length_append, List.length_singleton]; exact h7)
     obtain ⟨hg5, hli5⟩ := ls_next HR3.out hsz3 Hcase.out
     have Hli5 := Lib.hid hli5
     have Hg5 := Lib.hid hg5
     have Hlen := Lib.hid (show (l ++ [x]).length + (s5.size + (if bad5 = true then 0 else 1)) ≤ 1048577 by
      have h1 := Hlz.out
      rw [List.length_append, List.length_singleton]
      simp only [Bool.false_eq_true, if_false] at h1
      omega)
     clear hp hli5 hg5
     go_wp2_with fail
     go_roundg (s5.size + (if bad5 = true then 0 else 1))
     case measure => have := Hg5.out; simpa using this
     case rel => exact ⟨s5, bad5, l ++ [x], some ⟨g4, 0, none⟩, cap4, Bxt, Hp7.out _, Bxt, (by rw [List.length_append, List.length_singleton]; exact Bxt), rfl, Hlen.out, Rxt, Hli5.out⟩
end Go.Proofs.YtjibdbnpkfghhaaGreatDoor
