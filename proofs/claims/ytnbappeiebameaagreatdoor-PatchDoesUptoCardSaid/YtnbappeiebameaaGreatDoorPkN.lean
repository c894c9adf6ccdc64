/- Several texts in one. -/
import Derived.Test.YtnbappeiebameaaGreatDoorKidR
import Derived.Test.YtnbappeiebameaaGreatDoorAdd
import Derived.Test.YtnbappeiebameaaGreatDoorOwnP
import Derived.Test.YtnbappeiebameaaGreatDoorPkG
import Derived.Test.YtnbappeiebameaaGreatDoorSwapR
import Derived.Test.YtnbappeiebameaaGreatDoorWoutR
import Derived.Deep.RegionHeld3
import Derived.Test.YtnbappeiebameaaGreatDoorGetR
set_option linter.all false
/- Plain laws of the reference's alter: what is done at one name. No program in sight. -/
namespace Go.Proofs.YtnbappeiebameaaGreatDoor

/-- What kind of change a number means. -/
def kdF (kd : Int) (y : V) : Doer := if kd = 1 then addF y else if kd = 3 then putF y else remF
theorem place_le (name : ByteArray) (n : Nat) : placeI name n ≤ n := by
  unfold placeI
  split
  · split <;> omega
  · omega
theorem addF4 {x y : V} (h4 : x.k = 4) (a : ByteArray) : addF y x a = if placeI a x.l.length < 0 then (x, 3) else (x.insL (placeI a x.l.length).toNat y, 0) := by
  unfold addF placeI
  rw [if_neg (by omega), if_pos h4]
  cases idxV a x.l.length with
  | none => simp
  | some i =>
    simp only
    by_cases h : i ≤ x.l.length
    · rw [if_pos h, if_pos h, if_neg (by omega)]; simp
    · rw [if_neg h, if_neg h, if_pos (by omega)]
theorem nil_bytes {s : ByteArray} (h : s.toList = []) : s = ⟨#[]⟩ := by
  apply bytes_ext; rw [h, ByteArray.toList_eq]
theorem insL_list {x : V} (hs : x.sound) (h4 : x.k = 4) (i : Nat) (y : V) : x.insL i y = .mk 4 0 ⟨#[]⟩ [] (x.l.take i ++ y :: x.l.drop i) := by
  unfold V.insL
  rw [h4, hs.flat.n0 (by omega) (by omega), nil_bytes (hs.flat.s0 (by omega)), hs.flat.ks0 (by omega)]
theorem delL_list {x : V} (hs : x.sound) (h4 : x.k = 4) (i : Nat) : x.delL i = .mk 4 0 ⟨#[]⟩ [] (x.l.take i ++ x.l.drop (i + 1)) := by
  unfold V.delL
  rw [h4, hs.flat.n0 (by omega) (by omega), nil_bytes (hs.flat.s0 (by omega)), hs.flat.ks0 (by omega)]
theorem child_k {x : V} {a : ByteArray} {i : Nat} (h : x.child a = some i) (h5 : x.k ≠ 5) : x.k = 4 := by
  unfold V.child at h
  rw [if_neg h5] at h
  split at h
  · assumption
  · cases h
theorem putF_none {x y : V} {a : ByteArray} (h : x.child a = none) : putF y x a = (x, 3) := by unfold putF; rw [h]
theorem putF_some {x y : V} {a : ByteArray} {i : Nat} (h : x.child a = some i) : putF y x a = (x.setL i y, 0) := by unfold putF; rw [h]
theorem remF_none {x : V} {a : ByteArray} (h : x.child a = none) : remF x a = (x, 3) := by unfold remF; rw [h]
theorem remF_5 {x : V} {a : ByteArray} {i : Nat} (h : x.child a = some i) (h5 : x.k = 5) : remF x a = (x.del a, 0) := by unfold remF; rw [h]; simp only; rw [if_pos h5]
theorem remF_4 {x : V} {a : ByteArray} {i : Nat} (h : x.child a = some i) (h5 : x.k ≠ 5) : remF x a = (x.delL i, 0) := by unfold remF; rw [h]; simp only; rw [if_neg h5]
theorem addF_5 {x y : V} {a : ByteArray} (h5 : x.k = 5) : addF y x a = (x.put a y, 0) := by unfold addF; rw [if_pos h5]
theorem addF_no {x y : V} {a : ByteArray} (h5 : x.k ≠ 5) (h4 : x.k ≠ 4) : addF y x a = (x, 3) := by unfold addF; rw [if_neg h5, if_neg h4]
end Go.Proofs.YtnbappeiebameaaGreatDoor

/- Appends of whatever slice to a row of the call's own. -/
namespace Go.Proofs.YtnbappeiebameaaGreatDoor
open Go.RowKit
attribute [local go_sem ↓] Go.wp_at_zero Go.wp_at_succ

/-- append of whatever slice to a row of the call's own. -/
theorem wp_append_any {P : Program} {w : World} {o : Oper} {a : Act} {K : Act → World → Prop} {Q : Exit → Act → World → Prop} (s x : Operand) (t : TypeId)
    (ho : o.op = .call { callee := .builtin .append, args := #[s, x], argTypes := #[t, t] })
    (base : Nat) (e : TypeId) (i : TypeInfo) (z : Value) (size bytes : Nat) (ht : P.underlying t = some (.slice e)) (hi : P.info? e = some i) (hz : i.zero = some z)
    (hsize : i.size = size) (hby : i.bytes = bytes) (hzs : z.cells.size = size) (hsz : 0 < size)
    (v : Value) (n : Nat) (xs : List Value) (hs : a.eval s = v) (hown : w.ownsRow base e size v n xs) (ad : Option Addr) (m c : Nat) (news : List Value) (hx : a.eval x = .slice ad m c) (hok : SlOk ad m c) (hl : news.length = m * size)
    (hsrc : m = 0 ∨ ∃ b, ad = some b ∧ ∀ j u, news[j]? = some u → w.cell? (b.add j) = some u) (h1 : ∀ u ∈ news, u.oneCell' = true) (h63 : n + m ≤ maxLen) (hbytes : (n + m) * bytes ≤ 140737488355328) (hbase : base ≤ w.heap.size)
    (h : ∀ a' c' w', w'.ownsRow base e size (.slice a' (n + m) c') (n + m) (xs ++ news) → SlOk a' (n + m) c' → w.grownBy w' v.ownBlock → K (a.put o.dst (.slice a' (n + m) c')) w') : o.wp P a w K Q := by
  have key : ∃ v' w', (Builtin.append_ #[t, t] o.type #[v, .slice ad m c]).run P w = .ok v' w' ∧ w'.ownsRow base e size v' (n + m) (xs ++ news) ∧ w.grownBy w' v.ownBlock := by
    cases ad with
    | none =>
      have hc := hok.2.2 rfl
      have hm : m = 0 := by have := hok.1; omega
      subst hc hm
      have hx : news = [] := List.eq_nil_of_length_eq_zero (by simpa using hl)
      subst hx
      exact ⟨_, w, run_append_owned_none (P := P) (w := w) base t o.type e i size ht hi v n xs hown, by simpa using hown, ⟨rfl, rfl, rfl, Nat.le_refl _, fun _ _ _ => rfl⟩⟩
    | some b =>
      obtain ⟨v', w', hr, h2, h3, -⟩ := run_append_own (P := P) (w := w) base t o.type e i z size bytes ht hi hz hsize hby hzs hsz v n xs hown b m c news hl (by
        rcases hsrc with h0 | ⟨ad', he, h⟩
        · subst h0
          have hx : news = [] := List.eq_nil_of_length_eq_zero (by simpa using hl)
          subst hx
          intro j u hj; simp at hj
        · simp only [Option.some.injEq] at he; subst he; exact h) h1 h63 hbytes hbase
      exact ⟨v', w', hr, h2, h3⟩
  obtain ⟨v', w', hr, h2, h3⟩ := key
  unfold Oper.wp execOp
  simp only [ho, resolve, invoke, builtin, Sem.run_bind, Sem.run_pure, Result.andThen_ok, List.map_toArray, List.map_cons, List.map_nil, hs, hx, hr]
  obtain ⟨a', c', rfl, hok'⟩ := owns_form h2
  exact h a' c' w' h2 hok' h3
/-- Items of a slice, put behind a row of the call's own. -/
theorem app_row {wr W : World} {o : Oper} {a : Act} {K : Act → World → Prop} {Q : Exit → Act → World → Prop} {base n m : Nat} {S : Nat → Prop} {vl : Value} {l l2 : List V} {news : List Value} {s t : Operand}
    (ho : o.op = .call { callee := .builtin .append, args := #[s, t], argTypes := #[23, 23] }) (hs : a.eval s = vl) (ad : Option Addr) (c : Nat) (hx : a.eval t = .slice ad m c) (hok : SlOk ad m c)
    (hI : OwnI wr base S vl n l) (e : Ext wr W) (hm : l2.length = m) (hc : CellsOf wr (fun b => b < base ∧ S b) l2 news) (hsrc : m = 0 ∨ ∃ b, ad = some b ∧ ∀ j u, news[j]? = some u → W.cell? (b.add j) = some u) (hd : Held (fun b => b < base) wr W) (q : Nat) (hq : n + m = q) (hn : q ≤ 1073741824) (hbase : base ≤ wr.heap.size)
    (h : ∀ a' c' w', OwnI w' base S (.slice a' q c') q (l ++ l2) → SlOk a' q c' → Held (fun b => b < base) wr w' → (∀ w0 : World, Ext w0 wr → w0.heap.size ≤ base → Ext w0 w') → K (a.put o.dst (.slice a' q c')) w') : o.wp Tryz.prog a W K Q := by
  subst hq
  obtain ⟨j0, hj, hy0, hy1, hy2⟩ := info_parts Tryz.infoV
  obtain ⟨hl0, xs, hI1, hI2⟩ := hI
  have hlt : ∀ g, vl.ownBlock = some g → base ≤ g := fun g hg => (hI1.lt g hg).1
  refine wp_append_any s t _ ho base 25 j0 _ 5 80 Tryz.underlying23 hj hy0 hy1 hy2 rfl (by decide) vl n xs hs (ownsRow_ext hI1 e) ad m c news hx hok (by rw [hc.len, hm]) hsrc hc.one (by unfold maxLen; omega) (by omega) (Nat.le_trans hbase e.size) ?_
  intro a' c' w' hown hok' hgrow
  have hh : Held (fun b => b < base) wr w' := Held.grown hd hgrow (fun g hg hT => by have := hlt g hg; omega)
  have hk : Kept (fun b => b < base ∧ S b) wr w' := Held.kept (hh.mono fun b h => h.1)
  exact h a' c' w' ⟨by rw [List.length_append]; omega, xs ++ news, hown, (hI2.keep hk (fun _ h _ => h)).app (hc.keep hk (fun _ h _ => h))⟩ hok' hh (fun w0 e0 h0 => Ext.grown (e0.trans e) hgrow (fun g hg => by have := hlt g hg; omega))
/-- A row is as it was where another cell is stored into. -/
theorem OwnI.store {w : World} {base n : Nat} {S : Nat → Prop} {v : Value} {l : List V} (h : OwnI w base S v n l) {bo j : Nat} (hb : bo < base) (hS : ¬ S bo) (u : Value) : OwnI (w.setCell ⟨bo, j, none⟩ u) base S v n l :=
  have hy : Held (fun b => b ≠ bo) w (w.setCell ⟨bo, j, none⟩ u) := (Held.refl _ _).set (by simp) _
  h.keep fun b hlt he => hy.block b (by
    rcases he with he | he
    · intro e; exact hS (e ▸ he.2)
    · have := (h.lt b he).1
      show b ≠ bo
      omega) hlt
/-- A slice from a place on. -/
theorem row_drop {w : World} {la : Option Addr} {lc n p : Nat} {xs : List Value} (hok : SlOk la n lc) (hp : p ≤ n) (hsrc : n = 0 ∨ ∃ ad, la = some ad ∧ ∀ j u, xs[j]? = some u → w.cell? (ad.add j) = some u) :
    SlOk (if lc = p then la else Option.map (fun x => x.add (p * 5)) la) (n - p) (lc - p) ∧ (n - p = 0 ∨ ∃ b, (if lc = p then la else Option.map (fun x => x.add (p * 5)) la) = some b ∧ ∀ j u, (xs.drop (p * 5))[j]? = some u → w.cell? (b.add j) = some u) := by
  obtain ⟨h1, h2, h3⟩ := hok
  by_cases hc : lc = p
  · rw [if_pos hc]
    exact ⟨⟨by omega, by omega, fun _ => by omega⟩, .inl (by omega)⟩
  · rw [if_neg hc]
    refine ⟨⟨by omega, by omega, fun h => ?_⟩, ?_⟩
    · have := h3 (by simpa using h); omega
    · rcases hsrc with h0 | ⟨ad, rfl, h⟩
      · exact .inl (by omega)
      · refine .inr ⟨ad.add (p * 5), rfl, fun j u hj => ?_⟩
        rw [List.getElem?_drop] at hj
        have := h _ _ hj
        rw [Addr.add_add]; exact this
theorem wpl_val {wr w4 W : World} {ops : Array Oper} {rest : List Oper} {o : Oper} {a : Act} {Q : Exit → Act → World → Prop} {base n : Nat} {S : Nat → Prop} {vl : Value} {l : List V} {x : V} {ka : Option Addr} {kc : Nat} {la : Option Addr} {lc : Nat} (hgd : o.guard = none) (B : Nat) {s t : Operand}
    (ho : o.op = .call { callee := .builtin .append, args := #[s, t], argTypes := #[23, 23] }) (hs : a.eval s = vl) (hx : a.eval t = .slice (some ⟨B, 0, none⟩) 1 1)
    (hI : OwnI w4 base S vl n l) (hv : x.In wr (fun b => b < base ∧ S b) ka kc la lc) (e : Ext w4 W) (hd : Held (fun b => b < base) wr W) (hB : Box W B #[.int .i64 x.k, .int .i64 x.n, .string x.s, .slice ka x.keys.length kc, .slice la x.l.length lc] 25) (hn : n ≤ 10737418240) (hbase : base ≤ wr.heap.size)
    (h : ∀ g cap w', OwnI w' base S (.slice (some ⟨g, 0, none⟩) (n + 1) cap) (n + 1) (l ++ [x]) → Held (fun b => b < base) wr w' → (∀ w0 : World, Ext w0 w4 → w0.heap.size ≤ base → Ext w0 w') → wpList Tryz.prog ops Q rest (a.put o.dst (.slice (some ⟨g, 0, none⟩) (n + 1) cap)) w') : wpList Tryz.prog ops Q (o :: rest) a W :=
  wpList_plain hgd fun _ hK => app_val B ho hs hx (OwnS.nil w4 base) hI hv e hd hB hn hbase fun g cap w' _ h2 h3 h4 => hK _ _ (h g cap w' h2 h3 h4)
end Go.Proofs.YtnbappeiebameaaGreatDoor

/- The walk of the reference's alter, at one name: errors, a member put or taken, an item put in another's place. -/
namespace Go.Proofs.YtnbappeiebameaaGreatDoor
open Go.RowKit
attribute [local go_sem ↓] Go.wp_at_zero Go.wp_at_succ

section
variable (S : Nat → Prop) (w0 : World) (kn : Int) (name : ByteArray) (x : V) (ka : Option Addr) (kc : Nat) (la : Option Addr) (lc : Nat) (y : V) (kb : Option Addr) (kd : Nat) (lb : Option Addr) (ld : Nat) (b o n c : Nat) (w : World)

set_option maxRecDepth 100000 in
set_option maxHeartbeats 4000000 in
theorem alt_miss (hS : Hid (∀ b, S b → b < w0.heap.size)) (hso : x.sound) (hsz : x.size ≤ 1073741824) (hw : Ext w0 w) (hin : x.In w S ka kc la lc) (hjn : y.In w S kb kd lb ld) (hk : w.cell? ⟨b, o, none⟩ = some (.string name))
    (hn2 : 2 ≤ n) (hnb : n ≤ 1073741824) (hch : x.child name = none) :
    Calls Tryz.prog 79 #[.int .i64 kn, x.val ka kc la lc, .slice (some ⟨b, o, none⟩) n c, y.val kb kd lb ld] w (RetV2 S x (.int .i64 3) w) := by
  have Hc := Lib.hid (childI_none hch)
  have hnl : (1 : Int) < (n : Int) := by omega
  have hn0 : 0 < n := by omega
  clear hch
  have hbl := cell_lt hk
  have Hin := Lib.hid hin
  have Hjn := Lib.hid hjn
  have hSl : Hid (∀ b, S b → b < w.heap.size) := fun b h => Nat.lt_of_lt_of_le (hS.out b h) hw.size
  clear hin hjn hw
  go_enter Tryz.func79, Tryz.ntmps79
  go_upto_region 1 with fail
  refine gen_world (R := fun wx => Box wx w.heap.size #[.int .i64 x.k, .int .i64 x.n, .string x.s, .slice ka x.keys.length kc, .slice la x.l.length lc] 25 ∧ Box wx (w.heap.size + 1) #[.int .i64 y.k, .int .i64 y.n, .string y.s, .slice kb y.keys.length kd, .slice lb y.l.length ld] 25 ∧ Box wx (w.heap.size + 2) #[.int .i64 0, .int .i64 0, .string ⟨#[]⟩, .slice none 0 0, .slice none 0 0] 25 ∧ Ext w wx) ⟨Bxt, Bxt, Bxt, Xt⟩ ?_
  rintro wa ⟨hB0, hBy, hB1, hxa⟩
  have hka := hxa.cell hk
  clear hk
  have Sof : ∀ w', Ext wa w' → (w'.cell? ⟨w.heap.size, 0, none⟩ = some (.int .i64 x.k) ∧ w'.cell? ⟨w.heap.size, 1, none⟩ = some (.int .i64 x.n) ∧ w'.cell? ⟨w.heap.size, 2, none⟩ = some (.string x.s) ∧ w'.cell? ⟨w.heap.size, 3, none⟩ = some (.slice ka x.keys.length kc) ∧ w'.cell? ⟨w.heap.size, 4, none⟩ = some (.slice la x.l.length lc) ∧ w'.cell? ⟨b, o, none⟩ = some (.string name)) :=
    fun w' e => ⟨e.cell (hB0.cells 0), e.cell (hB0.cells 1), e.cell (hB0.cells 2), e.cell (hB0.cells 3), e.cell (hB0.cells 4), e.cell hka⟩
  go_region_held3 (fun w' => w'.cell? ⟨w.heap.size, 0, none⟩ = some (.int .i64 x.k) ∧ w'.cell? ⟨w.heap.size, 1, none⟩ = some (.int .i64 x.n) ∧ w'.cell? ⟨w.heap.size, 2, none⟩ = some (.string x.s) ∧ w'.cell? ⟨w.heap.size, 3, none⟩ = some (.slice ka x.keys.length kc) ∧ w'.cell? ⟨w.heap.size, 4, none⟩ = some (.slice la x.l.length lc) ∧ w'.cell? ⟨b, o, none⟩ = some (.string name))
    (first | (exact Sof _ ((Ext.refl _).drew)) | (exact Sof _ (Ext.trans ((Ext.refl _).drew) h1)))
    (first | (go_at_call 73; refine (kid_any x ka kc la lc S name _ (fun _ => hso.flat.rise) (by omega) (Hin.out.ext Xt)).mono ?_; rw [Hc.out]; rintro e w1 ⟨rfl, h1⟩))
  have hB0 := Box.ext h1 (Box.drew hB0)
  have hBy := Box.ext h1 (Box.drew hBy)
  have hB1 := Box.ext h1 (Box.drew hB1)
  have hkb := (Ext.trans ((Ext.refl wa).drew) h1).cell hka
  have hx1 : Ext w w1 := Xt
  clear h1 hxa Sof hka
  have hc0 := hB0.cells; have hf0 := hB0.free; have hl0 := hB0.lt
  have hc1 := hB1.cells; have hf1 := hB1.free; have hl1 := hB1.lt
  go_wp2_with fail
  (with_reducible apply bp_ret); (focus (go_light; simp [results, Tryz.results79, go_sem, *]; rfl))
  exact ⟨ka, kc, la, lc, rfl, (Hin.out.ext Xt).mono (fun b h _ => .inl h), Xt⟩
set_option maxRecDepth 100000 in
set_option maxHeartbeats 4000000 in
theorem alt_none1 (hS : Hid (∀ b, S b → b < w0.heap.size)) (hso : x.sound) (hsz : x.size ≤ 1073741824) (hw : Ext w0 w) (hin : x.In w S ka kc la lc) (hjn : y.In w S kb kd lb ld) (hk : w.cell? ⟨b, o, none⟩ = some (.string name)) (hk1 : kn = 1) (h5 : x.k ≠ 5) (h4 : x.k ≠ 4) (ci : Int) (Hc : Hid (childI x name = ci)) :
    Calls Tryz.prog 79 #[.int .i64 kn, x.val ka kc la lc, .slice (some ⟨b, o, none⟩) 1 c, y.val kb kd lb ld] w (RetV2 S x (.int .i64 3) w) := by
  have hkb1 : (kn == 1) = true := by simpa using hk1
  have h5b : (x.k == 5) = false := by simpa using h5
  have h4b : (x.k == 4) = false := by simpa using h4
  clear hk1 h5 h4
  have hbl := cell_lt hk
  have Hin := Lib.hid hin
  have Hjn := Lib.hid hjn
  have hSl : Hid (∀ b, S b → b < w.heap.size) := fun b h => Nat.lt_of_lt_of_le (hS.out b h) hw.size
  clear hin hjn hw
  go_enter Tryz.func79, Tryz.ntmps79
  go_upto_region 1 with fail
  refine gen_world (R := fun wx => Box wx w.heap.size #[.int .i64 x.k, .int .i64 x.n, .string x.s, .slice ka x.keys.length kc, .slice la x.l.length lc] 25 ∧ Box wx (w.heap.size + 1) #[.int .i64 y.k, .int .i64 y.n, .string y.s, .slice kb y.keys.length kd, .slice lb y.l.length ld] 25 ∧ Box wx (w.heap.size + 2) #[.int .i64 0, .int .i64 0, .string ⟨#[]⟩, .slice none 0 0, .slice none 0 0] 25 ∧ Ext w wx) ⟨Bxt, Bxt, Bxt, Xt⟩ ?_
  rintro wa ⟨hB0, hBy, hB1, hxa⟩
  have hka := hxa.cell hk
  clear hk
  have Sof : ∀ w', Ext wa w' → (w'.cell? ⟨w.heap.size, 0, none⟩ = some (.int .i64 x.k) ∧ w'.cell? ⟨w.heap.size, 1, none⟩ = some (.int .i64 x.n) ∧ w'.cell? ⟨w.heap.size, 2, none⟩ = some (.string x.s) ∧ w'.cell? ⟨w.heap.size, 3, none⟩ = some (.slice ka x.keys.length kc) ∧ w'.cell? ⟨w.heap.size, 4, none⟩ = some (.slice la x.l.length lc) ∧ w'.cell? ⟨b, o, none⟩ = some (.string name)) :=
    fun w' e => ⟨e.cell (hB0.cells 0), e.cell (hB0.cells 1), e.cell (hB0.cells 2), e.cell (hB0.cells 3), e.cell (hB0.cells 4), e.cell hka⟩
  go_region_held3 (fun w' => w'.cell? ⟨w.heap.size, 0, none⟩ = some (.int .i64 x.k) ∧ w'.cell? ⟨w.heap.size, 1, none⟩ = some (.int .i64 x.n) ∧ w'.cell? ⟨w.heap.size, 2, none⟩ = some (.string x.s) ∧ w'.cell? ⟨w.heap.size, 3, none⟩ = some (.slice ka x.keys.length kc) ∧ w'.cell? ⟨w.heap.size, 4, none⟩ = some (.slice la x.l.length lc) ∧ w'.cell? ⟨b, o, none⟩ = some (.string name))
    (first | (exact Sof _ ((Ext.refl _).drew)) | (exact Sof _ (Ext.trans ((Ext.refl _).drew) h1)))
    (first | (go_at_call 73; refine (kid_any x ka kc la lc S name _ (fun _ => hso.flat.rise) (by omega) (Hin.out.ext Xt)).mono ?_; rw [Hc.out]; rintro e w1 ⟨rfl, h1⟩))
  have hB0 := Box.ext h1 (Box.drew hB0)
  have hBy := Box.ext h1 (Box.drew hBy)
  have hB1 := Box.ext h1 (Box.drew hB1)
  have hkb := (Ext.trans ((Ext.refl wa).drew) h1).cell hka
  have hx1 : Ext w w1 := Xt
  clear h1 hxa Sof hka
  have hc0 := hB0.cells; have hf0 := hB0.free; have hl0 := hB0.lt
  have hc1 := hB1.cells; have hf1 := hB1.free; have hl1 := hB1.lt
  go_wp2_with fail
  (with_reducible apply bp_ret); (focus (go_light; simp [results, Tryz.results79, go_sem, *]; rfl))
  exact ⟨ka, kc, la, lc, rfl, (Hin.out.ext Xt).mono (fun b h _ => .inl h), Xt⟩
set_option maxRecDepth 100000 in
set_option maxHeartbeats 4000000 in
theorem alt_none2 (hS : Hid (∀ b, S b → b < w0.heap.size)) (hso : x.sound) (hsz : x.size ≤ 1073741824) (hw : Ext w0 w) (hin : x.In w S ka kc la lc) (hjn : y.In w S kb kd lb ld) (hk : w.cell? ⟨b, o, none⟩ = some (.string name)) (hk1 : kn ≠ 1) (Hc : Hid (childI x name = -1)) :
    Calls Tryz.prog 79 #[.int .i64 kn, x.val ka kc la lc, .slice (some ⟨b, o, none⟩) 1 c, y.val kb kd lb ld] w (RetV2 S x (.int .i64 3) w) := by
  have hkb1 : (kn == 1) = false := by simpa using hk1
  clear hk1
  have hbl := cell_lt hk
  have Hin := Lib.hid hin
  have Hjn := Lib.hid hjn
  have hSl : Hid (∀ b, S b → b < w.heap.size) := fun b h => Nat.lt_of_lt_of_le (hS.out b h) hw.size
  clear hin hjn hw
  go_enter Tryz.func79, Tryz.ntmps79
  go_upto_region 1 with fail
  refine gen_world (R := fun wx => Box wx w.heap.size #[.int .i64 x.k, .int .i64 x.n, .string x.s, .slice ka x.keys.length kc, .slice la x.l.length lc] 25 ∧ Box wx (w.heap.size + 1) #[.int .i64 y.k, .int .i64 y.n, .string y.s, .slice kb y.keys.length kd, .slice lb y.l.length ld] 25 ∧ Box wx (w.heap.size + 2) #[.int .i64 0, .int .i64 0, .string ⟨#[]⟩, .slice none 0 0, .slice none 0 0] 25 ∧ Ext w wx) ⟨Bxt, Bxt, Bxt, Xt⟩ ?_
  rintro wa ⟨hB0, hBy, hB1, hxa⟩
  have hka := hxa.cell hk
  clear hk
  have Sof : ∀ w', Ext wa w' → (w'.cell? ⟨w.heap.size, 0, none⟩ = some (.int .i64 x.k) ∧ w'.cell? ⟨w.heap.size, 1, none⟩ = some (.int .i64 x.n) ∧ w'.cell? ⟨w.heap.size, 2, none⟩ = some (.string x.s) ∧ w'.cell? ⟨w.heap.size, 3, none⟩ = some (.slice ka x.keys.length kc) ∧ w'.cell? ⟨w.heap.size, 4, none⟩ = some (.slice la x.l.length lc) ∧ w'.cell? ⟨b, o, none⟩ = some (.string name)) :=
    fun w' e => ⟨e.cell (hB0.cells 0), e.cell (hB0.cells 1), e.cell (hB0.cells 2), e.cell (hB0.cells 3), e.cell (hB0.cells 4), e.cell hka⟩
  go_region_held3 (fun w' => w'.cell? ⟨w.heap.size, 0, none⟩ = some (.int .i64 x.k) ∧ w'.cell? ⟨w.heap.size, 1, none⟩ = some (.int .i64 x.n) ∧ w'.cell? ⟨w.heap.size, 2, none⟩ = some (.string x.s) ∧ w'.cell? ⟨w.heap.size, 3, none⟩ = some (.slice ka x.keys.length kc) ∧ w'.cell? ⟨w.heap.size, 4, none⟩ = some (.slice la x.l.length lc) ∧ w'.cell? ⟨b, o, none⟩ = some (.string name))
    (first | (exact Sof _ ((Ext.refl _).drew)) | (exact Sof _ (Ext.trans ((Ext.refl _).drew) h1)))
    (first | (go_at_call 73; refine (kid_any x ka kc la lc S name _ (fun _ => hso.flat.rise) (by omega) (Hin.out.ext Xt)).mono ?_; rw [Hc.out]; rintro e w1 ⟨rfl, h1⟩))
  have hB0 := Box.ext h1 (Box.drew hB0)
  have hBy := Box.ext h1 (Box.drew hBy)
  have hB1 := Box.ext h1 (Box.drew hB1)
  have hkb := (Ext.trans ((Ext.refl wa).drew) h1).cell hka
  have hx1 : Ext w w1 := Xt
  clear h1 hxa Sof hka
  have hc0 := hB0.cells; have hf0 := hB0.free; have hl0 := hB0.lt
  have hc1 := hB1.cells; have hf1 := hB1.free; have hl1 := hB1.lt
  go_wp2_with fail
  (with_reducible apply bp_ret); (focus (go_light; simp [results, Tryz.results79, go_sem, *]; rfl))
  exact ⟨ka, kc, la, lc, rfl, (Hin.out.ext Xt).mono (fun b h _ => .inl h), Xt⟩
set_option maxRecDepth 100000 in
set_option maxHeartbeats 4000000 in
theorem alt_put (hS : Hid (∀ b, S b → b < w0.heap.size)) (hso : x.sound) (hsz : x.size ≤ 1073741824) (hw : Ext w0 w) (hin : x.In w S ka kc la lc) (hjn : y.In w S kb kd lb ld) (hk : w.cell? ⟨b, o, none⟩ = some (.string name)) (hk1 : kn = 1) (h5 : x.k = 5) (ci : Int) (Hc : Hid (childI x name = ci)) :
    Calls Tryz.prog 79 #[.int .i64 kn, x.val ka kc la lc, .slice (some ⟨b, o, none⟩) 1 c, y.val kb kd lb ld] w (RetV2 S (x.put name y) (.int .i64 0) w) := by
  have hkb1 : (kn == 1) = true := by simpa using hk1
  have h5b : (x.k == 5) = true := by simpa using h5
  have H5 := Lib.hid h5
  clear hk1 h5
  have hbl := cell_lt hk
  have Hin := Lib.hid hin
  have Hjn := Lib.hid hjn
  have hSl : Hid (∀ b, S b → b < w.heap.size) := fun b h => Nat.lt_of_lt_of_le (hS.out b h) hw.size
  clear hin hjn hw
  go_enter Tryz.func79, Tryz.ntmps79
  go_upto_region 1 with fail
  refine gen_world (R := fun wx => Box wx w.heap.size #[.int .i64 x.k, .int .i64 x.n, .string x.s, .slice ka x.keys.length kc, .slice la x.l.length lc] 25 ∧ Box wx (w.heap.size + 1) #[.int .i64 y.k, .int .i64 y.n, .string y.s, .slice kb y.keys.length kd, .slice lb y.l.length ld] 25 ∧ Box wx (w.heap.size + 2) #[.int .i64 0, .int .i64 0, .string ⟨#[]⟩, .slice none 0 0, .slice none 0 0] 25 ∧ Ext w wx) ⟨Bxt, Bxt, Bxt, Xt⟩ ?_
  rintro wa ⟨hB0, hBy, hB1, hxa⟩
  have hka := hxa.cell hk
  clear hk
  have Sof : ∀ w', Ext wa w' → (w'.cell? ⟨w.heap.size, 0, none⟩ = some (.int .i64 x.k) ∧ w'.cell? ⟨w.heap.size, 1, none⟩ = some (.int .i64 x.n) ∧ w'.cell? ⟨w.heap.size, 2, none⟩ = some (.string x.s) ∧ w'.cell? ⟨w.heap.size, 3, none⟩ = some (.slice ka x.keys.length kc) ∧ w'.cell? ⟨w.heap.size, 4, none⟩ = some (.slice la x.l.length lc) ∧ w'.cell? ⟨b, o, none⟩ = some (.string name)) :=
    fun w' e => ⟨e.cell (hB0.cells 0), e.cell (hB0.cells 1), e.cell (hB0.cells 2), e.cell (hB0.cells 3), e.cell (hB0.cells 4), e.cell hka⟩
  go_region_held3 (fun w' => w'.cell? ⟨w.heap.size, 0, none⟩ = some (.int .i64 x.k) ∧ w'.cell? ⟨w.heap.size, 1, none⟩ = some (.int .i64 x.n) ∧ w'.cell? ⟨w.heap.size, 2, none⟩ = some (.string x.s) ∧ w'.cell? ⟨w.heap.size, 3, none⟩ = some (.slice ka x.keys.length kc) ∧ w'.cell? ⟨w.heap.size, 4, none⟩ = some (.slice la x.l.length lc) ∧ w'.cell? ⟨b, o, none⟩ = some (.string name))
    (first | (exact Sof _ ((Ext.refl _).drew)) | (exact Sof _ (Ext.trans ((Ext.refl _).drew) h1)))
    (first | (go_at_call 73; refine (kid_any x ka kc la lc S name _ (fun _ => hso.flat.rise) (by omega) (Hin.out.ext Xt)).mono ?_; rw [Hc.out]; rintro e w1 ⟨rfl, h1⟩))
  have hB0 := Box.ext h1 (Box.drew hB0)
  have hBy := Box.ext h1 (Box.drew hBy)
  have hB1 := Box.ext h1 (Box.drew hB1)
  have hkb := (Ext.trans ((Ext.refl wa).drew) h1).cell hka
  have hx1 : Ext w w1 := Xt
  clear h1 hxa Sof hka
  go_upto_region 10 with fail
  refine gen_world (R := fun wx => Box wx w.heap.size #[.int .i64 x.k, .int .i64 x.n, .string x.s, .slice ka x.keys.length kc, .slice la x.l.length lc] 25 ∧ Box wx (w.heap.size + 1) #[.int .i64 y.k, .int .i64 y.n, .string y.s, .slice kb y.keys.length kd, .slice lb y.l.length ld] 25 ∧ Box wx (w.heap.size + 2) #[.int .i64 0, .int .i64 0, .string ⟨#[]⟩, .slice none 0 0, .slice none 0 0] 25 ∧ wx.cell? ⟨b, o, none⟩ = some (.string name) ∧ Ext w wx) ⟨Bxt, Bxt, Bxt, Ext.cell (a := w1) Xt hkb, Xt⟩ ?_
  clear hB0 hBy hB1 hkb hx1
  rintro wb ⟨hB0, hBy, hB1, hkb, hxb⟩
  have Sof : ∀ w', Ext wb w' → (w'.cell? ⟨w.heap.size, 0, none⟩ = some (.int .i64 x.k) ∧ w'.cell? ⟨w.heap.size, 1, none⟩ = some (.int .i64 x.n) ∧ w'.cell? ⟨w.heap.size, 2, none⟩ = some (.string x.s) ∧ w'.cell? ⟨w.heap.size, 3, none⟩ = some (.slice ka x.keys.length kc) ∧ w'.cell? ⟨w.heap.size, 4, none⟩ = some (.slice la x.l.length lc) ∧ w'.cell? ⟨b, o, none⟩ = some (.string name) ∧
      w'.cell? ⟨w.heap.size + 1, 0, none⟩ = some (.int .i64 y.k) ∧ w'.cell? ⟨w.heap.size + 1, 1, none⟩ = some (.int .i64 y.n) ∧ w'.cell? ⟨w.heap.size + 1, 2, none⟩ = some (.string y.s) ∧ w'.cell? ⟨w.heap.size + 1, 3, none⟩ = some (.slice kb y.keys.length kd) ∧ w'.cell? ⟨w.heap.size + 1, 4, none⟩ = some (.slice lb y.l.length ld)) :=
    fun w' e => ⟨e.cell (hB0.cells 0), e.cell (hB0.cells 1), e.cell (hB0.cells 2), e.cell (hB0.cells 3), e.cell (hB0.cells 4), e.cell hkb, e.cell (hBy.cells 0), e.cell (hBy.cells 1), e.cell (hBy.cells 2), e.cell (hBy.cells 3), e.cell (hBy.cells 4)⟩
  refine wp_region_till (S := fun w' => w'.cell? ⟨w.heap.size, 0, none⟩ = some (.int .i64 x.k) ∧ w'.cell? ⟨w.heap.size, 1, none⟩ = some (.int .i64 x.n) ∧ w'.cell? ⟨w.heap.size, 2, none⟩ = some (.string x.s) ∧ w'.cell? ⟨w.heap.size, 3, none⟩ = some (.slice ka x.keys.length kc) ∧ w'.cell? ⟨w.heap.size, 4, none⟩ = some (.slice la x.l.length lc) ∧ w'.cell? ⟨b, o, none⟩ = some (.string name) ∧ w'.cell? ⟨w.heap.size + 1, 0, none⟩ = some (.int .i64 y.k) ∧ w'.cell? ⟨w.heap.size + 1, 1, none⟩ = some (.int .i64 y.n) ∧ w'.cell? ⟨w.heap.size + 1, 2, none⟩ = some (.string y.s) ∧ w'.cell? ⟨w.heap.size + 1, 3, none⟩ = some (.slice kb y.keys.length kd) ∧ w'.cell? ⟨w.heap.size + 1, 4, none⟩ = some (.slice lb y.l.length ld)) (c := 6) (by kernel_rfl) ?_
  (refine wpAnyT_take (i := 0) (v := ?_) [6] (Array.getElem?_eq_getElem (by decide)) (by kernel_rfl) (by kernel_rfl) (by kernel_rfl) (by kernel_rfl) rfl rfl (by kernel_rfl) (fun _ _ _ h => h) (Or.inl ⟨by kernel_rfl, ?_⟩) (Sof _ Xt) ?_); rotate_left; (focus (intro w hSw; (try dsimp only at hSw); (try simp only [rl]); go_simp; (try with_reducible rfl))); (try simp only [rl])
  (refine wpAnyT_take (i := 1) (v := ?_) [6] (Array.getElem?_eq_getElem (by decide)) (by kernel_rfl) (by kernel_rfl) (by kernel_rfl) (by kernel_rfl) rfl rfl (by kernel_rfl) (fun _ _ _ h => h) (Or.inl ⟨by kernel_rfl, ?_⟩) (Sof _ Xt) ?_); rotate_left; (focus (intro w hSw; (try dsimp only at hSw); (try simp only [rl]); go_simp; (try with_reducible rfl))); (try simp only [rl])
  (refine wpAnyT_take (i := 2) (v := ?_) [6] (Array.getElem?_eq_getElem (by decide)) (by kernel_rfl) (by kernel_rfl) (by kernel_rfl) (by kernel_rfl) rfl rfl (by kernel_rfl) (fun _ _ _ h => h) (Or.inl ⟨by kernel_rfl, ?_⟩) (Sof _ Xt) ?_); rotate_left; (focus (intro w hSw; (try dsimp only at hSw); (try simp only [rl]); go_simp; (try with_reducible rfl))); (try simp only [rl])
  (refine wpAnyT_take (i := 3) (v := ?_) [6] (Array.getElem?_eq_getElem (by decide)) (by kernel_rfl) (by kernel_rfl) (by kernel_rfl) (by kernel_rfl) rfl rfl (by kernel_rfl) (fun _ _ _ h => h) (Or.inl ⟨by kernel_rfl, ?_⟩) (Sof _ Xt) ?_); rotate_left; (focus (intro w hSw; (try dsimp only at hSw); (try simp only [rl]); go_simp; (try with_reducible rfl))); (try simp only [rl])
  (refine wpAnyT_take (i := 4) (v := ?_) [6] (Array.getElem?_eq_getElem (by decide)) (by kernel_rfl) (by kernel_rfl) (by kernel_rfl) (by kernel_rfl) rfl rfl (by kernel_rfl) (fun _ _ _ h => h) (Or.inl ⟨by kernel_rfl, ?_⟩) (Sof _ Xt) ?_); rotate_left; (focus (intro w hSw; (try dsimp only at hSw); (try simp only [rl]); go_simp; (try with_reducible rfl))); (try simp only [rl])
  (refine wpAnyT_one (i := 5) (by kernel_rfl) (Array.getElem?_eq_getElem (by decide)) fun K hK => ?_); (try simp only [rl])
  (try go_simp)
  (refine (withR_any x ka kc la lc name y kb kd lb ld S _ hsz H5.out (hso.flat.len H5.out) (hso.flat.n0 (by rw [H5.out]; decide) (by rw [H5.out]; decide)) (nil_bytes (hso.flat.s0 (by rw [H5.out]; decide))) hso.flat.rise (Hin.out.ext Xt) (Hjn.out.ext Xt)).mono ?_)
  rintro e w2 ⟨ka3, kc3, la3, lc3, rfl, hin3, h2⟩
  (try go_simp)
  have hb2 : Ext wb w2 := Xt
  clear h2
  refine hK.out _ _ (fun _ => Sof _ Xt) ?_; clear hK K; (try simp only [rl])
  have hzb := hB1.lt
  have hB1 := Box.ext hb2 hB1
  have hx2 : Ext w w2 := Xt
  have Hin3 : Hid ((x.put name y).In w2 (fun b => S b ∨ w.heap.size + 3 ≤ b) ka3 kc3 la3 lc3) := hin3.mono (fun b h _ => by rcases h with h | h; exact .inl h; exact .inr (by (try simp at h); omega))
  clear hB0 hBy hkb hin3 Sof hb2 hxb
  have hc1 := hB1.cells; have hf1 := hB1.free; have hl1 := hB1.lt
  (refine wpAnyT_one (i := 6) (by kernel_rfl) (Array.getElem?_eq_getElem (by decide)) fun K hK => ?_); (try simp only [rl])
  go_simp
  (refine hK.out _ _ (fun h => Bool.noConfusion (show true = false from h)) ?_); clear hK K; (try simp only [rl])
  (refine wpAnyT_one (i := 7) (by kernel_rfl) (Array.getElem?_eq_getElem (by decide)) fun K hK => ?_); (try simp only [rl])
  go_simp
  (refine hK.out _ _ (fun h => Bool.noConfusion (show true = false from h)) ?_); clear hK K; (try simp only [rl])
  refine wpAnyT_done (by kernel_rfl) ?_ _
  go_wp2_with fail
  (with_reducible apply bp_ret); (focus (go_light; simp [results, Tryz.results79, go_sem, *]; rfl))
  exact ⟨ka3, kc3, la3, lc3, rfl, Hin3.out.keep (Held.kept (Held.mono (S := fun b => b ≠ w.heap.size + 2) (a := w2) Hxt (fun b h => by rcases h with h | h; (have := hSl.out b h; simp; omega); (simp; omega)))) (fun b h _ => by rcases h with h | h; exact .inl h; exact .inr (by omega)), Xt⟩
set_option maxRecDepth 100000 in
set_option maxHeartbeats 4000000 in
theorem alt_del (hS : Hid (∀ b, S b → b < w0.heap.size)) (hso : x.sound) (hsz : x.size ≤ 1073741824) (hw : Ext w0 w) (hin : x.In w S ka kc la lc) (hjn : y.In w S kb kd lb ld) (hk : w.cell? ⟨b, o, none⟩ = some (.string name)) (hk1 : kn ≠ 1) (hk3 : kn ≠ 3) (h5 : x.k = 5) (i : Nat) (Hc : Hid (childI x name = i)) :
    Calls Tryz.prog 79 #[.int .i64 kn, x.val ka kc la lc, .slice (some ⟨b, o, none⟩) 1 c, y.val kb kd lb ld] w (RetV2 S (x.del name) (.int .i64 0) w) := by
  have hkb1 : (kn == 1) = false := by simpa using hk1
  have hkb3 : (kn == 3) = false := by simpa using hk3
  have h5b : (x.k == 5) = true := by simpa using h5
  have H5 := Lib.hid h5
  have hi0 : ¬ (i : Int) < 0 := by omega
  clear hk1 h5 hk3
  have hbl := cell_lt hk
  have Hin := Lib.hid hin
  have Hjn := Lib.hid hjn
  have hSl : Hid (∀ b, S b → b < w.heap.size) := fun b h => Nat.lt_of_lt_of_le (hS.out b h) hw.size
  clear hin hjn hw
  go_enter Tryz.func79, Tryz.ntmps79
  go_upto_region 1 with fail
  refine gen_world (R := fun wx => Box wx w.heap.size #[.int .i64 x.k, .int .i64 x.n, .string x.s, .slice ka x.keys.length kc, .slice la x.l.length lc] 25 ∧ Box wx (w.heap.size + 1) #[.int .i64 y.k, .int .i64 y.n, .string y.s, .slice kb y.keys.length kd, .slice lb y.l.length ld] 25 ∧ Box wx (w.heap.size + 2) #[.int .i64 0, .int .i64 0, .string ⟨#[]⟩, .slice none 0 0, .slice none 0 0] 25 ∧ Ext w wx) ⟨Bxt, Bxt, Bxt, Xt⟩ ?_
  rintro wa ⟨hB0, hBy, hB1, hxa⟩
  have hka := hxa.cell hk
  clear hk
  have Sof : ∀ w', Ext wa w' → (w'.cell? ⟨w.heap.size, 0, none⟩ = some (.int .i64 x.k) ∧ w'.cell? ⟨w.heap.size, 1, none⟩ = some (.int .i64 x.n) ∧ w'.cell? ⟨w.heap.size, 2, none⟩ = some (.string x.s) ∧ w'.cell? ⟨w.heap.size, 3, none⟩ = some (.slice ka x.keys.length kc) ∧ w'.cell? ⟨w.heap.size, 4, none⟩ = some (.slice la x.l.length lc) ∧ w'.cell? ⟨b, o, none⟩ = some (.string name)) :=
    fun w' e => ⟨e.cell (hB0.cells 0), e.cell (hB0.cells 1), e.cell (hB0.cells 2), e.cell (hB0.cells 3), e.cell (hB0.cells 4), e.cell hka⟩
  go_region_held3 (fun w' => w'.cell? ⟨w.heap.size, 0, none⟩ = some (.int .i64 x.k) ∧ w'.cell? ⟨w.heap.size, 1, none⟩ = some (.int .i64 x.n) ∧ w'.cell? ⟨w.heap.size, 2, none⟩ = some (.string x.s) ∧ w'.cell? ⟨w.heap.size, 3, none⟩ = some (.slice ka x.keys.length kc) ∧ w'.cell? ⟨w.heap.size, 4, none⟩ = some (.slice la x.l.length lc) ∧ w'.cell? ⟨b, o, none⟩ = some (.string name))
    (first | (exact Sof _ ((Ext.refl _).drew)) | (exact Sof _ (Ext.trans ((Ext.refl _).drew) h1)))
    (first | (go_at_call 73; refine (kid_any x ka kc la lc S name _ (fun _ => hso.flat.rise) (by omega) (Hin.out.ext Xt)).mono ?_; rw [Hc.out]; rintro e w1 ⟨rfl, h1⟩))
  have hB0 := Box.ext h1 (Box.drew hB0)
  have hBy := Box.ext h1 (Box.drew hBy)
  have hB1 := Box.ext h1 (Box.drew hB1)
  have hkb := (Ext.trans ((Ext.refl wa).drew) h1).cell hka
  have hx1 : Ext w w1 := Xt
  clear h1 hxa Sof hka
  go_upto_region 25 with fail
  refine gen_world (R := fun wx => Box wx w.heap.size #[.int .i64 x.k, .int .i64 x.n, .string x.s, .slice ka x.keys.length kc, .slice la x.l.length lc] 25 ∧ Box wx (w.heap.size + 1) #[.int .i64 y.k, .int .i64 y.n, .string y.s, .slice kb y.keys.length kd, .slice lb y.l.length ld] 25 ∧ Box wx (w.heap.size + 2) #[.int .i64 0, .int .i64 0, .string ⟨#[]⟩, .slice none 0 0, .slice none 0 0] 25 ∧ wx.cell? ⟨b, o, none⟩ = some (.string name) ∧ Ext w wx) ⟨Bxt, Bxt, Bxt, Ext.cell (a := w1) Xt hkb, Xt⟩ ?_
  clear hB0 hBy hB1 hkb hx1
  rintro wb ⟨hB0, hBy, hB1, hkb, hxb⟩
  have Sof : ∀ w', Ext wb w' → (w'.cell? ⟨w.heap.size, 0, none⟩ = some (.int .i64 x.k) ∧ w'.cell? ⟨w.heap.size, 1, none⟩ = some (.int .i64 x.n) ∧ w'.cell? ⟨w.heap.size, 2, none⟩ = some (.string x.s) ∧ w'.cell? ⟨w.heap.size, 3, none⟩ = some (.slice ka x.keys.length kc) ∧ w'.cell? ⟨w.heap.size, 4, none⟩ = some (.slice la x.l.length lc) ∧ w'.cell? ⟨b, o, none⟩ = some (.string name) ∧
      w'.cell? ⟨w.heap.size + 1, 0, none⟩ = some (.int .i64 y.k) ∧ w'.cell? ⟨w.heap.size + 1, 1, none⟩ = some (.int .i64 y.n) ∧ w'.cell? ⟨w.heap.size + 1, 2, none⟩ = some (.string y.s) ∧ w'.cell? ⟨w.heap.size + 1, 3, none⟩ = some (.slice kb y.keys.length kd) ∧ w'.cell? ⟨w.heap.size + 1, 4, none⟩ = some (.slice lb y.l.length ld)) :=
    fun w' e => ⟨e.cell (hB0.cells 0), e.cell (hB0.cells 1), e.cell (hB0.cells 2), e.cell (hB0.cells 3), e.cell (hB0.cells 4), e.cell hkb, e.cell (hBy.cells 0), e.cell (hBy.cells 1), e.cell (hBy.cells 2), e.cell (hBy.cells 3), e.cell (hBy.cells 4)⟩
  refine wp_region_till (S := fun w' => w'.cell? ⟨w.heap.size, 0, none⟩ = some (.int .i64 x.k) ∧ w'.cell? ⟨w.heap.size, 1, none⟩ = some (.int .i64 x.n) ∧ w'.cell? ⟨w.heap.size, 2, none⟩ = some (.string x.s) ∧ w'.cell? ⟨w.heap.size, 3, none⟩ = some (.slice ka x.keys.length kc) ∧ w'.cell? ⟨w.heap.size, 4, none⟩ = some (.slice la x.l.length lc) ∧ w'.cell? ⟨b, o, none⟩ = some (.string name) ∧ w'.cell? ⟨w.heap.size + 1, 0, none⟩ = some (.int .i64 y.k) ∧ w'.cell? ⟨w.heap.size + 1, 1, none⟩ = some (.int .i64 y.n) ∧ w'.cell? ⟨w.heap.size + 1, 2, none⟩ = some (.string y.s) ∧ w'.cell? ⟨w.heap.size + 1, 3, none⟩ = some (.slice kb y.keys.length kd) ∧ w'.cell? ⟨w.heap.size + 1, 4, none⟩ = some (.slice lb y.l.length ld)) (c := 5) (by kernel_rfl) ?_
  (refine wpAnyT_take (i := 0) (v := ?_) [5] (Array.getElem?_eq_getElem (by decide)) (by kernel_rfl) (by kernel_rfl) (by kernel_rfl) (by kernel_rfl) rfl rfl (by kernel_rfl) (fun _ _ _ h => h) (Or.inl ⟨by kernel_rfl, ?_⟩) (Sof _ Xt) ?_); rotate_left; (focus (intro w hSw; (try dsimp only at hSw); (try simp only [rl]); go_simp; (try with_reducible rfl))); (try simp only [rl])
  (refine wpAnyT_take (i := 1) (v := ?_) [5] (Array.getElem?_eq_getElem (by decide)) (by kernel_rfl) (by kernel_rfl) (by kernel_rfl) (by kernel_rfl) rfl rfl (by kernel_rfl) (fun _ _ _ h => h) (Or.inl ⟨by kernel_rfl, ?_⟩) (Sof _ Xt) ?_); rotate_left; (focus (intro w hSw; (try dsimp only at hSw); (try simp only [rl]); go_simp; (try with_reducible rfl))); (try simp only [rl])
  (refine wpAnyT_take (i := 2) (v := ?_) [5] (Array.getElem?_eq_getElem (by decide)) (by kernel_rfl) (by kernel_rfl) (by kernel_rfl) (by kernel_rfl) rfl rfl (by kernel_rfl) (fun _ _ _ h => h) (Or.inl ⟨by kernel_rfl, ?_⟩) (Sof _ Xt) ?_); rotate_left; (focus (intro w hSw; (try dsimp only at hSw); (try simp only [rl]); go_simp; (try with_reducible rfl))); (try simp only [rl])
  (refine wpAnyT_take (i := 3) (v := ?_) [5] (Array.getElem?_eq_getElem (by decide)) (by kernel_rfl) (by kernel_rfl) (by kernel_rfl) (by kernel_rfl) rfl rfl (by kernel_rfl) (fun _ _ _ h => h) (Or.inl ⟨by kernel_rfl, ?_⟩) (Sof _ Xt) ?_); rotate_left; (focus (intro w hSw; (try dsimp only at hSw); (try simp only [rl]); go_simp; (try with_reducible rfl))); (try simp only [rl])
  (refine wpAnyT_one (i := 4) (by kernel_rfl) (Array.getElem?_eq_getElem (by decide)) fun K hK => ?_); (try simp only [rl])
  (try go_simp)
  (refine (withoutR_any x ka kc la lc name S _ hsz H5.out (hso.flat.len H5.out) (hso.flat.n0 (by rw [H5.out]; decide) (by rw [H5.out]; decide)) (nil_bytes (hso.flat.s0 (by rw [H5.out]; decide))) hso.flat.rise (Hin.out.ext Xt)).mono ?_)
  rintro e w2 ⟨ka3, kc3, la3, lc3, rfl, hin3, h2⟩
  (try go_simp)
  have hb2 : Ext wb w2 := Xt
  clear h2
  refine hK.out _ _ (fun _ => Sof _ Xt) ?_; clear hK K; (try simp only [rl])
  have hzb := hB1.lt
  have hB1 := Box.ext hb2 hB1
  have hx2 : Ext w w2 := Xt
  have Hin3 : Hid ((x.del name).In w2 (fun b => S b ∨ w.heap.size + 3 ≤ b) ka3 kc3 la3 lc3) := hin3.mono (fun b h _ => by rcases h with h | h; exact .inl h; exact .inr (by (try simp at h); omega))
  clear hB0 hBy hkb hin3 Sof hb2 hxb
  have hc1 := hB1.cells; have hf1 := hB1.free; have hl1 := hB1.lt
  (refine wpAnyT_one (i := 5) (by kernel_rfl) (Array.getElem?_eq_getElem (by decide)) fun K hK => ?_); (try simp only [rl])
  go_simp
  (refine hK.out _ _ (fun h => Bool.noConfusion (show true = false from h)) ?_); clear hK K; (try simp only [rl])
  (refine wpAnyT_one (i := 6) (by kernel_rfl) (Array.getElem?_eq_getElem (by decide)) fun K hK => ?_); (try simp only [rl])
  go_simp
  (refine hK.out _ _ (fun h => Bool.noConfusion (show true = false from h)) ?_); clear hK K; (try simp only [rl])
  refine wpAnyT_done (by kernel_rfl) ?_ _
  go_wp2_with fail
  (with_reducible apply bp_ret); (focus (go_light; simp [results, Tryz.results79, go_sem, *]; rfl))
  exact ⟨ka3, kc3, la3, lc3, rfl, Hin3.out.keep (Held.kept (Held.mono (S := fun b => b ≠ w.heap.size + 2) (a := w2) Hxt (fun b h => by rcases h with h | h; (have := hSl.out b h; simp; omega); (simp; omega)))) (fun b h _ => by rcases h with h | h; exact .inl h; exact .inr (by omega)), Xt⟩
set_option maxRecDepth 100000 in
set_option maxHeartbeats 4000000 in
theorem alt_swap (hS : Hid (∀ b, S b → b < w0.heap.size)) (hso : x.sound) (hsz : x.size ≤ 1073741824) (hw : Ext w0 w) (hin : x.In w S ka kc la lc) (hjn : y.In w S kb kd lb ld) (hk : w.cell? ⟨b, o, none⟩ = some (.string name)) (hk3 : kn = 3) (i : Nat) (hi : i < x.l.length) (Hc : Hid (childI x name = i)) :
    Calls Tryz.prog 79 #[.int .i64 kn, x.val ka kc la lc, .slice (some ⟨b, o, none⟩) 1 c, y.val kb kd lb ld] w (RetV2 S (x.setL i y) (.int .i64 0) w) := by
  have hkb1 : (kn == 1) = false := by simp [hk3]
  have hkb3 : (kn == 3) = true := by simp [hk3]
  have hi0 : ¬ (i : Int) < 0 := by omega
  clear hk3
  have hbl := cell_lt hk
  have Hin := Lib.hid hin
  have Hjn := Lib.hid hjn
  have hSl : Hid (∀ b, S b → b < w.heap.size) := fun b h => Nat.lt_of_lt_of_le (hS.out b h) hw.size
  clear hin hjn hw
  go_enter Tryz.func79, Tryz.ntmps79
  go_upto_region 1 with fail
  refine gen_world (R := fun wx => Box wx w.heap.size #[.int .i64 x.k, .int .i64 x.n, .string x.s, .slice ka x.keys.length kc, .slice la x.l.length lc] 25 ∧ Box wx (w.heap.size + 1) #[.int .i64 y.k, .int .i64 y.n, .string y.s, .slice kb y.keys.length kd, .slice lb y.l.length ld] 25 ∧ Box wx (w.heap.size + 2) #[.int .i64 0, .int .i64 0, .string ⟨#[]⟩, .slice none 0 0, .slice none 0 0] 25 ∧ Ext w wx) ⟨Bxt, Bxt, Bxt, Xt⟩ ?_
  rintro wa ⟨hB0, hBy, hB1, hxa⟩
  have hka := hxa.cell hk
  clear hk
  have Sof : ∀ w', Ext wa w' → (w'.cell? ⟨w.heap.size, 0, none⟩ = some (.int .i64 x.k) ∧ w'.cell? ⟨w.heap.size, 1, none⟩ = some (.int .i64 x.n) ∧ w'.cell? ⟨w.heap.size, 2, none⟩ = some (.string x.s) ∧ w'.cell? ⟨w.heap.size, 3, none⟩ = some (.slice ka x.keys.length kc) ∧ w'.cell? ⟨w.heap.size, 4, none⟩ = some (.slice la x.l.length lc) ∧ w'.cell? ⟨b, o, none⟩ = some (.string name)) :=
    fun w' e => ⟨e.cell (hB0.cells 0), e.cell (hB0.cells 1), e.cell (hB0.cells 2), e.cell (hB0.cells 3), e.cell (hB0.cells 4), e.cell hka⟩
  go_region_held3 (fun w' => w'.cell? ⟨w.heap.size, 0, none⟩ = some (.int .i64 x.k) ∧ w'.cell? ⟨w.heap.size, 1, none⟩ = some (.int .i64 x.n) ∧ w'.cell? ⟨w.heap.size, 2, none⟩ = some (.string x.s) ∧ w'.cell? ⟨w.heap.size, 3, none⟩ = some (.slice ka x.keys.length kc) ∧ w'.cell? ⟨w.heap.size, 4, none⟩ = some (.slice la x.l.length lc) ∧ w'.cell? ⟨b, o, none⟩ = some (.string name))
    (first | (exact Sof _ ((Ext.refl _).drew)) | (exact Sof _ (Ext.trans ((Ext.refl _).drew) h1)))
    (first | (go_at_call 73; refine (kid_any x ka kc la lc S name _ (fun _ => hso.flat.rise) (by omega) (Hin.out.ext Xt)).mono ?_; rw [Hc.out]; rintro e w1 ⟨rfl, h1⟩))
  have hB0 := Box.ext h1 (Box.drew hB0)
  have hBy := Box.ext h1 (Box.drew hBy)
  have hB1 := Box.ext h1 (Box.drew hB1)
  have hkb := (Ext.trans ((Ext.refl wa).drew) h1).cell hka
  have hx1 : Ext w w1 := Xt
  clear h1 hxa Sof hka
  have hc0 := hB0.cells; have hf0 := hB0.free; have hl0 := hB0.lt
  have hcy := hBy.cells; have hfy := hBy.free; have hly := hBy.lt
  have hc1 := hB1.cells; have hf1 := hB1.free; have hl1 := hB1.lt
  go_wp2_with fail
  (refine (swapped_any x ka kc la lc i hi y kb kd lb ld S _ (fun b h => Nat.lt_of_lt_of_le (hSl.out b h) (Ext.size (a := w) Xt)) hsz (Hin.out.ext Xt) (Hjn.out.ext Xt)).mono ?_)
  rintro e w2 ⟨ka3, kc3, la3, lc3, rfl, hin3, h2⟩
  have hzb := hB1.lt
  have hx2 : Ext w w2 := Xt
  have hB1 := Box.ext (w := w1) (w' := w2) Xt hB1
  have Hin3 : Hid ((x.setL i y).In w2 (fun b => S b ∨ w.heap.size + 3 ≤ b) ka3 kc3 la3 lc3) := hin3.mono (fun b h _ => by rcases h with h | h; exact .inl h; exact .inr (by (try simp at h); omega))
  clear hB0 hBy hkb hin3 h2 hx1 hc0 hf0 hl0 hcy hfy hly hc1 hf1 hl1
  have hc1 := hB1.cells; have hf1 := hB1.free; have hl1 := hB1.lt
  go_wp2_with fail
  (with_reducible apply bp_ret); (focus (go_light; simp [results, Tryz.results79, go_sem, *]; rfl))
  exact ⟨ka3, kc3, la3, lc3, rfl, Hin3.out.keep (Held.kept (Held.mono (S := fun b => b ≠ w.heap.size + 2) (a := w2) Hxt (fun b h => by rcases h with h | h; (have := hSl.out b h; simp; omega); (simp; omega)))) (fun b h _ => by rcases h with h | h; exact .inl h; exact .inr (by omega)), Xt⟩
end
end Go.Proofs.YtnbappeiebameaaGreatDoor

/- The walk of the reference's alter, at one name: an item put among others, an item taken away. -/
namespace Go.Proofs.YtnbappeiebameaaGreatDoor
open Go.RowKit
attribute [local go_sem ↓] Go.wp_at_zero Go.wp_at_succ

section
variable (S : Nat → Prop) (w0 : World) (kn : Int) (name : ByteArray) (x : V) (ka : Option Addr) (kc : Nat) (la : Option Addr) (lc : Nat) (y : V) (kb : Option Addr) (kd : Nat) (lb : Option Addr) (ld : Nat) (b o n c : Nat) (w : World)

set_option maxRecDepth 100000 in
set_option maxHeartbeats 4000000 in
theorem alt_none3 (hS : Hid (∀ b, S b → b < w0.heap.size)) (hso : x.sound) (hsz : x.size ≤ 1073741824) (hw : Ext w0 w) (hin : x.In w S ka kc la lc) (hjn : y.In w S kb kd lb ld) (hk : w.cell? ⟨b, o, none⟩ = some (.string name))
    (hk1 : kn = 1) (h4 : x.k = 4) (ci : Int) (Hc : Hid (childI x name = ci)) (pi : Int) (hp : pi < 0) (Hp : Hid (placeI name x.l.length = pi)) :
    Calls Tryz.prog 79 #[.int .i64 kn, x.val ka kc la lc, .slice (some ⟨b, o, none⟩) 1 c, y.val kb kd lb ld] w (RetV2 S x (.int .i64 3) w) := by
  have hkb1 : (kn == 1) = true := by simpa using hk1
  have h5b : (x.k == 5) = false := by simp [h4]
  have h4b : (x.k == 4) = true := by simpa using h4
  have hll := x.len_l
  clear hk1 h4
  have hbl := cell_lt hk
  have Hin := Lib.hid hin
  have Hjn := Lib.hid hjn
  have hSl : Hid (∀ b, S b → b < w.heap.size) := fun b h => Nat.lt_of_lt_of_le (hS.out b h) hw.size
  clear hin hjn hw
  go_enter Tryz.func79, Tryz.ntmps79
  go_upto_region 1 with fail
  refine gen_world (R := fun wx => Box wx w.heap.size #[.int .i64 x.k, .int .i64 x.n, .string x.s, .slice ka x.keys.length kc, .slice la x.l.length lc] 25 ∧ Box wx (w.heap.size + 1) #[.int .i64 y.k, .int .i64 y.n, .string y.s, .slice kb y.keys.length kd, .slice lb y.l.length ld] 25 ∧ Box wx (w.heap.size + 2) #[.int .i64 0, .int .i64 0, .string ⟨#[]⟩, .slice none 0 0, .slice none 0 0] 25 ∧ Ext w wx) ⟨Bxt, Bxt, Bxt, Xt⟩ ?_
  rintro wa ⟨hB0, hBy, hB1, hxa⟩
  have hka := hxa.cell hk
  clear hk
  have Sof : ∀ w', Ext wa w' → (w'.cell? ⟨w.heap.size, 0, none⟩ = some (.int .i64 x.k) ∧ w'.cell? ⟨w.heap.size, 1, none⟩ = some (.int .i64 x.n) ∧ w'.cell? ⟨w.heap.size, 2, none⟩ = some (.string x.s) ∧ w'.cell? ⟨w.heap.size, 3, none⟩ = some (.slice ka x.keys.length kc) ∧ w'.cell? ⟨w.heap.size, 4, none⟩ = some (.slice la x.l.length lc) ∧ w'.cell? ⟨b, o, none⟩ = some (.string name)) :=
    fun w' e => ⟨e.cell (hB0.cells 0), e.cell (hB0.cells 1), e.cell (hB0.cells 2), e.cell (hB0.cells 3), e.cell (hB0.cells 4), e.cell hka⟩
  go_region_held3 (fun w' => w'.cell? ⟨w.heap.size, 0, none⟩ = some (.int .i64 x.k) ∧ w'.cell? ⟨w.heap.size, 1, none⟩ = some (.int .i64 x.n) ∧ w'.cell? ⟨w.heap.size, 2, none⟩ = some (.string x.s) ∧ w'.cell? ⟨w.heap.size, 3, none⟩ = some (.slice ka x.keys.length kc) ∧ w'.cell? ⟨w.heap.size, 4, none⟩ = some (.slice la x.l.length lc) ∧ w'.cell? ⟨b, o, none⟩ = some (.string name))
    (first | (exact Sof _ ((Ext.refl _).drew)) | (exact Sof _ (Ext.trans ((Ext.refl _).drew) h1)))
    (first | (go_at_call 73; refine (kid_any x ka kc la lc S name _ (fun _ => hso.flat.rise) (by omega) (Hin.out.ext Xt)).mono ?_; rw [Hc.out]; rintro e w1 ⟨rfl, h1⟩))
  have hB0 := Box.ext h1 (Box.drew hB0)
  have hBy := Box.ext h1 (Box.drew hBy)
  have hB1 := Box.ext h1 (Box.drew hB1)
  have hkb := (Ext.trans ((Ext.refl wa).drew) h1).cell hka
  have hx1 : Ext w w1 := Xt
  clear h1 hxa Sof hka
  go_upto_region 12 with fail
  refine gen_world (R := fun wx => Box wx w.heap.size #[.int .i64 x.k, .int .i64 x.n, .string x.s, .slice ka x.keys.length kc, .slice la x.l.length lc] 25 ∧ Box wx (w.heap.size + 1) #[.int .i64 y.k, .int .i64 y.n, .string y.s, .slice kb y.keys.length kd, .slice lb y.l.length ld] 25 ∧ Box wx (w.heap.size + 2) #[.int .i64 0, .int .i64 0, .string ⟨#[]⟩, .slice none 0 0, .slice none 0 0] 25 ∧ wx.cell? ⟨b, o, none⟩ = some (.string name) ∧ Ext w wx) ⟨Bxt, Bxt, Bxt, Ext.cell (a := w1) Xt hkb, Xt⟩ ?_
  clear hB0 hBy hB1 hkb hx1
  rintro wb ⟨hB0, hBy, hB1, hkb, hxb⟩
  have Sof : ∀ w', Ext wb w' → (w'.cell? ⟨w.heap.size, 0, none⟩ = some (.int .i64 x.k) ∧ w'.cell? ⟨w.heap.size, 1, none⟩ = some (.int .i64 x.n) ∧ w'.cell? ⟨w.heap.size, 2, none⟩ = some (.string x.s) ∧ w'.cell? ⟨w.heap.size, 3, none⟩ = some (.slice ka x.keys.length kc) ∧ w'.cell? ⟨w.heap.size, 4, none⟩ = some (.slice la x.l.length lc) ∧ w'.cell? ⟨b, o, none⟩ = some (.string name) ∧
      w'.cell? ⟨w.heap.size + 1, 0, none⟩ = some (.int .i64 y.k) ∧ w'.cell? ⟨w.heap.size + 1, 1, none⟩ = some (.int .i64 y.n) ∧ w'.cell? ⟨w.heap.size + 1, 2, none⟩ = some (.string y.s) ∧ w'.cell? ⟨w.heap.size + 1, 3, none⟩ = some (.slice kb y.keys.length kd) ∧ w'.cell? ⟨w.heap.size + 1, 4, none⟩ = some (.slice lb y.l.length ld)) :=
    fun w' e => ⟨e.cell (hB0.cells 0), e.cell (hB0.cells 1), e.cell (hB0.cells 2), e.cell (hB0.cells 3), e.cell (hB0.cells 4), e.cell hkb, e.cell (hBy.cells 0), e.cell (hBy.cells 1), e.cell (hBy.cells 2), e.cell (hBy.cells 3), e.cell (hBy.cells 4)⟩
  go_region_held3 (fun w' => w'.cell? ⟨w.heap.size, 0, none⟩ = some (.int .i64 x.k) ∧ w'.cell? ⟨w.heap.size, 1, none⟩ = some (.int .i64 x.n) ∧ w'.cell? ⟨w.heap.size, 2, none⟩ = some (.string x.s) ∧ w'.cell? ⟨w.heap.size, 3, none⟩ = some (.slice ka x.keys.length kc) ∧ w'.cell? ⟨w.heap.size, 4, none⟩ = some (.slice la x.l.length lc) ∧ w'.cell? ⟨b, o, none⟩ = some (.string name) ∧ w'.cell? ⟨w.heap.size + 1, 0, none⟩ = some (.int .i64 y.k) ∧ w'.cell? ⟨w.heap.size + 1, 1, none⟩ = some (.int .i64 y.n) ∧ w'.cell? ⟨w.heap.size + 1, 2, none⟩ = some (.string y.s) ∧ w'.cell? ⟨w.heap.size + 1, 3, none⟩ = some (.slice kb y.keys.length kd) ∧ w'.cell? ⟨w.heap.size + 1, 4, none⟩ = some (.slice lb y.l.length ld))
    (first | (exact Sof _ ((Ext.refl _).drew)) | (exact Sof _ (Ext.trans ((Ext.refl _).drew) h1)))
    (first | (go_at_call 138; refine (place_any name x.l.length (by omega) _).mono ?_; rw [Hp.out]; rintro e w1 ⟨rfl, h1⟩))
  have hB0 := Box.ext h1 (Box.drew hB0)
  have hB1 := Box.ext h1 (Box.drew hB1)
  have hx1 : Ext w w1 := Xt
  clear h1 hxb Sof hkb hBy
  have hc0 := hB0.cells; have hf0 := hB0.free; have hl0 := hB0.lt
  have hc1 := hB1.cells; have hf1 := hB1.free; have hl1 := hB1.lt
  go_wp2_with fail
  (with_reducible apply bp_ret); (focus (go_light; simp [results, Tryz.results79, go_sem, *]; rfl))
  exact ⟨ka, kc, la, lc, rfl, (Hin.out.ext Xt).mono (fun b h _ => .inl h), Xt⟩

set_option maxRecDepth 100000 in
set_option maxHeartbeats 8000000 in
theorem alt_ins (hS : Hid (∀ b, S b → b < w0.heap.size)) (hso : x.sound) (hsz : x.size ≤ 536870912) (hw : Ext w0 w) (hin : x.In w S ka kc la lc) (hjn : y.In w S kb kd lb ld) (hk : w.cell? ⟨b, o, none⟩ = some (.string name))
    (hk1 : kn = 1) (h4 : x.k = 4) (ci : Int) (Hc : Hid (childI x name = ci)) (p : Nat) (hp : p ≤ x.l.length) (Hp : Hid (placeI name x.l.length = p)) :
    Calls Tryz.prog 79 #[.int .i64 kn, x.val ka kc la lc, .slice (some ⟨b, o, none⟩) 1 c, y.val kb kd lb ld] w (RetV2 S (x.insL p y) (.int .i64 0) w) := by
  rw [insL_list hso h4]
  have hkb1 : (kn == 1) = true := by simpa using hk1
  have h5b : (x.k == 5) = false := by simp [h4]
  have h4b : (x.k == 4) = true := by simpa using h4
  have hll := x.len_l
  have hp0 : ¬ (p : Int) < 0 := by omega
  have hp00 : (0 : Int) ≤ (p : Int) := by omega
  obtain ⟨-, hok2, -, hrw⟩ := (V.in_iff ..).1 hin
  have hplc : (p : Int) ≤ (lc : Int) := by have := hok2.1; omega
  have hpl : (p : Int) ≤ (x.l.length : Int) := by omega
  have Hok2 := Lib.hid hok2
  obtain ⟨xs, hxl, hsrc, hcs⟩ := rows_cells hrw
  have Hsrc := Lib.hid hsrc
  have Hcs0 := Lib.hid hcs
  have Hxl := Lib.hid hxl
  obtain ⟨ad, had⟩ : ∃ ad, (if lc = p then la else Option.map (fun x => x.add (p * 5)) la) = ad := ⟨_, rfl⟩
  have Hdr := Lib.hid (row_drop hok2 hp hsrc)
  rw [had] at Hdr
  have Had := Lib.hid had
  clear hk1 h4 hok2 hrw hsrc hcs hxl had
  have hbl := cell_lt hk
  have Hin := Lib.hid hin
  have Hjn := Lib.hid hjn
  have hSl : Hid (∀ b, S b → b < w.heap.size) := fun b h => Nat.lt_of_lt_of_le (hS.out b h) hw.size
  clear hin hjn hw
  go_enter Tryz.func79, Tryz.ntmps79
  go_upto_region 1 with fail
  refine gen_world (R := fun wx => Box wx w.heap.size #[.int .i64 x.k, .int .i64 x.n, .string x.s, .slice ka x.keys.length kc, .slice la x.l.length lc] 25 ∧ Box wx (w.heap.size + 1) #[.int .i64 y.k, .int .i64 y.n, .string y.s, .slice kb y.keys.length kd, .slice lb y.l.length ld] 25 ∧ Box wx (w.heap.size + 2) #[.int .i64 0, .int .i64 0, .string ⟨#[]⟩, .slice none 0 0, .slice none 0 0] 25 ∧ Ext w wx) ⟨Bxt, Bxt, Bxt, Xt⟩ ?_
  rintro wa ⟨hB0, hBy, hB1, hxa⟩
  have hka := hxa.cell hk
  clear hk
  have Sof : ∀ w', Ext wa w' → (w'.cell? ⟨w.heap.size, 0, none⟩ = some (.int .i64 x.k) ∧ w'.cell? ⟨w.heap.size, 1, none⟩ = some (.int .i64 x.n) ∧ w'.cell? ⟨w.heap.size, 2, none⟩ = some (.string x.s) ∧ w'.cell? ⟨w.heap.size, 3, none⟩ = some (.slice ka x.keys.length kc) ∧ w'.cell? ⟨w.heap.size, 4, none⟩ = some (.slice la x.l.length lc) ∧ w'.cell? ⟨b, o, none⟩ = some (.string name)) :=
    fun w' e => ⟨e.cell (hB0.cells 0), e.cell (hB0.cells 1), e.cell (hB0.cells 2), e.cell (hB0.cells 3), e.cell (hB0.cells 4), e.cell hka⟩
  go_region_held3 (fun w' => w'.cell? ⟨w.heap.size, 0, none⟩ = some (.int .i64 x.k) ∧ w'.cell? ⟨w.heap.size, 1, none⟩ = some (.int .i64 x.n) ∧ w'.cell? ⟨w.heap.size, 2, none⟩ = some (.string x.s) ∧ w'.cell? ⟨w.heap.size, 3, none⟩ = some (.slice ka x.keys.length kc) ∧ w'.cell? ⟨w.heap.size, 4, none⟩ = some (.slice la x.l.length lc) ∧ w'.cell? ⟨b, o, none⟩ = some (.string name))
    (first | (exact Sof _ ((Ext.refl _).drew)) | (exact Sof _ (Ext.trans ((Ext.refl _).drew) h1)))
    (first | (go_at_call 73; refine (kid_any x ka kc la lc S name _ (fun _ => hso.flat.rise) (by omega) (Hin.out.ext Xt)).mono ?_; rw [Hc.out]; rintro e w1 ⟨rfl, h1⟩))
  have hB0 := Box.ext h1 (Box.drew hB0)
  have hBy := Box.ext h1 (Box.drew hBy)
  have hB1 := Box.ext h1 (Box.drew hB1)
  have hkb := (Ext.trans ((Ext.refl wa).drew) h1).cell hka
  have hx1 : Ext w w1 := Xt
  clear h1 hxa Sof hka
  go_upto_region 12 with fail
  refine gen_world (R := fun wx => Box wx w.heap.size #[.int .i64 x.k, .int .i64 x.n, .string x.s, .slice ka x.keys.length kc, .slice la x.l.length lc] 25 ∧ Box wx (w.heap.size + 1) #[.int .i64 y.k, .int .i64 y.n, .string y.s, .slice kb y.keys.length kd, .slice lb y.l.length ld] 25 ∧ Box wx (w.heap.size + 2) #[.int .i64 0, .int .i64 0, .string ⟨#[]⟩, .slice none 0 0, .slice none 0 0] 25 ∧ wx.cell? ⟨b, o, none⟩ = some (.string name) ∧ Ext w wx) ⟨Bxt, Bxt, Bxt, Ext.cell (a := w1) Xt hkb, Xt⟩ ?_
  clear hB0 hBy hB1 hkb hx1
  rintro wb ⟨hB0, hBy, hB1, hkb, hxb⟩
  have Sof : ∀ w', Ext wb w' → (w'.cell? ⟨w.heap.size, 0, none⟩ = some (.int .i64 x.k) ∧ w'.cell? ⟨w.heap.size, 1, none⟩ = some (.int .i64 x.n) ∧ w'.cell? ⟨w.heap.size, 2, none⟩ = some (.string x.s) ∧ w'.cell? ⟨w.heap.size, 3, none⟩ = some (.slice ka x.keys.length kc) ∧ w'.cell? ⟨w.heap.size, 4, none⟩ = some (.slice la x.l.length lc) ∧ w'.cell? ⟨b, o, none⟩ = some (.string name) ∧
      w'.cell? ⟨w.heap.size + 1, 0, none⟩ = some (.int .i64 y.k) ∧ w'.cell? ⟨w.heap.size + 1, 1, none⟩ = some (.int .i64 y.n) ∧ w'.cell? ⟨w.heap.size + 1, 2, none⟩ = some (.string y.s) ∧ w'.cell? ⟨w.heap.size + 1, 3, none⟩ = some (.slice kb y.keys.length kd) ∧ w'.cell? ⟨w.heap.size + 1, 4, none⟩ = some (.slice lb y.l.length ld)) :=
    fun w' e => ⟨e.cell (hB0.cells 0), e.cell (hB0.cells 1), e.cell (hB0.cells 2), e.cell (hB0.cells 3), e.cell (hB0.cells 4), e.cell hkb, e.cell (hBy.cells 0), e.cell (hBy.cells 1), e.cell (hBy.cells 2), e.cell (hBy.cells 3), e.cell (hBy.cells 4)⟩
  go_region_held3 (fun w' => w'.cell? ⟨w.heap.size, 0, none⟩ = some (.int .i64 x.k) ∧ w'.cell? ⟨w.heap.size, 1, none⟩ = some (.int .i64 x.n) ∧ w'.cell? ⟨w.heap.size, 2, none⟩ = some (.string x.s) ∧ w'.cell? ⟨w.heap.size, 3, none⟩ = some (.slice ka x.keys.length kc) ∧ w'.cell? ⟨w.heap.size, 4, none⟩ = some (.slice la x.l.length lc) ∧ w'.cell? ⟨b, o, none⟩ = some (.string name) ∧ w'.cell? ⟨w.heap.size + 1, 0, none⟩ = some (.int .i64 y.k) ∧ w'.cell? ⟨w.heap.size + 1, 1, none⟩ = some (.int .i64 y.n) ∧ w'.cell? ⟨w.heap.size + 1, 2, none⟩ = some (.string y.s) ∧ w'.cell? ⟨w.heap.size + 1, 3, none⟩ = some (.slice kb y.keys.length kd) ∧ w'.cell? ⟨w.heap.size + 1, 4, none⟩ = some (.slice lb y.l.length ld))
    (first | (exact Sof _ ((Ext.refl _).drew)) | (exact Sof _ (Ext.trans ((Ext.refl _).drew) h1)))
    (first | (go_at_call 138; refine (place_any name x.l.length (by omega) _).mono ?_; rw [Hp.out]; rintro e w1 ⟨rfl, h1⟩))
  have hB0 := Box.ext h1 (Box.drew hB0)
  have hBy := Box.ext h1 (Box.drew hBy)
  have hB1 := Box.ext h1 (Box.drew hB1)
  have hx1 : Ext w w1 := Xt
  clear h1 hxb Sof hkb
  go_upto_region 16 with fail
  refine gen_world (R := fun wx => Box wx w.heap.size #[.int .i64 x.k, .int .i64 x.n, .string x.s, .slice ka x.keys.length kc, .slice la x.l.length lc] 25 ∧ Box wx (w.heap.size + 1) #[.int .i64 y.k, .int .i64 y.n, .string y.s, .slice kb y.keys.length kd, .slice lb y.l.length ld] 25 ∧ Box wx (w.heap.size + 2) #[.int .i64 0, .int .i64 0, .string ⟨#[]⟩, .slice none 0 0, .slice none 0 0] 25 ∧ Box wx w1.heap.size #[.int .i64 4, .int .i64 0, .string ⟨#[]⟩, .slice none 0 0, .slice none 0 0] 25 ∧ Ext w wx) ⟨Bxt, Bxt, Bxt, Bxt, Xt⟩ ?_
  have hz1 := hB1.lt
  clear hB0 hBy hB1 hx1
  rintro wb ⟨hB0, hBy, hB1, hBo, hxb⟩
  have hzo := hBo.lt
  have Hcs := Lib.hid (show CellsOf wb (fun b => b < wb.heap.size ∧ S b) x.l xs from Hcs0.out.keep (hxb.kept _) fun b h hl => ⟨by have := hxb.size; omega, h⟩)
  have Sof : ∀ w', Held (fun q => q < wb.heap.size) wb w' → (w'.cell? ⟨w1.heap.size, 4, none⟩ = some (.slice none 0 0) ∧ w'.cell? ⟨w.heap.size, 4, none⟩ = some (.slice la x.l.length lc)) := fun w' e => ⟨e.kept.cell (by dsimp only; omega) (hBo.cells 4), e.kept.cell (by dsimp only; omega) (hB0.cells 4)⟩
  refine wp_region_till (S := fun w' => w'.cell? ⟨w1.heap.size, 4, none⟩ = some (.slice none 0 0) ∧ w'.cell? ⟨w.heap.size, 4, none⟩ = some (.slice la x.l.length lc)) (c := 8) (by kernel_rfl) ?_
  (refine wpAnyT_take (i := 0) (v := ?_) [8] (Array.getElem?_eq_getElem (by decide)) (by kernel_rfl) (by kernel_rfl) (by kernel_rfl) (by kernel_rfl) rfl rfl (by kernel_rfl) (fun _ _ _ h => h) (Or.inl ⟨by kernel_rfl, ?_⟩) (Sof _ Hxt) ?_); rotate_left; (focus (intro w hSw; (try dsimp only at hSw); (try simp only [rl]); go_simp; (try with_reducible rfl))); (try simp only [rl])
  (refine wpAnyT_take (i := 1) (v := ?_) [8] (Array.getElem?_eq_getElem (by decide)) (by kernel_rfl) (by kernel_rfl) (by kernel_rfl) (by kernel_rfl) rfl rfl (by kernel_rfl) (fun _ _ _ h => h) (Or.inl ⟨by kernel_rfl, ?_⟩) (Sof _ Hxt) ?_); rotate_left; (focus (intro w hSw; (try dsimp only at hSw); (try simp only [rl]); go_simp; (try with_reducible rfl))); (try simp only [rl])
  (refine wpAnyT_take (i := 2) (v := ?_) [8] (Array.getElem?_eq_getElem (by decide)) (by kernel_rfl) (by kernel_rfl) (by kernel_rfl) (by kernel_rfl) rfl rfl (by kernel_rfl) (fun _ _ _ h => h) (Or.inl ⟨by kernel_rfl, ?_⟩) (Sof _ Hxt) ?_); rotate_left; (focus (intro w hSw; (try dsimp only at hSw); (try simp only [rl]); go_simp; (try with_reducible rfl))); (try simp only [rl])
  (refine wpAnyT_take (i := 3) (v := ?_) [8] (Array.getElem?_eq_getElem (by decide)) (by kernel_rfl) (by kernel_rfl) (by kernel_rfl) (by kernel_rfl) rfl rfl (by kernel_rfl) (fun _ _ _ h => h) (Or.inl ⟨by kernel_rfl, ?_⟩) (Sof _ Hxt) ?_); rotate_left; (focus (intro w hSw; (try dsimp only at hSw); (try simp only [rl]); go_simp; (try with_reducible rfl))); (try simp only [rl])
  (refine wpAnyT_take (i := 4) (v := ?_) [8] (Array.getElem?_eq_getElem (by decide)) (by kernel_rfl) (by kernel_rfl) (by kernel_rfl) (by kernel_rfl) rfl rfl (by kernel_rfl) (fun _ _ _ h => h) (Or.inl ⟨by kernel_rfl, ?_⟩) (Sof _ Hxt) ?_); rotate_left; (focus (intro w hSw; (try dsimp only at hSw); (try simp only [rl]); go_simp; (try with_reducible rfl))); (try simp only [rl])
  (refine wpAnyT_take (i := 5) (v := ?_) [8] (Array.getElem?_eq_getElem (by decide)) (by kernel_rfl) (by kernel_rfl) (by kernel_rfl) (by kernel_rfl) rfl rfl (by kernel_rfl) (fun _ _ _ h => h) (Or.inl ⟨by kernel_rfl, ?_⟩) (Sof _ Hxt) ?_); rotate_left; (focus (intro w hSw; (try dsimp only at hSw); (try simp only [rl]); go_simp; (try with_reducible rfl))); (try simp only [rl])
  (refine wpAnyT_one (i := 6) (by kernel_rfl) (Array.getElem?_eq_getElem (by decide)) fun K hK => ?_); (try simp only [rl])
  rw [if_pos (by simp [Region.wanted])]
  refine app_row (base := wb.heap.size) (S := S) (l := []) (l2 := x.l.take p) (news := xs.take (p * 5)) (by rfl) (by rfl) _ _ (by rfl) ⟨by omega, Hok2.out.2.1, Hok2.out.2.2⟩ (OwnI.nil wb _ _) Xt (by simp; omega) (Hcs.out.cut p).1 ?_ Hxt p (by omega) (by omega) (Nat.le_refl _) ?_
  · rcases Hsrc.out with h | ⟨q, rfl, h⟩
    · exact .inl (by omega)
    · exact .inr ⟨q, rfl, fun j u hj => Ext.cell (a := w) Xt (h j u (by rw [List.getElem?_take] at hj; split at hj; exact hj; cases hj))⟩
  intro a2 c2 w2 HI2 hokA hh2 hxf
  have hx2 := hxf w hxb (by omega)
  have hBo2 := Box.held hh2 hBo (by omega)
  rw [List.nil_append] at HI2
  clear hxf hokA
  have hco := hBo2.cells; have hfo := hBo2.free; have hlo := hBo2.lt
  refine hK.out _ _ (fun _ => Sof _ Hxt) ?_; clear hK K; (try simp only [rl])
  (refine wpAnyT_one (i := 7) (by kernel_rfl) (Array.getElem?_eq_getElem (by decide)) fun K hK => ?_); (try simp only [rl])
  go_simp
  refine hK.out _ _ (fun _ => Sof _ Hxt) ?_; clear hK K; (try simp only [rl])
  (refine wpAnyT_one (i := 8) (by kernel_rfl) (Array.getElem?_eq_getElem (by decide)) fun K hK => ?_); (try simp only [rl])
  go_simp
  (refine hK.out _ _ (fun h => Bool.noConfusion (show true = false from h)) ?_); clear hK K; (try simp only [rl])
  refine wpAnyT_done (by kernel_rfl) ?_ _
  have hSo : ¬ S w1.heap.size := fun h => by have := hSl.out _ h; omega
  have hB0w := Box.held hh2 hB0 (by omega)
  have hByw := Box.held hh2 hBy (by omega)
  have hB1w := Box.held hh2 hB1 (by omega)
  go_upto_region 17 with fail
  refine gen_world (R := fun wx => OwnI wx wb.heap.size S (.slice a2 p c2) p (x.l.take p) ∧ Box wx w.heap.size #[.int .i64 x.k, .int .i64 x.n, .string x.s, .slice ka x.keys.length kc, .slice la x.l.length lc] 25 ∧ Box wx (w.heap.size + 1) #[.int .i64 y.k, .int .i64 y.n, .string y.s, .slice kb y.keys.length kd, .slice lb y.l.length ld] 25 ∧ Box wx (w.heap.size + 2) #[.int .i64 0, .int .i64 0, .string ⟨#[]⟩, .slice none 0 0, .slice none 0 0] 25 ∧ Box wx w1.heap.size #[.int .i64 4, .int .i64 0, .string ⟨#[]⟩, .slice none 0 0, .slice a2 p c2] 25 ∧ Ext w wx ∧ Held (fun q => q < w.heap.size) w wx ∧ wb.heap.size ≤ wx.heap.size)
    ⟨HI2.store (by omega) hSo _, Bxt, Bxt, Bxt, Bxt, Xt, Ext.held Xt _, by have := hh2.size; simp; omega⟩ ?_
  clear HI2 hB0 hBy hB1 hBo hB0w hByw hB1w hBo2 hx2 hh2 hco hfo hlo Sof
  rintro wc ⟨HI2, hB0, hBy, hB1, hBo, hxc, hhc, hzc⟩
  have Hjw := Lib.hid (show y.In wc (fun b => b < wb.heap.size ∧ S b) kb kd lb ld from (Hjn.out.ext hxc).mono fun b h _ => ⟨by have := hSl.out b h; omega, h⟩)
  have hco := hBo.cells; have hfo := hBo.free; have hlo := hBo.lt
  have hcy := hBy.cells; have hfy := hBy.free; have hly := hBy.lt
  go_upto_region 18 with (at_builtin; refine wpl_val (by rfl) wc.heap.size (by rfl) (by rfl) (by rfl) HI2 Hjw.out Xt Hxt Bxt (by omega) hzc ?_; intro g3 cap3 w3 HI3 hh3 hxf3; have hBo3 := Box.held hh3 hBo (by omega); have hco3 := hBo3.cells; have hfo3 := hBo3.free; have hlo3 := hBo3.lt)
  have hx3 := hxf3 w hxc (by omega)
  have hB0w := Box.held hh3 hB0 (by omega)
  have hB1w := Box.held hh3 hB1 (by omega)
  refine gen_world (R := fun wx => OwnI wx wb.heap.size S (.slice (some ⟨g3, 0, none⟩) (p + 1) cap3) (p + 1) (x.l.take p ++ [y]) ∧ Box wx w.heap.size #[.int .i64 x.k, .int .i64 x.n, .string x.s, .slice ka x.keys.length kc, .slice la x.l.length lc] 25 ∧ Box wx (w.heap.size + 2) #[.int .i64 0, .int .i64 0, .string ⟨#[]⟩, .slice none 0 0, .slice none 0 0] 25 ∧ Box wx w1.heap.size #[.int .i64 4, .int .i64 0, .string ⟨#[]⟩, .slice none 0 0, .slice (some ⟨g3, 0, none⟩) (p + 1) cap3] 25 ∧ Ext w wx ∧ wb.heap.size ≤ wx.heap.size)
    ⟨HI3.store (by omega) hSo _, Bxt, Bxt, Bxt, Xt, by have := hh3.size; simp; omega⟩ ?_
  clear HI2 HI3 hB0 hBy hB1 hBo hB0w hB1w hBo3 hx3 hh3 hco3 hfo3 hlo3 hco hfo hlo hcy hfy hly hxc hhc hzc hxf3 Hjw
  rintro wd ⟨HI2, hB0, hB1, hBo, hxd, hzd⟩
  have Hcd := Lib.hid (show CellsOf wd (fun b => b < wb.heap.size ∧ S b) x.l xs from Hcs0.out.keep (hxd.kept _) fun b h hl => ⟨by have := hxb.size; omega, h⟩)
  have Sof : ∀ w', Held (fun q => q < wb.heap.size) wd w' → (w'.cell? ⟨w1.heap.size, 4, none⟩ = some (.slice (some ⟨g3, 0, none⟩) (p + 1) cap3) ∧ w'.cell? ⟨w.heap.size, 4, none⟩ = some (.slice la x.l.length lc)) := fun w' e => ⟨e.kept.cell (by dsimp only; omega) (hBo.cells 4), e.kept.cell (by dsimp only; omega) (hB0.cells 4)⟩
  refine wp_region_till (S := fun w' => w'.cell? ⟨w1.heap.size, 4, none⟩ = some (.slice (some ⟨g3, 0, none⟩) (p + 1) cap3) ∧ w'.cell? ⟨w.heap.size, 4, none⟩ = some (.slice la x.l.length lc)) (c := 8) (by kernel_rfl) ?_
  (refine wpAnyT_take (i := 0) (v := ?_) [8] (Array.getElem?_eq_getElem (by decide)) (by kernel_rfl) (by kernel_rfl) (by kernel_rfl) (by kernel_rfl) rfl rfl (by kernel_rfl) (fun _ _ _ h => h) (Or.inl ⟨by kernel_rfl, ?_⟩) (Sof _ Hxt) ?_); rotate_left; (focus (intro w hSw; (try dsimp only at hSw); (try simp only [rl]); go_simp; (try with_reducible rfl))); (try simp only [rl])
  (refine wpAnyT_take (i := 1) (v := ?_) [8] (Array.getElem?_eq_getElem (by decide)) (by kernel_rfl) (by kernel_rfl) (by kernel_rfl) (by kernel_rfl) rfl rfl (by kernel_rfl) (fun _ _ _ h => h) (Or.inl ⟨by kernel_rfl, ?_⟩) (Sof _ Hxt) ?_); rotate_left; (focus (intro w hSw; (try dsimp only at hSw); (try simp only [rl]); go_simp; (try with_reducible rfl))); (try simp only [rl])
  (refine wpAnyT_take (i := 2) (v := ?_) [8] (Array.getElem?_eq_getElem (by decide)) (by kernel_rfl) (by kernel_rfl) (by kernel_rfl) (by kernel_rfl) rfl rfl (by kernel_rfl) (fun _ _ _ h => h) (Or.inl ⟨by kernel_rfl, ?_⟩) (Sof _ Hxt) ?_); rotate_left; (focus (intro w hSw; (try dsimp only at hSw); (try simp only [rl]); go_simp; (try with_reducible rfl))); (try simp only [rl])
  (refine wpAnyT_take (i := 3) (v := ?_) [8] (Array.getElem?_eq_getElem (by decide)) (by kernel_rfl) (by kernel_rfl) (by kernel_rfl) (by kernel_rfl) rfl rfl (by kernel_rfl) (fun _ _ _ h => h) (Or.inl ⟨by kernel_rfl, ?_⟩) (Sof _ Hxt) ?_); rotate_left; (focus (intro w hSw; (try dsimp only at hSw); (try simp only [rl]); go_simp; (try with_reducible rfl))); (try simp only [rl])
  (refine wpAnyT_take (i := 4) (v := ?_) [8] (Array.getElem?_eq_getElem (by decide)) (by kernel_rfl) (by kernel_rfl) (by kernel_rfl) (by kernel_rfl) rfl rfl (by kernel_rfl) (fun _ _ _ h => h) (Or.inl ⟨by kernel_rfl, ?_⟩) (Sof _ Hxt) ?_); rotate_left; (focus (intro w hSw; (try dsimp only at hSw); (try simp only [rl]); go_simp; (try with_reducible rfl))); (try simp only [rl])
  (refine wpAnyT_take (i := 5) (v := ?_) [8] (Array.getElem?_eq_getElem (by decide)) (by kernel_rfl) (by kernel_rfl) (by kernel_rfl) (by kernel_rfl) rfl rfl (by kernel_rfl) (fun _ _ _ h => h) (Or.inl ⟨by kernel_rfl, ?_⟩) (Sof _ Hxt) ?_); rotate_left; (focus (intro w hSw; (try dsimp only at hSw); (try simp only [rl]); go_simp; (try with_reducible rfl))); (try simp only [rl])
  (simp only [Had.out])
  (refine wpAnyT_one (i := 6) (by kernel_rfl) (Array.getElem?_eq_getElem (by decide)) fun K hK => ?_); (try simp only [rl])
  rw [if_pos (by simp [Region.wanted])]
  refine app_row (base := wb.heap.size) (S := S) (l := x.l.take p ++ [y]) (l2 := x.l.drop p) (news := xs.drop (p * 5)) (by rfl) (by rfl) _ _ (by rfl) Hdr.out.1 HI2 Xt (by simp) (Hcd.out.cut p).2 ?_ Hxt (x.l.length + 1) (by omega) (by omega) (by omega) ?_
  · rcases Hdr.out.2 with h | ⟨q, h1, h⟩
    · exact .inl h
    · exact .inr ⟨q, h1, fun j u hj => Ext.cell (a := w) Xt (h j u hj)⟩
  intro a5 c5 w5 HI5 hok5 hh5 hxf
  have hx5 := hxf w hxd (by omega)
  have hBo5 := Box.held hh5 hBo (by omega)
  rw [List.append_assoc, List.singleton_append] at HI5
  clear hxf
  have hco := hBo5.cells; have hfo := hBo5.free; have hlo := hBo5.lt
  refine hK.out _ _ (fun _ => Sof _ Hxt) ?_; clear hK K; (try simp only [rl])
  (refine wpAnyT_one (i := 7) (by kernel_rfl) (Array.getElem?_eq_getElem (by decide)) fun K hK => ?_); (try simp only [rl])
  go_simp
  refine hK.out _ _ (fun _ => Sof _ Hxt) ?_; clear hK K; (try simp only [rl])
  (refine wpAnyT_one (i := 8) (by kernel_rfl) (Array.getElem?_eq_getElem (by decide)) fun K hK => ?_); (try simp only [rl])
  go_simp
  (refine hK.out _ _ (fun h => Bool.noConfusion (show true = false from h)) ?_); clear hK K; (try simp only [rl])
  refine wpAnyT_done (by kernel_rfl) ?_ _
  have hB1w := Box.held hh5 hB1 (by omega)
  go_upto_region 19 with fail
  refine gen_world (R := fun wx => OwnI wx wb.heap.size S (.slice a5 (x.l.length + 1) c5) (x.l.length + 1) (x.l.take p ++ y :: x.l.drop p) ∧ Box wx (w.heap.size + 2) #[.int .i64 0, .int .i64 0, .string ⟨#[]⟩, .slice none 0 0, .slice none 0 0] 25 ∧ Box wx w1.heap.size #[.int .i64 4, .int .i64 0, .string ⟨#[]⟩, .slice none 0 0, .slice a5 (x.l.length + 1) c5] 25 ∧ Ext w wx)
    ⟨HI5.store (by omega) hSo _, Bxt, Bxt, Xt⟩ ?_
  clear HI2 HI5 hB0 hB1 hBo hB1w hBo5 hx5 hh5 hco hfo hlo hxd hzd Hcd Sof
  rintro we ⟨HI, hB1, hBo, hxe⟩
  have hc1 := hB1.cells; have hf1 := hB1.free; have hl1 := hB1.lt
  have hco := hBo.cells; have hfo := hBo.free; have hlo := hBo.lt
  have hl0 := HI.1
  obtain ⟨a6, c6, he6, hok6, -, hrows6⟩ := HI.ownL.rows
  simp only [Value.slice.injEq, true_and] at he6
  obtain ⟨rfl, rfl⟩ := he6
  have Hrows := Lib.hid hrows6
  have Hl0 := Lib.hid hl0
  have Hok6 := Lib.hid hok6
  clear hl0 hrows6 HI hok6
  go_wp2_with fail
  (with_reducible apply bp_ret); (focus (go_light; simp [results, Tryz.results79, go_sem, *]; rfl))
  refine ⟨none, 0, a5, c5, by simp [V.val, Hl0.out], (V.in_iff ..).2 ⟨SlOk.nil, by rw [V.l_mk, Hl0.out]; exact Hok6.out, .inl rfl, ?_⟩, Xt⟩
  exact Hrows.out.keep (Held.kept (Held.mono (S := fun b => b ≠ w.heap.size + 2) (a := we) Hxt (fun b h => by rcases h with h | h; (have := hSl.out b h.2; simp; omega); (simp; omega)))) (fun b h _ => by rcases h with h | h; exact .inl h.2; exact .inr (by omega))
set_option maxRecDepth 100000 in
set_option maxHeartbeats 8000000 in
theorem alt_delL (hS : Hid (∀ b, S b → b < w0.heap.size)) (hso : x.sound) (hsz : x.size ≤ 536870912) (hw : Ext w0 w) (hin : x.In w S ka kc la lc) (hjn : y.In w S kb kd lb ld) (hk : w.cell? ⟨b, o, none⟩ = some (.string name))
    (hk1 : kn ≠ 1) (hk3 : kn ≠ 3) (h4 : x.k = 4) (i : Nat) (hi : i < x.l.length) (Hc : Hid (childI x name = i)) :
    Calls Tryz.prog 79 #[.int .i64 kn, x.val ka kc la lc, .slice (some ⟨b, o, none⟩) 1 c, y.val kb kd lb ld] w (RetV2 S (x.delL i) (.int .i64 0) w) := by
  rw [delL_list hso h4, show x.l.take i ++ x.l.drop (i + 1) = delTo i true x.l x.l.length by unfold delTo; rw [if_pos ⟨hi, rfl⟩, List.take_length]]
  have hkb1 : (kn == 1) = false := by simpa using hk1
  have hkb3 : (kn == 3) = false := by simpa using hk3
  have h5b : (x.k == 5) = false := by simp [h4]
  have hll := x.len_l
  have hi0 : ¬ (i : Int) < 0 := by omega
  clear hk1 hk3 h4
  have hbl := cell_lt hk
  have Hin := Lib.hid hin
  have Hjn := Lib.hid hjn
  have hSl : Hid (∀ b, S b → b < w.heap.size) := fun b h => Nat.lt_of_lt_of_le (hS.out b h) hw.size
  clear hin hjn hw
  go_enter Tryz.func79, Tryz.ntmps79
  go_upto_region 1 with fail
  refine gen_world (R := fun wx => Box wx w.heap.size #[.int .i64 x.k, .int .i64 x.n, .string x.s, .slice ka x.keys.length kc, .slice la x.l.length lc] 25 ∧ Box wx (w.heap.size + 1) #[.int .i64 y.k, .int .i64 y.n, .string y.s, .slice kb y.keys.length kd, .slice lb y.l.length ld] 25 ∧ Box wx (w.heap.size + 2) #[.int .i64 0, .int .i64 0, .string ⟨#[]⟩, .slice none 0 0, .slice none 0 0] 25 ∧ Ext w wx) ⟨Bxt, Bxt, Bxt, Xt⟩ ?_
  rintro wa ⟨hB0, hBy, hB1, hxa⟩
  have hka := hxa.cell hk
  clear hk
  have Sof : ∀ w', Ext wa w' → (w'.cell? ⟨w.heap.size, 0, none⟩ = some (.int .i64 x.k) ∧ w'.cell? ⟨w.heap.size, 1, none⟩ = some (.int .i64 x.n) ∧ w'.cell? ⟨w.heap.size, 2, none⟩ = some (.string x.s) ∧ w'.cell? ⟨w.heap.size, 3, none⟩ = some (.slice ka x.keys.length kc) ∧ w'.cell? ⟨w.heap.size, 4, none⟩ = some (.slice la x.l.length lc) ∧ w'.cell? ⟨b, o, none⟩ = some (.string name)) :=
    fun w' e => ⟨e.cell (hB0.cells 0), e.cell (hB0.cells 1), e.cell (hB0.cells 2), e.cell (hB0.cells 3), e.cell (hB0.cells 4), e.cell hka⟩
  go_region_held3 (fun w' => w'.cell? ⟨w.heap.size, 0, none⟩ = some (.int .i64 x.k) ∧ w'.cell? ⟨w.heap.size, 1, none⟩ = some (.int .i64 x.n) ∧ w'.cell? ⟨w.heap.size, 2, none⟩ = some (.string x.s) ∧ w'.cell? ⟨w.heap.size, 3, none⟩ = some (.slice ka x.keys.length kc) ∧ w'.cell? ⟨w.heap.size, 4, none⟩ = some (.slice la x.l.length lc) ∧ w'.cell? ⟨b, o, none⟩ = some (.string name))
    (first | (exact Sof _ ((Ext.refl _).drew)) | (exact Sof _ (Ext.trans ((Ext.refl _).drew) h1)))
    (first | (go_at_call 73; refine (kid_any x ka kc la lc S name _ (fun _ => hso.flat.rise) (by omega) (Hin.out.ext Xt)).mono ?_; rw [Hc.out]; rintro e w1 ⟨rfl, h1⟩))
  have hB0 := Box.ext h1 (Box.drew hB0)
  have hBy := Box.ext h1 (Box.drew hBy)
  have hB1 := Box.ext h1 (Box.drew hB1)
  have hkb := (Ext.trans ((Ext.refl wa).drew) h1).cell hka
  have hx1 : Ext w w1 := Xt
  clear h1 hxa Sof hka
  go_upto_region 27 with fail
  refine gen_world (R := fun wx => Box wx w.heap.size #[.int .i64 x.k, .int .i64 x.n, .string x.s, .slice ka x.keys.length kc, .slice la x.l.length lc] 25 ∧ Box wx (w.heap.size + 2) #[.int .i64 0, .int .i64 0, .string ⟨#[]⟩, .slice none 0 0, .slice none 0 0] 25 ∧ Box wx w1.heap.size #[.int .i64 4, .int .i64 0, .string ⟨#[]⟩, .slice none 0 0, .slice none 0 0] 25 ∧ Ext w wx) ⟨Bxt, Bxt, Bxt, Xt⟩ ?_
  have hz1 := hB1.lt
  clear hB0 hBy hB1 hx1 hkb
  rintro wb ⟨hB0, hB1, hBo, hxb⟩
  have hzo := hBo.lt
  have hSo : ¬ S w1.heap.size := fun h => by have := hSl.out _ h; omega
  have hc0 := hB0.cells; have hf0 := hB0.free; have hl0 := hB0.lt
  go_wp2_with fail
  clear hc0 hf0 hl0 hB0
  go_loopg [16, 17, 134] x.l.length (fun g _ _ ix wr => ∃ (k m : Nat) (a3 : Option Addr) (c3 : Nat), k ≤ x.l.length ∧ ix = .int .i64 k ∧ g = x.l.length - k ∧ m ≤ k ∧ Hid (OwnI wr wb.heap.size S (.slice a3 m c3) m (delTo i true x.l k)) ∧ Box wr w1.heap.size #[.int .i64 4, .int .i64 0, .string ⟨#[]⟩, .slice none 0 0, .slice a3 m c3] 25 ∧ Ext w wr ∧ Held (fun q => q < wb.heap.size ∧ q ≠ w1.heap.size) wb wr)
  case atStart => exact ⟨0, 0, none, 0, by omega, rfl, rfl, by omega, Lib.hid (by rw [delTo_zero]; exact OwnI.nil _ _ _), hBo, hxb, Held.refl _ _⟩
  case round =>
    clear hBo
    obtain ⟨k, m, a3, c3, hk, rfl, rfl, hm, HI, hBo, hx, hh⟩ := hrel
    have hszr := hh.size
    have hco := hBo.cells; have hfo := hBo.free; have hlo := hBo.lt
    by_cases hlt : k < x.l.length
    · obtain ⟨bq, oq, rfl, hSq, ka', kc', la', lc', ⟨d0, d1, d2, d3, d4⟩, hin'⟩ := Hin.out.item hlt
      have hbw := hSl.out _ hSq
      have d0 := hx.cell d0; have d1 := hx.cell d1; have d2 := hx.cell d2; have d3 := hx.cell d3; have d4 := hx.cell d4
      have hki0 : (0 : Int) ≤ (k : Int) := by omega
      have hki1 : (k : Int) < (x.l.length : Int) := by omega
      have Hin' := Lib.hid hin'
      clear hin'
      by_cases hki : k = i
      · have hne : ((k : Int) != (i : Int)) = false := by simp [hki]
        have Hki := Lib.hid hki
        clear hki
        go_wp2_with fail
        go_roundg (x.l.length - (k + 1))
        case measure => omega
        case rel => exact ⟨k + 1, m, _, _, by omega, by go_num, rfl, by omega, Lib.hid (by rw [delTo_skip hlt Hki.out rfl]; exact HI.out.ext Xt), Bxt, Xt, Hxt⟩
      · have hne : ((k : Int) != (i : Int)) = true := by simp; omega
        have Hki := Lib.hid hki
        clear hki
        go_upto_region 31 with fail
        refine gen_world (R := fun wx => OwnI wx wb.heap.size S (.slice a3 m c3) m (delTo i true x.l k) ∧ Box wx wr.heap.size #[.int .i64 x.l[k].k, .int .i64 x.l[k].n, .string x.l[k].s, .slice ka' x.l[k].keys.length kc', .slice la' x.l[k].l.length lc'] 25 ∧ Box wx w1.heap.size #[.int .i64 4, .int .i64 0, .string ⟨#[]⟩, .slice none 0 0, .slice a3 m c3] 25 ∧ Ext w wx ∧ Held (fun q => q < wb.heap.size ∧ q ≠ w1.heap.size) wb wx ∧ wr.heap.size ≤ wx.heap.size) ⟨HI.out.ext Xt, Bxt, Bxt, Xt, Hxt, by simp⟩ ?_
        clear HI hBo hx hh hco hfo hlo d0 d1 d2 d3 d4
        rintro wc ⟨HI, hBq, hBo, hx, hh, hzc⟩
        have Hjw := Lib.hid (show x.l[k].In wc (fun b => b < wb.heap.size ∧ S b) ka' kc' la' lc' from (Hin'.out.ext hx).mono fun b h _ => ⟨by have := hSl.out b h; omega, h⟩)
        have hco := hBo.cells; have hfo := hBo.free; have hlo := hBo.lt
        have hcq := hBq.cells; have hfq := hBq.free; have hlq := hBq.lt
        go_upto_region 32 with (at_builtin; refine wpl_val (by rfl) wc.heap.size (by rfl) (by rfl) (by rfl) HI Hjw.out Xt Hxt Bxt (by omega) (by omega) ?_; intro g3 cap3 w3 HI3 hh3 hxf3; have hBo3 := Box.held hh3 hBo (by omega); have hco3 := hBo3.cells; have hfo3 := hBo3.free; have hlo3 := hBo3.lt)
        have hx3 := hxf3 w hx (by omega)
        have hh5 : Held (fun q => q < wb.heap.size ∧ q ≠ w1.heap.size) wb w3 := hh.trans (hh3.mono fun q h => h.1)
        clear hxf3 hh hh3 hx
        go_wp2_with fail
        go_roundg (x.l.length - (k + 1))
        case measure => omega
        case rel => exact ⟨k + 1, m + 1, _, _, by omega, by go_num, rfl, by omega, Lib.hid (by rw [delTo_keep hlt (.inl Hki.out)]; exact HI3.store (by omega) hSo _), Bxt, Xt, Hxt⟩
    · obtain rfl : k = x.l.length := by omega
      have hB1 := Box.held hh hB1 ⟨by omega, by omega⟩
      have hc1 := hB1.cells; have hf1 := hB1.free; have hl1 := hB1.lt
      have hl0 := HI.out.1
      obtain ⟨a6, c6, he6, hok6, -, hrows6⟩ := HI.out.ownL.rows
      simp only [Value.slice.injEq, true_and] at he6
      obtain ⟨rfl, rfl⟩ := he6
      have Hrows := Lib.hid hrows6
      have Hl0 := Lib.hid hl0
      have Hok6 := Lib.hid hok6
      clear hl0 hrows6 HI hok6
      go_wp2_with fail
      (with_reducible apply bp_ret); (focus (go_light; simp [results, Tryz.results79, go_sem, *]; rfl))
      refine ⟨none, 0, a3, c3, by simp [V.val, Hl0.out], (V.in_iff ..).2 ⟨SlOk.nil, by rw [V.l_mk, Hl0.out]; exact Hok6.out, .inl rfl, ?_⟩, Xt⟩
      exact Hrows.out.keep (Held.kept (Held.mono (S := fun b => b ≠ w.heap.size + 2) (a := wr) Hxt (fun b h => by rcases h with h | h; (have := hSl.out b h.2; simp; omega); (simp; omega)))) (fun b h _ => by rcases h with h | h; exact .inl h.2; exact .inr (by omega))
end
end Go.Proofs.YtnbappeiebameaaGreatDoor

/- The walk of the reference's alter, at more names than one; alter whole. -/
namespace Go.Proofs.YtnbappeiebameaaGreatDoor
open Go.RowKit
attribute [local go_sem ↓] Go.wp_at_zero Go.wp_at_succ

set_option maxRecDepth 100000 in
set_option maxHeartbeats 8000000 in
theorem alt_more (S : Nat → Prop) (w0 : World) (kn : Int) (name : ByteArray) (x : V) (ka : Option Addr) (kc : Nat) (la : Option Addr) (lc : Nat) (y : V) (kb : Option Addr) (kd : Nat) (lb : Option Addr) (ld : Nat) (b o n c : Nat) (w : World)
    (hS : Hid (∀ b, S b → b < w0.heap.size)) (hso : x.sound) (hsz : x.size ≤ 1073741824) (hw : Ext w0 w) (hin : x.In w S ka kc la lc) (hjn : y.In w S kb kd lb ld) (hk : w.cell? ⟨b, o, none⟩ = some (.string name))
    (hn2 : 2 ≤ n) (hnc : n ≤ c) (hnb : n ≤ 1073741824) (hcb : c ≤ maxLen) (i : Nat) (hi : i < x.l.length) (Hc : Hid (childI x name = i)) (r : V) (er : Int)
    (rec : Hid (∀ (ka2 : Option Addr) (kc2 : Nat) (la2 : Option Addr) (lc2 : Nat) (w' : World), Ext w w' → (x.l[i]).In w' S ka2 kc2 la2 lc2 → Calls Tryz.prog 79 #[.int .i64 kn, (x.l[i]).val ka2 kc2 la2 lc2, .slice (some ⟨b, o + 1, none⟩) (n - 1) (c - 1), y.val kb kd lb ld] w' (RetV2 S r (.int .i64 er) w'))) :
    Calls Tryz.prog 79 #[.int .i64 kn, x.val ka kc la lc, .slice (some ⟨b, o, none⟩) n c, y.val kb kd lb ld] w (RetV2 S (if er = 0 then x.setL i r else x) (.int .i64 er) w) := by
  obtain ⟨b', o', rfl, hS', ka2, kc2, la2, lc2, ⟨d0, d1, d2, d3, d4⟩, hin'⟩ := hin.item hi
  have hnl : (1 : Int) < (n : Int) := by omega
  have hn0 : 0 < n := by omega
  have hci0 : ¬ (i : Int) < 0 := by omega
  have hbl := cell_lt hk
  have Hin := Lib.hid hin
  have Hjn := Lib.hid hjn
  have hSl : Hid (∀ b, S b → b < w.heap.size) := fun b h => Nat.lt_of_lt_of_le (hS.out b h) hw.size
  clear hin hjn hw
  go_enter Tryz.func79, Tryz.ntmps79
  go_upto_region 1 with fail
  refine gen_world (R := fun wx => Box wx w.heap.size #[.int .i64 x.k, .int .i64 x.n, .string x.s, .slice ka x.keys.length kc, .slice (some ⟨b', o', none⟩) x.l.length lc] 25 ∧ Box wx (w.heap.size + 1) #[.int .i64 y.k, .int .i64 y.n, .string y.s, .slice kb y.keys.length kd, .slice lb y.l.length ld] 25 ∧ Box wx (w.heap.size + 2) #[.int .i64 0, .int .i64 0, .string ⟨#[]⟩, .slice none 0 0, .slice none 0 0] 25 ∧ Ext w wx) ⟨Bxt, Bxt, Bxt, Xt⟩ ?_
  rintro wa ⟨hB0, hBy, hB1, hxa⟩
  have hka := hxa.cell hk
  clear hk
  have Sof : ∀ w', Ext wa w' → (w'.cell? ⟨w.heap.size, 0, none⟩ = some (.int .i64 x.k) ∧ w'.cell? ⟨w.heap.size, 1, none⟩ = some (.int .i64 x.n) ∧ w'.cell? ⟨w.heap.size, 2, none⟩ = some (.string x.s) ∧ w'.cell? ⟨w.heap.size, 3, none⟩ = some (.slice ka x.keys.length kc) ∧ w'.cell? ⟨w.heap.size, 4, none⟩ = some (.slice (some ⟨b', o', none⟩) x.l.length lc) ∧ w'.cell? ⟨b, o, none⟩ = some (.string name)) :=
    fun w' e => ⟨e.cell (hB0.cells 0), e.cell (hB0.cells 1), e.cell (hB0.cells 2), e.cell (hB0.cells 3), e.cell (hB0.cells 4), e.cell hka⟩
  go_region_held3 (fun w' => w'.cell? ⟨w.heap.size, 0, none⟩ = some (.int .i64 x.k) ∧ w'.cell? ⟨w.heap.size, 1, none⟩ = some (.int .i64 x.n) ∧ w'.cell? ⟨w.heap.size, 2, none⟩ = some (.string x.s) ∧ w'.cell? ⟨w.heap.size, 3, none⟩ = some (.slice ka x.keys.length kc) ∧ w'.cell? ⟨w.heap.size, 4, none⟩ = some (.slice (some ⟨b', o', none⟩) x.l.length lc) ∧ w'.cell? ⟨b, o, none⟩ = some (.string name))
    (first | (exact Sof _ ((Ext.refl _).drew)) | (exact Sof _ (Ext.trans ((Ext.refl _).drew) h1)))
    (first | (go_at_call 73; refine (kid_any x ka kc _ lc S name _ (fun _ => hso.flat.rise) (by omega) (Hin.out.ext Xt)).mono ?_; rw [Hc.out]; rintro e w1 ⟨rfl, h1⟩))
  have hB0 := Box.ext h1 (Box.drew hB0)
  have hBy := Box.ext h1 (Box.drew hBy)
  have hB1 := Box.ext h1 (Box.drew hB1)
  have hkb := (Ext.trans ((Ext.refl wa).drew) h1).cell hka
  have hx1 : Ext w w1 := Xt
  clear h1 hxa Sof hka
  go_upto_region 5 with fail
  refine gen_world (R := fun wx => Box wx w.heap.size #[.int .i64 x.k, .int .i64 x.n, .string x.s, .slice ka x.keys.length kc, .slice (some ⟨b', o', none⟩) x.l.length lc] 25 ∧ Box wx (w.heap.size + 1) #[.int .i64 y.k, .int .i64 y.n, .string y.s, .slice kb y.keys.length kd, .slice lb y.l.length ld] 25 ∧ Box wx (w.heap.size + 2) #[.int .i64 0, .int .i64 0, .string ⟨#[]⟩, .slice none 0 0, .slice none 0 0] 25 ∧ wx.cell? ⟨b, o, none⟩ = some (.string name) ∧ Ext w wx) ⟨Bxt, Bxt, Bxt, Ext.cell (a := w1) Xt hkb, Xt⟩ ?_
  clear hB0 hBy hB1 hkb hx1
  rintro wb ⟨hB0, hBy, hB1, hkb, hxb⟩
  have d0 := hxb.cell d0; have d1 := hxb.cell d1; have d2 := hxb.cell d2; have d3 := hxb.cell d3; have d4 := hxb.cell d4
  have hi0 : (0 : Int) ≤ (i : Int) := by omega
  have hi1 : (i : Int) < (x.l.length : Int) := by omega
  have hn3 : (1 : Int) ≤ (n : Int) := by omega
  have hcne : ¬ c = 1 := by omega
  have hn4 : (n : Int) ≤ (c : Int) := by omega
  have Sof : ∀ w', Ext wb w' → (w'.cell? ⟨w.heap.size, 4, none⟩ = some (.slice (some ⟨b', o', none⟩) x.l.length lc) ∧ w'.cell? ⟨b', o' + i * 5, none⟩ = some (.int .i64 x.l[i].k) ∧ w'.cell? ⟨b', o' + i * 5 + 1, none⟩ = some (.int .i64 x.l[i].n) ∧ w'.cell? ⟨b', o' + i * 5 + 2, none⟩ = some (.string x.l[i].s) ∧ w'.cell? ⟨b', o' + i * 5 + 3, none⟩ = some (.slice ka2 x.l[i].keys.length kc2) ∧ w'.cell? ⟨b', o' + i * 5 + 4, none⟩ = some (.slice la2 x.l[i].l.length lc2) ∧ w'.cell? ⟨w.heap.size + 1, 0, none⟩ = some (.int .i64 y.k) ∧ w'.cell? ⟨w.heap.size + 1, 1, none⟩ = some (.int .i64 y.n) ∧ w'.cell? ⟨w.heap.size + 1, 2, none⟩ = some (.string y.s) ∧ w'.cell? ⟨w.heap.size + 1, 3, none⟩ = some (.slice kb y.keys.length kd) ∧ w'.cell? ⟨w.heap.size + 1, 4, none⟩ = some (.slice lb y.l.length ld)) :=
    fun w' e => ⟨e.cell (hB0.cells 4), e.cell d0, e.cell d1, e.cell d2, e.cell d3, e.cell d4, e.cell (hBy.cells 0), e.cell (hBy.cells 1), e.cell (hBy.cells 2), e.cell (hBy.cells 3), e.cell (hBy.cells 4)⟩
  refine wp_region_till (S := fun w' => w'.cell? ⟨w.heap.size, 4, none⟩ = some (.slice (some ⟨b', o', none⟩) x.l.length lc) ∧ w'.cell? ⟨b', o' + i * 5, none⟩ = some (.int .i64 x.l[i].k) ∧ w'.cell? ⟨b', o' + i * 5 + 1, none⟩ = some (.int .i64 x.l[i].n) ∧ w'.cell? ⟨b', o' + i * 5 + 2, none⟩ = some (.string x.l[i].s) ∧ w'.cell? ⟨b', o' + i * 5 + 3, none⟩ = some (.slice ka2 x.l[i].keys.length kc2) ∧ w'.cell? ⟨b', o' + i * 5 + 4, none⟩ = some (.slice la2 x.l[i].l.length lc2) ∧ w'.cell? ⟨w.heap.size + 1, 0, none⟩ = some (.int .i64 y.k) ∧ w'.cell? ⟨w.heap.size + 1, 1, none⟩ = some (.int .i64 y.n) ∧ w'.cell? ⟨w.heap.size + 1, 2, none⟩ = some (.string y.s) ∧ w'.cell? ⟨w.heap.size + 1, 3, none⟩ = some (.slice kb y.keys.length kd) ∧ w'.cell? ⟨w.heap.size + 1, 4, none⟩ = some (.slice lb y.l.length ld)) (c := 15) (by kernel_rfl) ?_
  (refine wpAnyT_take (i := 0) (v := ?_) [15] (Array.getElem?_eq_getElem (by decide)) (by kernel_rfl) (by kernel_rfl) (by kernel_rfl) (by kernel_rfl) rfl rfl (by kernel_rfl) (fun _ _ _ h => h) (Or.inl ⟨by kernel_rfl, ?_⟩) (Sof _ Xt) ?_); rotate_left; (focus (intro w hSw; (try dsimp only at hSw); (try simp only [rl]); go_simp; (try with_reducible rfl))); (try simp only [rl])
  (refine wpAnyT_take (i := 1) (v := ?_) [15] (Array.getElem?_eq_getElem (by decide)) (by kernel_rfl) (by kernel_rfl) (by kernel_rfl) (by kernel_rfl) rfl rfl (by kernel_rfl) (fun _ _ _ h => h) (Or.inl ⟨by kernel_rfl, ?_⟩) (Sof _ Xt) ?_); rotate_left; (focus (intro w hSw; (try dsimp only at hSw); (try simp only [rl]); go_simp; (try with_reducible rfl))); (try simp only [rl])
  (refine wpAnyT_take (i := 2) (v := ?_) [15] (Array.getElem?_eq_getElem (by decide)) (by kernel_rfl) (by kernel_rfl) (by kernel_rfl) (by kernel_rfl) rfl rfl (by kernel_rfl) (fun _ _ _ h => h) (Or.inl ⟨by kernel_rfl, ?_⟩) (Sof _ Xt) ?_); rotate_left; (focus (intro w hSw; (try dsimp only at hSw); (try simp only [rl]); go_simp; (try with_reducible rfl))); (try simp only [rl])
  (refine wpAnyT_take (i := 3) (v := ?_) [15] (Array.getElem?_eq_getElem (by decide)) (by kernel_rfl) (by kernel_rfl) (by kernel_rfl) (by kernel_rfl) rfl rfl (by kernel_rfl) (fun _ _ _ h => h) (Or.inl ⟨by kernel_rfl, ?_⟩) (Sof _ Xt) ?_); rotate_left; (focus (intro w hSw; (try dsimp only at hSw); (try simp only [rl]); go_simp; (try with_reducible rfl))); (try simp only [rl])
  (refine wpAnyT_take (i := 4) (v := ?_) [15] (Array.getElem?_eq_getElem (by decide)) (by kernel_rfl) (by kernel_rfl) (by kernel_rfl) (by kernel_rfl) rfl rfl (by kernel_rfl) (fun _ _ _ h => h) (Or.inl ⟨by kernel_rfl, ?_⟩) (Sof _ Xt) ?_); rotate_left; (focus (intro w hSw; (try dsimp only at hSw); (try simp only [rl]); go_simp; (try with_reducible rfl))); (try simp only [rl])
  (refine wpAnyT_take (i := 5) (v := ?_) [15] (Array.getElem?_eq_getElem (by decide)) (by kernel_rfl) (by kernel_rfl) (by kernel_rfl) (by kernel_rfl) rfl rfl (by kernel_rfl) (fun _ _ _ h => h) (Or.inl ⟨by kernel_rfl, ?_⟩) (Sof _ Xt) ?_); rotate_left; (focus (intro w hSw; (try dsimp only at hSw); (try simp only [rl]); go_simp; (try with_reducible rfl))); (try simp only [rl])
  (refine wpAnyT_take (i := 6) (v := ?_) [15] (Array.getElem?_eq_getElem (by decide)) (by kernel_rfl) (by kernel_rfl) (by kernel_rfl) (by kernel_rfl) rfl rfl (by kernel_rfl) (fun _ _ _ h => h) (Or.inl ⟨by kernel_rfl, ?_⟩) (Sof _ Xt) ?_); rotate_left; (focus (intro w hSw; (try dsimp only at hSw); (try simp only [rl]); go_simp; (try with_reducible rfl))); (try simp only [rl])
  (refine wpAnyT_take (i := 7) (v := ?_) [15] (Array.getElem?_eq_getElem (by decide)) (by kernel_rfl) (by kernel_rfl) (by kernel_rfl) (by kernel_rfl) rfl rfl (by kernel_rfl) (fun _ _ _ h => h) (Or.inl ⟨by kernel_rfl, ?_⟩) (Sof _ Xt) ?_); rotate_left; (focus (intro w hSw; (try dsimp only at hSw); (try simp only [rl]); go_simp; (try with_reducible rfl))); (try simp only [rl])
  (refine wpAnyT_take (i := 8) (v := ?_) [15] (Array.getElem?_eq_getElem (by decide)) (by kernel_rfl) (by kernel_rfl) (by kernel_rfl) (by kernel_rfl) rfl rfl (by kernel_rfl) (fun _ _ _ h => h) (Or.inl ⟨by kernel_rfl, ?_⟩) (Sof _ Xt) ?_); rotate_left; (focus (intro w hSw; (try dsimp only at hSw); (try simp only [rl]); go_simp; (try with_reducible rfl))); (try simp only [rl])
  refine wpAnyT_ready (rs := [9, 13]) (by kernel_rfl) (by simp) ?_
  refine AllReadyT.cons (Array.getElem?_eq_getElem (by decide)) (fun K hK => ?_) (AllReadyT.cons (Array.getElem?_eq_getElem (by decide)) (fun K hK => ?_) AllReadyT.nil)
  · (try simp only [rl])
    (try go_simp)
    (refine (rec.out ka2 kc2 la2 lc2 _ Xt (hin'.ext Xt)).mono ?_); rintro e w2 ⟨ka3, kc3, la3, lc3, rfl, hin3, h2⟩
    (try go_simp)
    have hb2 : Ext wb w2 := Xt
    have hz2 := hb2.size
    clear h2
    refine hK.out _ _ (fun _ => Sof _ Xt) ?_; clear hK K; (try simp only [rl])
    (refine wpAnyT_take (i := 10) (v := ?_) [15] (Array.getElem?_eq_getElem (by decide)) (by kernel_rfl) (by kernel_rfl) (by kernel_rfl) (by kernel_rfl) rfl rfl (by kernel_rfl) (fun _ _ _ h => h) (Or.inl ⟨by kernel_rfl, ?_⟩) (Sof _ Xt) ?_); rotate_left; (focus (intro w hSw; (try dsimp only at hSw); (try simp only [rl]); go_simp; (try with_reducible rfl))); (try simp only [rl])
    (refine wpAnyT_take (i := 11) (v := ?_) [15] (Array.getElem?_eq_getElem (by decide)) (by kernel_rfl) (by kernel_rfl) (by kernel_rfl) (by kernel_rfl) rfl rfl (by kernel_rfl) (fun _ _ _ h => h) (Or.inl ⟨by kernel_rfl, ?_⟩) (Sof _ Xt) ?_); rotate_left; (focus (intro w hSw; (try dsimp only at hSw); (try simp only [rl]); go_simp; (try with_reducible rfl))); (try simp only [rl])
    (refine wpAnyT_take (i := 12) (v := ?_) [15] (Array.getElem?_eq_getElem (by decide)) (by kernel_rfl) (by kernel_rfl) (by kernel_rfl) (by kernel_rfl) rfl rfl (by kernel_rfl) (fun _ _ _ h => h) (Or.inl ⟨by kernel_rfl, ?_⟩) (Sof _ Xt) ?_); rotate_left; (focus (intro w hSw; (try dsimp only at hSw); (try simp only [rl]); go_simp; (try with_reducible rfl))); (try simp only [rl])
    (refine wpAnyT_one (i := 13) (by kernel_rfl) (Array.getElem?_eq_getElem (by decide)) fun K hK => ?_); (try simp only [rl])
    go_simp
    refine hK.out _ _ (fun _ => Sof _ Xt) ?_; clear hK K; (try simp only [rl])
    (refine wpAnyT_one (i := 14) (by kernel_rfl) (Array.getElem?_eq_getElem (by decide)) fun K hK => ?_); (try simp only [rl])
    go_simp
    refine hK.out _ _ (fun _ => Sof _ Xt) ?_; clear hK K; (try simp only [rl])
    (refine wpAnyT_one (i := 15) (by kernel_rfl) (Array.getElem?_eq_getElem (by decide)) fun K hK => ?_); (try simp only [rl])
    go_simp
    (refine hK.out _ _ (fun h => Bool.noConfusion (show true = false from h)) ?_); clear hK K; (try simp only [rl])
    refine wpAnyT_done (by kernel_rfl) ?_ _
    have hB0w : Box w2 w.heap.size #[.int .i64 x.k, .int .i64 x.n, .string x.s, .slice ka x.keys.length kc, .slice (some ⟨b', o', none⟩) x.l.length lc] 25 := Box.ext (w := wb) hb2 hB0
    have hB1w : Box w2 (w.heap.size + 2) #[.int .i64 0, .int .i64 0, .string ⟨#[]⟩, .slice none 0 0, .slice none 0 0] 25 := Box.ext (w := wb) hb2 hB1
    have hl1 := hB1.lt
    have Hin3 : Hid (r.In w2 (fun b => (S b ∨ w.heap.size + 3 ≤ b) ∧ b ≠ w2.heap.size) ka3 kc3 la3 lc3) := hin3.mono (fun b h hlt => by
      rcases h with h | h
      · have := hSl.out b h; exact ⟨.inl h, by omega⟩
      · simp at h; exact ⟨.inr (by omega), by omega⟩)
    have hx2 : Ext w w2 := Xt
    clear hin3 Sof hB0 hB1 hBy
    go_upto_region 6 with fail
    refine gen_world (R := fun wx => Box wx w.heap.size #[.int .i64 x.k, .int .i64 x.n, .string x.s, .slice ka x.keys.length kc, .slice (some ⟨b', o', none⟩) x.l.length lc] 25 ∧ Box wx (w.heap.size + 2) #[.int .i64 0, .int .i64 0, .string ⟨#[]⟩, .slice none 0 0, .slice none 0 0] 25 ∧ Box wx w2.heap.size #[.int .i64 r.k, .int .i64 r.n, .string r.s, .slice ka3 r.keys.length kc3, .slice la3 r.l.length lc3] 25 ∧ r.In wx (fun b => S b ∨ w.heap.size + 3 ≤ b) ka3 kc3 la3 lc3 ∧ Ext w wx)
      ⟨Bxt, Bxt, Bxt, Hin3.out.keep (Held.kept (Held.mono (S := fun b => b ≠ w2.heap.size) (a := w2) Hxt (fun b h => h.2))) (fun _ h _ => h.1), Xt⟩ ?_
    clear hB0w hB1w Hin3
    rintro wd ⟨hB0, hB1, hBu, hjn, hxd⟩
    have Hrn := Lib.hid hjn
    clear hjn hx2 hb2 rec
    by_cases her : er = 0
    · subst her
      simp only [if_true]
      have hc0 := hB0.cells; have hf0 := hB0.free; have hl0 := hB0.lt
      have hcu := hBu.cells; have hfu := hBu.free; have hlu := hBu.lt
      have hc1 := hB1.cells; have hf1 := hB1.free; have hl1 := hB1.lt
      go_wp2_with fail
      (refine (swapped_any x ka kc _ lc i hi r ka3 kc3 la3 lc3 (fun b => (S b ∨ w.heap.size + 3 ≤ b) ∧ b < wd.heap.size) _ (fun b h => by have := h.2; simpa using this) hsz ((Hin.out.ext hxd).mono fun b h hl => ⟨.inl h, hl⟩) (Hrn.out.mono fun b h hl => ⟨h, hl⟩)).mono ?_)
      rintro e w5 ⟨ka5, kc5, la5, lc5, rfl, hin5, h5⟩
      have hzb := hB1.lt
      have hx5 : Ext w w5 := Xt
      have hB1 := Box.ext (w := wd) (w' := w5) Xt hB1
      have Hin5 : Hid ((x.setL i r).In w5 (fun b => S b ∨ w.heap.size + 3 ≤ b) ka5 kc5 la5 lc5) := hin5.mono (fun b h _ => by rcases h with h | h; exact h.1; exact .inr (by (try simp at h); omega))
      clear hB0 hBu hin5 h5 hxd hc0 hf0 hl0 hcu hfu hlu hc1 hf1 hl1
      have hc1 := hB1.cells; have hf1 := hB1.free; have hl1 := hB1.lt
      go_wp2_with fail
      (with_reducible apply bp_ret); (focus (go_light; simp [results, Tryz.results79, go_sem, *]; rfl))
      exact ⟨ka5, kc5, la5, lc5, rfl, Hin5.out.keep (Held.kept (Held.mono (S := fun b => b ≠ w.heap.size + 2) (a := w5) Hxt (fun b h => by rcases h with h | h; (have := hSl.out b h; simp; omega); (simp; omega)))) (fun b h _ => by rcases h with h | h; exact .inl h; exact .inr (by omega)), Xt⟩
    · have he : (er != 0) = true := by simpa using her
      simp only [if_neg her]
      have hc0 := hB0.cells; have hf0 := hB0.free; have hl0 := hB0.lt
      have hc1 := hB1.cells; have hf1 := hB1.free; have hl1 := hB1.lt
      go_wp2_with fail
      (with_reducible apply bp_ret); (focus (go_light; simp [results, Tryz.results79, go_sem, *]; rfl))
      exact ⟨ka, kc, _, lc, rfl, (Hin.out.ext Xt).mono (fun b h _ => .inl h), Xt⟩
  · (try simp only [rl])
    go_simp
    refine hK.out _ _ (fun _ => Sof _ Xt) ?_; clear hK K; (try simp only [rl])
    (refine wpAnyT_one (i := 9) (by kernel_rfl) (Array.getElem?_eq_getElem (by decide)) fun K hK => ?_); (try simp only [rl])
    (try go_simp)
    (refine (rec.out ka2 kc2 la2 lc2 _ Xt (hin'.ext Xt)).mono ?_); rintro e w2 ⟨ka3, kc3, la3, lc3, rfl, hin3, h2⟩
    (try go_simp)
    have hb2 : Ext wb w2 := Xt
    have hz2 := hb2.size
    have hB10 : Box w2 wb.heap.size #[.int .i64 0, .int .i64 0, .string ⟨#[]⟩, .slice none 0 0, .slice none 0 0] 25 := Box.ext h2 (Box.new _ _ _ (by simp))
    clear h2
    have hc10 := hB10.cells; have hf10 := hB10.free; have hl10 := hB10.lt
    refine hK.out _ _ (fun _ => Sof _ Xt) ?_; clear hK K; (try simp only [rl])
    (refine wpAnyT_take (i := 10) (v := ?_) [15] (Array.getElem?_eq_getElem (by decide)) (by kernel_rfl) (by kernel_rfl) (by kernel_rfl) (by kernel_rfl) rfl rfl (by kernel_rfl) (fun _ _ _ h => h) (Or.inl ⟨by kernel_rfl, ?_⟩) (Sof _ Xt) ?_); rotate_left; (focus (intro w hSw; (try dsimp only at hSw); (try simp only [rl]); go_simp; (try with_reducible rfl))); (try simp only [rl])
    (refine wpAnyT_take (i := 11) (v := ?_) [15] (Array.getElem?_eq_getElem (by decide)) (by kernel_rfl) (by kernel_rfl) (by kernel_rfl) (by kernel_rfl) rfl rfl (by kernel_rfl) (fun _ _ _ h => h) (Or.inl ⟨by kernel_rfl, ?_⟩) (Sof _ Xt) ?_); rotate_left; (focus (intro w hSw; (try dsimp only at hSw); (try simp only [rl]); go_simp; (try with_reducible rfl))); (try simp only [rl])
    (refine wpAnyT_take (i := 12) (v := ?_) [15] (Array.getElem?_eq_getElem (by decide)) (by kernel_rfl) (by kernel_rfl) (by kernel_rfl) (by kernel_rfl) rfl rfl (by kernel_rfl) (fun _ _ _ h => h) (Or.inl ⟨by kernel_rfl, ?_⟩) (Sof _ Xt) ?_); rotate_left; (focus (intro w hSw; (try dsimp only at hSw); (try simp only [rl]); go_simp; (try with_reducible rfl))); (try simp only [rl])
    (refine wpAnyT_one (i := 14) (by kernel_rfl) (Array.getElem?_eq_getElem (by decide)) fun K hK => ?_); (try simp only [rl])
    go_simp
    refine hK.out _ _ (fun _ => Sof _ Xt) ?_; clear hK K; (try simp only [rl])
    (refine wpAnyT_one (i := 15) (by kernel_rfl) (Array.getElem?_eq_getElem (by decide)) fun K hK => ?_); (try simp only [rl])
    go_simp
    (refine hK.out _ _ (fun h => Bool.noConfusion (show true = false from h)) ?_); clear hK K; (try simp only [rl])
    refine wpAnyT_done (by kernel_rfl) ?_ _
    have hB0w : Box w2 w.heap.size #[.int .i64 x.k, .int .i64 x.n, .string x.s, .slice ka x.keys.length kc, .slice (some ⟨b', o', none⟩) x.l.length lc] 25 := Box.ext (w := wb) hb2 hB0
    have hB1w : Box w2 (w.heap.size + 2) #[.int .i64 0, .int .i64 0, .string ⟨#[]⟩, .slice none 0 0, .slice none 0 0] 25 := Box.ext (w := wb) hb2 hB1
    have hl1 := hB1.lt
    have Hin3 : Hid (r.In w2 (fun b => (S b ∨ w.heap.size + 3 ≤ b) ∧ b ≠ wb.heap.size) ka3 kc3 la3 lc3) := hin3.mono (fun b h hlt => by
      rcases h with h | h
      · have := hSl.out b h; exact ⟨.inl h, by omega⟩
      · simp at h; exact ⟨.inr (by omega), by omega⟩)
    have hx2 : Ext w w2 := Xt
    clear hin3 Sof hB0 hB1 hBy
    go_upto_region 6 with fail
    refine gen_world (R := fun wx => Box wx w.heap.size #[.int .i64 x.k, .int .i64 x.n, .string x.s, .slice ka x.keys.length kc, .slice (some ⟨b', o', none⟩) x.l.length lc] 25 ∧ Box wx (w.heap.size + 2) #[.int .i64 0, .int .i64 0, .string ⟨#[]⟩, .slice none 0 0, .slice none 0 0] 25 ∧ Box wx wb.heap.size #[.int .i64 r.k, .int .i64 r.n, .string r.s, .slice ka3 r.keys.length kc3, .slice la3 r.l.length lc3] 25 ∧ r.In wx (fun b => S b ∨ w.heap.size + 3 ≤ b) ka3 kc3 la3 lc3 ∧ Ext w wx)
      ⟨Bxt, Bxt, Bxt, Hin3.out.keep (Held.kept (Held.mono (S := fun b => b ≠ wb.heap.size) (a := w2) Hxt (fun b h => h.2))) (fun _ h _ => h.1), Xt⟩ ?_
    clear hB0w hB1w Hin3
    rintro wd ⟨hB0, hB1, hBu, hjn, hxd⟩
    have Hrn := Lib.hid hjn
    clear hjn hx2 hb2 rec
    by_cases her : er = 0
    · subst her
      simp only [if_true]
      have hc0 := hB0.cells; have hf0 := hB0.free; have hl0 := hB0.lt
      have hcu := hBu.cells; have hfu := hBu.free; have hlu := hBu.lt
      have hc1 := hB1.cells; have hf1 := hB1.free; have hl1 := hB1.lt
      go_wp2_with fail
      (refine (swapped_any x ka kc _ lc i hi r ka3 kc3 la3 lc3 (fun b => (S b ∨ w.heap.size + 3 ≤ b) ∧ b < wd.heap.size) _ (fun b h => by have := h.2; simpa using this) hsz ((Hin.out.ext hxd).mono fun b h hl => ⟨.inl h, hl⟩) (Hrn.out.mono fun b h hl => ⟨h, hl⟩)).mono ?_)
      rintro e w5 ⟨ka5, kc5, la5, lc5, rfl, hin5, h5⟩
      have hzb := hB1.lt
      have hx5 : Ext w w5 := Xt
      have hB1 := Box.ext (w := wd) (w' := w5) Xt hB1
      have Hin5 : Hid ((x.setL i r).In w5 (fun b => S b ∨ w.heap.size + 3 ≤ b) ka5 kc5 la5 lc5) := hin5.mono (fun b h _ => by rcases h with h | h; exact h.1; exact .inr (by (try simp at h); omega))
      clear hB0 hBu hin5 h5 hxd hc0 hf0 hl0 hcu hfu hlu hc1 hf1 hl1
      have hc1 := hB1.cells; have hf1 := hB1.free; have hl1 := hB1.lt
      go_wp2_with fail
      (with_reducible apply bp_ret); (focus (go_light; simp [results, Tryz.results79, go_sem, *]; rfl))
      exact ⟨ka5, kc5, la5, lc5, rfl, Hin5.out.keep (Held.kept (Held.mono (S := fun b => b ≠ w.heap.size + 2) (a := w5) Hxt (fun b h => by rcases h with h | h; (have := hSl.out b h; simp; omega); (simp; omega)))) (fun b h _ => by rcases h with h | h; exact .inl h; exact .inr (by omega)), Xt⟩
    · have he : (er != 0) = true := by simpa using her
      simp only [if_neg her]
      have hc0 := hB0.cells; have hf0 := hB0.free; have hl0 := hB0.lt
      have hc1 := hB1.cells; have hf1 := hB1.free; have hl1 := hB1.lt
      go_wp2_with fail
      (with_reducible apply bp_ret); (focus (go_light; simp [results, Tryz.results79, go_sem, *]; rfl))
      exact ⟨ka, kc, _, lc, rfl, (Hin.out.ext Xt).mono (fun b h _ => .inl h), Xt⟩

theorem kd_one (kn : Int) (y x : V) (a : ByteArray) : atV (kdF kn y) [a] x = kdF kn y x a := atV_one _ _ _
theorem alter_one (S : Nat → Prop) (w0 : World) (kn : Int) (name : ByteArray) (x : V) (ka : Option Addr) (kc : Nat) (la : Option Addr) (lc : Nat) (y : V) (kb : Option Addr) (kd : Nat) (lb : Option Addr) (ld : Nat) (b o c : Nat) (w : World)
    (hS : Hid (∀ b, S b → b < w0.heap.size)) (hso : x.sound) (hsz : x.size ≤ 536870912) (hw : Ext w0 w) (hin : x.In w S ka kc la lc) (hjn : y.In w S kb kd lb ld) (hk : w.cell? ⟨b, o, none⟩ = some (.string name)) :
    Calls Tryz.prog 79 #[.int .i64 kn, x.val ka kc la lc, .slice (some ⟨b, o, none⟩) 1 c, y.val kb kd lb ld] w (RetV2 S (kdF kn y x name).1 (.int .i64 (kdF kn y x name).2) w) := by
  unfold kdF
  by_cases h1 : kn = 1
  · rw [if_pos h1]
    by_cases h5 : x.k = 5
    · rw [addF_5 h5]
      exact alt_put S w0 kn name x ka kc la lc y kb kd lb ld b o c w hS hso (by omega) hw hin hjn hk h1 h5 _ (Lib.hid rfl)
    · by_cases h4 : x.k = 4
      · rw [addF4 h4]
        have hle := place_le name x.l.length
        by_cases hp : placeI name x.l.length < 0
        · rw [if_pos hp]
          exact alt_none3 S w0 kn name x ka kc la lc y kb kd lb ld b o c w hS hso (by omega) hw hin hjn hk h1 h4 _ (Lib.hid rfl) _ hp (Lib.hid rfl)
        · rw [if_neg hp]
          exact alt_ins S w0 kn name x ka kc la lc y kb kd lb ld b o c w hS hso hsz hw hin hjn hk h1 h4 _ (Lib.hid rfl) _ (by omega) (Lib.hid (by omega))
      · rw [addF_no h5 h4]
        exact alt_none1 S w0 kn name x ka kc la lc y kb kd lb ld b o c w hS hso (by omega) hw hin hjn hk h1 h5 h4 _ (Lib.hid rfl)
  · rw [if_neg h1]
    cases hc : x.child name with
    | none =>
      have e : (if kn = 3 then putF y else remF) x name = (x, 3) := by split; exact putF_none hc; exact remF_none hc
      rw [e]
      exact alt_none2 S w0 kn name x ka kc la lc y kb kd lb ld b o c w hS hso (by omega) hw hin hjn hk h1 (Lib.hid (childI_none hc))
    | some i =>
      have hi := child_lt hso hc
      have Hc := Lib.hid (childI_some hc)
      by_cases h3 : kn = 3
      · rw [if_pos h3, putF_some hc]
        exact alt_swap S w0 kn name x ka kc la lc y kb kd lb ld b o c w hS hso (by omega) hw hin hjn hk h3 i hi Hc
      · rw [if_neg h3]
        by_cases h5 : x.k = 5
        · rw [remF_5 hc h5]
          exact alt_del S w0 kn name x ka kc la lc y kb kd lb ld b o c w hS hso (by omega) hw hin hjn hk h1 h3 h5 i Hc
        · rw [remF_4 hc h5]
          exact alt_delL S w0 kn name x ka kc la lc y kb kd lb ld b o c w hS hso hsz hw hin hjn hk h1 h3 (child_k hc h5) i hi Hc
theorem alter_any (S : Nat → Prop) (w0 : World) (kn : Int) (y : V) (kb : Option Addr) (kd : Nat) (lb : Option Addr) (ld : Nat) (hS : Hid (∀ b, S b → b < w0.heap.size)) (hy : Hid (y.In w0 S kb kd lb ld)) :
    ∀ (ks : List ByteArray) (x : V) (ka : Option Addr) (kc : Nat) (la : Option Addr) (lc : Nat) (a : Option Addr) (n c : Nat) (T : Nat → Prop) (w : World), ks ≠ [] → ks.length = n → n ≤ 1073741824 → n ≤ c → c ≤ maxLen → x.sound → x.size ≤ 536870912 → Ext w0 w → x.In w S ka kc la lc → StrsIn w T a ks →
      Calls Tryz.prog 79 #[.int .i64 kn, x.val ka kc la lc, .slice a n c, y.val kb kd lb ld] w (RetV2 S (atV (kdF kn y) ks x).1 (.int .i64 (atV (kdF kn y) ks x).2) w) := by
  intro ks
  induction ks with
  | nil => intro x _ _ _ _ _ _ _ _ _ h; exact absurd rfl h
  | cons k ks ih =>
    intro x ka kc la lc a n c T w _ hn hnb hnc hcb hso hsz hw hin hst
    obtain ⟨b, o, rfl, -, hc⟩ := hst.resolve_left (by simp)
    have h0 := hc 0 (by simp)
    simp only [Nat.add_zero, List.getElem_cons_zero] at h0
    cases ks with
    | nil =>
      simp only [List.length_singleton] at hn
      subst hn
      rw [atV_one]
      exact alter_one S w0 kn k x ka kc la lc y kb kd lb ld b o c w hS hso hsz hw hin (hy.out.ext hw) h0
    | cons k2 r =>
      have hn2 : 2 ≤ n := by simp at hn; omega
      cases hch : x.child k with
      | none =>
        rw [atV_none hch]
        exact alt_miss S w0 kn k x ka kc la lc y kb kd lb ld b o n c w hS hso (by omega) hw hin (hy.out.ext hw) h0 hn2 hnb hch
      | some i =>
        have hi := child_lt hso hch
        have he : atV (kdF kn y) (k :: k2 :: r) x = (if (atV (kdF kn y) (k2 :: r) x.l[i]).2 = 0 then x.setL i (atV (kdF kn y) (k2 :: r) x.l[i]).1 else x, (atV (kdF kn y) (k2 :: r) x.l[i]).2) := by
          rw [atV_some hch hi]
          split
          · rename_i h; rw [h]
          · rfl
        rw [he]
        refine alt_more S w0 kn k x ka kc la lc y kb kd lb ld b o n c w hS hso (by omega) hw hin (hy.out.ext hw) h0 hn2 hnc hnb hcb i hi (Lib.hid (childI_some hch)) _ _ ?_
        intro ka2 kc2 la2 lc2 w' hw' hin'
        have hsi := V.size_item hi
        refine ih x.l[i] ka2 kc2 la2 lc2 (some ⟨b, o + 1, none⟩) (n - 1) (c - 1) (fun _ => True) w' (by simp) (by simp at hn ⊢; omega) (by omega) (by omega) (by omega) (hso.item (List.getElem_mem hi)) (by omega) (hw.trans hw') hin' ?_
        refine .inr ⟨b, o + 1, rfl, trivial, fun j hj => ?_⟩
        have := hc (j + 1) (by simpa using hj)
        rw [List.getElem_cons_succ, show o + (j + 1) = o + 1 + j by omega] at this
        exact hw'.cell this
end Go.Proofs.YtnbappeiebameaaGreatDoor

/- The walk of the reference's Alter. -/
namespace Go.Proofs.YtnbappeiebameaaGreatDoor
open Go.RowKit
attribute [local go_sem ↓] Go.wp_at_zero Go.wp_at_succ

/-- Something is done at a path; what kind: a number. -/
def altP (kn : Int) (x : V) (p : ByteArray) (y : V) : V × Int := if kn = 1 then addP x p y else if kn = 3 then putP x p y else remP x p
theorem change_eq {x : V} {p : ByteArray} {F : Doer} {ks : List ByteArray} (hn : namesB p = some ks) (hf : x.fine = true) (hk : ks ≠ []) :
    changeV x p F = if (atV F ks x).2 = 0 then (if (atV F ks x).1.fine = true then ((atV F ks x).1, 0) else (x, 2)) else (x, (atV F ks x).2) := by
  unfold changeV; rw [hn]; simp only; rw [if_neg (by rw [hf]; decide), if_neg hk]
theorem names_nil {p : ByteArray} (h : namesB p = some []) : p.data.toList = [] := by
  by_cases hp : p.data.toList = []
  · exact hp
  · exact absurd rfl (names_some h hp)
theorem altP_eq {kn : Int} {x : V} {p : ByteArray} {y : V} {ks : List ByteArray} (hy : kn ≠ 2 → y.fine = true) (hk2 : kn = 1 ∨ kn = 2 ∨ kn = 3) (hn : namesB p = some ks) (hf : x.fine = true) (hk : ks ≠ []) : altP kn x p y = changeV x p (kdF kn y) := by
  have hp : ¬ (p.data.toList = [] ∧ x.fine = true) := fun h => hk (by have := names_empty h.1; rw [hn] at this; exact Option.some.inj this)
  rcases hk2 with rfl | rfl | rfl
  · show addP x p y = changeV x p (addF y)
    unfold addP; rw [if_neg (by rw [hy (by decide)]; decide), if_neg hp]
  · rfl
  · show putP x p y = changeV x p (putF y)
    unfold putP; rw [if_neg (by rw [hy (by decide)]; decide), if_neg hp]
theorem altP_first {kn : Int} {x : V} {p : ByteArray} {y : V} (hk : kn = 1 ∨ kn = 3) (hy : y.fine = false) : altP kn x p y = (x, 1) := by
  rcases hk with rfl | rfl
  · show addP x p y = _; unfold addP; rw [if_pos hy]
  · show putP x p y = _; unfold putP; rw [if_pos hy]
section
variable {kn : Int} {x : V} {p : ByteArray} {y : V} {ks : List ByteArray}
abbrev AltOk (kn : Int) (y : V) : Prop := (kn ≠ 2 → y.fine = true) ∧ (kn = 1 ∨ kn = 2 ∨ kn = 3)
theorem altP_bad (h : AltOk kn y) (hn : namesB p = none) : altP kn x p y = (x, 1) := by
  have hc : ∀ F, changeV x p F = (x, 1) := fun F => by unfold changeV; rw [hn]
  have hp : ¬ (p.data.toList = [] ∧ x.fine = true) := fun h => by have := names_empty h.1; rw [hn] at this; cases this
  obtain ⟨hy, rfl | rfl | rfl⟩ := h
  · show addP x p y = _
    unfold addP; rw [if_neg (by rw [hy (by decide)]; decide), if_neg hp, hc]
  · exact hc _
  · show putP x p y = _
    unfold putP; rw [if_neg (by rw [hy (by decide)]; decide), if_neg hp, hc]
theorem altP_unfine (h : AltOk kn y) (hn : namesB p = some ks) (hf : x.fine = false) : altP kn x p y = (x, 1) := by
  have hc : ∀ F, changeV x p F = (x, 1) := fun F => by unfold changeV; rw [hn]; simp only; rw [if_pos hf]
  have hp : ¬ (p.data.toList = [] ∧ x.fine = true) := fun h => by rw [hf] at h; exact absurd h.2 (by decide)
  obtain ⟨hy, rfl | rfl | rfl⟩ := h
  · show addP x p y = _
    unfold addP; rw [if_neg (by rw [hy (by decide)]; decide), if_neg hp, hc]
  · exact hc _
  · show putP x p y = _
    unfold putP; rw [if_neg (by rw [hy (by decide)]; decide), if_neg hp, hc]
theorem altP_nil2 (hn : namesB p = some []) (hf : x.fine = true) (hk : kn = 2) : altP kn x p y = (x, 1) := by
  subst hk
  show remP x p = _
  unfold remP changeV; rw [hn]; simp only; rw [if_neg (by rw [hf]; decide), if_pos trivial]
theorem altP_nil (h : AltOk kn y) (hn : namesB p = some []) (hf : x.fine = true) (hk : kn ≠ 2) : altP kn x p y = (y, 0) := by
  have hp := names_nil hn
  obtain ⟨hy, rfl | rfl | rfl⟩ := h
  · show addP x p y = _
    unfold addP; rw [if_neg (by rw [hy (by decide)]; decide), if_pos ⟨hp, hf⟩]
  · exact absurd rfl hk
  · show putP x p y = _
    unfold putP; rw [if_neg (by rw [hy (by decide)]; decide), if_pos ⟨hp, hf⟩]
theorem altP_ok (h : AltOk kn y) (hn : namesB p = some ks) (hf : x.fine = true) (hk : ks ≠ []) (h0 : (atV (kdF kn y) ks x).2 = 0) (hg : (atV (kdF kn y) ks x).1.fine = true) : altP kn x p y = ((atV (kdF kn y) ks x).1, 0) := by
  rw [altP_eq h.1 h.2 hn hf hk, change_eq hn hf hk, if_pos h0, if_pos hg]
theorem altP_big (h : AltOk kn y) (hn : namesB p = some ks) (hf : x.fine = true) (hk : ks ≠ []) (h0 : (atV (kdF kn y) ks x).2 = 0) (hg : (atV (kdF kn y) ks x).1.fine = false) : altP kn x p y = (x, 2) := by
  rw [altP_eq h.1 h.2 hn hf hk, change_eq hn hf hk, if_pos h0, if_neg (by rw [hg]; decide)]
theorem altP_err (h : AltOk kn y) (hn : namesB p = some ks) (hf : x.fine = true) (hk : ks ≠ []) (h0 : (atV (kdF kn y) ks x).2 ≠ 0) : altP kn x p y = (x, (atV (kdF kn y) ks x).2) := by
  rw [altP_eq h.1 h.2 hn hf hk, change_eq hn hf hk, if_neg h0]
end
theorem kdF_size (kn : Int) (y x : V) (name : ByteArray) (hn : name.size ≤ 8000) : (kdF kn y x name).1.size ≤ x.size + (y.size + 8001) := by
  unfold kdF
  split
  · exact addF_size y x name hn
  · split
    · exact putF_size y x name hn
    · have := remF_size x name hn; omega

set_option maxRecDepth 100000 in
set_option maxHeartbeats 8000000 in
theorem alterR_any (kn : Int) (hkn : kn = 1 ∨ kn = 2 ∨ kn = 3) (x : V) (ka : Option Addr) (kc : Nat) (la : Option Addr) (lc : Nat) (y : V) (kb : Option Addr) (kd : Nat) (lb : Option Addr) (ld : Nat) (p : ByteArray) (S : Nat → Prop) (w : World) (hsx : x.size ≤ 536870912) (hsy : y.size ≤ 536862000) (hp : p.size ≤ 1073741824) (hin : x.In w S ka kc la lc) (hjn : y.In w S kb kd lb ld) :
    Calls Tryz.prog 20 #[.int .i64 kn, x.val ka kc la lc, .string p, y.val kb kd lb ld] w (RetV2 S (altP kn x p y).1 (.int .i64 (altP kn x p y).2) w) := by
  have Hin : Hid (x.In w (fun b => S b ∧ b < w.heap.size) ka kc la lc) := hin.mono fun b h hl => ⟨h, hl⟩
  have Hjn : Hid (y.In w (fun b => S b ∧ b < w.heap.size) kb kd lb ld) := hjn.mono fun b h hl => ⟨h, hl⟩
  have HB : Hid (∀ ks : List ByteArray, (∀ k ∈ ks, k.size ≤ 8000) → (atV (kdF kn y) ks x).1.size ≤ 1073741824) := fun ks h => by
    have := at_size (kdF kn y) (y.size + 8001) (kdF_size kn y) ks x h
    omega
  have Hkn := Lib.hid hkn
  clear hin hjn hkn
  by_cases hk2 : kn = 2
  · have hkb : (kn != 2) = false := by simpa using hk2
    have hkc : (kn == 2) = true := by simpa using hk2
    have Hk2 := Lib.hid hk2
    have Hy1 : Hid (AltOk kn y) := ⟨fun h => absurd hk2 h, Hkn.out⟩
    clear hk2
    go_enter Tryz.func20, Tryz.ntmps20
    go_upto_region 1 with fail
    refine gen_world (R := fun wx => Box wx w.heap.size #[.int .i64 x.k, .int .i64 x.n, .string x.s, .slice ka x.keys.length kc, .slice la x.l.length lc] 25 ∧ Box wx (w.heap.size + 1) #[.int .i64 y.k, .int .i64 y.n, .string y.s, .slice kb y.keys.length kd, .slice lb y.l.length ld] 25 ∧ Box wx (w.heap.size + 2) #[.int .i64 0, .int .i64 0, .string ⟨#[]⟩, .slice none 0 0, .slice none 0 0] 25 ∧ Ext w wx) ⟨Bxt, Bxt, Bxt, Xt⟩ ?_
    rintro wa ⟨hB0, hBy, hB1, hxa⟩
    go_wp2_with fail
    (refine (splitPath_any p hp _).mono ?_)
    rintro e w2 (⟨l, a, n, c, ks, hr, rfl, hn, hmap, hok, hst, h2⟩ | ⟨hbad, rfl, h2⟩)
    · have hnb : namesB p = some ks := namesB_of (by rw [hr, hmap])
      have hlen := (namesB_small hnb).1
      have hsm := (namesB_small hnb).2
      have Hnb := Lib.hid hnb
      have Hsm := Lib.hid hsm
      have Hst := Lib.hid hst
      have hB0 := Box.ext (w' := w2) Xt hB0
      have hBy := Box.ext (w' := w2) Xt hBy
      have hB1 := Box.ext (w' := w2) Xt hB1
      have hx2 : Ext w w2 := Xt
      clear h2 hnb hsm hst hr hmap hxa
      subst hn
      cases hfi : x.fine with
      | false =>
        have Hfi := Lib.hid hfi
        clear hfi
        have hc0 := hB0.cells; have hf0 := hB0.free; have hl0 := hB0.lt
        go_wp2_with fail
        (refine (goodValue_any x ka kc la lc _ _ (by omega) (Hin.out.ext Xt)).mono ?_)
        rw [Hfi.out]
        rintro e w3 ⟨rfl, h3⟩
        have hB0 := Box.ext (w' := w3) Xt hB0
        have hB1 := Box.ext (w' := w3) Xt hB1
        have hx3 : Ext w w3 := Xt
        clear h3 hc0 hf0 hl0 hBy
        have hc0 := hB0.cells; have hf0 := hB0.free; have hl0 := hB0.lt
        have hc1 := hB1.cells; have hf1 := hB1.free; have hl1 := hB1.lt
        go_wp2_with fail
        (with_reducible apply bp_ret); (focus (go_light; simp [results, Tryz.results20, go_sem, *]; rfl))
        rw [altP_unfine Hy1.out Hnb.out Hfi.out]
        exact ⟨ka, kc, la, lc, rfl, (Hin.out.ext Xt).mono (fun b h _ => .inl h.1), Xt⟩
      | true =>
        have Hfi := Lib.hid hfi
        have hso := fine_sound hfi
        have hxs := fine_size hfi
        clear hfi
        have hc0 := hB0.cells; have hf0 := hB0.free; have hl0 := hB0.lt
        go_wp2_with fail
        (refine (goodValue_any x ka kc la lc _ _ (by omega) (Hin.out.ext Xt)).mono ?_)
        rw [Hfi.out]
        rintro e w3 ⟨rfl, h3⟩
        have hB0 := Box.ext (w' := w3) Xt hB0
        have hBy := Box.ext (w' := w3) Xt hBy
        have hB1 := Box.ext (w' := w3) Xt hB1
        have hx3 : Ext w w3 := Xt
        have Hst := Lib.hid (Hst.out.ext h3)
        clear h3 hc0 hf0 hl0 hx2
        have hc0 := hB0.cells; have hf0 := hB0.free; have hl0 := hB0.lt
        have hcy := hBy.cells; have hfy := hBy.free; have hly := hBy.lt
        have hc1 := hB1.cells; have hf1 := hB1.free; have hl1 := hB1.lt
        by_cases hk0 : ks = []
        · subst hk0
          go_wp2_with fail
          (with_reducible apply bp_ret); (focus (go_light; simp [results, Tryz.results20, go_sem, *]; rfl))
          rw [altP_nil2 Hnb.out Hfi.out Hk2.out]
          exact ⟨ka, kc, la, lc, rfl, (Hin.out.ext Xt).mono (fun b h _ => .inl h.1), Xt⟩
        · have hks : ((ks.length : Int) == 0) = false := by
            have := List.length_pos_iff.2 hk0
            simp; omega
          have Hk0 := Lib.hid hk0
          have hbz := HB.out ks Hsm.out
          obtain ⟨u, hu⟩ : ∃ u, (atV (kdF kn y) ks x).1 = u := ⟨_, rfl⟩
          obtain ⟨er, her0⟩ : ∃ er, (atV (kdF kn y) ks x).2 = er := ⟨_, rfl⟩
          rw [hu] at hbz
          have Hu := Lib.hid hu
          have Her0 := Lib.hid her0
          clear hk0 hu her0
          go_wp2_with fail
          (refine (alter_any (fun b => S b ∧ b < w.heap.size) w kn y kb kd lb ld (fun b h => h.2) (Hjn.out) ks x ka kc la lc a ks.length c _ _ Hk0.out rfl (by omega) hok.1 hok.2.1 hso (by omega) Xt (Hin.out.ext Xt) (Hst.out.ext Xt)).mono ?_)
          rw [Hu.out, Her0.out]
          rintro e w4 ⟨ka3, kc3, la3, lc3, rfl, hin3, h3⟩
          have hz2 := hB1.lt
          have hx4 : Ext w w4 := Xt
          have Hin4 : Hid (u.In w4 (fun b => (S b ∧ b < w.heap.size) ∨ w.heap.size + 3 ≤ b) ka3 kc3 la3 lc3) := hin3.mono (fun b h _ => by rcases h with h | h; exact .inl h; exact .inr (by (try simp at h); omega))
          have hB0 := Box.ext (w := w3) (w' := w4) Xt hB0
          have hB1 := Box.ext (w := w3) (w' := w4) Xt hB1
          clear h3 hin3 hc0 hf0 hl0 hcy hfy hly hc1 hf1 hl1 hx3 Hst hBy
          go_upto_region 11 with fail
          refine gen_world (R := fun wx => Box wx w.heap.size #[.int .i64 x.k, .int .i64 x.n, .string x.s, .slice ka x.keys.length kc, .slice la x.l.length lc] 25 ∧ Box wx (w.heap.size + 2) #[.int .i64 0, .int .i64 0, .string ⟨#[]⟩, .slice none 0 0, .slice none 0 0] 25 ∧ Box wx w4.heap.size #[.int .i64 u.k, .int .i64 u.n, .string u.s, .slice ka3 u.keys.length kc3, .slice la3 u.l.length lc3] 25 ∧ u.In wx (fun b => (S b ∧ b < w.heap.size) ∨ w.heap.size + 3 ≤ b) ka3 kc3 la3 lc3 ∧ Ext w wx) ⟨Bxt, Bxt, Bxt, Hin4.out.ext Xt, Xt⟩ ?_
          have hl4 := hB1.lt
          clear hB0 hB1 Hin4 hx4
          rintro wd ⟨hB0, hB1, hBu, hjn, hxd⟩
          have Hun := Lib.hid hjn
          clear hjn
          have hc0 := hB0.cells; have hf0 := hB0.free; have hl0 := hB0.lt
          have hc1 := hB1.cells; have hf1 := hB1.free; have hl1 := hB1.lt
          by_cases her : er = 0
          · have he : (er != 0) = false := by simpa using her
            have Her := Lib.hid her
            clear her
            have hcu := hBu.cells; have hfu := hBu.free; have hlu := hBu.lt
            cases hf : u.fine with
            | false =>
              have Hf := Lib.hid hf
              clear hf
              go_wp2_with fail
              (refine (goodValue_any u ka3 kc3 la3 lc3 _ _ hbz (Hun.out.ext Xt)).mono ?_)
              rw [Hf.out]
              rintro e w5 ⟨rfl, h5⟩
              have hB0 := Box.ext (w' := w5) Xt hB0
              have hB1 := Box.ext (w' := w5) Xt hB1
              have hx5 : Ext w w5 := Xt
              clear h5 hc0 hf0 hl0 hcu hfu hlu hc1 hf1 hl1 hxd
              have hc0 := hB0.cells; have hf0 := hB0.free; have hl0 := hB0.lt
              have hc1 := hB1.cells; have hf1 := hB1.free; have hl1 := hB1.lt
              go_wp2_with fail
              (with_reducible apply bp_ret); (focus (go_light; simp [results, Tryz.results20, go_sem, *]; rfl))
              rw [altP_big Hy1.out Hnb.out Hfi.out Hk0.out (Her0.out.trans Her.out) (by rw [Hu.out]; exact Hf.out)]
              exact ⟨ka, kc, la, lc, rfl, (Hin.out.ext Xt).mono (fun b h _ => .inl h.1), Xt⟩
            | true =>
              have Hf := Lib.hid hf
              clear hf
              go_wp2_with fail
              (refine (goodValue_any u ka3 kc3 la3 lc3 _ _ hbz (Hun.out.ext Xt)).mono ?_)
              rw [Hf.out]
              rintro e w5 ⟨rfl, h5⟩
              have hBu := Box.ext (w' := w5) Xt hBu
              have hB1 := Box.ext (w' := w5) Xt hB1
              have hx5 : Ext w w5 := Xt
              have Hun := Lib.hid (Hun.out.ext (show Ext wd w5 from Xt))
              clear h5 hc0 hf0 hl0 hcu hfu hlu hc1 hf1 hl1 hxd hB0
              have hcu := hBu.cells; have hfu := hBu.free; have hlu := hBu.lt
              have hc1 := hB1.cells; have hf1 := hB1.free; have hl1 := hB1.lt
              go_wp2_with fail
              (with_reducible apply bp_ret); (focus (go_light; simp [results, Tryz.results20, go_sem, *]; rfl))
              rw [(altP_ok Hy1.out Hnb.out Hfi.out Hk0.out (Her0.out.trans Her.out) (by rw [Hu.out]; exact Hf.out)).trans (by rw [Hu.out])]
              exact ⟨ka3, kc3, la3, lc3, rfl, Hun.out.keep (Held.kept (Held.mono (S := fun b => b ≠ w.heap.size + 2) (a := w5) Hxt (fun b h => by rcases h with h | h; (have := h.2; simp; omega); (simp; omega)))) (fun b h _ => by rcases h with h | h; exact .inl h.1; exact .inr (by omega)), Xt⟩
          · have he : (er != 0) = true := by simpa using her
            have Her := Lib.hid her
            clear her
            go_wp2_with fail
            (with_reducible apply bp_ret); (focus (go_light; simp [results, Tryz.results20, go_sem, *]; rfl))
            rw [(altP_err Hy1.out Hnb.out Hfi.out Hk0.out (by rw [Her0.out]; exact Her.out)).trans (by rw [Her0.out])]
            exact ⟨ka, kc, la, lc, rfl, (Hin.out.ext Xt).mono (fun b h _ => .inl h.1), Xt⟩
    · have hnb : namesB p = none := namesB_none hbad
      have Hnb := Lib.hid hnb
      have hB0 := Box.ext (w' := w2) Xt hB0
      have hB1 := Box.ext (w' := w2) Xt hB1
      have hx2 : Ext w w2 := Xt
      clear h2 hbad hnb hxa hBy
      have hc0 := hB0.cells; have hf0 := hB0.free; have hl0 := hB0.lt
      have hc1 := hB1.cells; have hf1 := hB1.free; have hl1 := hB1.lt
      go_wp2_with fail
      (with_reducible apply bp_ret); (focus (go_light; simp [results, Tryz.results20, go_sem, *]; rfl))
      rw [altP_bad Hy1.out Hnb.out]
      exact ⟨ka, kc, la, lc, rfl, (Hin.out.ext Xt).mono (fun b h _ => .inl h.1), Xt⟩
  · have hkb : (kn != 2) = true := by simpa using hk2
    have hkc : (kn == 2) = false := by simpa using hk2
    have Hk2 := Lib.hid hk2
    clear hk2
    cases hfy : y.fine with
    | false =>
      have Hfy := Lib.hid hfy
      clear hfy
      go_enter Tryz.func20, Tryz.ntmps20
      go_upto_region 1 with fail
      refine gen_world (R := fun wx => Box wx w.heap.size #[.int .i64 x.k, .int .i64 x.n, .string x.s, .slice ka x.keys.length kc, .slice la x.l.length lc] 25 ∧ Box wx (w.heap.size + 1) #[.int .i64 y.k, .int .i64 y.n, .string y.s, .slice kb y.keys.length kd, .slice lb y.l.length ld] 25 ∧ Box wx (w.heap.size + 2) #[.int .i64 0, .int .i64 0, .string ⟨#[]⟩, .slice none 0 0, .slice none 0 0] 25 ∧ Ext w wx) ⟨Bxt, Bxt, Bxt, Xt⟩ ?_
      rintro wa ⟨hB0, hBy, hB1, hxa⟩
      have hcy := hBy.cells; have hfy := hBy.free; have hly := hBy.lt
      go_wp2_with fail
      (refine (goodValue_any y kb kd lb ld _ _ (by omega) (Hjn.out.ext Xt)).mono ?_)
      rw [Hfy.out]
      rintro e w1 ⟨rfl, h1⟩
      have hB0 := Box.ext (w' := w1) Xt hB0
      have hB1 := Box.ext (w' := w1) Xt hB1
      have hx1 : Ext w w1 := Xt
      clear h1 hcy hfy hly hxa hBy
      have hc0 := hB0.cells; have hf0 := hB0.free; have hl0 := hB0.lt
      have hc1 := hB1.cells; have hf1 := hB1.free; have hl1 := hB1.lt
      go_wp2_with fail
      (with_reducible apply bp_ret); (focus (go_light; simp [results, Tryz.results20, go_sem, *]; rfl))
      rw [altP_first (by have := Hkn.out; have := Hk2.out; omega) Hfy.out]
      exact ⟨ka, kc, la, lc, rfl, (Hin.out.ext Xt).mono (fun b h _ => .inl h.1), Xt⟩
    | true =>
      have Hfy := Lib.hid hfy
      have Hy1 : Hid (AltOk kn y) := ⟨fun _ => Hfy.out, Hkn.out⟩
      clear hfy
      go_enter Tryz.func20, Tryz.ntmps20
      go_upto_region 1 with fail
      refine gen_world (R := fun wx => Box wx w.heap.size #[.int .i64 x.k, .int .i64 x.n, .string x.s, .slice ka x.keys.length kc, .slice la x.l.length lc] 25 ∧ Box wx (w.heap.size + 1) #[.int .i64 y.k, .int .i64 y.n, .string y.s, .slice kb y.keys.length kd, .slice lb y.l.length ld] 25 ∧ Box wx (w.heap.size + 2) #[.int .i64 0, .int .i64 0, .string ⟨#[]⟩, .slice none 0 0, .slice none 0 0] 25 ∧ Ext w wx) ⟨Bxt, Bxt, Bxt, Xt⟩ ?_
      rintro wa ⟨hB0, hBy, hB1, hxa⟩
      have hcy := hBy.cells; have hfy := hBy.free; have hly := hBy.lt
      go_wp2_with fail
      (refine (goodValue_any y kb kd lb ld _ _ (by omega) (Hjn.out.ext Xt)).mono ?_)
      rw [Hfy.out]
      rintro e w1 ⟨rfl, h1⟩
      have hB0 := Box.ext (w' := w1) Xt hB0
      have hBy := Box.ext (w' := w1) Xt hBy
      have hB1 := Box.ext (w' := w1) Xt hB1
      have hx1 : Ext w w1 := Xt
      clear h1 hcy hfy hly hxa
      have hxa := hx1
      go_wp2_with fail
      (refine (splitPath_any p hp _).mono ?_)
      rintro e w2 (⟨l, a, n, c, ks, hr, rfl, hn, hmap, hok, hst, h2⟩ | ⟨hbad, rfl, h2⟩)
      · have hnb : namesB p = some ks := namesB_of (by rw [hr, hmap])
        have hlen := (namesB_small hnb).1
        have hsm := (namesB_small hnb).2
        have Hnb := Lib.hid hnb
        have Hsm := Lib.hid hsm
        have Hst := Lib.hid hst
        have hB0 := Box.ext (w' := w2) Xt hB0
        have hBy := Box.ext (w' := w2) Xt hBy
        have hB1 := Box.ext (w' := w2) Xt hB1
        have hx2 : Ext w w2 := Xt
        clear h2 hnb hsm hst hr hmap hxa
        subst hn
        cases hfi : x.fine with
        | false =>
          have Hfi := Lib.hid hfi
          clear hfi
          have hc0 := hB0.cells; have hf0 := hB0.free; have hl0 := hB0.lt
          go_wp2_with fail
          (refine (goodValue_any x ka kc la lc _ _ (by omega) (Hin.out.ext Xt)).mono ?_)
          rw [Hfi.out]
          rintro e w3 ⟨rfl, h3⟩
          have hB0 := Box.ext (w' := w3) Xt hB0
          have hB1 := Box.ext (w' := w3) Xt hB1
          have hx3 : Ext w w3 := Xt
          clear h3 hc0 hf0 hl0 hBy
          have hc0 := hB0.cells; have hf0 := hB0.free; have hl0 := hB0.lt
          have hc1 := hB1.cells; have hf1 := hB1.free; have hl1 := hB1.lt
          go_wp2_with fail
          (with_reducible apply bp_ret); (focus (go_light; simp [results, Tryz.results20, go_sem, *]; rfl))
          rw [altP_unfine Hy1.out Hnb.out Hfi.out]
          exact ⟨ka, kc, la, lc, rfl, (Hin.out.ext Xt).mono (fun b h _ => .inl h.1), Xt⟩
        | true =>
          have Hfi := Lib.hid hfi
          have hso := fine_sound hfi
          have hxs := fine_size hfi
          clear hfi
          have hc0 := hB0.cells; have hf0 := hB0.free; have hl0 := hB0.lt
          go_wp2_with fail
          (refine (goodValue_any x ka kc la lc _ _ (by omega) (Hin.out.ext Xt)).mono ?_)
          rw [Hfi.out]
          rintro e w3 ⟨rfl, h3⟩
          have hB0 := Box.ext (w' := w3) Xt hB0
          have hBy := Box.ext (w' := w3) Xt hBy
          have hB1 := Box.ext (w' := w3) Xt hB1
          have hx3 : Ext w w3 := Xt
          have Hst := Lib.hid (Hst.out.ext h3)
          clear h3 hc0 hf0 hl0 hx2
          have hc0 := hB0.cells; have hf0 := hB0.free; have hl0 := hB0.lt
          have hcy := hBy.cells; have hfy := hBy.free; have hly := hBy.lt
          have hc1 := hB1.cells; have hf1 := hB1.free; have hl1 := hB1.lt
          by_cases hk0 : ks = []
          · subst hk0
            go_wp2_with fail
            (with_reducible apply bp_ret); (focus (go_light; simp [results, Tryz.results20, go_sem, *]; rfl))
            rw [altP_nil Hy1.out Hnb.out Hfi.out Hk2.out]
            exact ⟨kb, kd, lb, ld, rfl, (Hjn.out.ext Xt).mono (fun b h _ => .inl h.1), Xt⟩
          · have hks : ((ks.length : Int) == 0) = false := by
              have := List.length_pos_iff.2 hk0
              simp; omega
            have Hk0 := Lib.hid hk0
            have hbz := HB.out ks Hsm.out
            obtain ⟨u, hu⟩ : ∃ u, (atV (kdF kn y) ks x).1 = u := ⟨_, rfl⟩
            obtain ⟨er, her0⟩ : ∃ er, (atV (kdF kn y) ks x).2 = er := ⟨_, rfl⟩
            rw [hu] at hbz
            have Hu := Lib.hid hu
            have Her0 := Lib.hid her0
            clear hk0 hu her0
            go_wp2_with fail
            (refine (alter_any (fun b => S b ∧ b < w.heap.size) w kn y kb kd lb ld (fun b h => h.2) (Hjn.out) ks x ka kc la lc a ks.length c _ _ Hk0.out rfl (by omega) hok.1 hok.2.1 hso (by omega) Xt (Hin.out.ext Xt) (Hst.out.ext Xt)).mono ?_)
            rw [Hu.out, Her0.out]
            rintro e w4 ⟨ka3, kc3, la3, lc3, rfl, hin3, h3⟩
            have hz2 := hB1.lt
            have hx4 : Ext w w4 := Xt
            have Hin4 : Hid (u.In w4 (fun b => (S b ∧ b < w.heap.size) ∨ w.heap.size + 3 ≤ b) ka3 kc3 la3 lc3) := hin3.mono (fun b h _ => by rcases h with h | h; exact .inl h; exact .inr (by (try simp at h); omega))
            have hB0 := Box.ext (w := w3) (w' := w4) Xt hB0
            have hB1 := Box.ext (w := w3) (w' := w4) Xt hB1
            clear h3 hin3 hc0 hf0 hl0 hcy hfy hly hc1 hf1 hl1 hx3 Hst hBy
            go_upto_region 11 with fail
            refine gen_world (R := fun wx => Box wx w.heap.size #[.int .i64 x.k, .int .i64 x.n, .string x.s, .slice ka x.keys.length kc, .slice la x.l.length lc] 25 ∧ Box wx (w.heap.size + 2) #[.int .i64 0, .int .i64 0, .string ⟨#[]⟩, .slice none 0 0, .slice none 0 0] 25 ∧ Box wx w4.heap.size #[.int .i64 u.k, .int .i64 u.n, .string u.s, .slice ka3 u.keys.length kc3, .slice la3 u.l.length lc3] 25 ∧ u.In wx (fun b => (S b ∧ b < w.heap.size) ∨ w.heap.size + 3 ≤ b) ka3 kc3 la3 lc3 ∧ Ext w wx) ⟨Bxt, Bxt, Bxt, Hin4.out.ext Xt, Xt⟩ ?_
            have hl4 := hB1.lt
            clear hB0 hB1 Hin4 hx4
            rintro wd ⟨hB0, hB1, hBu, hjn, hxd⟩
            have Hun := Lib.hid hjn
            clear hjn
            have hc0 := hB0.cells; have hf0 := hB0.free; have hl0 := hB0.lt
            have hc1 := hB1.cells; have hf1 := hB1.free; have hl1 := hB1.lt
            by_cases her : er = 0
            · have he : (er != 0) = false := by simpa using her
              have Her := Lib.hid her
              clear her
              have hcu := hBu.cells; have hfu := hBu.free; have hlu := hBu.lt
              cases hf : u.fine with
              | false =>
                have Hf := Lib.hid hf
                clear hf
                go_wp2_with fail
                (refine (goodValue_any u ka3 kc3 la3 lc3 _ _ hbz (Hun.out.ext Xt)).mono ?_)
                rw [Hf.out]
                rintro e w5 ⟨rfl, h5⟩
                have hB0 := Box.ext (w' := w5) Xt hB0
                have hB1 := Box.ext (w' := w5) Xt hB1
                have hx5 : Ext w w5 := Xt
                clear h5 hc0 hf0 hl0 hcu hfu hlu hc1 hf1 hl1 hxd
                have hc0 := hB0.cells; have hf0 := hB0.free; have hl0 := hB0.lt
                have hc1 := hB1.cells; have hf1 := hB1.free; have hl1 := hB1.lt
                go_wp2_with fail
                (with_reducible apply bp_ret); (focus (go_light; simp [results, Tryz.results20, go_sem, *]; rfl))
                rw [altP_big Hy1.out Hnb.out Hfi.out Hk0.out (Her0.out.trans Her.out) (by rw [Hu.out]; exact Hf.out)]
                exact ⟨ka, kc, la, lc, rfl, (Hin.out.ext Xt).mono (fun b h _ => .inl h.1), Xt⟩
              | true =>
                have Hf := Lib.hid hf
                clear hf
                go_wp2_with fail
                (refine (goodValue_any u ka3 kc3 la3 lc3 _ _ hbz (Hun.out.ext Xt)).mono ?_)
                rw [Hf.out]
                rintro e w5 ⟨rfl, h5⟩
                have hBu := Box.ext (w' := w5) Xt hBu
                have hB1 := Box.ext (w' := w5) Xt hB1
                have hx5 : Ext w w5 := Xt
                have Hun := Lib.hid (Hun.out.ext (show Ext wd w5 from Xt))
                clear h5 hc0 hf0 hl0 hcu hfu hlu hc1 hf1 hl1 hxd hB0
                have hcu := hBu.cells; have hfu := hBu.free; have hlu := hBu.lt
                have hc1 := hB1.cells; have hf1 := hB1.free; have hl1 := hB1.lt
                go_wp2_with fail
                (with_reducible apply bp_ret); (focus (go_light; simp [results, Tryz.results20, go_sem, *]; rfl))
                rw [(altP_ok Hy1.out Hnb.out Hfi.out Hk0.out (Her0.out.trans Her.out) (by rw [Hu.out]; exact Hf.out)).trans (by rw [Hu.out])]
                exact ⟨ka3, kc3, la3, lc3, rfl, Hun.out.keep (Held.kept (Held.mono (S := fun b => b ≠ w.heap.size + 2) (a := w5) Hxt (fun b h => by rcases h with h | h; (have := h.2; simp; omega); (simp; omega)))) (fun b h _ => by rcases h with h | h; exact .inl h.1; exact .inr (by omega)), Xt⟩
            · have he : (er != 0) = true := by simpa using her
              have Her := Lib.hid her
              clear her
              go_wp2_with fail
              (with_reducible apply bp_ret); (focus (go_light; simp [results, Tryz.results20, go_sem, *]; rfl))
              rw [(altP_err Hy1.out Hnb.out Hfi.out Hk0.out (by rw [Her0.out]; exact Her.out)).trans (by rw [Her0.out])]
              exact ⟨ka, kc, la, lc, rfl, (Hin.out.ext Xt).mono (fun b h _ => .inl h.1), Xt⟩
      · have hnb : namesB p = none := namesB_none hbad
        have Hnb := Lib.hid hnb
        have hB0 := Box.ext (w' := w2) Xt hB0
        have hB1 := Box.ext (w' := w2) Xt hB1
        have hx2 : Ext w w2 := Xt
        clear h2 hbad hnb hxa hBy
        have hc0 := hB0.cells; have hf0 := hB0.free; have hl0 := hB0.lt
        have hc1 := hB1.cells; have hf1 := hB1.free; have hl1 := hB1.lt
        go_wp2_with fail
        (with_reducible apply bp_ret); (focus (go_light; simp [results, Tryz.results20, go_sem, *]; rfl))
        rw [altP_bad Hy1.out Hnb.out]
        exact ⟨ka, kc, la, lc, rfl, (Hin.out.ext Xt).mono (fun b h _ => .inl h.1), Xt⟩
theorem change_size (x : V) (p : ByteArray) (F : Doer) : (changeV x p F).1.size ≤ max x.size 14640 := by
  by_cases h : (changeV x p F).2 = 0
  · obtain ⟨l, -, -, -, -, h5, h6⟩ := change_ok_iff h
    rw [h6]; have := fine_size h5; omega
  · rw [change_not h]; omega
theorem alt_size (kn : Int) (x : V) (p : ByteArray) (y : V) (hx : x.size ≤ 4194304) (hy : y.size ≤ 4194304) : (altP kn x p y).1.size ≤ 16777216 := by
  have hc : ∀ F, (changeV x p F).1.size ≤ 16777216 := fun F => by have := change_size x p F; omega
  unfold altP
  split
  · unfold addP
    split
    · simp only; omega
    · split
      · simp only; omega
      · exact hc _
  · split
    · unfold putP
      split
      · simp only; omega
      · split
        · simp only; omega
        · exact hc _
    · exact hc _
end Go.Proofs.YtnbappeiebameaaGreatDoor
