/- Several texts in one. -/
import Derived.Test.YtjibdbnpkfghhaaGreatDoorPkR
import Derived.Test.YtjibdbnpkfghhaaGreatDoorPkG
import Derived.Lib.SliceRun
set_option linter.all false
/- The library's IndexFunc, ContainsFunc and DeleteFunc at texts, whatever function they are handed. -/
namespace Go.Proofs.YtjibdbnpkfghhaaGreatDoor
open Go.RowKit
attribute [local go_sem ↓] Go.wp_at_zero Go.wp_at_succ
def IdxOf (f : ByteArray → Bool) (ks : List ByteArray) (r : Int) : Prop :=
  (r = -1 ∧ ∀ x ∈ ks, f x = false) ∨ ∃ k : Nat, r = (k : Int) ∧ ∃ h : k < ks.length, f ks[k] = true ∧ ∀ x ∈ ks.take k, f x = false
def GivesS (g : Nat) (lb : Array Value) (f : ByteArray → Bool) (ks : List ByteArray) (w : World) : Prop :=
  (∀ args w, (callFunc g args).run Tryz.prog w = .ok (.enter g args) w) ∧ ∀ W x, x ∈ ks → Ext w W → Calls Tryz.prog g (#[.string x] ++ lb) W fun e w' => e = .returned (.bool (f x)) ∧ Ext W w'
theorem GivesS.later {g : Nat} {lb : Array Value} {f : ByteArray → Bool} {ks : List ByteArray} {w W : World} (h : GivesS g lb f ks w) (e : Ext w W) : GivesS g lb f ks W := ⟨h.1, fun W' x hx e' => h.2 W' x hx (e.trans e')⟩
set_option maxHeartbeats 2000000 in
theorem idxS_any (ks : List ByteArray) (a : Option Addr) (n c : Nat) (S : Nat → Prop) (g : Nat) (lb : Array Value) (f : ByteArray → Bool) (w : World) (hn : ks.length = n) (hbig : n ≤ 1073741824) (hst : StrsIn w S a ks) (hg : GivesS g lb f ks w) :
    Calls Tryz.prog 108 #[.slice a n c, .func (.func g) #[] lb] w fun e w' => ∃ r, e = .returned (.int .i64 r) ∧ IdxOf f ks r ∧ Ext w w' := by
  obtain ⟨eg, hcall⟩ := hg
  have Hc := Lib.hid hcall
  clear hcall
  subst hn
  go_enter Tryz.func108, Tryz.ntmps108
  go_wp2_with fail
  go_loopg [5, 8] ks.length (fun gg _ i wr => ∃ k : Nat, k ≤ ks.length ∧ i = .int .i64 k ∧ gg = ks.length - k ∧ (∀ x ∈ ks.take k, f x = false) ∧ Ext w wr)
  case atStart => exact ⟨0, Nat.zero_le _, rfl, rfl, by simp, Xt⟩
  case round =>
    obtain ⟨k, hk, rfl, rfl, hall, hx⟩ := hrel
    have Hall := Lib.hid hall
    clear hall
    by_cases hlt : k < ks.length
    · obtain ⟨b, o, rfl, hS, hC⟩ := hst.resolve_left (by intro h; rw [h] at hlt; simp at hlt)
      have d0 := hx.cell (hC k hlt)
      have Hm := Lib.hid (show ks[k] ∈ ks from List.getElem_mem hlt)
      have Ht := Lib.hid (List.take_succ_eq_append_getElem hlt)
      obtain ⟨p, hp⟩ : ∃ p, ks[k] = p := ⟨_, rfl⟩
      have Hp := Lib.hid hp
      rw [hp] at d0 Hm Ht
      clear hp hC
      cases hq : f p with
      | true =>
        have Hq := Lib.hid hq
        go_wp2_with (go_at_fn g; refine (Hc.out _ p Hm.out Xt).mono ?_; rw [hq]; rintro e w2 ⟨rfl, h2⟩)
        go_ret
        exact ⟨_, rfl, .inr ⟨k, rfl, hlt, by rw [Hp.out]; exact Hq.out, Hall.out⟩, Xt⟩
      | false =>
        have Hq := Lib.hid hq
        go_wp2_with (go_at_fn g; refine (Hc.out _ p Hm.out Xt).mono ?_; rw [hq]; rintro e w2 ⟨rfl, h2⟩)
        go_roundg (ks.length - (k + 1))
        case measure => omega
        case rel => exact ⟨k + 1, by omega, by go_num, rfl, fun x hx => by
          rw [Ht.out] at hx
          rcases List.mem_append.1 hx with h | h
          · exact Hall.out x h
          · simp at h; rw [h]; exact Hq.out, Xt⟩
    · have Hend := Lib.hid (show ∀ x ∈ ks, f x = false from fun x hx => Hall.out x (by rw [List.take_of_length_le (by omega)]; exact hx))
      go_wp2_with fail
      go_ret
      exact ⟨_, rfl, .inl ⟨rfl, Hend.out⟩, Xt⟩
theorem containsF_any (ks : List ByteArray) (a : Option Addr) (n c : Nat) (S : Nat → Prop) (g : Nat) (lb : Array Value) (f : ByteArray → Bool) (w : World) (hn : ks.length = n) (hbig : n ≤ 1073741824) (hst : StrsIn w S a ks) (hg : GivesS g lb f ks w) :
    Calls Tryz.prog 54 #[.slice a n c, .func (.func g) #[] lb] w fun e w' => e = .returned (.bool (ks.any f)) ∧ Ext w w' := by
  go_enter Tryz.func54, Tryz.ntmps54
  go_wp2_with fail
  (refine (idxS_any ks a n c S g lb f _ hn hbig (hst.ext Xt) (hg.later Xt)).mono ?_)
  rintro e w1 ⟨r, rfl, hr, h1⟩
  have Hr := Lib.hid (show ks.any f = decide (0 ≤ r) by
    rcases hr with ⟨rfl, h⟩ | ⟨k, rfl, hk, hf, -⟩
    · rw [List.any_eq_false.2 (fun x hx => by simp [h x hx])]; rfl
    · rw [List.any_eq_true.2 ⟨_, List.getElem_mem hk, hf⟩]; simp)
  clear hr
  go_wp2_with fail
  go_ret
  exact ⟨ret_bool Hr.out.symm, Xt⟩
theorem box_cells {g : Nat} {T : TypeId} : ∀ (vs : List Value) (o : Nat) (w : World) (cur : Array Value), Box w g cur T → ∃ cur', Box (w.setCells g o vs) g cur' T ∧ cur'.size = cur.size ∧ ∀ q, q < o → cur'[q]? = cur[q]?
  | [], o, w, cur, h => ⟨cur, h, rfl, fun _ _ => rfl⟩
  | v :: r, o, w, cur, h => by
    obtain ⟨c', h1, h2, h3⟩ := box_cells r (o + 1) _ _ (h.set o v)
    refine ⟨c', h1, by rw [h2]; simp, fun q hq => ?_⟩
    rw [h3 q (by omega), Array.getElem?_setIfInBounds]
    rw [if_neg (by omega)]
set_option maxRecDepth 100000 in
set_option maxHeartbeats 8000000 in
theorem delF_any (ks : List ByteArray) (a : Option Addr) (n c : Nat) (g : Nat) (lb : Array Value) (f : ByteArray → Bool) (w0 w : World) (hS : OwnS w w0.heap.size (.slice a n c) n ks) (hbig : n ≤ 1073741824) (hx0 : Ext w0 w) (hg : GivesS g lb f ks w0) :
    Calls Tryz.prog 47 #[.slice a n c, .func (.func g) #[] lb] w fun e w' => e = .returned (.slice a (ks.filter fun x => !f x).length c) ∧ OwnS w' w0.heap.size (.slice a (ks.filter fun x => !f x).length c) (ks.filter fun x => !f x).length (ks.filter fun x => !f x) ∧ Ext w0 w' := by
  obtain ⟨a', c', he, hok, hlen, hst⟩ := hS.strs
  simp only [Value.slice.injEq, true_and] at he
  obtain ⟨rfl, rfl⟩ := he
  have Hst := Lib.hid hst
  have HS := Lib.hid hS
  obtain ⟨eg, hcall⟩ := hg
  have Hcall := Lib.hid hcall
  subst hlen
  clear hS hcall
  go_enter Tryz.func47, Tryz.ntmps47
  go_wp2_with fail
  (refine (idxS_any ks a _ c _ g lb f _ rfl hbig (Hst.out.ext Xt) ⟨eg, fun W x hx e => Hcall.out W x hx (hx0.trans (Ext.trans (b := w) Xt e))⟩).mono ?_)
  rintro e w1 ⟨r, rfl, hr, h1⟩
  rcases hr with ⟨rfl, hall⟩ | ⟨k0, rfl, hk0, hf0, hall⟩
  · have hfil : (ks.filter fun x => !f x) = ks := List.filter_eq_self.2 (fun x hx => by simp [hall x hx])
    have Hfil := Lib.hid hfil
    clear hall hfil
    go_wp2_with fail
    go_ret
    rw [Hfil.out]
    exact ⟨rfl, HS.out.ext Xt, Ext.trans hx0 Xt⟩
  · obtain ⟨b, hab, hbb, cur0, hg0, hnc, hcm, hcs, ht⟩ : ∃ b, a = some ⟨b, 0, none⟩ ∧ w0.heap.size ≤ b ∧ ∃ cur : Array Value, w.heap[b]? = some (.cells cur 9 (0, 0)) ∧ ks.length ≤ c ∧ c ≤ maxLen ∧ cur.size = c * 1 ∧ cur.toList.take (ks.length * 1) = ks.map Value.string := by
      rcases HS.out.2.2 with ⟨-, h0⟩ | ⟨b, cap, cur, hv, hb, hg, h1, h2, h3, h4⟩
      · omega
      · simp only [Value.slice.injEq, true_and] at hv
        obtain ⟨rfl, rfl⟩ := hv
        exact ⟨b, rfl, hb, cur, hg, h1, h2, h3, h4⟩
    subst hab
    have hx1 : Ext w w1 := Xt
    have hxw1 : Ext w0 w1 := hx0.trans hx1
    have hbw := (Array.getElem?_eq_some_iff.1 hg0).1
    have hB1 : Box w1 b cur0 9 := Box.ext hx1 hg0
    have Hlen := Lib.hid (show ∀ q (h : q < ks.length), cur0[q]? = some (.string ks[q]) from fun q h => by
      have h5 : (cur0.toList.take (ks.length * 1))[q]? = (ks.map Value.string)[q]? := by rw [ht]
      rw [List.getElem?_take, if_pos (by omega)] at h5
      simpa [h] using h5)
    have Hfil0 := Lib.hid (show (ks.take (k0 + 1)).filter (fun x => !f x) = ks.take k0 by
      rw [List.take_succ_eq_append_getElem hk0, List.filter_append, List.filter_eq_self.2 (fun x hx => by simp [hall x hx])]
      simp [hf0])
    have hneg : ((k0 : Int) == -1) = false := beq_eq_false_iff_ne.2 (by omega)
    have hcm2 : c ≤ 9223372036854775807 := hcm
    clear hall h1 hst hx0 hg0 ht hf0 HS Hst
    go_wp2_with fail
    go_loopg [5, 6, 7] ks.length (fun gg s5 s6 _ wr => ∃ (i j : Nat) (cur : Array Value), s5 = .int .i64 i ∧ s6 = .int .i64 j ∧ i < j ∧ j ≤ ks.length ∧ ks.length - j ≤ gg ∧ Box wr b cur 9 ∧ cur.size = c ∧ ((ks.take j).filter (fun x => !f x)).length = i ∧
      (∀ q (h : q < i), cur[q]? = ((ks.take j).filter (fun x => !f x))[q]?.map Value.string) ∧ (∀ q (h : q < ks.length), j ≤ q → cur[q]? = some (.string ks[q])) ∧ (∀ q, q < ks.length → ∃ s, cur[q]? = some (.string s)) ∧ Ext w0 wr)
    case atStart =>
      refine ⟨k0, k0 + 1, cur0, rfl, by go_num, by omega, by omega, by omega, Bxt, by omega, by rw [Hfil0.out]; simp; omega, fun q h => ?_, fun q h _ => Hlen.out q h, fun q h => ⟨_, Hlen.out q h⟩, Xt⟩
      rw [Hfil0.out, Hlen.out q (by omega)]
      simp [h, show q < ks.length by omega]
    case round =>
      obtain ⟨i, j, cur, rfl, rfl, hij, hj, hgg, hB, hcz, hfl, hlow, hhigh, hany, hx⟩ := hrel
      have Hlow := Lib.hid hlow
      have Hhigh := Lib.hid hhigh
      have Hany := Lib.hid hany
      have Hfl := Lib.hid hfl
      clear hlow hhigh hany hfl
      by_cases hlt : j < ks.length
      · have hcj := Hhigh.out j hlt (Nat.le_refl _)
        have d0 : wr.cell? ⟨b, j, none⟩ = some (.string ks[j]) := by rw [hB.cells j]; exact hcj
        have Hm := Lib.hid (show ks[j] ∈ ks from List.getElem_mem hlt)
        have Ht := Lib.hid (List.take_succ_eq_append_getElem hlt)
        have Hhj := Lib.hid hcj
        clear hcj
        obtain ⟨p, hp⟩ : ∃ p, ks[j] = p := ⟨_, rfl⟩
        have Hp := Lib.hid hp
        rw [hp] at d0 Hm Ht
        clear hp
        cases hq : f p with
        | true =>
          have Hf2 := Lib.hid (show (ks.take (j + 1)).filter (fun x => !f x) = (ks.take j).filter (fun x => !f x) by rw [Ht.out, List.filter_append]; simp [hq])
          go_wp2_with (go_at_fn g; refine (Hcall.out _ p Hm.out Xt).mono ?_; rw [hq]; rintro e w2 ⟨rfl, h2⟩)
          go_roundg (ks.length - (j + 1))
          case measure => omega
          case rel => exact ⟨i, j + 1, cur, rfl, by go_num, by omega, by omega, Nat.le_refl _, Bxt, hcz, by rw [Hf2.out]; exact Hfl.out, by rw [Hf2.out]; exact Hlow.out, fun q h h2 => Hhigh.out q h (by omega), Hany.out, Xt⟩
        | false =>
          have Hf2 := Lib.hid (show (ks.take (j + 1)).filter (fun x => !f x) = (ks.take j).filter (fun x => !f x) ++ [p] by rw [Ht.out, List.filter_append]; simp [hq])
          obtain ⟨sold, hsold⟩ := Hany.out i (by omega)
          have di : wr.cell? ⟨b, i, none⟩ = some (.string sold) := by rw [hB.cells i]; exact hsold
          have hfri := hB.free i
          have hiN : (i : Int) < (ks.length : Int) := by omega
          have hiN2 : i < ks.length := by omega
          have hci := hB.cells i
          clear hsold
          go_wp2_with fail
          go_at_fn g
          (refine (Hcall.out _ p Hm.out Xt).mono ?_)
          rw [hq]
          rintro e w2 ⟨rfl, h2⟩
          have hB2 := Box.ext (w' := w2) Xt hB
          have di2 := Ext.cell (a := wr) (b := w2) Xt di
          have hx2 : Ext w0 w2 := Xt
          have hfr2 := hB2.free i
          clear h2 hci di hfri
          go_wp2_with fail
          go_roundg (ks.length - (j + 1))
          case measure => omega
          case rel =>
            refine ⟨i + 1, j + 1, cur.setIfInBounds i (.string p), by go_num, by go_num, by omega, by omega, Nat.le_refl _, Box.set hB2 i _, by simpa using hcz, by rw [Hf2.out, List.length_append, Hfl.out]; rfl, fun q h => ?_, fun q h h2 => ?_, fun q h => ?_, Xt⟩
            · rw [Hf2.out, Array.getElem?_setIfInBounds]
              by_cases hqi : i = q
              · subst hqi
                rw [if_pos rfl, if_pos (by omega), List.getElem?_append_right (by rw [Hfl.out]; exact Nat.le_refl _), Hfl.out]
                simp
              · rw [if_neg hqi, Hlow.out q (by omega), List.getElem?_append_left (by rw [Hfl.out]; omega)]
            · rw [Array.getElem?_setIfInBounds, if_neg (by omega)]
              exact Hhigh.out q h (by omega)
            · rw [Array.getElem?_setIfInBounds]
              by_cases hqi : i = q
              · rw [if_pos hqi, if_pos (by omega)]; exact ⟨p, rfl⟩
              · rw [if_neg hqi]; exact Hany.out q h
      · obtain rfl : j = ks.length := by omega
        have hfil : ks.filter (fun x => !f x) = (ks.take ks.length).filter (fun x => !f x) := by rw [List.take_of_length_le (Nat.le_refl _)]
        have Hfil := Lib.hid hfil
        clear hfil
        obtain ⟨j0, hj0, hy0, hy1, hy2⟩ := info_parts Tryz.infoS
        have hcl : ∀ ty, (Builtin.clear_ #[22] ty #[.slice (some ⟨b, i, none⟩) (ks.length - i) (c - i)]).run Tryz.prog wr = .ok (.tuple #[]) (wr.setCells b i (List.replicate (ks.length - i) (.string ⟨#[]⟩))) :=
          fun ty => Lib.run_clear_slice wr _ _ ty (.string ⟨#[]⟩) Tryz.underlying22 (fun w => by simp [Go.zeroValue, typeInfo, hj0, hy0]) rfl rfl b i _ _ (by omega) (fun t ht => by obtain ⟨s, hs⟩ := Hany.out (i + t) (by omega); rw [hB.cells, hs]; rfl) (fun t ht => hB.free _)
        have hi1 : (0 : Int) ≤ (i : Int) := by omega
        have hi2 : (i : Int) ≤ (ks.length : Int) := by omega
        have hi3 : (ks.length : Int) ≤ (c : Int) := by omega
        have hi4 : (i : Int) ≤ (c : Int) := by omega
        have hi5 : ¬ c = i := by omega
        have hi6 : i ≤ c := by omega
        have hi7 : i ≤ ks.length := by omega
        obtain ⟨cur2, hB2, hcz2, hlow2⟩ := box_cells (g := b) (T := 9) (List.replicate (ks.length - i) (.string ⟨#[]⟩)) i wr cur hB
        have Hlow2 := Lib.hid hlow2
        have hx2 : Ext w0 (wr.setCells b i (List.replicate (ks.length - i) (.string ⟨#[]⟩))) := Ext.set5 (by exact Xt) hbb _ _
        clear hj0 hy0 hy1 hy2 hlow2
        go_wp2_with fail
        go_ret
        rw [Hfil.out, Hfl.out]
        refine ⟨rfl, ⟨Hfl.out, ?_⟩, Xt⟩
        refine ownsRow_ext (w := wr.setCells b i (List.replicate (ks.length - i) (.string ⟨#[]⟩))) ⟨by rw [List.length_map, Hfl.out, Nat.mul_one], .inr ⟨b, c, cur2, rfl, hbb, hB2, by omega, hcm, by omega, ?_⟩⟩ Xt
        rw [Nat.mul_one]
        refine List.ext_getElem? fun q => ?_
        rw [List.getElem?_take]
        split
        · rename_i hqi
          rw [Array.getElem?_toList, Hlow2.out q hqi, Hlow.out q hqi, List.getElem?_map]
        · rename_i hqi
          rw [List.getElem?_eq_none (by rw [List.length_map, Hfl.out]; omega)]
end Go.Proofs.YtjibdbnpkfghhaaGreatDoor
/- The walk of owner.Keep; one more owner, by an append. -/
namespace Go.Proofs.YtjibdbnpkfghhaaGreatDoor
open Go.RowKit
attribute [local go_sem ↓] Go.wp_at_zero Go.wp_at_succ
theorem wpl_ow {W : World} {ops : Array Oper} {rest : List Oper} {o : Oper} {a : Act} {Q : Exit → Act → World → Prop} {base n : Nat} {S : Nat → Prop} {vl : Value} {l : List Ow} {x : Ow} {pa : Option Addr} {pc : Nat} (hgd : o.guard = none) (B : Nat) {s t : Operand}
    (ho : o.op = .call { callee := .builtin .append, args := #[s, t], argTypes := #[32, 32] }) (hs : a.eval s = vl) (hx : a.eval t = .slice (some ⟨B, 0, none⟩) 1 1)
    (hI : OwnOw W base S vl n l) (hok : SlOk pa x.paths.length pc) (hv : StrsIn W (Foot base S vl) pa x.paths) (hB : Box W B #[.string x.name, .slice pa x.paths.length pc] 42) (hn : n ≤ 1073741824) (hbase : base ≤ W.heap.size)
    (h : ∀ g cap w', OwnOw w' base S (.slice (some ⟨g, 0, none⟩) (n + 1) cap) (n + 1) (l ++ [x]) → W.grownBy w' vl.ownBlock → (∀ k, vl.ownBlock = some k → base ≤ k) → wpList Tryz.prog ops Q rest (a.put o.dst (.slice (some ⟨g, 0, none⟩) (n + 1) cap)) w') : wpList Tryz.prog ops Q (o :: rest) a W := by
  obtain ⟨j0, hj, hy0, hy1, hy2⟩ := info_parts Tryz.infoOw
  obtain ⟨hl0, xs, hI1, hI2⟩ := hI
  refine wpList_plain hgd fun _ hK => wp_append_lies _ s t _ ho base 42 j0 _ 2 40 Tryz.underlying32 hj hy0 hy1 hy2 rfl (by decide) vl n xs hs hI1 ⟨B, 0, none⟩ 1 1 [.string x.name, .slice pa x.paths.length pc] hx (by rfl) (World.news_of_block (cs := #[.string x.name, .slice pa x.paths.length pc]) (t := 42) (fr := (0, 0)) hB) (by simp [Value.oneCell']) (by omega) (by unfold maxLen; omega) (by omega) hbase _ rfl ?_
  intro g cap w' hown hgrow hat hlt
  exact hK _ _ (h g cap w' (OwnOw.push hl0 hI1 hI2 hok hv hown hgrow g rfl hat) hgrow (fun k hk => (hI1.lt k hk).1))
end Go.Proofs.YtjibdbnpkfghhaaGreatDoor
/- The walk of owner.Conflicts. -/
namespace Go.Proofs.YtjibdbnpkfghhaaGreatDoor
open Go.RowKit
attribute [local go_sem ↓] Go.wp_at_zero Go.wp_at_succ
theorem Tryz.infoCf : (Tryz.prog.info? 85).map (fun i => (i.zero, i.size, i.bytes)) = some (some (.agg #[.string ⟨#[]⟩, .string ⟨#[]⟩]), 2, 32) := by kernel_rfl
abbrev Cf := ByteArray × ByteArray
def cfCells (cs : List Cf) : List Value := cs.flatMap fun c => [.string c.1, .string c.2]
theorem cfCells_app (cs ds : List Cf) : cfCells (cs ++ ds) = cfCells cs ++ cfCells ds := List.flatMap_append
theorem cfCells_at : ∀ (cs : List Cf) (i : Nat) (h : i < cs.length), (cfCells cs)[i * 2]? = some (.string cs[i].1) ∧ (cfCells cs)[i * 2 + 1]? = some (.string cs[i].2)
  | [], i, h => by simp at h
  | c :: r, 0, _ => ⟨rfl, rfl⟩
  | c :: r, i + 1, h => by
    have := cfCells_at r i (by simpa using h)
    rw [show (i + 1) * 2 = i * 2 + 1 + 1 by omega]
    exact this
def CfIn (w : World) (S : Nat → Prop) (cs : List Cf) (p : Option Addr) : Prop :=
  cs = [] ∨ ∃ b o, p = some ⟨b, o, none⟩ ∧ S b ∧ ∀ i (h : i < cs.length), w.cell? ⟨b, o + i * 2, none⟩ = some (.string cs[i].1) ∧ w.cell? ⟨b, o + i * 2 + 1, none⟩ = some (.string cs[i].2)
theorem CfIn.ext {w w' : World} {S : Nat → Prop} {cs : List Cf} {p : Option Addr} (h : CfIn w S cs p) (e : Ext w w') : CfIn w' S cs p := by
  rcases h with h | ⟨b, o, rfl, hS, hc⟩
  · exact .inl h
  · exact .inr ⟨b, o, rfl, hS, fun i h => ⟨e.cell (hc i h).1, e.cell (hc i h).2⟩⟩
theorem CfIn.mono {w : World} {S T : Nat → Prop} {cs : List Cf} {p : Option Addr} (h : CfIn w S cs p) (k : ∀ b, S b → T b) : CfIn w T cs p := by
  rcases h with h | ⟨b, o, rfl, hS, hc⟩
  · exact .inl h
  · exact .inr ⟨b, o, rfl, k b hS, hc⟩
def OwnCf (w : World) (base : Nat) (v : Value) (n : Nat) (cs : List Cf) : Prop := cs.length = n ∧ w.ownsRow base 85 2 v n (cfCells cs)
theorem OwnCf.nil (w : World) (base : Nat) : OwnCf w base (.slice none 0 0) 0 [] := ⟨rfl, World.ownsRow_nil _ _ _ _⟩
theorem OwnCf.ext {w w' : World} {base : Nat} {v : Value} {n : Nat} {cs : List Cf} (h : OwnCf w base v n cs) (e : Ext w w') : OwnCf w' base v n cs := ⟨h.1, ownsRow_ext h.2 e⟩
theorem OwnCf.rows {w : World} {base : Nat} {v : Value} {n : Nat} {cs : List Cf} (h : OwnCf w base v n cs) : ∃ a cap, v = .slice a n cap ∧ SlOk a n cap ∧ CfIn w (fun b => base ≤ b) cs a := by
  obtain ⟨h0, hl, h1⟩ := h
  rcases h1 with ⟨hv, hn⟩ | ⟨g, cap, cur, hv, hb, hg, hnc, hcm, hcs, ht⟩
  · subst hn
    exact ⟨none, 0, hv, SlOk.nil, .inl (List.length_eq_zero_iff.1 h0)⟩
  · refine ⟨some ⟨g, 0, none⟩, cap, hv, ⟨hnc, hcm, by simp⟩, .inr ⟨g, 0, rfl, hb, fun i hi => ?_⟩⟩
    have hx : ∀ j u, (cfCells cs)[j]? = some u → w.cell? ⟨g, j, none⟩ = some u := by
      intro j u hj
      rw [cell_of_row w g j cur _ _ hg]
      rw [← ht, List.getElem?_take] at hj
      split at hj
      · simpa using hj
      · cases hj
    obtain ⟨c0, c1⟩ := cfCells_at cs i hi
    rw [Nat.zero_add]
    exact ⟨hx _ _ c0, hx _ _ c1⟩
theorem box_ne {w : World} {k base e size n : Nat} {vs : Array Value} {T : TypeId} {v : Value} {xs : List Value} (hB : Box w k vs T) (h : w.ownsRow base e size v n xs) (hne : T ≠ e) : ∀ g, v.ownBlock = some g → k ≠ g := by
  rintro g hg rfl
  obtain ⟨q1, z1, e1⟩ := owns_kind h k hg
  unfold Box at hB
  rw [hB] at e1
  simp only [Option.some.injEq, Obj.cells.injEq] at e1
  exact hne e1.2.1
theorem wpl_cf {W : World} {ops : Array Oper} {rest : List Oper} {o : Oper} {a : Act} {Q : Exit → Act → World → Prop} {base n : Nat} {vl : Value} {l : List Cf} {x y : ByteArray} (hgd : o.guard = none) (B : Nat) {s t : Operand}
    (ho : o.op = .call { callee := .builtin .append, args := #[s, t], argTypes := #[35, 35] }) (hs : a.eval s = vl) (hx : a.eval t = .slice (some ⟨B, 0, none⟩) 1 1)
    (hI : OwnCf W base vl n l) (hB : Box W B #[.string x, .string y] 85) (hn : n ≤ 1073741824) (hbase : base ≤ W.heap.size)
    (h : ∀ g cap w', OwnCf w' base (.slice (some ⟨g, 0, none⟩) (n + 1) cap) (n + 1) (l ++ [(x, y)]) → W.grownBy w' vl.ownBlock → (∀ k, vl.ownBlock = some k → base ≤ k) → wpList Tryz.prog ops Q rest (a.put o.dst (.slice (some ⟨g, 0, none⟩) (n + 1) cap)) w') : wpList Tryz.prog ops Q (o :: rest) a W := by
  obtain ⟨j0, hj, hy0, hy1, hy2⟩ := info_parts Tryz.infoCf
  refine wpList_plain hgd fun _ hK => wp_append_lies _ s t _ ho base 85 j0 _ 2 32 Tryz.underlying35 hj hy0 hy1 hy2 rfl (by decide) vl n (cfCells l) hs hI.2 ⟨B, 0, none⟩ 1 1 [.string x, .string y] hx (by rfl) (World.news_of_block (cs := #[.string x, .string y]) (t := 85) (fr := (0, 0)) hB) (by simp [Value.oneCell']) (by omega) (by unfold maxLen; omega) (by omega) hbase _ rfl ?_
  intro g cap w' hown hgrow hat hlt
  exact hK _ _ (h g cap w' ⟨by simp [hI.1], by rw [cfCells_app]; exact hown⟩ hgrow (fun k hk => (hI.2.lt k hk).1))
def RetCf (r : List Cf) (w : World) (e : Ending) (w' : World) : Prop :=
  ∃ a c, e = .returned (.slice a r.length c) ∧ SlOk a r.length c ∧ CfIn w' (fun b => w.heap.size ≤ b) r a ∧ Ext w w'
theorem confL_take (v want : V) (who : ByteArray) (l : List Ow) {k : Nat} (h : k < l.length) : confL v (l.take (k + 1)) who want = confL v (l.take k) who want ++ confO v want who l[k] := by
  unfold confL
  rw [List.take_succ_eq_append_getElem h, List.flatMap_append]
  simp
theorem confO_len (v want : V) (who : ByteArray) (o : Ow) : (confO v want who o).length ≤ o.paths.length := by
  unfold confO
  split
  · simp
  · rw [List.length_map]; exact List.length_filter_le _ _
theorem confL_len (v want : V) (who : ByteArray) (l : List Ow) : (confL v l who want).length ≤ owsSize l := by
  induction l with
  | nil => simp [confL]
  | cons o r ih =>
    unfold confL owsSize at ih ⊢
    rw [List.flatMap_cons, List.length_append, List.map_cons, List.sum_cons]
    have := confO_len v want who o
    have := Ow.len_paths o
    omega
theorem owsSize_take (l : List Ow) (k : Nat) : owsSize (l.take k) ≤ owsSize l := sum_take_le Ow.size l k
set_option maxRecDepth 100000 in
set_option maxHeartbeats 8000000 in
theorem conflicts_any (v : V) (ka : Option Addr) (kc : Nat) (la : Option Addr) (lc : Nat) (S : Nat → Prop) (l : List Ow) (a : Option Addr) (c : Nat) (T : Nat → Prop) (who : ByteArray) (want : V) (kb : Option Addr) (kd : Nat) (lb : Option Addr) (ld : Nat) (U : Nat → Prop) (w : World)
    (hvz : v.size ≤ 1000000000) (hwz : want.size ≤ 1000000000) (hlz : owsSize l ≤ 2097152) (hin : v.In w S ka kc la lc) (hjn : OwsIn w T l a) (hkn : want.In w U kb kd lb ld) (hm : MaxAt w) :
    Calls Tryz.prog 33 #[v.val ka kc la lc, .slice a l.length c, .string who, want.val kb kd lb ld] w (RetCf (confL v l who want) w) := by
  have hlen := owsSize_len l
  have Hin := Lib.hid hin
  have Hjn := Lib.hid hjn
  have Hkn := Lib.hid hkn
  clear hin hjn hkn
  go_enter Tryz.func33, Tryz.ntmps33
  go_upto_region 2 with fail
  refine gen_world (R := fun wx => Box wx w.heap.size #[.int .i64 v.k, .int .i64 v.n, .string v.s, .slice ka v.keys.length kc, .slice la v.l.length lc] 25 ∧ Box wx (w.heap.size + 1) #[.int .i64 want.k, .int .i64 want.n, .string want.s, .slice kb want.keys.length kd, .slice lb want.l.length ld] 25 ∧ Ext w wx) ⟨Bxt, Bxt, Xt⟩ ?_
  rintro wa ⟨hB0, hB1, hxa⟩
  have hza := hxa.size
  go_wp2_with fail
  go_loopg [9, 16] l.length (fun g s9 i wr => ∃ (k : Nat) (a' : Option Addr) (c' : Nat) (cs : List Cf), k ≤ l.length ∧ i = .int .i64 k ∧ g = l.length - k ∧ s9 = .slice a' cs.length c' ∧ cs = confL v (l.take k) who want ∧ OwnCf wr wa.heap.size (.slice a' cs.length c') cs.length cs ∧ Ext wa wr)
  case atStart => exact ⟨0, none, 0, [], Nat.zero_le _, rfl, rfl, rfl, rfl, OwnCf.nil _ _, Xt⟩
  case round =>
    obtain ⟨wo, rfl⟩ : ∃ x, x = wr := ⟨_, rfl⟩
    obtain ⟨k, a', c', cs, hk, rfl, rfl, rfl, hcs, hO, hx⟩ := hrel
    have Hcs := Lib.hid hcs
    have HO := Lib.hid hO
    have hzx := hx.size
    have hxw : Ext w wo := hxa.trans hx
    clear hcs hO
    by_cases hlt : k < l.length
    · obtain ⟨b, o, rfl, hSb, pa, pc, d0, d1, hsl, hst⟩ := (Hjn.out.ext hxa).item hlt
      have d0 := hx.cell d0
      have d1 := hx.cell d1
      have hoz := owsSize_mem (List.getElem_mem hlt)
      have hpl := Ow.len_paths l[k]
      have Hpz := Lib.hid (fun (x : ByteArray) (h : x ∈ (l[k]).paths) => show x.size ≤ 2097152 from by have := Ow.len_path h; omega)
      have Htk := Lib.hid (confL_take v want who l hlt)
      have hcz : (cs ++ confO v want who l[k]).length ≤ 2097152 := by
        rw [Hcs.out, ← Htk.out]
        have := confL_len v want who (l.take (k + 1))
        have := owsSize_take l (k + 1)
        omega
      obtain ⟨ow, how⟩ : ∃ ow, l[k] = ow := ⟨_, rfl⟩
      rw [how] at d0 d1 hsl hst hpl Hpz Htk hoz hcz
      have Hst := Lib.hid hst
      clear how hst
      by_cases hnw : ow.name = who
      · have hnb := eqb_of hnw
        have Hnext := Lib.hid (show cs = confL v (l.take (k + 1)) who want by
          rw [Htk.out, Hcs.out]
          unfold confO
          rw [if_pos hnw]
          exact (List.append_nil _).symm)
        clear hnw
        go_wp2_with fail
        go_roundg (l.length - (k + 1))
        case measure => omega
        case rel => exact ⟨k + 1, a', c', cs, by omega, by go_num, rfl, rfl, Hnext.out, HO.out.ext Xt, Xt⟩
      · have hnb := neb_of hnw
        have Hco := Lib.hid (show confO v want who ow = (ow.paths.filter (wayB v want)).map fun q => (ow.name, q) from if_neg hnw)
        clear hnw
        go_upto_region 5 with fail
        refine gen_world (R := fun wx => Box wx wo.heap.size #[.string ow.name, .slice pa ow.paths.length pc] 42 ∧ Ext wo wx) ⟨Bxt, Xt⟩ ?_
        rintro wb ⟨hB7, hxb⟩
        have hxab : Ext wa wb := hx.trans hxb
        have HOb := Lib.hid (HO.out.ext hxb)
        have hc7 := hB7.cells; have hf7 := hB7.free; have hl7 := hB7.lt
        go_wp2_with fail
        go_loopg [9, 27] ow.paths.length (fun g s9 i wr => ∃ (j : Nat) (a' : Option Addr) (c' : Nat) (ds : List Cf), j ≤ ow.paths.length ∧ i = .int .i64 j ∧ g = ow.paths.length - j ∧ s9 = .slice a' ds.length c' ∧ ds = cs ++ ((ow.paths.take j).filter (wayB v want)).map (fun q => (ow.name, q)) ∧ OwnCf wr wa.heap.size (.slice a' ds.length c') ds.length ds ∧ Box wr wo.heap.size #[.string ow.name, .slice pa ow.paths.length pc] 42 ∧ Ext wa wr)
        case atStart => exact ⟨0, a', c', cs, Nat.zero_le _, rfl, rfl, rfl, by simp, HOb.out.ext Xt, Bxt, Xt⟩
        case round =>
          obtain ⟨wi, rfl⟩ : ∃ x, x = wr := ⟨_, rfl⟩
          clear hB7 hc7 hf7 hl7 HOb
          obtain ⟨j, a2, c2, ds, hj, rfl, rfl, rfl, hds, hO2, hB7, hx2⟩ := hrel
          have hst2 := Hst.out.ext hx2
          have Hds := Lib.hid hds
          have HO2 := Lib.hid hO2
          have hxwi : Ext w wi := hxa.trans hx2
          have hBv := Box.ext hx2 hB0
          have hBw := Box.ext hx2 hB1
          have hz2 := hx2.size
          have hc0 := hBv.cells; have hf0 := hBv.free; have hl0 := hBv.lt
          have hc1 := hBw.cells; have hf1 := hBw.free; have hl1 := hBw.lt
          have hc7 := hB7.cells; have hf7 := hB7.free; have hl7 := hB7.lt
          clear hds hO2
          by_cases hjl : j < ow.paths.length
          · obtain ⟨b2, o2, rfl, hS2, hC⟩ := hst2.resolve_left (by intro h; rw [h] at hjl; simp at hjl)
            have e0 := hC j hjl
            have hqz := Hpz.out _ (List.getElem_mem hjl)
            have Ht := Lib.hid (List.take_succ_eq_append_getElem hjl)
            obtain ⟨q, hq⟩ : ∃ q, ow.paths[j] = q := ⟨_, rfl⟩
            rw [hq] at e0 hqz Ht
            clear hC hq hst2
            go_wp2_with fail
            (refine (way_any v ka kc la lc S want kb kd lb ld U q _ hvz hwz (Hin.out.ext Xt) (Hkn.out.ext Xt) (by omega) (hm.ext Xt)).mono ?_)
            cases hwy : wayB v want q with
            | false =>
              have Hnext := Lib.hid (show ds = cs ++ ((ow.paths.take (j + 1)).filter (wayB v want)).map (fun q => (ow.name, q)) by
                rw [Ht.out, List.filter_append, Hds.out]; simp [hwy])
              rintro e w3 ⟨rfl, h3⟩
              have hB73 := Box.ext (w' := w3) Xt hB7
              have hxi3 : Ext wi w3 := Xt
              clear hwy h3 hc0 hf0 hl0 hc1 hf1 hl1 hc7 hf7 hl7
              go_wp2_with fail
              go_roundg (ow.paths.length - (j + 1))
              case measure => omega
              case rel => exact ⟨j + 1, a2, c2, ds, by omega, by go_num, rfl, rfl, Hnext.out, HO2.out.ext Xt, Bxt, Xt⟩
            | true =>
              have Hnext := Lib.hid (show ds ++ [(ow.name, q)] = cs ++ ((ow.paths.take (j + 1)).filter (wayB v want)).map (fun q => (ow.name, q)) by
                rw [Ht.out, List.filter_append, Hds.out]; simp [hwy])
              have hdl : ds.length ≤ 2097152 := by
                have h1 := congrArg List.length Hds.out
                rw [List.length_append, List.length_map] at h1
                have h2 : ((ow.paths.take j).filter (wayB v want)).length ≤ (ow.paths.filter (wayB v want)).length := (List.Sublist.filter _ (List.take_sublist _ _)).length_le
                rw [List.length_append, Hco.out, List.length_map] at hcz
                omega
              rintro e w3 ⟨rfl, h3⟩
              have hB73 := Box.ext (w' := w3) Xt hB7
              have hxi3 : Ext wi w3 := Xt
              have hz3 := hxi3.size
              clear hwy h3 hc0 hf0 hl0 hc1 hf1 hl1 hc7 hf7 hl7
              have hc7 := hB73.cells; have hf7 := hB73.free; have hl7 := hB73.lt
              go_upto_region 10 with fail
              refine gen_world (R := fun wx => Ext w3 wx) (by exact Xt) ?_
              clear hc7 hf7 hl7
              rintro wc hxc
              have hB7c := Box.ext hxc hB73
              have hxic : Ext wi wc := hxi3.trans hxc
              have hxac : Ext wa wc := hx2.trans hxic
              have HO3 := Lib.hid (HO2.out.ext hxic)
              have hzc := hxc.size
              have hap := box_ne hB7c HO3.out.2 (by decide)
              have Hap := Lib.hid hap
              clear hap hxc
              have hc7 := hB7c.cells; have hf7 := hB7c.free; have hl7 := hB7c.lt
              go_wp2_with (at_builtin; refine wpl_cf (x := ow.name) (y := q) (by rfl) wc.heap.size (by rfl) (by rfl) (by rfl) (HO3.out.ext Xt) Bxt (by omega) (by simp; omega) ?_; intro g6 cap6 w6 hO6 hg6 hgb6; have HO6 := Lib.hid hO6; clear hO6)
              have hx6 : Ext wa w6 := Ext.grown (b := wc.alloc _) Xt hg6 hgb6
              have hB76 : Box w6 wo.heap.size #[.string ow.name, .slice (some ⟨b2, o2, none⟩) ow.paths.length pc] 42 := Box.grown (w := wc.alloc _) (Box.alloc hB7c _) hg6 (fun e => Hap.out _ e.symm rfl)
              go_roundg (ow.paths.length - (j + 1))
              case measure => omega
              case rel => exact ⟨j + 1, _, _, ds ++ [(ow.name, q)], by omega, by go_num, rfl, by rw [List.length_append]; rfl, Hnext.out, by rw [List.length_append]; exact HO6.out.ext Xt, Bxt, Xt⟩
          · have Hnext := Lib.hid (show ds = confL v (l.take (k + 1)) who want by
              rw [Htk.out, Hco.out, Hds.out, Hcs.out, List.take_of_length_le (show ow.paths.length ≤ j by omega)])
            go_wp2_with fail
            go_roundg (l.length - (k + 1))
            case measure => omega
            case rel => exact ⟨k + 1, a2, c2, ds, by omega, by go_num, rfl, rfl, Hnext.out, HO2.out.ext Xt, Xt⟩
    · have Hend := Lib.hid (show cs = confL v l who want by rw [Hcs.out, List.take_of_length_le (by omega)])
      go_wp2_with fail
      go_ret
      rw [← Hend.out]
      obtain ⟨a5, c5, he5, hok5, hst5⟩ := HO.out.rows
      simp only [Value.slice.injEq, true_and] at he5
      obtain ⟨rfl, rfl⟩ := he5
      exact ⟨a', c', rfl, hok5, (hst5.mono (fun b hb => by omega)).ext Xt, Xt⟩
end Go.Proofs.YtjibdbnpkfghhaaGreatDoor
