/- The walks of point.Split's loop and of point.Join. -/
import Derived.Test.YtknnflobpjppfaaDoorPoint1
set_option linter.all false
namespace Go.Proofs.YtknnflobpjppfaaDoor
open Go.RowKit

theorem ahead_len (b : UInt8) (l : List (List UInt8)) : (ahead b l).length ≤ l.length + 1 := by cases l <;> simp [ahead]
theorem split_len (s : List UInt8) : (Lib.split s [47]).length ≤ s.length + 1 := by
  induction s with
  | nil => rw [split_nil]; simp
  | cons b l ih =>
    by_cases h : b = 47
    · subst h; rw [split_hit]; simp only [List.length_cons]; omega
    · rw [split_miss h]
      cases hs : Lib.split l [47] with
      | nil => simp [ahead]
      | cons p ps => rw [hs] at ih; simp only [ahead, List.length_cons] at ih ⊢; omega
theorem split_piece (s : List UInt8) : ∀ q ∈ Lib.split s [47], q.length ≤ s.length := by
  induction s with
  | nil => rw [split_nil]; simp
  | cons b l ih =>
    by_cases h : b = 47
    · subst h; rw [split_hit]
      intro q hq
      rcases List.mem_cons.1 hq with rfl | hq
      · simp
      · have := ih q hq; simp only [List.length_cons]; omega
    · rw [split_miss h]
      cases hs : Lib.split l [47] with
      | nil => simp [ahead]
      | cons p ps =>
        rw [hs] at ih
        intro q hq
        simp only [ahead, List.mem_cons] at hq
        rcases hq with rfl | hq
        · have := ih p (by simp); simp only [List.length_cons]; omega
        · have := ih q (by simp [hq]); simp only [List.length_cons]; omega
theorem names_at (r : List UInt8) (h : (47 :: r : List UInt8).length ≤ 2000) : namesL (47 :: r) = if (Lib.split r [47]).all tildeL = true then some ((Lib.split r [47]).map unescN) else none := by
  unfold namesL
  simp only
  rw [if_pos ⟨trivial, h⟩]
theorem byte_get {q : ByteArray} {j : Nat} (h : j < q.size) : q.data.toList[j]? = some q[j] := by
  rw [List.getElem?_eq_getElem (by simpa using h)]
  rfl
theorem byte_of {c : UInt8} {n : Nat} (hn : n < 256) (h : (c.toNat : Int) = n) : c = UInt8.ofNat n := by
  apply UInt8.toNat_inj.1
  simp
  omega

set_option maxRecDepth 100000 in
set_option maxHeartbeats 8000000 in
theorem split_loop (p : ByteArray) (r : List UInt8) (hp : p.data.toList = 47 :: r) (hs : p.size ≤ 2000) (w : World) (hm : MaxAt w) : Calls Tryd.prog 11 #[.string p] w (RetNames (namesL p.data.toList) w) := by
  have hsz : p.size = r.length + 1 := by
    have : p.size = p.data.toList.length := Array.length_toList.symm
    rw [this, hp]; rfl
  have hnames := names_at r (by simp; omega)
  rw [← hp] at hnames
  have Hn := Lib.hid hnames
  have hcp : ∀ w, Calls Tryd.prog 30 #[.string p, .string ⟨#[47]⟩] w fun e w' => e = .returned (.tuple #[.string ⟨r.toArray⟩, .bool true]) ∧ w = w' := fun w => by
    have hx : Lib.hasPrefix p.data.toList (⟨#[47]⟩ : ByteArray).data.toList = true := by rw [hp]; simp [Lib.hasPrefix, List.isPrefixOf]
    refine (Tryd.strings_CutPrefix p ⟨#[47]⟩ w).mono ?_
    rintro e w' ⟨rfl, rfl⟩
    have ht : Lib.trimPrefix p.data.toList (⟨#[47]⟩ : ByteArray).data.toList = r := by rw [Lib.trimPrefix, if_pos hx, hp]; rfl
    exact ⟨by rw [hx, ht], rfl⟩
  have h1 : p.toList.isEmpty = false := by rw [ByteArray.toList_eq, hp]; rfl
  have h2 : ¬ p.toList = [] := by rw [ByteArray.toList_eq, hp]; simp
  have hs1 : ¬ (2000 : Int) < (p.size : Int) := by omega
  have hs2 : (p.size : Int) ≤ 2000 := by omega
  obtain ⟨i0, hi, hz0, hz1, hz2'⟩ := info_parts Tryd.infoS
  clear hnames hp
  go_enter Tryd.func11, Tryd.ntmps11
  go_wp2_with (first
    | (go_at_call 30; refine (hcp _).mono ?_; rintro e w1 ⟨rfl, rfl⟩)
    | (go_at_call 31; refine (split_at r (by omega) _ (hm.ext (by with_reducible repeat (first | exact Ext.refl _ | assumption | apply Ext.drew | apply Ext.drewN | apply Ext.alloc | (refine Ext.setCell ?_ ?_ _; rotate_left; (focus (first | (simp; done) | (simp; omega) | omega))) | refine Ext.trans ?_ (by assumption))))).mono ?_; rintro e w1 ⟨ps, hps, rfl, rfl⟩))
  refine gen_world (R := fun wx => Box wx w.heap.size (ps.map Value.string).toArray 9 ∧ Ext w wx) ⟨(by (with_reducible apply Box.to); (focus (with_reducible repeat (first | assumption | (apply Box.new; (focus (first | rfl | (first | (simp; done) | (simp; omega) | omega)))) | apply Box.set | (apply Box.other; rotate_left; (focus (first | (simp; done) | (simp; omega) | omega))) | apply Box.alloc | apply Box.drew | (apply Box.ext; (focus assumption))))); (first | rfl | (simp; done) | (go_light; simp [*]; done))), (by with_reducible repeat (first | exact Ext.refl _ | assumption | apply Ext.drew | apply Ext.drewN | apply Ext.alloc | (refine Ext.setCell ?_ ?_ _; rotate_left; (focus (first | (simp; done) | (simp; omega) | omega))) | refine Ext.trans ?_ (by assumption)))⟩ ?_
  rintro wx ⟨hB, hx⟩
  have hmx := hm.ext hx
  have hpl : ps.length ≤ 2000 := by
    have h := split_len r
    rw [← hps] at h
    simp only [List.length_map] at h
    omega
  have hpz : ∀ i (h : i < ps.length), (ps[i]).size ≤ 2000 := by
    intro i h
    have h3 := split_piece r (ps[i]).data.toList (by rw [← hps]; exact List.mem_map_of_mem (List.getElem_mem h))
    have h4 : (ps[i]).size = (ps[i]).data.toList.length := Array.length_toList.symm
    omega
  have hcell : ∀ i (h : i < ps.length), wx.cell? ⟨w.heap.size, i, none⟩ = some (.string ps[i]) := by
    intro i h
    rw [hB.cells i]
    simp [h]
  have Hps := Lib.hid hps
  clear hps hB hm hcp h1 h2 hs1 hs2
  go_loopg [6, 8, 9, 27] ps.length (fun g t6 _ _ i wr => ∃ (k : Nat) (a2 : Option Addr) (c2 : Nat) (ks : List ByteArray), k ≤ ps.length ∧ i = .int .i64 k ∧ g = ps.length - k ∧ t6 = .slice a2 k c2 ∧
    (∀ i (h : i < ps.length), i < k → tildeL (ps[i]).data.toList = true) ∧ ks.map (·.data.toList) = (ps.take k).map (fun q => unescN q.data.toList) ∧ wr.ownsRow wx.heap.size 9 1 (.slice a2 k c2) k (ks.map Value.string) ∧ Ext wx wr)
  case atStart => exact ⟨0, none, 0, [], by omega, rfl, rfl, rfl, fun i _ h => by omega, by simp, World.ownsRow_nil _ _ _ _, Ext.refl _⟩
  case round =>
    obtain ⟨k, a2, c2, ks, hk, rfl, rfl, rfl, htl, hks, hown, hxr⟩ := hrel
    have Htl := Lib.hid htl
    have Hks := Lib.hid hks
    have Hown := Lib.hid hown
    clear htl hks hown
    by_cases hlt : k < ps.length
    · have d0 := hxr.cell (hcell k hlt)
      have hqz := hpz k hlt
      clear hcell hpz
      obtain ⟨q, hq⟩ : ∃ q, ps[k] = q := ⟨_, rfl⟩
      rw [hq] at d0 hqz
      have Hq := Lib.hid hq
      clear hq
      have hmr := hmx.ext hxr
      go_wp2_with fail
      go_loopg [9, 33] q.size (fun g _ i wi => ∃ j : Nat, j ≤ q.size ∧ i = .int .i64 j ∧ g = q.size - j ∧ (∀ i, i < j → tildeAt q.data.toList i) ∧ wi = wr)
      case atStart => exact ⟨0, Nat.zero_le _, rfl, rfl, fun i h => by omega, rfl⟩
      case round =>
        obtain ⟨j, hj, rfl, rfl, hta, rfl⟩ := hrel
        have Hta := Lib.hid hta
        clear hta
        by_cases hjl : j < q.size
        · have b0 := byte_get hjl
          by_cases c : (q[j].toNat : Int) = 126
          · have cb : ((q[j].toNat : Int) == 126) = true := by simpa using c
            have hq126 : q.data.toList[j]? = some 126 := by rw [b0, byte_of (n := 126) (by omega) c]; rfl
            by_cases e : j + 1 < q.size
            · have b1 := byte_get e
              have e1 : ((j : Int) + 1 == (q.size : Int)) = false := by simp; omega
              by_cases z : (q[j + 1].toNat : Int) = 48
              · have zb : ((q[j + 1].toNat : Int) == 48) = true := by simpa using z
                have zc : ((q[j + 1].toNat : Int) != 48) = false := by simpa using z
                have Hg := Lib.hid (show tildeAt q.data.toList j from fun _ => .inl (by rw [b1, byte_of (n := 48) (by omega) z]; rfl))
                go_wp2_with fail
                go_roundg (q.size - (j + 1))
                case measure => omega
                case rel => exact ⟨j + 1, by omega, by go_num, rfl, fun i h => by
                  by_cases hij : i = j
                  · subst hij; exact Hg.out
                  · exact Hta.out i (by omega), rfl⟩
              · have zb : ((q[j + 1].toNat : Int) == 48) = false := by simpa using z
                have zc : ((q[j + 1].toNat : Int) != 48) = true := by simpa using z
                by_cases o : (q[j + 1].toNat : Int) = 49
                · have ob : ((q[j + 1].toNat : Int) == 49) = true := by simpa using o
                  have oc : ((q[j + 1].toNat : Int) != 49) = false := by simpa using o
                  have Hg := Lib.hid (show tildeAt q.data.toList j from fun _ => .inr (by rw [b1, byte_of (n := 49) (by omega) o]; rfl))
                  go_wp2_with fail
                  go_roundg (q.size - (j + 1))
                  case measure => omega
                  case rel => exact ⟨j + 1, by omega, by go_num, rfl, fun i h => by
                    by_cases hij : i = j
                    · subst hij; exact Hg.out
                    · exact Hta.out i (by omega), rfl⟩
                · have ob : ((q[j + 1].toNat : Int) == 49) = false := by simpa using o
                  have oc : ((q[j + 1].toNat : Int) != 49) = true := by simpa using o
                  have Hb := Lib.hid (show ¬ tildeAt q.data.toList j from fun h => by
                    rcases h hq126 with h | h
                    · rw [b1] at h; simp only [Option.some.injEq] at h; rw [h] at z; exact z rfl
                    · rw [b1] at h; simp only [Option.some.injEq] at h; rw [h] at o; exact o rfl)
                  go_wp2_with fail
                  go_ret2
                  refine .inr ⟨?_, rfl, (by with_reducible repeat (first | exact Ext.refl _ | assumption | apply Ext.drew | apply Ext.drewN | apply Ext.alloc | (refine Ext.setCell ?_ ?_ _; rotate_left; (focus (first | (simp; done) | (simp; omega) | omega))) | refine Ext.trans ?_ (by assumption)))⟩
                  rw [Hn.out, if_neg]
                  intro h
                  have h1 := List.all_eq_true.1 h q.data.toList (by rw [← Hps.out]; exact List.mem_map_of_mem (by rw [← Hq.out]; exact List.getElem_mem hlt))
                  exact Hb.out ((tildeL_iff _).1 h1 j)
            · have e1 : ((j : Int) + 1 == (q.size : Int)) = true := by simp; omega
              have Hb := Lib.hid (show ¬ tildeAt q.data.toList j from fun h => by
                have : q.data.toList[j + 1]? = none := List.getElem?_eq_none (by rw [Array.length_toList]; exact Nat.le_of_not_lt e)
                rcases h hq126 with h | h <;> rw [this] at h <;> cases h)
              go_wp2_with fail
              go_ret2
              refine .inr ⟨?_, rfl, (by with_reducible repeat (first | exact Ext.refl _ | assumption | apply Ext.drew | apply Ext.drewN | apply Ext.alloc | (refine Ext.setCell ?_ ?_ _; rotate_left; (focus (first | (simp; done) | (simp; omega) | omega))) | refine Ext.trans ?_ (by assumption)))⟩
              rw [Hn.out, if_neg]
              intro h
              have h1 := List.all_eq_true.1 h q.data.toList (by rw [← Hps.out]; exact List.mem_map_of_mem (by rw [← Hq.out]; exact List.getElem_mem hlt))
              exact Hb.out ((tildeL_iff _).1 h1 j)
          · have cb : ((q[j].toNat : Int) == 126) = false := by simpa using c
            have Hg := Lib.hid (show tildeAt q.data.toList j from fun h => by rw [b0] at h; simp only [Option.some.injEq] at h; rw [h] at c; exact absurd rfl c)
            go_wp2_with fail
            go_roundg (q.size - (j + 1))
            case measure => omega
            case rel => exact ⟨j + 1, by omega, by go_num, rfl, fun i h => by
              by_cases hij : i = j
              · subst hij; exact Hg.out
              · exact Hta.out i (by omega), rfl⟩
        · obtain rfl : j = q.size := by omega
          have hall : tildeL q.data.toList = true := (tildeL_iff _).2 fun i => by
            by_cases h : i < q.size
            · exact Hta.out i h
            · intro h2
              rw [List.getElem?_eq_none (by rw [Array.length_toList]; exact Nat.le_of_not_lt h)] at h2
              cases h2
          have Hall := Lib.hid hall
          clear hall
          have h5 := unesc_len q.data.toList
          have h6 : q.data.toList.length = q.size := Array.length_toList
          go_wp2_with fail
          (refine (replace_at q [126, 49] [47] (by simp) (by decide) (by simp) (by omega) _ (hmr.ext (by with_reducible repeat (first | exact Ext.refl _ | assumption | apply Ext.drew | apply Ext.drewN | apply Ext.alloc | (refine Ext.setCell ?_ ?_ _; rotate_left; (focus (first | (simp; done) | (simp; omega) | omega))) | refine Ext.trans ?_ (by assumption))))).mono ?_); rintro e w1 ⟨rfl, h1⟩
          go_wp2_with fail
          (refine (replace_at ⟨(Lib.replaceAll q.data.toList [126, 49] [47]).toArray⟩ [126, 48] [126] (by simp) (by decide) (by simp) (by rw [size_arr]; omega) _ (hmr.ext (by with_reducible repeat (first | exact Ext.refl _ | assumption | apply Ext.drew | apply Ext.drewN | apply Ext.alloc | (refine Ext.setCell ?_ ?_ _; rotate_left; (focus (first | (simp; done) | (simp; omega) | omega))) | refine Ext.trans ?_ (by assumption))))).mono ?_); rintro e w2 ⟨rfl, h2⟩
          obtain ⟨nm, hnm⟩ : ∃ nm : ByteArray, (⟨(Lib.replaceAll (⟨(Lib.replaceAll q.data.toList [126, 49] [47]).toArray⟩ : ByteArray).data.toList [126, 48] [126]).toArray⟩ : ByteArray) = nm := ⟨_, rfl⟩
          have hnu : nm.data.toList = unescN q.data.toList := by rw [← hnm]; rfl
          rw [hnm]
          have hx2 : Ext wr w2 := (by with_reducible repeat (first | exact Ext.refl _ | assumption | apply Ext.drew | apply Ext.drewN | apply Ext.alloc | (refine Ext.setCell ?_ ?_ _; rotate_left; (focus (first | (simp; done) | (simp; omega) | omega))) | refine Ext.trans ?_ (by assumption)))
          have Hown2 := Lib.hid (ownsRow_ext Hown.out hx2)
          have hz2 := hx2.size
          have hz3 := hxr.size
          go_wp2_with ((at_builtin; refine wpList_append_lies _ (by rfl) _ _ 22 (by rfl) wx.heap.size 9 i0 _ 1 16 Tryd.underlying22 hi hz0 hz1 hz2' rfl (by decide) (.slice a2 k c2) k (ks.map Value.string) (by rfl) (Hown2.out.alloc _) ⟨w2.heap.size, 0, none⟩ 1 1 [.string nm] (by rfl) (by rfl) (World.news_of_block (cs := #[.string nm]) (t := 9) (fr := (0, 0)) (heap_alloc_new w2 _)) (by simp [Value.oneCell']) (by omega) (by unfold maxLen; omega) (by omega) (by simp; omega) _ rfl ?_; intro g6 cap6 w6 hown6 hgrow6 hat6 hlt6; have Hgrow := Lib.hid hgrow6; have Hown6 := Lib.hid hown6; clear hgrow6 hown6 hat6))
          have hx6 : Ext wx w6 := Ext.grown (b := w2.alloc _) (by with_reducible repeat (first | exact Ext.refl _ | assumption | apply Ext.drew | apply Ext.drewN | apply Ext.alloc | (refine Ext.setCell ?_ ?_ _; rotate_left; (focus (first | (simp; done) | (simp; omega) | omega))) | refine Ext.trans ?_ (by assumption))) Hgrow.out (fun g hg => by have := (Hown.out.lt g hg).1; omega)
          go_roundg (ps.length - (k + 1))
          case measure => omega
          case rel =>
            refine ⟨k + 1, _, _, ks ++ [nm], by omega, by go_num, rfl, rfl, fun i h hik => ?_, ?_, ?_, (by with_reducible repeat (first | exact Ext.refl _ | assumption | apply Ext.drew | apply Ext.drewN | apply Ext.alloc | (refine Ext.setCell ?_ ?_ _; rotate_left; (focus (first | (simp; done) | (simp; omega) | omega))) | refine Ext.trans ?_ (by assumption)))⟩
            · by_cases e : i = k
              · subst e; rw [Hq.out]; exact Hall.out
              · exact Htl.out i h (by omega)
            · rw [List.map_append, Hks.out, List.take_succ_eq_append_getElem hlt, List.map_append]
              simp only [List.map_cons, List.map_nil, hnu, Hq.out]
            · rw [List.map_append]; exact Hown6.out
    · obtain rfl : k = ps.length := by omega
      have hkl : ks.length = ps.length := by
        have := congrArg List.length Hks.out
        simpa using this
      go_wp2_with fail
      go_ret2
      obtain ⟨a4, c4, he4, hok4, -, hst⟩ := OwnS.strs (base := wx.heap.size) (ks := ks) ⟨hkl, Hown.out⟩
      simp only [Value.slice.injEq, true_and] at he4
      obtain ⟨rfl, rfl⟩ := he4
      refine .inl ⟨_, a2, ps.length, c2, ks, ?_, rfl, hkl, rfl, hok4, hst.keep (fun _ _ _ => rfl) (fun b h _ => by have := hx.size; omega), (by with_reducible repeat (first | exact Ext.refl _ | assumption | apply Ext.drew | apply Ext.drewN | apply Ext.alloc | (refine Ext.setCell ?_ ?_ _; rotate_left; (focus (first | (simp; done) | (simp; omega) | omega))) | refine Ext.trans ?_ (by assumption)))⟩
      rw [Hn.out, if_pos, Hks.out, List.take_of_length_le (Nat.le_refl _), ← Hps.out, List.map_map]
      · rfl
      · rw [← Hps.out, List.all_eq_true]
        intro x hx
        obtain ⟨q, hq, rfl⟩ := List.mem_map.1 hx
        obtain ⟨i, hi, rfl⟩ := List.getElem_of_mem hq
        exact Htl.out i hi hi
theorem split_any (p : ByteArray) (hs : p.size ≤ 1073741824) (w : World) (hm : MaxAt w) : Calls Tryd.prog 11 #[.string p] w (RetNames (namesL p.data.toList) w) := by
  by_cases h : Lib.hasPrefix p.data.toList [47] = true ∧ p.size ≤ 2000
  · cases hp : p.data.toList with
    | nil => rw [hp] at h; simp [Lib.hasPrefix, List.isPrefixOf] at h
    | cons c r =>
      have hc : c = 47 := by
        have := h.1
        rw [hp] at this
        simp [Lib.hasPrefix, List.isPrefixOf] at this
        exact this.symm
      subst hc
      rw [← hp]
      exact split_loop p r hp h.2 w hm
  · refine split_none p w ?_
    by_cases h0 : p.data.toList = []
    · exact .inl h0
    · exact .inr ⟨h0, h⟩
end Go.Proofs.YtknnflobpjppfaaDoor
