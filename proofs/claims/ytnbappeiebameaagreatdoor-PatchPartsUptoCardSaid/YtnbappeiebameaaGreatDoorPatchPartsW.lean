/- PatchParts: for all values the law returns true (what comes of some and then of the others is what comes of all); the arguments hold together at most 1048576 values and letters; the library's listed variables as its text lays them. -/
import Derived.Test.YtnbappeiebameaaGreatDoorPkC
import Derived.Test.YtnbappeiebameaaGreatDoorLibAt
import Derived.Test.YtnbappeiebameaaGreatDoorPkL
import Derived.Test.YtnbappeiebameaaGreatDoorPatchK
import Derived.Test.YtnbappeiebameaaGreatDoorPickW
import Derived.Deep.RegionWith
import Derived.HandedShaped
import Derived.SevenTiedAt
set_option linter.all false
namespace Go.Proofs.YtnbappeiebameaaGreatDoor.lawPatchParts
open Go.ChangeShapes Go.WideShapes Go.ChangeAt Go.RowKit
open Go.ChangeMaps (open_string shut_string)
section
attribute [local go_sem ↓] Go.wp_at_zero Go.wp_at_succ

theorem _root_.Go.Proofs.YtnbappeiebameaaGreatDoor.OpsIn.take {w : World} {S : Nat → Prop} {a : Option Addr} {l : List OpV} (h : OpsIn w S a l) (j : Nat) : OpsIn w S a (l.take j) := by
  rcases h with rfl | ⟨b, o, rfl, hS, hr⟩
  · exact .inl (by simp)
  · refine .inr ⟨b, o, rfl, hS, fun i hi => ?_⟩
    have hi2 : i < l.length := by rw [List.length_take] at hi; omega
    rw [List.getElem_take]
    exact hr i hi2
theorem _root_.Go.Proofs.YtnbappeiebameaaGreatDoor.OpsIn.old {w : World} {S : Nat → Prop} {a : Option Addr} {l : List OpV} (h : OpsIn w S a l) : OpsIn w (fun b => b < w.heap.size) a l := by
  rcases h with rfl | ⟨b, o, rfl, hS, hr⟩
  · exact .inl rfl
  · by_cases hl : l.length = 0
    · exact .inl (List.eq_nil_of_length_eq_zero hl)
    · refine .inr ⟨b, o, rfl, cell_lt (hr 0 (by omega)).1, fun i hi => ⟨(hr i hi).1, (hr i hi).2.1, (hr i hi).2.2.1, ?_⟩⟩
      obtain ⟨ka, kc, la, lc, hc, hin⟩ := (hr i hi).2.2.2
      exact ⟨ka, kc, la, lc, hc, hin.mono fun b _ hl => hl⟩
theorem _root_.Go.Proofs.YtnbappeiebameaaGreatDoor.V.In.old {w : World} {S : Nat → Prop} {x : V} {ka : Option Addr} {kc : Nat} {la : Option Addr} {lc : Nat} (h : x.In w S ka kc la lc) : x.In w (fun b => b < w.heap.size) ka kc la lc := h.mono fun b _ hl => hl
theorem _root_.Go.Proofs.YtnbappeiebameaaGreatDoor.OpsIn.drop {w : World} {S : Nat → Prop} {a : Option Addr} {l : List OpV} (h : OpsIn w S a l) {j cap : Nat} (hc : l.length ≤ cap) : OpsIn w S (if cap = j then a else Option.map (fun x => x.add (j * 8)) a) (l.drop j) := by
  by_cases hcj : cap = j
  · exact .inl (List.drop_eq_nil_of_le (by omega))
  · rw [if_neg hcj]
    rcases h with rfl | ⟨b, o, rfl, hS, hr⟩
    · exact .inl (by simp)
    · refine .inr ⟨b, o + j * 8, by simp [Addr.add], hS, fun i hi => ?_⟩
      have hi2 : j + i < l.length := by rw [List.length_drop] at hi; omega
      have h2 := hr (j + i) hi2
      rw [List.getElem_drop, show o + j * 8 + i * 8 = o + (j + i) * 8 by omega]
      exact h2
theorem sum_append (l m : List OpV) : ((l ++ m).map OpV.size).sum = (l.map OpV.size).sum + (m.map OpV.size).sum := by
  rw [List.map_append, List.sum_append]
theorem ops_take {l : List OpV} {B : Nat} (h : (l.map OpV.size).sum ≤ B) (j : Nat) : ((l.take j).map OpV.size).sum ≤ B ∧ ((l.drop j).map OpV.size).sum ≤ B := by
  have := sum_append (l.take j) (l.drop j)
  rw [List.take_append_drop] at this
  omega
set_option maxRecDepth 100000 in
set_option maxHeartbeats 8000000 in
theorem walk (x : V) (ka0 : Option Addr) (kc0 : Nat) (la0 : Option Addr) (lc0 : Nat) (a : Option Addr) (cap : Nat) (l : List OpV) (n : Int) (w : World) (hl : LibAt w) (hs0 : x.size ≤ 4194304) (hs1 : (l.map OpV.size).sum ≤ 4194304) (wn : -9223372036854775808 ≤ n ∧ n ≤ 9223372036854775807) (hin0 : x.In w All ka0 kc0 la0 lc0) (hok : SlOk a l.length cap) (hops : OpsIn w All a l) :
    Calls Tryz.prog 8 #[x.val ka0 kc0 la0 lc0, .slice a l.length cap, .int .i64 n] w fun e w' => e = .returned (.bool true) ∧ Ext w w' := by
  have Hin0 := Lib.hid hin0
  have Hops := Lib.hid hops
  have Hs1 := Lib.hid hs1
  have Hok := Lib.hid hok
  have hln := Nat.le_trans (ops_len l) hs1
  have hcap := hok.1
  have Hln := Lib.hid hln
  clear hin0 hops hs1 hok
  by_cases h20 : (20 : Int) < (l.length : Int)
  · go_enter Tryz.func8, Tryz.ntmps8
    go_wp2_with fail
    (refine (patches_keep _ (hl.ext Xt)).mono ?_)
    rintro e w1 ⟨rfl, h1⟩
    have hx1 : Ext w w1 := Xt
    go_wp2_with fail
    go_ret
    exact ⟨rfl, Xt⟩
  · go_enter Tryz.func8, Tryz.ntmps8
    go_wp2_with fail
    (refine (pick_any n ((l.length : Int) + 1) (by omega) (by omega) _).mono ?_)
    rintro e w1 ⟨⟨j, hj, rfl⟩, rfl⟩
    have hj1 : ¬ (l.length : Int) < (j : Int) := by omega
    have hj2 : ¬ (cap : Int) < (j : Int) := by omega
    have hj3 : ¬ (j : Int) < 0 := by omega
    have Ht := Lib.hid (Hops.out.take j)
    have Hd := Lib.hid (ops_take Hs1.out j)
    have Hjl := Lib.hid (show (l.take j).length = j by rw [List.length_take]; omega)
    obtain ⟨u1, hu1⟩ : ∃ u, (allV x (l.take j)).1 = u := ⟨_, rfl⟩
    obtain ⟨e1, he1⟩ : ∃ e, (allV x (l.take j)).2 = e := ⟨_, rfl⟩
    have H1 := Lib.hid (show allV x (l.take j) = (u1, e1) from Prod.ext hu1 he1)
    clear hu1 he1
    have hj4 : j ≤ 4194304 := by omega
    obtain ⟨u2, hu2⟩ : ∃ u, (allV u1 (l.drop j)).1 = u := ⟨_, rfl⟩
    obtain ⟨e2, he2⟩ : ∃ e, (allV u1 (l.drop j)).2 = e := ⟨_, rfl⟩
    have H2 := Lib.hid (show allV u1 (l.drop j) = (u2, e2) from Prod.ext hu2 he2)
    obtain ⟨u3, hu3⟩ : ∃ u, (allV x l).1 = u := ⟨_, rfl⟩
    obtain ⟨e3, he3⟩ : ∃ e, (allV x l).2 = e := ⟨_, rfl⟩
    have H3 := Lib.hid (show allV x l = (u3, e3) from Prod.ext hu3 he3)
    clear hu2 he2 hu3 he3
    have hz1 : u1.size ≤ 4194304 := by have := all_size x (l.take j); rw [H1.out] at this; simp only at this; omega
    have hz2 : u2.size ≤ 4194304 := by have := all_size u1 (l.drop j); rw [H2.out] at this; simp only at this; omega
    have hz3 : u3.size ≤ 4194304 := by have := all_size x l; rw [H3.out] at this; simp only at this; omega
    have Hp := Lib.hid (show (e1 ≠ 0 → u3 = x ∧ e3 = e1) ∧ (e1 = 0 → e3 = e2 ∧ (e2 = 0 → u2 = u3) ∧ (e2 ≠ 0 → u3 = x)) by
      have h := all_parts x (l.take j) (l.drop j) (by rw [List.take_append_drop]; omega)
      rw [List.take_append_drop, H1.out, H3.out] at h
      simp only at h
      rw [H2.out] at h
      simp only at h
      exact ⟨fun e => ⟨congrArg Prod.fst (h.1 e), congrArg Prod.snd (h.1 e)⟩, fun e => ⟨(h.2 e).1, fun e' => ((h.2 e).2.1 e').symm, (h.2 e).2.2⟩⟩)
    have Hdl := Lib.hid (show (l.drop j).length = l.length - j from List.length_drop)
    have Hdr := Lib.hid (Hops.out.drop (j := j) hcap)
    obtain ⟨ad, had⟩ : ∃ ad, (if cap = j then a else Option.map (fun x => x.add (j * 8)) a) = ad := ⟨_, rfl⟩
    rw [had] at Hdr
    have Had := Lib.hid had
    clear had
    have hj5 : l.length - j ≤ 4194304 := by omega
    go_upto_region 4 with fail
    refine gen_world (R := fun wx => Box wx w.heap.size #[.int .i64 x.k, .int .i64 x.n, .string x.s, .slice ka0 x.keys.length kc0, .slice la0 x.l.length lc0] 25 ∧ Ext w wx) ⟨Bxt, Xt⟩ ?_
    rintro wa ⟨hB0, hxa⟩
    have Cl := Lib.hid (fun w' (hE : Ext wa w') => all_any x ka0 kc0 la0 lc0 a cap (l.take j) j w' Hjl (hl.ext (hxa.trans hE)) hs0 Hd.out.1 hj4 (fun b => b < wa.heap.size) ((Hin0.out.ext hxa).old.ext hE) ((Ht.out.ext hxa).old.ext hE))
    rw [H1.out] at Cl
    have hz0 := hB0.lt
    have Sof : ∀ w', Ext wa w' → (w'.cell? ⟨w.heap.size, 0, none⟩ = some (.int .i64 x.k) ∧ w'.cell? ⟨w.heap.size, 1, none⟩ = some (.int .i64 x.n) ∧ w'.cell? ⟨w.heap.size, 2, none⟩ = some (.string x.s) ∧ w'.cell? ⟨w.heap.size, 3, none⟩ = some (.slice ka0 x.keys.length kc0) ∧ w'.cell? ⟨w.heap.size, 4, none⟩ = some (.slice la0 x.l.length lc0)) :=
      fun w' e => ⟨e.cell (hB0.cells 0), e.cell (hB0.cells 1), e.cell (hB0.cells 2), e.cell (hB0.cells 3), e.cell (hB0.cells 4)⟩
    refine wp_region_till (S := fun w' => w'.cell? ⟨w.heap.size, 0, none⟩ = some (.int .i64 x.k) ∧ w'.cell? ⟨w.heap.size, 1, none⟩ = some (.int .i64 x.n) ∧ w'.cell? ⟨w.heap.size, 2, none⟩ = some (.string x.s) ∧ w'.cell? ⟨w.heap.size, 3, none⟩ = some (.slice ka0 x.keys.length kc0) ∧ w'.cell? ⟨w.heap.size, 4, none⟩ = some (.slice la0 x.l.length lc0)) (c := 10) (by kernel_rfl) ?_
    (refine wpAnyT_take (i := 0) (v := ?_) [4, 5, 6, 9, 10] (Array.getElem?_eq_getElem (by decide)) (by kernel_rfl) (by kernel_rfl) (by kernel_rfl) (by kernel_rfl) rfl rfl (by kernel_rfl) (fun _ _ _ h => h) (Or.inl ⟨by kernel_rfl, ?_⟩) (Sof _ Xt) ?_); rotate_left; (focus (intro w hSw; (try dsimp only at hSw); (try simp only [Act.put, List.setIfInBounds_toArray, List.set_cons_zero, List.set_cons_succ, List.getElem_toArray, List.getElem_cons_zero, List.getElem_cons_succ]); go_simp; (try with_reducible rfl))); (try simp only [Act.put, List.setIfInBounds_toArray, List.set_cons_zero, List.set_cons_succ, List.getElem_toArray, List.getElem_cons_zero, List.getElem_cons_succ])
    (refine wpAnyT_take (i := 1) (v := ?_) [3, 4, 5, 6, 9, 10] (Array.getElem?_eq_getElem (by decide)) (by kernel_rfl) (by kernel_rfl) (by kernel_rfl) (by kernel_rfl) rfl rfl (by kernel_rfl) (fun _ _ _ h => h) (Or.inl ⟨by kernel_rfl, ?_⟩) (Sof _ Xt) ?_); rotate_left; (focus (intro w hSw; (try dsimp only at hSw); (try simp only [Act.put, List.setIfInBounds_toArray, List.set_cons_zero, List.set_cons_succ, List.getElem_toArray, List.getElem_cons_zero, List.getElem_cons_succ]); go_simp; (try with_reducible rfl))); (try simp only [Act.put, List.setIfInBounds_toArray, List.set_cons_zero, List.set_cons_succ, List.getElem_toArray, List.getElem_cons_zero, List.getElem_cons_succ])
    (refine wpAnyT_take (i := 2) (v := ?_) [3, 4, 5, 6, 9, 10] (Array.getElem?_eq_getElem (by decide)) (by kernel_rfl) (by kernel_rfl) (by kernel_rfl) (by kernel_rfl) rfl rfl (by kernel_rfl) (fun _ _ _ h => h) (Or.inl ⟨by kernel_rfl, ?_⟩) (Sof _ Xt) ?_); rotate_left; (focus (intro w hSw; (try dsimp only at hSw); (try simp only [Act.put, List.setIfInBounds_toArray, List.set_cons_zero, List.set_cons_succ, List.getElem_toArray, List.getElem_cons_zero, List.getElem_cons_succ]); go_simp; (try with_reducible rfl))); (try simp only [Act.put, List.setIfInBounds_toArray, List.set_cons_zero, List.set_cons_succ, List.getElem_toArray, List.getElem_cons_zero, List.getElem_cons_succ])
    (refine wpAnyT_take (i := 3) (v := ?_) [4, 5, 6, 9, 10] (Array.getElem?_eq_getElem (by decide)) (by kernel_rfl) (by kernel_rfl) (by kernel_rfl) (by kernel_rfl) rfl rfl (by kernel_rfl) (fun _ _ _ h => h) (Or.inl ⟨by kernel_rfl, ?_⟩) (Sof _ Xt) ?_); rotate_left; (focus (intro w hSw; (try dsimp only at hSw); (try simp only [Act.put, List.setIfInBounds_toArray, List.set_cons_zero, List.set_cons_succ, List.getElem_toArray, List.getElem_cons_zero, List.getElem_cons_succ]); go_simp; (try with_reducible rfl))); (try simp only [Act.put, List.setIfInBounds_toArray, List.set_cons_zero, List.set_cons_succ, List.getElem_toArray, List.getElem_cons_zero, List.getElem_cons_succ])
    refine wpAnyT_ready (rs := [4, 8]) (by kernel_rfl) (by simp) ?_
    refine AllReadyT.cons (Array.getElem?_eq_getElem (by decide)) (fun K hK => ?_) (AllReadyT.cons (Array.getElem?_eq_getElem (by decide)) (fun K hK => ?_) AllReadyT.nil)
    · (try simp only [Act.put, List.setIfInBounds_toArray, List.set_cons_zero, List.set_cons_succ, List.getElem_toArray, List.getElem_cons_zero, List.getElem_cons_succ])
      (try go_simp)
      (refine (Cl.out _ Xt).mono ?_)
      rintro e w1 ⟨ka1, kc1, la1, lc1, rfl, hin_, h_w1⟩
      have Hin1 := Lib.hid (all_in hin_)
      clear hin_
      (try go_simp)
      refine hK.out _ _ (fun _ => Sof _ Xt) ?_; clear hK K; (try simp only [Act.put, List.setIfInBounds_toArray, List.set_cons_zero, List.set_cons_succ, List.getElem_toArray, List.getElem_cons_zero, List.getElem_cons_succ])
      (refine wpAnyT_take (i := 5) (v := ?_) [6, 9, 10] (Array.getElem?_eq_getElem (by decide)) (by kernel_rfl) (by kernel_rfl) (by kernel_rfl) (by kernel_rfl) rfl rfl (by kernel_rfl) (fun _ _ _ h => h) (Or.inl ⟨by kernel_rfl, ?_⟩) (Sof _ Xt) ?_); rotate_left; (focus (intro w hSw; (try dsimp only at hSw); (try simp only [Act.put, List.setIfInBounds_toArray, List.set_cons_zero, List.set_cons_succ, List.getElem_toArray, List.getElem_cons_zero, List.getElem_cons_succ]); go_simp; (try with_reducible rfl))); (try simp only [Act.put, List.setIfInBounds_toArray, List.set_cons_zero, List.set_cons_succ, List.getElem_toArray, List.getElem_cons_zero, List.getElem_cons_succ])
      (refine wpAnyT_take (i := 6) (v := ?_) [9, 10] (Array.getElem?_eq_getElem (by decide)) (by kernel_rfl) (by kernel_rfl) (by kernel_rfl) (by kernel_rfl) rfl rfl (by kernel_rfl) (fun _ _ _ h => h) (Or.inl ⟨by kernel_rfl, ?_⟩) (Sof _ Xt) ?_); rotate_left; (focus (intro w hSw; (try dsimp only at hSw); (try simp only [Act.put, List.setIfInBounds_toArray, List.set_cons_zero, List.set_cons_succ, List.getElem_toArray, List.getElem_cons_zero, List.getElem_cons_succ]); go_simp; (try with_reducible rfl))); (try simp only [Act.put, List.setIfInBounds_toArray, List.set_cons_zero, List.set_cons_succ, List.getElem_toArray, List.getElem_cons_zero, List.getElem_cons_succ])
      (refine wpAnyT_take (i := 7) (v := ?_) [10] (Array.getElem?_eq_getElem (by decide)) (by kernel_rfl) (by kernel_rfl) (by kernel_rfl) (by kernel_rfl) rfl rfl (by kernel_rfl) (fun _ _ _ h => h) (Or.inl ⟨by kernel_rfl, ?_⟩) (Sof _ Xt) ?_); rotate_left; (focus (intro w hSw; (try dsimp only at hSw); (try simp only [Act.put, List.setIfInBounds_toArray, List.set_cons_zero, List.set_cons_succ, List.getElem_toArray, List.getElem_cons_zero, List.getElem_cons_succ]); go_simp; (try with_reducible rfl))); (try simp only [Act.put, List.setIfInBounds_toArray, List.set_cons_zero, List.set_cons_succ, List.getElem_toArray, List.getElem_cons_zero, List.getElem_cons_succ])
      (refine wpAnyT_ready (rs := [8]) (by kernel_rfl) (by simp) ?_); (refine AllReadyT.cons (Array.getElem?_eq_getElem (by decide)) (fun K hK => ?_) AllReadyT.nil); (try simp only [Act.put, List.setIfInBounds_toArray, List.set_cons_zero, List.set_cons_succ, List.getElem_toArray, List.getElem_cons_zero, List.getElem_cons_succ])
      go_simp
      refine hK.out _ _ (fun _ => Sof _ Xt) ?_; clear hK K; (try simp only [Act.put, List.setIfInBounds_toArray, List.set_cons_zero, List.set_cons_succ, List.getElem_toArray, List.getElem_cons_zero, List.getElem_cons_succ])
      (refine wpAnyT_ready (rs := [9]) (by kernel_rfl) (by simp) ?_); (refine AllReadyT.cons (Array.getElem?_eq_getElem (by decide)) (fun K hK => ?_) AllReadyT.nil); (try simp only [Act.put, List.setIfInBounds_toArray, List.set_cons_zero, List.set_cons_succ, List.getElem_toArray, List.getElem_cons_zero, List.getElem_cons_succ])
      go_simp
      refine hK.out _ _ (fun _ => Sof _ Xt) ?_; clear hK K; (try simp only [Act.put, List.setIfInBounds_toArray, List.set_cons_zero, List.set_cons_succ, List.getElem_toArray, List.getElem_cons_zero, List.getElem_cons_succ])
      (refine wpAnyT_ready (rs := [10]) (by kernel_rfl) (by simp) ?_); (refine AllReadyT.cons (Array.getElem?_eq_getElem (by decide)) (fun K hK => ?_) AllReadyT.nil); (try simp only [Act.put, List.setIfInBounds_toArray, List.set_cons_zero, List.set_cons_succ, List.getElem_toArray, List.getElem_cons_zero, List.getElem_cons_succ])
      go_simp
      (refine hK.out _ _ (fun h => Bool.noConfusion (show true = false from h)) ?_); clear hK K; (try simp only [Act.put, List.setIfInBounds_toArray, List.set_cons_zero, List.set_cons_succ, List.getElem_toArray, List.getElem_cons_zero, List.getElem_cons_succ])
      refine wpAnyT_done (by kernel_rfl) ?_ _
      go_upto_region 5 with fail
      refine gen_world (R := fun wx => Box wx w.heap.size #[.int .i64 x.k, .int .i64 x.n, .string x.s, .slice ka0 x.keys.length kc0, .slice la0 x.l.length lc0] 25 ∧ Box wx w1.heap.size #[.int .i64 u1.k, .int .i64 u1.n, .string u1.s, .slice ka1 u1.keys.length kc1, .slice la1 u1.l.length lc1] 25 ∧ u1.In wx All ka1 kc1 la1 lc1 ∧ Ext w wx) ⟨Bxt, Bxt, Hin1.out.ext Xt, Xt⟩ ?_
      clear Sof Cl Hin1 h_w1 hB0 hxa
      rintro wb ⟨hB0, hB1, hin1, hxb⟩
      have Hin1 := Lib.hid hin1
      have Cl := Lib.hid (fun w' (hE : Ext wb w') => all_any u1 ka1 kc1 la1 lc1 _ (cap - j) (l.drop j) (l.length - j) w' Hdl (hl.ext (hxb.trans hE)) hz1 Hd.out.2 hj5 (fun b => b < wb.heap.size) (Hin1.out.old.ext hE) ((Hdr.out.ext hxb).old.ext hE))
      rw [H2.out] at Cl
      clear hin1
      have hz0 := hB0.lt
      have hz1b := hB1.lt
      have Sof : ∀ w', Ext wb w' → (w'.cell? ⟨w1.heap.size, 0, none⟩ = some (.int .i64 u1.k) ∧ w'.cell? ⟨w1.heap.size, 1, none⟩ = some (.int .i64 u1.n) ∧ w'.cell? ⟨w1.heap.size, 2, none⟩ = some (.string u1.s) ∧ w'.cell? ⟨w1.heap.size, 3, none⟩ = some (.slice ka1 u1.keys.length kc1) ∧ w'.cell? ⟨w1.heap.size, 4, none⟩ = some (.slice la1 u1.l.length lc1)) :=
        fun w' e => ⟨e.cell (hB1.cells 0), e.cell (hB1.cells 1), e.cell (hB1.cells 2), e.cell (hB1.cells 3), e.cell (hB1.cells 4)⟩
      refine wp_region_till (S := fun w' => w'.cell? ⟨w1.heap.size, 0, none⟩ = some (.int .i64 u1.k) ∧ w'.cell? ⟨w1.heap.size, 1, none⟩ = some (.int .i64 u1.n) ∧ w'.cell? ⟨w1.heap.size, 2, none⟩ = some (.string u1.s) ∧ w'.cell? ⟨w1.heap.size, 3, none⟩ = some (.slice ka1 u1.keys.length kc1) ∧ w'.cell? ⟨w1.heap.size, 4, none⟩ = some (.slice la1 u1.l.length lc1)) (c := 10) (by kernel_rfl) ?_
      (refine wpAnyT_take (i := 0) (v := ?_) [4, 5, 6, 9, 10] (Array.getElem?_eq_getElem (by decide)) (by kernel_rfl) (by kernel_rfl) (by kernel_rfl) (by kernel_rfl) rfl rfl (by kernel_rfl) (fun _ _ _ h => h) (Or.inl ⟨by kernel_rfl, ?_⟩) (Sof _ Xt) ?_); rotate_left; (focus (intro w hSw; (try dsimp only at hSw); (try simp only [Act.put, List.setIfInBounds_toArray, List.set_cons_zero, List.set_cons_succ, List.getElem_toArray, List.getElem_cons_zero, List.getElem_cons_succ]); go_simp; (try with_reducible rfl))); (try simp only [Act.put, List.setIfInBounds_toArray, List.set_cons_zero, List.set_cons_succ, List.getElem_toArray, List.getElem_cons_zero, List.getElem_cons_succ])
      (refine wpAnyT_take (i := 1) (v := ?_) [3, 4, 5, 6, 9, 10] (Array.getElem?_eq_getElem (by decide)) (by kernel_rfl) (by kernel_rfl) (by kernel_rfl) (by kernel_rfl) rfl rfl (by kernel_rfl) (fun _ _ _ h => h) (Or.inl ⟨by kernel_rfl, ?_⟩) (Sof _ Xt) ?_); rotate_left; (focus (intro w hSw; (try dsimp only at hSw); (try simp only [Act.put, List.setIfInBounds_toArray, List.set_cons_zero, List.set_cons_succ, List.getElem_toArray, List.getElem_cons_zero, List.getElem_cons_succ]); go_simp; (try with_reducible rfl))); (try simp only [Act.put, List.setIfInBounds_toArray, List.set_cons_zero, List.set_cons_succ, List.getElem_toArray, List.getElem_cons_zero, List.getElem_cons_succ])
      (refine wpAnyT_take (i := 2) (v := ?_) [3, 4, 5, 6, 9, 10] (Array.getElem?_eq_getElem (by decide)) (by kernel_rfl) (by kernel_rfl) (by kernel_rfl) (by kernel_rfl) rfl rfl (by kernel_rfl) (fun _ _ _ h => h) (Or.inl ⟨by kernel_rfl, ?_⟩) (Sof _ Xt) ?_); rotate_left; (focus (intro w hSw; (try dsimp only at hSw); (try simp only [Act.put, List.setIfInBounds_toArray, List.set_cons_zero, List.set_cons_succ, List.getElem_toArray, List.getElem_cons_zero, List.getElem_cons_succ]); go_simp; (try with_reducible rfl))); (try simp only [Act.put, List.setIfInBounds_toArray, List.set_cons_zero, List.set_cons_succ, List.getElem_toArray, List.getElem_cons_zero, List.getElem_cons_succ])
      (refine wpAnyT_take (i := 3) (v := ?_) [4, 5, 6, 9, 10] (Array.getElem?_eq_getElem (by decide)) (by kernel_rfl) (by kernel_rfl) (by kernel_rfl) (by kernel_rfl) rfl rfl (by kernel_rfl) (fun _ _ _ h => h) (Or.inl ⟨by kernel_rfl, ?_⟩) (Sof _ Xt) ?_); rotate_left; (focus (intro w hSw; (try dsimp only at hSw); (try simp only [Act.put, List.setIfInBounds_toArray, List.set_cons_zero, List.set_cons_succ, List.getElem_toArray, List.getElem_cons_zero, List.getElem_cons_succ]); go_simp; (try with_reducible rfl))); (try simp only [Act.put, List.setIfInBounds_toArray, List.set_cons_zero, List.set_cons_succ, List.getElem_toArray, List.getElem_cons_zero, List.getElem_cons_succ])
      (simp only [Had.out])
      refine wpAnyT_ready (rs := [4, 8]) (by kernel_rfl) (by simp) ?_
      refine AllReadyT.cons (Array.getElem?_eq_getElem (by decide)) (fun K hK => ?_) (AllReadyT.cons (Array.getElem?_eq_getElem (by decide)) (fun K hK => ?_) AllReadyT.nil)
      · (try simp only [Act.put, List.setIfInBounds_toArray, List.set_cons_zero, List.set_cons_succ, List.getElem_toArray, List.getElem_cons_zero, List.getElem_cons_succ])
        (try go_simp)
        (refine (Cl.out _ Xt).mono ?_)
        rintro e w2 ⟨ka2, kc2, la2, lc2, rfl, hin_, h_w2⟩
        have Hin2 := Lib.hid (all_in hin_)
        clear hin_
        (try go_simp)
        refine hK.out _ _ (fun _ => Sof _ Xt) ?_; clear hK K; (try simp only [Act.put, List.setIfInBounds_toArray, List.set_cons_zero, List.set_cons_succ, List.getElem_toArray, List.getElem_cons_zero, List.getElem_cons_succ])
        (refine wpAnyT_take (i := 5) (v := ?_) [6, 9, 10] (Array.getElem?_eq_getElem (by decide)) (by kernel_rfl) (by kernel_rfl) (by kernel_rfl) (by kernel_rfl) rfl rfl (by kernel_rfl) (fun _ _ _ h => h) (Or.inl ⟨by kernel_rfl, ?_⟩) (Sof _ Xt) ?_); rotate_left; (focus (intro w hSw; (try dsimp only at hSw); (try simp only [Act.put, List.setIfInBounds_toArray, List.set_cons_zero, List.set_cons_succ, List.getElem_toArray, List.getElem_cons_zero, List.getElem_cons_succ]); go_simp; (try with_reducible rfl))); (try simp only [Act.put, List.setIfInBounds_toArray, List.set_cons_zero, List.set_cons_succ, List.getElem_toArray, List.getElem_cons_zero, List.getElem_cons_succ])
        (refine wpAnyT_take (i := 6) (v := ?_) [9, 10] (Array.getElem?_eq_getElem (by decide)) (by kernel_rfl) (by kernel_rfl) (by kernel_rfl) (by kernel_rfl) rfl rfl (by kernel_rfl) (fun _ _ _ h => h) (Or.inl ⟨by kernel_rfl, ?_⟩) (Sof _ Xt) ?_); rotate_left; (focus (intro w hSw; (try dsimp only at hSw); (try simp only [Act.put, List.setIfInBounds_toArray, List.set_cons_zero, List.set_cons_succ, List.getElem_toArray, List.getElem_cons_zero, List.getElem_cons_succ]); go_simp; (try with_reducible rfl))); (try simp only [Act.put, List.setIfInBounds_toArray, List.set_cons_zero, List.set_cons_succ, List.getElem_toArray, List.getElem_cons_zero, List.getElem_cons_succ])
        (refine wpAnyT_take (i := 7) (v := ?_) [10] (Array.getElem?_eq_getElem (by decide)) (by kernel_rfl) (by kernel_rfl) (by kernel_rfl) (by kernel_rfl) rfl rfl (by kernel_rfl) (fun _ _ _ h => h) (Or.inl ⟨by kernel_rfl, ?_⟩) (Sof _ Xt) ?_); rotate_left; (focus (intro w hSw; (try dsimp only at hSw); (try simp only [Act.put, List.setIfInBounds_toArray, List.set_cons_zero, List.set_cons_succ, List.getElem_toArray, List.getElem_cons_zero, List.getElem_cons_succ]); go_simp; (try with_reducible rfl))); (try simp only [Act.put, List.setIfInBounds_toArray, List.set_cons_zero, List.set_cons_succ, List.getElem_toArray, List.getElem_cons_zero, List.getElem_cons_succ])
        (refine wpAnyT_ready (rs := [8]) (by kernel_rfl) (by simp) ?_); (refine AllReadyT.cons (Array.getElem?_eq_getElem (by decide)) (fun K hK => ?_) AllReadyT.nil); (try simp only [Act.put, List.setIfInBounds_toArray, List.set_cons_zero, List.set_cons_succ, List.getElem_toArray, List.getElem_cons_zero, List.getElem_cons_succ])
        go_simp
        refine hK.out _ _ (fun _ => Sof _ Xt) ?_; clear hK K; (try simp only [Act.put, List.setIfInBounds_toArray, List.set_cons_zero, List.set_cons_succ, List.getElem_toArray, List.getElem_cons_zero, List.getElem_cons_succ])
        (refine wpAnyT_ready (rs := [9]) (by kernel_rfl) (by simp) ?_); (refine AllReadyT.cons (Array.getElem?_eq_getElem (by decide)) (fun K hK => ?_) AllReadyT.nil); (try simp only [Act.put, List.setIfInBounds_toArray, List.set_cons_zero, List.set_cons_succ, List.getElem_toArray, List.getElem_cons_zero, List.getElem_cons_succ])
        go_simp
        refine hK.out _ _ (fun _ => Sof _ Xt) ?_; clear hK K; (try simp only [Act.put, List.setIfInBounds_toArray, List.set_cons_zero, List.set_cons_succ, List.getElem_toArray, List.getElem_cons_zero, List.getElem_cons_succ])
        (refine wpAnyT_ready (rs := [10]) (by kernel_rfl) (by simp) ?_); (refine AllReadyT.cons (Array.getElem?_eq_getElem (by decide)) (fun K hK => ?_) AllReadyT.nil); (try simp only [Act.put, List.setIfInBounds_toArray, List.set_cons_zero, List.set_cons_succ, List.getElem_toArray, List.getElem_cons_zero, List.getElem_cons_succ])
        go_simp
        (refine hK.out _ _ (fun h => Bool.noConfusion (show true = false from h)) ?_); clear hK K; (try simp only [Act.put, List.setIfInBounds_toArray, List.set_cons_zero, List.set_cons_succ, List.getElem_toArray, List.getElem_cons_zero, List.getElem_cons_succ])
        refine wpAnyT_done (by kernel_rfl) ?_ _
        go_upto_region 6 with fail
        refine gen_world (R := fun wx => Box wx w.heap.size #[.int .i64 x.k, .int .i64 x.n, .string x.s, .slice ka0 x.keys.length kc0, .slice la0 x.l.length lc0] 25 ∧ Box wx w2.heap.size #[.int .i64 u2.k, .int .i64 u2.n, .string u2.s, .slice ka2 u2.keys.length kc2, .slice la2 u2.l.length lc2] 25 ∧ u2.In wx All ka2 kc2 la2 lc2 ∧ Ext w wx) ⟨Bxt, Bxt, Hin2.out.ext Xt, Xt⟩ ?_
        clear Sof Cl Hin1 Hin2 h_w2 hB0 hB1 hxb
        rintro wc ⟨hB0, hB2, hin2, hxc⟩
        have Cl := Lib.hid (fun w' (hE : Ext wc w') => all_any x ka0 kc0 la0 lc0 a cap l l.length w' (Lib.hid rfl) (hl.ext (hxc.trans hE)) hs0 Hs1.out Hln.out All (Hin0.out.ext (hxc.trans hE)) (Hops.out.ext (hxc.trans hE)))
        rw [H3.out] at Cl
        have hc0 := hB0.cells; have hf0 := hB0.free; have hl0 := hB0.lt
        go_wp2_with fail
        (refine (Cl.out wc (Ext.refl wc)).mono ?_)
        clear Cl
        rintro e w3 ⟨ka3, kc3, la3, lc3, rfl, hin_, h_w3⟩
        have hB0 := Box.ext h_w3 hB0
        have hB2 := Box.ext h_w3 hB2
        have Hin2 := Lib.hid (V.In.ext (w' := w3) hin2 h_w3)
        have Hin3 := Lib.hid (all_in hin_)
        have hx3 := hxc.trans h_w3
        clear hin_ hin2 h_w3 hxc hc0 hf0 hl0
        go_upto_region 7 with fail
        refine gen_world (R := fun wx => Box wx w.heap.size #[.int .i64 x.k, .int .i64 x.n, .string x.s, .slice ka0 x.keys.length kc0, .slice la0 x.l.length lc0] 25 ∧ Box wx w2.heap.size #[.int .i64 u2.k, .int .i64 u2.n, .string u2.s, .slice ka2 u2.keys.length kc2, .slice la2 u2.l.length lc2] 25 ∧ Box wx w3.heap.size #[.int .i64 u3.k, .int .i64 u3.n, .string u3.s, .slice ka3 u3.keys.length kc3, .slice la3 u3.l.length lc3] 25 ∧ u2.In wx All ka2 kc2 la2 lc2 ∧ u3.In wx All ka3 kc3 la3 lc3 ∧ Ext w wx) ⟨Bxt, Bxt, Bxt, Hin2.out.ext Xt, Hin3.out.ext Xt, Xt⟩ ?_
        clear hB0 hB2 Hin2 Hin3 hx3
        rintro wd ⟨hB0, hB2, hB3, hin2, hin3, hxd⟩
        have Hin2 := Lib.hid hin2
        have Hin3 := Lib.hid hin3
        clear hin2 hin3
        have hc0 := hB0.cells; have hf0 := hB0.free; have hl0 := hB0.lt
        have hc2 := hB2.cells; have hf2 := hB2.free; have hl2 := hB2.lt
        have hc3 := hB3.cells; have hf3 := hB3.free; have hl3 := hB3.lt
        have Hin0 := Lib.hid (Hin0.out.ext hxd)
        by_cases h1 : e1 = 0
        · have hp := Hp.out.2 h1
          have g1 : (e1 != 0) = false := by simpa using h1
          have g2 : (e3 == e2) = true := by simpa using hp.1
          clear h1
          by_cases h2 : e2 = 0
          · have hq := hp.2.1 h2
            have g3 : (e2 == 0) = true := by simpa using h2
            have Hq := Lib.hid hq
            clear hp h2 hq
            go_wp2_with fail
            (refine (same_any u2 u3 Hq.out.symm (by omega) ka2 kc2 la2 lc2 ka3 kc3 la3 lc3 All All _ (Hin2.out.ext Xt) (Hin3.out.ext Xt)).mono ?_)
            rintro e w4 ⟨rfl, h_w4⟩
            have hx4 := hxd.trans h_w4
            clear h_w4
            go_wp2_with fail
            (refine (patches_keep _ (hl.ext Xt)).mono ?_)
            rintro e w5 ⟨rfl, h_w5⟩
            have hx5 : Ext w w5 := Xt
            go_wp2_with fail
            go_ret
            exact ⟨rfl, Xt⟩
          · have hq := hp.2.2 h2
            have g3 : (e2 == 0) = false := by simpa using h2
            have g4 : (e2 != 0) = true := by simpa using h2
            have Hq := Lib.hid hq
            clear hp h2 hq
            go_wp2_with fail
            (refine (same_any u3 x Hq.out.symm (by omega) ka3 kc3 la3 lc3 ka0 kc0 la0 lc0 All All _ (Hin3.out.ext Xt) (Hin0.out.ext Xt)).mono ?_)
            rintro e w4 ⟨rfl, h_w4⟩
            have hx4 := hxd.trans h_w4
            clear h_w4
            go_wp2_with fail
            (refine (patches_keep _ (hl.ext Xt)).mono ?_)
            rintro e w5 ⟨rfl, h_w5⟩
            have hx5 : Ext w w5 := Xt
            go_wp2_with fail
            go_ret
            exact ⟨rfl, Xt⟩
        · have hp := Hp.out.1 h1
          have g1 : (e1 != 0) = true := by simpa using h1
          have g2 : (e3 == e1) = true := by simpa using hp.2
          have Hq := Lib.hid hp.1
          clear h1 hp
          go_wp2_with fail
          (refine (same_any u3 x Hq.out.symm (by omega) ka3 kc3 la3 lc3 ka0 kc0 la0 lc0 All All _ (Hin3.out.ext Xt) (Hin0.out.ext Xt)).mono ?_)
          rintro e w4 ⟨rfl, h_w4⟩
          have hx4 := hxd.trans h_w4
          clear h_w4
          go_wp2_with fail
          (refine (patches_keep _ (hl.ext Xt)).mono ?_)
          rintro e w5 ⟨rfl, h_w5⟩
          have hx5 : Ext w w5 := Xt
          go_wp2_with fail
          go_ret
          exact ⟨rfl, Xt⟩
      · (try simp only [Act.put, List.setIfInBounds_toArray, List.set_cons_zero, List.set_cons_succ, List.getElem_toArray, List.getElem_cons_zero, List.getElem_cons_succ])
        (try go_simp)
        refine hK.out _ _ (fun _ => Sof _ Xt) ?_; clear hK K; (try simp only [Act.put, List.setIfInBounds_toArray, List.set_cons_zero, List.set_cons_succ, List.getElem_toArray, List.getElem_cons_zero, List.getElem_cons_succ])
        (refine wpAnyT_ready (rs := [4]) (by kernel_rfl) (by simp) ?_); (refine AllReadyT.cons (Array.getElem?_eq_getElem (by decide)) (fun K hK => ?_) AllReadyT.nil); (try simp only [Act.put, List.setIfInBounds_toArray, List.set_cons_zero, List.set_cons_succ, List.getElem_toArray, List.getElem_cons_zero, List.getElem_cons_succ])
        (try go_simp)
        (refine (Cl.out _ Xt).mono ?_)
        rintro e w2 ⟨ka2, kc2, la2, lc2, rfl, hin_, h_w2⟩
        have hBu : Box w2 wb.heap.size #[.int .i64 0, .int .i64 0, .string ⟨#[]⟩, .slice none 0 0, .slice none 0 0] 25 := Box.ext h_w2 Bxt
        have Hin2 := Lib.hid (hin_.mono (T := fun b => b ≠ wb.heap.size) fun b h _ => by rcases h with h | h; exact Nat.ne_of_lt h; (try simp at h); omega)
        clear hin_
        (try go_simp)
        refine hK.out _ _ (fun _ => Sof _ Xt) ?_; clear hK K; (try simp only [Act.put, List.setIfInBounds_toArray, List.set_cons_zero, List.set_cons_succ, List.getElem_toArray, List.getElem_cons_zero, List.getElem_cons_succ])
        (refine wpAnyT_take (i := 5) (v := ?_) [6, 9, 10] (Array.getElem?_eq_getElem (by decide)) (by kernel_rfl) (by kernel_rfl) (by kernel_rfl) (by kernel_rfl) rfl rfl (by kernel_rfl) (fun _ _ _ h => h) (Or.inl ⟨by kernel_rfl, ?_⟩) (Sof _ Xt) ?_); rotate_left; (focus (intro w hSw; (try dsimp only at hSw); (try simp only [Act.put, List.setIfInBounds_toArray, List.set_cons_zero, List.set_cons_succ, List.getElem_toArray, List.getElem_cons_zero, List.getElem_cons_succ]); go_simp; (try with_reducible rfl))); (try simp only [Act.put, List.setIfInBounds_toArray, List.set_cons_zero, List.set_cons_succ, List.getElem_toArray, List.getElem_cons_zero, List.getElem_cons_succ])
        (refine wpAnyT_take (i := 6) (v := ?_) [9, 10] (Array.getElem?_eq_getElem (by decide)) (by kernel_rfl) (by kernel_rfl) (by kernel_rfl) (by kernel_rfl) rfl rfl (by kernel_rfl) (fun _ _ _ h => h) (Or.inl ⟨by kernel_rfl, ?_⟩) (Sof _ Xt) ?_); rotate_left; (focus (intro w hSw; (try dsimp only at hSw); (try simp only [Act.put, List.setIfInBounds_toArray, List.set_cons_zero, List.set_cons_succ, List.getElem_toArray, List.getElem_cons_zero, List.getElem_cons_succ]); go_simp; (try with_reducible rfl))); (try simp only [Act.put, List.setIfInBounds_toArray, List.set_cons_zero, List.set_cons_succ, List.getElem_toArray, List.getElem_cons_zero, List.getElem_cons_succ])
        (refine wpAnyT_take (i := 7) (v := ?_) [10] (Array.getElem?_eq_getElem (by decide)) (by kernel_rfl) (by kernel_rfl) (by kernel_rfl) (by kernel_rfl) rfl rfl (by kernel_rfl) (fun _ _ _ h => h) (Or.inl ⟨by kernel_rfl, ?_⟩) (Sof _ Xt) ?_); rotate_left; (focus (intro w hSw; (try dsimp only at hSw); (try simp only [Act.put, List.setIfInBounds_toArray, List.set_cons_zero, List.set_cons_succ, List.getElem_toArray, List.getElem_cons_zero, List.getElem_cons_succ]); go_simp; (try with_reducible rfl))); (try simp only [Act.put, List.setIfInBounds_toArray, List.set_cons_zero, List.set_cons_succ, List.getElem_toArray, List.getElem_cons_zero, List.getElem_cons_succ])
        have hcu := hBu.cells; have hfu := hBu.free; have hlu := hBu.lt
        (refine wpAnyT_ready (rs := [9]) (by kernel_rfl) (by simp) ?_); (refine AllReadyT.cons (Array.getElem?_eq_getElem (by decide)) (fun K hK => ?_) AllReadyT.nil); (try simp only [Act.put, List.setIfInBounds_toArray, List.set_cons_zero, List.set_cons_succ, List.getElem_toArray, List.getElem_cons_zero, List.getElem_cons_succ])
        go_simp
        refine hK.out _ _ (fun _ => Sof _ Xt) ?_; clear hK K; (try simp only [Act.put, List.setIfInBounds_toArray, List.set_cons_zero, List.set_cons_succ, List.getElem_toArray, List.getElem_cons_zero, List.getElem_cons_succ])
        (refine wpAnyT_ready (rs := [10]) (by kernel_rfl) (by simp) ?_); (refine AllReadyT.cons (Array.getElem?_eq_getElem (by decide)) (fun K hK => ?_) AllReadyT.nil); (try simp only [Act.put, List.setIfInBounds_toArray, List.set_cons_zero, List.set_cons_succ, List.getElem_toArray, List.getElem_cons_zero, List.getElem_cons_succ])
        go_simp
        (refine hK.out _ _ (fun h => Bool.noConfusion (show true = false from h)) ?_); clear hK K; (try simp only [Act.put, List.setIfInBounds_toArray, List.set_cons_zero, List.set_cons_succ, List.getElem_toArray, List.getElem_cons_zero, List.getElem_cons_succ])
        refine wpAnyT_done (by kernel_rfl) ?_ _
        clear hcu hfu hlu
        go_upto_region 6 with fail
        refine gen_world (R := fun wx => Box wx w.heap.size #[.int .i64 x.k, .int .i64 x.n, .string x.s, .slice ka0 x.keys.length kc0, .slice la0 x.l.length lc0] 25 ∧ Box wx wb.heap.size #[.int .i64 u2.k, .int .i64 u2.n, .string u2.s, .slice ka2 u2.keys.length kc2, .slice la2 u2.l.length lc2] 25 ∧ u2.In wx All ka2 kc2 la2 lc2 ∧ Ext w wx) ⟨Bxt, Bxt, Hin2.out.keep (Held.kept (Held.mono (a := w2) (S := fun b => b ≠ wb.heap.size) Hxt (fun b h => h))) (fun b _ _ => trivial), Xt⟩ ?_
        clear Sof Cl Hin1 Hin2 h_w2 hB0 hB1 hxb hBu
        rintro wc ⟨hB0, hB2, hin2, hxc⟩
        have Cl := Lib.hid (fun w' (hE : Ext wc w') => all_any x ka0 kc0 la0 lc0 a cap l l.length w' (Lib.hid rfl) (hl.ext (hxc.trans hE)) hs0 Hs1.out Hln.out All (Hin0.out.ext (hxc.trans hE)) (Hops.out.ext (hxc.trans hE)))
        rw [H3.out] at Cl
        have hc0 := hB0.cells; have hf0 := hB0.free; have hl0 := hB0.lt
        go_wp2_with fail
        (refine (Cl.out wc (Ext.refl wc)).mono ?_)
        clear Cl
        rintro e w3 ⟨ka3, kc3, la3, lc3, rfl, hin_, h_w3⟩
        have hB0 := Box.ext h_w3 hB0
        have hB2 := Box.ext h_w3 hB2
        have Hin2 := Lib.hid (V.In.ext (w' := w3) hin2 h_w3)
        have Hin3 := Lib.hid (all_in hin_)
        have hx3 := hxc.trans h_w3
        clear hin_ hin2 h_w3 hxc hc0 hf0 hl0
        go_upto_region 7 with fail
        refine gen_world (R := fun wx => Box wx w.heap.size #[.int .i64 x.k, .int .i64 x.n, .string x.s, .slice ka0 x.keys.length kc0, .slice la0 x.l.length lc0] 25 ∧ Box wx wb.heap.size #[.int .i64 u2.k, .int .i64 u2.n, .string u2.s, .slice ka2 u2.keys.length kc2, .slice la2 u2.l.length lc2] 25 ∧ Box wx w3.heap.size #[.int .i64 u3.k, .int .i64 u3.n, .string u3.s, .slice ka3 u3.keys.length kc3, .slice la3 u3.l.length lc3] 25 ∧ u2.In wx All ka2 kc2 la2 lc2 ∧ u3.In wx All ka3 kc3 la3 lc3 ∧ Ext w wx) ⟨Bxt, Bxt, Bxt, Hin2.out.ext Xt, Hin3.out.ext Xt, Xt⟩ ?_
        clear hB0 hB2 Hin2 Hin3 hx3
        rintro wd ⟨hB0, hB2, hB3, hin2, hin3, hxd⟩
        have Hin2 := Lib.hid hin2
        have Hin3 := Lib.hid hin3
        clear hin2 hin3
        have hc0 := hB0.cells; have hf0 := hB0.free; have hl0 := hB0.lt
        have hc2 := hB2.cells; have hf2 := hB2.free; have hl2 := hB2.lt
        have hc3 := hB3.cells; have hf3 := hB3.free; have hl3 := hB3.lt
        have Hin0 := Lib.hid (Hin0.out.ext hxd)
        by_cases h1 : e1 = 0
        · have hp := Hp.out.2 h1
          have g1 : (e1 != 0) = false := by simpa using h1
          have g2 : (e3 == e2) = true := by simpa using hp.1
          clear h1
          by_cases h2 : e2 = 0
          · have hq := hp.2.1 h2
            have g3 : (e2 == 0) = true := by simpa using h2
            have Hq := Lib.hid hq
            clear hp h2 hq
            go_wp2_with fail
            (refine (same_any u2 u3 Hq.out.symm (by omega) ka2 kc2 la2 lc2 ka3 kc3 la3 lc3 All All _ (Hin2.out.ext Xt) (Hin3.out.ext Xt)).mono ?_)
            rintro e w4 ⟨rfl, h_w4⟩
            have hx4 := hxd.trans h_w4
            clear h_w4
            go_wp2_with fail
            (refine (patches_keep _ (hl.ext Xt)).mono ?_)
            rintro e w5 ⟨rfl, h_w5⟩
            have hx5 : Ext w w5 := Xt
            go_wp2_with fail
            go_ret
            exact ⟨rfl, Xt⟩
          · have hq := hp.2.2 h2
            have g3 : (e2 == 0) = false := by simpa using h2
            have g4 : (e2 != 0) = true := by simpa using h2
            have Hq := Lib.hid hq
            clear hp h2 hq
            go_wp2_with fail
            (refine (same_any u3 x Hq.out.symm (by omega) ka3 kc3 la3 lc3 ka0 kc0 la0 lc0 All All _ (Hin3.out.ext Xt) (Hin0.out.ext Xt)).mono ?_)
            rintro e w4 ⟨rfl, h_w4⟩
            have hx4 := hxd.trans h_w4
            clear h_w4
            go_wp2_with fail
            (refine (patches_keep _ (hl.ext Xt)).mono ?_)
            rintro e w5 ⟨rfl, h_w5⟩
            have hx5 : Ext w w5 := Xt
            go_wp2_with fail
            go_ret
            exact ⟨rfl, Xt⟩
        · have hp := Hp.out.1 h1
          have g1 : (e1 != 0) = true := by simpa using h1
          have g2 : (e3 == e1) = true := by simpa using hp.2
          have Hq := Lib.hid hp.1
          clear h1 hp
          go_wp2_with fail
          (refine (same_any u3 x Hq.out.symm (by omega) ka3 kc3 la3 lc3 ka0 kc0 la0 lc0 All All _ (Hin3.out.ext Xt) (Hin0.out.ext Xt)).mono ?_)
          rintro e w4 ⟨rfl, h_w4⟩
          have hx4 := hxd.trans h_w4
          clear h_w4
          go_wp2_with fail
          (refine (patches_keep _ (hl.ext Xt)).mono ?_)
          rintro e w5 ⟨rfl, h_w5⟩
          have hx5 : Ext w w5 := Xt
          go_wp2_with fail
          go_ret
          exact ⟨rfl, Xt⟩
    · (try simp only [Act.put, List.setIfInBounds_toArray, List.set_cons_zero, List.set_cons_succ, List.getElem_toArray, List.getElem_cons_zero, List.getElem_cons_succ])
      (try go_simp)
      refine hK.out _ _ (fun _ => Sof _ Xt) ?_; clear hK K; (try simp only [Act.put, List.setIfInBounds_toArray, List.set_cons_zero, List.set_cons_succ, List.getElem_toArray, List.getElem_cons_zero, List.getElem_cons_succ])
      (refine wpAnyT_ready (rs := [4]) (by kernel_rfl) (by simp) ?_); (refine AllReadyT.cons (Array.getElem?_eq_getElem (by decide)) (fun K hK => ?_) AllReadyT.nil); (try simp only [Act.put, List.setIfInBounds_toArray, List.set_cons_zero, List.set_cons_succ, List.getElem_toArray, List.getElem_cons_zero, List.getElem_cons_succ])
      (try go_simp)
      (refine (Cl.out _ Xt).mono ?_)
      rintro e w1 ⟨ka1, kc1, la1, lc1, rfl, hin_, h_w1⟩
      have hBu : Box w1 wa.heap.size #[.int .i64 0, .int .i64 0, .string ⟨#[]⟩, .slice none 0 0, .slice none 0 0] 25 := Box.ext h_w1 Bxt
      have Hin1 := Lib.hid (hin_.mono (T := fun b => b ≠ wa.heap.size) fun b h _ => by rcases h with h | h; exact Nat.ne_of_lt h; (try simp at h); omega)
      clear hin_
      (try go_simp)
      refine hK.out _ _ (fun _ => Sof _ Xt) ?_; clear hK K; (try simp only [Act.put, List.setIfInBounds_toArray, List.set_cons_zero, List.set_cons_succ, List.getElem_toArray, List.getElem_cons_zero, List.getElem_cons_succ])
      (refine wpAnyT_take (i := 5) (v := ?_) [6, 9, 10] (Array.getElem?_eq_getElem (by decide)) (by kernel_rfl) (by kernel_rfl) (by kernel_rfl) (by kernel_rfl) rfl rfl (by kernel_rfl) (fun _ _ _ h => h) (Or.inl ⟨by kernel_rfl, ?_⟩) (Sof _ Xt) ?_); rotate_left; (focus (intro w hSw; (try dsimp only at hSw); (try simp only [Act.put, List.setIfInBounds_toArray, List.set_cons_zero, List.set_cons_succ, List.getElem_toArray, List.getElem_cons_zero, List.getElem_cons_succ]); go_simp; (try with_reducible rfl))); (try simp only [Act.put, List.setIfInBounds_toArray, List.set_cons_zero, List.set_cons_succ, List.getElem_toArray, List.getElem_cons_zero, List.getElem_cons_succ])
      (refine wpAnyT_take (i := 6) (v := ?_) [9, 10] (Array.getElem?_eq_getElem (by decide)) (by kernel_rfl) (by kernel_rfl) (by kernel_rfl) (by kernel_rfl) rfl rfl (by kernel_rfl) (fun _ _ _ h => h) (Or.inl ⟨by kernel_rfl, ?_⟩) (Sof _ Xt) ?_); rotate_left; (focus (intro w hSw; (try dsimp only at hSw); (try simp only [Act.put, List.setIfInBounds_toArray, List.set_cons_zero, List.set_cons_succ, List.getElem_toArray, List.getElem_cons_zero, List.getElem_cons_succ]); go_simp; (try with_reducible rfl))); (try simp only [Act.put, List.setIfInBounds_toArray, List.set_cons_zero, List.set_cons_succ, List.getElem_toArray, List.getElem_cons_zero, List.getElem_cons_succ])
      (refine wpAnyT_take (i := 7) (v := ?_) [10] (Array.getElem?_eq_getElem (by decide)) (by kernel_rfl) (by kernel_rfl) (by kernel_rfl) (by kernel_rfl) rfl rfl (by kernel_rfl) (fun _ _ _ h => h) (Or.inl ⟨by kernel_rfl, ?_⟩) (Sof _ Xt) ?_); rotate_left; (focus (intro w hSw; (try dsimp only at hSw); (try simp only [Act.put, List.setIfInBounds_toArray, List.set_cons_zero, List.set_cons_succ, List.getElem_toArray, List.getElem_cons_zero, List.getElem_cons_succ]); go_simp; (try with_reducible rfl))); (try simp only [Act.put, List.setIfInBounds_toArray, List.set_cons_zero, List.set_cons_succ, List.getElem_toArray, List.getElem_cons_zero, List.getElem_cons_succ])
      have hcu := hBu.cells; have hfu := hBu.free; have hlu := hBu.lt
      (refine wpAnyT_ready (rs := [9]) (by kernel_rfl) (by simp) ?_); (refine AllReadyT.cons (Array.getElem?_eq_getElem (by decide)) (fun K hK => ?_) AllReadyT.nil); (try simp only [Act.put, List.setIfInBounds_toArray, List.set_cons_zero, List.set_cons_succ, List.getElem_toArray, List.getElem_cons_zero, List.getElem_cons_succ])
      go_simp
      refine hK.out _ _ (fun _ => Sof _ Xt) ?_; clear hK K; (try simp only [Act.put, List.setIfInBounds_toArray, List.set_cons_zero, List.set_cons_succ, List.getElem_toArray, List.getElem_cons_zero, List.getElem_cons_succ])
      (refine wpAnyT_ready (rs := [10]) (by kernel_rfl) (by simp) ?_); (refine AllReadyT.cons (Array.getElem?_eq_getElem (by decide)) (fun K hK => ?_) AllReadyT.nil); (try simp only [Act.put, List.setIfInBounds_toArray, List.set_cons_zero, List.set_cons_succ, List.getElem_toArray, List.getElem_cons_zero, List.getElem_cons_succ])
      go_simp
      (refine hK.out _ _ (fun h => Bool.noConfusion (show true = false from h)) ?_); clear hK K; (try simp only [Act.put, List.setIfInBounds_toArray, List.set_cons_zero, List.set_cons_succ, List.getElem_toArray, List.getElem_cons_zero, List.getElem_cons_succ])
      refine wpAnyT_done (by kernel_rfl) ?_ _
      clear hcu hfu hlu
      go_upto_region 5 with fail
      refine gen_world (R := fun wx => Box wx w.heap.size #[.int .i64 x.k, .int .i64 x.n, .string x.s, .slice ka0 x.keys.length kc0, .slice la0 x.l.length lc0] 25 ∧ Box wx wa.heap.size #[.int .i64 u1.k, .int .i64 u1.n, .string u1.s, .slice ka1 u1.keys.length kc1, .slice la1 u1.l.length lc1] 25 ∧ u1.In wx All ka1 kc1 la1 lc1 ∧ Ext w wx) ⟨Bxt, Bxt, Hin1.out.keep (Held.kept (Held.mono (a := w1) (S := fun b => b ≠ wa.heap.size) Hxt (fun b h => h))) (fun b _ _ => trivial), Xt⟩ ?_
      clear Sof Cl Hin1 h_w1 hB0 hxa hBu
      rintro wb ⟨hB0, hB1, hin1, hxb⟩
      have Hin1 := Lib.hid hin1
      have Cl := Lib.hid (fun w' (hE : Ext wb w') => all_any u1 ka1 kc1 la1 lc1 _ (cap - j) (l.drop j) (l.length - j) w' Hdl (hl.ext (hxb.trans hE)) hz1 Hd.out.2 hj5 (fun b => b < wb.heap.size) (Hin1.out.old.ext hE) ((Hdr.out.ext hxb).old.ext hE))
      rw [H2.out] at Cl
      clear hin1
      have hz0 := hB0.lt
      have hz1b := hB1.lt
      have Sof : ∀ w', Ext wb w' → (w'.cell? ⟨wa.heap.size, 0, none⟩ = some (.int .i64 u1.k) ∧ w'.cell? ⟨wa.heap.size, 1, none⟩ = some (.int .i64 u1.n) ∧ w'.cell? ⟨wa.heap.size, 2, none⟩ = some (.string u1.s) ∧ w'.cell? ⟨wa.heap.size, 3, none⟩ = some (.slice ka1 u1.keys.length kc1) ∧ w'.cell? ⟨wa.heap.size, 4, none⟩ = some (.slice la1 u1.l.length lc1)) :=
        fun w' e => ⟨e.cell (hB1.cells 0), e.cell (hB1.cells 1), e.cell (hB1.cells 2), e.cell (hB1.cells 3), e.cell (hB1.cells 4)⟩
      refine wp_region_till (S := fun w' => w'.cell? ⟨wa.heap.size, 0, none⟩ = some (.int .i64 u1.k) ∧ w'.cell? ⟨wa.heap.size, 1, none⟩ = some (.int .i64 u1.n) ∧ w'.cell? ⟨wa.heap.size, 2, none⟩ = some (.string u1.s) ∧ w'.cell? ⟨wa.heap.size, 3, none⟩ = some (.slice ka1 u1.keys.length kc1) ∧ w'.cell? ⟨wa.heap.size, 4, none⟩ = some (.slice la1 u1.l.length lc1)) (c := 10) (by kernel_rfl) ?_
      (refine wpAnyT_take (i := 0) (v := ?_) [4, 5, 6, 9, 10] (Array.getElem?_eq_getElem (by decide)) (by kernel_rfl) (by kernel_rfl) (by kernel_rfl) (by kernel_rfl) rfl rfl (by kernel_rfl) (fun _ _ _ h => h) (Or.inl ⟨by kernel_rfl, ?_⟩) (Sof _ Xt) ?_); rotate_left; (focus (intro w hSw; (try dsimp only at hSw); (try simp only [Act.put, List.setIfInBounds_toArray, List.set_cons_zero, List.set_cons_succ, List.getElem_toArray, List.getElem_cons_zero, List.getElem_cons_succ]); go_simp; (try with_reducible rfl))); (try simp only [Act.put, List.setIfInBounds_toArray, List.set_cons_zero, List.set_cons_succ, List.getElem_toArray, List.getElem_cons_zero, List.getElem_cons_succ])
      (refine wpAnyT_take (i := 1) (v := ?_) [3, 4, 5, 6, 9, 10] (Array.getElem?_eq_getElem (by decide)) (by kernel_rfl) (by kernel_rfl) (by kernel_rfl) (by kernel_rfl) rfl rfl (by kernel_rfl) (fun _ _ _ h => h) (Or.inl ⟨by kernel_rfl, ?_⟩) (Sof _ Xt) ?_); rotate_left; (focus (intro w hSw; (try dsimp only at hSw); (try simp only [Act.put, List.setIfInBounds_toArray, List.set_cons_zero, List.set_cons_succ, List.getElem_toArray, List.getElem_cons_zero, List.getElem_cons_succ]); go_simp; (try with_reducible rfl))); (try simp only [Act.put, List.setIfInBounds_toArray, List.set_cons_zero, List.set_cons_succ, List.getElem_toArray, List.getElem_cons_zero, List.getElem_cons_succ])
      (refine wpAnyT_take (i := 2) (v := ?_) [3, 4, 5, 6, 9, 10] (Array.getElem?_eq_getElem (by decide)) (by kernel_rfl) (by kernel_rfl) (by kernel_rfl) (by kernel_rfl) rfl rfl (by kernel_rfl) (fun _ _ _ h => h) (Or.inl ⟨by kernel_rfl, ?_⟩) (Sof _ Xt) ?_); rotate_left; (focus (intro w hSw; (try dsimp only at hSw); (try simp only [Act.put, List.setIfInBounds_toArray, List.set_cons_zero, List.set_cons_succ, List.getElem_toArray, List.getElem_cons_zero, List.getElem_cons_succ]); go_simp; (try with_reducible rfl))); (try simp only [Act.put, List.setIfInBounds_toArray, List.set_cons_zero, List.set_cons_succ, List.getElem_toArray, List.getElem_cons_zero, List.getElem_cons_succ])
      (refine wpAnyT_take (i := 3) (v := ?_) [4, 5, 6, 9, 10] (Array.getElem?_eq_getElem (by decide)) (by kernel_rfl) (by kernel_rfl) (by kernel_rfl) (by kernel_rfl) rfl rfl (by kernel_rfl) (fun _ _ _ h => h) (Or.inl ⟨by kernel_rfl, ?_⟩) (Sof _ Xt) ?_); rotate_left; (focus (intro w hSw; (try dsimp only at hSw); (try simp only [Act.put, List.setIfInBounds_toArray, List.set_cons_zero, List.set_cons_succ, List.getElem_toArray, List.getElem_cons_zero, List.getElem_cons_succ]); go_simp; (try with_reducible rfl))); (try simp only [Act.put, List.setIfInBounds_toArray, List.set_cons_zero, List.set_cons_succ, List.getElem_toArray, List.getElem_cons_zero, List.getElem_cons_succ])
      (simp only [Had.out])
      refine wpAnyT_ready (rs := [4, 8]) (by kernel_rfl) (by simp) ?_
      refine AllReadyT.cons (Array.getElem?_eq_getElem (by decide)) (fun K hK => ?_) (AllReadyT.cons (Array.getElem?_eq_getElem (by decide)) (fun K hK => ?_) AllReadyT.nil)
      · (try simp only [Act.put, List.setIfInBounds_toArray, List.set_cons_zero, List.set_cons_succ, List.getElem_toArray, List.getElem_cons_zero, List.getElem_cons_succ])
        (try go_simp)
        (refine (Cl.out _ Xt).mono ?_)
        rintro e w2 ⟨ka2, kc2, la2, lc2, rfl, hin_, h_w2⟩
        have Hin2 := Lib.hid (all_in hin_)
        clear hin_
        (try go_simp)
        refine hK.out _ _ (fun _ => Sof _ Xt) ?_; clear hK K; (try simp only [Act.put, List.setIfInBounds_toArray, List.set_cons_zero, List.set_cons_succ, List.getElem_toArray, List.getElem_cons_zero, List.getElem_cons_succ])
        (refine wpAnyT_take (i := 5) (v := ?_) [6, 9, 10] (Array.getElem?_eq_getElem (by decide)) (by kernel_rfl) (by kernel_rfl) (by kernel_rfl) (by kernel_rfl) rfl rfl (by kernel_rfl) (fun _ _ _ h => h) (Or.inl ⟨by kernel_rfl, ?_⟩) (Sof _ Xt) ?_); rotate_left; (focus (intro w hSw; (try dsimp only at hSw); (try simp only [Act.put, List.setIfInBounds_toArray, List.set_cons_zero, List.set_cons_succ, List.getElem_toArray, List.getElem_cons_zero, List.getElem_cons_succ]); go_simp; (try with_reducible rfl))); (try simp only [Act.put, List.setIfInBounds_toArray, List.set_cons_zero, List.set_cons_succ, List.getElem_toArray, List.getElem_cons_zero, List.getElem_cons_succ])
        (refine wpAnyT_take (i := 6) (v := ?_) [9, 10] (Array.getElem?_eq_getElem (by decide)) (by kernel_rfl) (by kernel_rfl) (by kernel_rfl) (by kernel_rfl) rfl rfl (by kernel_rfl) (fun _ _ _ h => h) (Or.inl ⟨by kernel_rfl, ?_⟩) (Sof _ Xt) ?_); rotate_left; (focus (intro w hSw; (try dsimp only at hSw); (try simp only [Act.put, List.setIfInBounds_toArray, List.set_cons_zero, List.set_cons_succ, List.getElem_toArray, List.getElem_cons_zero, List.getElem_cons_succ]); go_simp; (try with_reducible rfl))); (try simp only [Act.put, List.setIfInBounds_toArray, List.set_cons_zero, List.set_cons_succ, List.getElem_toArray, List.getElem_cons_zero, List.getElem_cons_succ])
        (refine wpAnyT_take (i := 7) (v := ?_) [10] (Array.getElem?_eq_getElem (by decide)) (by kernel_rfl) (by kernel_rfl) (by kernel_rfl) (by kernel_rfl) rfl rfl (by kernel_rfl) (fun _ _ _ h => h) (Or.inl ⟨by kernel_rfl, ?_⟩) (Sof _ Xt) ?_); rotate_left; (focus (intro w hSw; (try dsimp only at hSw); (try simp only [Act.put, List.setIfInBounds_toArray, List.set_cons_zero, List.set_cons_succ, List.getElem_toArray, List.getElem_cons_zero, List.getElem_cons_succ]); go_simp; (try with_reducible rfl))); (try simp only [Act.put, List.setIfInBounds_toArray, List.set_cons_zero, List.set_cons_succ, List.getElem_toArray, List.getElem_cons_zero, List.getElem_cons_succ])
        (refine wpAnyT_ready (rs := [8]) (by kernel_rfl) (by simp) ?_); (refine AllReadyT.cons (Array.getElem?_eq_getElem (by decide)) (fun K hK => ?_) AllReadyT.nil); (try simp only [Act.put, List.setIfInBounds_toArray, List.set_cons_zero, List.set_cons_succ, List.getElem_toArray, List.getElem_cons_zero, List.getElem_cons_succ])
        go_simp
        refine hK.out _ _ (fun _ => Sof _ Xt) ?_; clear hK K; (try simp only [Act.put, List.setIfInBounds_toArray, List.set_cons_zero, List.set_cons_succ, List.getElem_toArray, List.getElem_cons_zero, List.getElem_cons_succ])
        (refine wpAnyT_ready (rs := [9]) (by kernel_rfl) (by simp) ?_); (refine AllReadyT.cons (Array.getElem?_eq_getElem (by decide)) (fun K hK => ?_) AllReadyT.nil); (try simp only [Act.put, List.setIfInBounds_toArray, List.set_cons_zero, List.set_cons_succ, List.getElem_toArray, List.getElem_cons_zero, List.getElem_cons_succ])
        go_simp
        refine hK.out _ _ (fun _ => Sof _ Xt) ?_; clear hK K; (try simp only [Act.put, List.setIfInBounds_toArray, List.set_cons_zero, List.set_cons_succ, List.getElem_toArray, List.getElem_cons_zero, List.getElem_cons_succ])
        (refine wpAnyT_ready (rs := [10]) (by kernel_rfl) (by simp) ?_); (refine AllReadyT.cons (Array.getElem?_eq_getElem (by decide)) (fun K hK => ?_) AllReadyT.nil); (try simp only [Act.put, List.setIfInBounds_toArray, List.set_cons_zero, List.set_cons_succ, List.getElem_toArray, List.getElem_cons_zero, List.getElem_cons_succ])
        go_simp
        (refine hK.out _ _ (fun h => Bool.noConfusion (show true = false from h)) ?_); clear hK K; (try simp only [Act.put, List.setIfInBounds_toArray, List.set_cons_zero, List.set_cons_succ, List.getElem_toArray, List.getElem_cons_zero, List.getElem_cons_succ])
        refine wpAnyT_done (by kernel_rfl) ?_ _
        go_upto_region 6 with fail
        refine gen_world (R := fun wx => Box wx w.heap.size #[.int .i64 x.k, .int .i64 x.n, .string x.s, .slice ka0 x.keys.length kc0, .slice la0 x.l.length lc0] 25 ∧ Box wx w2.heap.size #[.int .i64 u2.k, .int .i64 u2.n, .string u2.s, .slice ka2 u2.keys.length kc2, .slice la2 u2.l.length lc2] 25 ∧ u2.In wx All ka2 kc2 la2 lc2 ∧ Ext w wx) ⟨Bxt, Bxt, Hin2.out.ext Xt, Xt⟩ ?_
        clear Sof Cl Hin1 Hin2 h_w2 hB0 hB1 hxb
        rintro wc ⟨hB0, hB2, hin2, hxc⟩
        have Cl := Lib.hid (fun w' (hE : Ext wc w') => all_any x ka0 kc0 la0 lc0 a cap l l.length w' (Lib.hid rfl) (hl.ext (hxc.trans hE)) hs0 Hs1.out Hln.out All (Hin0.out.ext (hxc.trans hE)) (Hops.out.ext (hxc.trans hE)))
        rw [H3.out] at Cl
        have hc0 := hB0.cells; have hf0 := hB0.free; have hl0 := hB0.lt
        go_wp2_with fail
        (refine (Cl.out wc (Ext.refl wc)).mono ?_)
        clear Cl
        rintro e w3 ⟨ka3, kc3, la3, lc3, rfl, hin_, h_w3⟩
        have hB0 := Box.ext h_w3 hB0
        have hB2 := Box.ext h_w3 hB2
        have Hin2 := Lib.hid (V.In.ext (w' := w3) hin2 h_w3)
        have Hin3 := Lib.hid (all_in hin_)
        have hx3 := hxc.trans h_w3
        clear hin_ hin2 h_w3 hxc hc0 hf0 hl0
        go_upto_region 7 with fail
        refine gen_world (R := fun wx => Box wx w.heap.size #[.int .i64 x.k, .int .i64 x.n, .string x.s, .slice ka0 x.keys.length kc0, .slice la0 x.l.length lc0] 25 ∧ Box wx w2.heap.size #[.int .i64 u2.k, .int .i64 u2.n, .string u2.s, .slice ka2 u2.keys.length kc2, .slice la2 u2.l.length lc2] 25 ∧ Box wx w3.heap.size #[.int .i64 u3.k, .int .i64 u3.n, .string u3.s, .slice ka3 u3.keys.length kc3, .slice la3 u3.l.length lc3] 25 ∧ u2.In wx All ka2 kc2 la2 lc2 ∧ u3.In wx All ka3 kc3 la3 lc3 ∧ Ext w wx) ⟨Bxt, Bxt, Bxt, Hin2.out.ext Xt, Hin3.out.ext Xt, Xt⟩ ?_
        clear hB0 hB2 Hin2 Hin3 hx3
        rintro wd ⟨hB0, hB2, hB3, hin2, hin3, hxd⟩
        have Hin2 := Lib.hid hin2
        have Hin3 := Lib.hid hin3
        clear hin2 hin3
        have hc0 := hB0.cells; have hf0 := hB0.free; have hl0 := hB0.lt
        have hc2 := hB2.cells; have hf2 := hB2.free; have hl2 := hB2.lt
        have hc3 := hB3.cells; have hf3 := hB3.free; have hl3 := hB3.lt
        have Hin0 := Lib.hid (Hin0.out.ext hxd)
        by_cases h1 : e1 = 0
        · have hp := Hp.out.2 h1
          have g1 : (e1 != 0) = false := by simpa using h1
          have g2 : (e3 == e2) = true := by simpa using hp.1
          clear h1
          by_cases h2 : e2 = 0
          · have hq := hp.2.1 h2
            have g3 : (e2 == 0) = true := by simpa using h2
            have Hq := Lib.hid hq
            clear hp h2 hq
            go_wp2_with fail
            (refine (same_any u2 u3 Hq.out.symm (by omega) ka2 kc2 la2 lc2 ka3 kc3 la3 lc3 All All _ (Hin2.out.ext Xt) (Hin3.out.ext Xt)).mono ?_)
            rintro e w4 ⟨rfl, h_w4⟩
            have hx4 := hxd.trans h_w4
            clear h_w4
            go_wp2_with fail
            (refine (patches_keep _ (hl.ext Xt)).mono ?_)
            rintro e w5 ⟨rfl, h_w5⟩
            have hx5 : Ext w w5 := Xt
            go_wp2_with fail
            go_ret
            exact ⟨rfl, Xt⟩
          · have hq := hp.2.2 h2
            have g3 : (e2 == 0) = false := by simpa using h2
            have g4 : (e2 != 0) = true := by simpa using h2
            have Hq := Lib.hid hq
            clear hp h2 hq
            go_wp2_with fail
            (refine (same_any u3 x Hq.out.symm (by omega) ka3 kc3 la3 lc3 ka0 kc0 la0 lc0 All All _ (Hin3.out.ext Xt) (Hin0.out.ext Xt)).mono ?_)
            rintro e w4 ⟨rfl, h_w4⟩
            have hx4 := hxd.trans h_w4
            clear h_w4
            go_wp2_with fail
            (refine (patches_keep _ (hl.ext Xt)).mono ?_)
            rintro e w5 ⟨rfl, h_w5⟩
            have hx5 : Ext w w5 := Xt
            go_wp2_with fail
            go_ret
            exact ⟨rfl, Xt⟩
        · have hp := Hp.out.1 h1
          have g1 : (e1 != 0) = true := by simpa using h1
          have g2 : (e3 == e1) = true := by simpa using hp.2
          have Hq := Lib.hid hp.1
          clear h1 hp
          go_wp2_with fail
          (refine (same_any u3 x Hq.out.symm (by omega) ka3 kc3 la3 lc3 ka0 kc0 la0 lc0 All All _ (Hin3.out.ext Xt) (Hin0.out.ext Xt)).mono ?_)
          rintro e w4 ⟨rfl, h_w4⟩
          have hx4 := hxd.trans h_w4
          clear h_w4
          go_wp2_with fail
          (refine (patches_keep _ (hl.ext Xt)).mono ?_)
          rintro e w5 ⟨rfl, h_w5⟩
          have hx5 : Ext w w5 := Xt
          go_wp2_with fail
          go_ret
          exact ⟨rfl, Xt⟩
      · (try simp only [Act.put, List.setIfInBounds_toArray, List.set_cons_zero, List.set_cons_succ, List.getElem_toArray, List.getElem_cons_zero, List.getElem_cons_succ])
        (try go_simp)
        refine hK.out _ _ (fun _ => Sof _ Xt) ?_; clear hK K; (try simp only [Act.put, List.setIfInBounds_toArray, List.set_cons_zero, List.set_cons_succ, List.getElem_toArray, List.getElem_cons_zero, List.getElem_cons_succ])
        (refine wpAnyT_ready (rs := [4]) (by kernel_rfl) (by simp) ?_); (refine AllReadyT.cons (Array.getElem?_eq_getElem (by decide)) (fun K hK => ?_) AllReadyT.nil); (try simp only [Act.put, List.setIfInBounds_toArray, List.set_cons_zero, List.set_cons_succ, List.getElem_toArray, List.getElem_cons_zero, List.getElem_cons_succ])
        (try go_simp)
        (refine (Cl.out _ Xt).mono ?_)
        rintro e w2 ⟨ka2, kc2, la2, lc2, rfl, hin_, h_w2⟩
        have hBu : Box w2 wb.heap.size #[.int .i64 0, .int .i64 0, .string ⟨#[]⟩, .slice none 0 0, .slice none 0 0] 25 := Box.ext h_w2 Bxt
        have Hin2 := Lib.hid (hin_.mono (T := fun b => b ≠ wb.heap.size) fun b h _ => by rcases h with h | h; exact Nat.ne_of_lt h; (try simp at h); omega)
        clear hin_
        (try go_simp)
        refine hK.out _ _ (fun _ => Sof _ Xt) ?_; clear hK K; (try simp only [Act.put, List.setIfInBounds_toArray, List.set_cons_zero, List.set_cons_succ, List.getElem_toArray, List.getElem_cons_zero, List.getElem_cons_succ])
        (refine wpAnyT_take (i := 5) (v := ?_) [6, 9, 10] (Array.getElem?_eq_getElem (by decide)) (by kernel_rfl) (by kernel_rfl) (by kernel_rfl) (by kernel_rfl) rfl rfl (by kernel_rfl) (fun _ _ _ h => h) (Or.inl ⟨by kernel_rfl, ?_⟩) (Sof _ Xt) ?_); rotate_left; (focus (intro w hSw; (try dsimp only at hSw); (try simp only [Act.put, List.setIfInBounds_toArray, List.set_cons_zero, List.set_cons_succ, List.getElem_toArray, List.getElem_cons_zero, List.getElem_cons_succ]); go_simp; (try with_reducible rfl))); (try simp only [Act.put, List.setIfInBounds_toArray, List.set_cons_zero, List.set_cons_succ, List.getElem_toArray, List.getElem_cons_zero, List.getElem_cons_succ])
        (refine wpAnyT_take (i := 6) (v := ?_) [9, 10] (Array.getElem?_eq_getElem (by decide)) (by kernel_rfl) (by kernel_rfl) (by kernel_rfl) (by kernel_rfl) rfl rfl (by kernel_rfl) (fun _ _ _ h => h) (Or.inl ⟨by kernel_rfl, ?_⟩) (Sof _ Xt) ?_); rotate_left; (focus (intro w hSw; (try dsimp only at hSw); (try simp only [Act.put, List.setIfInBounds_toArray, List.set_cons_zero, List.set_cons_succ, List.getElem_toArray, List.getElem_cons_zero, List.getElem_cons_succ]); go_simp; (try with_reducible rfl))); (try simp only [Act.put, List.setIfInBounds_toArray, List.set_cons_zero, List.set_cons_succ, List.getElem_toArray, List.getElem_cons_zero, List.getElem_cons_succ])
        (refine wpAnyT_take (i := 7) (v := ?_) [10] (Array.getElem?_eq_getElem (by decide)) (by kernel_rfl) (by kernel_rfl) (by kernel_rfl) (by kernel_rfl) rfl rfl (by kernel_rfl) (fun _ _ _ h => h) (Or.inl ⟨by kernel_rfl, ?_⟩) (Sof _ Xt) ?_); rotate_left; (focus (intro w hSw; (try dsimp only at hSw); (try simp only [Act.put, List.setIfInBounds_toArray, List.set_cons_zero, List.set_cons_succ, List.getElem_toArray, List.getElem_cons_zero, List.getElem_cons_succ]); go_simp; (try with_reducible rfl))); (try simp only [Act.put, List.setIfInBounds_toArray, List.set_cons_zero, List.set_cons_succ, List.getElem_toArray, List.getElem_cons_zero, List.getElem_cons_succ])
        have hcu := hBu.cells; have hfu := hBu.free; have hlu := hBu.lt
        (refine wpAnyT_ready (rs := [9]) (by kernel_rfl) (by simp) ?_); (refine AllReadyT.cons (Array.getElem?_eq_getElem (by decide)) (fun K hK => ?_) AllReadyT.nil); (try simp only [Act.put, List.setIfInBounds_toArray, List.set_cons_zero, List.set_cons_succ, List.getElem_toArray, List.getElem_cons_zero, List.getElem_cons_succ])
        go_simp
        refine hK.out _ _ (fun _ => Sof _ Xt) ?_; clear hK K; (try simp only [Act.put, List.setIfInBounds_toArray, List.set_cons_zero, List.set_cons_succ, List.getElem_toArray, List.getElem_cons_zero, List.getElem_cons_succ])
        (refine wpAnyT_ready (rs := [10]) (by kernel_rfl) (by simp) ?_); (refine AllReadyT.cons (Array.getElem?_eq_getElem (by decide)) (fun K hK => ?_) AllReadyT.nil); (try simp only [Act.put, List.setIfInBounds_toArray, List.set_cons_zero, List.set_cons_succ, List.getElem_toArray, List.getElem_cons_zero, List.getElem_cons_succ])
        go_simp
        (refine hK.out _ _ (fun h => Bool.noConfusion (show true = false from h)) ?_); clear hK K; (try simp only [Act.put, List.setIfInBounds_toArray, List.set_cons_zero, List.set_cons_succ, List.getElem_toArray, List.getElem_cons_zero, List.getElem_cons_succ])
        refine wpAnyT_done (by kernel_rfl) ?_ _
        clear hcu hfu hlu
        go_upto_region 6 with fail
        refine gen_world (R := fun wx => Box wx w.heap.size #[.int .i64 x.k, .int .i64 x.n, .string x.s, .slice ka0 x.keys.length kc0, .slice la0 x.l.length lc0] 25 ∧ Box wx wb.heap.size #[.int .i64 u2.k, .int .i64 u2.n, .string u2.s, .slice ka2 u2.keys.length kc2, .slice la2 u2.l.length lc2] 25 ∧ u2.In wx All ka2 kc2 la2 lc2 ∧ Ext w wx) ⟨Bxt, Bxt, Hin2.out.keep (Held.kept (Held.mono (a := w2) (S := fun b => b ≠ wb.heap.size) Hxt (fun b h => h))) (fun b _ _ => trivial), Xt⟩ ?_
        clear Sof Cl Hin1 Hin2 h_w2 hB0 hB1 hxb hBu
        rintro wc ⟨hB0, hB2, hin2, hxc⟩
        have Cl := Lib.hid (fun w' (hE : Ext wc w') => all_any x ka0 kc0 la0 lc0 a cap l l.length w' (Lib.hid rfl) (hl.ext (hxc.trans hE)) hs0 Hs1.out Hln.out All (Hin0.out.ext (hxc.trans hE)) (Hops.out.ext (hxc.trans hE)))
        rw [H3.out] at Cl
        have hc0 := hB0.cells; have hf0 := hB0.free; have hl0 := hB0.lt
        go_wp2_with fail
        (refine (Cl.out wc (Ext.refl wc)).mono ?_)
        clear Cl
        rintro e w3 ⟨ka3, kc3, la3, lc3, rfl, hin_, h_w3⟩
        have hB0 := Box.ext h_w3 hB0
        have hB2 := Box.ext h_w3 hB2
        have Hin2 := Lib.hid (V.In.ext (w' := w3) hin2 h_w3)
        have Hin3 := Lib.hid (all_in hin_)
        have hx3 := hxc.trans h_w3
        clear hin_ hin2 h_w3 hxc hc0 hf0 hl0
        go_upto_region 7 with fail
        refine gen_world (R := fun wx => Box wx w.heap.size #[.int .i64 x.k, .int .i64 x.n, .string x.s, .slice ka0 x.keys.length kc0, .slice la0 x.l.length lc0] 25 ∧ Box wx wb.heap.size #[.int .i64 u2.k, .int .i64 u2.n, .string u2.s, .slice ka2 u2.keys.length kc2, .slice la2 u2.l.length lc2] 25 ∧ Box wx w3.heap.size #[.int .i64 u3.k, .int .i64 u3.n, .string u3.s, .slice ka3 u3.keys.length kc3, .slice la3 u3.l.length lc3] 25 ∧ u2.In wx All ka2 kc2 la2 lc2 ∧ u3.In wx All ka3 kc3 la3 lc3 ∧ Ext w wx) ⟨Bxt, Bxt, Bxt, Hin2.out.ext Xt, Hin3.out.ext Xt, Xt⟩ ?_
        clear hB0 hB2 Hin2 Hin3 hx3
        rintro wd ⟨hB0, hB2, hB3, hin2, hin3, hxd⟩
        have Hin2 := Lib.hid hin2
        have Hin3 := Lib.hid hin3
        clear hin2 hin3
        have hc0 := hB0.cells; have hf0 := hB0.free; have hl0 := hB0.lt
        have hc2 := hB2.cells; have hf2 := hB2.free; have hl2 := hB2.lt
        have hc3 := hB3.cells; have hf3 := hB3.free; have hl3 := hB3.lt
        have Hin0 := Lib.hid (Hin0.out.ext hxd)
        by_cases h1 : e1 = 0
        · have hp := Hp.out.2 h1
          have g1 : (e1 != 0) = false := by simpa using h1
          have g2 : (e3 == e2) = true := by simpa using hp.1
          clear h1
          by_cases h2 : e2 = 0
          · have hq := hp.2.1 h2
            have g3 : (e2 == 0) = true := by simpa using h2
            have Hq := Lib.hid hq
            clear hp h2 hq
            go_wp2_with fail
            (refine (same_any u2 u3 Hq.out.symm (by omega) ka2 kc2 la2 lc2 ka3 kc3 la3 lc3 All All _ (Hin2.out.ext Xt) (Hin3.out.ext Xt)).mono ?_)
            rintro e w4 ⟨rfl, h_w4⟩
            have hx4 := hxd.trans h_w4
            clear h_w4
            go_wp2_with fail
            (refine (patches_keep _ (hl.ext Xt)).mono ?_)
            rintro e w5 ⟨rfl, h_w5⟩
            have hx5 : Ext w w5 := Xt
            go_wp2_with fail
            go_ret
            exact ⟨rfl, Xt⟩
          · have hq := hp.2.2 h2
            have g3 : (e2 == 0) = false := by simpa using h2
            have g4 : (e2 != 0) = true := by simpa using h2
            have Hq := Lib.hid hq
            clear hp h2 hq
            go_wp2_with fail
            (refine (same_any u3 x Hq.out.symm (by omega) ka3 kc3 la3 lc3 ka0 kc0 la0 lc0 All All _ (Hin3.out.ext Xt) (Hin0.out.ext Xt)).mono ?_)
            rintro e w4 ⟨rfl, h_w4⟩
            have hx4 := hxd.trans h_w4
            clear h_w4
            go_wp2_with fail
            (refine (patches_keep _ (hl.ext Xt)).mono ?_)
            rintro e w5 ⟨rfl, h_w5⟩
            have hx5 : Ext w w5 := Xt
            go_wp2_with fail
            go_ret
            exact ⟨rfl, Xt⟩
        · have hp := Hp.out.1 h1
          have g1 : (e1 != 0) = true := by simpa using h1
          have g2 : (e3 == e1) = true := by simpa using hp.2
          have Hq := Lib.hid hp.1
          clear h1 hp
          go_wp2_with fail
          (refine (same_any u3 x Hq.out.symm (by omega) ka3 kc3 la3 lc3 ka0 kc0 la0 lc0 All All _ (Hin3.out.ext Xt) (Hin0.out.ext Xt)).mono ?_)
          rintro e w4 ⟨rfl, h_w4⟩
          have hx4 := hxd.trans h_w4
          clear h_w4
          go_wp2_with fail
          (refine (patches_keep _ (hl.ext Xt)).mono ?_)
          rintro e w5 ⟨rfl, h_w5⟩
          have hx5 : Ext w w5 := Xt
          go_wp2_with fail
          go_ret
          exact ⟨rfl, Xt⟩
end
end Go.Proofs.YtnbappeiebameaaGreatDoor.lawPatchParts
