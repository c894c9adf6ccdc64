/- OwnerHas: for all values, owners, texts, wants, with force and without, the law returns true (what is wanted is there, and is its own; wanted again, it changes nothing); the arguments hold together at most 1048576 values and letters; the library's listed variables as its text lays them. -/
import Derived.Test.YtjibdbnpkfghhaaGreatDoorPkC
import Derived.Test.YtjibdbnpkfghhaaGreatDoorLibAt
import Derived.Test.YtjibdbnpkfghhaaGreatDoorOpenW
import Derived.Test.YtjibdbnpkfghhaaGreatDoorOwH
import Derived.Test.YtjibdbnpkfghhaaGreatDoorOwI
import Derived.Test.YtjibdbnpkfghhaaGreatDoorOwU
import Derived.Test.YtjibdbnpkfghhaaGreatDoorGet
import Derived.HandedShaped
import Derived.SevenTiedAt
set_option linter.all false
namespace Go.Proofs.YtjibdbnpkfghhaaGreatDoor.lawOwnerHas
open Go.ChangeShapes Go.WideShapes Go.ChangeAt Go.RowKit
open Go.ChangeMaps (open_string shut_string)
section
attribute [local go_sem ↓] Go.wp_at_zero Go.wp_at_succ
theorem same_empty2 {x y : V} {ks : List ByteArray} {l : List V} (hx : x = .mk 5 0 ⟨#[]⟩ [] []) (hy : y = .mk 5 0 ⟨#[]⟩ ks l) (ka : Option Addr) (kc : Nat) (la : Option Addr) (lc : Nat) (kb : Option Addr) (kd : Nat) (lb : Option Addr) (ld : Nat) (w : World) (hk : 0 < ks.length) :
  Calls Tryz.prog 24 #[x.val ka kc la lc, y.val kb kd lb ld] w fun e w' => e = .returned (.bool false) ∧ Ext w w' := by
 subst hx hy
 exact same_empty ks l ka kc la lc kb kd lb ld w hk
set_option maxRecDepth 100000 in
set_option maxHeartbeats 8000000 in
theorem walk (v : V) (ka0 : Option Addr) (kc0 : Nat) (la0 : Option Addr) (lc0 : Nat) (a : Option Addr) (cap : Nat) (l : List Ow) (who : ByteArray) (want : V) (ka3 : Option Addr) (kc3 : Nat) (la3 : Option Addr) (lc3 : Nat) (force : Bool) (w : World) (hl : LibAt w)
  (hvz : v.size ≤ 1048576) (hlz : owsSize l ≤ 1048576) (hhz : who.size ≤ 1048576) (hwz : want.size ≤ 1048576) (hin0 : v.In w All ka0 kc0 la0 lc0) (hok : SlOk a l.length cap) (how : OwsIn w All l a) (hin3 : want.In w All ka3 kc3 la3 lc3) :
  Calls Tryz.prog 7 #[v.val ka0 kc0 la0 lc0, .slice a l.length cap, .string who, want.val ka3 kc3 la3 lc3, .bool force] w fun e w' => e = .returned (.bool true) ∧ Ext w w' := by
 obtain ⟨⟨x, m, cs, er⟩, hr⟩ : ∃ r, applyV v l who want force = r := ⟨_, rfl⟩
 have Hr := Lib.hid hr
 have hlen := owsSize_len l
 have Hin0 := Lib.hid hin0
 have Hin3 := Lib.hid hin3
 have How := Lib.hid how
 have Hok := Lib.hid hok
 clear hin0 hin3 how hok hr
 go_enter Tryz.func7, Tryz.ntmps7
 go_upto_region 1 with fail
 refine gen_world (R := fun wx => Box wx w.heap.size #[.int .i64 v.k, .int .i64 v.n, .string v.s, .slice ka0 v.keys.length kc0, .slice la0 v.l.length lc0] 25 ∧ Box wx (w.heap.size + 1) #[.int .i64 want.k, .int .i64 want.n, .string want.s, .slice ka3 want.keys.length kc3, .slice la3 want.l.length lc3] 25 ∧ Ext w wx) ⟨Bxt, Bxt, Xt⟩ ?_
 rintro wa ⟨hB0, hB1, hxa⟩
 have hc0 := hB0.cells; have hf0 := hB0.free; have hl0 := hB0.lt
 have hc1 := hB1.cells; have hf1 := hB1.free; have hl1 := hB1.lt
 go_wp2_with fail
 (refine (apply_any v ka0 kc0 la0 lc0 l a cap who want ka3 kc3 la3 lc3 force All _ (by omega) (by omega) (by omega) (by omega) Hok.out (Hin0.out.ext Xt) (How.out.ext Xt) (Hin3.out.ext Xt) (hl.max.ext Xt)).mono ?_)
 rw [Hr.out]
 rintro e w2 ⟨k2, c2, l2, d2, a5, c5, a6, c6, rfl, hin2, hok5, how5, -, -, h2⟩
 have hx2 : Ext w w2 := Xt
 have hB0 := Box.ext (w' := w2) Xt hB0
 have hB1 := Box.ext (w' := w2) Xt hB1
 have Hin2 := Lib.hid (all_in hin2)
 have Hok5 := Lib.hid hok5
 have How5 := Lib.hid (how5.mono (T := All) fun _ _ _ => trivial)
 clear h2 hin2 how5 hok5 hc0 hf0 hl0 hc1 hf1 hl1
 go_upto_region 2 with fail
 refine gen_world (R := fun wx => Box wx w.heap.size #[.int .i64 v.k, .int .i64 v.n, .string v.s, .slice ka0 v.keys.length kc0, .slice la0 v.l.length lc0] 25 ∧ Box wx (w.heap.size + 1) #[.int .i64 want.k, .int .i64 want.n, .string want.s, .slice ka3 want.keys.length kc3, .slice la3 want.l.length lc3] 25 ∧ Box wx w2.heap.size #[.int .i64 x.k, .int .i64 x.n, .string x.s, .slice k2 x.keys.length c2, .slice l2 x.l.length d2] 25 ∧ Ext w2 wx) ⟨Bxt, Bxt, Bxt, Xt⟩ ?_
 clear hB0 hB1
 rintro wb ⟨hB0, hB1, hB9, hxb⟩
 have hxwb : Ext w wb := hx2.trans hxb
 have Hin2 := Lib.hid (V.In.ext Hin2.out hxb)
 have How5 := Lib.hid (How5.out.ext hxb)
 by_cases h0 : er = 0
 ·subst h0
  obtain ⟨hform, -, -, hmo, hxf, hm6, -⟩ := apply_ok Hr.out
  obtain ⟨-, -, -, -, -, hwho⟩ := form_parts hform
  have hmz : owsSize m ≤ 2097152 := by
   rw [hmo]
   have := out_total (v := v) (l := l) (want := want) hwho
   omega
  obtain ⟨hlaw1, hlaw2, hlaw3, hlaw4, hlaw5⟩ := has_law Hr.out
  have Hpo := Lib.hid hlaw1
  have Hgo := Lib.hid hlaw2
  have Hfi := Lib.hid hlaw3
  have Hle := Lib.hid hlaw4
  have Hap := Lib.hid hlaw5
  have hxs := fine_size hxf
  have hll := leaves_len want
  have Hmz := Lib.hid (fun (j : Nat) (h : j < m.length) => show (m[j]).paths.length ≤ 2097152 from by
   have h1 := owsSize_mem (List.getElem_mem h)
   have h2 := Ow.len_paths m[j]
   omega)
  clear hform hxf hxa hlaw1 hlaw2 hlaw3 hlaw4 hlaw5 hmo hwho
  go_wp2_with fail
  (refine (owns_keep _ (hl.ext Xt)).mono ?_)
  rintro e w3 ⟨rfl, h3⟩
  have hB1 := Box.ext h3 hB1
  have hB9 := Box.ext h3 hB9
  have hxw3 : Ext w w3 := hxwb.trans h3
  have Hin2 := Lib.hid (V.In.ext Hin2.out h3)
  have How5 := Lib.hid (How5.out.ext h3)
  clear h3 hxb hxwb hx2 hB0
  go_upto_region 4 with fail
  have Sof : ∀ w', Ext w3 w' → (w'.cell? ⟨w.heap.size + 1, 0, none⟩ = some (.int .i64 want.k) ∧ w'.cell? ⟨w.heap.size + 1, 1, none⟩ = some (.int .i64 want.n) ∧ w'.cell? ⟨w.heap.size + 1, 2, none⟩ = some (.string want.s) ∧ w'.cell? ⟨w.heap.size + 1, 3, none⟩ = some (.slice ka3 want.keys.length kc3) ∧ w'.cell? ⟨w.heap.size + 1, 4, none⟩ = some (.slice la3 want.l.length lc3) ∧
   w'.cell? ⟨w2.heap.size, 0, none⟩ = some (.int .i64 x.k) ∧ w'.cell? ⟨w2.heap.size, 1, none⟩ = some (.int .i64 x.n) ∧ w'.cell? ⟨w2.heap.size, 2, none⟩ = some (.string x.s) ∧ w'.cell? ⟨w2.heap.size, 3, none⟩ = some (.slice k2 x.keys.length c2) ∧ w'.cell? ⟨w2.heap.size, 4, none⟩ = some (.slice l2 x.l.length d2)) :=
   fun w' e => ⟨e.cell (hB1.cells 0), e.cell (hB1.cells 1), e.cell (hB1.cells 2), e.cell (hB1.cells 3), e.cell (hB1.cells 4), e.cell (hB9.cells 0), e.cell (hB9.cells 1), e.cell (hB9.cells 2), e.cell (hB9.cells 3), e.cell (hB9.cells 4)⟩
  refine wp_region_held_drew (S := fun w' => w'.cell? ⟨w.heap.size + 1, 0, none⟩ = some (.int .i64 want.k) ∧ w'.cell? ⟨w.heap.size + 1, 1, none⟩ = some (.int .i64 want.n) ∧ w'.cell? ⟨w.heap.size + 1, 2, none⟩ = some (.string want.s) ∧ w'.cell? ⟨w.heap.size + 1, 3, none⟩ = some (.slice ka3 want.keys.length kc3) ∧ w'.cell? ⟨w.heap.size + 1, 4, none⟩ = some (.slice la3 want.l.length lc3) ∧
   w'.cell? ⟨w2.heap.size, 0, none⟩ = some (.int .i64 x.k) ∧ w'.cell? ⟨w2.heap.size, 1, none⟩ = some (.int .i64 x.n) ∧ w'.cell? ⟨w2.heap.size, 2, none⟩ = some (.string x.s) ∧ w'.cell? ⟨w2.heap.size, 3, none⟩ = some (.slice k2 x.keys.length c2) ∧ w'.cell? ⟨w2.heap.size, 4, none⟩ = some (.slice l2 x.l.length d2)) (by kernel_rfl) (Sof _ Xt) (fun hHeld => ?_)
  (refine wpAnyH_take (i := 0) (v := ?_) (Array.getElem?_eq_getElem (by decide)) (by kernel_rfl) (by kernel_rfl) (by kernel_rfl) (fun _ _ _ h => h) (Or.inl ⟨by kernel_rfl, ?_⟩) (by assumption) ?_); rotate_left; (focus (intro w hSw; (try dsimp only at hSw); (try simp only [rl]); go_simp; (try with_reducible rfl))); (try simp only [rl])
  (refine wpAnyH_take (i := 1) (v := ?_) (Array.getElem?_eq_getElem (by decide)) (by kernel_rfl) (by kernel_rfl) (by kernel_rfl) (fun _ _ _ h => h) (Or.inl ⟨by kernel_rfl, ?_⟩) (by assumption) ?_); rotate_left; (focus (intro w hSw; (try dsimp only at hSw); (try simp only [rl]); go_simp; (try with_reducible rfl))); (try simp only [rl])
  (refine wpAnyH_take (i := 3) (v := ?_) (Array.getElem?_eq_getElem (by decide)) (by kernel_rfl) (by kernel_rfl) (by kernel_rfl) (fun _ _ _ h => h) (Or.inl ⟨by kernel_rfl, ?_⟩) (by assumption) ?_); rotate_left; (focus (intro w hSw; (try dsimp only at hSw); (try simp only [rl]); go_simp; (try with_reducible rfl))); (try simp only [rl])
  (refine wpAnyH_ready (rs := [2]) (by kernel_rfl) (by simp) ?_); (refine AllReadyH.cons (Array.getElem?_eq_getElem (by decide)) (fun K hK => ?_) AllReadyH.nil); (try simp only [rl])
  (try go_simp)
  (refine (pathsOf_any m a5 c5 who All _ (by omega) (How5.out.ext Xt)).mono ?_)
  rw [Hpo.out]
  rintro e w4 ⟨a7, c7, rfl, hok7, hst7, h4⟩
  (try go_simp)
  refine hK.out _ _ (Sof _ Xt) (fun hHeld => ?_)
  clear hK K
  (try simp only [rl])
  (refine wpAnyH_ready (rs := [4]) (by kernel_rfl) (by simp) ?_); (refine AllReadyH.cons (Array.getElem?_eq_getElem (by decide)) (fun K hK => ?_) AllReadyH.nil); (try simp only [rl])
  (try go_simp)
  (refine (leavesO_any want ka3 kc3 la3 lc3 All _ (by omega) (Hin3.out.ext Xt) (hl.max.ext Xt)).mono ?_)
  rintro e w5 ⟨a8, c8, rfl, hok8, hst8, h5⟩
  (try go_simp)
  refine hK.out _ _ (Sof _ Xt) (fun hHeld => ?_)
  clear hK K
  (try simp only [rl])
  (refine wpAnyH_ready (rs := [5]) (by kernel_rfl) (by simp) ?_); (refine AllReadyH.cons (Array.getElem?_eq_getElem (by decide)) (fun K hK => ?_) AllReadyH.nil); (try simp only [rl])
  (try go_simp)
  (refine (sameTextsK_any want.leaves a7 a8 _ _ c7 c8 _ _ _ (hst7.ext Xt) (hst8.ext Xt) rfl rfl (by omega)).mono ?_)
  rintro e w6 ⟨rfl, h6⟩
  (try go_simp)
  refine hK.out _ _ (Sof _ Xt) (fun hHeld => ?_)
  clear hK K
  (try simp only [rl])
  (refine wpAnyH_take (i := 6) (v := ?_) (Array.getElem?_eq_getElem (by decide)) (by kernel_rfl) (by kernel_rfl) (by kernel_rfl) (fun _ _ _ h => h) (Or.inl ⟨by kernel_rfl, ?_⟩) (by assumption) ?_); rotate_left; (focus (intro w hSw; (try dsimp only at hSw); (try simp only [rl]); go_simp; (try with_reducible rfl))); (try simp only [rl])
  (refine wpAnyH_take (i := 7) (v := ?_) (Array.getElem?_eq_getElem (by decide)) (by kernel_rfl) (by kernel_rfl) (by kernel_rfl) (fun _ _ _ h => h) (Or.inl ⟨by kernel_rfl, ?_⟩) (by assumption) ?_); rotate_left; (focus (intro w hSw; (try dsimp only at hSw); (try simp only [rl]); go_simp; (try with_reducible rfl))); (try simp only [rl])
  (refine wpAnyH_take (i := 8) (v := ?_) (Array.getElem?_eq_getElem (by decide)) (by kernel_rfl) (by kernel_rfl) (by kernel_rfl) (fun _ _ _ h => h) (Or.inl ⟨by kernel_rfl, ?_⟩) (by assumption) ?_); rotate_left; (focus (intro w hSw; (try dsimp only at hSw); (try simp only [rl]); go_simp; (try with_reducible rfl))); (try simp only [rl])
  (refine wpAnyH_ready (rs := [9]) (by kernel_rfl) (by simp) ?_); (refine AllReadyH.cons (Array.getElem?_eq_getElem (by decide)) (fun K hK => ?_) AllReadyH.nil); (try simp only [rl])
  (try go_simp)
  (refine (goodO_any m a5 c5 All _ hmz (How5.out.ext Xt) (hl.max.ext Xt)).mono ?_)
  rw [Hgo.out]
  rintro e w7 ⟨rfl, h7⟩
  (try go_simp)
  refine hK.out _ _ (Sof _ Xt) (fun hHeld => ?_)
  clear hK K
  (try simp only [rl])
  (refine wpAnyH_take (i := 10) (v := ?_) (Array.getElem?_eq_getElem (by decide)) (by kernel_rfl) (by kernel_rfl) (by kernel_rfl) (fun _ _ _ h => h) (Or.inl ⟨by kernel_rfl, ?_⟩) (by assumption) ?_); rotate_left; (focus (intro w hSw; (try dsimp only at hSw); (try simp only [rl]); go_simp; (try with_reducible rfl))); (try simp only [rl])
  (refine wpAnyH_take (i := 11) (v := ?_) (Array.getElem?_eq_getElem (by decide)) (by kernel_rfl) (by kernel_rfl) (by kernel_rfl) (fun _ _ _ h => h) (Or.inl ⟨by kernel_rfl, ?_⟩) (by assumption) ?_); rotate_left; (focus (intro w hSw; (try dsimp only at hSw); (try simp only [rl]); go_simp; (try with_reducible rfl))); (try simp only [rl])
  (refine wpAnyH_take (i := 12) (v := ?_) (Array.getElem?_eq_getElem (by decide)) (by kernel_rfl) (by kernel_rfl) (by kernel_rfl) (fun _ _ _ h => h) (Or.inl ⟨by kernel_rfl, ?_⟩) (by assumption) ?_); rotate_left; (focus (intro w hSw; (try dsimp only at hSw); (try simp only [rl]); go_simp; (try with_reducible rfl))); (try simp only [rl])
  (refine wpAnyH_take (i := 13) (v := ?_) (Array.getElem?_eq_getElem (by decide)) (by kernel_rfl) (by kernel_rfl) (by kernel_rfl) (fun _ _ _ h => h) (Or.inl ⟨by kernel_rfl, ?_⟩) (by assumption) ?_); rotate_left; (focus (intro w hSw; (try dsimp only at hSw); (try simp only [rl]); go_simp; (try with_reducible rfl))); (try simp only [rl])
  (refine wpAnyH_ready (rs := [14]) (by kernel_rfl) (by simp) ?_); (refine AllReadyH.cons (Array.getElem?_eq_getElem (by decide)) (fun K hK => ?_) AllReadyH.nil); (try simp only [rl])
  (try go_simp)
  (refine (fine_any x k2 c2 l2 d2 _ _ (by omega) (Hin2.out.ext Xt)).mono ?_)
  rw [Hfi.out]
  rintro e w8 ⟨rfl, h8⟩
  (try go_simp)
  refine hK.out _ _ (Sof _ Xt) (fun hHeld => ?_)
  clear hK K
  (try simp only [rl])
  (refine wpAnyH_take (i := 15) (v := ?_) (Array.getElem?_eq_getElem (by decide)) (by kernel_rfl) (by kernel_rfl) (by kernel_rfl) (fun _ _ _ h => h) (Or.inl ⟨by kernel_rfl, ?_⟩) (by assumption) ?_); rotate_left; (focus (intro w hSw; (try dsimp only at hSw); (try simp only [rl]); go_simp; (try with_reducible rfl))); (try simp only [rl])
  (refine wpAnyH_take (i := 16) (v := ?_) (Array.getElem?_eq_getElem (by decide)) (by kernel_rfl) (by kernel_rfl) (by kernel_rfl) (fun _ _ _ h => h) (Or.inl ⟨by kernel_rfl, ?_⟩) (by assumption) ?_); rotate_left; (focus (intro w hSw; (try dsimp only at hSw); (try simp only [rl]); go_simp; (try with_reducible rfl))); (try simp only [rl])
  refine wpAnyH_done (by kernel_rfl) ?_ _
  have hx38 : Ext w3 w8 := Xt
  have hB1 := Box.ext hx38 hB1
  have hB9 := Box.ext hx38 hB9
  have hxw8 : Ext w w8 := hxw3.trans hx38
  have Hin2 := Lib.hid (V.In.ext Hin2.out hx38)
  have How5 := Lib.hid (How5.out.ext hx38)
  clear Sof hst7 hst8 h4 h5 h6 h7 h8 hx38 hok7 hok8
  have hc1 := hB1.cells; have hf1 := hB1.free; have hl1 := hB1.lt
  go_wp2_with fail
  (refine (leavesO_any want ka3 kc3 la3 lc3 All _ (by omega) (Hin3.out.ext Xt) (hl.max.ext Xt)).mono ?_)
  rintro e w9 ⟨a8, c8, rfl, hok8, hst8, h9⟩
  have hB1 := Box.ext (w' := w9) Xt hB1
  have hB9 := Box.ext (w' := w9) Xt hB9
  have hxw9 : Ext w w9 := hxw8.trans Xt
  have Hin2 := Lib.hid (V.In.ext (w' := w9) Hin2.out Xt)
  have How5 := Lib.hid (How5.out.ext (w' := w9) Xt)
  have Hst8 := Lib.hid hst8
  clear h9 hst8 hc1 hf1 hl1
  go_wp2_with fail
  go_loopg [85] want.leaves.length (fun g i wr => ∃ j : Nat, j ≤ want.leaves.length ∧ i = .int .i64 j ∧ g = want.leaves.length - j ∧ Ext w9 wr)
  case atStart => exact ⟨0, Nat.zero_le _, rfl, rfl, Xt⟩
  case round =>
   obtain ⟨wi, rfl⟩ : ∃ x, x = wr := ⟨_, rfl⟩
   obtain ⟨j, hj, rfl, rfl, hxi⟩ := hrel
   have hxwi : Ext w wi := hxw9.trans hxi
   have hBw := Box.ext hxi hB1
   have hBx := Box.ext hxi hB9
   by_cases hjl : j < want.leaves.length
   ·obtain ⟨b2, o2, rfl, hS2, hC⟩ := (Hst8.out.ext hxi).resolve_left (by intro h; rw [h] at hjl; simp at hjl)
    have e0 := hC j hjl
    have hqz := leaf_size (List.getElem_mem hjl)
    obtain ⟨xx, yy, hg1, hg2, hll2, hxz, hyz⟩ := Hle.out _ (List.getElem_mem hjl)
    obtain ⟨q, hq⟩ : ∃ q, want.leaves[j] = q := ⟨_, rfl⟩
    rw [hq] at e0 hqz hg1 hg2
    have Hg1 := Lib.hid hg1
    have Hg2 := Lib.hid hg2
    have Hll := Lib.hid hll2
    clear hC hq hg1 hg2 hll2
    have hc1 := hBw.cells; have hf1 := hBw.free; have hl1 := hBw.lt
    go_wp2_with fail
    (refine (get_any want ka3 kc3 la3 lc3 All q _ (by omega) (Hin3.out.ext Xt) (by omega) (hl.ext Xt)).mono ?_)
    rw [Hg1.out]
    rintro e wc ⟨k7, c7, l7, d7, rfl, hin7, hc⟩
    have hBx := Box.ext (w' := wc) Xt hBx
    have hBw := Box.ext (w' := wc) Xt hBw
    have hxic : Ext wi wc := Xt
    have Hin7 := Lib.hid (all_in hin7)
    clear hc hin7 hc1 hf1 hl1
    go_upto_region 10 with fail
    refine gen_world (R := fun wx => Box wx wc.heap.size #[.int .i64 xx.k, .int .i64 xx.n, .string xx.s, .slice k7 xx.keys.length c7, .slice l7 xx.l.length d7] 25 ∧ Box wx w2.heap.size #[.int .i64 x.k, .int .i64 x.n, .string x.s, .slice k2 x.keys.length c2, .slice l2 x.l.length d2] 25 ∧ Ext wc wx) ⟨Bxt, Bxt, Xt⟩ ?_
    clear hBx hBw
    rintro wd ⟨hB17, hBx, hxd⟩
    have hxid : Ext wi wd := hxic.trans hxd
    have hx9d : Ext w9 wd := hxi.trans hxid
    have hxwd : Ext w wd := hxwi.trans hxid
    have Hin7 := Lib.hid (V.In.ext Hin7.out hxd)
    clear hxic hxd
    have hc0 := hBx.cells; have hf0 := hBx.free; have hl0 := hBx.lt
    go_wp2_with fail
    (refine (get_any x k2 c2 l2 d2 All q _ (by omega) (Hin2.out.ext Xt) (by omega) (hl.ext Xt)).mono ?_)
    rw [Hg2.out]
    rintro e we ⟨k8, c8', l8, d8, rfl, hin8, he⟩
    have hB17 := Box.ext (w' := we) Xt hB17
    have hxde : Ext wd we := Xt
    have Hin8 := Lib.hid (all_in hin8)
    clear he hin8 hc0 hf0 hl0
    go_upto_region 11 with fail
    refine gen_world (R := fun wx => Box wx wc.heap.size #[.int .i64 xx.k, .int .i64 xx.n, .string xx.s, .slice k7 xx.keys.length c7, .slice l7 xx.l.length d7] 25 ∧ Box wx we.heap.size #[.int .i64 yy.k, .int .i64 yy.n, .string yy.s, .slice k8 yy.keys.length c8', .slice l8 yy.l.length d8] 25 ∧ Ext we wx) ⟨Bxt, Bxt, Xt⟩ ?_
    clear hB17
    rintro wf ⟨hB17, hB19, hxf⟩
    have hxdf : Ext wd wf := hxde.trans hxf
    have hx9f : Ext w9 wf := hx9d.trans hxdf
    have Hin7 := Lib.hid (V.In.ext Hin7.out hxdf)
    have Hin8 := Lib.hid (V.In.ext Hin8.out hxf)
    clear hxde hxf
    have hc0 := hB17.cells; have hf0 := hB17.free; have hl0 := hB17.lt
    have hc1 := hB19.cells; have hf1 := hB19.free; have hl1 := hB19.lt
    rcases Hll.out with heq | ⟨he1, ks, ls, he2, hks⟩
    ·have Heq := Lib.hid heq
     clear heq
     go_wp2_with fail
     (refine (same_any xx yy Heq.out (by omega) k7 c7 l7 d7 k8 c8' l8 d8 All All _ (Hin7.out.ext Xt) (Hin8.out.ext Xt)).mono ?_)
     rintro e wg ⟨rfl, hg⟩
     have hx9g : Ext w9 wg := hx9f.trans Xt
     clear hg hc0 hf0 hl0 hc1 hf1 hl1
     go_wp2_with fail
     go_roundg (want.leaves.length - (j + 1))
     case measure => omega
     case rel => exact ⟨j + 1, by omega, by go_num, rfl, Xt⟩
    ·have hk1 : (xx.k == 5) = true := by rw [he1]; rfl
     have hk2 : (yy.k == 5) = true := by rw [he2]; rfl
     have He1 := Lib.hid he1
     have He2 := Lib.hid he2
     clear he1 he2
     go_wp2_with fail
     (refine (same_empty2 He1.out He2.out k7 c7 l7 d7 k8 c8' l8 d8 _ hks).mono ?_)
     rintro e wg ⟨rfl, hg⟩
     have hx9g : Ext w9 wg := hx9f.trans Xt
     have hB17 := Box.ext (w' := wg) Xt hB17
     have hB19 := Box.ext (w' := wg) Xt hB19
     clear hg hc0 hf0 hl0 hc1 hf1 hl1
     have hc0 := hB17.cells; have hf0 := hB17.free; have hl0 := hB17.lt
     have hc1 := hB19.cells; have hf1 := hB19.free; have hl1 := hB19.lt
     go_wp2_with fail
     go_roundg (want.leaves.length - (j + 1))
     case measure => omega
     case rel => exact ⟨j + 1, by omega, by go_num, rfl, Xt⟩
   ·clear Hst8 hok8
    have hc1 := hBw.cells; have hf1 := hBw.free; have hl1 := hBw.lt
    have hc0 := hBx.cells; have hf0 := hBx.free; have hl0 := hBx.lt
    go_wp2_with fail
    (refine (apply_any x k2 c2 l2 d2 m a5 c5 who want ka3 kc3 la3 lc3 false All _ (by omega) (by omega) (by omega) (by omega) Hok5.out (Hin2.out.ext Xt) (How5.out.ext Xt) (Hin3.out.ext Xt) (hl.max.ext Xt)).mono ?_)
    rw [Hap.out]
    rintro e wc ⟨k7, c7, l7, d7, a9, c9, a10, c10, rfl, hin7, hok9, how9, -, -, hc⟩
    have hxic : Ext wi wc := Xt
    have hBx := Box.ext (w' := wc) Xt hBx
    have Hin7 := Lib.hid (all_in hin7)
    have How9 := Lib.hid how9
    clear hc hin7 how9 hc0 hf0 hl0 hc1 hf1 hl1 hBw
    go_upto_region 15 with fail
    refine gen_world (R := fun wx => Box wx w2.heap.size #[.int .i64 x.k, .int .i64 x.n, .string x.s, .slice k2 x.keys.length c2, .slice l2 x.l.length d2] 25 ∧ Box wx wc.heap.size #[.int .i64 x.k, .int .i64 x.n, .string x.s, .slice k7 x.keys.length c7, .slice l7 x.l.length d7] 25 ∧ Ext wc wx) ⟨Bxt, Bxt, Xt⟩ ?_
    clear hBx
    rintro wd ⟨hBx, hB21, hxd⟩
    have hxid : Ext wi wd := hxic.trans hxd
    have hx9d : Ext w9 wd := hxi.trans hxid
    have hxwd : Ext w wd := hxwi.trans hxid
    have Hin7 := Lib.hid (V.In.ext Hin7.out hxd)
    have How9 := Lib.hid (How9.out.ext hxd)
    clear hxic hxd hxid
    have hc0 := hBx.cells; have hf0 := hBx.free; have hl0 := hBx.lt
    have hc1 := hB21.cells; have hf1 := hB21.free; have hl1 := hB21.lt
    go_wp2_with fail
    (refine (same_any x x rfl (by omega) k7 c7 l7 d7 k2 c2 l2 d2 All All _ (Hin7.out.ext Xt) (Hin2.out.ext Xt)).mono ?_)
    rintro e we ⟨rfl, he⟩
    have hx9e : Ext w9 we := hx9d.trans Xt
    have hxwe : Ext w we := hxwd.trans Xt
    have How9 := Lib.hid (How9.out.ext (w' := we) Xt)
    have How5 := Lib.hid (How5.out.ext (w' := we) Xt)
    clear he hc0 hf0 hl0 hc1 hf1 hl1 hBx hB21
    go_wp2_with fail
    go_loopg [152] m.length (fun g i wr => ∃ j : Nat, j ≤ m.length ∧ i = .int .i64 j ∧ g = m.length - j ∧ Ext we wr)
    case atStart => exact ⟨0, Nat.zero_le _, rfl, rfl, Xt⟩
    case round =>
     obtain ⟨wn, rfl⟩ : ∃ x, x = wr := ⟨_, rfl⟩
     obtain ⟨n, hn, rfl, rfl, hxn⟩ := hrel
     have hxwn : Ext w wn := hxwe.trans hxn
     by_cases hnl : n < m.length
     ·obtain ⟨b1, o1, rfl, -, pa, pc, d0, d1, -, hst1⟩ := (How9.out.ext hxn).item hnl
      obtain ⟨b3, o3, rfl, -, pb, pd, e0, e1, -, hst3⟩ := (How5.out.ext hxn).item hnl
      have hpl := Hmz.out n hnl
      have Hst1 := Lib.hid hst1
      have Hst3 := Lib.hid hst3
      obtain ⟨ow, how⟩ : ∃ ow, m[n] = ow := ⟨_, rfl⟩
      rw [how] at d0 d1 e0 e1 hpl Hst1 Hst3
      have hki0 : (0 : Int) ≤ (n : Int) := by omega
      have hki1 : (n : Int) < (m.length : Int) := by omega
      clear how hst1 hst3
      go_upto_region 20 with fail
      have Sof : ∀ w', Ext wn w' → (w'.cell? ⟨b1, o1 + n * 2, none⟩ = some (.string ow.name) ∧ w'.cell? ⟨b1, o1 + n * 2 + 1, none⟩ = some (.slice pa ow.paths.length pc) ∧ w'.cell? ⟨b3, o3 + n * 2, none⟩ = some (.string ow.name) ∧ w'.cell? ⟨b3, o3 + n * 2 + 1, none⟩ = some (.slice pb ow.paths.length pd)) := fun w' e => ⟨e.cell d0, e.cell d1, e.cell e0, e.cell e1⟩
      refine wp_region_held_drew (S := fun w' => w'.cell? ⟨b1, o1 + n * 2, none⟩ = some (.string ow.name) ∧ w'.cell? ⟨b1, o1 + n * 2 + 1, none⟩ = some (.slice pa ow.paths.length pc) ∧ w'.cell? ⟨b3, o3 + n * 2, none⟩ = some (.string ow.name) ∧ w'.cell? ⟨b3, o3 + n * 2 + 1, none⟩ = some (.slice pb ow.paths.length pd)) (by kernel_rfl) (Sof _ Xt) (fun hHeld => ?_)
      (refine wpAnyH_take (i := 0) (v := ?_) (Array.getElem?_eq_getElem (by decide)) (by kernel_rfl) (by kernel_rfl) (by kernel_rfl) (fun _ _ _ h => h) (Or.inl ⟨by kernel_rfl, ?_⟩) (by assumption) ?_); rotate_left; (focus (intro w hSw; (try dsimp only at hSw); (try simp only [rl]); go_simp; (try with_reducible rfl))); (try simp only [rl])
      (refine wpAnyH_take (i := 1) (v := ?_) (Array.getElem?_eq_getElem (by decide)) (by kernel_rfl) (by kernel_rfl) (by kernel_rfl) (fun _ _ _ h => h) (Or.inl ⟨by kernel_rfl, ?_⟩) (by assumption) ?_); rotate_left; (focus (intro w hSw; (try dsimp only at hSw); (try simp only [rl]); go_simp; (try with_reducible rfl))); (try simp only [rl])
      (refine wpAnyH_take (i := 2) (v := ?_) (Array.getElem?_eq_getElem (by decide)) (by kernel_rfl) (by kernel_rfl) (by kernel_rfl) (fun _ _ _ h => h) (Or.inl ⟨by kernel_rfl, ?_⟩) (by assumption) ?_); rotate_left; (focus (intro w hSw; (try dsimp only at hSw); (try simp only [rl]); go_simp; (try with_reducible rfl))); (try simp only [rl])
      (refine wpAnyH_take (i := 3) (v := ?_) (Array.getElem?_eq_getElem (by decide)) (by kernel_rfl) (by kernel_rfl) (by kernel_rfl) (fun _ _ _ h => h) (Or.inl ⟨by kernel_rfl, ?_⟩) (by assumption) ?_); rotate_left; (focus (intro w hSw; (try dsimp only at hSw); (try simp only [rl]); go_simp; (try with_reducible rfl))); (try simp only [rl])
      (refine wpAnyH_take (i := 4) (v := ?_) (Array.getElem?_eq_getElem (by decide)) (by kernel_rfl) (by kernel_rfl) (by kernel_rfl) (fun _ _ _ h => h) (Or.inl ⟨by kernel_rfl, ?_⟩) (by assumption) ?_); rotate_left; (focus (intro w hSw; (try dsimp only at hSw); (try simp only [rl]); go_simp; (try with_reducible rfl))); (try simp only [rl])
      (refine wpAnyH_take (i := 5) (v := ?_) (Array.getElem?_eq_getElem (by decide)) (by kernel_rfl) (by kernel_rfl) (by kernel_rfl) (fun _ _ _ h => h) (Or.inl ⟨by kernel_rfl, ?_⟩) (by assumption) ?_); rotate_left; (focus (intro w hSw; (try dsimp only at hSw); (try simp only [rl]); go_simp; (try with_reducible rfl))); (try simp only [rl])
      (refine wpAnyH_take (i := 6) (v := ?_) (Array.getElem?_eq_getElem (by decide)) (by kernel_rfl) (by kernel_rfl) (by kernel_rfl) (fun _ _ _ h => h) (Or.inl ⟨by kernel_rfl, ?_⟩) (by assumption) ?_); rotate_left; (focus (intro w hSw; (try dsimp only at hSw); (try simp only [rl]); go_simp; (try with_reducible rfl))); (try simp only [rl])
      (refine wpAnyH_take (i := 7) (v := ?_) (Array.getElem?_eq_getElem (by decide)) (by kernel_rfl) (by kernel_rfl) (by kernel_rfl) (fun _ _ _ h => h) (Or.inl ⟨by kernel_rfl, ?_⟩) (by assumption) ?_); rotate_left; (focus (intro w hSw; (try dsimp only at hSw); (try simp only [rl]); go_simp; (try with_reducible rfl))); (try simp only [rl])
      (refine wpAnyH_take (i := 8) (v := ?_) (Array.getElem?_eq_getElem (by decide)) (by kernel_rfl) (by kernel_rfl) (by kernel_rfl) (fun _ _ _ h => h) (Or.inl ⟨by kernel_rfl, ?_⟩) (by assumption) ?_); rotate_left; (focus (intro w hSw; (try dsimp only at hSw); (try simp only [rl]); go_simp; (try with_reducible rfl))); (try simp only [rl])
      (refine wpAnyH_take (i := 9) (v := ?_) (Array.getElem?_eq_getElem (by decide)) (by kernel_rfl) (by kernel_rfl) (by kernel_rfl) (fun _ _ _ h => h) (Or.inl ⟨by kernel_rfl, ?_⟩) (by assumption) ?_); rotate_left; (focus (intro w hSw; (try dsimp only at hSw); (try simp only [rl]); go_simp; (try with_reducible rfl))); (try simp only [rl])
      (refine wpAnyH_take (i := 10) (v := ?_) (Array.getElem?_eq_getElem (by decide)) (by kernel_rfl) (by kernel_rfl) (by kernel_rfl) (fun _ _ _ h => h) (Or.inl ⟨by kernel_rfl, ?_⟩) (by assumption) ?_); rotate_left; (focus (intro w hSw; (try dsimp only at hSw); (try simp only [rl]); go_simp; (try with_reducible rfl))); (try simp only [rl])
      (refine wpAnyH_take (i := 11) (v := ?_) (Array.getElem?_eq_getElem (by decide)) (by kernel_rfl) (by kernel_rfl) (by kernel_rfl) (fun _ _ _ h => h) (Or.inl ⟨by kernel_rfl, ?_⟩) (by assumption) ?_); rotate_left; (focus (intro w hSw; (try dsimp only at hSw); (try simp only [rl]); go_simp; (try with_reducible rfl))); (try simp only [rl])
      (refine wpAnyH_take (i := 12) (v := ?_) (Array.getElem?_eq_getElem (by decide)) (by kernel_rfl) (by kernel_rfl) (by kernel_rfl) (fun _ _ _ h => h) (Or.inl ⟨by kernel_rfl, ?_⟩) (by assumption) ?_); rotate_left; (focus (intro w hSw; (try dsimp only at hSw); (try simp only [rl]); go_simp; (try with_reducible rfl))); (try simp only [rl])
      (refine wpAnyH_take (i := 13) (v := ?_) (Array.getElem?_eq_getElem (by decide)) (by kernel_rfl) (by kernel_rfl) (by kernel_rfl) (fun _ _ _ h => h) (Or.inl ⟨by kernel_rfl, ?_⟩) (by assumption) ?_); rotate_left; (focus (intro w hSw; (try dsimp only at hSw); (try simp only [rl]); go_simp; (try with_reducible rfl))); (try simp only [rl])
      (refine wpAnyH_take (i := 14) (v := ?_) (Array.getElem?_eq_getElem (by decide)) (by kernel_rfl) (by kernel_rfl) (by kernel_rfl) (fun _ _ _ h => h) (Or.inl ⟨by kernel_rfl, ?_⟩) (by assumption) ?_); rotate_left; (focus (intro w hSw; (try dsimp only at hSw); (try simp only [rl]); go_simp; (try with_reducible rfl))); (try simp only [rl])
      (refine wpAnyH_take (i := 15) (v := ?_) (Array.getElem?_eq_getElem (by decide)) (by kernel_rfl) (by kernel_rfl) (by kernel_rfl) (fun _ _ _ h => h) (Or.inl ⟨by kernel_rfl, ?_⟩) (by assumption) ?_); rotate_left; (focus (intro w hSw; (try dsimp only at hSw); (try simp only [rl]); go_simp; (try with_reducible rfl))); (try simp only [rl])
      (refine wpAnyH_take (i := 16) (v := ?_) (Array.getElem?_eq_getElem (by decide)) (by kernel_rfl) (by kernel_rfl) (by kernel_rfl) (fun _ _ _ h => h) (Or.inl ⟨by kernel_rfl, ?_⟩) (by assumption) ?_); rotate_left; (focus (intro w hSw; (try dsimp only at hSw); (try simp only [rl]); go_simp; (try with_reducible rfl))); (try simp only [rl])
      (refine wpAnyH_take (i := 17) (v := ?_) (Array.getElem?_eq_getElem (by decide)) (by kernel_rfl) (by kernel_rfl) (by kernel_rfl) (fun _ _ _ h => h) (Or.inl ⟨by kernel_rfl, ?_⟩) (by assumption) ?_); rotate_left; (focus (intro w hSw; (try dsimp only at hSw); (try simp only [rl]); go_simp; (try with_reducible rfl))); (try simp only [rl])
      (refine wpAnyH_take (i := 18) (v := ?_) (Array.getElem?_eq_getElem (by decide)) (by kernel_rfl) (by kernel_rfl) (by kernel_rfl) (fun _ _ _ h => h) (Or.inl ⟨by kernel_rfl, ?_⟩) (by assumption) ?_); rotate_left; (focus (intro w hSw; (try dsimp only at hSw); (try simp only [rl]); go_simp; (try with_reducible rfl))); (try simp only [rl])
      (refine wpAnyH_take (i := 19) (v := ?_) (Array.getElem?_eq_getElem (by decide)) (by kernel_rfl) (by kernel_rfl) (by kernel_rfl) (fun _ _ _ h => h) (Or.inl ⟨by kernel_rfl, ?_⟩) (by assumption) ?_); rotate_left; (focus (intro w hSw; (try dsimp only at hSw); (try simp only [rl]); go_simp; (try with_reducible rfl))); (try simp only [rl])
      (refine wpAnyH_take (i := 20) (v := ?_) (Array.getElem?_eq_getElem (by decide)) (by kernel_rfl) (by kernel_rfl) (by kernel_rfl) (fun _ _ _ h => h) (Or.inl ⟨by kernel_rfl, ?_⟩) (by assumption) ?_); rotate_left; (focus (intro w hSw; (try dsimp only at hSw); (try simp only [rl]); go_simp; (try with_reducible rfl))); (try simp only [rl])
      (refine wpAnyH_take (i := 21) (v := ?_) (Array.getElem?_eq_getElem (by decide)) (by kernel_rfl) (by kernel_rfl) (by kernel_rfl) (fun _ _ _ h => h) (Or.inl ⟨by kernel_rfl, ?_⟩) (by assumption) ?_); rotate_left; (focus (intro w hSw; (try dsimp only at hSw); (try simp only [rl]); go_simp; (try with_reducible rfl))); (try simp only [rl])
      (refine wpAnyH_ready (rs := [22]) (by kernel_rfl) (by simp) ?_); (refine AllReadyH.cons (Array.getElem?_eq_getElem (by decide)) (fun K hK => ?_) AllReadyH.nil); (try simp only [rl])
      (try go_simp)
      (refine (sameTextsK_any ow.paths pa pb _ _ pc pd _ _ _ (Hst1.out.ext Xt) (Hst3.out.ext Xt) rfl rfl (by omega)).mono ?_)
      rintro e w5 ⟨rfl, h5⟩
      (try go_simp)
      refine hK.out _ _ (Sof _ Xt) (fun hHeld => ?_)
      clear hK K
      (try simp only [rl])
      (refine wpAnyH_take (i := 23) (v := ?_) (Array.getElem?_eq_getElem (by decide)) (by kernel_rfl) (by kernel_rfl) (by kernel_rfl) (fun _ _ _ h => h) (Or.inl ⟨by kernel_rfl, ?_⟩) (by assumption) ?_); rotate_left; (focus (intro w hSw; (try dsimp only at hSw); (try simp only [rl]); go_simp; (try with_reducible rfl))); (try simp only [rl])
      (refine wpAnyH_take (i := 24) (v := ?_) (Array.getElem?_eq_getElem (by decide)) (by kernel_rfl) (by kernel_rfl) (by kernel_rfl) (fun _ _ _ h => h) (Or.inl ⟨by kernel_rfl, ?_⟩) (by assumption) ?_); rotate_left; (focus (intro w hSw; (try dsimp only at hSw); (try simp only [rl]); go_simp; (try with_reducible rfl))); (try simp only [rl])
      refine wpAnyH_done (by kernel_rfl) ?_ _
      have hxe5 : Ext we w5 := hxn.trans Xt
      clear Sof h5
      go_wp2_with fail
      go_roundg (m.length - (n + 1))
      case measure => omega
      case rel => exact ⟨n + 1, by omega, by go_num, rfl, Xt⟩
     ·go_wp2_with fail
      go_ret
      exact ⟨rfl, Xt⟩
 ·have h0b : (er != 0) = true := by simpa using h0
  obtain ⟨hxv, hno⟩ := apply_no Hr.out h0
  have Hxv := Lib.hid hxv
  clear h0 hxv hB1
  have hc0 := hB0.cells; have hf0 := hB0.free; have hl0 := hB0.lt
  have hc1 := hB9.cells; have hf1 := hB9.free; have hl1 := hB9.lt
  rcases hno with ⟨rfl, hcs, rfl⟩ | ⟨h5, rfl⟩
  ·have hcp : (0 : Int) < (cs.length : Int) := by have := List.length_pos_iff.2 hcs; omega
   clear hcs
   go_wp2_with fail
   (refine (same_any x v Hxv.out.symm (by rw [Hxv.out]; omega) k2 c2 l2 d2 ka0 kc0 la0 lc0 All All _ (Hin2.out.ext Xt) (Hin0.out.ext Xt)).mono ?_)
   rintro e w3 ⟨rfl, h3⟩
   have hx3 : Ext w w3 := hxwb.trans Xt
   clear h3 hc0 hf0 hl0 hc1 hf1 hl1
   go_wp2_with fail
   (refine (owns_keep _ (hl.ext Xt)).mono ?_)
   rintro e w4 ⟨rfl, h4⟩
   go_wp2_with fail
   go_ret
   exact ⟨rfl, Xt⟩
  ·have h5b : (er == 5) = false := by simpa using h5
   clear h5
   cases force with
   | false =>
    go_wp2_with fail
    (refine (same_any x v Hxv.out.symm (by rw [Hxv.out]; omega) k2 c2 l2 d2 ka0 kc0 la0 lc0 All All _ (Hin2.out.ext Xt) (Hin0.out.ext Xt)).mono ?_)
    rintro e w3 ⟨rfl, h3⟩
    have hx3 : Ext w w3 := hxwb.trans Xt
    clear h3 hc0 hf0 hl0 hc1 hf1 hl1
    go_wp2_with fail
    (refine (owns_keep _ (hl.ext Xt)).mono ?_)
    rintro e w4 ⟨rfl, h4⟩
    go_wp2_with fail
    go_ret
    exact ⟨rfl, Xt⟩
   | true =>
    go_wp2_with fail
    (refine (same_any x v Hxv.out.symm (by rw [Hxv.out]; omega) k2 c2 l2 d2 ka0 kc0 la0 lc0 All All _ (Hin2.out.ext Xt) (Hin0.out.ext Xt)).mono ?_)
    rintro e w3 ⟨rfl, h3⟩
    have hx3 : Ext w w3 := hxwb.trans Xt
    clear h3 hc0 hf0 hl0 hc1 hf1 hl1
    go_wp2_with fail
    (refine (owns_keep _ (hl.ext Xt)).mono ?_)
    rintro e w4 ⟨rfl, h4⟩
    go_wp2_with fail
    go_ret
    exact ⟨rfl, Xt⟩
end
set_option maxRecDepth 100000 in
theorem lifted (os : Os) (started : os.Started) (H : Type) (enc : TypeId × Value → H) (Fi : Stop.Interp) :
  ReturnsInHanded {} Tryz.checked os 7 .any ((Rows.OpenSpec.upto Rows.ownerHasSpec).preRow enc Tryz.prog Tryz.f7 Rows.ownerHasUptoRow.domain false Rows.ownerHasUptoRow.laid) (((Rows.OpenSpec.upto Rows.ownerHasSpec).at Fi).post enc Tryz.prog Tryz.f7 false true false false) := by
 obtain ⟨places, hx⟩ : ∃ places, DataW.whole enc Tryz.prog ((start.laidWorld os).forCall (fun _ _ => 0) ⟨#[], #[.agg #[.int .i64 0, .int .i64 0, .string ⟨#[]⟩, .slice none 0 0, .slice none 0 0], .slice none 0 0, .string ⟨#[]⟩, .agg #[.int .i64 0, .int .i64 0, .string ⟨#[]⟩, .slice none 0 0, .slice none 0 0], .bool false], []⟩).memory Tryz.f7.params.toList Rows.ownerHasSpec.vars false (#[.agg #[.int .i64 0, .int .i64 0, .string ⟨#[]⟩, .slice none 0 0, .slice none 0 0], .slice none 0 0, .string ⟨#[]⟩, .agg #[.int .i64 0, .int .i64 0, .string ⟨#[]⟩, .slice none 0 0, .slice none 0 0], .bool false]).toList 8 = some ([.agg [.lit (.int .i64 0), .lit (.int .i64 0), .lit (.string []), .nil, .nil], .nil, .lit (.string []), .agg [.lit (.int .i64 0), .lit (.int .i64 0), .lit (.string []), .nil, .nil], .lit (.bool false)], [], places) := ⟨[], by kernel_rfl⟩
 refine returnsInHanded_of_row (C := Tryz.checked) (s := Rows.OpenSpec.upto Rows.ownerHasSpec) Tryz.own started (by kernel_rfl) Tryz.func7
  (witness_row_atRef (enc := enc) (C := Tryz.checked) false (start.laidWorld os) #[.agg #[.int .i64 0, .int .i64 0, .string ⟨#[]⟩, .slice none 0 0, .slice none 0 0], .slice none 0 0, .string ⟨#[]⟩, .agg #[.int .i64 0, .int .i64 0, .string ⟨#[]⟩, .slice none 0 0, .slice none 0 0], .bool false] rfl (by kernel_rfl) (by kernel_rfl) (by kernel_rfl)
   (OpenSpec.preRow_of_cond 8 hx (by kernel_rfl) (fun k hk => by cases hk; kernel_rfl) (by kernel_rfl) (start.laid_met os _))) ?_
 intro W base args ds gs before hval0 hW _ hk _ hL hsh _
 have hkb := hk _ rfl
 have hval : ∀ (j : Nat) t v, Tryz.f7.params[j]? = some t → args[j]? = some v → Value.okWide Tryz.prog W .any base t v := hval0
 have hW' := hW
 obtain ⟨p, q, hA0, hV, rfl, hfz, hnd⟩ := hW
 have hA : DataW.TrodAll enc Tryz.prog W 0 (fun _ => true) true Tryz.f7.params.toList args.toList ds p := hA0
 rw [Tryz.params7] at hA hval
 obtain ⟨v0, vs0, d0, ds0, p0, q0, hargs, rfl, rfl, h0, r0⟩ := trodAll_cons hA
 obtain ⟨v1, vs1, d1, ds1, p1, q1, rfl, rfl, rfl, h1, r1⟩ := trodAll_cons r0
 obtain ⟨v2, vs2, d2, ds2, p2, q2, rfl, rfl, rfl, h2, r2⟩ := trodAll_cons r1
 obtain ⟨v3, vs3, d3, ds3, p3, q3, rfl, rfl, rfl, h3, r3⟩ := trodAll_cons r2
 obtain ⟨v4, vs4, d4, ds4, p4, q4, rfl, rfl, rfl, h4, r4⟩ := trodAll_cons r3
 obtain ⟨rfl, rfl, rfl⟩ := trodAll_nil r4
 obtain rfl : args = #[v0, v1, v2, v3, v4] := by cases args; simp_all
 obtain ⟨rfl, rfl⟩ := trodVars_none hV
 have hbulk : Rows.uptoBulkAll [d0, d1, d2, d3, d4] ≤ 1048576 := by simpa [Rows.uptoSmall] using hkb
 have k0 := h0
 have k1 := h1
 have k2 := h2
 have k3 := h3
 have k4 := h4
 have lt0 : ∀ x ∈ p0, x.block < W.heap.size := by obtain ⟨m, hm⟩ := k0; exact DataW.trod_lt m _ _ _ hm
 have lt1 : ∀ x ∈ p1, x.block < W.heap.size := by obtain ⟨m, hm⟩ := k1; exact DataW.trod_lt m _ _ _ hm
 have lt2 : ∀ x ∈ p2, x.block < W.heap.size := by obtain ⟨m, hm⟩ := k2; exact DataW.trod_lt m _ _ _ hm
 have lt3 : ∀ x ∈ p3, x.block < W.heap.size := by obtain ⟨m, hm⟩ := k3; exact DataW.trod_lt m _ _ _ hm
 have lt4 : ∀ x ∈ p4, x.block < W.heap.size := by obtain ⟨m, hm⟩ := k4; exact DataW.trod_lt m _ _ _ hm
 have hlib := libAt_of hsh hL
 obtain ⟨x0, ka0, kc0, la0, lc0, rfl, hin0, hxb0⟩ := open_value (hval 0 25 v0 rfl rfl) h0
 obtain ⟨a1, len1, cap1, rfl⟩ := okWide_slice Tryz.underlying32 (hval 1 32 v1 rfl rfl)
 obtain ⟨fuel1, hf1⟩ := h1
 obtain ⟨a1', cap1', l1, hc1, hok1, hin1, hxb1⟩ := open_ows hf1
 simp only [Value.slice.injEq] at hc1
 obtain ⟨rfl, rfl, rfl⟩ := hc1
 have hxb1 : owsSize l1 + 1 ≤ Rows.uptoBulk d1 := hxb1
 obtain ⟨s2, rfl, rfl, rfl, ws2⟩ := open_string Tryz.underlying9 (hval 2 9 v2 rfl rfl) h2
 obtain ⟨x3, ka3, kc3, la3, lc3, rfl, hin3, hxb3⟩ := open_value (hval 3 25 v3 rfl rfl) h3
 obtain ⟨n4, rfl, rfl, rfl⟩ := open_bool Tryz.underlying4 (hval 4 4 v4 rfl rfl) h4
 simp only [Rows.uptoBulkAll, Rows.uptoBulk] at hbulk
 have hlen2 : s2.data.toList.length = s2.size := Array.length_toList
 clear hA0 hval0
 refine (walk x0 ka0 kc0 la0 lc0 a1 cap1 l1 s2 x3 ka3 kc3 la3 lc3 n4 W hlib (by omega) (by omega) (by omega) (by omega) (all_in hin0) hok1 (hin1.mono fun _ _ _ => trivial) (all_in hin3)).mono fun e W' ⟨he, bel⟩ => ?_
 subst he
 exact ⟨_, rfl, _, _, _, [], _, [], hW', trodAll_mk1 (shut_bool Tryz.underlying4 _), (trodAll_cons_mk (Below.trod Tryz.laidOut (by kernel_rfl) (of_decide_eq_true (by kernel_rfl)) k0 bel lt0) (trodAll_cons_mk (Below.trod Tryz.laidOut (by kernel_rfl) (of_decide_eq_true (by kernel_rfl)) k1 bel lt1) (trodAll_cons_mk (Below.trod Tryz.laidOut (by kernel_rfl) (of_decide_eq_true (by kernel_rfl)) k2 bel lt2) (trodAll_cons_mk (Below.trod Tryz.laidOut (by kernel_rfl) (of_decide_eq_true (by kernel_rfl)) k3 bel lt3) (trodAll_cons_mk (Below.trod Tryz.laidOut (by kernel_rfl) (of_decide_eq_true (by kernel_rfl)) k4 bel lt4) trodAll_mk0))))), rfl, Below.frame bel _, fun h => by cases h⟩
theorem cA : (Rows.ownerHasUptoRow.inPlace == Tryz.pinned.checked.prog.inPlace 7) = true := by kernel_rfl
theorem cB : (Rows.ownerHasUptoRow.unfollowed == Tryz.pinned.checked.prog.unfollowed 7) = true := by kernel_rfl
theorem cC : (Rows.ownerHasUptoRow.recurses == Tryz.pinned.checked.prog.recurses 7) = true := by kernel_rfl
theorem cD : (Rows.ownerHasUptoRow.named == Tryz.pinned.checked.prog.varsNamed 7) = true := by kernel_rfl
theorem closed : joinedFacts Tryz.pinned.checked.prog 7 Tryz.f7 (Rows.OpenSpec.upto Rows.ownerHasSpec).bare Rows.ownerHasUptoRow = true := by
 unfold joinedFacts
 rw [cA, cB, cC, cD]
 kernel_rfl
theorem said : Rows.OwnerHasUptoSaid :=
 OpenClaim.holds_of_cond 7 Tryz.f7 rfl rfl rfl rfl rfl rfl rfl ⟨rfl, rfl, rfl, rfl, rfl⟩ rfl rfl rfl rfl rfl (by kernel_rfl) Tryz.func7 closed
  (of_decide_eq_true (by kernel_rfl)) (by unfold Func.isWrapper; first | (rw [if_pos (by decide +kernel)]; kernel_rfl) | (rw [if_neg (by decide +kernel)]; exact ⟨rfl, rfl⟩))
  (fun os started H enc _ F => by rw [OpenClaim.pre_eq_preRow]; exact lifted os started H enc F)
theorem plain (f : FuncId) (fn : Func) (hf : Tryz.pinned.checked.prog.funcNamed "stairwell/stairwellkeep.OwnerHas" = some f) (hfn : Tryz.pinned.checked.prog.funcs[f]? = some fn) :
  true = Tryz.pinned.checked.prog.looks [] ∧ ∀ (j : Nat) t, fn.params[j]? = some t → Tryz.pinned.checked.prog.wantsStandIn t = false := by
 obtain rfl : f = 7 := Option.some.inj ((show Tryz.prog.funcNamed "stairwell/stairwellkeep.OwnerHas" = some 7 by kernel_rfl).symm.trans hf) |>.symm
 obtain rfl : fn = Tryz.f7 := (Option.some.inj (Tryz.func7.symm.trans hfn)).symm
 refine ⟨by kernel_rfl, fun j t ht => ?_⟩
 rw [Tryz.params7] at ht
 have h : t = 25 ∨ t = 32 ∨ t = 9 ∨ t = 25 ∨ t = 4 := by simpa using Array.mem_of_getElem? ht
 rcases h with rfl | rfl | rfl | rfl | rfl
 ·exact (show Tryz.prog.wantsStandIn 25 = false by kernel_rfl)
 ·exact (show Tryz.prog.wantsStandIn 32 = false by kernel_rfl)
 ·exact (show Tryz.prog.wantsStandIn 9 = false by kernel_rfl)
 ·exact (show Tryz.prog.wantsStandIn 25 = false by kernel_rfl)
 ·exact (show Tryz.prog.wantsStandIn 4 = false by kernel_rfl)
theorem proved : Rows.OwnerHasUptoCardSaid :=
 Claim7.holds_tied_plain_at .later [] _ _ _ _ said (fun _ h => by cases h) (by kernel_rfl) (fun _ h => by cases h) ownerHasUpto_row_tie rfl ⟨rfl, rfl⟩ (by kernel_rfl) rfl plain (by kernel_rfl)
end Go.Proofs.YtjibdbnpkfghhaaGreatDoor.lawOwnerHas
