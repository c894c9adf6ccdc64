/- The walk of what point.Add does at a path's end: lists. -/
import Derived.Test.YtjibdbnpkfghhaaGreatDoorAdd1
set_option linter.all false
namespace Go.Proofs.YtjibdbnpkfghhaaGreatDoor
open Go.RowKit
attribute [local go_sem ↓] Go.wp_at_zero Go.wp_at_succ
set_option maxRecDepth 100000 in
set_option maxHeartbeats 8000000 in
theorem add1_list (y : V) (kb : Option Addr) (kd : Nat) (lb : Option Addr) (ld : Nat) (bx : Nat) (x : V) (ka : Option Addr) (kc : Nat) (la : Option Addr) (lc : Nat) (name : ByteArray) (S : Nat → Prop) (w : World) (hSl : Hid (∀ b, S b → b < w.heap.size)) (hBx : Box w bx #[.int .i64 y.k, .int .i64 y.n, .string y.s, .slice kb y.keys.length kd, .slice lb y.l.length ld] 25) (hjn : y.In w S kb kd lb ld) (hl : LibAt w)
  (hsz : x.size ≤ 1073741824) (hn : name.size ≤ 8000) (hin : x.In w S ka kc la lc) (h4 : x.k = 4) (p : Nat) (hi : Hid (idxV name x.l.length = some p)) (hp : p ≤ x.l.length) :
  Calls Tryz.prog 89 #[x.val ka kc la lc, .string name, .pointer (some ⟨bx, 0, none⟩)] w (RetV2 S (x.insL p y) (.int .i64 0) w) := by
 have hbx := hBx.lt
 have hk5 : (x.k == 5) = false := by simpa using (show x.k ≠ 5 by omega)
 have hk4 : (x.k == 4) = true := by simpa using h4
 have hle : (p : Int) ≤ (x.l.length : Int) := by omega
 have hle2 : ¬ (x.l.length : Int) < (p : Int) := by omega
 have hll := x.len_l
 obtain ⟨hok1, hok2, hst, hrw⟩ := (V.in_iff ..).1 hin
 obtain ⟨news, hnl, hnsrc, hncells⟩ := rows_cells hrw
 have h1c := hncells.one
 have cl : ∀ w', Ext w w' → Calls Tryz.prog 93 #[.slice la x.l.length lc] w' fun e w'' => ∃ a' c', e = .returned (.slice a' x.l.length c') ∧ SlOk a' x.l.length c' ∧ w''.ownsRow w'.heap.size 25 5 (.slice a' x.l.length c') x.l.length news ∧ Ext w' w'' := fun w' e =>
  cloneV_row la x.l.length lc news w' hok2 (by omega) hnl (by rcases hnsrc with h | ⟨ad, h, h'⟩; exact .inl h; exact .inr ⟨ad, h, fun j u hj => e.cell (h' j u hj)⟩) h1c
 have Cl := Lib.hid cl
 have H1c := Lib.hid h1c
 have Hncells := Lib.hid hncells
 have Hst := Lib.hid hst
 have Hjn := Lib.hid hjn
 have Hin := Lib.hid hin
 clear cl h1c hncells hst hjn hin hnl hnsrc hrw h4
 go_enter Tryz.func89, Tryz.ntmps89
 go_upto_region 5 with fail
 refine gen_world (R := fun wx => Box wx w.heap.size #[.int .i64 x.k, .int .i64 x.n, .string x.s, .slice ka x.keys.length kc, .slice la x.l.length lc] 25 ∧ Box wx (w.heap.size + 1) #[.int .i64 0, .int .i64 0, .string ⟨#[]⟩, .slice none 0 0, .slice none 0 0] 25 ∧ Ext w wx) ⟨Bxt, Bxt, Xt⟩ ?_
 rintro wa ⟨hB0, hB1, hxa⟩
 have hc0 := hB0.cells; have hf0 := hB0.free; have hl0 := hB0.lt
 go_wp2_with fail
 (refine (index_any name x.l.length (by omega) (by omega) _ (hl.ext Xt)).mono ?_); rintro e w1 ⟨rfl, h1⟩
 rw [hi.out]
 have hB0 := Box.ext (w := wa) (w' := w1) Xt hB0
 have hB1 := Box.ext (w := wa) (w' := w1) Xt hB1
 have hx1 : Ext w w1 := Xt
 clear h1 hxa hc0 hf0 hl0
 have hc0 := hB0.cells; have hf0 := hB0.free; have hl0 := hB0.lt
 go_upto_region 7 with fail
 refine gen_world (R := fun wx => Box wx w.heap.size #[.int .i64 x.k, .int .i64 x.n, .string x.s, .slice ka x.keys.length kc, .slice la x.l.length lc] 25 ∧ Box wx (w.heap.size + 1) #[.int .i64 0, .int .i64 0, .string ⟨#[]⟩, .slice none 0 0, .slice none 0 0] 25 ∧ Ext w wx) ⟨Bxt, Bxt, Xt⟩ ?_
 clear hB0 hB1 hx1 hc0 hf0 hl0
 rintro wb ⟨hB0, hB1, hxb⟩
 have hBy := Box.ext hxb hBx
 have hbl := hB1.lt
 have Sof : ∀ w', Ext wb w' → (w'.cell? ⟨w.heap.size, 4, none⟩ = some (.slice la x.l.length lc) ∧ w'.cell? ⟨bx, 0, none⟩ = some (.int .i64 y.k) ∧ w'.cell? ⟨bx, 1, none⟩ = some (.int .i64 y.n) ∧ w'.cell? ⟨bx, 2, none⟩ = some (.string y.s) ∧ w'.cell? ⟨bx, 3, none⟩ = some (.slice kb y.keys.length kd) ∧ w'.cell? ⟨bx, 4, none⟩ = some (.slice lb y.l.length ld)) :=
  fun w' e => ⟨e.cell (hB0.cells 4), e.cell (hBy.cells 0), e.cell (hBy.cells 1), e.cell (hBy.cells 2), e.cell (hBy.cells 3), e.cell (hBy.cells 4)⟩
 clear hBy
 refine wp_region_till (S := fun w' => w'.cell? ⟨w.heap.size, 4, none⟩ = some (.slice la x.l.length lc) ∧ w'.cell? ⟨bx, 0, none⟩ = some (.int .i64 y.k) ∧ w'.cell? ⟨bx, 1, none⟩ = some (.int .i64 y.n) ∧ w'.cell? ⟨bx, 2, none⟩ = some (.string y.s) ∧ w'.cell? ⟨bx, 3, none⟩ = some (.slice kb y.keys.length kd) ∧ w'.cell? ⟨bx, 4, none⟩ = some (.slice lb y.l.length ld)) (c := 8) (by kernel_rfl) ?_
 (refine wpAnyT_take (i := 0) (v := ?_) [8] (Array.getElem?_eq_getElem (by decide)) (by kernel_rfl) (by kernel_rfl) (by kernel_rfl) (by kernel_rfl) rfl rfl (by kernel_rfl) (fun _ _ _ h => h) (Or.inl ⟨by kernel_rfl, ?_⟩) (Sof _ Xt) ?_); rotate_left; (focus (intro w hSw; (try dsimp only at hSw); (try simp only [rl]); go_simp; (try with_reducible rfl))); (try simp only [rl])
 (refine wpAnyT_take (i := 1) (v := ?_) [8] (Array.getElem?_eq_getElem (by decide)) (by kernel_rfl) (by kernel_rfl) (by kernel_rfl) (by kernel_rfl) rfl rfl (by kernel_rfl) (fun _ _ _ h => h) (Or.inl ⟨by kernel_rfl, ?_⟩) (Sof _ Xt) ?_); rotate_left; (focus (intro w hSw; (try dsimp only at hSw); (try simp only [rl]); go_simp; (try with_reducible rfl))); (try simp only [rl])
 (refine wpAnyT_take (i := 3) (v := ?_) [8] (Array.getElem?_eq_getElem (by decide)) (by kernel_rfl) (by kernel_rfl) (by kernel_rfl) (by kernel_rfl) rfl rfl (by kernel_rfl) (fun _ _ _ h => h) (Or.inl ⟨by kernel_rfl, ?_⟩) (Sof _ Xt) ?_); rotate_left; (focus (intro w hSw; (try dsimp only at hSw); (try simp only [rl]); go_simp; (try with_reducible rfl))); (try simp only [rl])
 (refine wpAnyT_take (i := 4) (v := ?_) [8] (Array.getElem?_eq_getElem (by decide)) (by kernel_rfl) (by kernel_rfl) (by kernel_rfl) (by kernel_rfl) rfl rfl (by kernel_rfl) (fun _ _ _ h => h) (Or.inl ⟨by kernel_rfl, ?_⟩) (Sof _ Xt) ?_); rotate_left; (focus (intro w hSw; (try dsimp only at hSw); (try simp only [rl]); go_simp; (try with_reducible rfl))); (try simp only [rl])
 refine wpAnyT_ready (rs := [2, 5]) (by kernel_rfl) (by simp) ?_
 refine AllReadyT.cons (Array.getElem?_eq_getElem (by decide)) (fun K hK => ?_) (AllReadyT.cons (Array.getElem?_eq_getElem (by decide)) (fun K hK => ?_) AllReadyT.nil)
 ·(try simp only [rl])
  (try go_simp)
  (refine (Cl.out _ Xt).mono ?_); rintro e w2 ⟨a2, c2, rfl, -, hown2, h2⟩
  (try go_simp)
  have hb2 : Ext wb w2 := Xt
  have hz2 := hb2.size
  have Hl2 : Hid (∀ g, (Value.slice a2 x.l.length c2).ownBlock = some g → wb.heap.size ≤ g ∧ g < w2.heap.size) := fun g hg => hown2.lt g hg
  have Ho2 := Lib.hid (ownsRow_base (b0 := w.heap.size + 2) hown2 (by (try simp); omega))
  clear hown2 h2
  refine hK.out _ _ (fun _ => Sof _ Xt) ?_; clear hK K; (try simp only [rl])
  (refine wpAnyT_one (i := 5) (by kernel_rfl) (Array.getElem?_eq_getElem (by decide)) fun K hK => ?_); (try simp only [rl])
  go_simp
  refine hK.out _ _ (fun _ => Sof _ Xt) ?_; clear hK K; (try simp only [rl])
  (refine wpAnyT_one (i := 6) (by kernel_rfl) (Array.getElem?_eq_getElem (by decide)) fun K hK => ?_); (try simp only [rl])
  (try go_simp)
  (refine (insV_any (w.heap.size + 2) x.l.length p _ _ (.slice a2 x.l.length c2) news (y.five kb kd lb ld) _ 25 ?_ ?_ (by omega) hp ?_ ?_ rfl H1c.out (y.five_one kb kd lb ld)).mono ?_)
  (focus (first | (simp; omega) | omega))
  (focus (exact ownsRow_ext Ho2.out Xt))
  (focus (exact Bxt))
  (focus (intro h; have h' := (Hl2.out _ h).2; (first | omega | (simp at h'; omega) | (simp at h'; done))))
  rintro e w6 ⟨g6, cap6, rfl, hown6, hgrow6, hat6⟩
  have hx6 : Ext wb w6 := Ext.grown Xt hgrow6 (fun g hg => (Hl2.out g hg).1)
  (try go_simp)
  refine hK.out _ _ (fun _ => Sof _ hx6) ?_
  clear hK K
  (try simp only [rl])
  (refine wpAnyT_take (i := 7) (v := ?_) [8] (Array.getElem?_eq_getElem (by decide)) (by kernel_rfl) (by kernel_rfl) (by kernel_rfl) (by kernel_rfl) rfl rfl (by kernel_rfl) (fun _ _ _ h => h) (Or.inl ⟨by kernel_rfl, ?_⟩) (Sof _ Xt) ?_); rotate_left; (focus (intro w hSw; (try dsimp only at hSw); (try simp only [rl]); go_simp; (try with_reducible rfl))); (try simp only [rl])
  have hB06 := Box.ext hx6 hB0
  have hB16 := Box.ext hx6 hB1
  have hxw : Ext w w6 := hxb.trans hx6
  have hcc := (Hncells.out.keep (hxw.kept _) (fun b h _ => h)).ins p (Hjn.out.ext hxw)
  obtain ⟨g7, cur, he7, hgb, hBg, hcz, hits⟩ := own_items (Nat.succ_pos x.l.length) (by simp; omega) hown6 hcc
  have hok6 : SlOk (some (⟨g6, 0, none⟩ : Addr)) (x.l.length + 1) cap6 := by
   obtain ⟨a4, c4, he4, h⟩ := owns_form hown6
   simp only [Value.slice.injEq, true_and] at he4
   obtain ⟨rfl, rfl⟩ := he4
   exact h
  simp only [Option.some.injEq, Addr.mk.injEq, and_true] at he7
  obtain rfl := he7
  have Hits := Lib.hid hits
  clear hown6 hgrow6 hat6 hcc hits hBg Sof hB0 hB1 hx6
  have hc0 := hB06.cells; have hf0 := hB06.free; have hl0 := hB06.lt
  (refine wpAnyT_one (i := 8) (by kernel_rfl) (Array.getElem?_eq_getElem (by decide)) fun K hK => ?_); (try simp only [rl])
  go_simp
  (refine hK.out _ _ (fun h => Bool.noConfusion (show true = false from h)) ?_); clear hK K; (try simp only [rl])
  refine wpAnyT_done (by kernel_rfl) ?_ _
  go_upto_region 8 with fail
  refine gen_world (R := fun wy => Box wy w.heap.size #[.int .i64 x.k, .int .i64 x.n, .string x.s, .slice ka x.keys.length kc, .slice (some ⟨g6, 0, none⟩) (x.l.length + 1) cap6] 25 ∧ Box wy (w.heap.size + 1) #[.int .i64 0, .int .i64 0, .string ⟨#[]⟩, .slice none 0 0, .slice none 0 0] 25 ∧ Held (fun b => b ≠ w.heap.size) w6 wy ∧ Ext w wy) ⟨Bxt, Bxt, Hxt, Xt⟩ ?_
  clear hB06 hB16 hc0 hf0 hl0
  rintro wy ⟨hB0, hB1, hhy, hxy⟩
  have hc0 := hB0.cells; have hf0 := hB0.free; have hl0 := hB0.lt
  have hc1 := hB1.cells; have hf1 := hB1.free; have hl1 := hB1.lt
  go_wp2_with fail
  (with_reducible apply bp_ret); (focus (go_light; simp [results, Tryz.results89, go_sem, *]; rfl))
  have e2 : (x.l.take p ++ y :: x.l.drop p).length = x.l.length + 1 := by simp; omega
  refine ⟨ka, kc, some ⟨g6, 0, none⟩, cap6, ?_, (V.in_iff ..).2 ⟨hok1, ?_, Hst.out.keep (Ext.kept Xt _) (fun b h _ => .inl h), .inr ⟨g6, 0, rfl, .inr (by omega), fun i hi => ?_⟩⟩, Xt⟩
  ·simp only [V.val, V.insL, V.keys_mk, V.l_mk, V.k_mk, V.n_mk, V.s_mk, e2]
  ·simp only [V.insL, V.l_mk, e2]; exact hok6
  ·rw [Nat.zero_add]
   have h1 : Held (fun b => b ≠ w.heap.size ∧ b ≠ w.heap.size + 1) w6 wy := hhy.mono (fun b h => h.1)
   exact ((Hits.out i hi).keep' (T := fun b => b ≠ w.heap.size ∧ b ≠ w.heap.size + 1) (by simp; omega) (Held.kept (a := w6) Hxt) (fun b h => by have := hSl.out b h; simp; omega)).mono (fun b h => .inl h)
 ·(try simp only [rl])
  go_simp
  refine hK.out _ _ (fun _ => Sof _ Xt) ?_; clear hK K; (try simp only [rl])
  (refine wpAnyT_one (i := 2) (by kernel_rfl) (Array.getElem?_eq_getElem (by decide)) fun K hK => ?_); (try simp only [rl])
  (try go_simp)
  (refine (Cl.out _ Xt).mono ?_); rintro e w2 ⟨a2, c2, rfl, -, hown2, h2⟩
  (try go_simp)
  have hb2 : Ext wb w2 := Xt
  have hz2 := hb2.size
  have hBn : Box w2 wb.heap.size (y.five kb kd lb ld).toArray 25 := Box.ext h2 Bxt
  have Hl2 : Hid (∀ g, (Value.slice a2 x.l.length c2).ownBlock = some g → wb.heap.size ≤ g ∧ wb.heap.size < g) := fun g hg => by
   have := (hown2.lt g hg).1
   simp at this
   omega
  have Ho2 := Lib.hid (ownsRow_base (b0 := w.heap.size + 2) hown2 (by (try simp); omega))
  clear hown2 h2
  refine hK.out _ _ (fun _ => Sof _ Xt) ?_; clear hK K; (try simp only [rl])
  (refine wpAnyT_one (i := 6) (by kernel_rfl) (Array.getElem?_eq_getElem (by decide)) fun K hK => ?_); (try simp only [rl])
  (try go_simp)
  (refine (insV_any (w.heap.size + 2) x.l.length p _ _ (.slice a2 x.l.length c2) news (y.five kb kd lb ld) _ 25 ?_ ?_ (by omega) hp ?_ ?_ rfl H1c.out (y.five_one kb kd lb ld)).mono ?_)
  (focus (first | (simp; omega) | omega))
  (focus (exact ownsRow_ext Ho2.out Xt))
  (focus (exact Bxt))
  (focus (intro h; have h' := (Hl2.out _ h).2; (first | omega | (simp at h'; omega) | (simp at h'; done))))
  rintro e w6 ⟨g6, cap6, rfl, hown6, hgrow6, hat6⟩
  have hx6 : Ext wb w6 := Ext.grown Xt hgrow6 (fun g hg => (Hl2.out g hg).1)
  (try go_simp)
  refine hK.out _ _ (fun _ => Sof _ hx6) ?_
  clear hK K
  (try simp only [rl])
  (refine wpAnyT_take (i := 7) (v := ?_) [8] (Array.getElem?_eq_getElem (by decide)) (by kernel_rfl) (by kernel_rfl) (by kernel_rfl) (by kernel_rfl) rfl rfl (by kernel_rfl) (fun _ _ _ h => h) (Or.inl ⟨by kernel_rfl, ?_⟩) (Sof _ Xt) ?_); rotate_left; (focus (intro w hSw; (try dsimp only at hSw); (try simp only [rl]); go_simp; (try with_reducible rfl))); (try simp only [rl])
  have hB06 := Box.ext hx6 hB0
  have hB16 := Box.ext hx6 hB1
  have hxw : Ext w w6 := hxb.trans hx6
  have hcc := (Hncells.out.keep (hxw.kept _) (fun b h _ => h)).ins p (Hjn.out.ext hxw)
  obtain ⟨g7, cur, he7, hgb, hBg, hcz, hits⟩ := own_items (Nat.succ_pos x.l.length) (by simp; omega) hown6 hcc
  have hok6 : SlOk (some (⟨g6, 0, none⟩ : Addr)) (x.l.length + 1) cap6 := by
   obtain ⟨a4, c4, he4, h⟩ := owns_form hown6
   simp only [Value.slice.injEq, true_and] at he4
   obtain ⟨rfl, rfl⟩ := he4
   exact h
  simp only [Option.some.injEq, Addr.mk.injEq, and_true] at he7
  obtain rfl := he7
  have Hits := Lib.hid hits
  clear hown6 hgrow6 hat6 hcc hits hBg Sof hB0 hB1 hx6
  have hc0 := hB06.cells; have hf0 := hB06.free; have hl0 := hB06.lt
  (refine wpAnyT_one (i := 8) (by kernel_rfl) (Array.getElem?_eq_getElem (by decide)) fun K hK => ?_); (try simp only [rl])
  go_simp
  (refine hK.out _ _ (fun h => Bool.noConfusion (show true = false from h)) ?_); clear hK K; (try simp only [rl])
  refine wpAnyT_done (by kernel_rfl) ?_ _
  go_upto_region 8 with fail
  refine gen_world (R := fun wy => Box wy w.heap.size #[.int .i64 x.k, .int .i64 x.n, .string x.s, .slice ka x.keys.length kc, .slice (some ⟨g6, 0, none⟩) (x.l.length + 1) cap6] 25 ∧ Box wy (w.heap.size + 1) #[.int .i64 0, .int .i64 0, .string ⟨#[]⟩, .slice none 0 0, .slice none 0 0] 25 ∧ Held (fun b => b ≠ w.heap.size) w6 wy ∧ Ext w wy) ⟨Bxt, Bxt, Hxt, Xt⟩ ?_
  clear hB06 hB16 hc0 hf0 hl0
  rintro wy ⟨hB0, hB1, hhy, hxy⟩
  have hc0 := hB0.cells; have hf0 := hB0.free; have hl0 := hB0.lt
  have hc1 := hB1.cells; have hf1 := hB1.free; have hl1 := hB1.lt
  go_wp2_with fail
  (with_reducible apply bp_ret); (focus (go_light; simp [results, Tryz.results89, go_sem, *]; rfl))
  have e2 : (x.l.take p ++ y :: x.l.drop p).length = x.l.length + 1 := by simp; omega
  refine ⟨ka, kc, some ⟨g6, 0, none⟩, cap6, ?_, (V.in_iff ..).2 ⟨hok1, ?_, Hst.out.keep (Ext.kept Xt _) (fun b h _ => .inl h), .inr ⟨g6, 0, rfl, .inr (by omega), fun i hi => ?_⟩⟩, Xt⟩
  ·simp only [V.val, V.insL, V.keys_mk, V.l_mk, V.k_mk, V.n_mk, V.s_mk, e2]
  ·simp only [V.insL, V.l_mk, e2]; exact hok6
  ·rw [Nat.zero_add]
   have h1 : Held (fun b => b ≠ w.heap.size ∧ b ≠ w.heap.size + 1) w6 wy := hhy.mono (fun b h => h.1)
   exact ((Hits.out i hi).keep' (T := fun b => b ≠ w.heap.size ∧ b ≠ w.heap.size + 1) (by simp; omega) (Held.kept (a := w6) Hxt) (fun b h => by have := hSl.out b h; simp; omega)).mono (fun b h => .inl h)
theorem does_add (y : V) (kb : Option Addr) (kd : Nat) (lb : Option Addr) (ld : Nat) (bx : Nat) (S : Nat → Prop) (w0 : World) (hS : ∀ b, S b → b < w0.heap.size) (hBx : Box w0 bx #[.int .i64 y.k, .int .i64 y.n, .string y.s, .slice kb y.keys.length kd, .slice lb y.l.length ld] 25) (hjn : y.In w0 S kb kd lb ld) (hl : LibAt w0) :
  Does (addF y) S 89 #[.pointer (some ⟨bx, 0, none⟩)] w0 := by
 intro x ka kc la lc name w' hw hso hsz hn hin
 have hSl : ∀ b, S b → b < w'.heap.size := fun b h => Nat.lt_of_lt_of_le (hS b h) hw.size
 show Calls Tryz.prog 89 #[x.val ka kc la lc, .string name, .pointer (some ⟨bx, 0, none⟩)] w' (RetV2 S (addF y x name).1 (.int .i64 (addF y x name).2) w')
 unfold addF
 by_cases h5 : x.k = 5
 ·simp only [if_pos h5]
  exact add1_obj y kb kd lb ld bx x ka kc la lc name S w' hSl (Box.ext hw hBx) (hjn.ext hw) hso hsz hn hin h5
 ·simp only [if_neg h5]
  by_cases h4 : x.k = 4
  ·simp only [if_pos h4]
   cases hi : idxV name x.l.length with
   | none => exact add1_no bx x ka kc la lc name S w' (hl.ext hw) hsz hn hin h5 (.inr (fun i h => by rw [hi] at h; cases h))
   | some p =>
    simp only
    by_cases hp : p ≤ x.l.length
    ·simp only [if_pos hp]
     exact add1_list y kb kd lb ld bx x ka kc la lc name S w' hSl (Box.ext hw hBx) (hjn.ext hw) (hl.ext hw) hsz hn hin h4 p hi hp
    ·simp only [if_neg hp]
     exact add1_no bx x ka kc la lc name S w' (hl.ext hw) hsz hn hin h5 (.inr (fun i h => by rw [hi] at h; cases h; omega))
  ·simp only [if_neg h4]
   exact add1_no bx x ka kc la lc name S w' (hl.ext hw) hsz hn hin h5 (.inl h4)
theorem enters_add (args : Array Value) (w : World) : (callFunc 89 args).run Tryz.prog w = .ok (.enter 89 args) w := enters Tryz.func89 (by kernel_rfl) (by rfl) args w
end Go.Proofs.YtjibdbnpkfghhaaGreatDoor
