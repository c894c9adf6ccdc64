/- Several texts in one. -/
import Derived.Test.YtjibdbnpkfghhaaGreatDoorGet
import Derived.Test.YtjibdbnpkfghhaaGreatDoorPkA
import Derived.Deep.CutBlock
set_option linter.all false
/- The walk of point.at: something is done at the end of names. -/
namespace Go.Proofs.YtjibdbnpkfghhaaGreatDoor
open Go.RowKit
attribute [local go_sem ↓] Go.wp_at_zero Go.wp_at_succ
theorem enters {P : Program} {f : FuncId} {fn : Func} {c : Code} (hf : P.funcs[f]? = some fn) (hn : (fn.name == "runtime.NumGoroutine") = false) (hb : fn.body = some c) (args : Array Value) (w : World) : (callFunc f args).run P w = .ok (.enter f args) w := by
 have h1 : fn.name ≠ "runtime.NumGoroutine" := by simpa using hn
 simp [callFunc, hf, h1, hb]
def Does (F : Doer) (S : Nat → Prop) (fid : FuncId) (caps : Array Value) (w : World) : Prop :=
 ∀ (y : V) (ka : Option Addr) (kc : Nat) (la : Option Addr) (lc : Nat) (name : ByteArray) (w' : World), Ext w w' → y.sound → y.size ≤ 1073741824 → name.size ≤ 8000 → y.In w' S ka kc la lc →
  Calls Tryz.prog fid (#[y.val ka kc la lc, .string name] ++ caps) w' (RetV2 S (F y name).1 (.int .i64 (F y name).2) w')
set_option maxRecDepth 100000 in
set_option maxHeartbeats 4000000 in
theorem at_one (F : Doer) (S : Nat → Prop) (fid : FuncId) (caps : Array Value) (w0 : World) (hS : Hid (∀ b, S b → b < w0.heap.size)) (hE : Hid (∀ args w, (callFunc fid args).run Tryz.prog w = .ok (.enter fid args) w)) (hD : Hid (Does F S fid caps w0)) (name : ByteArray) (x : V) (ka : Option Addr) (kc : Nat) (la : Option Addr) (lc : Nat) (b o c : Nat) (w : World)
  (hn : name.size ≤ 8000) (hso : x.sound) (hsz : x.size ≤ 1073741824) (hw : Ext w0 w) (hin : x.In w S ka kc la lc) (hk : w.cell? ⟨b, o, none⟩ = some (.string name)) :
  Calls Tryz.prog 131 #[x.val ka kc la lc, .slice (some ⟨b, o, none⟩) 1 c, .func (Fn.func fid) #[] caps] w (RetV2 S (F x name).1 (.int .i64 (F x name).2) w) := by
 have hbl := cell_lt hk
 have Hin := Lib.hid hin
 clear hin
 go_enter Tryz.func131, Tryz.ntmps131
 go_upto_region 2 with fail
 refine gen_world (R := fun wx => Box wx w.heap.size #[.int .i64 x.k, .int .i64 x.n, .string x.s, .slice ka x.keys.length kc, .slice la x.l.length lc] 25 ∧ Box wx (w.heap.size + 1) #[.int .i64 0, .int .i64 0, .string ⟨#[]⟩, .slice none 0 0, .slice none 0 0] 25 ∧ Ext w wx) ⟨Bxt, Bxt, Xt⟩ ?_
 rintro wa ⟨hB0, hB1, hxa⟩
 have hka := hxa.cell hk
 have h0a : Ext w0 wa := hw.trans hxa
 clear hk
 have hc0 := hB0.cells; have hf0 := hB0.free; have hl0 := hB0.lt
 have Sof : ∀ w', Ext wa w' → (w'.cell? ⟨w.heap.size, 0, none⟩ = some (.int .i64 x.k) ∧ w'.cell? ⟨w.heap.size, 1, none⟩ = some (.int .i64 x.n) ∧ w'.cell? ⟨w.heap.size, 2, none⟩ = some (.string x.s) ∧ w'.cell? ⟨w.heap.size, 3, none⟩ = some (.slice ka x.keys.length kc) ∧ w'.cell? ⟨w.heap.size, 4, none⟩ = some (.slice la x.l.length lc) ∧ w'.cell? ⟨b, o, none⟩ = some (.string name)) :=
  fun w' e => ⟨e.cell (hc0 0), e.cell (hc0 1), e.cell (hc0 2), e.cell (hc0 3), e.cell (hc0 4), e.cell hka⟩
 have hS1 := Sof wa.drew ((Ext.refl wa).drew)
 refine wp_region_till (S := fun w' => w'.cell? ⟨w.heap.size, 0, none⟩ = some (.int .i64 x.k) ∧ w'.cell? ⟨w.heap.size, 1, none⟩ = some (.int .i64 x.n) ∧ w'.cell? ⟨w.heap.size, 2, none⟩ = some (.string x.s) ∧ w'.cell? ⟨w.heap.size, 3, none⟩ = some (.slice ka x.keys.length kc) ∧ w'.cell? ⟨w.heap.size, 4, none⟩ = some (.slice la x.l.length lc) ∧ w'.cell? ⟨b, o, none⟩ = some (.string name)) (c := 8) (by kernel_rfl) ?_
 (refine wpAnyT_take (i := 0) (v := ?_) [8] (Array.getElem?_eq_getElem (by decide)) (by kernel_rfl) (by kernel_rfl) (by kernel_rfl) (by kernel_rfl) rfl rfl (by kernel_rfl) (fun _ _ _ h => h) (Or.inl ⟨by kernel_rfl, ?_⟩) (by assumption) ?_); rotate_left; (focus (intro w hSw; (try dsimp only at hSw); (try simp only [rl]); go_simp; (try with_reducible rfl))); (try simp only [rl])
 (refine wpAnyT_take (i := 1) (v := ?_) [8] (Array.getElem?_eq_getElem (by decide)) (by kernel_rfl) (by kernel_rfl) (by kernel_rfl) (by kernel_rfl) rfl rfl (by kernel_rfl) (fun _ _ _ h => h) (Or.inl ⟨by kernel_rfl, ?_⟩) (by assumption) ?_); rotate_left; (focus (intro w hSw; (try dsimp only at hSw); (try simp only [rl]); go_simp; (try with_reducible rfl))); (try simp only [rl])
 (refine wpAnyT_take (i := 2) (v := ?_) [8] (Array.getElem?_eq_getElem (by decide)) (by kernel_rfl) (by kernel_rfl) (by kernel_rfl) (by kernel_rfl) rfl rfl (by kernel_rfl) (fun _ _ _ h => h) (Or.inl ⟨by kernel_rfl, ?_⟩) (by assumption) ?_); rotate_left; (focus (intro w hSw; (try dsimp only at hSw); (try simp only [rl]); go_simp; (try with_reducible rfl))); (try simp only [rl])
 (refine wpAnyT_take (i := 3) (v := ?_) [8] (Array.getElem?_eq_getElem (by decide)) (by kernel_rfl) (by kernel_rfl) (by kernel_rfl) (by kernel_rfl) rfl rfl (by kernel_rfl) (fun _ _ _ h => h) (Or.inl ⟨by kernel_rfl, ?_⟩) (by assumption) ?_); rotate_left; (focus (intro w hSw; (try dsimp only at hSw); (try simp only [rl]); go_simp; (try with_reducible rfl))); (try simp only [rl])
 (refine wpAnyT_take (i := 4) (v := ?_) [8] (Array.getElem?_eq_getElem (by decide)) (by kernel_rfl) (by kernel_rfl) (by kernel_rfl) (by kernel_rfl) rfl rfl (by kernel_rfl) (fun _ _ _ h => h) (Or.inl ⟨by kernel_rfl, ?_⟩) (by assumption) ?_); rotate_left; (focus (intro w hSw; (try dsimp only at hSw); (try simp only [rl]); go_simp; (try with_reducible rfl))); (try simp only [rl])
 (refine wpAnyT_one (i := 5) (by kernel_rfl) (Array.getElem?_eq_getElem (by decide)) fun K hK => ?_); (try simp only [rl])
 (try go_simp)
 rw [hE.out, Oper.upon_enter]
 (refine (hD.out x ka kc la lc name _ (h0a.trans Xt) hso hsz hn (Hin.out.ext Xt)).mono ?_); rintro e w1 ⟨ka1, kc1, la1, lc1, rfl, hin1, h1⟩
 (try go_simp)
 refine hK.out _ _ (fun _ => Sof _ Xt) ?_; clear hK K; (try simp only [rl])
 (refine wpAnyT_take (i := 6) (v := ?_) [8] (Array.getElem?_eq_getElem (by decide)) (by kernel_rfl) (by kernel_rfl) (by kernel_rfl) (by kernel_rfl) rfl rfl (by kernel_rfl) (fun _ _ _ h => h) (Or.inl ⟨by kernel_rfl, ?_⟩) (Sof _ Xt) ?_); rotate_left; (focus (intro w hSw; (try dsimp only at hSw); (try simp only [rl]); go_simp; (try with_reducible rfl))); (try simp only [rl])
 (refine wpAnyT_take (i := 7) (v := ?_) [8] (Array.getElem?_eq_getElem (by decide)) (by kernel_rfl) (by kernel_rfl) (by kernel_rfl) (by kernel_rfl) rfl rfl (by kernel_rfl) (fun _ _ _ h => h) (Or.inl ⟨by kernel_rfl, ?_⟩) (Sof _ Xt) ?_); rotate_left; (focus (intro w hSw; (try dsimp only at hSw); (try simp only [rl]); go_simp; (try with_reducible rfl))); (try simp only [rl])
 have hB1w : Box w1 (w.heap.size + 1) #[.int .i64 0, .int .i64 0, .string ⟨#[]⟩, .slice none 0 0, .slice none 0 0] 25 := Box.ext (w := wa) Xt hB1
 have hx1 : Ext w w1 := Xt
 have hl1 := hB1.lt
 have hin2 : (F x name).1.In w1 (fun b => S b ∨ w.heap.size + 2 ≤ b) ka1 kc1 la1 lc1 := hin1.mono (fun b h _ => by rcases h with h | h; exact .inl h; simp at h; exact .inr (by omega))
 have hz := hw.size
 have Hin2 := Lib.hid hin2
 clear hc0 hf0 hin1 hin2 h1 hB1 hB0 Sof hS1 h0a
 have hc1 := hB1w.cells; have hf1 := hB1w.free; have hl1 := hB1w.lt
 (refine wpAnyT_one (i := 8) (by kernel_rfl) (Array.getElem?_eq_getElem (by decide)) fun K hK => ?_); (try simp only [rl])
 go_simp
 (refine hK.out _ _ (fun h => Bool.noConfusion (show true = false from h)) ?_); clear hK K; (try simp only [rl])
 (refine wpAnyT_one (i := 9) (by kernel_rfl) (Array.getElem?_eq_getElem (by decide)) fun K hK => ?_); (try simp only [rl])
 go_simp
 (refine hK.out _ _ (fun h => Bool.noConfusion (show true = false from h)) ?_); clear hK K; (try simp only [rl])
 refine wpAnyT_done (by kernel_rfl) ?_ _
 go_wp2_with fail
 (with_reducible apply bp_ret); (focus (go_light; simp [results, Tryz.results131, go_sem, *]; rfl))
 exact ⟨ka1, kc1, la1, lc1, rfl, Hin2.out.keep (Held.kept (Held.mono (S := fun b => b ≠ w.heap.size + 1) (a := w1) Hxt (fun b h => by rcases h with h | h; (have := hS.out b h; simp; omega); (simp; omega)))) (fun b h _ => by rcases h with h | h; exact .inl h; exact .inr (by omega)), Xt⟩
end Go.Proofs.YtjibdbnpkfghhaaGreatDoor
/- The walk of point.at: more names than one. -/
namespace Go.Proofs.YtjibdbnpkfghhaaGreatDoor
open Go.RowKit
attribute [local go_sem ↓] Go.wp_at_zero Go.wp_at_succ
set_option maxRecDepth 100000 in
set_option maxHeartbeats 4000000 in
theorem at_miss (S : Nat → Prop) (fv : Value) (w0 : World) (name : ByteArray) (x : V) (ka : Option Addr) (kc : Nat) (la : Option Addr) (lc : Nat) (b o n c : Nat) (w : World)
  (hn : name.size ≤ 8000) (hn2 : 2 ≤ n) (hnb : n ≤ 1073741824) (hso : x.sound) (hsz : x.size ≤ 1073741824) (hin : x.In w S ka kc la lc) (hk : w.cell? ⟨b, o, none⟩ = some (.string name)) (hl : LibAt w) (hc : Hid (x.child name = none)) :
  Calls Tryz.prog 131 #[x.val ka kc la lc, .slice (some ⟨b, o, none⟩) n c, fv] w (RetV2 S x (.int .i64 3) w) := by
 have hbl := cell_lt hk
 have Hin := Lib.hid hin
 have hne1 : ((n : Int) == 1) = false := by simp; omega
 have hi0 : (0 : Int) < (n : Int) := by omega
 have hi0n : 0 < n := by omega
 have hi0c : ¬ n = 0 := by omega
 have hi0d : ¬ n ≤ 0 := by omega
 clear hin
 go_enter Tryz.func131, Tryz.ntmps131
 go_upto_region 3 with fail
 refine gen_world (R := fun wx => Box wx w.heap.size #[.int .i64 x.k, .int .i64 x.n, .string x.s, .slice ka x.keys.length kc, .slice la x.l.length lc] 25 ∧ Box wx (w.heap.size + 1) #[.int .i64 0, .int .i64 0, .string ⟨#[]⟩, .slice none 0 0, .slice none 0 0] 25 ∧ Ext w wx) ⟨Bxt, Bxt, Xt⟩ ?_
 rintro wa ⟨hB0, hB1, hxa⟩
 have hka := hxa.cell hk
 clear hk
 have Sof : ∀ w', Ext wa w' → (w'.cell? ⟨w.heap.size, 0, none⟩ = some (.int .i64 x.k) ∧ w'.cell? ⟨w.heap.size, 1, none⟩ = some (.int .i64 x.n) ∧ w'.cell? ⟨w.heap.size, 2, none⟩ = some (.string x.s) ∧ w'.cell? ⟨w.heap.size, 3, none⟩ = some (.slice ka x.keys.length kc) ∧ w'.cell? ⟨w.heap.size, 4, none⟩ = some (.slice la x.l.length lc) ∧ w'.cell? ⟨b, o, none⟩ = some (.string name)) :=
  fun w' e => ⟨e.cell (hB0.cells 0), e.cell (hB0.cells 1), e.cell (hB0.cells 2), e.cell (hB0.cells 3), e.cell (hB0.cells 4), e.cell hka⟩
 go_region_held3 (fun w' => w'.cell? ⟨w.heap.size, 0, none⟩ = some (.int .i64 x.k) ∧ w'.cell? ⟨w.heap.size, 1, none⟩ = some (.int .i64 x.n) ∧ w'.cell? ⟨w.heap.size, 2, none⟩ = some (.string x.s) ∧ w'.cell? ⟨w.heap.size, 3, none⟩ = some (.slice ka x.keys.length kc) ∧ w'.cell? ⟨w.heap.size, 4, none⟩ = some (.slice la x.l.length lc) ∧ w'.cell? ⟨b, o, none⟩ = some (.string name))
  (first | (exact Sof _ ((Ext.refl _).drew)) | (exact Sof _ (Ext.trans ((Ext.refl _).drew) h1)))
  (first | (go_at_call 84; refine (child_any x ka kc la lc _ name _ hso hsz (by omega) (Hin.out.ext Xt) (hl.ext Xt)).mono ?_; rintro e w1 ⟨q, rfl, -, h1⟩))
 all_goals
  rw [hc.out]
  have hB0 := Box.ext h1 (Box.drew hB0)
  have hB1 := Box.ext h1 (Box.drew hB1)
  have hx1 : Ext w w1 := Xt
  clear h1 hxa Sof
  have hc0 := hB0.cells; have hf0 := hB0.free; have hl0 := hB0.lt
  have hc1 := hB1.cells; have hf1 := hB1.free; have hl1 := hB1.lt
  go_wp2_with fail
  (with_reducible apply bp_ret); (focus (go_light; simp [results, Tryz.results131, go_sem, *]; rfl))
  exact ⟨ka, kc, la, lc, rfl, (Hin.out.ext Xt).mono (fun b h _ => .inl h), Xt⟩
end Go.Proofs.YtjibdbnpkfghhaaGreatDoor
/- The walk of point.at: more names than one, the first one's child is there. -/
namespace Go.Proofs.YtjibdbnpkfghhaaGreatDoor
open Go.RowKit
attribute [local go_sem ↓] Go.wp_at_zero Go.wp_at_succ
theorem cloneL_any (l : List V) (a : Option Addr) (n c : Nat) (S : Nat → Prop) (w : World) (hl : l.length = n) (hok : SlOk a n c) (hbig : n ≤ 1073741824) (hr : Rows w S l a) :
  Calls Tryz.prog 93 #[.slice a n c] w fun e w' => ∃ a' c', e = .returned (.slice a' n c') ∧ SlOk a' n c' ∧ (∃ xs, w'.ownsRow w.heap.size 25 5 (.slice a' n c') n xs ∧ CellsOf w' S l xs) ∧ Ext w w' := by
 obtain ⟨news, hnl, hnsrc, hncells⟩ := rows_cells hr
 rw [hl] at hnl hnsrc
 refine (cloneV_row a n c news w hok hbig hnl hnsrc hncells.one).mono ?_
 rintro e w' ⟨a', c', rfl, h1, h2, h3⟩
 exact ⟨a', c', rfl, h1, ⟨news, h2, hncells.keep (h3.kept _) (fun _ h _ => h)⟩, h3⟩
set_option maxRecDepth 100000 in
set_option maxHeartbeats 8000000 in
theorem at_more (S : Nat → Prop) (fv : Value) (w0 : World) (hS : Hid (∀ b, S b → b < w0.heap.size)) (name : ByteArray) (x : V) (ka : Option Addr) (kc : Nat) (la : Option Addr) (lc : Nat) (b o n c : Nat) (w : World) (i : Nat) (r : V) (er : Int)
  (hn : name.size ≤ 8000) (hn2 : 2 ≤ n) (hnc : n ≤ c) (hnb : n ≤ 1073741824) (hcb : c ≤ maxLen) (hso : x.sound) (hsz : x.size ≤ 1073741824) (hw : Ext w0 w) (hin : x.In w S ka kc la lc) (hk : w.cell? ⟨b, o, none⟩ = some (.string name)) (hl : LibAt w) (hc : Hid (x.child name = some i)) (hi : i < x.l.length)
  (rec : Hid (∀ (ka2 : Option Addr) (kc2 : Nat) (la2 : Option Addr) (lc2 : Nat) (w' : World), Ext w w' → (x.l[i]).In w' S ka2 kc2 la2 lc2 → Calls Tryz.prog 131 #[(x.l[i]).val ka2 kc2 la2 lc2, .slice (some ⟨b, o + 1, none⟩) (n - 1) (c - 1), fv] w' (RetV2 S r (.int .i64 er) w'))) :
  Calls Tryz.prog 131 #[x.val ka kc la lc, .slice (some ⟨b, o, none⟩) n c, fv] w (RetV2 S (if er = 0 then x.setL i r else x) (.int .i64 er) w) := by
 have hbl := cell_lt hk
 obtain ⟨b', o', rfl, hS', ka2, kc2, la2, lc2, ⟨d0, d1, d2, d3, d4⟩, hin'⟩ := hin.item hi
 have Hin := Lib.hid hin
 have hne1 : ((n : Int) == 1) = false := by simp; omega
 have hi0 : (0 : Int) < (n : Int) := by omega
 have hi0n : 0 < n := by omega
 have hi0c : ¬ n = 0 := by omega
 have hi0d : ¬ n ≤ 0 := by omega
 clear hin
 go_enter Tryz.func131, Tryz.ntmps131
 go_upto_region 3 with fail
 refine gen_world (R := fun wx => Box wx w.heap.size #[.int .i64 x.k, .int .i64 x.n, .string x.s, .slice ka x.keys.length kc, .slice (some ⟨b', o', none⟩) x.l.length lc] 25 ∧ Box wx (w.heap.size + 1) #[.int .i64 0, .int .i64 0, .string ⟨#[]⟩, .slice none 0 0, .slice none 0 0] 25 ∧ Ext w wx) ⟨Bxt, Bxt, Xt⟩ ?_
 rintro wa ⟨hB0, hB1, hxa⟩
 have hka := hxa.cell hk
 clear hk
 have Sof : ∀ w', Ext wa w' → (w'.cell? ⟨w.heap.size, 0, none⟩ = some (.int .i64 x.k) ∧ w'.cell? ⟨w.heap.size, 1, none⟩ = some (.int .i64 x.n) ∧ w'.cell? ⟨w.heap.size, 2, none⟩ = some (.string x.s) ∧ w'.cell? ⟨w.heap.size, 3, none⟩ = some (.slice ka x.keys.length kc) ∧ w'.cell? ⟨w.heap.size, 4, none⟩ = some (.slice (some ⟨b', o', none⟩) x.l.length lc) ∧ w'.cell? ⟨b, o, none⟩ = some (.string name)) :=
  fun w' e => ⟨e.cell (hB0.cells 0), e.cell (hB0.cells 1), e.cell (hB0.cells 2), e.cell (hB0.cells 3), e.cell (hB0.cells 4), e.cell hka⟩
 go_region_held3 (fun w' => w'.cell? ⟨w.heap.size, 0, none⟩ = some (.int .i64 x.k) ∧ w'.cell? ⟨w.heap.size, 1, none⟩ = some (.int .i64 x.n) ∧ w'.cell? ⟨w.heap.size, 2, none⟩ = some (.string x.s) ∧ w'.cell? ⟨w.heap.size, 3, none⟩ = some (.slice ka x.keys.length kc) ∧ w'.cell? ⟨w.heap.size, 4, none⟩ = some (.slice (some ⟨b', o', none⟩) x.l.length lc) ∧ w'.cell? ⟨b, o, none⟩ = some (.string name))
  (first | (exact Sof _ ((Ext.refl _).drew)) | (exact Sof _ (Ext.trans ((Ext.refl _).drew) h1)))
  (first | (go_at_call 84; refine (child_any x ka kc _ lc _ name _ hso hsz (by omega) (Hin.out.ext Xt) (hl.ext Xt)).mono ?_; rintro e w1 ⟨q, rfl, hq, h1⟩))
 obtain rfl := hq i hc.out
 rw [hc.out]
 have hB0 := Box.ext h1 (Box.drew hB0)
 have hB1 := Box.ext h1 (Box.drew hB1)
 have hx1 : Ext w w1 := Xt
 clear h1 hxa Sof hq
 go_upto_region 6 with fail
 refine gen_world (R := fun wx => Box wx w.heap.size #[.int .i64 x.k, .int .i64 x.n, .string x.s, .slice ka x.keys.length kc, .slice (some ⟨b', o', none⟩) x.l.length lc] 25 ∧ Box wx (w.heap.size + 1) #[.int .i64 0, .int .i64 0, .string ⟨#[]⟩, .slice none 0 0, .slice none 0 0] 25 ∧ Ext w wx) ⟨Bxt, Bxt, Xt⟩ ?_
 clear hB0 hB1 hx1
 rintro wb ⟨hB0, hB1, hxb⟩
 have d0 := hxb.cell d0; have d1 := hxb.cell d1; have d2 := hxb.cell d2; have d3 := hxb.cell d3; have d4 := hxb.cell d4
 have hq0 : (0 : Int) ≤ (q : Int) := by omega
 have hq1 : (q : Int) < (x.l.length : Int) := by omega
 have hn3 : (1 : Int) ≤ (n : Int) := by omega
 have hcne : ¬ c = 1 := by omega
 have hn4 : (n : Int) ≤ (c : Int) := by omega
 have Sof : ∀ w', Ext wb w' → (w'.cell? ⟨w.heap.size, 4, none⟩ = some (.slice (some ⟨b', o', none⟩) x.l.length lc) ∧ w'.cell? ⟨b', o' + q * 5, none⟩ = some (.int .i64 x.l[q].k) ∧ w'.cell? ⟨b', o' + q * 5 + 1, none⟩ = some (.int .i64 x.l[q].n) ∧ w'.cell? ⟨b', o' + q * 5 + 2, none⟩ = some (.string x.l[q].s) ∧ w'.cell? ⟨b', o' + q * 5 + 3, none⟩ = some (.slice ka2 x.l[q].keys.length kc2) ∧ w'.cell? ⟨b', o' + q * 5 + 4, none⟩ = some (.slice la2 x.l[q].l.length lc2)) :=
  fun w' e => ⟨e.cell (hB0.cells 4), e.cell d0, e.cell d1, e.cell d2, e.cell d3, e.cell d4⟩
 refine wp_region_till (S := fun w' => w'.cell? ⟨w.heap.size, 4, none⟩ = some (.slice (some ⟨b', o', none⟩) x.l.length lc) ∧ w'.cell? ⟨b', o' + q * 5, none⟩ = some (.int .i64 x.l[q].k) ∧ w'.cell? ⟨b', o' + q * 5 + 1, none⟩ = some (.int .i64 x.l[q].n) ∧ w'.cell? ⟨b', o' + q * 5 + 2, none⟩ = some (.string x.l[q].s) ∧ w'.cell? ⟨b', o' + q * 5 + 3, none⟩ = some (.slice ka2 x.l[q].keys.length kc2) ∧ w'.cell? ⟨b', o' + q * 5 + 4, none⟩ = some (.slice la2 x.l[q].l.length lc2)) (c := 14) (by kernel_rfl) ?_
 (refine wpAnyT_take (i := 0) (v := ?_) [14] (Array.getElem?_eq_getElem (by decide)) (by kernel_rfl) (by kernel_rfl) (by kernel_rfl) (by kernel_rfl) rfl rfl (by kernel_rfl) (fun _ _ _ h => h) (Or.inl ⟨by kernel_rfl, ?_⟩) (Sof _ Xt) ?_); rotate_left; (focus (intro w hSw; (try dsimp only at hSw); (try simp only [rl]); go_simp; (try with_reducible rfl))); (try simp only [rl])
 (refine wpAnyT_take (i := 1) (v := ?_) [14] (Array.getElem?_eq_getElem (by decide)) (by kernel_rfl) (by kernel_rfl) (by kernel_rfl) (by kernel_rfl) rfl rfl (by kernel_rfl) (fun _ _ _ h => h) (Or.inl ⟨by kernel_rfl, ?_⟩) (Sof _ Xt) ?_); rotate_left; (focus (intro w hSw; (try dsimp only at hSw); (try simp only [rl]); go_simp; (try with_reducible rfl))); (try simp only [rl])
 (refine wpAnyT_take (i := 2) (v := ?_) [14] (Array.getElem?_eq_getElem (by decide)) (by kernel_rfl) (by kernel_rfl) (by kernel_rfl) (by kernel_rfl) rfl rfl (by kernel_rfl) (fun _ _ _ h => h) (Or.inl ⟨by kernel_rfl, ?_⟩) (Sof _ Xt) ?_); rotate_left; (focus (intro w hSw; (try dsimp only at hSw); (try simp only [rl]); go_simp; (try with_reducible rfl))); (try simp only [rl])
 (refine wpAnyT_take (i := 3) (v := ?_) [14] (Array.getElem?_eq_getElem (by decide)) (by kernel_rfl) (by kernel_rfl) (by kernel_rfl) (by kernel_rfl) rfl rfl (by kernel_rfl) (fun _ _ _ h => h) (Or.inl ⟨by kernel_rfl, ?_⟩) (Sof _ Xt) ?_); rotate_left; (focus (intro w hSw; (try dsimp only at hSw); (try simp only [rl]); go_simp; (try with_reducible rfl))); (try simp only [rl])
 (refine wpAnyT_take (i := 4) (v := ?_) [14] (Array.getElem?_eq_getElem (by decide)) (by kernel_rfl) (by kernel_rfl) (by kernel_rfl) (by kernel_rfl) rfl rfl (by kernel_rfl) (fun _ _ _ h => h) (Or.inl ⟨by kernel_rfl, ?_⟩) (Sof _ Xt) ?_); rotate_left; (focus (intro w hSw; (try dsimp only at hSw); (try simp only [rl]); go_simp; (try with_reducible rfl))); (try simp only [rl])
 (refine wpAnyT_take (i := 5) (v := ?_) [14] (Array.getElem?_eq_getElem (by decide)) (by kernel_rfl) (by kernel_rfl) (by kernel_rfl) (by kernel_rfl) rfl rfl (by kernel_rfl) (fun _ _ _ h => h) (Or.inl ⟨by kernel_rfl, ?_⟩) (Sof _ Xt) ?_); rotate_left; (focus (intro w hSw; (try dsimp only at hSw); (try simp only [rl]); go_simp; (try with_reducible rfl))); (try simp only [rl])
 (refine wpAnyT_take (i := 6) (v := ?_) [14] (Array.getElem?_eq_getElem (by decide)) (by kernel_rfl) (by kernel_rfl) (by kernel_rfl) (by kernel_rfl) rfl rfl (by kernel_rfl) (fun _ _ _ h => h) (Or.inl ⟨by kernel_rfl, ?_⟩) (Sof _ Xt) ?_); rotate_left; (focus (intro w hSw; (try dsimp only at hSw); (try simp only [rl]); go_simp; (try with_reducible rfl))); (try simp only [rl])
 (refine wpAnyT_take (i := 7) (v := ?_) [14] (Array.getElem?_eq_getElem (by decide)) (by kernel_rfl) (by kernel_rfl) (by kernel_rfl) (by kernel_rfl) rfl rfl (by kernel_rfl) (fun _ _ _ h => h) (Or.inl ⟨by kernel_rfl, ?_⟩) (Sof _ Xt) ?_); rotate_left; (focus (intro w hSw; (try dsimp only at hSw); (try simp only [rl]); go_simp; (try with_reducible rfl))); (try simp only [rl])
 refine wpAnyT_ready (rs := [8, 12]) (by kernel_rfl) (by simp) ?_
 refine AllReadyT.cons (Array.getElem?_eq_getElem (by decide)) (fun K hK => ?_) (AllReadyT.cons (Array.getElem?_eq_getElem (by decide)) (fun K hK => ?_) AllReadyT.nil)
 ·(try simp only [rl])
  (try go_simp)
  (refine (rec.out ka2 kc2 la2 lc2 _ Xt (hin'.ext Xt)).mono ?_); rintro e w2 ⟨ka3, kc3, la3, lc3, rfl, hin3, h2⟩
  (try go_simp)
  have hb2 : Ext wb w2 := Xt
  have hz2 := hb2.size
  clear h2
  refine hK.out _ _ (fun _ => Sof _ Xt) ?_; clear hK K; (try simp only [rl])
  (refine wpAnyT_take (i := 9) (v := ?_) [14] (Array.getElem?_eq_getElem (by decide)) (by kernel_rfl) (by kernel_rfl) (by kernel_rfl) (by kernel_rfl) rfl rfl (by kernel_rfl) (fun _ _ _ h => h) (Or.inl ⟨by kernel_rfl, ?_⟩) (Sof _ Xt) ?_); rotate_left; (focus (intro w hSw; (try dsimp only at hSw); (try simp only [rl]); go_simp; (try with_reducible rfl))); (try simp only [rl])
  (refine wpAnyT_take (i := 10) (v := ?_) [14] (Array.getElem?_eq_getElem (by decide)) (by kernel_rfl) (by kernel_rfl) (by kernel_rfl) (by kernel_rfl) rfl rfl (by kernel_rfl) (fun _ _ _ h => h) (Or.inl ⟨by kernel_rfl, ?_⟩) (Sof _ Xt) ?_); rotate_left; (focus (intro w hSw; (try dsimp only at hSw); (try simp only [rl]); go_simp; (try with_reducible rfl))); (try simp only [rl])
  (refine wpAnyT_take (i := 11) (v := ?_) [14] (Array.getElem?_eq_getElem (by decide)) (by kernel_rfl) (by kernel_rfl) (by kernel_rfl) (by kernel_rfl) rfl rfl (by kernel_rfl) (fun _ _ _ h => h) (Or.inl ⟨by kernel_rfl, ?_⟩) (Sof _ Xt) ?_); rotate_left; (focus (intro w hSw; (try dsimp only at hSw); (try simp only [rl]); go_simp; (try with_reducible rfl))); (try simp only [rl])
  (refine wpAnyT_one (i := 12) (by kernel_rfl) (Array.getElem?_eq_getElem (by decide)) fun K hK => ?_); (try simp only [rl])
  go_simp
  refine hK.out _ _ (fun _ => Sof _ Xt) ?_; clear hK K; (try simp only [rl])
  (refine wpAnyT_one (i := 13) (by kernel_rfl) (Array.getElem?_eq_getElem (by decide)) fun K hK => ?_); (try simp only [rl])
  go_simp
  refine hK.out _ _ (fun _ => Sof _ Xt) ?_; clear hK K; (try simp only [rl])
  (refine wpAnyT_one (i := 14) (by kernel_rfl) (Array.getElem?_eq_getElem (by decide)) fun K hK => ?_); (try simp only [rl])
  go_simp
  (refine hK.out _ _ (fun h => Bool.noConfusion (show true = false from h)) ?_); clear hK K; (try simp only [rl])
  refine wpAnyT_done (by kernel_rfl) ?_ _
  have hB0w : Box w2 w.heap.size #[.int .i64 x.k, .int .i64 x.n, .string x.s, .slice ka x.keys.length kc, .slice (some ⟨b', o', none⟩) x.l.length lc] 25 := Box.ext (w := wb) hb2 hB0
  have hB1w : Box w2 (w.heap.size + 1) #[.int .i64 0, .int .i64 0, .string ⟨#[]⟩, .slice none 0 0, .slice none 0 0] 25 := Box.ext (w := wb) hb2 hB1
  have hl1 := hB1.lt
  have hwz := hw.size
  have hSl : Hid (∀ b, S b → b < w.heap.size) := fun b h => Nat.lt_of_lt_of_le (hS.out b h) hwz
  have Hin3 : Hid (r.In w2 (fun b => (S b ∨ w.heap.size + 2 ≤ b) ∧ b ≠ w2.heap.size) ka3 kc3 la3 lc3) := hin3.mono (fun b h hlt => by
   rcases h with h | h
   ·have := hSl.out b h; exact ⟨.inl h, by omega⟩
   ·simp at h; exact ⟨.inr (by omega), by omega⟩)
  have hx2 : Ext w w2 := Xt
  clear hin3 Sof hB0 hB1
  go_upto_region 7 with fail
  refine gen_world (R := fun wx => Box wx w.heap.size #[.int .i64 x.k, .int .i64 x.n, .string x.s, .slice ka x.keys.length kc, .slice (some ⟨b', o', none⟩) x.l.length lc] 25 ∧ Box wx (w.heap.size + 1) #[.int .i64 0, .int .i64 0, .string ⟨#[]⟩, .slice none 0 0, .slice none 0 0] 25 ∧ Box wx w2.heap.size #[.int .i64 r.k, .int .i64 r.n, .string r.s, .slice ka3 r.keys.length kc3, .slice la3 r.l.length lc3] 25 ∧ r.In wx (fun b => S b ∨ w.heap.size + 2 ≤ b) ka3 kc3 la3 lc3 ∧ Ext w wx)
   ⟨Bxt, Bxt, Bxt, Hin3.out.keep (Held.kept (Held.mono (S := fun b => b ≠ w2.heap.size) (a := w2) Hxt (fun b h => h.2))) (fun _ h _ => h.1), Xt⟩ ?_
  clear hB0w hB1w Hin3
  rintro wd ⟨hB0, hB1, hBy, hjn, hxd⟩
  have Hjn := Lib.hid hjn
  clear hjn hx2 hb2 rec
  by_cases her : er = 0
  ·subst her
   simp only [if_true]
   obtain ⟨hok1, hok2, hst, hrw⟩ := (V.in_iff ..).1 Hin.out
   have hll := x.len_l
   have Cl := Lib.hid (fun w' (e : Ext w w') => cloneL_any x.l _ _ _ S w' rfl hok2 (by omega) (hrw.ext e))
   have Hst := Lib.hid hst
   clear hst hrw
   go_upto_region 9 with fail
   refine gen_world (R := fun wx => Box wx w.heap.size #[.int .i64 x.k, .int .i64 x.n, .string x.s, .slice ka x.keys.length kc, .slice (some ⟨b', o', none⟩) x.l.length lc] 25 ∧ Box wx (w.heap.size + 1) #[.int .i64 0, .int .i64 0, .string ⟨#[]⟩, .slice none 0 0, .slice none 0 0] 25 ∧ Box wx w2.heap.size #[.int .i64 r.k, .int .i64 r.n, .string r.s, .slice ka3 r.keys.length kc3, .slice la3 r.l.length lc3] 25 ∧ (r).In wx (fun b => S b ∨ w.heap.size + 2 ≤ b) ka3 kc3 la3 lc3 ∧ Ext w wx) ⟨Bxt, Bxt, Bxt, Hjn.out.ext Xt, Xt⟩ ?_
   clear hB0 hB1 hBy
   rintro wc ⟨hB0, hB1, hBy, hjn, hxc⟩
   have hc0 := hB0.cells; have hf0 := hB0.free; have hl0 := hB0.lt
   go_upto_region 10 with (go_at_call 93; refine (Cl.out _ Xt).mono ?_; rintro e w3 ⟨a3, c3, rfl, hok3, ⟨xs3, hown3, hcs3⟩, h3⟩; have hB0w := Box.ext h3 hB0; have hc0w := hB0w.cells; have hf0w := hB0w.free; have hl0w := hB0w.lt)
   obtain ⟨g, cur, rfl, hgb, hBg, hcz, hits⟩ := own_items (by omega) rfl hown3 hcs3
   have hjn3 : (r).In w3 (fun b => (S b ∨ w.heap.size + 2 ≤ b) ∧ b < wc.heap.size) ka3 kc3 la3 lc3 := (hjn.mono (fun b h hlt => ⟨h, hlt⟩)).ext h3
   have hl1 := hB1.lt
   have hly := hBy.lt
   have hB1w := Box.ext h3 hB1
   have hByw := Box.ext h3 hBy
   have hx3 : Ext w w3 := Xt
   have Hits := Lib.hid hits
   have Hjn3 := Lib.hid hjn3
   clear hits hown3 hcs3 hjn hjn3 hB0 hB1 hBy h3 hc0 hf0 hl0
   refine gen_world (R := fun wx => Box wx w.heap.size #[.int .i64 x.k, .int .i64 x.n, .string x.s, .slice ka x.keys.length kc, .slice (some ⟨g, 0, none⟩) x.l.length c3] 25 ∧ Box wx (w.heap.size + 1) #[.int .i64 0, .int .i64 0, .string ⟨#[]⟩, .slice none 0 0, .slice none 0 0] 25 ∧ Box wx w2.heap.size #[.int .i64 r.k, .int .i64 r.n, .string r.s, .slice ka3 r.keys.length kc3, .slice la3 r.l.length lc3] 25 ∧ Box wx g cur 25 ∧ Held (fun b => b ≠ w.heap.size) w3 wx ∧ Ext w wx) ⟨Bxt, Bxt, Bxt, Bxt, Hxt, Xt⟩ ?_
   clear hB0w hB1w hByw hBg hc0w hf0w hl0w
   rintro wx ⟨hB0, hB1, hBy, hBg, hheld, hxx⟩
   have hzc : w.heap.size + 2 ≤ wc.heap.size := hl1
   have Hits2 : Hid (∀ i (h : i < x.l.length), V.Item wx (fun b => (S b ∨ w.heap.size + 2 ≤ b) ∧ b < wc.heap.size) g (i * 5) x.l[i]) := fun i h => ((Hits.out i h).keep' (T := fun b => b ≠ w.heap.size) (by simp; omega) hheld.kept (fun b h => by have := hSl.out b h; simp; omega)).mono (fun b h => ⟨.inl h, by have := hSl.out b h; omega⟩)
   have Hjn4 : Hid ((r).In wx (fun b => (S b ∨ w.heap.size + 2 ≤ b) ∧ b < wc.heap.size) ka3 kc3 la3 lc3) := Hjn3.out.keep (Held.kept (hheld.mono (fun b h => by rcases h.1 with h | h; (have := hSl.out b h; simp; omega); (simp; omega)))) (fun _ h _ => h)
   have hc0 := hB0.cells; have hf0 := hB0.free; have hl0 := hB0.lt
   have hcy := hBy.cells; have hfy := hBy.free; have hly := hBy.lt
   have hcg := hBg.cells; have hfg := hBg.free; have hlg := hBg.lt
   have hq0 : (0 : Int) ≤ (q : Int) := by omega
   have hq1 : (q : Int) < (x.l.length : Int) := by omega
   have Hth : Hid (wx.there g (q * 5) 5) := there5 hBg (by omega)
   clear hcg hfg
   go_upto_region 11 with (refine wpList_store_mid rfl 25 _ _ rfl g (q * 5) #[.int .i64 r.k, .int .i64 r.n, .string r.s, .slice ka3 r.keys.length kc3, .slice la3 r.l.length lc3] (by rfl) (by rfl) (by exact Hth.out) Tryz.sizeV (all_oneCell_toArray (V.five_one (r) ka3 kc3 la3 lc3)) ?_)
   have hItems : ∀ i (h : i < (x.l.set q (r)).length), V.Item (wx.setCells g (q * 5) (V.five (r) ka3 kc3 la3 lc3)) (fun b => (S b ∨ w.heap.size + 2 ≤ b) ∧ b < wc.heap.size) g (i * 5) (x.l.set q (r))[i] :=
    items_set hBg Hits2.out hi hcz Hjn4.out (hBg.set5 _ _ _ _ _ _) (Held.kept (Held.set5 (Held.refl _ _) (by simp; omega) _ _))
   refine gen_world (R := fun wy => Box wy w.heap.size #[.int .i64 x.k, .int .i64 x.n, .string x.s, .slice ka x.keys.length kc, .slice (some ⟨g, 0, none⟩) x.l.length c3] 25 ∧ Box wy (w.heap.size + 1) #[.int .i64 0, .int .i64 0, .string ⟨#[]⟩, .slice none 0 0, .slice none 0 0] 25 ∧ (∀ i (h : i < (x.l.set q (r)).length), V.Item wy (fun b => (S b ∨ w.heap.size + 2 ≤ b) ∧ b < wc.heap.size) g (i * 5) (x.l.set q (r))[i]) ∧ Ext w wy)
    ⟨hB0.other5 (by omega) _ _, hB1.other5 (by omega) _ _, hItems, hxx.set5 (by omega) _ _⟩ ?_
   clear hB0 hB1 hBy hBg hc0 hf0 hl0 hcy hfy hly hlg hItems hheld hxx Hth Hits Hits2
   rintro wy ⟨hB0, hB1, hits, hxy⟩
   have hc0 := hB0.cells; have hf0 := hB0.free; have hl0 := hB0.lt
   have hc1 := hB1.cells; have hf1 := hB1.free; have hl1 := hB1.lt
   have Hits := Lib.hid hits
   clear hits
   go_wp2_with fail
   (with_reducible apply bp_ret); (focus (go_light; simp [results, Tryz.results131, go_sem, *]; rfl))
   skip; skip
   refine ⟨ka, kc, some ⟨g, 0, none⟩, c3, ?_, (V.in_iff ..).2 ⟨hok1, ?_, Hst.out.keep (Ext.kept Xt _) (fun b h _ => .inl h), .inr ⟨g, 0, rfl, .inr (by omega), fun i hi => ?_⟩⟩, Xt⟩
   ·simp [V.setL, V.val]
   ·simpa [V.setL] using hok3
   ·rw [Nat.zero_add]
    exact ((Hits.out i hi).keep' (T := fun b => b ≠ w.heap.size + 1) (by simp; omega) (Held.kept (a := wy) Hxt) (fun b h => by rcases h.1 with h | h; (have := hSl.out b h; simp; omega); (simp; omega))).mono (fun b h => by rcases h.1 with h | h; exact .inl h; exact .inr (by omega))
  ·have he : (er != 0) = true := by simpa using her
   simp only [if_neg her]
   have hc0 := hB0.cells; have hf0 := hB0.free; have hl0 := hB0.lt
   have hc1 := hB1.cells; have hf1 := hB1.free; have hl1 := hB1.lt
   go_wp2_with fail
   (with_reducible apply bp_ret); (focus (go_light; simp [results, Tryz.results131, go_sem, *]; rfl))
   exact ⟨ka, kc, _, lc, rfl, (Hin.out.ext Xt).mono (fun b h _ => .inl h), Xt⟩
 ·(try simp only [rl])
  go_simp
  refine hK.out _ _ (fun _ => Sof _ Xt) ?_; clear hK K; (try simp only [rl])
  (refine wpAnyT_one (i := 8) (by kernel_rfl) (Array.getElem?_eq_getElem (by decide)) fun K hK => ?_); (try simp only [rl])
  (try go_simp)
  (refine (rec.out ka2 kc2 la2 lc2 _ Xt (hin'.ext Xt)).mono ?_); rintro e w2 ⟨ka3, kc3, la3, lc3, rfl, hin3, h2⟩
  (try go_simp)
  have hb2 : Ext wb w2 := Xt
  have hz2 := hb2.size
  have hB10 : Box w2 wb.heap.size #[.int .i64 0, .int .i64 0, .string ⟨#[]⟩, .slice none 0 0, .slice none 0 0] 25 := Box.ext h2 (Box.new _ _ _ (by simp))
  clear h2
  have hc10 := hB10.cells; have hf10 := hB10.free; have hl10 := hB10.lt
  refine hK.out _ _ (fun _ => Sof _ Xt) ?_; clear hK K; (try simp only [rl])
  (refine wpAnyT_take (i := 9) (v := ?_) [14] (Array.getElem?_eq_getElem (by decide)) (by kernel_rfl) (by kernel_rfl) (by kernel_rfl) (by kernel_rfl) rfl rfl (by kernel_rfl) (fun _ _ _ h => h) (Or.inl ⟨by kernel_rfl, ?_⟩) (Sof _ Xt) ?_); rotate_left; (focus (intro w hSw; (try dsimp only at hSw); (try simp only [rl]); go_simp; (try with_reducible rfl))); (try simp only [rl])
  (refine wpAnyT_take (i := 10) (v := ?_) [14] (Array.getElem?_eq_getElem (by decide)) (by kernel_rfl) (by kernel_rfl) (by kernel_rfl) (by kernel_rfl) rfl rfl (by kernel_rfl) (fun _ _ _ h => h) (Or.inl ⟨by kernel_rfl, ?_⟩) (Sof _ Xt) ?_); rotate_left; (focus (intro w hSw; (try dsimp only at hSw); (try simp only [rl]); go_simp; (try with_reducible rfl))); (try simp only [rl])
  (refine wpAnyT_take (i := 11) (v := ?_) [14] (Array.getElem?_eq_getElem (by decide)) (by kernel_rfl) (by kernel_rfl) (by kernel_rfl) (by kernel_rfl) rfl rfl (by kernel_rfl) (fun _ _ _ h => h) (Or.inl ⟨by kernel_rfl, ?_⟩) (Sof _ Xt) ?_); rotate_left; (focus (intro w hSw; (try dsimp only at hSw); (try simp only [rl]); go_simp; (try with_reducible rfl))); (try simp only [rl])
  (refine wpAnyT_one (i := 13) (by kernel_rfl) (Array.getElem?_eq_getElem (by decide)) fun K hK => ?_); (try simp only [rl])
  go_simp
  refine hK.out _ _ (fun _ => Sof _ Xt) ?_; clear hK K; (try simp only [rl])
  (refine wpAnyT_one (i := 14) (by kernel_rfl) (Array.getElem?_eq_getElem (by decide)) fun K hK => ?_); (try simp only [rl])
  go_simp
  (refine hK.out _ _ (fun h => Bool.noConfusion (show true = false from h)) ?_); clear hK K; (try simp only [rl])
  refine wpAnyT_done (by kernel_rfl) ?_ _
  have hB0w : Box w2 w.heap.size #[.int .i64 x.k, .int .i64 x.n, .string x.s, .slice ka x.keys.length kc, .slice (some ⟨b', o', none⟩) x.l.length lc] 25 := Box.ext (w := wb) hb2 hB0
  have hB1w : Box w2 (w.heap.size + 1) #[.int .i64 0, .int .i64 0, .string ⟨#[]⟩, .slice none 0 0, .slice none 0 0] 25 := Box.ext (w := wb) hb2 hB1
  have hl1 := hB1.lt
  have hwz := hw.size
  have hSl : Hid (∀ b, S b → b < w.heap.size) := fun b h => Nat.lt_of_lt_of_le (hS.out b h) hwz
  have Hin3 : Hid (r.In w2 (fun b => (S b ∨ w.heap.size + 2 ≤ b) ∧ b ≠ wb.heap.size) ka3 kc3 la3 lc3) := hin3.mono (fun b h hlt => by
   rcases h with h | h
   ·have := hSl.out b h; exact ⟨.inl h, by omega⟩
   ·simp at h; exact ⟨.inr (by omega), by omega⟩)
  have hx2 : Ext w w2 := Xt
  clear hin3 Sof hB0 hB1
  go_upto_region 7 with fail
  refine gen_world (R := fun wx => Box wx w.heap.size #[.int .i64 x.k, .int .i64 x.n, .string x.s, .slice ka x.keys.length kc, .slice (some ⟨b', o', none⟩) x.l.length lc] 25 ∧ Box wx (w.heap.size + 1) #[.int .i64 0, .int .i64 0, .string ⟨#[]⟩, .slice none 0 0, .slice none 0 0] 25 ∧ Box wx wb.heap.size #[.int .i64 r.k, .int .i64 r.n, .string r.s, .slice ka3 r.keys.length kc3, .slice la3 r.l.length lc3] 25 ∧ r.In wx (fun b => S b ∨ w.heap.size + 2 ≤ b) ka3 kc3 la3 lc3 ∧ Ext w wx)
   ⟨Bxt, Bxt, Bxt, Hin3.out.keep (Held.kept (Held.mono (S := fun b => b ≠ wb.heap.size) (a := w2) Hxt (fun b h => h.2))) (fun _ h _ => h.1), Xt⟩ ?_
  clear hB0w hB1w Hin3
  rintro wd ⟨hB0, hB1, hBy, hjn, hxd⟩
  have Hjn := Lib.hid hjn
  clear hjn hx2 hb2 rec
  by_cases her : er = 0
  ·subst her
   simp only [if_true]
   obtain ⟨hok1, hok2, hst, hrw⟩ := (V.in_iff ..).1 Hin.out
   have hll := x.len_l
   have Cl := Lib.hid (fun w' (e : Ext w w') => cloneL_any x.l _ _ _ S w' rfl hok2 (by omega) (hrw.ext e))
   have Hst := Lib.hid hst
   clear hst hrw
   go_upto_region 9 with fail
   refine gen_world (R := fun wx => Box wx w.heap.size #[.int .i64 x.k, .int .i64 x.n, .string x.s, .slice ka x.keys.length kc, .slice (some ⟨b', o', none⟩) x.l.length lc] 25 ∧ Box wx (w.heap.size + 1) #[.int .i64 0, .int .i64 0, .string ⟨#[]⟩, .slice none 0 0, .slice none 0 0] 25 ∧ Box wx wb.heap.size #[.int .i64 r.k, .int .i64 r.n, .string r.s, .slice ka3 r.keys.length kc3, .slice la3 r.l.length lc3] 25 ∧ (r).In wx (fun b => S b ∨ w.heap.size + 2 ≤ b) ka3 kc3 la3 lc3 ∧ Ext w wx) ⟨Bxt, Bxt, Bxt, Hjn.out.ext Xt, Xt⟩ ?_
   clear hB0 hB1 hBy
   rintro wc ⟨hB0, hB1, hBy, hjn, hxc⟩
   have hc0 := hB0.cells; have hf0 := hB0.free; have hl0 := hB0.lt
   go_upto_region 10 with (go_at_call 93; refine (Cl.out _ Xt).mono ?_; rintro e w3 ⟨a3, c3, rfl, hok3, ⟨xs3, hown3, hcs3⟩, h3⟩; have hB0w := Box.ext h3 hB0; have hc0w := hB0w.cells; have hf0w := hB0w.free; have hl0w := hB0w.lt)
   obtain ⟨g, cur, rfl, hgb, hBg, hcz, hits⟩ := own_items (by omega) rfl hown3 hcs3
   have hjn3 : (r).In w3 (fun b => (S b ∨ w.heap.size + 2 ≤ b) ∧ b < wc.heap.size) ka3 kc3 la3 lc3 := (hjn.mono (fun b h hlt => ⟨h, hlt⟩)).ext h3
   have hl1 := hB1.lt
   have hly := hBy.lt
   have hB1w := Box.ext h3 hB1
   have hByw := Box.ext h3 hBy
   have hx3 : Ext w w3 := Xt
   have Hits := Lib.hid hits
   have Hjn3 := Lib.hid hjn3
   clear hits hown3 hcs3 hjn hjn3 hB0 hB1 hBy h3 hc0 hf0 hl0
   refine gen_world (R := fun wx => Box wx w.heap.size #[.int .i64 x.k, .int .i64 x.n, .string x.s, .slice ka x.keys.length kc, .slice (some ⟨g, 0, none⟩) x.l.length c3] 25 ∧ Box wx (w.heap.size + 1) #[.int .i64 0, .int .i64 0, .string ⟨#[]⟩, .slice none 0 0, .slice none 0 0] 25 ∧ Box wx wb.heap.size #[.int .i64 r.k, .int .i64 r.n, .string r.s, .slice ka3 r.keys.length kc3, .slice la3 r.l.length lc3] 25 ∧ Box wx g cur 25 ∧ Held (fun b => b ≠ w.heap.size) w3 wx ∧ Ext w wx) ⟨Bxt, Bxt, Bxt, Bxt, Hxt, Xt⟩ ?_
   clear hB0w hB1w hByw hBg hc0w hf0w hl0w
   rintro wx ⟨hB0, hB1, hBy, hBg, hheld, hxx⟩
   have hzc : w.heap.size + 2 ≤ wc.heap.size := hl1
   have Hits2 : Hid (∀ i (h : i < x.l.length), V.Item wx (fun b => (S b ∨ w.heap.size + 2 ≤ b) ∧ b < wc.heap.size) g (i * 5) x.l[i]) := fun i h => ((Hits.out i h).keep' (T := fun b => b ≠ w.heap.size) (by simp; omega) hheld.kept (fun b h => by have := hSl.out b h; simp; omega)).mono (fun b h => ⟨.inl h, by have := hSl.out b h; omega⟩)
   have Hjn4 : Hid ((r).In wx (fun b => (S b ∨ w.heap.size + 2 ≤ b) ∧ b < wc.heap.size) ka3 kc3 la3 lc3) := Hjn3.out.keep (Held.kept (hheld.mono (fun b h => by rcases h.1 with h | h; (have := hSl.out b h; simp; omega); (simp; omega)))) (fun _ h _ => h)
   have hc0 := hB0.cells; have hf0 := hB0.free; have hl0 := hB0.lt
   have hcy := hBy.cells; have hfy := hBy.free; have hly := hBy.lt
   have hcg := hBg.cells; have hfg := hBg.free; have hlg := hBg.lt
   have hq0 : (0 : Int) ≤ (q : Int) := by omega
   have hq1 : (q : Int) < (x.l.length : Int) := by omega
   have Hth : Hid (wx.there g (q * 5) 5) := there5 hBg (by omega)
   clear hcg hfg
   go_upto_region 11 with (refine wpList_store_mid rfl 25 _ _ rfl g (q * 5) #[.int .i64 r.k, .int .i64 r.n, .string r.s, .slice ka3 r.keys.length kc3, .slice la3 r.l.length lc3] (by rfl) (by rfl) (by exact Hth.out) Tryz.sizeV (all_oneCell_toArray (V.five_one (r) ka3 kc3 la3 lc3)) ?_)
   have hItems : ∀ i (h : i < (x.l.set q (r)).length), V.Item (wx.setCells g (q * 5) (V.five (r) ka3 kc3 la3 lc3)) (fun b => (S b ∨ w.heap.size + 2 ≤ b) ∧ b < wc.heap.size) g (i * 5) (x.l.set q (r))[i] :=
    items_set hBg Hits2.out hi hcz Hjn4.out (hBg.set5 _ _ _ _ _ _) (Held.kept (Held.set5 (Held.refl _ _) (by simp; omega) _ _))
   refine gen_world (R := fun wy => Box wy w.heap.size #[.int .i64 x.k, .int .i64 x.n, .string x.s, .slice ka x.keys.length kc, .slice (some ⟨g, 0, none⟩) x.l.length c3] 25 ∧ Box wy (w.heap.size + 1) #[.int .i64 0, .int .i64 0, .string ⟨#[]⟩, .slice none 0 0, .slice none 0 0] 25 ∧ (∀ i (h : i < (x.l.set q (r)).length), V.Item wy (fun b => (S b ∨ w.heap.size + 2 ≤ b) ∧ b < wc.heap.size) g (i * 5) (x.l.set q (r))[i]) ∧ Ext w wy)
    ⟨hB0.other5 (by omega) _ _, hB1.other5 (by omega) _ _, hItems, hxx.set5 (by omega) _ _⟩ ?_
   clear hB0 hB1 hBy hBg hc0 hf0 hl0 hcy hfy hly hlg hItems hheld hxx Hth Hits Hits2
   rintro wy ⟨hB0, hB1, hits, hxy⟩
   have hc0 := hB0.cells; have hf0 := hB0.free; have hl0 := hB0.lt
   have hc1 := hB1.cells; have hf1 := hB1.free; have hl1 := hB1.lt
   have Hits := Lib.hid hits
   clear hits
   go_wp2_with fail
   (with_reducible apply bp_ret); (focus (go_light; simp [results, Tryz.results131, go_sem, *]; rfl))
   skip; skip
   refine ⟨ka, kc, some ⟨g, 0, none⟩, c3, ?_, (V.in_iff ..).2 ⟨hok1, ?_, Hst.out.keep (Ext.kept Xt _) (fun b h _ => .inl h), .inr ⟨g, 0, rfl, .inr (by omega), fun i hi => ?_⟩⟩, Xt⟩
   ·simp [V.setL, V.val]
   ·simpa [V.setL] using hok3
   ·rw [Nat.zero_add]
    exact ((Hits.out i hi).keep' (T := fun b => b ≠ w.heap.size + 1) (by simp; omega) (Held.kept (a := wy) Hxt) (fun b h => by rcases h.1 with h | h; (have := hSl.out b h; simp; omega); (simp; omega))).mono (fun b h => by rcases h.1 with h | h; exact .inl h; exact .inr (by omega))
  ·have he : (er != 0) = true := by simpa using her
   simp only [if_neg her]
   have hc0 := hB0.cells; have hf0 := hB0.free; have hl0 := hB0.lt
   have hc1 := hB1.cells; have hf1 := hB1.free; have hl1 := hB1.lt
   go_wp2_with fail
   (with_reducible apply bp_ret); (focus (go_light; simp [results, Tryz.results131, go_sem, *]; rfl))
   exact ⟨ka, kc, _, lc, rfl, (Hin.out.ext Xt).mono (fun b h _ => .inl h), Xt⟩
end Go.Proofs.YtjibdbnpkfghhaaGreatDoor
/- The walk of point.at, whole. -/
namespace Go.Proofs.YtjibdbnpkfghhaaGreatDoor
open Go.RowKit
theorem at_any (F : Doer) (S : Nat → Prop) (fid : FuncId) (caps : Array Value) (w0 : World) (hS : Hid (∀ b, S b → b < w0.heap.size)) (hE : Hid (∀ args w, (callFunc fid args).run Tryz.prog w = .ok (.enter fid args) w)) (hD : Hid (Does F S fid caps w0)) (hl : LibAt w0) :
  ∀ (ks : List ByteArray) (x : V) (ka : Option Addr) (kc : Nat) (la : Option Addr) (lc : Nat) (a : Option Addr) (n c : Nat) (T : Nat → Prop) (w : World), ks ≠ [] → ks.length = n → n ≤ 1073741824 → n ≤ c → c ≤ maxLen → (∀ k ∈ ks, k.size ≤ 8000) → x.sound → x.size ≤ 1073741824 → Ext w0 w → x.In w S ka kc la lc → StrsIn w T a ks →
   Calls Tryz.prog 131 #[x.val ka kc la lc, .slice a n c, .func (Fn.func fid) #[] caps] w (RetV2 S (atV F ks x).1 (.int .i64 (atV F ks x).2) w) := by
 intro ks
 induction ks with
 | nil => intro x _ _ _ _ _ _ _ _ _ h; exact absurd rfl h
 | cons k ks ih =>
  intro x ka kc la lc a n c T w _ hn hnb hnc hcb hks hso hsz hw hin hst
  obtain ⟨b, o, rfl, -, hc⟩ := hst.resolve_left (by simp)
  have h0 := hc 0 (by simp)
  simp only [Nat.add_zero, List.getElem_cons_zero] at h0
  cases ks with
  | nil =>
   simp only [List.length_singleton] at hn
   subst hn
   rw [atV_one]
   exact at_one F S fid caps w0 hS hE hD k x ka kc la lc b o c w (hks k (by simp)) hso hsz hw hin h0
  | cons k2 r =>
   have hn2 : 2 ≤ n := by simp at hn; omega
   cases hch : x.child k with
   | none =>
    rw [atV_none hch]
    exact at_miss S _ w0 k x ka kc la lc b o n c w (hks k (by simp)) hn2 hnb hso hsz hin h0 (hl.ext hw) hch
   | some i =>
    have hi := child_lt hso hch
    have he : atV F (k :: k2 :: r) x = (if (atV F (k2 :: r) x.l[i]).2 = 0 then x.setL i (atV F (k2 :: r) x.l[i]).1 else x, (atV F (k2 :: r) x.l[i]).2) := by
     rw [atV_some hch hi]
     split
     ·rename_i h; rw [h]
     ·rfl
    rw [he]
    refine at_more S _ w0 hS k x ka kc la lc b o n c w i _ _ (hks k (by simp)) hn2 hnc hnb hcb hso hsz hw hin h0 (hl.ext hw) hch hi ?_
    intro ka2 kc2 la2 lc2 w' hw' hin'
    have hsi := V.size_item hi
    refine ih x.l[i] ka2 kc2 la2 lc2 (some ⟨b, o + 1, none⟩) (n - 1) (c - 1) (fun _ => True) w' (by simp) (by simp at hn ⊢; omega) (by omega) (by omega) (by omega) (fun k hk => hks k (by simp [List.mem_cons.1 hk])) (hso.item (List.getElem_mem hi)) (by omega) (hw.trans hw') hin' ?_
    refine .inr ⟨b, o + 1, rfl, trivial, fun j hj => ?_⟩
    have := hc (j + 1) (by simpa using hj)
    rw [List.getElem_cons_succ, show o + (j + 1) = o + 1 + j by omega] at this
    exact hw'.cell this
end Go.Proofs.YtjibdbnpkfghhaaGreatDoor
/- The walk of point.change. -/
namespace Go.Proofs.YtjibdbnpkfghhaaGreatDoor
open Go.RowKit
attribute [local go_sem ↓] Go.wp_at_zero Go.wp_at_succ
set_option maxRecDepth 100000 in
set_option maxHeartbeats 8000000 in
theorem change_any (F : Doer) (S : Nat → Prop) (fid : FuncId) (caps : Array Value) (w : World) (hS : Hid (∀ b, S b → b < w.heap.size)) (hE : Hid (∀ args w, (callFunc fid args).run Tryz.prog w = .ok (.enter fid args) w)) (hD : Hid (Does F S fid caps w)) (hl : LibAt w)
  (x : V) (ka : Option Addr) (kc : Nat) (la : Option Addr) (lc : Nat) (p : ByteArray) (hsz : x.size ≤ 1073741824) (hB : Hid (∀ ks : List ByteArray, (∀ k ∈ ks, k.size ≤ 8000) → (atV F ks x).1.size ≤ 1073741824)) (hin : x.In w S ka kc la lc) (hp : p.size ≤ 1073741824) :
  Calls Tryz.prog 88 #[x.val ka kc la lc, .string p, .func (Fn.func fid) #[] caps] w (RetV2 S (changeV x p F).1 (.int .i64 (changeV x p F).2) w) := by
 have hm := hl.max
 have Hin := Lib.hid hin
 clear hin
 go_enter Tryz.func88, Tryz.ntmps88
 go_upto_region 1 with fail
 refine gen_world (R := fun wx => Box wx w.heap.size #[.int .i64 x.k, .int .i64 x.n, .string x.s, .slice ka x.keys.length kc, .slice la x.l.length lc] 25 ∧ Box wx (w.heap.size + 1) #[.int .i64 0, .int .i64 0, .string ⟨#[]⟩, .slice none 0 0, .slice none 0 0] 25 ∧ Ext w wx) ⟨Bxt, Bxt, Xt⟩ ?_
 rintro wa ⟨hB0, hB1, hxa⟩
 have hc0 := hB0.cells; have hf0 := hB0.free; have hl0 := hB0.lt
 go_wp2_with fail
 (refine (may_any x ka kc la lc _ p _ hsz (Hin.out.ext Xt) hp (hm.ext Xt)).mono ?_)
 rintro e w2 (⟨a, n, c, ks, hnb, hfi, rfl, hn, hok, hst, h2⟩ | ⟨hbad, rfl, h2⟩)
 ·have hcp : changeV x p F = if ks = [] then (x, 1) else if (atV F ks x).2 = 0 then (if (atV F ks x).1.fine = true then ((atV F ks x).1, 0) else (x, 2)) else (x, (atV F ks x).2) := by
   unfold changeV; rw [hnb]; simp only; rw [if_neg (by rw [hfi]; decide)]
  have hsm := (namesB_small hnb).2
  have hlen := (namesB_small hnb).1
  have Hcp := Lib.hid hcp
  have hso := fine_sound hfi
  have Hsm := Lib.hid hsm
  have Hst := Lib.hid hst
  have hB0 := Box.ext h2 hB0
  have hB1 := Box.ext h2 hB1
  have hx2 : Ext w w2 := Xt
  clear h2 hc0 hf0 hl0 hxa hcp hnb hsm hst hfi
  subst hn
  have hc0 := hB0.cells; have hf0 := hB0.free; have hl0 := hB0.lt
  have hc1 := hB1.cells; have hf1 := hB1.free; have hl1 := hB1.lt
  by_cases hk0 : ks = []
  ·subst hk0
   go_wp2_with fail
   (with_reducible apply bp_ret); (focus (go_light; simp [results, Tryz.results88, go_sem, *]; rfl))
   rw [Hcp.out, if_pos trivial]
   exact ⟨ka, kc, la, lc, rfl, (Hin.out.ext Xt).mono (fun b h _ => .inl h), Xt⟩
  ·have hks : ((ks.length : Int) == 0) = false := by
    have := List.length_pos_iff.2 hk0
    simp; omega
   have Hk0 := Lib.hid hk0
   clear hk0
   go_wp2_with fail
   (refine (at_any F S fid caps w hS hE hD hl ks x ka kc la lc a ks.length c _ _ Hk0.out rfl (by omega) hok.1 hok.2.1 Hsm.out hso hsz Xt (Hin.out.ext Xt) (Hst.out.ext Xt)).mono ?_)
   rintro e w3 ⟨ka3, kc3, la3, lc3, rfl, hin3, h3⟩
   have hx3 : Ext w w3 := Xt
   have hz2 := hB1.lt
   have hin4 : (atV F ks x).1.In w3 (fun b => S b ∨ w.heap.size + 2 ≤ b) ka3 kc3 la3 lc3 := hin3.mono (fun b h _ => by rcases h with h | h; exact .inl h; exact .inr (by (try simp at h); omega))
   have hB0 := Box.ext (w := w2) (w' := w3) Xt hB0
   have hB1 := Box.ext (w := w2) (w' := w3) Xt hB1
   have Hin4 := Lib.hid hin4
   clear h3 hin3 hin4 hc0 hf0 hl0 hc1 hf1 hl1 hx2 Hst
   go_upto_region 7 with fail
   refine gen_world (R := fun wx => Box wx w.heap.size #[.int .i64 x.k, .int .i64 x.n, .string x.s, .slice ka x.keys.length kc, .slice la x.l.length lc] 25 ∧ Box wx (w.heap.size + 1) #[.int .i64 0, .int .i64 0, .string ⟨#[]⟩, .slice none 0 0, .slice none 0 0] 25 ∧ Box wx w3.heap.size #[.int .i64 (atV F ks x).1.k, .int .i64 (atV F ks x).1.n, .string (atV F ks x).1.s, .slice ka3 (atV F ks x).1.keys.length kc3, .slice la3 (atV F ks x).1.l.length lc3] 25 ∧ (atV F ks x).1.In wx (fun b => S b ∨ w.heap.size + 2 ≤ b) ka3 kc3 la3 lc3 ∧ Ext w wx) ⟨Bxt, Bxt, Bxt, Hin4.out.ext Xt, Xt⟩ ?_
   have hl3 := hB1.lt
   clear hB0 hB1 Hin4 hx3
   rintro wd ⟨hB0, hB1, hBy, hjn, hxd⟩
   have Hjn := Lib.hid hjn
   clear hjn
   by_cases her : (atV F ks x).2 = 0
   ·have he : ((atV F ks x).2 != 0) = false := by simpa using her
    have Her := Lib.hid her
    have hBs := hB.out ks Hsm.out
    clear her
    have hcy := hBy.cells; have hfy := hBy.free; have hly := hBy.lt
    have hf0 : (atV F ks x).1.fine = false ∨ (atV F ks x).1.fine = true := by cases (atV F ks x).1.fine <;> simp
    rcases hf0 with hf | hf
    all_goals
     have Hf := Lib.hid hf
     go_wp2_with fail
     (refine (fine_any (atV F ks x).1 ka3 kc3 la3 lc3 _ _ hBs (Hjn.out.ext Xt)).mono ?_); rintro e w4 ⟨rfl, h4⟩
     rw [hf]
     have hB0 := Box.ext h4 hB0
     have hB1 := Box.ext h4 hB1
     have hBy := Box.ext h4 hBy
     have hx4 : Ext w w4 := Xt
     have hj4 := Hjn.out.ext h4
     clear h4 hcy hfy hly hxd
     have hc0 := hB0.cells; have hf0 := hB0.free; have hl0 := hB0.lt
     have hc1 := hB1.cells; have hf1 := hB1.free; have hl1 := hB1.lt
     have hcy := hBy.cells; have hfy := hBy.free; have hly := hBy.lt
    ·go_wp2_with fail
     (with_reducible apply bp_ret); (focus (go_light; simp [results, Tryz.results88, go_sem, *]; rfl))
     rw [Hcp.out, if_neg Hk0.out, if_pos Her.out, if_neg (by rw [Hf.out]; decide)]
     exact ⟨ka, kc, la, lc, rfl, (Hin.out.ext Xt).mono (fun b h _ => .inl h), Xt⟩
    ·have Hj4 := Lib.hid hj4
     clear hj4
     go_wp2_with fail
     (with_reducible apply bp_ret); (focus (go_light; simp [results, Tryz.results88, go_sem, *]; rfl))
     rw [Hcp.out, if_neg Hk0.out, if_pos Her.out, if_pos Hf.out]
     exact ⟨ka3, kc3, la3, lc3, rfl, Hj4.out.keep (Held.kept (Held.mono (S := fun b => b ≠ w.heap.size + 1) (a := w4) Hxt (fun b h => by rcases h with h | h; (have := hS.out b h; simp; omega); (simp; omega)))) (fun b h _ => by rcases h with h | h; exact .inl h; exact .inr (by omega)), Xt⟩
   ·have he : ((atV F ks x).2 != 0) = true := by simpa using her
    have Her := Lib.hid her
    clear her
    have hc0 := hB0.cells; have hf0 := hB0.free; have hl0 := hB0.lt
    have hc1 := hB1.cells; have hf1 := hB1.free; have hl1 := hB1.lt
    go_wp2_with fail
    (with_reducible apply bp_ret); (focus (go_light; simp [results, Tryz.results88, go_sem, *]; rfl))
    rw [Hcp.out, if_neg Hk0.out, if_neg Her.out]
    exact ⟨ka, kc, la, lc, rfl, (Hin.out.ext Xt).mono (fun b h _ => .inl h), Xt⟩
 ·have hcp : changeV x p F = (x, 1) := by
   unfold changeV
   rcases hbad with h | h
   ·rw [h]
   ·cases namesB p <;> simp [h]
  have Hcp := Lib.hid hcp
  have hB0 := Box.ext h2 hB0
  have hB1 := Box.ext h2 hB1
  have hx2 : Ext w w2 := Xt
  clear h2 hc0 hf0 hl0 hxa hcp hbad
  have hc0 := hB0.cells; have hf0 := hB0.free; have hl0 := hB0.lt
  have hc1 := hB1.cells; have hf1 := hB1.free; have hl1 := hB1.lt
  go_wp2_with fail
  (with_reducible apply bp_ret); (focus (go_light; simp [results, Tryz.results88, go_sem, *]; rfl))
  rw [Hcp.out]
  exact ⟨ka, kc, la, lc, rfl, (Hin.out.ext Xt).mono (fun b h _ => .inl h), Xt⟩
end Go.Proofs.YtjibdbnpkfghhaaGreatDoor
