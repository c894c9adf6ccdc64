/- The walk of point.at: something is done at the end of names. -/
import Derived.Test.YtnbappeiebameaaGreatDoorGet
import Derived.Test.YtnbappeiebameaaGreatDoorPkA
import Derived.Deep.CutBlock
set_option linter.all false
namespace Go.Proofs.YtnbappeiebameaaGreatDoor
open Go.RowKit
attribute [local go_sem ↓] Go.wp_at_zero Go.wp_at_succ

/-- A call of a function with a body enters it. -/
theorem enters {P : Program} {f : FuncId} {fn : Func} {c : Code} (hf : P.funcs[f]? = some fn) (hn : (fn.name == "runtime.NumGoroutine") = false) (hb : fn.body = some c) (args : Array Value) (w : World) : (callFunc f args).run P w = .ok (.enter f args) w := by
  have h1 : fn.name ≠ "runtime.NumGoroutine" := by simpa using hn
  simp [callFunc, hf, h1, hb]

/-- A function value, and what it does with a value and a name. -/
def Does (F : Doer) (S : Nat → Prop) (fid : FuncId) (caps : Array Value) (w : World) : Prop :=
  ∀ (y : V) (ka : Option Addr) (kc : Nat) (la : Option Addr) (lc : Nat) (name : ByteArray) (w' : World), Ext w w' → y.sound → y.size ≤ 1073741824 → name.size ≤ 8000 → y.In w' S ka kc la lc →
    Calls Tryz.prog fid (#[y.val ka kc la lc, .string name] ++ caps) w' (RetV2 S (F y name).1 (.int .i64 (F y name).2) w')

set_option maxRecDepth 100000 in
set_option maxHeartbeats 4000000 in
theorem at_one (F : Doer) (S : Nat → Prop) (fid : FuncId) (caps : Array Value) (w0 : World) (hS : Hid (∀ b, S b → b < w0.heap.size)) (hE : Hid (∀ args w, (callFunc fid args).run Tryz.prog w = .ok (.enter fid args) w)) (hD : Hid (Does F S fid caps w0)) (name : ByteArray) (x : V) (ka : Option Addr) (kc : Nat) (la : Option Addr) (lc : Nat) (b o c : Nat) (w : World)
    (hn : name.size ≤ 8000) (hso : x.sound) (hsz : x.size ≤ 1073741824) (hw : Ext w0 w) (hin : x.In w S ka kc la lc) (hk : w.cell? ⟨b, o, none⟩ = some (.string name)) :
    Calls Tryz.prog 139 #[x.val ka kc la lc, .slice (some ⟨b, o, none⟩) 1 c, .func (Fn.func fid) #[] caps] w (RetV2 S (F x name).1 (.int .i64 (F x name).2) w) := by
  have hbl := cell_lt hk
  have Hin := Lib.hid hin
  clear hin
  go_enter Tryz.func139, Tryz.ntmps139
  go_upto_region 2 with fail
  refine gen_world (R := fun wx => Box wx w.heap.size #[.int .i64 x.k, .int .i64 x.n, .string x.s, .slice ka x.keys.length kc, .slice la x.l.length lc] 25 ∧ Box wx (w.heap.size + 1) #[.int .i64 0, .int .i64 0, .string ⟨#[]⟩, .slice none 0 0, .slice none 0 0] 25 ∧ Ext w wx) ⟨Bxt, Bxt, Xt⟩ ?_
  rintro wa ⟨hB0, hB1, hxa⟩
  have hka := hxa.cell hk
  have h0a : Ext w0 wa := hw.trans hxa
  clear hk
  have hc0 := hB0.cells; have hf0 := hB0.free; have hl0 := hB0.lt
  have Sof : ∀ w', Ext wa w' → (w'.cell? ⟨w.heap.size, 0, none⟩ = some (.int .i64 x.k) ∧ w'.cell? ⟨w.heap.size, 1, none⟩ = some (.int .i64 x.n) ∧ w'.cell? ⟨w.heap.size, 2, none⟩ = some (.string x.s) ∧ w'.cell? ⟨w.heap.size, 3, none⟩ = some (.slice ka x.keys.length kc) ∧ w'.cell? ⟨w.heap.size, 4, none⟩ = some (.slice la x.l.length lc) ∧ w'.cell? ⟨b, o, none⟩ = some (.string name)) :=
    fun w' e => ⟨e.cell (hc0 0), e.cell (hc0 1), e.cell (hc0 2), e.cell (hc0 3), e.cell (hc0 4), e.cell hka⟩
  have hS1 := Sof wa.drew ((Ext.refl wa).drew)
  refine wp_region_till (S := fun w' => w'.cell? ⟨w.heap.size, 0, none⟩ = some (.int .i64 x.k) ∧ w'.cell? ⟨w.heap.size, 1, none⟩ = some (.int .i64 x.n) ∧ w'.cell? ⟨w.heap.size, 2, none⟩ = some (.string x.s) ∧ w'.cell? ⟨w.heap.size, 3, none⟩ = some (.slice ka x.keys.length kc) ∧ w'.cell? ⟨w.heap.size, 4, none⟩ = some (.slice la x.l.length lc) ∧ w'.cell? ⟨b, o, none⟩ = some (.string name)) (c := 8) (by kernel_rfl) ?_
  (refine wpAnyT_take (i := 0) (v := ?_) [8] (Array.getElem?_eq_getElem (by decide)) (by kernel_rfl) (by kernel_rfl) (by kernel_rfl) (by kernel_rfl) rfl rfl (by kernel_rfl) (fun _ _ _ h => h) (Or.inl ⟨by kernel_rfl, ?_⟩) (by assumption) ?_); rotate_left; (focus (intro w hSw; (try dsimp only at hSw); (try simp only [Act.put, List.setIfInBounds_toArray, List.set_cons_zero, List.set_cons_succ, List.getElem_toArray, List.getElem_cons_zero, List.getElem_cons_succ]); go_simp; (try with_reducible rfl))); (try simp only [Act.put, List.setIfInBounds_toArray, List.set_cons_zero, List.set_cons_succ, List.getElem_toArray, List.getElem_cons_zero, List.getElem_cons_succ])
  (refine wpAnyT_take (i := 1) (v := ?_) [8] (Array.getElem?_eq_getElem (by decide)) (by kernel_rfl) (by kernel_rfl) (by kernel_rfl) (by kernel_rfl) rfl rfl (by kernel_rfl) (fun _ _ _ h => h) (Or.inl ⟨by kernel_rfl, ?_⟩) (by assumption) ?_); rotate_left; (focus (intro w hSw; (try dsimp only at hSw); (try simp only [Act.put, List.setIfInBounds_toArray, List.set_cons_zero, List.set_cons_succ, List.getElem_toArray, List.getElem_cons_zero, List.getElem_cons_succ]); go_simp; (try with_reducible rfl))); (try simp only [Act.put, List.setIfInBounds_toArray, List.set_cons_zero, List.set_cons_succ, List.getElem_toArray, List.getElem_cons_zero, List.getElem_cons_succ])
  (refine wpAnyT_take (i := 2) (v := ?_) [8] (Array.getElem?_eq_getElem (by decide)) (by kernel_rfl) (by kernel_rfl) (by kernel_rfl) (by kernel_rfl) rfl rfl (by kernel_rfl) (fun _ _ _ h => h) (Or.inl ⟨by kernel_rfl, ?_⟩) (by assumption) ?_); rotate_left; (focus (intro w hSw; (try dsimp only at hSw); (try simp only [Act.put, List.setIfInBounds_toArray, List.set_cons_zero, List.set_cons_succ, List.getElem_toArray, List.getElem_cons_zero, List.getElem_cons_succ]); go_simp; (try with_reducible rfl))); (try simp only [Act.put, List.setIfInBounds_toArray, List.set_cons_zero, List.set_cons_succ, List.getElem_toArray, List.getElem_cons_zero, List.getElem_cons_succ])
  (refine wpAnyT_take (i := 3) (v := ?_) [8] (Array.getElem?_eq_getElem (by decide)) (by kernel_rfl) (by kernel_rfl) (by kernel_rfl) (by kernel_rfl) rfl rfl (by kernel_rfl) (fun _ _ _ h => h) (Or.inl ⟨by kernel_rfl, ?_⟩) (by assumption) ?_); rotate_left; (focus (intro w hSw; (try dsimp only at hSw); (try simp only [Act.put, List.setIfInBounds_toArray, List.set_cons_zero, List.set_cons_succ, List.getElem_toArray, List.getElem_cons_zero, List.getElem_cons_succ]); go_simp; (try with_reducible rfl))); (try simp only [Act.put, List.setIfInBounds_toArray, List.set_cons_zero, List.set_cons_succ, List.getElem_toArray, List.getElem_cons_zero, List.getElem_cons_succ])
  (refine wpAnyT_take (i := 4) (v := ?_) [8] (Array.getElem?_eq_getElem (by decide)) (by kernel_rfl) (by kernel_rfl) (by kernel_rfl) (by kernel_rfl) rfl rfl (by kernel_rfl) (fun _ _ _ h => h) (Or.inl ⟨by kernel_rfl, ?_⟩) (by assumption) ?_); rotate_left; (focus (intro w hSw; (try dsimp only at hSw); (try simp only [Act.put, List.setIfInBounds_toArray, List.set_cons_zero, List.set_cons_succ, List.getElem_toArray, List.getElem_cons_zero, List.getElem_cons_succ]); go_simp; (try with_reducible rfl))); (try simp only [Act.put, List.setIfInBounds_toArray, List.set_cons_zero, List.set_cons_succ, List.getElem_toArray, List.getElem_cons_zero, List.getElem_cons_succ])
  (refine wpAnyT_ready (rs := [5]) (by kernel_rfl) (by simp) ?_); (refine AllReadyT.cons (Array.getElem?_eq_getElem (by decide)) (fun K hK => ?_) AllReadyT.nil); (try simp only [Act.put, List.setIfInBounds_toArray, List.set_cons_zero, List.set_cons_succ, List.getElem_toArray, List.getElem_cons_zero, List.getElem_cons_succ])
  (try go_simp)
  rw [hE.out, Oper.upon_enter]
  (refine (hD.out x ka kc la lc name _ (h0a.trans Xt) hso hsz hn (Hin.out.ext Xt)).mono ?_); rintro e w1 ⟨ka1, kc1, la1, lc1, rfl, hin1, h1⟩
  (try go_simp)
  refine hK.out _ _ (fun _ => Sof _ Xt) ?_; clear hK K; (try simp only [Act.put, List.setIfInBounds_toArray, List.set_cons_zero, List.set_cons_succ, List.getElem_toArray, List.getElem_cons_zero, List.getElem_cons_succ])
  (refine wpAnyT_take (i := 6) (v := ?_) [8] (Array.getElem?_eq_getElem (by decide)) (by kernel_rfl) (by kernel_rfl) (by kernel_rfl) (by kernel_rfl) rfl rfl (by kernel_rfl) (fun _ _ _ h => h) (Or.inl ⟨by kernel_rfl, ?_⟩) (Sof _ Xt) ?_); rotate_left; (focus (intro w hSw; (try dsimp only at hSw); (try simp only [Act.put, List.setIfInBounds_toArray, List.set_cons_zero, List.set_cons_succ, List.getElem_toArray, List.getElem_cons_zero, List.getElem_cons_succ]); go_simp; (try with_reducible rfl))); (try simp only [Act.put, List.setIfInBounds_toArray, List.set_cons_zero, List.set_cons_succ, List.getElem_toArray, List.getElem_cons_zero, List.getElem_cons_succ])
  (refine wpAnyT_take (i := 7) (v := ?_) [8] (Array.getElem?_eq_getElem (by decide)) (by kernel_rfl) (by kernel_rfl) (by kernel_rfl) (by kernel_rfl) rfl rfl (by kernel_rfl) (fun _ _ _ h => h) (Or.inl ⟨by kernel_rfl, ?_⟩) (Sof _ Xt) ?_); rotate_left; (focus (intro w hSw; (try dsimp only at hSw); (try simp only [Act.put, List.setIfInBounds_toArray, List.set_cons_zero, List.set_cons_succ, List.getElem_toArray, List.getElem_cons_zero, List.getElem_cons_succ]); go_simp; (try with_reducible rfl))); (try simp only [Act.put, List.setIfInBounds_toArray, List.set_cons_zero, List.set_cons_succ, List.getElem_toArray, List.getElem_cons_zero, List.getElem_cons_succ])
  have hB1w : Box w1 (w.heap.size + 1) #[.int .i64 0, .int .i64 0, .string ⟨#[]⟩, .slice none 0 0, .slice none 0 0] 25 := Box.ext (w := wa) Xt hB1
  have hx1 : Ext w w1 := Xt
  have hl1 := hB1.lt
  have hin2 : (F x name).1.In w1 (fun b => S b ∨ w.heap.size + 2 ≤ b) ka1 kc1 la1 lc1 := hin1.mono (fun b h _ => by rcases h with h | h; exact .inl h; simp at h; exact .inr (by omega))
  have hz := hw.size
  have Hin2 := Lib.hid hin2
  clear hc0 hf0 hin1 hin2 h1 hB1 hB0 Sof hS1 h0a
  have hc1 := hB1w.cells; have hf1 := hB1w.free; have hl1 := hB1w.lt
  (refine wpAnyT_ready (rs := [8]) (by kernel_rfl) (by simp) ?_); (refine AllReadyT.cons (Array.getElem?_eq_getElem (by decide)) (fun K hK => ?_) AllReadyT.nil); (try simp only [Act.put, List.setIfInBounds_toArray, List.set_cons_zero, List.set_cons_succ, List.getElem_toArray, List.getElem_cons_zero, List.getElem_cons_succ])
  go_simp
  (refine hK.out _ _ (fun h => Bool.noConfusion (show true = false from h)) ?_); clear hK K; (try simp only [Act.put, List.setIfInBounds_toArray, List.set_cons_zero, List.set_cons_succ, List.getElem_toArray, List.getElem_cons_zero, List.getElem_cons_succ])
  (refine wpAnyT_ready (rs := [9]) (by kernel_rfl) (by simp) ?_); (refine AllReadyT.cons (Array.getElem?_eq_getElem (by decide)) (fun K hK => ?_) AllReadyT.nil); (try simp only [Act.put, List.setIfInBounds_toArray, List.set_cons_zero, List.set_cons_succ, List.getElem_toArray, List.getElem_cons_zero, List.getElem_cons_succ])
  go_simp
  (refine hK.out _ _ (fun h => Bool.noConfusion (show true = false from h)) ?_); clear hK K; (try simp only [Act.put, List.setIfInBounds_toArray, List.set_cons_zero, List.set_cons_succ, List.getElem_toArray, List.getElem_cons_zero, List.getElem_cons_succ])
  refine wpAnyT_done (by kernel_rfl) ?_ _
  go_wp2_with fail
  (with_reducible apply bp_ret); (focus (go_light; simp [results, Tryz.results139, go_sem, *]; rfl))
  exact ⟨ka1, kc1, la1, lc1, rfl, Hin2.out.keep (Held.kept (Held.mono (S := fun b => b ≠ w.heap.size + 1) (a := w1) Hxt (fun b h => by rcases h with h | h; (have := hS.out b h; simp; omega); (simp; omega)))) (fun b h _ => by rcases h with h | h; exact .inl h; exact .inr (by omega)), Xt⟩
end Go.Proofs.YtnbappeiebameaaGreatDoor
