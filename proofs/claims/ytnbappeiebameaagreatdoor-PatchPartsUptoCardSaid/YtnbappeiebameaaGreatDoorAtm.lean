/- The walk of point.at: more names than one. -/
import Derived.Test.YtnbappeiebameaaGreatDoorAt
set_option linter.all false
namespace Go.Proofs.YtnbappeiebameaaGreatDoor
open Go.RowKit
attribute [local go_sem ↓] Go.wp_at_zero Go.wp_at_succ

set_option maxRecDepth 100000 in
set_option maxHeartbeats 4000000 in
theorem at_miss (S : Nat → Prop) (fv : Value) (w0 : World) (name : ByteArray) (x : V) (ka : Option Addr) (kc : Nat) (la : Option Addr) (lc : Nat) (b o n c : Nat) (w : World)
    (hn : name.size ≤ 8000) (hn2 : 2 ≤ n) (hnb : n ≤ 1073741824) (hso : x.sound) (hsz : x.size ≤ 1073741824) (hin : x.In w S ka kc la lc) (hk : w.cell? ⟨b, o, none⟩ = some (.string name)) (hl : LibAt w) (hc : Hid (x.child name = none)) :
    Calls Tryz.prog 139 #[x.val ka kc la lc, .slice (some ⟨b, o, none⟩) n c, fv] w (RetV2 S x (.int .i64 3) w) := by
  have hbl := cell_lt hk
  have Hin := Lib.hid hin
  have hne1 : ((n : Int) == 1) = false := by simp; omega
  have hi0 : (0 : Int) < (n : Int) := by omega
  have hi0n : 0 < n := by omega
  have hi0c : ¬ n = 0 := by omega
  have hi0d : ¬ n ≤ 0 := by omega
  clear hin
  go_enter Tryz.func139, Tryz.ntmps139
  go_upto_region 3 with fail
  refine gen_world (R := fun wx => Box wx w.heap.size #[.int .i64 x.k, .int .i64 x.n, .string x.s, .slice ka x.keys.length kc, .slice la x.l.length lc] 25 ∧ Box wx (w.heap.size + 1) #[.int .i64 0, .int .i64 0, .string ⟨#[]⟩, .slice none 0 0, .slice none 0 0] 25 ∧ Ext w wx) ⟨Bxt, Bxt, Xt⟩ ?_
  rintro wa ⟨hB0, hB1, hxa⟩
  have hka := hxa.cell hk
  clear hk
  have Sof : ∀ w', Ext wa w' → (w'.cell? ⟨w.heap.size, 0, none⟩ = some (.int .i64 x.k) ∧ w'.cell? ⟨w.heap.size, 1, none⟩ = some (.int .i64 x.n) ∧ w'.cell? ⟨w.heap.size, 2, none⟩ = some (.string x.s) ∧ w'.cell? ⟨w.heap.size, 3, none⟩ = some (.slice ka x.keys.length kc) ∧ w'.cell? ⟨w.heap.size, 4, none⟩ = some (.slice la x.l.length lc) ∧ w'.cell? ⟨b, o, none⟩ = some (.string name)) :=
    fun w' e => ⟨e.cell (hB0.cells 0), e.cell (hB0.cells 1), e.cell (hB0.cells 2), e.cell (hB0.cells 3), e.cell (hB0.cells 4), e.cell hka⟩
  go_region_held3 (fun w' => w'.cell? ⟨w.heap.size, 0, none⟩ = some (.int .i64 x.k) ∧ w'.cell? ⟨w.heap.size, 1, none⟩ = some (.int .i64 x.n) ∧ w'.cell? ⟨w.heap.size, 2, none⟩ = some (.string x.s) ∧ w'.cell? ⟨w.heap.size, 3, none⟩ = some (.slice ka x.keys.length kc) ∧ w'.cell? ⟨w.heap.size, 4, none⟩ = some (.slice la x.l.length lc) ∧ w'.cell? ⟨b, o, none⟩ = some (.string name))
    (first | (exact Sof _ ((Ext.refl _).drew)) | (exact Sof _ (Ext.trans ((Ext.refl _).drew) h1)))
    (first | (go_at_call 71; refine (child_any x ka kc la lc _ name _ hso hsz (by omega) (Hin.out.ext Xt) (hl.ext Xt)).mono ?_; rintro e w1 ⟨q, rfl, -, h1⟩))
  all_goals
    rw [hc.out]
    have hB0 := Box.ext h1 (Box.drew hB0)
    have hB1 := Box.ext h1 (Box.drew hB1)
    have hx1 : Ext w w1 := Xt
    clear h1 hxa Sof
    have hc0 := hB0.cells; have hf0 := hB0.free; have hl0 := hB0.lt
    have hc1 := hB1.cells; have hf1 := hB1.free; have hl1 := hB1.lt
    go_wp2_with fail
    (with_reducible apply bp_ret); (focus (go_light; simp [results, Tryz.results139, go_sem, *]; rfl))
    exact ⟨ka, kc, la, lc, rfl, (Hin.out.ext Xt).mono (fun b h _ => .inl h), Xt⟩
end Go.Proofs.YtnbappeiebameaaGreatDoor
