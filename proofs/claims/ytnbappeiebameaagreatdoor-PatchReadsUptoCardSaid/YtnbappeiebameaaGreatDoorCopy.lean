/- The walk of the reference's CopyValue. -/
import Derived.Test.YtnbappeiebameaaGreatDoorPkC
import Derived.Deep.RegionLaw
set_option linter.all false
namespace Go.Proofs.YtnbappeiebameaaGreatDoor
open Go.RowKit
attribute [local go_sem ↓] Go.wp_at_zero Go.wp_at_succ

/-- What is new alone. -/
abbrev New : Nat → Prop := fun _ => False

theorem own_none_or {w : World} {base e size : Nat} {v : Value} {n : Nat} {xs : List Value} (h : w.ownsRow base e size v n xs) : v.ownBlock = none ∨ ∃ g, v.ownBlock = some g ∧ base ≤ g := by
  cases hv : v.ownBlock with
  | none => exact .inl rfl
  | some g => exact .inr ⟨g, rfl, (h.lt g hv).1⟩

set_option maxRecDepth 100000 in
set_option maxHeartbeats 8000000 in
theorem copy_any (m : Nat) : ∀ (x : V) (ka : Option Addr) (kc : Nat) (la : Option Addr) (lc : Nat) (S : Nat → Prop) (w : World), x.size ≤ m → x.size ≤ 1073741824 → x.In w S ka kc la lc →
    Calls Tryz.prog 15 #[x.val ka kc la lc] w (RetV New x w) := by
  induction m with
  | zero => intro x _ _ _ _ _ _ h; have := x.size_pos; omega
  | succ m ih =>
    intro x ka kc la lc S w hm hsz hin
    have hl := x.len_l
    have hlk := x.len_keys
    obtain ⟨i0, hi, hz0, hz1, hz2⟩ := info_parts Tryz.infoS
    obtain ⟨j0, hj, hy0, hy1, hy2⟩ := info_parts Tryz.infoV
    obtain ⟨hko, hlo, hks, hrs⟩ := (V.in_iff ..).1 hin
    have Hks := Lib.hid hks
    have Hko := Lib.hid hko
    clear hks hko hrs hlo
    go_enter Tryz.func15, Tryz.ntmps15
    go_wp2_with ((at_builtin; refine wpList_copy_nil (by rfl) _ _ 22 (by rfl) (w.heap.size + 2) 9 i0 _ 1 16 Tryz.underlying22 hi hz0 hz1 hz2 rfl (by decide) (by rfl) ka x.keys.length kc (x.keys.map Value.string) (by rfl) Hko.out (by simp) (strs_src (Hks.out.ext Xt)) (strs_one _) (by omega) (by simp) ?_; intro ka1 kc1 w1 hown1 hok1 hgrow1; have h1 := grown_ext hgrow1; obtain ⟨hc1, hf1, hz1⟩ := ext_facts h1; (try simp at hz1); (try have hzA : w.heap.size < w1.heap.size := by omega); (try have hzB : w.heap.size + 1 < w1.heap.size := by omega); (try have hzC : w.heap.size + 2 < w1.heap.size := by omega); (try have hzD : w.heap.size + 3 < w1.heap.size := by omega); have Hown1 := Lib.hid hown1; have Hok1 := Lib.hid hok1; clear hown1 hgrow1 hok1))
    refine gen_world (R := fun wx => Box wx w.heap.size #[.int .i64 x.k, .int .i64 x.n, .string x.s, .slice ka1 x.keys.length kc1, .slice none 0 0] 25 ∧ Box wx (w.heap.size + 1) #[.int .i64 0, .int .i64 0, .string ⟨#[]⟩, .slice none 0 0, .slice none 0 0] 25 ∧ Ext w wx ∧
      wx.ownsRow (w.heap.size + 2) 9 1 (.slice ka1 x.keys.length kc1) x.keys.length (x.keys.map Value.string)) ⟨Bxt, Bxt, Xt, ?_⟩ ?_
    · exact ownsRow_keep Hown1.out (fun b hb he => by
        have := (Hown1.out.lt b he).1
        rw [Below.heap_setCell _ _ _ _ (by simp; omega), Below.heap_setCell _ _ _ _ (by simp; omega)])
    rintro w2 ⟨hB0, hB1, hx2, hkr⟩
    have Hkr := Lib.hid hkr
    clear hkr Hown1 Hks Hko
    have hlt2 : w.heap.size + 1 < w2.heap.size := hB1.lt
    go_loopg [5, 15] x.l.length (fun g _ i wr => ∃ (k : Nat) (a2 : Option Addr) (c2 : Nat), k ≤ x.l.length ∧ i = .int .i64 k ∧ g = x.l.length - k ∧ OwnL wr w2.heap.size New (.slice a2 k c2) k (x.l.take k) ∧
      Box wr w.heap.size #[.int .i64 x.k, .int .i64 x.n, .string x.s, .slice ka1 x.keys.length kc1, .slice a2 k c2] 25 ∧ Ext w wr ∧ Held (fun b => b < w2.heap.size ∧ b ≠ w.heap.size) w2 wr)
    case atStart => exact ⟨0, none, 0, by omega, rfl, rfl, OwnL.nil _ _ _, hB0, hx2, Held.refl _ _⟩
    case round =>
      obtain ⟨k, a2, c2, hk, rfl, rfl, hO, hB, hx, hh⟩ := hrel
      clear hB0
      have hszr := hh.size
      have hc0 := hB.cells; have hf0 := hB.free; have hl0 := hB.lt
      by_cases hlt : k < x.l.length
      · obtain ⟨b, o, rfl, hS, ka', kc', la', lc', ⟨d0, d1, d2, d3, d4⟩, hin'⟩ := hin.item hlt
        have d0 := hx.cell d0; have d1 := hx.cell d1; have d2 := hx.cell d2; have d3 := hx.cell d3; have d4 := hx.cell d4
        obtain ⟨hl0, xs, hown, hcells⟩ := hO
        have Hl0 := Lib.hid hl0
        have Hcells := Lib.hid hcells
        have Hown := Lib.hid hown
        clear hl0 hcells hown
        have hsi := V.size_item hlt
        have hnb : ∀ b, b < w2.heap.size → some b ≠ (Value.slice a2 k c2).ownBlock := fun b hb he => by
          have := (Hown.out.lt b he.symm).1
          omega
        have hnx : ∀ b, wr.heap.size ≤ b → some b ≠ (Value.slice a2 k c2).ownBlock := fun b hb he => by
          have := (Hown.out.lt b he.symm).2
          omega
        have Hnb := Lib.hid hnb
        have Hnx := Lib.hid hnx
        clear hnb hnx
        have hsz5 : (k + 1) * 80 ≤ 140737488355328 := by omega
        have hk63 : k + 1 ≤ maxLen := by unfold maxLen; omega
        go_wp2_with fail
        go_region_law
          (first
            | ((refine step_append_lies _ (by rfl) _ _ _ (by rfl) w2.heap.size 25 j0 _ 5 80 Tryz.underlying23 hj hy0 hy1 hy2 rfl (by decide) (.slice a2 k c2) k xs (by rfl) (Hown3.out.alloc _) ⟨w3.heap.size, 0, none⟩ 1 1 [.int .i64 x.l[k].k, .int .i64 x.l[k].n, .string x.l[k].s, .slice ka3 x.l[k].keys.length kc3, .slice la3 x.l[k].l.length lc3] (by rfl) (by rfl) (World.news_of_block (cs := #[.int .i64 x.l[k].k, .int .i64 x.l[k].n, .string x.l[k].s, .slice ka3 x.l[k].keys.length kc3, .slice la3 x.l[k].l.length lc3]) (t := 25) (fr := (0, 0)) (heap_alloc_new w3 _)) (by simp [Value.oneCell']) (by omega) hk63 hsz5 (by simp; omega) _ rfl ?_; intro g4 cap4 w4 hown4 hgrow4 hat4 hlt4; have hB4 := Box.grown (Box.alloc (Box.ext (w := wr) (w' := w3) Xt hB) _) hgrow4 (Hnb.out _ (by omega)); have hX4 := Box.grown (Box.alloc (Box.ext h1 (Box.new wr _ 25 rfl)) _) hgrow4 (Hnx.out _ (Nat.le_refl _)); have hcB := hB4.cells; have hfB := hB4.free; have hcX := hX4.cells; have Hg4 := Lib.hid hgrow4; clear hgrow4))
            | ((go_simp; go_at_call 15; refine (ih x.l[k] ka' kc' la' lc' S _ (by omega) (by omega) (hin'.ext Xt)).mono ?_; rintro e w3 ⟨ka3, kc3, la3, lc3, rfl, hin3, h1⟩; obtain ⟨hc1, hf1, hz1⟩ := ext_facts h1; (try simp at hz1); (try have hzA : w.heap.size < w1.heap.size := by omega); (try have hzB : w.heap.size + 1 < w1.heap.size := by omega); (try have hzC : w.heap.size + 2 < w1.heap.size := by omega); (try have hzD : w.heap.size + 3 < w1.heap.size := by omega); have q4 : w3.cell? ⟨w.heap.size, 4, none⟩ = some (.slice a2 k c2) := Ext.cell (a := wr) Xt (by rw [hc0]; rfl); have Hown3 := Lib.hid (ownsRow_ext (w' := w3) Hown.out Xt); have hz9 : w.heap.size < w3.heap.size := (by omega); dsimp only)))
        all_goals
          have hx4 : Ext w w4 := Ext.grown (b := w3.alloc _) Xt Hg4.out (fun g hg => by have := (Hown.out.lt g hg).1; omega)
          have hp := own_push (W := w3.alloc _) Hl0.out Hown.out Hcells.out Xt hin3 Xt (fun b hb => .inr (by rcases hb with hb | hb; exact hb.elim; simp at hb; omega)) hown4 Hg4.out g4 rfl hat4 (by omega)
          rw [← List.take_succ_eq_append_getElem hlt] at hp
          have hh4 : Held (fun b => b < w2.heap.size ∧ b ≠ w.heap.size) w2 w4 := Held.grown (b := w3.alloc _) Hxt Hg4.out (fun g hg hT => by have := (Hown.out.lt g hg).1; omega)
          have Hp := Lib.hid hp
          have Hat4 := Lib.hid hat4
          clear hp hat4 hown4 hin3
          go_wp2_with fail
          go_roundg (x.l.length - (k + 1))
          case measure => omega
          case rel => exact ⟨k + 1, _, _, by omega, by go_num, rfl, Hp.out.keep (fun b hb hc => by rw [Below.heap_setCell _ _ _ _ (by simp; rcases hc with hc | hc; exact hc.2.elim; omega)]), Bxt, Xt, Hxt⟩
      · obtain rfl : k = x.l.length := by omega
        obtain ⟨a3, c3, he3, hok3, -, hrows⟩ := hO.rows
        simp only [Value.slice.injEq, true_and] at he3
        obtain ⟨rfl, rfl⟩ := he3
        rw [List.take_of_length_le (Nat.le_refl _)] at hrows
        obtain ⟨a4, c4, he4, -, -, hst⟩ := OwnS.strs ⟨rfl, Hkr.out⟩
        simp only [Value.slice.injEq, true_and] at he4
        obtain ⟨rfl, rfl⟩ := he4
        have hst2 : StrsIn wr (fun b => w.heap.size + 2 ≤ b) ka1 x.keys := hst.keep (fun b hb hl => hh.block b ⟨hl, by omega⟩ hl) (fun _ h _ => h)
        have Hrows := Lib.hid hrows
        have Hst2 := Lib.hid hst2
        have Hok3 := Lib.hid hok3
        have hB1r : Box wr (w.heap.size + 1) #[.int .i64 0, .int .i64 0, .string ⟨#[]⟩, .slice none 0 0, .slice none 0 0] 25 := Box.held hh hB1 ⟨hlt2, by omega⟩
        have hc1 := hB1r.cells; have hf1 := hB1r.free; have hl1 := hB1r.lt
        clear hrows hst2 hok3 hst hO hB1
        go_wp2_with fail
        (with_reducible apply bp_ret); (focus (go_light; simp [results, Tryz.results15, go_sem, *]; rfl))
        refine ⟨ka1, kc1, a2, c2, rfl, (V.in_iff ..).2 ⟨Hok1.out, Hok3.out, Hst2.out.keep ?_ ?_, Hrows.out.keep ?_ ?_⟩, Xt⟩
        · exact Held.kept (a := wr) (T := fun b => w.heap.size + 2 ≤ b) Hxt
        · intro b hb _; exact .inr (by omega)
        · exact Held.kept (a := wr) (T := fun b => (b < w2.heap.size ∧ New b) ∨ w2.heap.size ≤ b) Hxt
        · intro b hb _
          rcases hb with hb | hb
          · exact hb.2.elim
          · exact .inr (by omega)
end Go.Proofs.YtnbappeiebameaaGreatDoor
