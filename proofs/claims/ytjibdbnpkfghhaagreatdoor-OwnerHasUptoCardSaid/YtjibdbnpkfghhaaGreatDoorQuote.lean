/- The walk of json.quote. -/
import Derived.Test.YtjibdbnpkfghhaaGreatDoorByt
set_option linter.all false
namespace Go.Proofs.YtjibdbnpkfghhaaGreatDoor
open Go.RowKit
attribute [local go_sem ↓] Go.wp_at_zero Go.wp_at_succ

theorem escC_len (c : UInt8) : (escC c).length ≤ 6 := by
  unfold escC
  repeat (split <;> try (simp; done))
  all_goals simp
theorem flat_drop (s : ByteArray) (k : Nat) (h : k < s.size) : (s.data.toList.drop k).flatMap escC = escC s[k] ++ (s.data.toList.drop (k + 1)).flatMap escC := by
  have h' : k < s.data.toList.length := by rw [Array.length_toList]; exact h
  rw [List.drop_eq_getElem_cons h', List.flatMap_cons]
  rfl
theorem and15 : ∀ n : Nat, n < 256 → bits BinOp.and IntKind.u8 (n : Int) 15 = ((n % 16 : Nat) : Int) := by decide +kernel
theorem hex_at : ∀ n : Nat, n < 16 → ∀ h : n < (⟨#[48, 49, 50, 51, 52, 53, 54, 55, 56, 57, 97, 98, 99, 100, 101, 102]⟩ : ByteArray).size, (⟨#[48, 49, 50, 51, 52, 53, 54, 55, 56, 57, 97, 98, 99, 100, 101, 102]⟩ : ByteArray)[n]'h = hexC n := by decide +kernel
theorem quote_step {s : ByteArray} {k : Nat} (h : k < s.size) {acc T E : Bytes} (ha : acc ++ ((s.data.toList.drop k).flatMap escC ++ [34]) = T) (hE : escC s[k] = E) : acc ++ E ++ ((s.data.toList.drop (k + 1)).flatMap escC ++ [34]) = T := by
  rw [← ha, flat_drop s k h, hE]; simp
set_option maxRecDepth 100000 in
set_option maxHeartbeats 4000000 in
theorem quote_any (B : Nat) (v : Value) (l : Bytes) (s : ByteArray) (w : World) (hs : s.size ≤ 1073741824) (hn : l.length ≤ 1099511627776) (hB : B ≤ w.heap.size) (hown : OwnB w B v l) :
    Calls Tryz.prog 148 #[v, .string s] w fun e w' => ∃ v', e = .returned v' ∧ OwnB w' B v' (l ++ quoteL s.data.toList) ∧ Wrote B w w' := by
  have Hown := Lib.hid hown
  clear hown
  go_enter Tryz.func148, Tryz.ntmps148
  go_wp2_with (at_builtin; refine wpl_app (by rfl) _ _ _ (by rfl) (by rfl) B v l (by rfl) (Hown.out.ext Xt) ⟨w.heap.size, 0, none⟩ 1 1 [34] (by rfl) (by rfl) (World.news_of_block (cs := #[.int .u8 34]) (t := 5) (fr := (0, 0)) (heap_alloc_new w _)) (by omega) (by simp; omega) ?_; intro v1 w1 hown1 hgrow1; have h1 : Wrote B w w1 := Wrote.grown (w := w.alloc _) ((Wrote.refl B w).ext hB Xt) hB (Hown.out.ext Xt) hgrow1; obtain ⟨a1, c1, rfl, -⟩ := hown1.form; have Hown1 := Lib.hid hown1; clear hown1 hgrow1)
  go_loopg [0, 5, 6, 12] s.size (fun g t0 _ _ i wr => ∃ (k : Nat) (acc : Bytes) (a0 : Option Addr) (c0 : Nat), k ≤ s.size ∧ i = .int .i64 k ∧ g = s.size - k ∧ t0 = .slice a0 acc.length c0 ∧ OwnB wr B (.slice a0 acc.length c0) acc ∧ acc ++ ((s.data.toList.drop k).flatMap escC ++ [34]) = l ++ quoteL s.data.toList ∧ acc.length ≤ l.length + 1 + k * 6 ∧ Wrote B w wr)
  case atStart => exact ⟨0, l ++ [34], a1, c1, by omega, rfl, rfl, by simp, Hown1.out, by simp [quoteL], by simp, h1⟩
  case round =>
    obtain ⟨k, acc, a0, c0, hk, rfl, rfl, rfl, hO, hacc, hal, hx⟩ := hrel
    have HO := Lib.hid hO
    have Hacc := Lib.hid hacc
    have hBr := hx.size
    clear hO hacc
    by_cases hlt : k < s.size
    · have hc255 : s[k].toNat < 256 := s[k].toNat_lt
      by_cases c34 : (s[k].toNat : Int) = 34
      · have b34 : ((s[k].toNat : Int) == 34) = true := by simpa using c34
        go_wp2_with (at_builtin; refine wpl_app (by rfl) _ _ _ (by rfl) (by rfl) B (.slice a0 acc.length c0) acc (by rfl) (HO.out.ext Xt) ⟨wr.heap.size, 0, none⟩ 2 2 [92, 34] (by rfl) (by rfl) (World.news_of_block (cs := #[.int .u8 92, .int .u8 34]) (t := 5) (fr := (0, 0)) (heap_alloc_new wr _)) (by omega) (by simp; omega) ?_; intro v2 w2 hown2 hgrow2; have h2 : Wrote B w w2 := Wrote.grown (w := wr.alloc _) (hx.ext hB Xt) hB (HO.out.ext Xt) hgrow2; obtain ⟨a2, c2, rfl, -⟩ := hown2.form; have Hown2 := Lib.hid hown2; clear hown2 hgrow2)
        go_roundg (s.size - (k + 1))
        case measure => omega
        case rel => exact ⟨k + 1, acc ++ [92, 34], a2, c2, by omega, by go_num, rfl, by simp, Hown2.out, quote_step hlt Hacc.out (by rw [byte_of (n := 34) (by omega) c34]; rfl), by simp; omega, h2⟩
      have b34 : ((s[k].toNat : Int) == 34) = false := by simpa using c34
      by_cases c92 : (s[k].toNat : Int) = 92
      · have b92 : ((s[k].toNat : Int) == 92) = true := by simpa using c92
        go_wp2_with (at_builtin; refine wpl_app (by rfl) _ _ _ (by rfl) (by rfl) B (.slice a0 acc.length c0) acc (by rfl) (HO.out.ext Xt) ⟨wr.heap.size, 0, none⟩ 2 2 [92, 92] (by rfl) (by rfl) (World.news_of_block (cs := #[.int .u8 92, .int .u8 92]) (t := 5) (fr := (0, 0)) (heap_alloc_new wr _)) (by omega) (by simp; omega) ?_; intro v2 w2 hown2 hgrow2; have h2 : Wrote B w w2 := Wrote.grown (w := wr.alloc _) (hx.ext hB Xt) hB (HO.out.ext Xt) hgrow2; obtain ⟨a2, c2, rfl, -⟩ := hown2.form; have Hown2 := Lib.hid hown2; clear hown2 hgrow2)
        go_roundg (s.size - (k + 1))
        case measure => omega
        case rel => exact ⟨k + 1, acc ++ [92, 92], a2, c2, by omega, by go_num, rfl, by simp, Hown2.out, quote_step hlt Hacc.out (by rw [byte_of (n := 92) (by omega) c92]; rfl), by simp; omega, h2⟩
      have b92 : ((s[k].toNat : Int) == 92) = false := by simpa using c92
      by_cases c8 : (s[k].toNat : Int) = 8
      · have b8 : ((s[k].toNat : Int) == 8) = true := by simpa using c8
        go_wp2_with (at_builtin; refine wpl_apps (by rfl) _ _ _ _ (by rfl) (by rfl) (by rfl) B (.slice a0 acc.length c0) acc (by rfl) (HO.out.ext Xt) ⟨#[92, 98]⟩ (by rfl) (by simp [ByteArray.size]; omega) (by omega) ?_; intro v2 w2 hown2 hgrow2; have h2 : Wrote B w w2 := Wrote.grown (w := wr) hx hB (HO.out.ext Xt) hgrow2; obtain ⟨a2, c2, rfl, -⟩ := hown2.form; have Hown2 := Lib.hid hown2; clear hown2 hgrow2)
        go_roundg (s.size - (k + 1))
        case measure => omega
        case rel => exact ⟨k + 1, acc ++ [92, 98], a2, c2, by omega, by go_num, rfl, by simp, Hown2.out, quote_step hlt Hacc.out (by rw [byte_of (n := 8) (by omega) c8]; rfl), by simp; omega, h2⟩
      have b8 : ((s[k].toNat : Int) == 8) = false := by simpa using c8
      by_cases c12 : (s[k].toNat : Int) = 12
      · have b12 : ((s[k].toNat : Int) == 12) = true := by simpa using c12
        go_wp2_with (at_builtin; refine wpl_apps (by rfl) _ _ _ _ (by rfl) (by rfl) (by rfl) B (.slice a0 acc.length c0) acc (by rfl) (HO.out.ext Xt) ⟨#[92, 102]⟩ (by rfl) (by simp [ByteArray.size]; omega) (by omega) ?_; intro v2 w2 hown2 hgrow2; have h2 : Wrote B w w2 := Wrote.grown (w := wr) hx hB (HO.out.ext Xt) hgrow2; obtain ⟨a2, c2, rfl, -⟩ := hown2.form; have Hown2 := Lib.hid hown2; clear hown2 hgrow2)
        go_roundg (s.size - (k + 1))
        case measure => omega
        case rel => exact ⟨k + 1, acc ++ [92, 102], a2, c2, by omega, by go_num, rfl, by simp, Hown2.out, quote_step hlt Hacc.out (by rw [byte_of (n := 12) (by omega) c12]; rfl), by simp; omega, h2⟩
      have b12 : ((s[k].toNat : Int) == 12) = false := by simpa using c12
      by_cases c10 : (s[k].toNat : Int) = 10
      · have b10 : ((s[k].toNat : Int) == 10) = true := by simpa using c10
        go_wp2_with (at_builtin; refine wpl_apps (by rfl) _ _ _ _ (by rfl) (by rfl) (by rfl) B (.slice a0 acc.length c0) acc (by rfl) (HO.out.ext Xt) ⟨#[92, 110]⟩ (by rfl) (by simp [ByteArray.size]; omega) (by omega) ?_; intro v2 w2 hown2 hgrow2; have h2 : Wrote B w w2 := Wrote.grown (w := wr) hx hB (HO.out.ext Xt) hgrow2; obtain ⟨a2, c2, rfl, -⟩ := hown2.form; have Hown2 := Lib.hid hown2; clear hown2 hgrow2)
        go_roundg (s.size - (k + 1))
        case measure => omega
        case rel => exact ⟨k + 1, acc ++ [92, 110], a2, c2, by omega, by go_num, rfl, by simp, Hown2.out, quote_step hlt Hacc.out (by rw [byte_of (n := 10) (by omega) c10]; rfl), by simp; omega, h2⟩
      have b10 : ((s[k].toNat : Int) == 10) = false := by simpa using c10
      by_cases c13 : (s[k].toNat : Int) = 13
      · have b13 : ((s[k].toNat : Int) == 13) = true := by simpa using c13
        go_wp2_with (at_builtin; refine wpl_apps (by rfl) _ _ _ _ (by rfl) (by rfl) (by rfl) B (.slice a0 acc.length c0) acc (by rfl) (HO.out.ext Xt) ⟨#[92, 114]⟩ (by rfl) (by simp [ByteArray.size]; omega) (by omega) ?_; intro v2 w2 hown2 hgrow2; have h2 : Wrote B w w2 := Wrote.grown (w := wr) hx hB (HO.out.ext Xt) hgrow2; obtain ⟨a2, c2, rfl, -⟩ := hown2.form; have Hown2 := Lib.hid hown2; clear hown2 hgrow2)
        go_roundg (s.size - (k + 1))
        case measure => omega
        case rel => exact ⟨k + 1, acc ++ [92, 114], a2, c2, by omega, by go_num, rfl, by simp, Hown2.out, quote_step hlt Hacc.out (by rw [byte_of (n := 13) (by omega) c13]; rfl), by simp; omega, h2⟩
      have b13 : ((s[k].toNat : Int) == 13) = false := by simpa using c13
      by_cases c9 : (s[k].toNat : Int) = 9
      · have b9 : ((s[k].toNat : Int) == 9) = true := by simpa using c9
        go_wp2_with (at_builtin; refine wpl_apps (by rfl) _ _ _ _ (by rfl) (by rfl) (by rfl) B (.slice a0 acc.length c0) acc (by rfl) (HO.out.ext Xt) ⟨#[92, 116]⟩ (by rfl) (by simp [ByteArray.size]; omega) (by omega) ?_; intro v2 w2 hown2 hgrow2; have h2 : Wrote B w w2 := Wrote.grown (w := wr) hx hB (HO.out.ext Xt) hgrow2; obtain ⟨a2, c2, rfl, -⟩ := hown2.form; have Hown2 := Lib.hid hown2; clear hown2 hgrow2)
        go_roundg (s.size - (k + 1))
        case measure => omega
        case rel => exact ⟨k + 1, acc ++ [92, 116], a2, c2, by omega, by go_num, rfl, by simp, Hown2.out, quote_step hlt Hacc.out (by rw [byte_of (n := 9) (by omega) c9]; rfl), by simp; omega, h2⟩
      have b9 : ((s[k].toNat : Int) == 9) = false := by simpa using c9
      by_cases hlo : (s[k].toNat : Int) < 32 ∨ (s[k].toNat : Int) = 127
      · obtain ⟨n1, hn1⟩ : ∃ n1 : Nat, s[k].toNat / 16 = n1 := ⟨_, rfl⟩
        obtain ⟨n2, hn2⟩ : ∃ n2 : Nat, s[k].toNat % 16 = n2 := ⟨_, rfl⟩
        have HE := Lib.hid (show escC s[k] = [92, 117, 48, 48, hexC n1, hexC n2] by
          have e : ∀ n : Nat, n < 256 → (s[k].toNat : Int) ≠ n → s[k] ≠ UInt8.ofNat n := fun n hn h h' => h (by rw [h']; simp; omega)
          have e34 : s[k] ≠ 34 := e 34 (by omega) c34
          have e92 : s[k] ≠ 92 := e 92 (by omega) c92
          have e8 : s[k] ≠ 8 := e 8 (by omega) c8
          have e12 : s[k] ≠ 12 := e 12 (by omega) c12
          have e10 : s[k] ≠ 10 := e 10 (by omega) c10
          have e13 : s[k] ≠ 13 := e 13 (by omega) c13
          have e9 : s[k] ≠ 9 := e 9 (by omega) c9
          have e32 : s[k].toNat < 32 ∨ s[k] = 127 := by
            rcases hlo with h | h
            · exact .inl (by omega)
            · exact .inr (byte_of (n := 127) (by omega) h)
          unfold escC
          simp only [e34, e92, e8, e12, e10, e13, e9, e32, or_self, if_false, if_true, hn1, hn2])
        have l0 : s[k].toNat < 128 := by omega
        by_cases hl : (s[k].toNat : Int) < 32
        · have b32 : decide ((s[k].toNat : Int) < 32) = true := by simpa using hl
          clear hlo
          go_wp2_with (at_builtin; refine wpl_apps (by rfl) _ _ _ _ (by rfl) (by rfl) (by rfl) B (.slice a0 acc.length c0) acc (by rfl) (HO.out.ext Xt) ⟨#[92, 117, 48, 48]⟩ (by rfl) (by simp [ByteArray.size]; omega) (by omega) ?_; intro v2 w2 hown2 hgrow2; have h2 : Wrote B w w2 := Wrote.grown (w := wr) hx hB (HO.out.ext Xt) hgrow2; obtain ⟨a2, c2, rfl, -⟩ := hown2.form; have Hown2 := Lib.hid hown2; clear hown2 hgrow2)
          have e1 : (s[k].toNat : Int) / 16 = (n1 : Int) := by omega
          have l1 : n1 < 16 := by omega
          have l1' : (n1 : Int) < 16 := by omega
          have e2 : bits BinOp.and IntKind.u8 (s[k].toNat : Int) 15 = (n2 : Int) := by rw [and15 _ hc255, hn2]
          have l2 : n2 < 16 := by omega
          have l2' : (n2 : Int) < 16 := by omega
          have g1 := hex_at n1 l1
          have g2 := hex_at n2 l2
          have Hown2 : Hid (OwnB w2 B (.slice a2 (acc.length + 4) c2) (acc ++ [92, 117, 48, 48])) := Lib.hid (by have := Hown2.out; simpa using this)
          have hz2 := h2.size
          go_region_law (refine step_app (by rfl) _ _ _ (by rfl) (by rfl) B (.slice a2 (acc.length + 4) c2) (acc ++ [92, 117, 48, 48]) (by rfl) (Hown2.out.ext Xt) ⟨_, 0, none⟩ 2 2 [hexC n1, hexC n2] (by rfl) (by rfl) (by decide) (World.news_of_block (cs := #[.int .u8 (hexC n1).toNat, .int .u8 (hexC n2).toNat]) (t := 5) (fr := (0, 0)) (heap_alloc_new _ _)) (by simp; omega) (by simp; omega) ?_; intro g3 cap3 w3 hown3 hgrow3; have h3 : Wrote B w w3 := Wrote.grown (h2.ext hB Xt) hB (Hown2.out.ext Xt) hgrow3; have Hown3 := Lib.hid hown3; clear hown3 hgrow3)
          all_goals
            go_wp2_with fail
            go_roundg (s.size - (k + 1))
            case measure => omega
            case rel => exact ⟨k + 1, acc ++ [92, 117, 48, 48, hexC n1, hexC n2], some ⟨g3, 0, none⟩, cap3, by omega, by go_num, rfl, by simp, by have := Hown3.out; simpa using this, quote_step hlt Hacc.out HE.out, by simp; omega, h3⟩
        · have b32 : decide ((s[k].toNat : Int) < 32) = false := by simpa using hl
          have b127 : ((s[k].toNat : Int) == 127) = true := by simpa using hlo.resolve_left hl
          clear hlo
          go_wp2_with (at_builtin; refine wpl_apps (by rfl) _ _ _ _ (by rfl) (by rfl) (by rfl) B (.slice a0 acc.length c0) acc (by rfl) (HO.out.ext Xt) ⟨#[92, 117, 48, 48]⟩ (by rfl) (by simp [ByteArray.size]; omega) (by omega) ?_; intro v2 w2 hown2 hgrow2; have h2 : Wrote B w w2 := Wrote.grown (w := wr) hx hB (HO.out.ext Xt) hgrow2; obtain ⟨a2, c2, rfl, -⟩ := hown2.form; have Hown2 := Lib.hid hown2; clear hown2 hgrow2)
          have e1 : (s[k].toNat : Int) / 16 = (n1 : Int) := by omega
          have l1 : n1 < 16 := by omega
          have l1' : (n1 : Int) < 16 := by omega
          have e2 : bits BinOp.and IntKind.u8 (s[k].toNat : Int) 15 = (n2 : Int) := by rw [and15 _ hc255, hn2]
          have l2 : n2 < 16 := by omega
          have l2' : (n2 : Int) < 16 := by omega
          have g1 := hex_at n1 l1
          have g2 := hex_at n2 l2
          have Hown2 : Hid (OwnB w2 B (.slice a2 (acc.length + 4) c2) (acc ++ [92, 117, 48, 48])) := Lib.hid (by have := Hown2.out; simpa using this)
          have hz2 := h2.size
          go_region_law (refine step_app (by rfl) _ _ _ (by rfl) (by rfl) B (.slice a2 (acc.length + 4) c2) (acc ++ [92, 117, 48, 48]) (by rfl) (Hown2.out.ext Xt) ⟨_, 0, none⟩ 2 2 [hexC n1, hexC n2] (by rfl) (by rfl) (by decide) (World.news_of_block (cs := #[.int .u8 (hexC n1).toNat, .int .u8 (hexC n2).toNat]) (t := 5) (fr := (0, 0)) (heap_alloc_new _ _)) (by simp; omega) (by simp; omega) ?_; intro g3 cap3 w3 hown3 hgrow3; have h3 : Wrote B w w3 := Wrote.grown (h2.ext hB Xt) hB (Hown2.out.ext Xt) hgrow3; have Hown3 := Lib.hid hown3; clear hown3 hgrow3)
          all_goals
            go_wp2_with fail
            go_roundg (s.size - (k + 1))
            case measure => omega
            case rel => exact ⟨k + 1, acc ++ [92, 117, 48, 48, hexC n1, hexC n2], some ⟨g3, 0, none⟩, cap3, by omega, by go_num, rfl, by simp, by have := Hown3.out; simpa using this, quote_step hlt Hacc.out HE.out, by simp; omega, h3⟩
      have c32 : ¬ (s[k].toNat : Int) < 32 := fun h => hlo (.inl h)
      have c127 : ¬ (s[k].toNat : Int) = 127 := fun h => hlo (.inr h)
      have b127 : ((s[k].toNat : Int) == 127) = false := by simpa using c127
      have b32 : decide ((s[k].toNat : Int) < 32) = false := by simpa using c32
      clear hlo
      have hE : escC s[k] = [s[k]] := by
        have e : ∀ n : Nat, n < 256 → (s[k].toNat : Int) ≠ n → s[k] ≠ UInt8.ofNat n := fun n hn h h' => h (by rw [h']; simp; omega)
        have e34 : s[k] ≠ 34 := e 34 (by omega) c34
        have e92 : s[k] ≠ 92 := e 92 (by omega) c92
        have e8 : s[k] ≠ 8 := e 8 (by omega) c8
        have e12 : s[k] ≠ 12 := e 12 (by omega) c12
        have e10 : s[k] ≠ 10 := e 10 (by omega) c10
        have e13 : s[k] ≠ 13 := e 13 (by omega) c13
        have e9 : s[k] ≠ 9 := e 9 (by omega) c9
        have e127 : s[k] ≠ 127 := e 127 (by omega) c127
        have e32 : ¬ s[k].toNat < 32 := by omega
        unfold escC
        simp only [e34, e92, e8, e12, e10, e13, e9, e127, e32, or_self, if_false]
      have HE := Lib.hid hE
      clear hE
      go_wp2_with (at_builtin; refine wpl_app (by rfl) _ _ _ (by rfl) (by rfl) B (.slice a0 acc.length c0) acc (by rfl) (HO.out.ext Xt) ⟨wr.heap.size, 0, none⟩ 1 1 [s[k]] (by rfl) (by rfl) (World.news_of_block (cs := #[.int .u8 s[k].toNat]) (t := 5) (fr := (0, 0)) (heap_alloc_new wr _)) (by omega) (by simp; omega) ?_; intro v2 w2 hown2 hgrow2; have h2 : Wrote B w w2 := Wrote.grown (w := wr.alloc _) (hx.ext hB Xt) hB (HO.out.ext Xt) hgrow2; obtain ⟨a2, c2, rfl, -⟩ := hown2.form; have Hown2 := Lib.hid hown2; clear hown2 hgrow2)
      go_roundg (s.size - (k + 1))
      case measure => omega
      case rel => exact ⟨k + 1, acc ++ [s[k]], a2, c2, by omega, by go_num, rfl, by simp, Hown2.out, quote_step hlt Hacc.out HE.out, by simp; omega, h2⟩
    · obtain rfl : k = s.size := by omega
      go_wp2_with (at_builtin; refine wpl_app (by rfl) _ _ _ (by rfl) (by rfl) B (.slice a0 acc.length c0) acc (by rfl) (HO.out.ext Xt) ⟨wr.heap.size, 0, none⟩ 1 1 [34] (by rfl) (by rfl) (World.news_of_block (cs := #[.int .u8 34]) (t := 5) (fr := (0, 0)) (heap_alloc_new wr _)) (by omega) (by simp; omega) ?_; intro v2 w2 hown2 hgrow2; have h2 : Wrote B w w2 := Wrote.grown (w := wr.alloc _) (hx.ext hB Xt) hB (HO.out.ext Xt) hgrow2; obtain ⟨a2, c2, rfl, -⟩ := hown2.form; have Hown2 := Lib.hid hown2; clear hown2 hgrow2)
      (with_reducible apply bp_ret); (focus (go_light; simp [results, Tryz.results148, go_sem, *]; rfl))
      refine ⟨_, rfl, ?_, h2⟩
      have e := Hacc.out
      rw [List.drop_eq_nil_of_le (by rw [Array.length_toList]; exact Nat.le_refl _), List.flatMap_nil, List.nil_append] at e
      rw [← e]
      simpa using Hown2.out
end Go.Proofs.YtjibdbnpkfghhaaGreatDoor
