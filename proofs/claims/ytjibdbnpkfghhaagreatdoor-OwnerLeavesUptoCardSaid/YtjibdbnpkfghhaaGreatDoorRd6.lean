/- The walk of the reader's object. -/
import Derived.Test.YtjibdbnpkfghhaaGreatDoorRd5
import Derived.Test.YtjibdbnpkfghhaaGreatDoorPkG
import Derived.Test.YtjibdbnpkfghhaaGreatDoorSlV
import Derived.Test.YtjibdbnpkfghhaaGreatDoorSlS
set_option linter.all false
namespace Go.Proofs.YtjibdbnpkfghhaaGreatDoor
open Go.RowKit
attribute [local go_sem ↓] Go.wp_at_zero Go.wp_at_succ
abbrev Beside (base : Nat) (vk vl : Value) (b : Nat) : Prop := base ≤ b ∧ vk.ownBlock ≠ some b ∧ vl.ownBlock ≠ some b
structure OwnO (w : World) (base : Nat) (vk vl : Value) (n : Nat) (ks : List ByteArray) (l : List V) : Prop where
 nk : ks.length = n
 nl : l.length = n
 keys : w.ownsRow base 9 1 vk n (ks.map Value.string)
 items : ∃ xs, w.ownsRow base 25 5 vl n xs ∧ CellsOf w (Beside base vk vl) l xs
theorem OwnO.nil (w : World) (base : Nat) : OwnO w base (.slice none 0 0) (.slice none 0 0) 0 [] [] := ⟨rfl, rfl, World.ownsRow_nil _ _ _ _, [], World.ownsRow_nil _ _ _ _, rfl⟩
theorem OwnO.keep {w w' : World} {base : Nat} {vk vl : Value} {n : Nat} {ks : List ByteArray} {l : List V} (h : OwnO w base vk vl n ks l) (e : ∀ b, b < w.heap.size → base ≤ b → w'.heap[b]? = w.heap[b]?) : OwnO w' base vk vl n ks l := by
 obtain ⟨h1, h2, h3, xs, h4, h5⟩ := h
 exact ⟨h1, h2, ownsRow_keep h3 (fun b hb hg => e b hb (h3.lt b hg).1), xs, ownsRow_keep h4 (fun b hb hg => e b hb (h4.lt b hg).1), h5.keep (fun b hb hl => e b hl hb.1) (fun _ h _ => h)⟩
theorem OwnO.rd {r base n : Nat} {w w' : World} {vk vl : Value} {ks : List ByteArray} {l : List V} (h : OwnO w base vk vl n ks l) (e : Rd r w w') (hr : r < base) : OwnO w' base vk vl n ks l :=
 h.keep (fun b hb hk => e.held.block b (by omega) hb)
theorem OwnO.ext {base n : Nat} {w w' : World} {vk vl : Value} {ks : List ByteArray} {l : List V} (h : OwnO w base vk vl n ks l) (e : Ext w w') : OwnO w' base vk vl n ks l :=
 h.keep (fun b hb _ => Below.block e b hb)
theorem OwnO.obj {w : World} {base n : Nat} {ka : Option Addr} {kc : Nat} {la : Option Addr} {lc : Nat} {ks : List ByteArray} {l : List V} (h : OwnO w base (.slice ka n kc) (.slice la n lc) n ks l) : (V.mk 5 0 ⟨#[]⟩ ks l).In w (fun b => base ≤ b) ka kc la lc := by
 obtain ⟨h1, h2, h3, xs, h4, h5⟩ := h
 obtain ⟨a, c, he, hok, -, hst⟩ := OwnS.strs (w := w) (base := base) (v := .slice ka n kc) ⟨h1, h3⟩
 simp only [Value.slice.injEq, true_and] at he
 obtain ⟨rfl, rfl⟩ := he
 obtain ⟨a2, c2, he2, hok2⟩ := owns_form h4
 simp only [Value.slice.injEq, true_and] at he2
 obtain ⟨rfl, rfl⟩ := he2
 refine (V.in_iff ..).2 ⟨by rw [V.keys_mk, h1]; exact hok, by rw [V.l_mk, h2]; exact hok2, hst, ?_⟩
 cases n with
 | zero => exact .inl (List.length_eq_zero_iff.1 h2)
 | succ m =>
  obtain ⟨g, cur, rfl, hgb, hBg, hcz, hits⟩ := own_items (Nat.succ_pos m) h2 h4 h5
  refine .inr ⟨g, 0, rfl, hgb, fun i hi => ?_⟩
  rw [Nat.zero_add]
  exact (hits i hi).mono (fun b h => h.1)
def ObInv (val : Bytes → Option (V × Bytes)) (R : Option ((List ByteArray × List V) × Bytes)) (s : ByteArray) (bad : Bool) (ks : List ByteArray) (l : List V) : Prop :=
 (bad = true → s.data.toList = []) ∧ (bad = false → Rises ks) ∧ ((bad = false ∧ objL val (s.size + 1) s.data.toList ks l = R) ∨ (bad = true ∧ R = none))
def obK (val : Bytes → Option (V × Bytes)) (n : Nat) (ks : List ByteArray) (l : List V) (s1 : Bytes) : Option ((List ByteArray × List V) × Bytes) :=
 (membL val s1).bind fun p => if hasB ks p.1.1 = true then none else objL val n p.2 (ks.take (posOf ks p.1.1) ++ p.1.1 :: ks.drop (posOf ks p.1.1)) (l.take (posOf ks p.1.1) ++ p.1.2 :: l.drop (posOf ks p.1.1))
theorem ob_front {val : Bytes → Option (V × Bytes)} {R : Option ((List ByteArray × List V) × Bytes)} {s : ByteArray} {ks : List ByteArray} {l : List V} (h : ObInv val R s false ks l) :
  R = Front1 125 (decide (l = [])) (fun t => some ((ks, l), t)) (obK val s.size ks l) s.data.toList := by
 rcases h.2.2 with ⟨-, h⟩ | ⟨h, -⟩
 ·rw [← h, objL]
  unfold Front1
  cases spaceL s.data.toList with
  | nil => rfl
  | cons c t => simp only [decide_eq_true_eq]; rfl
 ·cases h
theorem obK_nil (val : Bytes → Option (V × Bytes)) (n : Nat) (ks : List ByteArray) (l : List V) : obK val n ks l [] = none := rfl
def MemS (val : Bytes → Option (V × Bytes)) (s3 : Bytes) (key : ByteArray) (x : V) (s8 : ByteArray) (bad : Bool) : Prop :=
 (bad = false ∧ membL val s3 = some ((key, x), s8.data.toList)) ∨ (bad = true ∧ s8.data.toList = [] ∧ membL val s3 = none)
theorem memb_no {val : Bytes → Option (V × Bytes)} {s : Bytes} (h : headB (spaceL s) ≠ 34) : membL val s = none := by
 unfold membL
 cases hq : spaceL s with
 | nil => rfl
 | cons c t => rw [hq] at h; have h : c ≠ 34 := h; simp only [if_neg h]
theorem memb_key {val : Bytes → Option (V × Bytes)} {s t : Bytes} (h : spaceL s = 34 :: t) : membL val s = (textL (t.length + 1) t []).bind fun p => match spaceL p.2 with
   | [] => none
   | c :: t => if c = 58 then (val t).map fun q => ((⟨p.1.toArray⟩, q.1), q.2) else none := by
 unfold membL
 rw [h]; rfl
def KeyS (val : Bytes → Option (V × Bytes)) (s3 : Bytes) (key : ByteArray) (s7 : ByteArray) (bad : Bool) : Prop :=
 (bad = false ∧ membL val s3 = (val s7.data.toList).map fun q => ((key, q.1), q.2)) ∨ (bad = true ∧ s7.data.toList = [] ∧ membL val s3 = none)
theorem key_colon {val : Bytes → Option (V × Bytes)} {s3 t : Bytes} (hs : spaceL s3 = 34 :: t) {key s5 s7 : ByteArray} {bad5 bad7 : Bool}
  (h5 : (bad5 = false ∧ textL (t.length + 1) t [] = some (key.data.toList, s5.data.toList)) ∨ (bad5 = true ∧ s5.data.toList = [] ∧ textL (t.length + 1) t [] = none))
  (h7 : (([58] : Bytes).isPrefixOf (spaceL s5.data.toList) = true ∧ s7.data.toList = (spaceL s5.data.toList).drop 1 ∧ bad7 = bad5) ∨ (([58] : Bytes).isPrefixOf (spaceL s5.data.toList) = false ∧ s7.data.toList = [] ∧ bad7 = true)) : KeyS val s3 key s7 bad7 := by
 have hm := memb_key (val := val) hs
 rcases h5 with ⟨rfl, h5⟩ | ⟨rfl, h0, h5⟩
 ·rw [h5] at hm
  simp only [Option.bind_some] at hm
  have hkey : (⟨key.data.toList.toArray⟩ : ByteArray) = key := by simp
  rcases h7 with ⟨hp, h7, rfl⟩ | ⟨hp, h7, rfl⟩
  ·refine .inl ⟨rfl, ?_⟩
   rw [hm, h7]
   cases hq : spaceL s5.data.toList with
   | nil => rw [hq] at hp; simp [List.isPrefixOf] at hp
   | cons c u =>
    rw [hq] at hp
    simp only [List.isPrefixOf, Bool.and_true, beq_iff_eq] at hp
    subst hp
    simp only [if_true, hkey]; rfl
  ·refine .inr ⟨rfl, h7, ?_⟩
   rw [hm]
   cases hq : spaceL s5.data.toList with
   | nil => rfl
   | cons c u =>
    rw [hq] at hp
    have hc : c ≠ 58 := fun h => by subst h; simp [List.isPrefixOf] at hp
    simp only [if_neg hc]
 ·rw [h5] at hm
  have hsp : spaceL s5.data.toList = [] := by rw [h0]; rfl
  rw [hsp] at h7
  rcases h7 with ⟨hp, -⟩ | ⟨-, h7, rfl⟩
  ·simp [List.isPrefixOf] at hp
  ·exact .inr ⟨rfl, h7, hm⟩
theorem key_val {val : Bytes → Option (V × Bytes)} (hv : val [] = none) {s3 : Bytes} {key s7 s8 : ByteArray} {x : V} {bad7 bad8 : Bool} (h : KeyS val s3 key s7 bad7)
  (h8 : (bad8 = false ∧ val s7.data.toList = some (x, s8.data.toList)) ∨ (bad8 = true ∧ s8.data.toList = [] ∧ val s7.data.toList = none)) : MemS val s3 key x s8 bad8 := by
 rcases h with ⟨rfl, h⟩ | ⟨rfl, h0, h⟩
 ·rcases h8 with ⟨rfl, h8⟩ | ⟨rfl, h1, h8⟩
  ·exact .inl ⟨rfl, by rw [h, h8]; rfl⟩
  ·exact .inr ⟨rfl, h1, by rw [h, h8]; rfl⟩
 ·rw [h0, hv] at h8
  rcases h8 with ⟨-, h8⟩ | ⟨rfl, h1, -⟩
  ·cases h8
  ·exact .inr ⟨rfl, h1, h⟩
theorem ob_next {f : Nat} {R : Option ((List ByteArray × List V) × Bytes)} {n : Nat} {s3 s8 : ByteArray} {bad : Bool} {ks : List ByteArray} {l : List V} {key : ByteArray} {x : V} (hr : Rises ks) (hR : R = obK (valL f) n ks l s3.data.toList) (h3 : s3.size ≤ n)
  (h : MemS (valL f) s3.data.toList key x s8 bad) (hb : hasB ks key = false) : s8.size + (if bad = true then 0 else 1) < n + 1 ∧ ObInv (valL f) R s8 bad (ks.take (posOf ks key) ++ key :: ks.drop (posOf ks key)) (l.take (posOf ks key) ++ x :: l.drop (posOf ks key)) := by
 have e3 : s3.data.toList.length = s3.size := Array.length_toList
 have e8 : s8.data.toList.length = s8.size := Array.length_toList
 rcases h with ⟨rfl, h⟩ | ⟨rfl, h0, h⟩
 ·have hl := membL_len (fun s p h => valL_len f s p h) h
  simp only at hl
  refine ⟨by simp; omega, (fun h => by cases h), fun _ => rises_insert hr hb, .inl ⟨rfl, ?_⟩⟩
  rw [hR]
  unfold obK
  rw [h]
  simp only [Option.bind_some]
  rw [if_neg (by rw [hb]; decide)]
  exact objL_fuel (fun s p h => valL_len f s p h) _ _ _ _ _ (by omega) (by omega)
 ·rw [h0] at e8
  refine ⟨by simp at e8 ⊢; omega, fun _ => h0, (fun h => by cases h), .inr ⟨rfl, by rw [hR]; unfold obK; rw [h]; rfl⟩⟩
theorem ob_twice {f : Nat} {R : Option ((List ByteArray × List V) × Bytes)} {n : Nat} {s3 s8 s9 : ByteArray} {bad : Bool} {ks ks' : List ByteArray} {l l' : List V} {key : ByteArray} {x : V} (hR : R = obK (valL f) n ks l s3.data.toList)
  (h : MemS (valL f) s3.data.toList key x s8 bad) (hb : hasB ks key = true) (h9 : s9.data.toList = []) : s9.size + (if true = true then 0 else 1) < n + 1 ∧ ObInv (valL f) R s9 true ks' l' := by
 have e9 : s9.data.toList.length = s9.size := Array.length_toList
 rw [h9] at e9
 refine ⟨by simp at e9 ⊢; omega, fun _ => h9, (fun h => by cases h), .inr ⟨rfl, ?_⟩⟩
 rw [hR]
 unfold obK
 rcases h with ⟨rfl, h⟩ | ⟨rfl, h0, h⟩
 ·rw [h]; simp only [Option.bind_some]; rw [if_pos hb]
 ·rw [h]; rfl
end Go.Proofs.YtjibdbnpkfghhaaGreatDoor
