/- Several texts in one. -/
import Derived.Test.YtjibdbnpkfghhaaGreatDoorPkA
import Derived.Lib.AtoiAll
import Derived.Lib.ItoaNum
set_option linter.all false
/- Plain functions of package json: text of a value, value of a text. No program in sight. -/
namespace Go.Proofs.YtjibdbnpkfghhaaGreatDoor
abbrev Bytes := List UInt8
def isSp (c : UInt8) : Bool := c == 32 || c == 9 || c == 10 || c == 13
def spaceL (s : Bytes) : Bytes := s.dropWhile isSp
def hexV (c : UInt8) : Option Nat :=
 if 48 ≤ c.toNat ∧ c.toNat ≤ 57 then some (c.toNat - 48) else if 97 ≤ c.toNat ∧ c.toNat ≤ 102 then some (c.toNat - 87) else if 65 ≤ c.toNat ∧ c.toNat ≤ 70 then some (c.toNat - 55) else none
def hex4 (s : Bytes) : Option (Nat × Bytes) :=
 match s with
 | a :: b :: c :: d :: t => (hexV a).bind fun a => (hexV b).bind fun b => (hexV c).bind fun c => (hexV d).bind fun d => some (((a * 16 + b) * 16 + c) * 16 + d, t)
 | _ => none
def escM (c : UInt8) : Option UInt8 :=
 if c = 34 then some 34 else if c = 92 then some 92 else if c = 47 then some 47 else if c = 98 then some 8 else if c = 102 then some 12 else if c = 110 then some 10 else if c = 114 then some 13 else if c = 116 then some 9 else none
def escL (s : Bytes) : Option (UInt8 × Bytes) :=
 match s with
 | [] => none
 | c :: t =>
  match escM c with
  | some m => some (m, t)
  | none => if c = 117 then (hex4 t).bind fun p => if p.1 < 128 then some (UInt8.ofNat p.1, p.2) else none else none
def textL : Nat → Bytes → Bytes → Option (Bytes × Bytes)
 | 0, _, _ => none
 | _ + 1, [], _ => none
 | f + 1, c :: t, b =>
  if c.toNat < 32 ∨ 127 ≤ c.toNat ∨ 60 < b.length then none
  else if c = 34 then some (b, t)
  else if c = 92 then (escL t).bind fun p => textL f p.2 (b ++ [p.1])
  else textL f t (b ++ [c])
def isDg (c : UInt8) : Bool := decide (48 ≤ c.toNat) && decide (c.toNat ≤ 57)
def numN (s : Bytes) : Nat := match s with
 | 45 :: t => (t.takeWhile isDg).length + 1
 | s => (s.takeWhile isDg).length
def numL (s : Bytes) : Option (Int × Bytes) :=
 if 17 < numN s then none else
 match Lib.atoiAll (s.take (numN s)) with
 | .ok k => if Lib.itoa k = s.take (numN s) ∧ -9007199254740992 ≤ k ∧ k ≤ 9007199254740992 then some (k, s.drop (numN s)) else none
 | _ => none
def listL (val : Bytes → Option (V × Bytes)) : Nat → Bytes → List V → Option (List V × Bytes)
 | 0, _, _ => none
 | g + 1, s, l =>
  match spaceL s with
  | [] => none
  | c :: t =>
   if c = 93 then some (l, t)
   else (if l = [] then some (c :: t) else if c = 44 then some t else none).bind fun s1 => (val s1).bind fun p => listL val g p.2 (l ++ [p.1])
def membL (val : Bytes → Option (V × Bytes)) (s : Bytes) : Option ((ByteArray × V) × Bytes) :=
 match spaceL s with
 | [] => none
 | c :: t =>
  if c = 34 then
   (textL (t.length + 1) t []).bind fun p =>
   match spaceL p.2 with
   | [] => none
   | c :: t => if c = 58 then (val t).map fun q => ((⟨p.1.toArray⟩, q.1), q.2) else none
  else none
def objL (val : Bytes → Option (V × Bytes)) : Nat → Bytes → List ByteArray → List V → Option ((List ByteArray × List V) × Bytes)
 | 0, _, _, _ => none
 | g + 1, s, ks, l =>
  match spaceL s with
  | [] => none
  | c :: t =>
   if c = 125 then some ((ks, l), t)
   else (if l = [] then some (c :: t) else if c = 44 then some t else none).bind fun s1 => (membL val s1).bind fun p =>
    if hasB ks p.1.1 = true then none
    else objL val g p.2 (ks.take (posOf ks p.1.1) ++ p.1.1 :: ks.drop (posOf ks p.1.1)) (l.take (posOf ks p.1.1) ++ p.1.2 :: l.drop (posOf ks p.1.1))
abbrev trueV : V := .mk 1 1 ⟨#[]⟩ [] []
abbrev falseV : V := .mk 1 0 ⟨#[]⟩ [] []
def valL : Nat → Bytes → Option (V × Bytes)
 | 0, _ => none
 | f + 1, s =>
  match spaceL s with
  | [] => none
  | c :: t =>
   if c = 110 then (if [117, 108, 108].isPrefixOf t = true then some (V.zero, t.drop 3) else none)
   else if c = 116 then (if [114, 117, 101].isPrefixOf t = true then some (trueV, t.drop 3) else none)
   else if c = 102 then (if [97, 108, 115, 101].isPrefixOf t = true then some (falseV, t.drop 4) else none)
   else if c = 34 then (textL (t.length + 1) t []).map fun p => (.mk 3 0 ⟨p.1.toArray⟩ [] [], p.2)
   else if c = 45 ∨ isDg c = true then (numL (c :: t)).map fun p => (.mk 2 p.1 ⟨#[]⟩ [] [], p.2)
   else if c = 91 then (listL (valL f) (t.length + 1) t []).map fun p => (.mk 4 0 ⟨#[]⟩ [] p.1, p.2)
   else if c = 123 then (objL (valL f) (t.length + 1) t [] []).map fun p => (.mk 5 0 ⟨#[]⟩ p.1.1 p.1.2, p.2)
   else none
def parseL (s : Bytes) : Option V := (valL 12 s).bind fun p => if spaceL p.2 = [] ∧ p.1.fine = true then some p.1 else none
def parseV (s : Bytes) : V × Int := if 2000 < s.length then (V.zero, 2) else match parseL s with | some v => (v, 0) | none => (V.zero, 1)
/-! What is read is shorter. -/
theorem spaceL_len (s : Bytes) : (spaceL s).length ≤ s.length := (List.dropWhile_sublist _).length_le
theorem escL_len {s : Bytes} {p : UInt8 × Bytes} (h : escL s = some p) : p.2.length < s.length := by
 unfold escL at h
 split at h
 ·cases h
 ·split at h
  ·cases h; simp
  ·split at h
   ·unfold hex4 at h
    split at h
    ·rename_i a b c d t' 
     cases ha : hexV a with
     | none => rw [ha] at h; cases h
     | some a => cases hb : hexV b with
      | none => rw [ha, hb] at h; cases h
      | some b => cases hc : hexV c with
       | none => rw [ha, hb, hc] at h; cases h
       | some c => cases hd : hexV d with
        | none => rw [ha, hb, hc, hd] at h; cases h
        | some d =>
         rw [ha, hb, hc, hd] at h
         simp only [Option.bind_some] at h
         split at h
         ·cases h; simp; omega
         ·cases h
    ·cases h
   ·cases h
theorem textL_len : ∀ (f : Nat) (s b : Bytes) (p : Bytes × Bytes), textL f s b = some p → p.2.length < s.length
 | 0, _, _, _, h => by cases h
 | _ + 1, [], _, _, h => by cases h
 | f + 1, c :: t, b, p, h => by
  rw [textL] at h
  split at h
  ·cases h
  ·split at h
   ·cases h; simp
   ·split at h
    ·cases he : escL t with
     | none => rw [he] at h; cases h
     | some q =>
      rw [he] at h
      have h1 := escL_len he
      have h2 := textL_len f _ _ _ h
      simp only [List.length_cons]; omega
    ·have h2 := textL_len f _ _ _ h
     simp only [List.length_cons]; omega
theorem numL_len {s : Bytes} {p : Int × Bytes} (h : numL s = some p) : p.2.length ≤ s.length ∧ (0 < numN s → s ≠ [] → p.2.length < s.length) := by
 unfold numL at h
 split at h
 ·cases h
 ·split at h
  ·split at h
   ·cases h
    refine ⟨by simp, fun h0 h1 => ?_⟩
    have := List.length_pos_iff.2 h1
    simp; omega
   ·cases h
  ·cases h
theorem listL_len {val : Bytes → Option (V × Bytes)} (hv : ∀ s p, val s = some p → p.2.length < s.length) : ∀ (g : Nat) (s : Bytes) (l : List V) (p : List V × Bytes), listL val g s l = some p → p.2.length < s.length
 | 0, _, _, _, h => by cases h
 | g + 1, s, l, p, h => by
  rw [listL] at h
  have hs := spaceL_len s
  split at h
  ·cases h
  ·rename_i c t he
   rw [he] at hs
   simp only [List.length_cons] at hs
   split at h
   ·cases h; simp only; omega
   ·split at h
    ·simp only [Option.bind_some] at h
     cases hq : val (c :: t) with
     | none => rw [hq] at h; cases h
     | some q =>
      rw [hq] at h
      have h1 := hv _ _ hq
      have h2 := listL_len hv g _ _ _ h
      simp only [List.length_cons] at h1; omega
    ·split at h
     ·simp only [Option.bind_some] at h
      cases hq : val t with
      | none => rw [hq] at h; cases h
      | some q =>
       rw [hq] at h
       have h1 := hv _ _ hq
       have h2 := listL_len hv g _ _ _ h
       omega
     ·cases h
theorem membL_len {val : Bytes → Option (V × Bytes)} (hv : ∀ s p, val s = some p → p.2.length < s.length) {s : Bytes} {p : (ByteArray × V) × Bytes} (h : membL val s = some p) : p.2.length < s.length := by
 unfold membL at h
 have hs := spaceL_len s
 split at h
 ·cases h
 ·rename_i c t he
  rw [he] at hs
  simp only [List.length_cons] at hs
  split at h
  ·cases hq : textL (t.length + 1) t [] with
   | none => rw [hq] at h; cases h
   | some q =>
    rw [hq] at h
    simp only [Option.bind_some] at h
    have h1 := textL_len _ _ _ _ hq
    have h2 := spaceL_len q.2
    split at h
    ·cases h
    ·rename_i c' t' he'
     rw [he'] at h2
     simp only [List.length_cons] at h2
     split at h
     ·cases hr : val t' with
      | none => rw [hr] at h; cases h
      | some r =>
       rw [hr] at h
       have h3 := hv _ _ hr
       cases h
       simp only; omega
     ·cases h
  ·cases h
theorem objL_len {val : Bytes → Option (V × Bytes)} (hv : ∀ s p, val s = some p → p.2.length < s.length) : ∀ (g : Nat) (s : Bytes) (ks : List ByteArray) (l : List V) (p : (List ByteArray × List V) × Bytes), objL val g s ks l = some p → p.2.length < s.length
 | 0, _, _, _, _, h => by cases h
 | g + 1, s, ks, l, p, h => by
  rw [objL] at h
  have hs := spaceL_len s
  split at h
  ·cases h
  ·rename_i c t he
   rw [he] at hs
   simp only [List.length_cons] at hs
   split at h
   ·cases h; simp only; omega
   ·have aux : ∀ s1 : Bytes, s1.length ≤ t.length + 1 → ((membL val s1).bind fun p => if hasB ks p.1.1 = true then none else objL val g p.2 (ks.take (posOf ks p.1.1) ++ p.1.1 :: ks.drop (posOf ks p.1.1)) (l.take (posOf ks p.1.1) ++ p.1.2 :: l.drop (posOf ks p.1.1))) = some p → p.2.length < s.length := by
     intro s1 h1 h
     cases hq : membL val s1 with
     | none => rw [hq] at h; cases h
     | some q =>
      rw [hq] at h
      simp only [Option.bind_some] at h
      split at h
      ·cases h
      ·have h2 := membL_len hv hq
       have h3 := objL_len hv g _ _ _ _ h
       omega
    split at h
    ·exact aux _ (by simp) h
    ·split at h
     ·exact aux _ (by omega) h
     ·cases h
theorem numN_pos {c : UInt8} {t : Bytes} (h : c = 45 ∨ isDg c = true) : 0 < numN (c :: t) := by
 unfold numN
 split
 ·omega
 ·rename_i hne
  rcases h with rfl | h
  ·exact absurd rfl (hne t)
  ·rw [List.takeWhile_cons, if_pos h]; simp
theorem valL_len : ∀ (f : Nat) (s : Bytes) (p : V × Bytes), valL f s = some p → p.2.length < s.length
 | 0, _, _, h => by cases h
 | f + 1, s, p, h => by
  rw [valL] at h
  have hs := spaceL_len s
  split at h
  ·cases h
  ·rename_i c t he
   rw [he] at hs
   simp only [List.length_cons] at hs
   repeat (split at h; rotate_left)
   all_goals first
    | (cases h; done)
    | (split at h; (first | (cases h; simp only [List.length_drop]; omega) | cases h); (first | (cases h; done) | skip))
    | skip
   ·simp only [Option.map_eq_some_iff] at h
    obtain ⟨q, hq, rfl⟩ := h
    have := textL_len _ _ _ _ hq
    simp only; omega
   ·rename_i hd
    simp only [Option.map_eq_some_iff] at h
    obtain ⟨q, hq, rfl⟩ := h
    have := (numL_len hq).2 (numN_pos hd) (by simp)
    simp only [List.length_cons] at this ⊢; omega
   ·simp only [Option.map_eq_some_iff] at h
    obtain ⟨q, hq, rfl⟩ := h
    have := listL_len (valL_len f) _ _ _ _ hq
    simp only; omega
   ·simp only [Option.map_eq_some_iff] at h
    obtain ⟨q, hq, rfl⟩ := h
    have := objL_len (valL_len f) _ _ _ _ _ hq
    simp only; omega
example : (parseV [32, 123, 34, 98, 34, 58, 32, 91, 49, 44, 32, 110, 117, 108, 108, 93, 125]).2 = 0 := by decide +kernel
end Go.Proofs.YtjibdbnpkfghhaaGreatDoor
/- What is printed is read as it: plain. No program in sight. -/
namespace Go.Proofs.YtjibdbnpkfghhaaGreatDoor
theorem isDg_iff {c : UInt8} : isDg c = true ↔ 48 ≤ c.toNat ∧ c.toNat ≤ 57 := by simp [isDg]
def Stop (s : Bytes) : Prop := ∀ c t, s = c :: t → isDg c = false
theorem u8_eta (c : UInt8) : UInt8.ofNat c.toNat = c := by apply UInt8.toNat_inj.1; simp
theorem dg_front {c : UInt8} (h : c = 45 ∨ isDg c = true) : isSp c = false ∧ c ≠ 93 ∧ c ≠ 125 ∧ c ≠ 44 ∧ c ≠ 110 ∧ c ≠ 116 ∧ c ≠ 102 ∧ c ≠ 34 := by
 rcases h with rfl | h
 ·decide
 ·rw [isDg_iff] at h
  have hn : ∀ d : UInt8, (d.toNat < 48 ∨ 57 < d.toNat) → c ≠ d := fun d hd e => by subst e; omega
  have e1 := hn 32 (by decide)
  have e2 := hn 9 (by decide)
  have e3 := hn 10 (by decide)
  have e4 := hn 13 (by decide)
  exact ⟨by simp [isSp, e1, e2, e3, e4], hn _ (by decide), hn _ (by decide), hn _ (by decide), hn _ (by decide), hn _ (by decide), hn _ (by decide), hn _ (by decide)⟩
end Go.Proofs.YtjibdbnpkfghhaaGreatDoor
/- Readings with fuel enough: the fuel does not matter. No program in sight. -/
namespace Go.Proofs.YtjibdbnpkfghhaaGreatDoor
theorem textL_fuel : ∀ (f f' : Nat) (s b : Bytes), s.length < f → s.length < f' → textL f s b = textL f' s b
 | 0, _, _, _, h, _ => absurd h (Nat.not_lt_zero _)
 | _, 0, _, _, _, h => absurd h (Nat.not_lt_zero _)
 | f + 1, f' + 1, [], b, _, _ => rfl
 | f + 1, f' + 1, c :: t, b, h, h' => by
  simp only [List.length_cons] at h h'
  rw [textL, textL]
  split
  ·rfl
  ·split
   ·rfl
   ·split
    ·cases he : escL t with
     | none => rfl
     | some p =>
      have := escL_len he
      simp only [Option.bind_some]; exact textL_fuel f f' _ _ (by omega) (by omega)
    ·exact textL_fuel f f' _ _ (by omega) (by omega)
def Lens (val : Bytes → Option (V × Bytes)) : Prop := ∀ s p, val s = some p → p.2.length < s.length
theorem listL_fuel {val : Bytes → Option (V × Bytes)} (hv : Lens val) : ∀ (f f' : Nat) (s : Bytes) (l : List V), s.length < f → s.length < f' → listL val f s l = listL val f' s l
 | 0, _, _, _, h, _ => absurd h (Nat.not_lt_zero _)
 | _, 0, _, _, _, h => absurd h (Nat.not_lt_zero _)
 | f + 1, f' + 1, s, l, h, h' => by
  rw [listL, listL]
  have hs := spaceL_len s
  split
  ·rfl
  ·rename_i c t he
   rw [he] at hs
   simp only [List.length_cons] at hs
   split
   ·rfl
   ·have aux : ∀ s1 : Bytes, s1.length ≤ t.length + 1 → ((val s1).bind fun p => listL val f p.2 (l ++ [p.1])) = ((val s1).bind fun p => listL val f' p.2 (l ++ [p.1])) := by
     intro s1 h1
     cases hq : val s1 with
     | none => rfl
     | some q =>
      have h2 := hv _ _ hq
      simp only [Option.bind_some]
      exact listL_fuel hv f f' _ _ (by omega) (by omega)
    split
    ·exact aux _ (by simp)
    ·split
     ·exact aux _ (by omega)
     ·rfl
theorem objL_fuel {val : Bytes → Option (V × Bytes)} (hv : Lens val) : ∀ (f f' : Nat) (s : Bytes) (ks : List ByteArray) (l : List V), s.length < f → s.length < f' → objL val f s ks l = objL val f' s ks l
 | 0, _, _, _, _, h, _ => absurd h (Nat.not_lt_zero _)
 | _, 0, _, _, _, _, h => absurd h (Nat.not_lt_zero _)
 | f + 1, f' + 1, s, ks, l, h, h' => by
  rw [objL, objL]
  have hs := spaceL_len s
  split
  ·rfl
  ·rename_i c t he
   rw [he] at hs
   simp only [List.length_cons] at hs
   split
   ·rfl
   ·have aux : ∀ s1 : Bytes, s1.length ≤ t.length + 1 → ((membL val s1).bind fun p => if hasB ks p.1.1 = true then none else objL val f p.2 (ks.take (posOf ks p.1.1) ++ p.1.1 :: ks.drop (posOf ks p.1.1)) (l.take (posOf ks p.1.1) ++ p.1.2 :: l.drop (posOf ks p.1.1))) = ((membL val s1).bind fun p => if hasB ks p.1.1 = true then none else objL val f' p.2 (ks.take (posOf ks p.1.1) ++ p.1.1 :: ks.drop (posOf ks p.1.1)) (l.take (posOf ks p.1.1) ++ p.1.2 :: l.drop (posOf ks p.1.1))) := by
     intro s1 h1
     cases hq : membL val s1 with
     | none => rfl
     | some q =>
      have h2 := membL_len hv hq
      simp only [Option.bind_some]
      split
      ·rfl
      ·exact objL_fuel hv f f' _ _ _ (by omega) (by omega)
    split
    ·exact aux _ (by simp)
    ·split
     ·exact aux _ (by omega)
     ·rfl
end Go.Proofs.YtjibdbnpkfghhaaGreatDoor
/- What is read is no greater than its text: in plain Lean, no program in sight. -/
namespace Go.Proofs.YtjibdbnpkfghhaaGreatDoor
theorem textL_size : ∀ (f : Nat) (s b : Bytes) (p : Bytes × Bytes), textL f s b = some p → p.1.length + p.2.length + 1 ≤ s.length + b.length
 | 0, _, _, _, h => by cases h
 | _ + 1, [], _, _, h => by cases h
 | f + 1, c :: t, b, p, h => by
  rw [textL] at h
  split at h
  ·cases h
  ·split at h
   ·cases h; simp; omega
   ·split at h
    ·cases he : escL t with
     | none => rw [he] at h; cases h
     | some q =>
      rw [he] at h
      have h1 := escL_len he
      have h2 := textL_size f _ _ _ h
      simp only [List.length_cons, List.length_append, List.length_nil] at *; omega
    ·have h2 := textL_size f _ _ _ h
     simp only [List.length_cons, List.length_append, List.length_nil] at *; omega
def Sized (val : Bytes → Option (V × Bytes)) : Prop := ∀ s p, val s = some p → p.1.size + p.2.length ≤ s.length
theorem listL_size {val : Bytes → Option (V × Bytes)} (hv : Sized val) : ∀ (g : Nat) (s : Bytes) (l : List V) (p : List V × Bytes), listL val g s l = some p → (p.1.map V.size).sum + p.2.length + 1 ≤ s.length + (l.map V.size).sum
 | 0, _, _, _, h => by cases h
 | g + 1, s, l, p, h => by
  rw [listL] at h
  have hs := spaceL_len s
  split at h
  ·cases h
  ·rename_i c t he
   rw [he] at hs
   simp only [List.length_cons] at hs
   split at h
   ·cases h; simp only; omega
   ·have aux : ∀ s1 : Bytes, s1.length ≤ t.length + 1 → ((val s1).bind fun p => listL val g p.2 (l ++ [p.1])) = some p → (p.1.map V.size).sum + p.2.length + 1 ≤ s.length + (l.map V.size).sum := by
     intro s1 h1 h
     cases hq : val s1 with
     | none => rw [hq] at h; cases h
     | some q =>
      rw [hq] at h
      have h2 := hv _ _ hq
      have h3 := listL_size hv g _ _ _ h
      simp only [List.map_append, List.sum_append, List.map_cons, List.map_nil, List.sum_cons, List.sum_nil] at h3
      omega
    split at h
    ·exact aux _ (by simp) h
    ·split at h
     ·exact aux _ (by omega) h
     ·cases h
theorem membL_size {val : Bytes → Option (V × Bytes)} (hv : Sized val) {s : Bytes} {p : (ByteArray × V) × Bytes} (h : membL val s = some p) : p.1.1.size + 1 + p.1.2.size + p.2.length ≤ s.length := by
 unfold membL at h
 have hs := spaceL_len s
 split at h
 ·cases h
 ·rename_i c t he
  rw [he] at hs
  simp only [List.length_cons] at hs
  split at h
  ·cases hq : textL (t.length + 1) t [] with
   | none => rw [hq] at h; cases h
   | some q =>
    rw [hq] at h
    simp only [Option.bind_some] at h
    have h1 := textL_size _ _ _ _ hq
    have h2 := spaceL_len q.2
    split at h
    ·cases h
    ·rename_i c' t' he'
     rw [he'] at h2
     simp only [List.length_cons, List.length_nil] at h1 h2
     split at h
     ·cases hr : val t' with
      | none => rw [hr] at h; cases h
      | some r =>
       rw [hr] at h
       have h3 := hv _ _ hr
       cases h
       simp only [ByteArray.size, List.size_toArray]; omega
     ·cases h
  ·cases h
theorem sum_ins {α : Type} (f : α → Nat) (l : List α) (k : Nat) (x : α) : ((l.take k ++ x :: l.drop k).map f).sum = (l.map f).sum + f x := by
 have h : (l.map f).sum = ((l.take k).map f).sum + ((l.drop k).map f).sum := by rw [← List.sum_append, ← List.map_append, List.take_append_drop]
 simp only [List.map_append, List.map_cons, List.sum_append, List.sum_cons]; omega
theorem objL_size {val : Bytes → Option (V × Bytes)} (hv : Sized val) : ∀ (g : Nat) (s : Bytes) (ks : List ByteArray) (l : List V) (p : (List ByteArray × List V) × Bytes), objL val g s ks l = some p → strsSize p.1.1 + (p.1.2.map V.size).sum + p.2.length + 1 ≤ s.length + strsSize ks + (l.map V.size).sum
 | 0, _, _, _, _, h => by cases h
 | g + 1, s, ks, l, p, h => by
  rw [objL] at h
  have hs := spaceL_len s
  split at h
  ·cases h
  ·rename_i c t he
   rw [he] at hs
   simp only [List.length_cons] at hs
   split at h
   ·cases h; simp only; omega
   ·have aux : ∀ s1 : Bytes, s1.length ≤ t.length + 1 → ((membL val s1).bind fun p => if hasB ks p.1.1 = true then none else objL val g p.2 (ks.take (posOf ks p.1.1) ++ p.1.1 :: ks.drop (posOf ks p.1.1)) (l.take (posOf ks p.1.1) ++ p.1.2 :: l.drop (posOf ks p.1.1))) = some p → strsSize p.1.1 + (p.1.2.map V.size).sum + p.2.length + 1 ≤ s.length + strsSize ks + (l.map V.size).sum := by
     intro s1 h1 h
     cases hq : membL val s1 with
     | none => rw [hq] at h; cases h
     | some q =>
      rw [hq] at h
      simp only [Option.bind_some] at h
      split at h
      ·cases h
      ·have h2 := membL_size hv hq
       have h3 := objL_size hv g _ _ _ _ h
       unfold strsSize at *
       rw [sum_ins, sum_ins] at h3
       omega
    split at h
    ·exact aux _ (by simp) h
    ·split at h
     ·exact aux _ (by omega) h
     ·cases h
theorem valL_size : ∀ (f : Nat), Sized (valL f)
 | 0, _, _, h => by cases h
 | f + 1, s, p, h => by
  rw [valL] at h
  have hs := spaceL_len s
  split at h
  ·cases h
  ·rename_i c t he
   rw [he] at hs
   simp only [List.length_cons] at hs
   have hz : V.zero.size = 1 := by rw [V.size_eq]; rfl
   have ht : trueV.size = 1 := by rw [V.size_eq]; rfl
   have hf : falseV.size = 1 := by rw [V.size_eq]; rfl
   repeat (split at h; rotate_left)
   all_goals first
    | (cases h; done)
    | (split at h; (first | (cases h; simp only [List.length_drop, hz, ht, hf]; omega) | cases h); (first | (cases h; done) | skip))
    | skip
   ·simp only [Option.map_eq_some_iff] at h
    obtain ⟨q, hq, rfl⟩ := h
    have := textL_size _ _ _ _ hq
    rw [V.size_eq]
    simp only [V.s_mk, V.keys_mk, V.l_mk, ByteArray.size, List.size_toArray, strsSize, List.map_nil, List.sum_nil, List.length_nil] at *; omega
   ·rename_i hd
    simp only [Option.map_eq_some_iff] at h
    obtain ⟨q, hq, rfl⟩ := h
    have := (numL_len hq).2 (numN_pos hd) (by simp)
    rw [V.size_eq]
    simp only [V.s_mk, V.keys_mk, V.l_mk, strsSize, List.map_nil, List.sum_nil, List.length_cons, show (⟨#[]⟩ : ByteArray).size = 0 from rfl] at *; omega
   ·simp only [Option.map_eq_some_iff] at h
    obtain ⟨q, hq, rfl⟩ := h
    have := listL_size (valL_size f) _ _ _ _ hq
    rw [V.size_eq]
    simp only [V.s_mk, V.keys_mk, V.l_mk, strsSize, List.map_nil, List.sum_nil, show (⟨#[]⟩ : ByteArray).size = 0 from rfl] at *; omega
   ·simp only [Option.map_eq_some_iff] at h
    obtain ⟨q, hq, rfl⟩ := h
    have := objL_size (valL_size f) _ _ _ _ _ hq
    rw [V.size_eq]
    simp only [V.s_mk, V.keys_mk, V.l_mk, strsSize, List.map_nil, List.sum_nil, show (⟨#[]⟩ : ByteArray).size = 0 from rfl] at *; omega
end Go.Proofs.YtjibdbnpkfghhaaGreatDoor
