/- Plain functions of package json: text of a value, value of a text. No program in sight. -/
import Derived.Test.YtknnflobpjppfaaDoorObjP
import Derived.Lib.AtoiAll
import Derived.Lib.ItoaNum
set_option linter.all false
namespace Go.Proofs.YtknnflobpjppfaaDoor

abbrev Bytes := List UInt8
def hexC (n : Nat) : UInt8 := if n < 10 then UInt8.ofNat (48 + n) else UInt8.ofNat (87 + n)
/-- One letter, as it stands in quotes. -/
def escC (c : UInt8) : Bytes :=
  if c = 34 ∨ c = 92 then [92, c] else if c = 8 then [92, 98] else if c = 12 then [92, 102] else if c = 10 then [92, 110] else if c = 13 then [92, 114] else if c = 9 then [92, 116]
  else if c.toNat < 32 ∨ c = 127 then [92, 117, 48, 48, hexC (c.toNat / 16), hexC (c.toNat % 16)] else [c]
def quoteL (s : Bytes) : Bytes := 34 :: (s.flatMap escC ++ [34])

/-- A value's text. -/
def V.text : V → Bytes
  | .mk k n s ks l =>
    if k = 0 then [110, 117, 108, 108] else if k = 1 then (if n = 1 then [116, 114, 117, 101] else [102, 97, 108, 115, 101]) else if k = 2 then Lib.itoa n else if k = 3 then quoteL s.data.toList
    else if k = 5 then 123 :: (go true true ks l ++ [125]) else 91 :: (go false true ks l ++ [93])
where go : Bool → Bool → List ByteArray → List V → Bytes
  | _, _, _, [] => []
  | o, first, ks, x :: r => (if first then [] else [44]) ++ ((if o then quoteL (ks.headD ⟨#[]⟩).data.toList ++ [58] else []) ++ (V.text x ++ go o false ks.tail r))

def isSp (c : UInt8) : Bool := c == 32 || c == 9 || c == 10 || c == 13
def spaceL (s : Bytes) : Bytes := s.dropWhile isSp
def hexV (c : UInt8) : Option Nat :=
  if 48 ≤ c.toNat ∧ c.toNat ≤ 57 then some (c.toNat - 48) else if 97 ≤ c.toNat ∧ c.toNat ≤ 102 then some (c.toNat - 87) else if 65 ≤ c.toNat ∧ c.toNat ≤ 70 then some (c.toNat - 55) else none
/-- Four digits. -/
def hex4 (s : Bytes) : Option (Nat × Bytes) :=
  match s with
  | a :: b :: c :: d :: t => (hexV a).bind fun a => (hexV b).bind fun b => (hexV c).bind fun c => (hexV d).bind fun d => some (((a * 16 + b) * 16 + c) * 16 + d, t)
  | _ => none
/-- The letter that a letter behind a backslash means. -/
def escM (c : UInt8) : Option UInt8 :=
  if c = 34 then some 34 else if c = 92 then some 92 else if c = 47 then some 47 else if c = 98 then some 8 else if c = 102 then some 12 else if c = 110 then some 10 else if c = 114 then some 13 else if c = 116 then some 9 else none
/-- What stands behind a backslash. -/
def escL (s : Bytes) : Option (UInt8 × Bytes) :=
  match s with
  | [] => none
  | c :: t =>
    match escM c with
    | some m => some (m, t)
    | none => if c = 117 then (hex4 t).bind fun p => if p.1 < 128 then some (UInt8.ofNat p.1, p.2) else none else none
/-- What stands in quotes, behind the first one. -/
def textL : Nat → Bytes → Bytes → Option (Bytes × Bytes)
  | 0, _, _ => none
  | _ + 1, [], _ => none
  | f + 1, c :: t, b =>
    if c.toNat < 32 ∨ 127 ≤ c.toNat ∨ 60 < b.length then none
    else if c = 34 then some (b, t)
    else if c = 92 then (escL t).bind fun p => textL f p.2 (b ++ [p.1])
    else textL f t (b ++ [c])
def isDg (c : UInt8) : Bool := decide (48 ≤ c.toNat) && decide (c.toNat ≤ 57)
/-- How many letters of a number stand in front. -/
def numN (s : Bytes) : Nat := match s with
  | 45 :: t => (t.takeWhile isDg).length + 1
  | s => (s.takeWhile isDg).length
/-- A number that stands in front. -/
def numL (s : Bytes) : Option (Int × Bytes) :=
  if 17 < numN s then none else
  match Lib.atoiAll (s.take (numN s)) with
  | .ok k => if Lib.itoa k = s.take (numN s) ∧ -9007199254740992 ≤ k ∧ k ≤ 9007199254740992 then some (k, s.drop (numN s)) else none
  | _ => none

/-- The items of a list, each by val. -/
def listL (val : Bytes → Option (V × Bytes)) : Nat → Bytes → List V → Option (List V × Bytes)
  | 0, _, _ => none
  | g + 1, s, l =>
    match spaceL s with
    | [] => none
    | c :: t =>
      if c = 93 then some (l, t)
      else (if l = [] then some (c :: t) else if c = 44 then some t else none).bind fun s1 => (val s1).bind fun p => listL val g p.2 (l ++ [p.1])
/-- A member: its key, its value. -/
def membL (val : Bytes → Option (V × Bytes)) (s : Bytes) : Option ((ByteArray × V) × Bytes) :=
  match spaceL s with
  | [] => none
  | c :: t =>
    if c = 34 then
      (textL (t.length + 1) t []).bind fun p =>
      match spaceL p.2 with
      | [] => none
      | c :: t => if c = 58 then (val t).map fun q => ((⟨p.1.toArray⟩, q.1), q.2) else none
    else none
/-- The members of an object. -/
def objL (val : Bytes → Option (V × Bytes)) : Nat → Bytes → List ByteArray → List V → Option ((List ByteArray × List V) × Bytes)
  | 0, _, _, _ => none
  | g + 1, s, ks, l =>
    match spaceL s with
    | [] => none
    | c :: t =>
      if c = 125 then some ((ks, l), t)
      else (if l = [] then some (c :: t) else if c = 44 then some t else none).bind fun s1 => (membL val s1).bind fun p =>
        if hasB ks p.1.1 = true then none
        else objL val g p.2 (ks.take (posOf ks p.1.1) ++ p.1.1 :: ks.drop (posOf ks p.1.1)) (l.take (posOf ks p.1.1) ++ p.1.2 :: l.drop (posOf ks p.1.1))
abbrev trueV : V := .mk 1 1 ⟨#[]⟩ [] []
abbrev falseV : V := .mk 1 0 ⟨#[]⟩ [] []
/-- A value that stands in front. -/
def valL : Nat → Bytes → Option (V × Bytes)
  | 0, _ => none
  | f + 1, s =>
    match spaceL s with
    | [] => none
    | c :: t =>
      if c = 110 then (if [117, 108, 108].isPrefixOf t = true then some (V.zero, t.drop 3) else none)
      else if c = 116 then (if [114, 117, 101].isPrefixOf t = true then some (trueV, t.drop 3) else none)
      else if c = 102 then (if [97, 108, 115, 101].isPrefixOf t = true then some (falseV, t.drop 4) else none)
      else if c = 34 then (textL (t.length + 1) t []).map fun p => (.mk 3 0 ⟨p.1.toArray⟩ [] [], p.2)
      else if c = 45 ∨ isDg c = true then (numL (c :: t)).map fun p => (.mk 2 p.1 ⟨#[]⟩ [] [], p.2)
      else if c = 91 then (listL (valL f) (t.length + 1) t []).map fun p => (.mk 4 0 ⟨#[]⟩ [] p.1, p.2)
      else if c = 123 then (objL (valL f) (t.length + 1) t [] []).map fun p => (.mk 5 0 ⟨#[]⟩ p.1.1 p.1.2, p.2)
      else none
/-- A text's value. -/
def parseL (s : Bytes) : Option V := (valL 12 s).bind fun p => if spaceL p.2 = [] ∧ p.1.fine = true then some p.1 else none
def parseV (s : Bytes) : V × Int := if 2000 < s.length then (V.zero, 2) else match parseL s with | some v => (v, 0) | none => (V.zero, 1)
def printV (x : V) : Bytes × Int := if x.fine = false then ([], 1) else if 2000 < x.text.length then ([], 2) else (x.text, 0)

theorem parse_fine {s : Bytes} {v : V} (h : parseL s = some v) : v.fine = true := by
  unfold parseL at h
  cases hv : valL 12 s with
  | none => rw [hv] at h; cases h
  | some p =>
    rw [hv] at h
    simp only [Option.bind_some] at h
    split at h
    · rename_i hc; cases h; exact hc.2
    · cases h

/-! What is read is shorter. -/
theorem spaceL_len (s : Bytes) : (spaceL s).length ≤ s.length := (List.dropWhile_sublist _).length_le
theorem escL_len {s : Bytes} {p : UInt8 × Bytes} (h : escL s = some p) : p.2.length < s.length := by
  unfold escL at h
  split at h
  · cases h
  · split at h
    · cases h; simp
    · split at h
      · unfold hex4 at h
        split at h
        · rename_i a b c d t' 
          cases ha : hexV a with
          | none => rw [ha] at h; cases h
          | some a => cases hb : hexV b with
            | none => rw [ha, hb] at h; cases h
            | some b => cases hc : hexV c with
              | none => rw [ha, hb, hc] at h; cases h
              | some c => cases hd : hexV d with
                | none => rw [ha, hb, hc, hd] at h; cases h
                | some d =>
                  rw [ha, hb, hc, hd] at h
                  simp only [Option.bind_some] at h
                  split at h
                  · cases h; simp; omega
                  · cases h
        · cases h
      · cases h
theorem textL_len : ∀ (f : Nat) (s b : Bytes) (p : Bytes × Bytes), textL f s b = some p → p.2.length < s.length
  | 0, _, _, _, h => by cases h
  | _ + 1, [], _, _, h => by cases h
  | f + 1, c :: t, b, p, h => by
    rw [textL] at h
    split at h
    · cases h
    · split at h
      · cases h; simp
      · split at h
        · cases he : escL t with
          | none => rw [he] at h; cases h
          | some q =>
            rw [he] at h
            have h1 := escL_len he
            have h2 := textL_len f _ _ _ h
            simp only [List.length_cons]; omega
        · have h2 := textL_len f _ _ _ h
          simp only [List.length_cons]; omega
theorem numL_len {s : Bytes} {p : Int × Bytes} (h : numL s = some p) : p.2.length ≤ s.length ∧ (0 < numN s → s ≠ [] → p.2.length < s.length) := by
  unfold numL at h
  split at h
  · cases h
  · split at h
    · split at h
      · cases h
        refine ⟨by simp, fun h0 h1 => ?_⟩
        have := List.length_pos_iff.2 h1
        simp; omega
      · cases h
    · cases h
theorem listL_len {val : Bytes → Option (V × Bytes)} (hv : ∀ s p, val s = some p → p.2.length < s.length) : ∀ (g : Nat) (s : Bytes) (l : List V) (p : List V × Bytes), listL val g s l = some p → p.2.length < s.length
  | 0, _, _, _, h => by cases h
  | g + 1, s, l, p, h => by
    rw [listL] at h
    have hs := spaceL_len s
    split at h
    · cases h
    · rename_i c t he
      rw [he] at hs
      simp only [List.length_cons] at hs
      split at h
      · cases h; simp only; omega
      · split at h
        · simp only [Option.bind_some] at h
          cases hq : val (c :: t) with
          | none => rw [hq] at h; cases h
          | some q =>
            rw [hq] at h
            have h1 := hv _ _ hq
            have h2 := listL_len hv g _ _ _ h
            simp only [List.length_cons] at h1; omega
        · split at h
          · simp only [Option.bind_some] at h
            cases hq : val t with
            | none => rw [hq] at h; cases h
            | some q =>
              rw [hq] at h
              have h1 := hv _ _ hq
              have h2 := listL_len hv g _ _ _ h
              omega
          · cases h
theorem membL_len {val : Bytes → Option (V × Bytes)} (hv : ∀ s p, val s = some p → p.2.length < s.length) {s : Bytes} {p : (ByteArray × V) × Bytes} (h : membL val s = some p) : p.2.length < s.length := by
  unfold membL at h
  have hs := spaceL_len s
  split at h
  · cases h
  · rename_i c t he
    rw [he] at hs
    simp only [List.length_cons] at hs
    split at h
    · cases hq : textL (t.length + 1) t [] with
      | none => rw [hq] at h; cases h
      | some q =>
        rw [hq] at h
        simp only [Option.bind_some] at h
        have h1 := textL_len _ _ _ _ hq
        have h2 := spaceL_len q.2
        split at h
        · cases h
        · rename_i c' t' he'
          rw [he'] at h2
          simp only [List.length_cons] at h2
          split at h
          · cases hr : val t' with
            | none => rw [hr] at h; cases h
            | some r =>
              rw [hr] at h
              have h3 := hv _ _ hr
              cases h
              simp only; omega
          · cases h
    · cases h
theorem objL_len {val : Bytes → Option (V × Bytes)} (hv : ∀ s p, val s = some p → p.2.length < s.length) : ∀ (g : Nat) (s : Bytes) (ks : List ByteArray) (l : List V) (p : (List ByteArray × List V) × Bytes), objL val g s ks l = some p → p.2.length < s.length
  | 0, _, _, _, _, h => by cases h
  | g + 1, s, ks, l, p, h => by
    rw [objL] at h
    have hs := spaceL_len s
    split at h
    · cases h
    · rename_i c t he
      rw [he] at hs
      simp only [List.length_cons] at hs
      split at h
      · cases h; simp only; omega
      · have aux : ∀ s1 : Bytes, s1.length ≤ t.length + 1 → ((membL val s1).bind fun p => if hasB ks p.1.1 = true then none else objL val g p.2 (ks.take (posOf ks p.1.1) ++ p.1.1 :: ks.drop (posOf ks p.1.1)) (l.take (posOf ks p.1.1) ++ p.1.2 :: l.drop (posOf ks p.1.1))) = some p → p.2.length < s.length := by
          intro s1 h1 h
          cases hq : membL val s1 with
          | none => rw [hq] at h; cases h
          | some q =>
            rw [hq] at h
            simp only [Option.bind_some] at h
            split at h
            · cases h
            · have h2 := membL_len hv hq
              have h3 := objL_len hv g _ _ _ _ h
              omega
        split at h
        · exact aux _ (by simp) h
        · split at h
          · exact aux _ (by omega) h
          · cases h
theorem numN_pos {c : UInt8} {t : Bytes} (h : c = 45 ∨ isDg c = true) : 0 < numN (c :: t) := by
  unfold numN
  split
  · omega
  · rename_i hne
    rcases h with rfl | h
    · exact absurd rfl (hne t)
    · rw [List.takeWhile_cons, if_pos h]; simp
theorem valL_len : ∀ (f : Nat) (s : Bytes) (p : V × Bytes), valL f s = some p → p.2.length < s.length
  | 0, _, _, h => by cases h
  | f + 1, s, p, h => by
    rw [valL] at h
    have hs := spaceL_len s
    split at h
    · cases h
    · rename_i c t he
      rw [he] at hs
      simp only [List.length_cons] at hs
      repeat (split at h; rotate_left)
      all_goals first
        | (cases h; done)
        | (split at h; (first | (cases h; simp only [List.length_drop]; omega) | cases h); (first | (cases h; done) | skip))
        | skip
      · simp only [Option.map_eq_some_iff] at h
        obtain ⟨q, hq, rfl⟩ := h
        have := textL_len _ _ _ _ hq
        simp only; omega
      · rename_i hd
        simp only [Option.map_eq_some_iff] at h
        obtain ⟨q, hq, rfl⟩ := h
        have := (numL_len hq).2 (numN_pos hd) (by simp)
        simp only [List.length_cons] at this ⊢; omega
      · simp only [Option.map_eq_some_iff] at h
        obtain ⟨q, hq, rfl⟩ := h
        have := listL_len (valL_len f) _ _ _ _ hq
        simp only; omega
      · simp only [Option.map_eq_some_iff] at h
        obtain ⟨q, hq, rfl⟩ := h
        have := objL_len (valL_len f) _ _ _ _ _ hq
        simp only; omega

/-- Can be reckoned. -/
example : (parseV [32, 123, 34, 98, 34, 58, 32, 91, 49, 44, 32, 110, 117, 108, 108, 93, 125]).2 = 0 := by decide +kernel
end Go.Proofs.YtknnflobpjppfaaDoor
