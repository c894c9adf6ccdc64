/- Plain laws of the reference's manyAt: the items of a list, one by one. No program in sight. -/
import Derived.Test.YtjibdbnpkfghhaaGreatDoorVaP
set_option linter.all false
namespace Go.Proofs.YtjibdbnpkfghhaaGreatDoor

theorem space_idem (s : Bytes) : spaceL (spaceL s) = spaceL s := by
  induction s with
  | nil => rfl
  | cons c t ih =>
    cases h : isSp c with
    | true => rw [space_skip h, ih]
    | false => rw [space_stop h, space_stop h]
theorem valL_space (f : Nat) (s : Bytes) : valL f (spaceL s) = valL f s := by
  cases f with
  | zero => rfl
  | succ f => rw [valL, valL, space_idem]
theorem listL_space (val : Bytes → Option (V × Bytes)) (g : Nat) (s : Bytes) (l : List V) : listL val g (spaceL s) l = listL val g s l := by
  cases g with
  | zero => rfl
  | succ g => rw [listL, listL, space_idem]
theorem objL_space (val : Bytes → Option (V × Bytes)) (g : Nat) (s : Bytes) (ks : List ByteArray) (l : List V) : objL val g (spaceL s) ks l = objL val g s ks l := by
  cases g with
  | zero => rfl
  | succ g => rw [objL, objL, space_idem]
section
variable {val : Bytes → Option (V × Bytes)} {g : Nat} {s : Bytes} {l : List V} {c : UInt8} {t : Bytes}
theorem listL_end (h : s = []) : listL val (g + 1) s l = none := by subst h; rfl
theorem listL_close (h : s = c :: t) (hs : spaceL s = s) (hc : c = 93) : listL val (g + 1) s l = some (l, t) := by
  rw [listL, hs, h]; simp only; rw [if_pos hc]
theorem listL_first (h : s = c :: t) (hs : spaceL s = s) (hc : c ≠ 93) : listL val (g + 1) s [] = (val s).bind fun p => listL val g p.2 [p.1] := by
  rw [listL, hs, h]; simp only; rw [if_neg hc]; rfl
theorem listL_comma (h : s = c :: t) (hs : spaceL s = s) (hc : c = 44) (hl : l ≠ []) : listL val (g + 1) s l = (val t).bind fun p => listL val g p.2 (l ++ [p.1]) := by
  subst hc
  rw [listL, hs, h]; simp only; rw [if_neg (by decide), if_neg hl]; rfl
theorem listL_bad (h : s = c :: t) (hs : spaceL s = s) (hc : c ≠ 93) (h2 : c ≠ 44) (hl : l ≠ []) : listL val (g + 1) s l = none := by
  rw [listL, hs, h]; simp only; rw [if_neg hc, if_neg hl, if_neg h2]; rfl
end
theorem valL_lens (f : Nat) : Lens (valL f) := fun s p h => valL_len f s p h
/-- An item has been read: what is left. -/
theorem list_next {f : Nat} {s : ByteArray} {g k e k2 : Nat} {l : List V} {R : Option (List V × Bytes)} {x : V} (hv : valL f (fromB s k) = some (x, fromB s e)) (hk2 : fromB s k2 = spaceL (fromB s e)) (hz : k2 ≤ s.size) (hg : s.size - k ≤ g)
    (hR : ((valL f (fromB s k)).bind fun p => listL (valL f) g p.2 (l ++ [p.1])) = R) (hks : k ≤ s.size) : listL (valL f) (s.size - k2 + 1) (fromB s k2) (l ++ [x]) = R ∧ k < k2 := by
  have h1 := valL_len f _ _ hv
  simp only [from_len] at h1
  have h2 := spaceL_len (fromB s e)
  rw [← hk2] at h2
  simp only [from_len] at h2
  refine ⟨?_, by omega⟩
  rw [← hR, hv, Option.bind_some]
  simp only
  rw [← listL_space _ g, ← hk2]
  exact listL_fuel (valL_lens f) _ _ _ _ (by rw [from_len]; omega) (by rw [from_len]; omega)
end Go.Proofs.YtjibdbnpkfghhaaGreatDoor
