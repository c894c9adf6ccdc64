/- Plain laws of the reference's manyAt: the members of an object, one by one. No program in sight. -/
import Derived.Test.YtjibdbnpkfghhaaGreatDoorMaP
set_option linter.all false
namespace Go.Proofs.YtjibdbnpkfghhaaGreatDoor

/-- What follows a member. -/
def obNext (val : Bytes → Option (V × Bytes)) (g : Nat) (ks : List ByteArray) (l : List V) (s : Bytes) : Option ((List ByteArray × List V) × Bytes) :=
  (membL val s).bind fun p => if hasB ks p.1.1 = true then none else objL val g p.2 (ks.take (posOf ks p.1.1) ++ p.1.1 :: ks.drop (posOf ks p.1.1)) (l.take (posOf ks p.1.1) ++ p.1.2 :: l.drop (posOf ks p.1.1))
section
variable {val : Bytes → Option (V × Bytes)} {g : Nat} {s : Bytes} {ks : List ByteArray} {l : List V} {c : UInt8} {t : Bytes}
theorem objL_end (h : s = []) : objL val (g + 1) s ks l = none := by subst h; rfl
theorem objL_close (h : s = c :: t) (hs : spaceL s = s) (hc : c = 125) : objL val (g + 1) s ks l = some ((ks, l), t) := by
  rw [objL, hs, h]; simp only; rw [if_pos hc]
theorem objL_first (h : s = c :: t) (hs : spaceL s = s) (hc : c ≠ 125) (hl : l = []) : objL val (g + 1) s ks l = obNext val g ks l s := by
  rw [objL, hs, h]; simp only; rw [if_neg hc, if_pos hl]; rfl
theorem objL_comma (h : s = c :: t) (hs : spaceL s = s) (hc : c = 44) (hl : l ≠ []) : objL val (g + 1) s ks l = obNext val g ks l t := by
  subst hc
  rw [objL, hs, h]; simp only; rw [if_neg (by decide), if_neg hl]; rfl
theorem objL_bad (h : s = c :: t) (hs : spaceL s = s) (hc : c ≠ 125) (h2 : c ≠ 44) (hl : l ≠ []) : objL val (g + 1) s ks l = none := by
  rw [objL, hs, h]; simp only; rw [if_neg hc, if_neg hl, if_neg h2]; rfl
theorem membL_space (val : Bytes → Option (V × Bytes)) (s : Bytes) : membL val (spaceL s) = membL val s := by
  unfold membL; rw [space_idem]
theorem obNext_space (val : Bytes → Option (V × Bytes)) (g : Nat) (ks : List ByteArray) (l : List V) (s : Bytes) : obNext val g ks l (spaceL s) = obNext val g ks l s := by
  unfold obNext; rw [membL_space]
theorem ob_nil (h : s = []) : obNext val g ks l s = none := by subst h; rfl
theorem ob_noq (h : s = c :: t) (hs : spaceL s = s) (hc : c ≠ 34) : obNext val g ks l s = none := by
  unfold obNext membL
  rw [hs, h]; simp only; rw [if_neg hc]; rfl
/-- Behind the quote. -/
theorem ob_text (h : s = c :: t) (hs : spaceL s = s) (hc : c = 34) (ht : textL (t.length + 1) t [] = none) : obNext val g ks l s = none := by
  unfold obNext membL
  rw [hs, h]; simp only; rw [if_pos hc, ht]; rfl
theorem ob_colon {p : Bytes × Bytes} (h : s = c :: t) (hs : spaceL s = s) (hc : c = 34) (ht : textL (t.length + 1) t [] = some p) (hq : spaceL p.2 = [] ∨ ∃ c2 t2, spaceL p.2 = c2 :: t2 ∧ c2 ≠ 58) : obNext val g ks l s = none := by
  unfold obNext membL
  rw [hs, h]; simp only; rw [if_pos hc, ht, Option.bind_some]
  rcases hq with hq | ⟨c2, t2, hq, h2⟩
  · rw [hq]; rfl
  · rw [hq]; simp only; rw [if_neg h2]; rfl
theorem ob_memb {p : Bytes × Bytes} {c2 : UInt8} {t2 : Bytes} (h : s = c :: t) (hs : spaceL s = s) (hc : c = 34) (ht : textL (t.length + 1) t [] = some p) (hq : spaceL p.2 = c2 :: t2) (h2 : c2 = 58) {r : Option (V × Bytes)} (hv : val t2 = r) :
    obNext val g ks l s = r.bind fun q => if hasB ks ⟨p.1.toArray⟩ = true then none else objL val g q.2 (ks.take (posOf ks ⟨p.1.toArray⟩) ++ ⟨p.1.toArray⟩ :: ks.drop (posOf ks ⟨p.1.toArray⟩)) (l.take (posOf ks ⟨p.1.toArray⟩) ++ q.1 :: l.drop (posOf ks ⟨p.1.toArray⟩)) := by
  unfold obNext membL
  rw [hs, h]; simp only; rw [if_pos hc, ht, Option.bind_some, hq]
  simp only
  rw [if_pos h2, hv]
  cases r <;> rfl
theorem membL_some {p : Bytes × Bytes} {c2 : UInt8} {t2 : Bytes} (h : s = c :: t) (hs : spaceL s = s) (hc : c = 34) (ht : textL (t.length + 1) t [] = some p) (hq : spaceL p.2 = c2 :: t2) (h2 : c2 = 58) {r : V × Bytes} (hv : val t2 = some r) :
    membL val s = some ((⟨p.1.toArray⟩, r.1), r.2) := by
  unfold membL
  rw [hs, h]; simp only; rw [if_pos hc, ht, Option.bind_some, hq]
  simp only
  rw [if_pos h2, hv]; rfl
end
/-- A member has been read: what is left. -/
theorem obj_next {f : Nat} {s : ByteArray} {g k e k2 : Nat} {ks : List ByteArray} {l : List V} {R : Option ((List ByteArray × List V) × Bytes)} (hk2 : fromB s k2 = spaceL (fromB s e)) (hke : k < e) (hes : e ≤ s.size) (hz : k2 ≤ s.size) (hg : s.size - k ≤ g)
    (hR : objL (valL f) g (fromB s e) ks l = R) : objL (valL f) (s.size - k2 + 1) (fromB s k2) ks l = R ∧ k < k2 := by
  have h2 := spaceL_len (fromB s e)
  rw [← hk2] at h2
  simp only [from_len] at h2
  refine ⟨?_, by omega⟩
  rw [← hR, ← objL_space _ g, ← hk2]
  exact objL_fuel (valL_lens f) _ _ _ _ _ (by rw [from_len]; omega) (by rw [from_len]; omega)
end Go.Proofs.YtjibdbnpkfghhaaGreatDoor
