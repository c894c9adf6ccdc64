/- Plain laws of the reference's WithMember and WithoutMember: what stands there behind k rounds. No program in sight. -/
import Derived.Test.YtjibdbnpkfghhaaGreatDoorPkA
set_option linter.all false
namespace Go.Proofs.YtjibdbnpkfghhaaGreatDoor

/-- Behind k rounds of WithMember: a is put at p; hs: the key was there. -/
def putTo {α : Type} (p : Nat) (hs : Bool) (a : α) (m : List α) (k : Nat) : List α := if p < k then m.take p ++ a :: (m.take k).drop (p + hs.toNat) else m.take k
/-- Behind k rounds of WithoutMember. -/
def delTo {α : Type} (p : Nat) (hs : Bool) (m : List α) (k : Nat) : List α := if p < k ∧ hs = true then m.take p ++ (m.take k).drop (p + 1) else m.take k
section
variable {α : Type} {p k : Nat} {hs : Bool} {a : α} {m : List α}
theorem putTo_zero : putTo p hs a m 0 = [] := by simp [putTo]
theorem delTo_zero : delTo p hs m 0 = [] := by simp [delTo]
theorem take_drop_succ {q : Nat} (h : k < m.length) (hq : q ≤ k) : (m.take (k + 1)).drop q = (m.take k).drop q ++ [m[k]] := by
  rw [List.take_succ_eq_append_getElem h, List.drop_append_of_le_length (by simp; omega)]
theorem putTo_below (h : k < m.length) (hk : k < p) : putTo p hs a m (k + 1) = putTo p hs a m k ++ [m[k]] := by
  unfold putTo
  rw [if_neg (by omega), if_neg (by omega), List.take_succ_eq_append_getElem h]
theorem putTo_above (h : k < m.length) (hk : p < k) : putTo p hs a m (k + 1) = putTo p hs a m k ++ [m[k]] := by
  unfold putTo
  rw [if_pos (by omega), if_pos hk, take_drop_succ h (by cases hs <;> simp <;> omega)]
  simp
theorem putTo_has (h : k < m.length) (hk : k = p) (hh : hs = true) : putTo p hs a m (k + 1) = putTo p hs a m k ++ [a] := by
  subst hk; subst hh
  unfold putTo
  rw [if_pos (by omega), if_neg (by omega), List.drop_of_length_le (by simp; omega)]
theorem putTo_new (h : k < m.length) (hk : k = p) (hh : hs = false) : putTo p hs a m (k + 1) = (putTo p hs a m k ++ [a]) ++ [m[k]] := by
  subst hk; subst hh
  unfold putTo
  rw [if_pos (by omega), if_neg (by omega)]
  simp only [Bool.toNat_false, Nat.add_zero]
  rw [take_drop_succ h (Nat.le_refl _), List.drop_of_length_le (by simp; omega)]
  simp
theorem putTo_in (h : p < m.length) : putTo p hs a m m.length = m.take p ++ a :: m.drop (p + hs.toNat) := by
  unfold putTo
  rw [if_pos h, List.take_of_length_le (Nat.le_refl _)]
theorem putTo_out (h : p = m.length) : putTo p hs a m m.length ++ [a] = m.take p ++ a :: m.drop (p + hs.toNat) := by
  unfold putTo
  rw [if_neg (by omega), List.drop_of_length_le (by omega), h]
theorem delTo_keep (h : k < m.length) (hk : k ≠ p ∨ hs = false) : delTo p hs m (k + 1) = delTo p hs m k ++ [m[k]] := by
  unfold delTo
  cases hs with
  | false => rw [if_neg (by simp), if_neg (by simp), List.take_succ_eq_append_getElem h]
  | true =>
    simp only [and_true]
    have hk : k ≠ p := hk.resolve_right (by simp)
    by_cases h1 : p < k
    · rw [if_pos (by omega), if_pos h1, take_drop_succ h (by omega)]; simp
    · rw [if_neg (by omega), if_neg h1, List.take_succ_eq_append_getElem h]
theorem delTo_skip (h : k < m.length) (hk : k = p) (hh : hs = true) : delTo p hs m (k + 1) = delTo p hs m k := by
  subst hk; subst hh
  unfold delTo
  rw [if_pos ⟨by omega, rfl⟩, if_neg (by omega), List.drop_of_length_le (by simp; omega)]
  simp
end
theorem set_take_drop {α : Type} (l : List α) (p : Nat) (h : p < l.length) (a : α) : l.set p a = l.take p ++ a :: l.drop (p + 1) := by
  rw [List.set_eq_take_append_cons_drop, if_pos h]
theorem take_drop_at {α : Type} (l : List α) (p : Nat) (h : p < l.length) {a : α} (e : l[p] = a) : l.take p ++ a :: l.drop (p + 1) = l := by
  rw [← e, ← List.drop_eq_getElem_cons h, List.take_append_drop]
theorem put_lists {x : V} {key : ByteArray} {y : V} (h5 : x.k = 5) (hl : x.keys.length = x.l.length) (h0 : x.n = 0) (hs : x.s = ⟨#[]⟩) :
    V.mk 5 0 ⟨#[]⟩ (x.keys.take (posOf x.keys key) ++ key :: x.keys.drop (posOf x.keys key + (hasB x.keys key).toNat)) (x.l.take (posOf x.keys key) ++ y :: x.l.drop (posOf x.keys key + (hasB x.keys key).toNat)) = x.put key y := by
  cases hb : hasB x.keys key with
  | true =>
    have hp := hasB_lt hb
    rw [put_yes ⟨h5, hl⟩ hb, h5, h0, hs]
    simp only [Bool.toNat_true]
    rw [take_drop_at _ _ hp (hasB_at hb), set_take_drop _ _ (by omega)]
  | false =>
    rw [put_new ⟨h5, hl⟩ hb, h5, h0, hs]
    simp
theorem del_lists {x : V} {key : ByteArray} (h5 : x.k = 5) (hl : x.keys.length = x.l.length) (h0 : x.n = 0) (hs : x.s = ⟨#[]⟩) :
    V.mk 5 0 ⟨#[]⟩ (delTo (posOf x.keys key) (hasB x.keys key) x.keys x.keys.length) (delTo (posOf x.keys key) (hasB x.keys key) x.l x.keys.length) = x.del key := by
  unfold delTo
  cases hb : hasB x.keys key with
  | true =>
    have hp := hasB_lt hb
    have e1 : x.keys.take x.keys.length = x.keys := List.take_length
    have e2 : x.l.take x.keys.length = x.l := by rw [hl]; exact List.take_length
    rw [del_yes ⟨h5, hl⟩ hb, h5, h0, hs, if_pos ⟨hp, rfl⟩, if_pos ⟨hp, rfl⟩, e1, e2]
  | false =>
    have e1 : x.keys.take x.keys.length = x.keys := List.take_length
    have e2 : x.l.take x.keys.length = x.l := by rw [hl]; exact List.take_length
    rw [del_no hb, if_neg (by simp), if_neg (by simp), e1, e2]
    have := V.eta x
    rw [h5, h0, hs] at this
    exact this
/-- The tests of one round. -/
theorem round_below {ks : List ByteArray} {key : ByteArray} {k : Nat} (h : k < ks.length) (hk : k < posOf ks key) : (!Op.bytesLess ks[k].toList key.toList) = false ∧ ks[k].toList ≠ key.toList := by
  have h1 := posOf_below h hk
  exact ⟨by simpa [ltS] using h1, fun e => ltS_ne h1 (bytes_ext e)⟩
theorem round_at {ks : List ByteArray} {key : ByteArray} {k : Nat} (h : k < ks.length) (hk : k = posOf ks key) : (!Op.bytesLess ks[k].toList key.toList) = true := by
  subst hk
  have := posOf_at h
  simpa [ltS] using this
theorem round_has {ks : List ByteArray} {key : ByteArray} {k : Nat} (h : k < ks.length) (hk : k = posOf ks key) (hb : hasB ks key = true) : ks[k].toList = key.toList := by
  subst hk
  rw [hasB_at hb]
theorem round_not {ks : List ByteArray} (hr : Rises ks) {key : ByteArray} {k : Nat} (h : k < ks.length) (hk : k ≠ posOf ks key ∨ hasB ks key = false) : ks[k].toList ≠ key.toList := by
  intro e
  have e := bytes_ext e
  have hb := has_of_mem hr (e ▸ List.getElem_mem h)
  have hp := pos_of_at hr h e
  rcases hk with hk | hk
  · exact hk hp.symm
  · rw [hb] at hk; cases hk
end Go.Proofs.YtjibdbnpkfghhaaGreatDoor
