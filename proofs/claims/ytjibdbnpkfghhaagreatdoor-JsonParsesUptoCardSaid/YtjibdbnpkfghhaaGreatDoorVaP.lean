/- Plain laws of the reference's valueAt. No program in sight. -/
import Derived.Test.YtjibdbnpkfghhaaGreatDoorSkR
import Derived.Test.YtjibdbnpkfghhaaGreatDoorNumR
set_option linter.all false
namespace Go.Proofs.YtjibdbnpkfghhaaGreatDoor

/-- What stands in front, spaces gone. -/
def valD (f : Nat) (c : UInt8) (t : Bytes) : Option (V × Bytes) :=
  if c = 34 then (textL (t.length + 1) t []).map fun p => (.mk 3 0 ⟨p.1.toArray⟩ [] [], p.2)
  else if c = 45 ∨ isDg c = true then (numL (c :: t)).map fun p => (.mk 2 p.1 ⟨#[]⟩ [] [], p.2)
  else if c = 91 then (listL (valL f) (t.length + 1) t []).map fun p => (.mk 4 0 ⟨#[]⟩ [] p.1, p.2)
  else if c = 123 then (objL (valL f) (t.length + 1) t [] []).map fun p => (.mk 5 0 ⟨#[]⟩ p.1.1 p.1.2, p.2)
  else none
def wordB : Nat → ByteArray
  | 0 => ⟨#[110, 117, 108, 108]⟩
  | 1 => ⟨#[102, 97, 108, 115, 101]⟩
  | _ => ⟨#[116, 114, 117, 101]⟩
def wordV : Nat → V
  | 0 => V.zero
  | 1 => falseV
  | _ => trueV
theorem valL_end {f : Nat} {s : Bytes} (h : spaceL s = []) : valL (f + 1) s = none := by rw [valL, h]
theorem pre_cons (a : UInt8) (r : Bytes) (c : UInt8) (t : Bytes) : (a :: r).isPrefixOf (c :: t) = (a == c && r.isPrefixOf t) := rfl
theorem valL_word {f : Nat} {s : Bytes} {c : UInt8} {t : Bytes} (h : spaceL s = c :: t) : ∀ k, k < 3 → (wordB k).data.toList.isPrefixOf (c :: t) = true → valL (f + 1) s = some (wordV k, (c :: t).drop (wordB k).size) := by
  intro k hk hp
  rw [valL, h]
  match k, hk with
  | 0, _ =>
    have hp : ([110, 117, 108, 108] : Bytes).isPrefixOf (c :: t) = true := hp
    rw [pre_cons, Bool.and_eq_true] at hp
    have hc : 110 = c := by simpa using hp.1
    subst hc
    simp only [if_true, hp.2]; rfl
  | 1, _ =>
    have hp : ([102, 97, 108, 115, 101] : Bytes).isPrefixOf (c :: t) = true := hp
    rw [pre_cons, Bool.and_eq_true] at hp
    have hc : 102 = c := by simpa using hp.1
    subst hc
    simp only [if_true, hp.2]; rfl
  | 2, _ =>
    have hp : ([116, 114, 117, 101] : Bytes).isPrefixOf (c :: t) = true := hp
    rw [pre_cons, Bool.and_eq_true] at hp
    have hc : 116 = c := by simpa using hp.1
    subst hc
    simp only [if_true, hp.2]; rfl
theorem valL_rest {f : Nat} {s : Bytes} {c : UInt8} {t : Bytes} (h : spaceL s = c :: t) (hn : ∀ k, k < 3 → (wordB k).data.toList.isPrefixOf (c :: t) = false) : valL (f + 1) s = valD f c t := by
  have h0 : ([110, 117, 108, 108] : Bytes).isPrefixOf (c :: t) = false := hn 0 (by omega)
  have h1 : ([102, 97, 108, 115, 101] : Bytes).isPrefixOf (c :: t) = false := hn 1 (by omega)
  have h2 : ([116, 114, 117, 101] : Bytes).isPrefixOf (c :: t) = false := hn 2 (by omega)
  rw [valL, h]
  by_cases c0 : c = 110
  · subst c0
    rw [pre_cons] at h0
    simp only [if_true]
    rw [if_neg (by rw [show ([117, 108, 108] : Bytes).isPrefixOf t = false from h0]; decide)]; rfl
  by_cases c2 : c = 116
  · subst c2
    rw [pre_cons] at h2
    simp only [if_true]
    rw [if_neg (by decide), if_neg (by rw [show ([114, 117, 101] : Bytes).isPrefixOf t = false from h2]; decide)]; rfl
  by_cases c1 : c = 102
  · subst c1
    rw [pre_cons] at h1
    simp only [if_true]
    rw [if_neg (by decide), if_neg (by decide), if_neg (by rw [show ([97, 108, 115, 101] : Bytes).isPrefixOf t = false from h1]; decide)]; rfl
  simp only
  rw [if_neg c0, if_neg c2, if_neg c1]; rfl
theorem word_size (k : Nat) : (wordB k).data.toList.length = (wordB k).size := Array.length_toList
theorem pre_len {a b : Bytes} (h : a.isPrefixOf b = true) : a.length ≤ b.length := (List.isPrefixOf_iff_prefix.1 h).length_le
end Go.Proofs.YtjibdbnpkfghhaaGreatDoor
