/- What package patch reads: plain functions. No program in sight. -/
import Derived.Test.YtnbappeiebameaaGreatDoorPatchP
import Derived.Test.YtnbappeiebameaaGreatDoorPkC
set_option linter.all false
namespace Go.Proofs.YtnbappeiebameaaGreatDoor

abbrev tOp : ByteArray := ⟨#[111, 112]⟩
abbrev tPath : ByteArray := ⟨#[112, 97, 116, 104]⟩
abbrev tFrom : ByteArray := ⟨#[102, 114, 111, 109]⟩
abbrev tValue : ByteArray := ⟨#[118, 97, 108, 117, 101]⟩
/-- The kinds' names. -/
def nmL : List ByteArray := [⟨#[]⟩, ⟨#[97, 100, 100]⟩, ⟨#[114, 101, 109, 111, 118, 101]⟩, ⟨#[114, 101, 112, 108, 97, 99, 101]⟩, ⟨#[109, 111, 118, 101]⟩, ⟨#[99, 111, 112, 121]⟩, ⟨#[116, 101, 115, 116]⟩]
def nmB (i : Nat) : ByteArray := nmL.getD i ⟨#[]⟩
/-- The kind, behind the names up to the k-th (not itself). -/
def kindTo (s : ByteArray) (ok : Bool) : Nat → Int
  | 0 => 0
  | k + 1 => if 1 ≤ k ∧ ok = true ∧ nmB k = s then (k : Int) else kindTo s ok k
theorem kindTo_one (s : ByteArray) (ok : Bool) : kindTo s ok 1 = 0 := by simp [kindTo]
theorem kindTo_rng (s : ByteArray) (ok : Bool) (k : Nat) : 0 ≤ kindTo s ok k ∧ kindTo s ok k < max 1 k := by
  induction k with
  | zero => simp [kindTo]
  | succ k ih => unfold kindTo; split <;> omega
theorem kindTo_false (s : ByteArray) (k : Nat) : kindTo s false k = 0 := by
  induction k with
  | zero => rfl
  | succ k ih => unfold kindTo; simp [ih]
/-- A member that is a text. -/
def V.txt (x : V) (key : ByteArray) : ByteArray × Bool := ((x.memD key).s, (x.member key).isSome && (x.memD key).k == 3)
def V.kd (x : V) : Int := kindTo (x.txt tOp).1 (x.txt tOp).2 7
/-- What an object tells as an operation. -/
def V.opO (x : V) : Option OpV :=
  if x.kd = 0 then none else if (x.txt tPath).2 = false then none
  else if x.kd = 1 ∨ x.kd = 3 ∨ x.kd = 6 then (if (x.member tValue).isSome = true then some ⟨x.kd, (x.txt tPath).1, ⟨#[]⟩, x.memD tValue⟩ else none)
  else if x.kd = 4 ∨ x.kd = 5 then (if (x.txt tFrom).2 = true then some ⟨x.kd, (x.txt tPath).1, (x.txt tFrom).1, V.zero⟩ else none)
  else some ⟨x.kd, (x.txt tPath).1, ⟨#[]⟩, V.zero⟩
def opsO : List V → Option (List OpV)
  | [] => some []
  | x :: r => match x.opO with
    | none => none
    | some o => (opsO r).map (o :: ·)
theorem opsO_bad : ∀ {l : List V} {k : Nat} (h : k < l.length), l[k].opO = none → opsO l = none
  | x :: r, 0, _, h => by simp only [List.getElem_cons_zero] at h; simp [opsO, h]
  | x :: r, k + 1, hk, h => by
    have ih := opsO_bad (l := r) (k := k) (by simpa using hk) (by simpa using h)
    unfold opsO
    cases x.opO with
    | none => rfl
    | some o => simp [ih]
theorem opsO_take {l : List V} {k : Nat} (hk : k < l.length) {os : List OpV} (h : opsO (l.take k) = some os) {o : OpV} (ho : l[k].opO = some o) : opsO (l.take (k + 1)) = some (os ++ [o]) := by
  induction l generalizing k os with
  | nil => simp at hk
  | cons x r ih =>
    cases k with
    | zero =>
      simp only [List.getElem_cons_zero] at ho
      simp only [List.take_zero, opsO, Option.some.injEq] at h
      subst h
      simp [opsO, ho]
    | succ k =>
      simp only [List.take_succ_cons] at h ⊢
      unfold opsO at h ⊢
      cases hx : x.opO with
      | none => rw [hx] at h; cases h
      | some q =>
        rw [hx] at h
        simp only at h ⊢
        cases hr : opsO (r.take k) with
        | none => rw [hr] at h; cases h
        | some t =>
          rw [hr] at h
          simp only [Option.map_some, Option.some.injEq] at h
          subst h
          rw [ih (by simpa using hk) hr (by simpa using ho)]
          simp
/-- patch.Read. -/
def readV (v : V) : List OpV × Int :=
  if v.fine = false ∨ v.k ≠ 4 then ([], 1) else if 20 < v.l.length then ([], 2) else match opsO v.l with
    | none => ([], 1)
    | some l => (l, 0)
theorem readV_form {v : V} (h : v.fine = false ∨ v.k ≠ 4) : readV v = ([], 1) := by unfold readV; rw [if_pos h]
theorem readV_long {v : V} (h : v.fine = true) (h4 : v.k = 4) (hl : 20 < v.l.length) : readV v = ([], 2) := by unfold readV; rw [if_neg (by simp [h, h4]), if_pos hl]
theorem readV_bad {v : V} (h : v.fine = true) (h4 : v.k = 4) (hl : ¬ 20 < v.l.length) {k : Nat} (hk : k < v.l.length) (hb : v.l[k].opO = none) : readV v = ([], 1) := by unfold readV; rw [if_neg (by simp [h, h4]), if_neg hl, opsO_bad hk hb]
theorem readV_ok {v : V} (h : v.fine = true) (h4 : v.k = 4) (hl : ¬ 20 < v.l.length) {os : List OpV} (ho : opsO (v.l.take v.l.length) = some os) : readV v = (os, 0) := by
  unfold readV; rw [if_neg (by simp [h, h4]), if_neg hl]; rw [List.take_length] at ho; rw [ho]
end Go.Proofs.YtnbappeiebameaaGreatDoor
