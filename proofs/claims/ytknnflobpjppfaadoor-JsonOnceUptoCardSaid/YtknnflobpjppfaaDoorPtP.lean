/- Places in values, apart from memory: what stands at a path, what is done there, and that what is put or added is got, and taken away again leaves all as it was. No program in sight. -/
import Derived.Test.YtknnflobpjppfaaDoorObjP
import Derived.Test.YtknnflobpjppfaaDoorPathP
import Derived.Lib.AtoiAll
import Derived.Lib.ItoaNum
set_option linter.all false
namespace Go.Proofs.YtknnflobpjppfaaDoor

/-- Which item a name means; n, if it is a dash. -/
def idxV (name : ByteArray) (n : Nat) : Option Nat :=
  if name.data.toList = [45] then some n else
  match Lib.atoiAll name.data.toList with
  | .ok k => if name.size ≤ 4 ∧ 0 ≤ k ∧ Lib.itoa k = name.data.toList then some k.toNat else none
  | _ => none
theorem idxV_any {name : ByteArray} (h : name.data.toList ≠ [45]) (n m : Nat) : idxV name n = idxV name m := by
  unfold idxV; rw [if_neg h, if_neg h]

/-- Which item of a value a name means. -/
def V.child (x : V) (name : ByteArray) : Option Nat :=
  if x.k = 5 then (if hasB x.keys name = true then some (posOf x.keys name) else none)
  else if x.k = 4 then (idxV name x.l.length).bind fun k => if k < x.l.length then some k else none
  else none
def V.setL (x : V) (i : Nat) (y : V) : V := .mk x.k x.n x.s x.keys (x.l.set i y)
def V.insL (x : V) (i : Nat) (y : V) : V := .mk x.k x.n x.s x.keys (x.l.take i ++ y :: x.l.drop i)
def V.delL (x : V) (i : Nat) : V := .mk x.k x.n x.s x.keys (x.l.take i ++ x.l.drop (i + 1))

theorem child_lt {x : V} (h : x.sound) {name : ByteArray} {i : Nat} (hc : x.child name = some i) : i < x.l.length := by
  unfold V.child at hc
  split at hc
  · rename_i h5
    split at hc
    · rename_i hb
      have := hasB_lt hb
      rw [h.flat.len h5] at this
      cases hc; exact this
    · cases hc
  · split at hc
    · cases hi : idxV name x.l.length with
      | none => rw [hi] at hc; cases hc
      | some k =>
        rw [hi] at hc
        simp only [Option.bind_some] at hc
        split at hc
        · rename_i hlt; cases hc; exact hlt
        · cases hc
    · cases hc
theorem child_same {x y : V} (hk : y.k = x.k) (hks : y.keys = x.keys) (hl : y.l.length = x.l.length) (name : ByteArray) : y.child name = x.child name := by
  unfold V.child; rw [hk, hks, hl]
theorem child_setL (x : V) (i : Nat) (y : V) (name : ByteArray) : (x.setL i y).child name = x.child name := child_same (x := x) (y := x.setL i y) rfl rfl (by simp [V.setL]) name

/-- What stands behind names. -/
def getV : List ByteArray → V → Option V
  | [], x => some x
  | a :: r, x => (x.child a).bind fun i => (x.l[i]?).bind (getV r)

abbrev Doer := V → ByteArray → V × Int
/-- Something is done at the end of names. -/
def atV (F : Doer) : List ByteArray → V → V × Int
  | [], x => (x, 3)
  | a :: r, x => if r = [] then F x a else
    match x.child a with
    | none => (x, 3)
    | some i =>
      match x.l[i]? with
      | none => (x, 3)
      | some y => if (atV F r y).2 = 0 then (x.setL i (atV F r y).1, 0) else (x, (atV F r y).2)
theorem atV_one (F : Doer) (a : ByteArray) (x : V) : atV F [a] x = F x a := by simp [atV]
theorem atV_none {F : Doer} {a b : ByteArray} {r : List ByteArray} {x : V} (h : x.child a = none) : atV F (a :: b :: r) x = (x, 3) := by
  rw [atV, if_neg (by simp), h]
theorem atV_some {F : Doer} {a b : ByteArray} {r : List ByteArray} {x : V} {i : Nat} (h : x.child a = some i) (hi : i < x.l.length) :
    atV F (a :: b :: r) x = if (atV F (b :: r) x.l[i]).2 = 0 then (x.setL i (atV F (b :: r) x.l[i]).1, 0) else (x, (atV F (b :: r) x.l[i]).2) := by
  rw [atV, if_neg (by simp), h]
  simp only [List.getElem?_eq_getElem hi]

def addF (y : V) : Doer := fun x name =>
  if x.k = 5 then (x.put name y, 0)
  else if x.k = 4 then
    match idxV name x.l.length with
    | some i => if i ≤ x.l.length then (x.insL i y, 0) else (x, 3)
    | none => (x, 3)
  else (x, 3)
def remF : Doer := fun x name =>
  match x.child name with
  | none => (x, 3)
  | some i => if x.k = 5 then (x.del name, 0) else (x.delL i, 0)
def putF (y : V) : Doer := fun x name =>
  match x.child name with
  | none => (x, 3)
  | some i => (x.setL i y, 0)

/-- A path's names. -/
def namesB (p : ByteArray) : Option (List ByteArray) := (namesL p.data.toList).map fun l => l.map fun s => ⟨s.toArray⟩
theorem namesB_of {p : ByteArray} {ks : List ByteArray} (h : namesL p.data.toList = some (ks.map (·.data.toList))) : namesB p = some ks := by
  unfold namesB
  rw [h]
  simp only [Option.map_some, List.map_map, Option.some.injEq]
  have : ((fun s : List UInt8 => (⟨s.toArray⟩ : ByteArray)) ∘ fun k : ByteArray => k.data.toList) = id := by
    funext k; rfl
  rw [this, List.map_id]
theorem namesB_none {p : ByteArray} (h : namesL p.data.toList = none) : namesB p = none := by
  unfold namesB; rw [h]; rfl

/-- Something is done at a path; what comes of it must be a value still. -/
def changeV (x : V) (p : ByteArray) (F : Doer) : V × Int :=
  match namesB p with
  | none => (x, 1)
  | some l => if x.fine = false then (x, 1) else if l = [] then (x, 1) else
    if (atV F l x).2 = 0 then (if (atV F l x).1.fine = true then ((atV F l x).1, 0) else (x, 2)) else (x, (atV F l x).2)
def getP (x : V) (p : ByteArray) : V × Int :=
  match namesB p with
  | none => (V.zero, 1)
  | some l => if x.fine = false then (V.zero, 1) else match getV l x with | some y => (y, 0) | none => (V.zero, 3)
def addP (x : V) (p : ByteArray) (y : V) : V × Int := if y.fine = false then (x, 1) else if p.data.toList = [] ∧ x.fine = true then (y, 0) else changeV x p (addF y)
def putP (x : V) (p : ByteArray) (y : V) : V × Int := if y.fine = false then (x, 1) else if p.data.toList = [] ∧ x.fine = true then (y, 0) else changeV x p (putF y)
def remP (x : V) (p : ByteArray) : V × Int := changeV x p remF

theorem names_empty {p : ByteArray} (h : p.data.toList = []) : namesB p = some [] := by unfold namesB; rw [h]; rfl
theorem names_some {p : ByteArray} {l : List ByteArray} (h : namesB p = some l) (hp : p.data.toList ≠ []) : l ≠ [] := by
  unfold namesB at h
  cases hn : namesL p.data.toList with
  | none => rw [hn] at h; cases h
  | some m =>
    rw [hn] at h
    simp only [Option.map_some, Option.some.injEq] at h
    rintro rfl
    have hm : m = [] := by simpa using h
    subst hm
    unfold namesL at hn
    cases hq : p.data.toList with
    | nil => exact hp hq
    | cons c r =>
      rw [hq] at hn
      simp only at hn
      split at hn
      · split at hn
        · simp only [Option.some.injEq, List.map_eq_nil_iff] at hn
          have := split_join r
          rw [hn] at this
          simp at this
        · cases hn
      · cases hn

theorem getV_set {x y : V} {i : Nat} (hi : i < x.l.length) {a : ByteArray} {r : List ByteArray} (hc : x.child a = some i) : getV (a :: r) (x.setL i y) = getV r y := by
  simp only [getV, child_setL, hc, Option.bind_some]
  have : (x.setL i y).l[i]? = some y := by simp [V.setL, List.getElem?_set, hi]
  rw [this, Option.bind_some]

theorem put_pos {ks : List ByteArray} (h : Rises ks) {key : ByteArray} (hn : hasB ks key = false) : hasB (ks.take (posOf ks key) ++ key :: ks.drop (posOf ks key)) key = true ∧ posOf (ks.take (posOf ks key) ++ key :: ks.drop (posOf ks key)) key = posOf ks key := by
  have hr := rises_insert h hn
  have hl := posOf_le ks key
  have hlt : posOf ks key < (ks.take (posOf ks key) ++ key :: ks.drop (posOf ks key)).length := by simp; omega
  have hg : (ks.take (posOf ks key) ++ key :: ks.drop (posOf ks key))[posOf ks key] = key := by
    rw [List.getElem_append_right (by simp; omega)]
    simp [Nat.min_eq_left hl]
  have hp := pos_of_at hr hlt hg
  refine ⟨?_, hp⟩
  rw [hasB_iff, hp, List.getElem?_eq_getElem hlt, hg]
theorem put_child {x : V} (h : x.sound) (h5 : x.k = 5) (name : ByteArray) (y : V) : ∃ i, (x.put name y).child name = some i ∧ (x.put name y).l[i]? = some y := by
  have hf := h.flat
  by_cases hb : hasB x.keys name = true
  · rw [put_yes ⟨h5, hf.len h5⟩ hb]
    refine ⟨posOf x.keys name, by simp [V.child, h5, hb], ?_⟩
    have := hasB_lt hb
    rw [hf.len h5] at this
    simp [List.getElem?_set, this]
  · have hb : hasB x.keys name = false := by simpa using hb
    rw [put_new ⟨h5, hf.len h5⟩ hb]
    obtain ⟨h1, h2⟩ := put_pos hf.rise hb
    refine ⟨posOf x.keys name, by unfold V.child; rw [if_pos (show (V.mk x.k x.n x.s _ _).k = 5 from h5), if_pos (show hasB (V.mk x.k x.n x.s _ _).keys name = true from h1)]; exact congrArg some h2, ?_⟩
    have hl := posOf_le x.keys name
    rw [hf.len h5] at hl
    simp only [V.l_mk]
    rw [List.getElem?_append_right (by simp; omega)]
    simp [Nat.min_eq_left hl]
theorem ins_child {x : V} (h4 : x.k = 4) {name : ByteArray} (hd : name.data.toList ≠ [45]) {i : Nat} (hi : idxV name x.l.length = some i) (hl : i ≤ x.l.length) (y : V) : (x.insL i y).child name = some i ∧ (x.insL i y).l[i]? = some y := by
  have e : idxV name (x.insL i y).l.length = some i := by rw [idxV_any hd _ x.l.length]; exact hi
  have hlt : i < (x.insL i y).l.length := by simp [V.insL]; omega
  refine ⟨?_, ?_⟩
  · unfold V.child
    rw [if_neg (by simp [V.insL, h4]), if_pos (by simp [V.insL, h4]), e]
    simp [hlt]
  · simp only [V.insL, V.l_mk]
    rw [List.getElem?_append_right (by simp; omega)]
    simp [Nat.min_eq_left hl]

/-- What is put at the end of names is got there. -/
theorem at_put_get {y : V} (l : List ByteArray) (hl : l ≠ []) (x : V) (h : x.sound) (h0 : (atV (putF y) l x).2 = 0) : getV l (atV (putF y) l x).1 = some y := by
  induction l generalizing x with
  | nil => exact absurd rfl hl
  | cons a r ih =>
    cases r with
    | nil =>
      rw [atV_one] at h0 ⊢
      unfold putF at h0 ⊢
      cases hc : x.child a with
      | none => rw [hc] at h0; simp at h0
      | some i => simp only; rw [getV_set (child_lt h hc) hc]; rfl
    | cons b r =>
      cases hc : x.child a with
      | none => rw [atV_none hc] at h0; simp at h0
      | some i =>
        have hi := child_lt h hc
        rw [atV_some hc hi] at h0 ⊢
        by_cases e : (atV (putF y) (b :: r) x.l[i]).2 = 0
        · rw [if_pos e]
          rw [getV_set hi hc]
          exact ih (by simp) _ (h.item (List.getElem_mem hi)) e
        · rw [if_neg e] at h0; exact absurd h0 e
/-- What is added at the end of names is got there, if the last is no dash. -/
theorem at_add_get {y : V} (l : List ByteArray) (hl : l ≠ []) (hd : (l.getLast hl).data.toList ≠ [45]) (x : V) (h : x.sound) (h0 : (atV (addF y) l x).2 = 0) : getV l (atV (addF y) l x).1 = some y := by
  induction l generalizing x with
  | nil => exact absurd rfl hl
  | cons a r ih =>
    cases r with
    | nil =>
      rw [atV_one] at h0 ⊢
      simp only [List.getLast_singleton] at hd
      unfold addF at h0 ⊢
      by_cases h5 : x.k = 5
      · rw [if_pos h5]
        obtain ⟨i, h1, h2⟩ := put_child h h5 a y
        simp [getV, h1, h2]
      · rw [if_neg h5] at h0 ⊢
        by_cases h4 : x.k = 4
        · rw [if_pos h4] at h0 ⊢
          cases hi : idxV a x.l.length with
          | none => rw [hi] at h0; simp at h0
          | some i =>
            rw [hi] at h0
            simp only at h0 ⊢
            by_cases hle : i ≤ x.l.length
            · rw [if_pos hle]
              obtain ⟨h1, h2⟩ := ins_child h4 hd hi hle y
              simp [getV, h1, h2]
            · rw [if_neg hle] at h0; simp at h0
        · rw [if_neg h4] at h0; simp at h0
    | cons b r =>
      cases hc : x.child a with
      | none => rw [atV_none hc] at h0; simp at h0
      | some i =>
        have hi := child_lt h hc
        rw [atV_some hc hi] at h0 ⊢
        by_cases e : (atV (addF y) (b :: r) x.l[i]).2 = 0
        · rw [if_pos e]
          rw [getV_set hi hc]
          exact ih (by simp) (by simpa using hd) _ (h.item (List.getElem_mem hi)) e
        · rw [if_neg e] at h0; exact absurd h0 e

theorem del_put {x : V} (h : x.sound) (h5 : x.k = 5) {name : ByteArray} (hb : hasB x.keys name = false) (y : V) : (x.put name y).del name = x := by
  have hf := h.flat
  have hlen := hf.len h5
  have hl := posOf_le x.keys name
  obtain ⟨h1, h2⟩ := put_pos hf.rise hb
  rw [put_new ⟨h5, hlen⟩ hb]
  rw [del_yes (x := .mk x.k x.n x.s _ _) ⟨h5, by simp; omega⟩ h1]
  simp only [V.keys_mk, V.l_mk, V.k_mk, V.n_mk, V.s_mk]
  rw [h2]
  have e1 : ∀ {α : Type} (l : List α) (a : α) (p : Nat), p ≤ l.length → (l.take p ++ a :: l.drop p).take p ++ (l.take p ++ a :: l.drop p).drop (p + 1) = l := by
    intro α l a p hp
    have e : (l.take p).length = p := by simp; omega
    rw [List.take_append_of_le_length (by omega), List.take_of_length_le (by omega), List.drop_append, List.drop_of_length_le (by omega), e]
    simp [show p + 1 - p = 1 by omega]
  rw [e1 _ _ _ hl, e1 _ _ _ (by omega)]
  exact V.eta x
theorem delL_insL (x y : V) {i : Nat} (hi : i ≤ x.l.length) : (x.insL i y).delL i = x := by
  unfold V.insL V.delL
  simp only [V.keys_mk, V.l_mk, V.k_mk, V.n_mk, V.s_mk]
  have e : (x.l.take i).length = i := by simp; omega
  rw [List.take_append_of_le_length (by omega), List.take_of_length_le (by omega), List.drop_append, List.drop_of_length_le (by omega), e]
  simp only [show i + 1 - i = 1 by omega, List.drop_succ_cons, List.drop_zero, List.nil_append, List.take_append_drop]
  exact V.eta x
theorem setL_setL (x y z : V) (i : Nat) : (x.setL i y).setL i z = x.setL i z := by simp [V.setL]
theorem setL_self (x : V) {i : Nat} (hi : i < x.l.length) : x.setL i x.l[i] = x := by
  unfold V.setL; rw [List.set_getElem_self]; exact V.eta x

/-- What was added is taken away again; if it was not there, all is as it was. -/
theorem at_undo {y : V} (l : List ByteArray) (hl : l ≠ []) (hd : (l.getLast hl).data.toList ≠ [45]) (x : V) (h : x.sound) (h0 : (atV (addF y) l x).2 = 0) :
    (atV remF l (atV (addF y) l x).1).2 = 0 ∧ (getV l x = none → (atV remF l (atV (addF y) l x).1).1 = x) := by
  induction l generalizing x with
  | nil => exact absurd rfl hl
  | cons a r ih =>
    cases r with
    | nil =>
      simp only [atV_one] at h0 ⊢
      simp only [List.getLast_singleton] at hd
      unfold addF at h0 ⊢
      by_cases h5 : x.k = 5
      · rw [if_pos h5]
        obtain ⟨i, h1, h2⟩ := put_child h h5 a y
        have hk5 : (x.put a y).k = 5 := by
          unfold V.put; split
          · split <;> simp [h5]
          · exact h5
        unfold remF
        simp only [h1, hk5, if_true, true_and]
        intro hg
        refine del_put h h5 ?_ y
        cases hb : hasB x.keys a with
        | false => rfl
        | true =>
          exfalso
          have hlt := hasB_lt hb
          rw [h.flat.len h5] at hlt
          simp [getV, V.child, h5, hb, List.getElem?_eq_getElem hlt] at hg
      · rw [if_neg h5] at h0 ⊢
        by_cases h4 : x.k = 4
        · rw [if_pos h4] at h0 ⊢
          cases hi : idxV a x.l.length with
          | none => rw [hi] at h0; simp at h0
          | some i =>
            rw [hi] at h0
            simp only at h0 ⊢
            by_cases hle : i ≤ x.l.length
            · rw [if_pos hle]
              obtain ⟨h1, h2⟩ := ins_child h4 hd hi hle y
              unfold remF
              have hk5 : ¬ (x.insL i y).k = 5 := by simp [V.insL, h4]
              simp only [h1, hk5, if_false, true_and]
              intro _
              exact delL_insL x y hle
            · rw [if_neg hle] at h0; simp at h0
        · rw [if_neg h4] at h0; simp at h0
    | cons b r =>
      cases hc : x.child a with
      | none => rw [atV_none hc] at h0; simp at h0
      | some i =>
        have hi := child_lt h hc
        rw [atV_some hc hi] at h0
        by_cases e : (atV (addF y) (b :: r) x.l[i]).2 = 0
        · have hih := ih (by simp) (by simpa using hd) _ (h.item (List.getElem_mem hi)) e
          have ea : (atV (addF y) (a :: b :: r) x).1 = x.setL i (atV (addF y) (b :: r) x.l[i]).1 := by rw [atV_some hc hi, if_pos e]
          rw [ea]
          have hi2 : i < (x.setL i (atV (addF y) (b :: r) x.l[i]).1).l.length := by simpa [V.setL] using hi
          have hg2 : (x.setL i (atV (addF y) (b :: r) x.l[i]).1).l[i] = (atV (addF y) (b :: r) x.l[i]).1 := by simp [V.setL]
          rw [atV_some (by rw [child_setL]; exact hc) hi2, hg2, if_pos hih.1]
          refine ⟨rfl, fun hg => ?_⟩
          have hg' : getV (b :: r) x.l[i] = none := by
            simp only [getV, hc, Option.bind_some, List.getElem?_eq_getElem hi] at hg ⊢
            exact hg
          rw [hih.2 hg', setL_setL, setL_self x hi]
        · rw [if_neg e] at h0; exact absurd h0 e

/-- What is taken away leaves a good value good. -/
theorem good_setL {x y : V} {d : Int} (h : x.good d = true) (i : Nat) (hy : y.good (d + 1) = true) : (x.setL i y).good d = true := by
  rw [V.good_eq, Bool.and_eq_true, List.all_eq_true] at h ⊢
  obtain ⟨h1, h2⟩ := h
  obtain ⟨hf, hd⟩ := flat_of h1
  refine ⟨of_flat ⟨hf.k0, hf.k5, hf.n0, hf.s0, hf.ks0, fun a => ?_, hf.n1, hf.nlo, hf.nhi, hf.sp, fun a => ?_, hf.kp, hf.rise⟩ hd, ?_⟩
  · have := hf.l0 a; simp [V.setL, this]
  · have := hf.len a; simp [V.setL, this]
  · intro z hz
    rcases List.mem_or_eq_of_mem_set hz with hz | rfl
    · exact h2 z hz
    · exact hy
theorem mem_erase {α : Type} {l : List α} {p : Nat} {a : α} (h : a ∈ l.take p ++ l.drop (p + 1)) : a ∈ l := by
  rcases List.mem_append.1 h with h | h
  · exact List.mem_of_mem_take h
  · exact List.mem_of_mem_drop h
theorem good_delL {x : V} {d : Int} (h : x.good d = true) (h4 : x.k = 4) (i : Nat) : (x.delL i).good d = true := by
  rw [V.good_eq, Bool.and_eq_true, List.all_eq_true] at h ⊢
  obtain ⟨h1, h2⟩ := h
  obtain ⟨hf, hd⟩ := flat_of h1
  refine ⟨of_flat ⟨hf.k0, hf.k5, hf.n0, hf.s0, hf.ks0, fun a => ?_, hf.n1, hf.nlo, hf.nhi, hf.sp, fun a => ?_, hf.kp, hf.rise⟩ hd, fun z hz => h2 z (mem_erase hz)⟩
  · have a' : x.k < 4 := a
    omega
  · have a' : x.k = 5 := a
    omega
theorem good_del {x : V} {d : Int} (h : x.good d = true) (name : ByteArray) : (x.del name).good d = true := by
  by_cases h5 : x.k = 5 ∧ x.keys.length = x.l.length
  · by_cases hb : hasB x.keys name = true
    · rw [del_yes h5 hb]
      rw [V.good_eq, Bool.and_eq_true, List.all_eq_true] at h ⊢
      obtain ⟨h1, h2⟩ := h
      obtain ⟨hf, hd⟩ := flat_of h1
      refine ⟨of_flat ⟨hf.k0, hf.k5, hf.n0, hf.s0, fun a => absurd h5.1 a, fun a => ?_, hf.n1, hf.nlo, hf.nhi, hf.sp, fun a => ?_, fun k hk => hf.kp k (mem_erase hk), rises_erase hf.rise _⟩ hd, fun z hz => h2 z (mem_erase hz)⟩
      · have a' : x.k < 4 := a
        omega
      · have := h5.2
        simp only [V.keys_mk, V.l_mk, List.length_append, List.length_take, List.length_drop]; omega
    · rw [del_no (by simpa using hb)]; exact h
  · rw [del_not h5]; exact h
theorem count_setL {x y : V} {i : Nat} (hi : i < x.l.length) (hy : y.count ≤ (x.l[i]).count) : (x.setL i y).count ≤ x.count := by
  rw [V.count_eq, V.count_eq x]
  have : ∀ (l : List V) (i : Nat) (hi : i < l.length), y.count ≤ (l[i]).count → ((l.set i y).map V.count).sum ≤ (l.map V.count).sum := by
    intro l
    induction l with
    | nil => intro i hi; simp at hi
    | cons b r ih =>
      intro i hi hy
      cases i with
      | zero => simp only [List.getElem_cons_zero] at hy; simp only [List.set_cons_zero, List.map_cons, List.sum_cons]; omega
      | succ i => have := ih i (by simpa using hi) (by simpa using hy); simp only [List.set_cons_succ, List.map_cons, List.sum_cons]; omega
  have := this x.l i hi hy
  simp only [V.setL, V.l_mk]; omega
theorem count_delL (x : V) (i : Nat) : (x.delL i).count ≤ x.count := by
  rw [V.count_eq, V.count_eq x]
  have := sum_erase V.count x.l i
  simp only [V.delL, V.l_mk]; omega
theorem count_del (x : V) (name : ByteArray) : (x.del name).count ≤ x.count := by
  by_cases h5 : x.k = 5 ∧ x.keys.length = x.l.length
  · by_cases hb : hasB x.keys name = true
    · rw [del_yes h5 hb]; exact count_delL x _
    · rw [del_no (by simpa using hb)]; omega
  · rw [del_not h5]; omega
theorem good_sound {x : V} {d : Int} (h : x.good d = true) : x.sound := ⟨d, h⟩
theorem good_item {x : V} {d : Int} (h : x.good d = true) {i : Nat} (hi : i < x.l.length) : (x.l[i]).good (d + 1) = true := by
  rw [V.good_eq, Bool.and_eq_true, List.all_eq_true] at h
  exact h.2 _ (List.getElem_mem hi)
theorem at_rem_good (l : List ByteArray) (x : V) (d : Int) (h : x.good d = true) : (atV remF l x).1.good d = true ∧ (atV remF l x).1.count ≤ x.count := by
  induction l generalizing x d with
  | nil => exact ⟨h, Nat.le_refl _⟩
  | cons a r ih =>
    cases r with
    | nil =>
      rw [atV_one]
      unfold remF
      cases hc : x.child a with
      | none => exact ⟨h, Nat.le_refl _⟩
      | some i =>
        simp only
        by_cases h5 : x.k = 5
        · rw [if_pos h5]; exact ⟨good_del h _, count_del x _⟩
        · rw [if_neg h5]
          have h4 : x.k = 4 := by
            unfold V.child at hc
            rw [if_neg h5] at hc
            split at hc
            · assumption
            · cases hc
          exact ⟨good_delL h h4 i, count_delL x i⟩
    | cons b r =>
      cases hc : x.child a with
      | none => rw [atV_none hc]; exact ⟨h, Nat.le_refl _⟩
      | some i =>
        have hi := child_lt (good_sound h) hc
        rw [atV_some hc hi]
        have := ih x.l[i] (d + 1) (good_item h hi)
        split
        · exact ⟨good_setL h i this.1, count_setL hi this.2⟩
        · exact ⟨h, Nat.le_refl _⟩

/-- changeV where it goes through. -/
theorem change_ok_iff {x : V} {p : ByteArray} {F : Doer} (h : (changeV x p F).2 = 0) : ∃ l, namesB p = some l ∧ l ≠ [] ∧ x.fine = true ∧ (atV F l x).2 = 0 ∧ (atV F l x).1.fine = true ∧ (changeV x p F).1 = (atV F l x).1 := by
  unfold changeV at h ⊢
  cases hn : namesB p with
  | none => rw [hn] at h; simp at h
  | some l =>
    rw [hn] at h
    simp only at h ⊢
    by_cases hf : x.fine = false
    · rw [if_pos hf] at h; simp at h
    · rw [if_neg hf] at h ⊢
      by_cases hl : l = []
      · rw [if_pos hl] at h; simp at h
      · rw [if_neg hl] at h ⊢
        by_cases h0 : (atV F l x).2 = 0
        · rw [if_pos h0] at h ⊢
          by_cases hg : (atV F l x).1.fine = true
          · rw [if_pos hg]
            exact ⟨l, rfl, hl, by simpa using hf, h0, hg, rfl⟩
          · rw [if_neg hg] at h; simp at h
        · rw [if_neg h0] at h; exact absurd h h0
theorem change_not {x : V} {p : ByteArray} {F : Doer} (h : (changeV x p F).2 ≠ 0) : (changeV x p F).1 = x := by
  unfold changeV at h ⊢
  cases hn : namesB p with
  | none => rfl
  | some l =>
    rw [hn] at h
    simp only at h ⊢
    by_cases h1 : x.fine = false
    · rw [if_pos h1]
    · rw [if_neg h1] at h ⊢
      by_cases h2 : l = []
      · rw [if_pos h2]
      · rw [if_neg h2] at h ⊢
        by_cases h3 : (atV F l x).2 = 0
        · rw [if_pos h3] at h ⊢
          by_cases h4 : (atV F l x).1.fine = true
          · rw [if_pos h4] at h; exact absurd rfl h
          · rw [if_neg h4]
        · rw [if_neg h3]
theorem change_mk {x : V} {p : ByteArray} {F : Doer} {l : List ByteArray} (hn : namesB p = some l) (hl : l ≠ []) (hf : x.fine = true) (h0 : (atV F l x).2 = 0) (hg : (atV F l x).1.fine = true) : changeV x p F = ((atV F l x).1, 0) := by
  unfold changeV
  rw [hn]
  simp only
  rw [if_neg (by rw [hf]; decide), if_neg hl, if_pos h0, if_pos hg]

/-- PointAdds, of Put. -/
theorem put_law (x y : V) (p : ByteArray) : ((putP x p y).2 ≠ 0 → (putP x p y).1 = x) ∧ ((putP x p y).2 = 0 → (putP x p y).1.fine = true ∧ getP (putP x p y).1 p = (y, 0)) := by
  unfold putP
  by_cases hy : y.fine = false
  · rw [if_pos hy]; exact ⟨fun _ => rfl, fun h => by simp at h⟩
  · rw [if_neg hy]
    have hy' : y.fine = true := by simpa using hy
    by_cases hp : p.data.toList = [] ∧ x.fine = true
    · rw [if_pos hp]
      refine ⟨fun h => absurd rfl h, fun _ => ⟨hy', ?_⟩⟩
      unfold getP
      rw [names_empty hp.1]
      simp [hy', getV]
    · rw [if_neg hp]
      refine ⟨change_not, fun h => ?_⟩
      obtain ⟨l, hn, hl, hf, h0, hg, he⟩ := change_ok_iff h
      rw [he]
      refine ⟨hg, ?_⟩
      have := at_put_get l hl x (fine_sound hf) h0
      unfold getP
      rw [hn]
      simp only
      rw [if_neg (by rw [hg]; decide), this]
/-- PointAdds, of Add. -/
theorem add_law (x y : V) (p : ByteArray) : ((addP x p y).2 ≠ 0 → (addP x p y).1 = x) ∧ ((addP x p y).2 = 0 → (addP x p y).1.fine = true ∧ ∃ l, namesB p = some l ∧ (∀ hl : l ≠ [], (l.getLast hl).data.toList ≠ [45] → getP (addP x p y).1 p = (y, 0)) ∧ (l = [] → getP (addP x p y).1 p = (y, 0))) := by
  unfold addP
  by_cases hy : y.fine = false
  · rw [if_pos hy]; exact ⟨fun _ => rfl, fun h => by simp at h⟩
  · rw [if_neg hy]
    have hy' : y.fine = true := by simpa using hy
    by_cases hp : p.data.toList = [] ∧ x.fine = true
    · rw [if_pos hp]
      refine ⟨fun h => absurd rfl h, fun _ => ⟨hy', [], names_empty hp.1, fun hl => absurd rfl hl, fun _ => ?_⟩⟩
      unfold getP
      rw [names_empty hp.1]
      simp [hy', getV]
    · rw [if_neg hp]
      refine ⟨change_not, fun h => ?_⟩
      obtain ⟨l, hn, hl, hf, h0, hg, he⟩ := change_ok_iff h
      rw [he]
      refine ⟨hg, l, hn, fun hl hd => ?_, fun h => absurd h hl⟩
      have := at_add_get l hl hd x (fine_sound hf) h0
      unfold getP
      rw [hn]
      simp only
      rw [if_neg (by rw [hg]; decide), this]
/-- PointUndoes. -/
theorem undo_law (x y : V) (p : ByteArray) (l : List ByteArray) (hn : namesB p = some l) (hl : l ≠ []) (hd : (l.getLast hl).data.toList ≠ [45]) (h : (addP x p y).2 = 0) :
    (remP (addP x p y).1 p).2 = 0 ∧ ((getP x p).2 = 3 → (remP (addP x p y).1 p).1 = x) := by
  unfold addP at h ⊢
  by_cases hy : y.fine = false
  · rw [if_pos hy] at h; simp at h
  · rw [if_neg hy] at h ⊢
    by_cases hp : p.data.toList = [] ∧ x.fine = true
    · rw [names_empty hp.1] at hn
      exact absurd (Option.some.inj hn).symm hl
    · rw [if_neg hp] at h ⊢
      obtain ⟨l', hn', hl', hf, h0, hg, he⟩ := change_ok_iff h
      rw [hn] at hn'
      obtain rfl := Option.some.inj hn'
      rw [he]
      obtain ⟨h1, h2⟩ := at_undo l hl hd x (fine_sound hf) h0
      have hg1 : (atV (addF y) l x).1.good 1 = true := by simp only [V.fine, Bool.and_eq_true] at hg; exact hg.1
      obtain ⟨h3, h4⟩ := at_rem_good l _ 1 hg1
      have hg2 : (atV remF l (atV (addF y) l x).1).1.fine = true := by
        simp only [V.fine, Bool.and_eq_true, decide_eq_true_eq]
        have := fine_count hg
        exact ⟨h3, by omega⟩
      have hm := change_mk hn hl hg h1 hg2
      unfold remP
      rw [hm]
      refine ⟨rfl, fun h => h2 ?_⟩
      unfold getP at h
      rw [hn] at h
      simp only at h
      rw [if_neg (by rw [hf]; decide)] at h
      cases hq : getV l x with
      | none => rfl
      | some z => rw [hq] at h; simp at h
end Go.Proofs.YtknnflobpjppfaaDoor
