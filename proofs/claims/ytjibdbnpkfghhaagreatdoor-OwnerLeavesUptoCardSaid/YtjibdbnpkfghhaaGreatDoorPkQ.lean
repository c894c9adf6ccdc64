/- Several texts in one. -/
import Derived.Test.YtjibdbnpkfghhaaGreatDoorPkA
import Derived.Test.YtjibdbnpkfghhaaGreatDoorPkC
import Derived.Test.YtjibdbnpkfghhaaGreatDoorRef1
import Derived.Test.YtjibdbnpkfghhaaGreatDoorMay
set_option linter.all false
/- Owners, said plainly: names, paths, leaves, what stands in the way, what is set and dropped; no program in sight. -/
namespace Go.Proofs.YtjibdbnpkfghhaaGreatDoor
structure Ow where
 name : ByteArray
 paths : List ByteArray
def namedB (s : ByteArray) : Bool := (s.data.toList.all fun c => decide (97 ≤ (c.toNat : Int) ∧ (c.toNat : Int) ≤ 122)) && decide (1 ≤ s.size) && decide (s.size ≤ 12)
def namesD (p : ByteArray) : List ByteArray := (namesB p).getD []
def joinB (l : List ByteArray) : ByteArray := ⟨(joinL (l.map (·.data.toList))).toArray⟩
def pathB (p : ByteArray) : Bool := match namesB p with | some l => decide (l ≠ []) | none => false
def goodPaths (ps : List ByteArray) : Bool := decide (∀ k, (h : k < ps.length) → pathB ps[k] = true ∧ (0 < k → ltS (ps[k - 1]'(by omega)) ps[k] = true))
def goodOws (l : List Ow) : Bool :=
 decide (∀ i, (h : i < l.length) → namedB l[i].name = true ∧ (0 < i → ltS (l[i - 1]'(by omega)).name l[i].name = true) ∧ l[i].paths ≠ [] ∧ goodPaths l[i].paths = true) && decide (l.length ≤ 6)
def V.lvs : V → List ByteArray → List (List ByteArray)
 | .mk k _ _ ks l, ns => if k ≠ 5 ∨ (l = [] ∧ ns ≠ []) then [ns] else go l ks ns
where go : List V → List ByteArray → List ByteArray → List (List ByteArray)
 | x :: l, k :: ks, ns => V.lvs x (ns ++ [k]) ++ go l ks ns
 | _, _, _ => []
theorem lvs_eq (x : V) (ns : List ByteArray) : x.lvs ns = if x.k ≠ 5 ∨ (x.l = [] ∧ ns ≠ []) then [ns] else V.lvs.go x.l x.keys ns := by
 obtain ⟨k, n, s, ks, l⟩ := x
 rw [V.lvs]; rfl
theorem lgo_cons (x : V) (l : List V) (k : ByteArray) (ks ns : List ByteArray) : V.lvs.go (x :: l) (k :: ks) ns = x.lvs (ns ++ [k]) ++ V.lvs.go l ks ns := by rw [V.lvs.go]
theorem lgo_nil (ks ns : List ByteArray) : V.lvs.go [] ks ns = [] := by cases ks <;> rfl
theorem lgo_nil' (l : List V) (ns : List ByteArray) : V.lvs.go l [] ns = [] := by cases l <;> rfl
theorem lgo_snoc (ns : List ByteArray) : ∀ (l : List V) (ks : List ByteArray) (x : V) (k : ByteArray), ks.length = l.length → V.lvs.go (l ++ [x]) (ks ++ [k]) ns = V.lvs.go l ks ns ++ x.lvs (ns ++ [k])
 | [], [], x, k, _ => by simp [lgo_cons, lgo_nil]
 | [], _ :: _, _, _, h => by simp at h
 | _ :: _, [], _, _, h => by simp at h
 | y :: l, a :: ks, x, k, h => by
  rw [List.cons_append, List.cons_append, lgo_cons, lgo_cons, lgo_snoc ns l ks x k (by simpa using h), List.append_assoc]
def insB (p : ByteArray) : List ByteArray → List ByteArray
 | [] => [p]
 | q :: r => if ltS p q = true then p :: q :: r else q :: insB p r
def sortB : List ByteArray → List ByteArray
 | [] => []
 | p :: r => insB p (sortB r)
abbrev Sorted (l : List ByteArray) : Prop := l.Pairwise fun a b => ltS b a = false
theorem insB_perm (p : ByteArray) : ∀ l, (insB p l).Perm (p :: l)
 | [] => .refl _
 | q :: r => by
  rw [insB]
  split
  ·exact .refl _
  ·exact ((insB_perm p r).cons q).trans (.swap p q r)
theorem sortB_perm : ∀ l, (sortB l).Perm l
 | [] => .refl _
 | p :: r => (insB_perm p _).trans ((sortB_perm r).cons p)
theorem ltS_le_trans {a b c : ByteArray} (h1 : ltS b a = false) (h2 : ltS c b = false) : ltS c a = false := by
 cases h : ltS c a with
 | false => rfl
 | true =>
  rcases ltS_tri a b with h3 | rfl | h3
  ·rw [ltS_trans h h3] at h2; cases h2
  ·rw [h] at h2; cases h2
  ·rw [h3] at h1; cases h1
theorem insB_sorted (p : ByteArray) : ∀ l, Sorted l → Sorted (insB p l)
 | [], _ => by simp [insB]
 | q :: r, h => by
  rw [insB]
  obtain ⟨h1, h2⟩ := List.pairwise_cons.1 h
  split
  ·rename_i hlt
   refine List.pairwise_cons.2 ⟨fun b hb => ?_, h⟩
   rcases List.mem_cons.1 hb with rfl | hb
   ·exact ltS_asymm hlt
   ·exact ltS_le_trans (ltS_asymm hlt) (h1 b hb)
  ·rename_i hlt
   refine List.pairwise_cons.2 ⟨fun b hb => ?_, insB_sorted p r h2⟩
   rcases List.mem_cons.1 ((insB_perm p r).mem_iff.1 hb) with rfl | hb
   ·simpa using hlt
   ·exact h1 b hb
theorem sortB_sorted : ∀ l, Sorted (sortB l)
 | [] => .nil
 | p :: r => insB_sorted p _ (sortB_sorted r)
theorem sorted_perm : ∀ {l m : List ByteArray}, Sorted l → Sorted m → l.Perm m → l = m
 | [], m, _, _, h => by simpa using h.symm
 | a :: l, [], _, _, h => by simp at h
 | a :: l, b :: m, hl, hm, h => by
  obtain ⟨hl1, hl2⟩ := List.pairwise_cons.1 hl
  obtain ⟨hm1, hm2⟩ := List.pairwise_cons.1 hm
  have e : a = b := by
   rcases List.mem_cons.1 (h.mem_iff.1 (List.mem_cons_self ..)) with e | ha
   ·exact e
   rcases List.mem_cons.1 (h.mem_iff.2 (List.mem_cons_self ..)) with e | hb
   ·exact e.symm
   have h1 := hl1 b hb
   have h2 := hm1 a ha
   rcases ltS_tri a b with h3 | h3 | h3
   ·rw [h3] at h2; cases h2
   ·exact h3
   ·rw [h3] at h1; cases h1
  subst e
  rw [sorted_perm hl2 hm2 ((List.perm_cons a).1 h)]
def V.leaves (x : V) : List ByteArray := if x.fine = true ∧ x.k = 5 then sortB ((x.lvs []).map joinB) else []
def goV : List ByteArray → V → Option V
 | [], x => some x
 | a :: r, x => (x.member a).bind (goV r)
def findV (x : V) (p : ByteArray) : Option V := goV (namesD p) x
def aboveB (p q : ByteArray) : Bool := (p.data.toList ++ [47]).isPrefixOf q.data.toList
def likeB (now want : V) : Bool := now.same want || (decide (now.k = 5) && decide (want.k = 5) && decide (want.l.length = 0))
def wayL (v want : V) (q : ByteArray) : List ByteArray → Bool
 | [] => false
 | p :: r => if (aboveB p q || aboveB q p) = true then true else if p = q then (match findV v p with | none => true | some now => !likeB now ((findV want p).getD V.zero)) else wayL v want q r
def wayB (v want : V) (q : ByteArray) : Bool := wayL v want q want.leaves
def confO (v want : V) (who : ByteArray) (o : Ow) : List (ByteArray × ByteArray) := if o.name = who then [] else (o.paths.filter (wayB v want)).map fun q => (o.name, q)
def confL (v : V) (l : List Ow) (who : ByteArray) (want : V) : List (ByteArray × ByteArray) := l.flatMap (confO v want who)
def setV : List ByteArray → V → V → V
 | [], _, x => x
 | a :: r, v, x => if r ≠ [] then v.base.put a (setV r ((v.base.member a).getD V.zero) x) else
  match v.base.member a with | some old => if likeB old x = true then v.base else v.base.put a x | none => v.base.put a x
def dropV : List ByteArray → V → V
 | [], v => v
 | a :: r, v => match v.member a with
  | none => v
  | some old => if r = [] then v.del a else if (dropV r old).k = 5 ∧ (dropV r old).l = [] ∧ old.l ≠ [] then v.del a else v.put a (dropV r old)
def keepO (f : ByteArray → Bool) (o : Ow) : Option Ow := if o.paths.filter f = [] then none else some ⟨o.name, o.paths.filter f⟩
def othersL (v want : V) (who : ByteArray) (l : List Ow) : List Ow := (l.filter fun o => decide (o.name ≠ who)).filterMap (keepO fun q => !wayB v want q)
def oldL (who : ByteArray) (l : List Ow) : List ByteArray := l.foldl (fun old o => if o.name = who then o.paths else old) []
def nearB (p q : ByteArray) : Bool := decide (p = q) || aboveB p q || aboveB q p
def heldB (out : List Ow) (p : ByteArray) : Bool := out.any fun o => o.paths.any (nearB p)
def inB (paths : List ByteArray) (p : ByteArray) : Bool := paths.any fun q => decide (p = q)
def dropStep (paths : List ByteArray) (out : List Ow) (next : V) (p : ByteArray) : V := if inB paths p = false ∧ heldB out p = false then dropV (namesD p) next else next
def setStep (want : V) (next : V) (p : ByteArray) : V := setV (namesD p) next ((findV want p).getD V.zero)
def nextV (v : V) (l : List Ow) (who : ByteArray) (want : V) : V := want.leaves.foldl (setStep want) ((oldL who l).foldl (dropStep want.leaves (othersL v want who l)) v)
def posO (l : List Ow) (who : ByteArray) : Nat := posOf (l.map Ow.name) who
def insO (l : List Ow) (who : ByteArray) (ps : List ByteArray) : List Ow := if ps = [] then l else l.take (posO l who) ++ ⟨who, ps⟩ :: l.drop (posO l who)
def outL (v : V) (l : List Ow) (who : ByteArray) (want : V) : List Ow := insO (othersL v want who l) who want.leaves
def formB (v : V) (l : List Ow) (who : ByteArray) (want : V) : Bool := v.fine && want.fine && decide (v.k = 5) && decide (want.k = 5) && goodOws l && namedB who
def applyV (v : V) (l : List Ow) (who : ByteArray) (want : V) (force : Bool) : V × List Ow × List (ByteArray × ByteArray) × Int :=
 if formB v l who want = false then (v, l, [], 1)
 else if confL v l who want ≠ [] ∧ force = false then (v, l, confL v l who want, 5)
 else if (nextV v l who want).fine = false ∨ 6 < (outL v l who want).length then (v, l, [], 2)
 else (nextV v l who want, outL v l who want, [], 0)
end Go.Proofs.YtjibdbnpkfghhaaGreatDoor
/- Plain laws of owners: leaves, what is set and laid, what is dropped and taken; no program in sight. -/
namespace Go.Proofs.YtjibdbnpkfghhaaGreatDoor
theorem joinB_list (l : List ByteArray) : (joinB l).data.toList = joinL (l.map (·.data.toList)) := by unfold joinB; simp
theorem bytes_eq {a b : ByteArray} (h : a.data.toList = b.data.toList) : a = b := by
 obtain ⟨⟨l⟩⟩ := a; obtain ⟨⟨m⟩⟩ := b; simp only at h; rw [h]
theorem names_join_b {l : List ByteArray} (h : (joinL (l.map (·.data.toList))).length ≤ 2000) : namesB (joinB l) = some l :=
 namesB_of (by rw [joinB_list]; exact names_join _ h)
theorem joinL_len (l : List ByteArray) (h : ∀ a ∈ l, a.size ≤ 60) : (joinL (l.map (·.data.toList))).length ≤ l.length * 121 := by
 induction l with
 | nil => simp [joinL]
 | cons a r ih =>
  have h1 := ih (fun b hb => h b (by simp [hb]))
  have h2 := escN_len a.data.toList
  have h3 : a.data.toList.length = a.size := Array.length_toList
  have h4 := h a (by simp)
  unfold joinL at h1 ⊢
  simp only [List.map_cons, List.flatMap_cons, List.length_append, List.length_cons]
  omega
theorem lvs_mem (x : V) : ∀ (d : Int) (ns : List ByteArray), x.good d = true → ∀ q ∈ x.lvs ns, ∃ r, q = ns ++ r ∧ (∃ y, goV r x = some y ∧ (y.k = 5 → y.l = [])) ∧ (r.length : Int) + d ≤ 12 ∧ ∀ a ∈ r, plainB a = true := by
 induction x using V.ind with
 | h x ih =>
  intro d ns hg q hq
  rw [lvs_eq] at hq
  obtain ⟨hfl, hd⟩ := flat_of (show x.flat d = true by rw [V.good_eq, Bool.and_eq_true] at hg; exact hg.1)
  split at hq
  ·rename_i hc
   simp only [List.mem_singleton] at hq
   subst hq
   refine ⟨[], by simp, ⟨x, rfl, fun h5 => ?_⟩, by simpa using hd, by simp⟩
   rcases hc with h | h
   ·exact absurd h5 h
   ·exact h.1
  ·rename_i hc
   have h5 : x.k = 5 := Classical.byContradiction fun h => hc (.inl h)
   have hob := sound_obj (good_sound hg) h5
   have hgo : ∀ (l : List V) (ks : List ByteArray), q ∈ V.lvs.go l ks ns → ∃ i, ∃ h1 : i < l.length, ∃ h2 : i < ks.length, q ∈ (l[i]).lvs (ns ++ [ks[i]]) := by
    intro l
    induction l with
    | nil => intro ks h; rw [lgo_nil] at h; cases h
    | cons y l ihl =>
     intro ks h
     cases ks with
     | nil => rw [lgo_nil'] at h; cases h
     | cons k ks =>
      rw [lgo_cons, List.mem_append] at h
      rcases h with h | h
      ·exact ⟨0, by simp, by simp, by simpa using h⟩
      ·obtain ⟨i, h1, h2, h3⟩ := ihl ks h
       exact ⟨i + 1, by simpa using h1, by simpa using h2, by simpa using h3⟩
   obtain ⟨i, h1, h2, h3⟩ := hgo _ _ hq
   obtain ⟨r, rfl, ⟨y, hy, hyl⟩, hlen, hp⟩ := ih _ (List.getElem_mem h1) (d + 1) _ (good_item hg h1) q h3
   refine ⟨x.keys[i] :: r, by simp, ⟨y, ?_, hyl⟩, ?_, ?_⟩
   ·rw [goV, member_lk h5 hob.len, lk_at _ _ hob.len hob.nodup i h2]
    exact hy
   ·simp only [List.length_cons]; omega
   ·intro a ha
    rcases List.mem_cons.1 ha with rfl | ha
    ·exact hfl.kp _ (List.getElem_mem h2)
    ·exact hp a ha
theorem fine_good {x : V} (h : x.fine = true) : x.good 1 = true := by unfold V.fine at h; rw [Bool.and_eq_true] at h; exact h.1
theorem leaf_at {x : V} {p : ByteArray} (h : p ∈ x.leaves) : x.fine = true ∧ x.k = 5 ∧ ∃ r, p = joinB r ∧ namesB p = some r ∧ r ≠ [] ∧ r.length ≤ 11 ∧ (∀ a ∈ r, plainB a = true) ∧ ∃ y, goV r x = some y ∧ findV x p = some y ∧ (y.k = 5 → y.l = []) := by
 unfold V.leaves at h
 split at h
 ·rename_i hc
  obtain ⟨hf, h5⟩ := hc
  rw [(sortB_perm _).mem_iff, List.mem_map] at h
  obtain ⟨q, hq, rfl⟩ := h
  obtain ⟨r, hqr, ⟨y, hy, hyl⟩, hlen, hp⟩ := lvs_mem x 1 [] (fine_good hf) q hq
  rw [List.nil_append] at hqr
  rw [hqr] at hq ⊢
  have hl : r.length ≤ 11 := by omega
  have hn : namesB (joinB r) = some r := names_join_b (by have := joinL_len r (fun a ha => plain_size (hp a ha)); omega)
  have hr : r ≠ [] := by
   rintro rfl
   simp only [goV, Option.some.injEq] at hy
   subst hy
   have hl0 := hyl h5
   rw [lvs_eq, if_neg (by simp [h5]), hl0, lgo_nil] at hq
   cases hq
  exact ⟨hf, h5, r, rfl, hn, hr, hl, hp, y, hy, by unfold findV namesD; rw [hn]; exact hy, hyl⟩
 ·cases h
theorem go_sound : ∀ (r : List ByteArray) {x y : V}, x.sound → goV r x = some y → y.sound
 | [], x, y, hx, h => by simp only [goV, Option.some.injEq] at h; rw [← h]; exact hx
 | a :: r, x, y, hx, h => by
  rw [goV] at h
  cases hm : x.member a with
  | none => rw [hm] at h; cases h
  | some z => rw [hm] at h; exact go_sound r (member_sound hx hm) h
theorem member_size {x y : V} {a : ByteArray} (h : x.member a = some y) : y.size < x.size := V.size_mem (member_mem h)
theorem go_size : ∀ (r : List ByteArray) {x y : V}, goV r x = some y → y.size ≤ x.size
 | [], x, y, h => by simp only [goV, Option.some.injEq] at h; rw [h]; exact Nat.le_refl _
 | a :: r, x, y, h => by
  rw [goV] at h
  cases hm : x.member a with
  | none => rw [hm] at h; cases h
  | some z => rw [hm] at h; have := go_size r (x := z) (y := y) h; have := member_size hm; omega
theorem member_count {x y : V} {a : ByteArray} (h : x.member a = some y) : y.count < x.count := by
 obtain ⟨i, hi, rfl⟩ := List.getElem_of_mem (member_mem h)
 exact V.count_item hi
theorem go_count : ∀ (r : List ByteArray) {x y : V}, goV r x = some y → y.count ≤ x.count
 | [], x, y, h => by simp only [goV, Option.some.injEq] at h; rw [h]; exact Nat.le_refl _
 | a :: r, x, y, h => by
  rw [goV] at h
  cases hm : x.member a with
  | none => rw [hm] at h; cases h
  | some z => rw [hm] at h; have := go_count r (x := z) (y := y) h; have := member_count hm; omega
/-! ## Put and del once more -/
theorem put_self {x y : V} (h : VObj x) {a : ByteArray} (hm : x.member a = some y) : x.put a y = x := by
 refine obj_ext (h.put a y) h fun k => ?_
 rw [member_put h]
 split
 ·rename_i e; subst e; exact hm.symm
 ·rfl
theorem put_mem {x : V} (h : VObj x) (a : ByteArray) (y : V) : (x.put a y).member a = some y := by rw [member_put h, if_pos rfl]
theorem member_plain {x y : V} (h : x.sound) {a : ByteArray} (hm : x.member a = some y) : plainB a = true ∧ x.k = 5 := by
 have h5 : x.k = 5 := Classical.byContradiction fun h5 => by rw [member_not5 h5] at hm; cases hm
 exact ⟨h.flat.kp a (((sound_obj h h5).keys_iff a).2 (by rw [hm]; simp)), h5⟩
theorem base_count (v : V) : v.base.count ≤ v.count := by
 unfold V.base
 split
 ·exact Nat.le_refl _
 ·have := V.count_pos v; have e : V.none5.count = 1 := by decide +kernel
  omega
theorem put_count {x : V} (h : VObj x) (a : ByteArray) (y : V) : (x.put a y).count ≤ x.count + y.count := by have := count_put h a y; omega
theorem set_keeps : ∀ (l : List ByteArray) {v x : V}, l ≠ [] → v.sound → x.sound → (∀ a ∈ l, plainB a = true) → (setV l v x).sound ∧ (setV l v x).k = 5 ∧ (setV l v x).count ≤ v.count + l.length + x.count
 | [], _, _, h, _, _, _ => absurd rfl h
 | a :: r, v, x, _, hv, hx, hp => by
  have hb := base_obj hv
  have hbs := base_sound hv
  have hbc := base_count v
  have hpa := hp a (by simp)
  rw [setV]
  by_cases hr : r = []
  ·subst hr
   rw [if_neg (by simp)]
   have h1 : (v.base.put a x).sound ∧ (v.base.put a x).k = 5 ∧ (v.base.put a x).count ≤ v.count + [a].length + x.count :=
    ⟨put_sound hbs hx hpa hb.k5, (hb.put a x).k5, by have := put_count hb a x; simp only [List.length_cons]; omega⟩
   have h2 : v.base.sound ∧ v.base.k = 5 ∧ v.base.count ≤ v.count + [a].length + x.count := ⟨hbs, hb.k5, by omega⟩
   split
   ·split
    ·exact h2
    ·exact h1
   ·exact h1
  ·rw [if_pos hr]
   obtain ⟨h1, h2, h3⟩ := set_keeps r hr (getD_sound hbs a) hx (fun b hb => hp b (by simp [hb]))
   refine ⟨put_sound hbs h1 hpa hb.k5, (hb.put a _).k5, ?_⟩
   have h4 := count_put hb a (setV r ((v.base.member a).getD V.zero) x)
   cases hm : v.base.member a with
   | none =>
    simp only [hm, Option.getD_none] at h3 h4 ⊢
    have e : V.zero.count = 1 := by decide +kernel
    simp only [List.length_cons]
    omega
   | some o =>
    simp only [hm, Option.getD_some] at h3 h4 ⊢
    simp only [List.length_cons]
    omega
/-! ## Taken -/
def cutV : List ByteArray → V → V
 | [], v => v
 | a :: r, v => if r = [] then v.del a else v.put a (cutV r ((v.member a).getD V.zero))
def takeF (l : List ByteArray) : Nat → V → V × Bool
 | 0, v => (v, true)
 | n + 1, v => match goV (l.take (n + 1)) v with
  | none => (v, false)
  | some x => if n + 1 < l.length ∧ (x.k ≠ 5 ∨ x.keys ≠ []) then (v, false) else takeF l n (cutV (l.take (n + 1)) v)
theorem take_zero (l : List ByteArray) (v : V) : takeF l 0 v = (v, true) := rfl
theorem take_ne {l : List ByteArray} {n : Nat} (h : n < l.length) : l.take (n + 1) ≠ [] := by
 intro e
 have := congrArg List.length e
 simp only [List.length_take, List.length_nil] at this
 omega
theorem go_cut : ∀ (l : List ByteArray) (n : Nat) {v : V}, n < l.length → v.sound → goV (l.take (n + 1)) v ≠ none → goV (l.take n) (cutV (l.take (n + 1)) v) ≠ none
 | [], n, v, h, _, _ => by simp at h
 | a :: r, 0, v, _, _, _ => by simp [goV]
 | a :: r, n + 1, v, h, hv, hg => by
  have hn : n < r.length := by simpa using h
  rw [List.take_succ_cons, goV] at hg
  cases hm : v.member a with
  | none => rw [hm] at hg; exact absurd rfl hg
  | some o =>
   rw [hm, Option.bind_some] at hg
   have hob := sound_obj hv (member_plain hv hm).2
   rw [List.take_succ_cons, List.take_succ_cons, cutV, if_neg (take_ne hn), hm, Option.getD_some, goV, put_mem hob]
   exact go_cut r n hn (member_sound hv hm) hg
theorem drop_keeps : ∀ (l : List ByteArray) {v : V}, v.sound → (dropV l v).sound ∧ (dropV l v).count ≤ v.count
 | [], v, h => ⟨h, Nat.le_refl _⟩
 | a :: r, v, h => by
  rw [dropV]
  cases hm : v.member a with
  | none => exact ⟨h, Nat.le_refl _⟩
  | some o =>
   obtain ⟨hp, h5⟩ := member_plain h hm
   have hob := sound_obj h h5
   have hd : (v.del a).sound ∧ (v.del a).count ≤ v.count := ⟨del_sound h a, count_del_le hob a⟩
   obtain ⟨h1, h2⟩ := drop_keeps r (member_sound h hm)
   have h3 := count_put hob a (dropV r o)
   rw [hm] at h3
   simp only at h3 ⊢
   split
   ·exact hd
   ·split
    ·exact hd
    ·exact ⟨put_sound h h1 hp h5, by omega⟩
end Go.Proofs.YtjibdbnpkfghhaaGreatDoor
/- Plain laws of Apply: bounds of what stands between, the reference's insertion; no program in sight. -/
namespace Go.Proofs.YtjibdbnpkfghhaaGreatDoor
theorem lvs_len (x : V) : ∀ ns, (x.lvs ns).length ≤ x.count := by
 induction x using V.ind with
 | h x ih =>
  intro ns
  rw [lvs_eq]
  have hp := V.count_pos x
  split
  ·simp only [List.length_singleton]; exact hp
  ·have hgo : ∀ (l : List V) (ks : List ByteArray), (∀ y ∈ l, ∀ ns, (y.lvs ns).length ≤ y.count) → (V.lvs.go l ks ns).length ≤ (l.map V.count).sum := by
    intro l
    induction l with
    | nil => intro ks _; rw [lgo_nil]; simp
    | cons y l ihl =>
     intro ks h
     cases ks with
     | nil => rw [lgo_nil']; simp
     | cons k ks =>
      rw [lgo_cons, List.length_append, List.map_cons, List.sum_cons]
      have h1 := h y (by simp) (ns ++ [k])
      have h2 := ihl ks (fun z hz => h z (by simp [hz]))
      omega
   have := hgo x.l x.keys ih
   rw [V.count_eq]
   omega
theorem leaves_len (x : V) : x.leaves.length ≤ 120 := by
 unfold V.leaves
 split
 ·rename_i h
  rw [(sortB_perm _).length_eq, List.length_map]
  have := lvs_len x []
  have := fine_count h.1
  omega
 ·simp
theorem dropStep_keeps (paths : List ByteArray) (out : List Ow) {v : V} (h : v.sound) (p : ByteArray) : (dropStep paths out v p).sound ∧ (dropStep paths out v p).count ≤ v.count := by
 unfold dropStep
 split
 ·exact drop_keeps _ h
 ·exact ⟨h, Nat.le_refl _⟩
theorem drops_keep (paths : List ByteArray) (out : List Ow) : ∀ (ps : List ByteArray) {v : V}, v.sound → (ps.foldl (dropStep paths out) v).sound ∧ (ps.foldl (dropStep paths out) v).count ≤ v.count
 | [], _, h => ⟨h, Nat.le_refl _⟩
 | p :: r, v, h => by
  obtain ⟨h1, h2⟩ := dropStep_keeps paths out h p
  obtain ⟨h3, h4⟩ := drops_keep paths out r h1
  exact ⟨h3, by rw [List.foldl_cons]; omega⟩
theorem find_leaf {want : V} {p : ByteArray} (h : p ∈ want.leaves) : (((findV want p).getD V.zero).k = 5 → ((findV want p).getD V.zero).l = []) ∧ ((findV want p).getD V.zero).sound ∧ ((findV want p).getD V.zero).count ≤ 120 := by
 obtain ⟨hf, h5, r, rfl, hn, hr, hl, hp, y, hy, hfy, hyl⟩ := leaf_at h
 rw [hfy, Option.getD_some]
 exact ⟨hyl, go_sound r (fine_sound hf) hy, by have := go_count r hy; have := fine_count hf; omega⟩
theorem leaf_names {want : V} {p : ByteArray} (h : p ∈ want.leaves) : namesD p ≠ [] ∧ (namesD p).length ≤ 11 ∧ ∀ a ∈ namesD p, plainB a = true := by
 obtain ⟨hf, h5, r, rfl, hn, hr, hl, hp, -⟩ := leaf_at h
 unfold namesD
 rw [hn]
 exact ⟨hr, hl, hp⟩
theorem setStep_keeps {want v : V} (h : v.sound) {p : ByteArray} (hp : p ∈ want.leaves) : (setStep want v p).sound ∧ (setStep want v p).k = 5 ∧ (setStep want v p).count ≤ v.count + 131 := by
 obtain ⟨h1, h2, h3⟩ := find_leaf hp
 obtain ⟨n1, n2, n3⟩ := leaf_names hp
 obtain ⟨k1, k2, k3⟩ := set_keeps (namesD p) n1 h h2 n3
 exact ⟨k1, k2, by unfold setStep; omega⟩
theorem sets_keep (want : V) : ∀ (ps : List ByteArray) {v : V}, (∀ p ∈ ps, p ∈ want.leaves) → v.sound → (ps.foldl (setStep want) v).sound ∧ (ps.foldl (setStep want) v).count ≤ v.count + ps.length * 131
 | [], _, _, h => ⟨h, by simp⟩
 | p :: r, v, hp, h => by
  obtain ⟨h1, -, h2⟩ := setStep_keeps h (hp p (by simp))
  obtain ⟨h3, h4⟩ := sets_keep want r (fun q hq => hp q (by simp [hq])) h1
  exact ⟨h3, by rw [List.foldl_cons, List.length_cons]; omega⟩
theorem sound_bound {x : V} (h : x.sound) (hc : x.count ≤ 20000) : x.size ≤ 4194304 := by have := sound_size h; omega
theorem goodOws_path {l : List Ow} (h : goodOws l = true) {o : Ow} (ho : o ∈ l) {p : ByteArray} (hp : p ∈ o.paths) : ∃ r, namesB p = some r ∧ r ≠ [] := by
 unfold goodOws at h
 rw [Bool.and_eq_true, decide_eq_true_eq] at h
 obtain ⟨i, hi, rfl⟩ := List.getElem_of_mem ho
 obtain ⟨-, -, -, h4⟩ := h.1 i hi
 unfold goodPaths at h4
 rw [decide_eq_true_eq] at h4
 obtain ⟨k, hk, rfl⟩ := List.getElem_of_mem hp
 have h5 := (h4 k hk).1
 unfold pathB at h5
 cases hn : namesB l[i].paths[k] with
 | none => rw [hn] at h5; cases h5
 | some r => rw [hn] at h5; exact ⟨r, rfl, by simpa using h5⟩
theorem oldL_mem {who : ByteArray} {l : List Ow} {p : ByteArray} (h : p ∈ oldL who l) : ∃ o ∈ l, p ∈ o.paths := by
 have : ∀ (l : List Ow) (old : List ByteArray), (p ∈ l.foldl (fun old o => if o.name = who then o.paths else old) old) → p ∈ old ∨ ∃ o ∈ l, p ∈ o.paths := by
  intro l
  induction l with
  | nil => intro old h; exact .inl h
  | cons o r ih =>
   intro old h
   rw [List.foldl_cons] at h
   rcases ih _ h with h | ⟨q, hq, hp⟩
   ·split at h
    ·exact .inr ⟨o, by simp, h⟩
    ·exact .inl h
   ·exact .inr ⟨q, by simp [hq], hp⟩
 rcases this l [] h with h | h
 ·cases h
 ·exact h
end Go.Proofs.YtjibdbnpkfghhaaGreatDoor
/- What Apply leaves to others: a plain law; no program in sight. -/
namespace Go.Proofs.YtjibdbnpkfghhaaGreatDoor
theorem go_app : ∀ (r t : List ByteArray) (v : V), goV (r ++ t) v = (goV r v).bind (goV t)
 | [], t, v => rfl
 | a :: r, t, v => by
  rw [List.cons_append, goV, goV]
  cases v.member a with
  | none => rfl
  | some z => exact go_app r t z
def Apart (r s : List ByteArray) : Prop := ¬ r <+: s ∧ ¬ s <+: r
theorem Apart.symm {r s : List ByteArray} (h : Apart r s) : Apart s r := ⟨h.2, h.1⟩
theorem Apart.tail {a : ByteArray} {r s : List ByteArray} (h : Apart (a :: r) (a :: s)) : Apart r s :=
 ⟨fun e => h.1 (List.cons_prefix_cons.2 ⟨rfl, e⟩), fun e => h.2 (List.cons_prefix_cons.2 ⟨rfl, e⟩)⟩
theorem Apart.ne {r s : List ByteArray} (h : Apart r s) : r ≠ [] ∧ s ≠ [] := ⟨fun e => h.1 (by rw [e]; exact List.nil_prefix), fun e => h.2 (by rw [e]; exact List.nil_prefix)⟩
theorem go_cons_some {b : ByteArray} {r : List ByteArray} {v y : V} (h : goV (b :: r) v = some y) : ∃ z, v.member b = some z ∧ goV r z = some y := by
 rw [goV] at h
 cases hm : v.member b with
 | none => rw [hm] at h; cases h
 | some z => rw [hm] at h; exact ⟨z, rfl, h⟩
theorem set_apart : ∀ (l r : List ByteArray) {v x y : V}, v.sound → Apart l r → goV r v = some y → goV r (setV l v x) = some y
 | [], r, v, x, y, hv, h, hg => absurd rfl h.ne.1
 | a :: l, [], v, x, y, hv, h, hg => absurd rfl h.ne.2
 | a :: l, b :: r, v, x, y, hv, h, hg => by
  obtain ⟨z, hm, hz⟩ := go_cons_some hg
  have h5 := (member_plain hv hm).2
  have hob := sound_obj hv h5
  have hbs : v.base = v := base_of h5
  rw [setV, hbs]
  by_cases hab : a = b
  ·subst hab
   have ht := h.tail
   rw [if_pos ht.ne.1, goV, put_mem hob, Option.bind_some, hm, Option.getD_some]
   exact set_apart l r (member_sound hv hm) ht hz
  ·have hput : ∀ q, goV (b :: r) (v.put a q) = some y := fun q => by rw [goV, member_put hob, if_neg hab, hm]; exact hz
   split
   ·exact hput _
   ·split
    ·split
     ·exact hg
     ·exact hput _
    ·exact hput _
theorem leaf_apart {x : V} {p q : ByteArray} {r s : List ByteArray} (hp : p ∈ x.leaves) (hq : q ∈ x.leaves) (hr : namesB p = some r) (hs : namesB q = some s) (hne : p ≠ q) : Apart r s := by
 have key : ∀ {p q : ByteArray} {r s : List ByteArray}, p ∈ x.leaves → q ∈ x.leaves → namesB p = some r → namesB q = some s → p ≠ q → ¬ r <+: s := by
  intro p q r s hp hq hr hs hne h
  obtain ⟨hf, -, r', e1, hn, -, -, -, y, hy, -, hyl⟩ := leaf_at hp
  obtain ⟨-, -, s', e2, hn2, -, -, -, z, hz, -⟩ := leaf_at hq
  rw [hr] at hn; rw [hs] at hn2
  cases hn; cases hn2
  obtain ⟨t, rfl⟩ := h
  cases t with
  | nil => rw [List.append_nil] at e2; exact hne (e1.trans e2.symm)
  | cons c t =>
   rw [go_app, hy, Option.bind_some] at hz
   obtain ⟨u, hu, -⟩ := go_cons_some hz
   have hys := go_sound _ (fine_sound hf) hy
   have h5 := (member_plain hys hu).2
   have := member_mem hu
   rw [hyl h5] at this
   cases this
 exact ⟨key hp hq hr hs hne, key hq hp hs hr (Ne.symm hne)⟩
end Go.Proofs.YtjibdbnpkfghhaaGreatDoor
/- Owners in memory: slices of owners as arguments, and slices of owners that the call itself makes. -/
namespace Go.Proofs.YtjibdbnpkfghhaaGreatDoor
open Go.RowKit
theorem Tryz.infoOw : (Tryz.prog.info? 42).map (fun i => (i.zero, i.size, i.bytes)) = some (some (.agg #[.string ⟨#[]⟩, .slice none 0 0]), 2, 40) := by kernel_rfl
def Ow.size (o : Ow) : Nat := 1 + o.name.size + strsSize o.paths
def owsSize (l : List Ow) : Nat := (l.map Ow.size).sum
theorem Ow.size_pos (o : Ow) : 1 ≤ o.size := by unfold Ow.size; omega
theorem owsSize_len (l : List Ow) : l.length ≤ owsSize l := sum_len Ow.size Ow.size_pos l
theorem owsSize_mem {l : List Ow} {o : Ow} (h : o ∈ l) : o.size ≤ owsSize l := sum_ge Ow.size h
theorem Ow.len_paths (o : Ow) : o.paths.length < o.size := by
 have := sum_len (fun k : ByteArray => k.size + 1) (fun _ => by omega) o.paths
 unfold Ow.size strsSize; omega
theorem Ow.len_path {o : Ow} {p : ByteArray} (h : p ∈ o.paths) : p.size < o.size := by
 have := sum_ge (fun k : ByteArray => k.size + 1) h
 unfold Ow.size strsSize; omega
theorem Ow.len_name (o : Ow) : o.name.size < o.size := by unfold Ow.size; omega
def Ow.Item (w : World) (S : Nat → Prop) (b o : Nat) (x : Ow) : Prop :=
 ∃ pa pc, w.cell? ⟨b, o, none⟩ = some (.string x.name) ∧ w.cell? ⟨b, o + 1, none⟩ = some (.slice pa x.paths.length pc) ∧ SlOk pa x.paths.length pc ∧ StrsIn w S pa x.paths
def OwsIn (w : World) (S : Nat → Prop) (l : List Ow) (p : Option Addr) : Prop :=
 l = [] ∨ ∃ b o, p = some ⟨b, o, none⟩ ∧ S b ∧ ∀ i (h : i < l.length), Ow.Item w S b (o + i * 2) l[i]
theorem Ow.Item.keep {S T : Nat → Prop} {w w' : World} {b o : Nat} {x : Ow} (h : Ow.Item w S b o x) (hS : S b) (hk : Kept S w w') (hT : ∀ b, S b → b < w.heap.size → T b) : Ow.Item w' T b o x := by
 obtain ⟨pa, pc, h0, h1, h2, h3⟩ := h
 exact ⟨pa, pc, hk.cell (p := ⟨b, o, none⟩) hS h0, hk.cell (p := ⟨b, o + 1, none⟩) hS h1, h2, h3.keep hk hT⟩
theorem OwsIn.keep {S T : Nat → Prop} {w w' : World} {l : List Ow} {p : Option Addr} (h : OwsIn w S l p) (hk : Kept S w w') (hT : ∀ b, S b → b < w.heap.size → T b) : OwsIn w' T l p := by
 by_cases hn : l = []
 ·exact .inl hn
 ·obtain ⟨b, o, rfl, hS, hi⟩ := h.resolve_left hn
  have h0 : 0 < l.length := List.length_pos_iff.2 hn
  have hlt : b < w.heap.size := by obtain ⟨pa, pc, h0, -⟩ := hi 0 h0; exact cell_lt h0
  exact .inr ⟨b, o, rfl, hT b hS hlt, fun i h => (hi i h).keep hS hk hT⟩
theorem OwsIn.ext {S : Nat → Prop} {w w' : World} {l : List Ow} {p : Option Addr} (h : OwsIn w S l p) (e : Ext w w') : OwsIn w' S l p := h.keep (e.kept S) (fun _ h _ => h)
theorem OwsIn.mono {S T : Nat → Prop} {w : World} {l : List Ow} {p : Option Addr} (h : OwsIn w S l p) (hT : ∀ b, S b → b < w.heap.size → T b) : OwsIn w T l p := h.keep (Ext.refl w |>.kept S) hT
theorem OwsIn.item {S : Nat → Prop} {w : World} {l : List Ow} {p : Option Addr} (h : OwsIn w S l p) {i : Nat} (hi : i < l.length) : ∃ b o, p = some ⟨b, o, none⟩ ∧ S b ∧ Ow.Item w S b (o + i * 2) l[i] := by
 obtain ⟨b, o, rfl, hS, h⟩ := h.resolve_left (by intro e; rw [e] at hi; simp at hi)
 exact ⟨b, o, rfl, hS, h i hi⟩
def OCells (w : World) (T : Nat → Prop) : List Ow → List Value → Prop
 | [], xs => xs = []
 | x :: r, xs => ∃ pa pc t, xs = .string x.name :: .slice pa x.paths.length pc :: t ∧ (SlOk pa x.paths.length pc ∧ StrsIn w T pa x.paths) ∧ OCells w T r t
theorem OCells.keep {S T : Nat → Prop} {w w' : World} {l : List Ow} {xs : List Value} (h : OCells w S l xs) (hk : Kept S w w') (hT : ∀ b, S b → b < w.heap.size → T b) : OCells w' T l xs := by
 induction l generalizing xs with
 | nil => exact h
 | cons x r ih =>
  obtain ⟨pa, pc, t, rfl, h1, h2⟩ := h
  exact ⟨pa, pc, t, rfl, ⟨h1.1, h1.2.keep hk hT⟩, ih h2⟩
theorem OCells.app {w : World} {T : Nat → Prop} {l m : List Ow} {xs ys : List Value} (h : OCells w T l xs) (k : OCells w T m ys) : OCells w T (l ++ m) (xs ++ ys) := by
 induction l generalizing xs with
 | nil => subst h; exact k
 | cons y r ih =>
  obtain ⟨a, b, t, rfl, h1, h2⟩ := h
  exact ⟨a, b, _, rfl, h1, ih h2⟩
theorem OCells.one {w : World} {T : Nat → Prop} {x : Ow} {pa : Option Addr} {pc : Nat} (h : SlOk pa x.paths.length pc) (hx : StrsIn w T pa x.paths) : OCells w T [x] [.string x.name, .slice pa x.paths.length pc] := ⟨pa, pc, [], rfl, ⟨h, hx⟩, rfl⟩
theorem OCells.len {w : World} {T : Nat → Prop} {l : List Ow} {xs : List Value} (h : OCells w T l xs) : xs.length = l.length * 2 := by
 induction l generalizing xs with
 | nil => subst h; rfl
 | cons y r ih =>
  obtain ⟨a, b, t, rfl, h1, h2⟩ := h
  have := ih h2
  simp only [List.length_cons, this]; omega
theorem OCells.ones {w : World} {T : Nat → Prop} {l : List Ow} {xs : List Value} (h : OCells w T l xs) : ∀ u ∈ xs, u.oneCell' = true := by
 induction l generalizing xs with
 | nil => subst h; intro u hu; cases hu
 | cons y r ih =>
  obtain ⟨a, b, t, rfl, h1, h2⟩ := h
  intro u hu
  rcases List.mem_cons.1 hu with rfl | hu
  ·rfl
  ·rcases List.mem_cons.1 hu with rfl | hu
   ·rfl
   ·exact ih h2 u hu
theorem OCells.item {w : World} {T : Nat → Prop} {l : List Ow} {xs : List Value} (h : OCells w T l xs) : ∀ i (hi : i < l.length), ∃ pa pc, xs[i * 2]? = some (.string l[i].name) ∧ xs[i * 2 + 1]? = some (.slice pa l[i].paths.length pc) ∧ SlOk pa l[i].paths.length pc ∧ StrsIn w T pa l[i].paths := by
 induction l generalizing xs with
 | nil => intro i hi; simp at hi
 | cons y r ih =>
  obtain ⟨a, b, t, rfl, h1, h2⟩ := h
  intro i hi
  match i with
  | 0 => exact ⟨a, b, by simp, by simp, by simpa using h1.1, by simpa using h1.2⟩
  | i + 1 =>
   obtain ⟨pa, pc, c0, c1, c2, c3⟩ := ih h2 i (by simpa using hi)
   refine ⟨pa, pc, ?_, ?_, by simpa using c2, by simpa using c3⟩
   ·simp only [List.getElem_cons_succ, show (i + 1) * 2 = i * 2 + 1 + 1 from by omega, List.getElem?_cons_succ]; exact c0
   ·simp only [List.getElem_cons_succ, show (i + 1) * 2 + 1 = (i * 2 + 1) + 1 + 1 from by omega, List.getElem?_cons_succ]; exact c1
def OwnOw (w : World) (base : Nat) (S : Nat → Prop) (v : Value) (n : Nat) (l : List Ow) : Prop :=
 l.length = n ∧ ∃ xs, w.ownsRow base 42 2 v n xs ∧ OCells w (Foot base S v) l xs
theorem OwnOw.nil (w : World) (base : Nat) (S : Nat → Prop) : OwnOw w base S (.slice none 0 0) 0 [] := ⟨rfl, [], World.ownsRow_nil _ _ _ _, rfl⟩
theorem OwnOw.keep {w w' : World} {base : Nat} {S : Nat → Prop} {v : Value} {n : Nat} {l : List Ow} (h : OwnOw w base S v n l) (e : ∀ b, b < w.heap.size → ((b < base ∧ S b) ∨ base ≤ b) → w'.heap[b]? = w.heap[b]?) : OwnOw w' base S v n l := by
 obtain ⟨h0, xs, h1, h2⟩ := h
 exact ⟨h0, xs, ownsRow_keep h1 (fun b hb hv => e b hb (.inr (h1.lt b hv).1)), h2.keep (fun b hb hlt => e b hlt (by rcases hb with hb | hb; exact .inl hb; exact .inr hb.1)) (fun _ h _ => h)⟩
theorem OwnOw.ext {w w' : World} {base : Nat} {S : Nat → Prop} {v : Value} {n : Nat} {l : List Ow} (h : OwnOw w base S v n l) (e : Ext w w') : OwnOw w' base S v n l := h.keep (fun b hb _ => Below.block e b hb)
theorem OwnOw.push {w w1 : World} {base : Nat} {S : Nat → Prop} {v v' : Value} {n : Nat} {l : List Ow} {xs : List Value} (h0 : l.length = n) (hown0 : w.ownsRow base 42 2 v n xs) (hc : OCells w (Foot base S v) l xs)
  {x : Ow} {pa : Option Addr} {pc : Nat} (hok : SlOk pa x.paths.length pc) (hx : StrsIn w (Foot base S v) pa x.paths)
  (hown : w1.ownsRow base 42 2 v' (n + 1) (xs ++ [.string x.name, .slice pa x.paths.length pc])) (hgrow : w.grownBy w1 v.ownBlock)
  (g : Nat) (hv' : v'.ownBlock = some g) (hat : v.ownBlock = some g ∨ g = w.heap.size) : OwnOw w1 base S v' (n + 1) (l ++ [x]) := by
 have hv : v.ownBlock = none ∨ ∃ g, v.ownBlock = some g ∧ base ≤ g := by
  cases hv : v.ownBlock with
  | none => exact .inl rfl
  | some g => exact .inr ⟨g, rfl, (hown0.lt g hv).1⟩
 refine ⟨by simp [h0], _, hown, ?_⟩
 have hk : Kept (Foot base S v) w w1 := by
  intro b hb hlt
  refine hgrow.block b hlt ?_
  intro he
  rcases hb with hb | hb
  ·rcases hv with hv | ⟨g', hv, hg'⟩
   ·rw [hv] at he; cases he
   ·rw [hv] at he; simp only [Option.some.injEq] at he; omega
  ·exact hb.2 he.symm
 have hT : ∀ b, Foot base S v b → b < w.heap.size → Foot base S v' b := by
  intro b hb hlt
  rcases hb with hb | hb
  ·exact .inl hb
  ·refine .inr ⟨hb.1, ?_⟩
   rw [hv']
   rcases hat with hat | hat
   ·rw [hat] at hb; exact hb.2
   ·intro he; simp only [Option.some.injEq] at he; omega
 exact (hc.keep hk hT).app (.one hok (hx.keep hk hT))
theorem OwnOw.rows {w : World} {base : Nat} {S : Nat → Prop} {v : Value} {n : Nat} {l : List Ow} (h : OwnOw w base S v n l) :
  ∃ a cap, v = .slice a n cap ∧ SlOk a n cap ∧ l.length = n ∧ OwsIn w (fun b => (b < base ∧ S b) ∨ base ≤ b) l a := by
 obtain ⟨h0, xs, ⟨hl, h1⟩, h2⟩ := h
 rcases h1 with ⟨hv, hn⟩ | ⟨g, cap, cur, hv, hb, hg, hnc, hcm, hcs, ht⟩
 ·subst hn
  exact ⟨none, 0, hv, SlOk.nil, h0, .inl (List.length_eq_zero_iff.1 h0)⟩
 ·refine ⟨some ⟨g, 0, none⟩, cap, hv, ⟨hnc, hcm, by simp⟩, h0, .inr ⟨g, 0, rfl, .inr hb, ?_⟩⟩
  intro i hi
  obtain ⟨pa, pc, c0, c1, c2, c3⟩ := h2.item i hi
  have hx : ∀ j u, xs[j]? = some u → w.cell? ⟨g, j, none⟩ = some u := by
   intro j u hj
   rw [cell_of_row w g j cur _ _ hg]
   rw [← ht] at hj
   rw [List.getElem?_take] at hj
   split at hj
   ·simpa using hj
   ·cases hj
  refine ⟨pa, pc, ?_, ?_, c2, c3.keep (Ext.refl w |>.kept _) (fun b hb _ => by rcases hb with hb | hb; exact .inl hb; exact .inr hb.1)⟩
  ·rw [Nat.zero_add]; exact hx _ _ c0
  ·rw [Nat.zero_add]; exact hx _ _ c1
def RetStrs (r : List ByteArray) (w : World) (e : Ending) (w' : World) : Prop :=
 ∃ a c, e = .returned (.slice a r.length c) ∧ SlOk a r.length c ∧ StrsIn w' (fun b => w.heap.size ≤ b) a r ∧ Ext w w'
end Go.Proofs.YtjibdbnpkfghhaaGreatDoor
/- The walks of owner.Named and of the reference's IsNamed. -/
namespace Go.Proofs.YtjibdbnpkfghhaaGreatDoor
open Go.RowKit
def lowC (c : UInt8) : Bool := decide (97 ≤ (c.toNat : Int) ∧ (c.toNat : Int) ≤ 122)
theorem named_eq (s : ByteArray) : namedB s = (s.data.toList.all lowC && decide (1 ≤ s.size) && decide (s.size ≤ 12)) := rfl
theorem low_take {s : ByteArray} {k : Nat} (h : k < s.size) (h0 : (s.data.toList.take k).all lowC = true) (h1 : 97 ≤ (s[k].toNat : Int)) (h2 : (s[k].toNat : Int) ≤ 122) : (s.data.toList.take (k + 1)).all lowC = true :=
 all_take _ _ (by simpa using h) h0 (by rw [byte_at h]; unfold lowC; simp only [decide_eq_true_eq]; exact ⟨h1, h2⟩)
theorem low_bad {s : ByteArray} {k : Nat} (h : k < s.size) (h1 : ¬ (97 ≤ (s[k].toNat : Int) ∧ (s[k].toNat : Int) ≤ 122)) : namedB s = false := by
 have := all_bad lowC s.data.toList (k := k) (by simpa using h) (by rw [byte_at h]; unfold lowC; simp only [decide_eq_false_iff_not]; exact h1)
 rw [named_eq, this]; rfl
theorem low_end {s : ByteArray} {k : Nat} (hk : ¬ k < s.size) (h0 : (s.data.toList.take k).all lowC = true) : namedB s = (decide (1 ≤ s.size) && decide (s.size ≤ 12)) := by
 rw [List.take_of_length_le (by simp; omega)] at h0
 rw [named_eq, h0]; rfl
theorem named_any (s : ByteArray) (w : World) (hs : s.size ≤ 1073741824) : Calls Tryz.prog 25 #[.string s] w fun e w' => e = .returned (.bool (namedB s)) ∧ w = w' := by
 go_enter Tryz.func25, Tryz.ntmps25
 go_wp2
 go_loop [6] (fun i => ∃ k : Nat, k ≤ s.size ∧ i = .int .i64 k ∧ (s.data.toList.take k).all lowC = true) (fun i => s.size - (intOf i).toNat)
 case atStart => exact ⟨0, Nat.zero_le _, rfl, rfl⟩
 case round =>
  obtain ⟨k, hk, rfl, ht⟩ := hrel
  have Ht := Lib.hid ht
  clear ht
  by_cases hlt : k < s.size
  ·by_cases h1 : (s[k].toNat : Int) < 97
   ·go_wp2
    go_ret
    exact ⟨ret_bool (low_bad hlt (by omega)).symm, rfl⟩
   ·by_cases h2 : (122 : Int) < (s[k].toNat : Int)
    ·go_wp2
     go_ret
     exact ⟨ret_bool (low_bad hlt (by omega)).symm, rfl⟩
    ·go_wp2
     go_round
     case rel => exact ⟨k + 1, by omega, by go_num, low_take hlt Ht.out (by omega) (by omega)⟩
     case measure => simp [intOf]; omega
  ·by_cases h1 : 1 ≤ s.size
   ·have h1i : (1 : Int) ≤ (s.size : Int) := by omega
    go_wp2
    go_ret
    refine ⟨ret_bool ?_, rfl⟩
    rw [low_end hlt Ht.out, decide_eq_true h1]
    simp; omega
   ·have h1i : ¬ (1 : Int) ≤ (s.size : Int) := by omega
    go_wp2
    go_ret
    refine ⟨ret_bool ?_, rfl⟩
    rw [low_end hlt Ht.out, decide_eq_false h1]
    rfl
end Go.Proofs.YtjibdbnpkfghhaaGreatDoor
/- The walk of owner.Good. -/
namespace Go.Proofs.YtjibdbnpkfghhaaGreatDoor
open Go.RowKit
attribute [local go_sem ↓] Go.wp_at_zero Go.wp_at_succ
def RetD (p : ByteArray) (w : World) (e : Ending) (w' : World) : Prop :=
 ∃ a c, e = .returned (.tuple #[.slice a (namesD p).length c, .int .i64 (if (namesB p).isSome = true then 0 else 1)]) ∧ SlOk a (namesD p).length c ∧ StrsIn w' (fun b => w.heap.size ≤ b) a (namesD p) ∧ Ext w w'
theorem retD_of {p : ByteArray} {w w' : World} {e : Ending} (h : RetNames (namesL p.data.toList) w e w') : RetD p w e w' := by
 rcases h with ⟨l, a, n, c, ks, hr, rfl, hn, hmap, hok, hst, hx⟩ | ⟨hr, rfl, hx⟩
 ·have hnb : namesB p = some ks := namesB_of (by rw [hr, hmap])
  have hd : namesD p = ks := by unfold namesD; rw [hnb]; rfl
  subst hn
  exact ⟨a, c, by rw [hd, hnb]; rfl, by rw [hd]; exact hok, by rw [hd]; exact hst, hx⟩
 ·have hnb := namesB_none hr
  have hd : namesD p = [] := by unfold namesD; rw [hnb]; rfl
  exact ⟨none, 0, by rw [hd, hnb]; rfl, by rw [hd]; exact SlOk.nil, by rw [hd]; exact .inl rfl, hx⟩
theorem splitD_any (p : ByteArray) (w : World) (hs : p.size ≤ 1073741824) (hm : MaxAt w) : Calls Tryz.prog 39 #[.string p] w (RetD p w) := (split_any p hs w hm).mono fun _ _ => retD_of
theorem namesD_small (p : ByteArray) : (namesD p).length ≤ 2001 ∧ ∀ k ∈ namesD p, k.size ≤ 8000 := by
 unfold namesD
 cases h : namesB p with
 | none => simp
 | some ks => exact namesB_small h
theorem joinB_any (a : Option Addr) (c : Nat) (ks : List ByteArray) (S : Nat → Prop) (w : World) (hks : StrsIn w S a ks) (hz : ∀ k ∈ ks, k.size ≤ 2000000) (hn : ks.length ≤ 2000000) (hm : MaxAt w) :
  Calls Tryz.prog 40 #[.slice a ks.length c] w fun e w' => e = .returned (.string (joinB ks)) ∧ Ext w w' := by
 refine (join_any a ks.length c ks S w hks rfl (fun i h => hz _ (List.getElem_mem h)) hn hm).mono ?_
 rintro e w' ⟨s, rfl, hs, hx⟩
 exact ⟨by rw [show s = joinB ks from bytes_eq (by rw [hs, joinB_list])], hx⟩
theorem join_namesD {p : ByteArray} (h : (namesB p).isSome = true) : joinB (namesD p) = p := by
 obtain ⟨ks, hk⟩ := Option.isSome_iff_exists.1 h
 unfold namesD
 rw [hk]
 exact bytes_eq (by rw [joinB_list]; exact join_names (namesB_eq hk))
theorem pathB_eq (p : ByteArray) : pathB p = ((namesB p).isSome && !decide ((namesD p).length = 0)) := by
 unfold pathB namesD
 cases namesB p with
 | none => rfl
 | some l => cases l <;> rfl
/-! ## What Good reckons, a path, an owner at a time -/
def PathOk (ps : List ByteArray) (k : Nat) (h : k < ps.length) : Prop := pathB ps[k] = true ∧ (0 < k → ltS (ps[k - 1]'(by omega)) ps[k] = true)
theorem goodPaths_bad {ps : List ByteArray} {k : Nat} (h : k < ps.length) (hb : ¬ PathOk ps k h) : goodPaths ps = false := decide_eq_false fun H => hb (H k h)
theorem goodPaths_ok {ps : List ByteArray} (H : ∀ k (h : k < ps.length), PathOk ps k h) : goodPaths ps = true := decide_eq_true fun k h => H k h
def OwOk (l : List Ow) (i : Nat) (h : i < l.length) : Prop := namedB l[i].name = true ∧ (0 < i → ltS (l[i - 1]'(by omega)).name l[i].name = true) ∧ l[i].paths ≠ [] ∧ goodPaths l[i].paths = true
theorem goodOws_bad {l : List Ow} {i : Nat} (h : i < l.length) (hb : ¬ OwOk l i h) : goodOws l = false := by
 unfold goodOws
 rw [Bool.and_eq_false_iff, decide_eq_false_iff_not]
 exact .inl fun H => hb (H i h)
theorem goodOws_end {l : List Ow} (H : ∀ i (h : i < l.length), OwOk l i h) : goodOws l = decide (l.length ≤ 6) := by
 have h1 : (decide (∀ i, (h : i < l.length) → namedB l[i].name = true ∧ (0 < i → ltS (l[i - 1]'(by omega)).name l[i].name = true) ∧ l[i].paths ≠ [] ∧ goodPaths l[i].paths = true)) = true := decide_eq_true H
 unfold goodOws
 rw [h1]; rfl
theorem wrap_nat {n : Nat} (h : n ≤ 9223372036854775807) : IntKind.i64.wrap (n : Int) = (n : Int) := by
 unfold IntKind.wrap
 simp [IntKind.bits, IntKind.signed]
 omega
theorem geq_of {a b : ByteArray} {r : Bool} (h : ltS a b = r) : Op.bytesLess a.toList b.toList = r := h
end Go.Proofs.YtjibdbnpkfghhaaGreatDoor
