/- Objects as maps: plain laws, no program in sight. -/
import Derived.Test.YtknnflobpjppfaaDoorObjP
set_option linter.all false
namespace Go.Proofs.YtknnflobpjppfaaDoor

/-- What lies by a key, of keys and items one by one. -/
def lk : List ByteArray → List V → ByteArray → Option V
  | k :: ks, x :: l, key => if k = key then some x else lk ks l key
  | _, _, _ => none
theorem lk_none : ∀ (ks : List ByteArray) (l : List V) {key : ByteArray}, key ∉ ks → lk ks l key = none
  | [], _, _, _ => rfl
  | _ :: _, [], _, _ => rfl
  | k :: ks, x :: l, key, h => by
    simp only [List.mem_cons, not_or] at h
    rw [lk, if_neg (fun e => h.1 e.symm), lk_none ks l h.2]
theorem lk_mem : ∀ (ks : List ByteArray) (l : List V) {key : ByteArray} {y : V}, lk ks l key = some y → key ∈ ks ∧ y ∈ l
  | [], _, _, _, h => by cases h
  | _ :: _, [], _, _, h => by cases h
  | k :: ks, x :: l, key, y, h => by
    rw [lk] at h
    split at h
    · rename_i e; cases h; exact ⟨by simp [e], by simp⟩
    · have := lk_mem ks l h; exact ⟨by simp [this.1], by simp [this.2]⟩
theorem lk_some : ∀ (ks : List ByteArray) (l : List V) {key : ByteArray}, ks.length = l.length → key ∈ ks → ∃ y, lk ks l key = some y
  | [], _, _, _, h => by cases h
  | _ :: _, [], _, hl, _ => by simp at hl
  | k :: ks, x :: l, key, hl, h => by
    rw [lk]
    by_cases e : k = key
    · rw [if_pos e]; exact ⟨_, rfl⟩
    · rw [if_neg e]
      rcases List.mem_cons.1 h with h | h
      · exact absurd h.symm e
      · exact lk_some ks l (by simpa using hl) h
theorem lk_at : ∀ (ks : List ByteArray) (l : List V) (hl : ks.length = l.length), ks.Nodup → ∀ i (h : i < ks.length), lk ks l ks[i] = some (l[i]'(by omega))
  | [], _, _, _, i, h => by simp at h
  | _ :: _, [], hl, _, _, _ => by simp at hl
  | k :: ks, x :: l, hl, hn, 0, h => by simp [lk]
  | k :: ks, x :: l, hl, hn, i + 1, h => by
    have hn' := List.nodup_cons.1 hn
    simp only [List.length_cons] at h
    simp only [List.getElem_cons_succ]
    rw [lk, if_neg (fun e => hn'.1 (by rw [e]; exact List.getElem_mem _)), lk_at ks l (by simpa using hl) hn'.2 i (by omega)]
theorem lk_ins (key : ByteArray) (y : V) (k' : ByteArray) : ∀ (p : Nat) (ks : List ByteArray) (l : List V), ks.length = l.length → p ≤ ks.length → key ∉ ks → lk (ks.take p ++ key :: ks.drop p) (l.take p ++ y :: l.drop p) k' = if key = k' then some y else lk ks l k'
  | 0, ks, l, _, _, _ => by simp only [List.take_zero, List.drop_zero, List.nil_append, lk]
  | p + 1, [], _, _, h, _ => by simp at h
  | p + 1, _ :: _, [], hl, _, _ => by simp at hl
  | p + 1, k :: ks, x :: l, hl, h, hn => by
    simp only [List.mem_cons, not_or] at hn
    simp only [List.take_succ_cons, List.drop_succ_cons, List.cons_append, lk]
    rw [lk_ins key y k' p ks l (by simpa using hl) (by simpa using h) hn.2]
    by_cases e : k = k'
    · rw [if_pos e, if_neg (fun e' => hn.1 (e'.trans e.symm)), if_pos e]
    · rw [if_neg e, if_neg e]
theorem lk_set (y : V) (k' : ByteArray) : ∀ (p : Nat) (ks : List ByteArray) (l : List V) (hl : ks.length = l.length) (h : p < ks.length), ks.Nodup → lk ks (l.set p y) k' = if ks[p] = k' then some y else lk ks l k'
  | _, [], _, _, h, _ => by simp at h
  | _, _ :: _, [], hl, _, _ => by simp at hl
  | 0, k :: ks, x :: l, hl, h, hn => by simp only [List.set_cons_zero, lk, List.getElem_cons_zero]; split <;> rfl
  | p + 1, k :: ks, x :: l, hl, h, hn => by
    have hn' := List.nodup_cons.1 hn
    simp only [List.length_cons] at h
    simp only [List.set_cons_succ, lk, List.getElem_cons_succ]
    rw [lk_set y k' p ks l (by simpa using hl) (by omega) hn'.2]
    by_cases e : k = k'
    · rw [if_pos e, if_neg (fun e' => hn'.1 (by rw [e, ← e']; exact List.getElem_mem _)), if_pos e]
    · rw [if_neg e, if_neg e]
theorem lk_del (k' : ByteArray) : ∀ (p : Nat) (ks : List ByteArray) (l : List V) (hl : ks.length = l.length) (h : p < ks.length), ks.Nodup → lk (ks.take p ++ ks.drop (p + 1)) (l.take p ++ l.drop (p + 1)) k' = if ks[p] = k' then none else lk ks l k'
  | _, [], _, _, h, _ => by simp at h
  | _, _ :: _, [], hl, _, _ => by simp at hl
  | 0, k :: ks, x :: l, hl, h, hn => by
    have hn' := List.nodup_cons.1 hn
    simp only [List.take_zero, List.nil_append, List.drop_succ_cons, List.drop_zero, lk, List.getElem_cons_zero]
    by_cases e : k = k'
    · rw [if_pos e]; exact lk_none _ _ (e ▸ hn'.1)
    · rw [if_neg e, if_neg e]
  | p + 1, k :: ks, x :: l, hl, h, hn => by
    have hn' := List.nodup_cons.1 hn
    simp only [List.length_cons] at h
    simp only [List.take_succ_cons, List.drop_succ_cons, List.cons_append, lk, List.getElem_cons_succ]
    rw [lk_del k' p ks l (by simpa using hl) (by omega) hn'.2]
    by_cases e : k = k'
    · rw [if_pos e, if_neg (fun e' => hn'.1 (by rw [e, ← e']; exact List.getElem_mem _)), if_pos e]
    · rw [if_neg e, if_neg e]
theorem find_lk (key : ByteArray) : ∀ (ks : List ByteArray) (l : List V), ks.length = l.length → ((ks.findIdx? fun k => decide (k.toList = key.toList)).bind fun i => l[i]?) = lk ks l key
  | [], _, _ => rfl
  | _ :: _, [], hl => by simp at hl
  | k :: ks, x :: l, hl => by
    rw [List.findIdx?_cons, lk]
    by_cases e : k = key
    · rw [if_pos e, if_pos (by simp [e])]; rfl
    · rw [if_neg e, if_neg (by simpa using fun h => e (bytes_ext h)), ← find_lk key ks l (by simpa using hl)]
      cases ks.findIdx? fun k => decide (k.toList = key.toList) <;> rfl

/-- An object whose keys rise. -/
structure Obj (x : V) : Prop where
  k5 : x.k = 5
  n0 : x.n = 0
  s0 : x.s = ⟨#[]⟩
  len : x.keys.length = x.l.length
  rise : Rises x.keys
theorem rises_nodup {ks : List ByteArray} (h : Rises ks) : ks.Nodup := h.imp fun h => ltS_ne h
theorem Obj.nodup {x : V} (h : Obj x) : x.keys.Nodup := rises_nodup h.rise
theorem toList_none : (⟨#[]⟩ : ByteArray).toList = [] := by rw [ByteArray.toList_eq]
theorem bytes_nil {s : ByteArray} (h : s.toList = []) : s = ⟨#[]⟩ := bytes_ext (by rw [h, toList_none])
theorem sound_obj {x : V} (h : x.sound) (h5 : x.k = 5) : Obj x :=
  have f := h.flat
  ⟨h5, f.n0 (by omega) (by omega), bytes_nil (f.s0 (by omega)), f.len h5, f.rise⟩
/-- An object of no members. -/
def V.none5 : V := .mk 5 0 ⟨#[]⟩ [] []
theorem none5_obj : Obj V.none5 := ⟨rfl, rfl, rfl, rfl, List.Pairwise.nil⟩
theorem member_lk {x : V} (h5 : x.k = 5) (hl : x.keys.length = x.l.length) (key : ByteArray) : x.member key = lk x.keys x.l key := by
  unfold V.member V.find
  rw [if_pos ⟨h5, hl⟩]
  exact find_lk key _ _ hl
theorem Obj.member {x : V} (h : Obj x) (key : ByteArray) : x.member key = lk x.keys x.l key := member_lk h.k5 h.len key
theorem member_none5 (key : ByteArray) : V.none5.member key = none := by rw [none5_obj.member]; rfl
theorem Obj.put {x : V} (h : Obj x) (key : ByteArray) (y : V) : Obj (x.put key y) := by
  cases hb : hasB x.keys key with
  | true => rw [put_yes ⟨h.k5, h.len⟩ hb]; exact ⟨h.k5, h.n0, h.s0, by simpa using h.len, h.rise⟩
  | false => rw [put_new ⟨h.k5, h.len⟩ hb]; exact ⟨h.k5, h.n0, h.s0, by have := h.len; simp; omega, rises_insert h.rise hb⟩
theorem Obj.del {x : V} (h : Obj x) (key : ByteArray) : Obj (x.del key) := by
  cases hb : hasB x.keys key with
  | true => rw [del_yes ⟨h.k5, h.len⟩ hb]; exact ⟨h.k5, h.n0, h.s0, by have := h.len; simp; omega, rises_erase h.rise _⟩
  | false => rw [del_no hb]; exact h
theorem not_mem_of {ks : List ByteArray} (h : Rises ks) {key : ByteArray} (hn : hasB ks key = false) : key ∉ ks := fun hm => by rw [has_of_mem h hm] at hn; cases hn
theorem member_put {x : V} (h : Obj x) (key : ByteArray) (y : V) (k' : ByteArray) : (x.put key y).member k' = if key = k' then some y else x.member k' := by
  rw [(h.put key y).member, h.member]
  cases hb : hasB x.keys key with
  | true =>
    rw [put_yes ⟨h.k5, h.len⟩ hb]
    simp only [V.keys_mk, V.l_mk]
    rw [lk_set y k' _ _ _ h.len (hasB_lt hb) h.nodup, hasB_at hb]
  | false =>
    rw [put_new ⟨h.k5, h.len⟩ hb]
    simp only [V.keys_mk, V.l_mk]
    exact lk_ins key y k' _ _ _ h.len (posOf_le _ _) (not_mem_of h.rise hb)
theorem member_del {x : V} (h : Obj x) (key k' : ByteArray) : (x.del key).member k' = if key = k' then none else x.member k' := by
  cases hb : hasB x.keys key with
  | true =>
    rw [(h.del key).member, h.member, del_yes ⟨h.k5, h.len⟩ hb]
    simp only [V.keys_mk, V.l_mk]
    rw [lk_del k' _ _ _ h.len (hasB_lt hb) h.nodup, hasB_at hb]
  | false =>
    rw [del_no hb]
    by_cases e : key = k'
    · rw [if_pos e, ← e, h.member]; exact lk_none _ _ (not_mem_of h.rise hb)
    · rw [if_neg e]
theorem member_mem {x y : V} {key : ByteArray} (h : x.member key = some y) : y ∈ x.l := by
  unfold V.member at h
  obtain ⟨i, -, hi⟩ := Option.bind_eq_some_iff.1 h
  exact List.mem_of_getElem? hi
theorem member_not5 {x : V} (h : x.k ≠ 5) (key : ByteArray) : x.member key = none := by
  unfold V.member V.find
  rw [if_neg (fun e => h e.1)]; rfl
theorem Obj.keys_iff {x : V} (h : Obj x) (key : ByteArray) : key ∈ x.keys ↔ x.member key ≠ none := by
  rw [h.member]
  constructor
  · intro hm
    obtain ⟨y, hy⟩ := lk_some _ _ h.len hm
    rw [hy]; simp
  · intro hn
    by_cases hm : key ∈ x.keys
    · exact hm
    · exact absurd (lk_none _ _ hm) hn

theorem rises_ext : ∀ {a b : List ByteArray}, Rises a → Rises b → (∀ k, k ∈ a ↔ k ∈ b) → a = b
  | [], [], _, _, _ => rfl
  | [], y :: t, _, _, h => by have := (h y).2 (by simp); cases this
  | x :: r, [], _, _, h => by have := (h x).1 (by simp); cases this
  | x :: r, y :: t, ha, hb, h => by
    have ha' := List.pairwise_cons.1 ha
    have hb' := List.pairwise_cons.1 hb
    have e : x = y := by
      by_cases e : x = y
      · exact e
      · have h1 : x ∈ t := (List.mem_cons.1 ((h x).1 (by simp))).resolve_left e
        have h2 : y ∈ r := (List.mem_cons.1 ((h y).2 (by simp))).resolve_left (fun e' => e e'.symm)
        have := ltS_asymm (ha'.1 y h2)
        rw [hb'.1 x h1] at this; cases this
    subst e
    rw [rises_ext ha'.2 hb'.2 (fun k => ?_)]
    have hk := h k
    simp only [List.mem_cons] at hk
    constructor
    · intro hm
      exact (hk.1 (.inr hm)).resolve_left (fun e => by subst e; exact ltS_ne (ha'.1 _ hm) rfl)
    · intro hm
      exact (hk.2 (.inr hm)).resolve_left (fun e => by subst e; exact ltS_ne (hb'.1 _ hm) rfl)
/-- Two objects of the same members are one. -/
theorem obj_ext {x y : V} (hx : Obj x) (hy : Obj y) (h : ∀ k, x.member k = y.member k) : x = y := by
  have hk : x.keys = y.keys := rises_ext hx.rise hy.rise fun k => by rw [hx.keys_iff, hy.keys_iff, h k]
  have hl : x.l = y.l := by
    have e1 := hx.len
    have e2 := hy.len
    have e3 := congrArg List.length hk
    apply List.ext_getElem (by omega)
    intro i h1 h2
    have a1 := lk_at _ _ hx.len hx.nodup i (by omega)
    have a2 := lk_at _ _ hy.len hy.nodup i (by omega)
    have a3 := h (x.keys[i]'(by omega))
    rw [hx.member, hy.member, a1] at a3
    have a4 : y.keys[i]'(by omega) = x.keys[i]'(by omega) := by simp only [hk]
    rw [← a4, a2] at a3
    exact Option.some.inj a3
  rw [← V.eta x, ← V.eta y, hx.k5, hy.k5, hx.n0, hy.n0, hx.s0, hy.s0, hk, hl]

/-- What is put is there, all else as it was; taken away it is gone. -/
theorem put_sound {x y : V} (hx : x.sound) (hy : y.sound) {key : ByteArray} (hk : plainB key = true) (h5 : x.k = 5) : (x.put key y).sound := by
  have f := hx.flat
  have o := sound_obj hx h5
  have o' := o.put key y
  have hmem : ∀ z ∈ (x.put key y).l, z.sound := by
    intro z hz
    cases hb : hasB x.keys key with
    | true =>
      rw [put_yes ⟨o.k5, o.len⟩ hb] at hz
      rcases List.mem_or_eq_of_mem_set hz with h | h
      · exact hx.item h
      · rw [h]; exact hy
    | false =>
      rw [put_new ⟨o.k5, o.len⟩ hb] at hz
      simp only [V.l_mk, List.mem_append, List.mem_cons] at hz
      rcases hz with h | h | h
      · exact hx.item (List.mem_of_mem_take h)
      · rw [h]; exact hy
      · exact hx.item (List.mem_of_mem_drop h)
  refine sound_mk ⟨by rw [o'.k5]; decide, by rw [o'.k5]; decide, fun _ _ => o'.n0, fun _ => by rw [o'.s0, toList_none], fun h => absurd o'.k5 h, fun h => by rw [o'.k5] at h; omega, fun _ => .inl o'.n0, by rw [o'.n0]; decide, by rw [o'.n0]; decide, by rw [o'.s0]; decide, fun _ => o'.len, ?_, o'.rise⟩ hmem
  intro k hk'
  rw [o'.keys_iff, member_put o] at hk'
  by_cases e : key = k
  · rw [← e]; exact hk
  · rw [if_neg e] at hk'
    exact f.kp k ((o.keys_iff k).2 hk')
theorem del_sound {x : V} (hx : x.sound) (key : ByteArray) : (x.del key).sound := by
  by_cases h5 : x.k = 5
  · have f := hx.flat
    have o := sound_obj hx h5
    have o' := o.del key
    have hmem : ∀ z ∈ (x.del key).l, z.sound := by
      intro z hz
      cases hb : hasB x.keys key with
      | true =>
        rw [del_yes ⟨o.k5, o.len⟩ hb] at hz
        simp only [V.l_mk, List.mem_append] at hz
        rcases hz with h | h
        · exact hx.item (List.mem_of_mem_take h)
        · exact hx.item (List.mem_of_mem_drop h)
      | false => rw [del_no hb] at hz; exact hx.item hz
    refine sound_mk ⟨by rw [o'.k5]; decide, by rw [o'.k5]; decide, fun _ _ => o'.n0, fun _ => by rw [o'.s0, toList_none], fun h => absurd o'.k5 h, fun h => by rw [o'.k5] at h; omega, fun _ => .inl o'.n0, by rw [o'.n0]; decide, by rw [o'.n0]; decide, by rw [o'.s0]; decide, fun _ => o'.len, ?_, o'.rise⟩ hmem
    intro k hk'
    rw [o'.keys_iff, member_del o] at hk'
    by_cases e : key = k
    · rw [if_pos e] at hk'; exact absurd rfl hk'
    · rw [if_neg e] at hk'
      exact f.kp k ((o.keys_iff k).2 hk')
  · rw [del_not (fun e => h5 e.1)]; exact hx
theorem member_sound {x y : V} {key : ByteArray} (hx : x.sound) (h : x.member key = some y) : y.sound := hx.item (member_mem h)

/-! How many there are. -/
theorem Obj.count_old {x y : V} (h : Obj x) {key : ByteArray} (hm : x.member key = some y) : x.count + y.count ≤ x.count + x.count := by
  have := sum_ge V.count (member_mem hm)
  rw [V.count_eq x]; omega
theorem sum_set_eq {α : Type} (f : α → Nat) (a : α) : ∀ (l : List α) (p : Nat) (h : p < l.length), ((l.set p a).map f).sum + f l[p] = (l.map f).sum + f a
  | [], _, h => by simp at h
  | x :: l, 0, _ => by simp; omega
  | x :: l, p + 1, h => by
    have := sum_set_eq f a l p (by simpa using h)
    simp only [List.set_cons_succ, List.map_cons, List.sum_cons, List.getElem_cons_succ]; omega
/-- The count of what is put. -/
theorem count_put {x : V} (h : Obj x) (key : ByteArray) (y : V) : (x.put key y).count + (match x.member key with | some o => o.count | none => 0) = x.count + y.count := by
  cases hb : hasB x.keys key with
  | true =>
    have hlt := hasB_lt hb
    have hlt' : posOf x.keys key < x.l.length := by rw [← h.len]; exact hlt
    have hm : x.member key = some (x.l[posOf x.keys key]'hlt') := by
      have := lk_at _ _ h.len h.nodup _ hlt
      rw [hasB_at hb] at this
      rw [h.member, this]
    rw [hm, put_yes ⟨h.k5, h.len⟩ hb, V.count_eq, V.count_eq x]
    simp only [V.l_mk]
    have := sum_set_eq V.count y x.l _ hlt'
    omega
  | false =>
    have hm : x.member key = none := by rw [h.member]; exact lk_none _ _ (not_mem_of h.rise hb)
    rw [hm, put_new ⟨h.k5, h.len⟩ hb, V.count_eq, V.count_eq x]
    simp only [V.l_mk]
    have := sum_insert V.count x.l (posOf x.keys key) y
    omega
theorem count_del_le {x : V} (h : Obj x) (key : ByteArray) : (x.del key).count ≤ x.count := by
  cases hb : hasB x.keys key with
  | true =>
    rw [del_yes ⟨h.k5, h.len⟩ hb, V.count_eq, V.count_eq x]
    have := sum_erase V.count x.l (posOf x.keys key)
    simp only [V.l_mk]; omega
  | false => rw [del_no hb]; exact Nat.le_refl _
end Go.Proofs.YtknnflobpjppfaaDoor
