/- The plain law of OwnerLeaves, step by step. -/
import Derived.Test.YtjibdbnpkfghhaaGreatDoorOwM
set_option linter.all false
namespace Go.Proofs.YtjibdbnpkfghhaaGreatDoor
theorem go_good : ∀ (r : List ByteArray) {x y : V} {d : Int}, x.good d = true → goV r x = some y → y.good (d + (r.length : Int)) = true
  | [], x, y, d, h, hg => by
    simp only [goV, Option.some.injEq] at hg
    subst hg
    simpa using h
  | a :: r, x, y, d, h, hg => by
    obtain ⟨z, hz, hr⟩ := go_cons_some hg
    have hzl := member_mem hz
    have hgz : z.good (d + 1) = true := by
      obtain ⟨i, hi, e⟩ := List.getElem_of_mem hzl
      rw [← e]; exact good_item h hi
    have := go_good r hgz hr
    simp only [List.length_cons]
    rwa [show d + ((r.length + 1 : Nat) : Int) = d + 1 + (r.length : Int) by omega]
theorem go_fine {r : List ByteArray} {x y : V} (h : x.fine = true) (hg : goV r x = some y) : y.fine = true := by
  have h1 := good_mono (go_good r (fine_good h) hg) (e := 1) (by omega)
  have h2 := go_count r hg
  have h3 := fine_count h
  unfold V.fine
  rw [h1, decide_eq_true (by omega)]; rfl
theorem go_pre {r : List ByteArray} {x y : V} (h : goV r x = some y) (j : Nat) : ∃ t, goV (r.take j) x = some t := by
  rw [← List.take_append_drop j r, go_app] at h
  obtain ⟨t, ht, -⟩ := Option.bind_eq_some_iff.1 h
  exact ⟨t, ht⟩
theorem at_same : ∀ (r : List ByteArray) {u y : V}, r ≠ [] → u.sound → goV r u = some y → atV (addF y) r u = (u, 0)
  | [], _, _, h, _, _ => absurd rfl h
  | [a], u, y, _, hu, hg => by
    obtain ⟨z, hm, hz⟩ := go_cons_some hg
    simp only [goV, Option.some.injEq] at hz
    subst hz
    have h5 := (member_plain hu hm).2
    rw [atV_one]
    unfold addF
    rw [if_pos h5, put_self (sound_obj hu h5) hm]
  | a :: b :: r, u, y, _, hu, hg => by
    obtain ⟨z, hm, hz⟩ := go_cons_some hg
    have h5 := (member_plain hu hm).2
    obtain ⟨i, h1, h2, h3, h4⟩ := child_of hu hm
    rw [atV_some h1 h2, h3, at_same (b :: r) (by simp) (member_sound hu hm) hz, if_pos rfl]
    simp only
    rw [← h4 z, put_self (sound_obj hu h5) hm]
theorem names_take {l : List ByteArray} (hp : ∀ a ∈ l, plainB a = true) (hl : l.length ≤ 11) (i : Nat) : namesB (joinB (l.take i)) = some (l.take i) :=
  names_join_b (by
    have := joinL_len (l.take i) (fun a ha => plain_size (hp a (List.mem_of_mem_take ha)))
    have h2 : (l.take i).length ≤ 11 := by rw [List.length_take]; omega
    omega)
theorem join_size {l : List ByteArray} (hp : ∀ a ∈ l, plainB a = true) (hl : l.length ≤ 11) (i : Nat) : (joinB (l.take i)).size ≤ 2000 := by
  have h1 := joinL_len (l.take i) (fun a ha => plain_size (hp a (List.mem_of_mem_take ha)))
  have h2 : (l.take i).length ≤ 11 := by rw [List.length_take]; omega
  have h3 : (joinB (l.take i)).size = (joinL ((l.take i).map (·.data.toList))).length := by rw [← joinB_list]; exact Array.length_toList.symm
  omega
theorem addP_at {u y u' : V} {p : ByteArray} {r : List ByteArray} (hy : y.fine = true) (hu : u.fine = true) (hn : namesB p = some r) (hr : r ≠ []) (h : atV (addF y) r u = (u', 0)) (hu' : u'.fine = true) : addP u p y = (u', 0) := by
  unfold addP
  rw [if_neg (by rw [hy]; simp), if_neg (fun e => by rw [names_empty e.1] at hn; exact hr (Option.some.inj hn).symm)]
  unfold changeV
  rw [hn]
  simp only
  rw [if_neg (by rw [hu]; simp), if_neg hr, h]
  simp [hu']
theorem step_above {v u : V} {k i : Nat} (hf : v.fine = true) (hk : k < v.leaves.length) {l : List ByteArray} (hl : namesB v.leaves[k] = some l) (h : InvI v u k l i) (h0 : 0 < i) (hi : i < l.length) :
    ((getP u (joinB (l.take i))).2 = 0 ∧ InvI v u k l (i + 1)) ∨
    ((getP u (joinB (l.take i))).2 = 3 ∧ ∃ u', addP u (joinB (l.take i)) V.none5 = (u', 0) ∧ InvI v u' k l (i + 1)) := by
  obtain ⟨-, -, l', -, hl', hne, hlen, hp, x, hx, -, -⟩ := leaf_at (List.getElem_mem hk)
  rw [hl] at hl'
  cases hl'
  obtain ⟨hI, hpre⟩ := h
  have hn := names_take hp hlen i
  have hti : (l.take i).length = i := by rw [List.length_take]; omega
  have hne2 : l.take i ≠ [] := fun e => by rw [e] at hti; simp at hti; omega
  have hway : ∀ j, j < (l.take i).length → ∀ t, goV ((l.take i).take j) u = some t → t.k = 5 := fun j hj t ht => by
    rw [List.take_take, Nat.min_eq_left (by omega)] at ht
    exact way_obj (fine_sound hf) hI.sub hx (by omega) ht
  have hget : getP u (joinB (l.take i)) = match goV (l.take i) u with | some y => (y, 0) | none => (V.zero, 3) := by
    unfold getP
    rw [hn]
    simp only
    rw [if_neg (by rw [hI.fine hf]; simp), get_go _ hI.sound hway]
    cases goV (l.take i) u <;> rfl
  rw [hget]
  cases hg : goV (l.take i) u with
  | some z =>
    refine .inl ⟨rfl, hI, fun j hj0 hj => ?_⟩
    by_cases he : j = i
    · exact ⟨z, by rw [he]; exact hg⟩
    · exact hpre j hj0 (by omega)
  | none =>
    refine .inr ⟨rfl, ?_⟩
    -- what stands there in the value
    have hx2 := hx
    rw [← List.take_append_drop i l, go_app] at hx2
    obtain ⟨z, hz, hzr⟩ := Option.bind_eq_some_iff.1 hx2
    have hz5 : z.k = 5 := way_obj (fine_sound hf) (.same v) hx hi hz
    have hzs := go_sound _ (fine_sound hf) hz
    have hap : ∀ j, (hj : j < v.leaves.length) → j < k → Apart (l.take i) (namesD v.leaves[j]) := fun j hj hjk => by
      obtain ⟨-, -, s, -, hs, -, -, -, y, -, hy, -⟩ := leaf_at (List.getElem_mem hj)
      have hd := hI.done j hj hjk
      have hnd : namesD v.leaves[j] = s := by unfold namesD; rw [hs]; rfl
      rw [hy] at hd
      unfold findV at hd
      rw [hnd] at hd ⊢
      have hnp : ¬ l.take i <+: s := fun ⟨t, ht⟩ => by
        rw [← ht, go_app, hg] at hd
        cases hd
      refine ⟨hnp, fun hsl => ?_⟩
      by_cases he : v.leaves[j] = v.leaves[k]
      · rw [he, hl] at hs
        cases hs
        exact hnp (List.take_prefix _ _)
      · exact (leaf_apart (List.getElem_mem hj) (List.getElem_mem hk) hs hl he).1 (hsl.trans (List.take_prefix _ _))
    obtain ⟨h1, h2, h3⟩ := inv_add hI hf hne2 (fun a ha => hp a (List.mem_of_mem_take ha)) none5_sound hz (sub_none (sound_obj hzs hz5)) (fun j hj0 hj => by
      rw [List.take_take, Nat.min_eq_left (by omega)]
      exact hpre j hj0 (by omega)) hg hap
    refine ⟨_, addP_at (by decide +kernel) (hI.fine hf) hn hne2 h1 (h2.fine hf), h2, fun j hj0 hj => ?_⟩
    have : l.take j = (l.take i).take j := by rw [List.take_take, Nat.min_eq_left (by omega)]
    by_cases he : j = i
    · rw [he]; exact ⟨_, h3⟩
    · rw [this]
      exact go_pre h3 j
theorem step_leaf {v u : V} {k : Nat} (hf : v.fine = true) (hk : k < v.leaves.length) {l : List ByteArray} (hl : namesB v.leaves[k] = some l) (h : InvI v u k l l.length) :
    ∃ x u', getP v v.leaves[k] = (x, 0) ∧ (x.k = 5 → x.l = []) ∧ x.size ≤ 14640 ∧ addP u v.leaves[k] x = (u', 0) ∧ Inv v u' (k + 1) := by
  obtain ⟨-, -, l', -, hl', hne, hlen, hp, x, hx, hfx, hxl⟩ := leaf_at (List.getElem_mem hk)
  rw [hl] at hl'
  cases hl'
  obtain ⟨hI, hpre⟩ := h
  have hxf := go_fine hf hx
  have hgetv : getP v v.leaves[k] = (x, 0) := by
    unfold getP
    rw [hl]
    simp only
    rw [if_neg (by rw [hf]; simp), get_go l (fine_sound hf) (fun i hi t ht => way_obj (fine_sound hf) (.same v) hx hi ht), hx]
  have hlast : ∀ u', Inv v u' k → goV l u' = some x → Inv v u' (k + 1) := fun u' h' hg => ⟨h'.sub, h'.sound, h'.k5, fun i hi hik => by
    by_cases he : i = k
    · subst he
      rw [hfx]
      unfold findV namesD
      rw [hl]
      exact hg
    · exact h'.done i hi (by omega)⟩
  cases hg : goV l u with
  | some t =>
    obtain ⟨z, hz, hs⟩ := sub_go _ hI.sub hg
    rw [hx] at hz
    cases hz
    have htx : t = x := by
      cases hs with
      | same => rfl
      | obj hw hv h1 h2 =>
        refine obj_ext hw hv fun q => ?_
        have hx0 := hxl hv.k5
        have hnone : x.member q = none := by
          cases hm : x.member q with
          | none => rfl
          | some y => have := member_mem hm; rw [hx0] at this; cases this
        rw [hnone]
        cases hm : t.member q with
        | none => rfl
        | some y => exact absurd hnone (h1 q y hm)
    subst htx
    exact ⟨t, u, hgetv, hxl, fine_size hxf, addP_at hxf (hI.fine hf) hl hne (at_same l hne hI.sound hg) (hI.fine hf), hlast u hI hg⟩
  | none =>
    have hap : ∀ j, (hj : j < v.leaves.length) → j < k → Apart l (namesD v.leaves[j]) := fun j hj hjk => by
      obtain ⟨-, -, s, -, hs, -, -, -, y, -, hy, -⟩ := leaf_at (List.getElem_mem hj)
      have hd := hI.done j hj hjk
      have hnd : namesD v.leaves[j] = s := by unfold namesD; rw [hs]; rfl
      rw [hy] at hd
      unfold findV at hd
      rw [hnd] at hd ⊢
      have he : v.leaves[j] ≠ v.leaves[k] := fun he => by
        rw [he, hl] at hs
        cases hs
        rw [hg] at hd
        cases hd
      exact (leaf_apart (List.getElem_mem hj) (List.getElem_mem hk) hs hl he).symm
    obtain ⟨h1, h2, h3⟩ := inv_add hI hf hne hp (fine_sound hxf) hx (.same x) hpre hg hap
    exact ⟨x, _, hgetv, hxl, fine_size hxf, addP_at hxf (hI.fine hf) hl hne h1 (h2.fine hf), hlast _ h2 h3⟩
theorem inv_end {v u : V} (hf : v.fine = true) (h5 : v.k = 5) (h : Inv v u v.leaves.length) : u = v := by
  refine sub_all v 1 u (fine_good hf) h5 h.sub fun q hq => ?_
  have hp : joinB q ∈ v.leaves := by
    unfold V.leaves
    rw [if_pos ⟨hf, h5⟩, (sortB_perm _).mem_iff]
    exact List.mem_map.2 ⟨q, hq, rfl⟩
  obtain ⟨r, hqr, -, hlen, hpl⟩ := lvs_mem v 1 [] (fine_good hf) q hq
  rw [List.nil_append] at hqr
  subst hqr
  have hn : namesB (joinB q) = some q := names_join_b (by have := joinL_len q (fun a ha => plain_size (hpl a ha)); omega)
  obtain ⟨i, hi, he⟩ := List.getElem_of_mem hp
  have hd := h.done i hi hi
  rw [he] at hd
  unfold findV namesD at hd
  rw [hn] at hd
  exact hd
end Go.Proofs.YtjibdbnpkfghhaaGreatDoor
