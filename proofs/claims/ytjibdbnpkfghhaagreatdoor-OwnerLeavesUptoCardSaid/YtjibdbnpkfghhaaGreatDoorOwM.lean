/- The plain law of OwnerLeaves: an object is made of its leaves. -/
import Derived.Test.YtjibdbnpkfghhaaGreatDoorPkQ
import Derived.Test.YtjibdbnpkfghhaaGreatDoorPkR
set_option linter.all false
namespace Go.Proofs.YtjibdbnpkfghhaaGreatDoor
inductive Sub : V → V → Prop
  | same (v : V) : Sub v v
  | obj {w v : V} (hw : VObj w) (hv : VObj v) (h1 : ∀ k y, w.member k = some y → v.member k ≠ none) (h2 : ∀ k y z, w.member k = some y → v.member k = some z → Sub y z) : Sub w v
theorem Sub.member {w v y : V} {k : ByteArray} (h : Sub w v) (hm : w.member k = some y) : ∃ z, v.member k = some z ∧ Sub y z := by
  cases h with
  | same => exact ⟨y, hm, .same y⟩
  | obj hw hv h1 h2 =>
    cases hz : v.member k with
    | none => exact absurd hz (h1 k y hm)
    | some z => exact ⟨z, rfl, h2 k y z hm hz⟩
theorem Sub.k5 {w v : V} (h : Sub w v) (h5 : v.k = 5) : w.k = 5 := by
  cases h with
  | same => exact h5
  | obj hw hv h1 h2 => exact hw.k5
theorem sub_go : ∀ (r : List ByteArray) {w v u : V}, Sub w v → goV r w = some u → ∃ z, goV r v = some z ∧ Sub u z
  | [], w, v, u, h, hg => by
    simp only [goV, Option.some.injEq] at hg
    subst hg
    exact ⟨v, rfl, h⟩
  | a :: r, w, v, u, h, hg => by
    obtain ⟨y, hy, hr⟩ := go_cons_some hg
    obtain ⟨z, hz, hs⟩ := h.member hy
    obtain ⟨t, ht, hst⟩ := sub_go r hs hr
    exact ⟨t, by rw [goV, hz]; exact ht, hst⟩
theorem sub_none {v : V} (h : VObj v) : Sub V.none5 v := .obj none5_obj h (fun k y hm => by rw [member_none5] at hm; cases hm) (fun k y z hm => by rw [member_none5] at hm; cases hm)
theorem child_of {x z : V} {a : ByteArray} (hx : x.sound) (hm : x.member a = some z) : ∃ i, x.child a = some i ∧ ∃ h : i < x.l.length, x.l[i] = z ∧ ∀ u, x.put a u = x.setL i u := by
  have h5 := (member_plain hx hm).2
  have hob := sound_obj hx h5
  have hmem : a ∈ x.keys := (hob.keys_iff a).2 (by rw [hm]; simp)
  have hb := has_of_mem hob.rise hmem
  have hlt := hasB_lt hb
  have hlt2 : posOf x.keys a < x.l.length := by rw [← hob.len]; exact hlt
  have hat := lk_at x.keys x.l hob.len hob.nodup _ hlt
  rw [hasB_at hb, ← hob.member, hm] at hat
  exact ⟨posOf x.keys a, by simp [V.child, h5, hb], hlt2, (Option.some.inj hat).symm, fun u => put_yes ⟨h5, hob.len⟩ hb⟩
theorem child_none {x : V} {a : ByteArray} (hx : VObj x) (hm : x.member a = none) : x.child a = none := by
  have hb : hasB x.keys a = false := by
    cases hb : hasB x.keys a with
    | false => rfl
    | true =>
      have h1 := lk_at x.keys x.l hx.len hx.nodup _ (hasB_lt hb)
      rw [hasB_at hb, ← hx.member, hm] at h1
      cases h1
  unfold V.child
  rw [if_pos hx.k5, hb]; rfl
theorem get_go : ∀ (r : List ByteArray) {x : V}, x.sound → (∀ i, i < r.length → ∀ u, goV (r.take i) x = some u → u.k = 5) → getV r x = goV r x
  | [], _, _, _ => rfl
  | a :: r, x, hx, h => by
    have h5 : x.k = 5 := h 0 (by simp) x rfl
    rw [getV, goV]
    cases hm : x.member a with
    | none => rw [child_none (sound_obj hx h5) hm]; rfl
    | some z =>
      obtain ⟨i, h1, h2, h3, -⟩ := child_of hx hm
      rw [h1, Option.bind_some, List.getElem?_eq_getElem h2, h3, Option.bind_some, Option.bind_some]
      exact get_go r (member_sound hx hm) fun i hi u hu => h (i + 1) (by simpa using hi) u (by rw [List.take_succ_cons, goV, hm]; exact hu)
theorem at_set : ∀ (r : List ByteArray) {w : V} (y : V), r ≠ [] → w.sound → w.k = 5 → (∀ i, 0 < i → i < r.length → ∃ z, goV (r.take i) w = some z ∧ z.k = 5) → goV r w = none → atV (addF y) r w = (setV r w y, 0)
  | [], _, _, h, _, _, _, _ => absurd rfl h
  | [a], w, y, _, hw, h5, _, hg => by
    have hm : w.member a = none := by
      cases hm : w.member a with
      | none => rfl
      | some z => rw [goV, hm] at hg; cases hg
    rw [atV_one, setV, base_of h5, hm]
    unfold addF
    rw [if_pos h5]
    simp
  | a :: b :: r, w, y, _, hw, h5, hp, hg => by
    obtain ⟨z, hz, hz5⟩ := hp 1 (by omega) (by simp)
    obtain ⟨z', hm, hz'⟩ := go_cons_some (show goV [a] w = some z from hz)
    simp only [goV, Option.some.injEq] at hz'
    subst hz'
    obtain ⟨i, h1, h2, h3, h4⟩ := child_of hw hm
    have ih := at_set (b :: r) (w := z') y (by simp) (member_sound hw hm) hz5 (fun i hi0 hi => by
      have := hp (i + 1) (by omega) (by simpa using hi)
      rw [List.take_succ_cons, goV, hm] at this
      exact this) (by rw [goV, hm] at hg; exact hg)
    have he : setV (a :: b :: r) w y = w.put a (setV (b :: r) z' y) := by rw [setV, base_of h5, hm, if_pos (by simp)]; rfl
    rw [atV_some h1 h2, h3, ih, if_pos rfl, he, h4]
theorem sub_set : ∀ (r : List ByteArray) {w v y z : V}, r ≠ [] → w.sound → w.k = 5 → Sub w v → goV r v = some z → Sub y z → (∀ i, 0 < i → i < r.length → ∃ u, goV (r.take i) w = some u ∧ u.k = 5) → goV r w = none → Sub (setV r w y) v
  | [], _, _, _, _, h, _, _, _, _, _, _, _ => absurd rfl h
  | [a], w, v, y, z, _, hw, h5, hs, hz, hyz, _, hg => by
    have hm : w.member a = none := by
      cases hm : w.member a with
      | none => rfl
      | some z => rw [goV, hm] at hg; cases hg
    obtain ⟨z', hvm, hz'⟩ := go_cons_some hz
    simp only [goV, Option.some.injEq] at hz'
    subst hz'
    have he : setV [a] w y = w.put a y := by rw [setV, base_of h5, hm]; simp
    rw [he]
    cases hs with
    | same => rw [hvm] at hm; cases hm
    | obj ow ov h1 h2 =>
      refine .obj (ow.put a y) ov (fun k u hu => ?_) (fun k u t hu ht => ?_)
      · rw [member_put ow] at hu
        split at hu
        · rename_i he
          rw [← he, hvm]; simp
        · exact h1 k u hu
      · rw [member_put ow] at hu
        split at hu
        · rename_i he
          subst he
          rw [hvm] at ht
          cases hu; cases ht
          exact hyz
        · exact h2 k u t hu ht
  | a :: b :: r, w, v, y, z, _, hw, h5, hs, hz, hyz, hp, hg => by
    obtain ⟨z0, hz0, hz5⟩ := hp 1 (by omega) (by simp)
    obtain ⟨z', hm, hz'⟩ := go_cons_some (show goV [a] w = some z0 from hz0)
    simp only [goV, Option.some.injEq] at hz'
    subst hz'
    obtain ⟨t, hvm, htz⟩ := go_cons_some hz
    have he : setV (a :: b :: r) w y = w.put a (setV (b :: r) z' y) := by rw [setV, base_of h5, hm, if_pos (by simp)]; rfl
    rw [he]
    have key : Sub z' t → Sub (setV (b :: r) z' y) t := fun hst => sub_set (b :: r) (by simp) (member_sound hw hm) hz5 hst htz hyz (fun i hi0 hi => by
      have := hp (i + 1) (by omega) (by simpa using hi)
      rw [List.take_succ_cons, goV, hm] at this
      exact this) (by rw [goV, hm] at hg; exact hg)
    cases hs with
    | same =>
      rw [hz] at hg; cases hg
    | obj ow ov h1 h2 =>
      refine .obj (ow.put a _) ov (fun k u hu => ?_) (fun k u q hu hq => ?_)
      · rw [member_put ow] at hu
        split at hu
        · rename_i he
          rw [← he, hvm]; simp
        · exact h1 k u hu
      · rw [member_put ow] at hu
        split at hu
        · rename_i he
          subst he
          rw [hvm] at hq
          cases hu; cases hq
          exact key (h2 _ _ _ hm hvm)
        · exact h2 k u q hu hq
theorem sums_sub {f : V → Nat} : ∀ (js : List ByteArray) (m : List V) (ks : List ByteArray) (l : List V), Rises ks → Rises js → ks.length = l.length → js.length = m.length → (∀ k y, lk ks l k = some y → ∃ z, lk js m k = some z ∧ f y ≤ f z) → (l.map f).sum ≤ (m.map f).sum
  | js, m, [], l, _, _, hl, _, _ => by
    obtain rfl : l = [] := List.length_eq_zero_iff.1 hl.symm
    simp
  | [], _, k :: ks, [], _, _, hl, _, _ => by simp at hl
  | [], _, k :: ks, x :: l, _, _, _, _, h => by
    obtain ⟨z, hz, -⟩ := h k x (by simp [lk])
    simp [lk] at hz
  | j :: js, [], k :: ks, l, _, _, _, hm, _ => by simp at hm
  | j :: js, y :: m, k :: ks, [], _, _, hl, _, _ => by simp at hl
  | j :: js, y :: m, k :: ks, x :: l, hr, hs, hl, hm, h => by
    obtain ⟨hr1, hr2⟩ := List.pairwise_cons.1 hr
    obtain ⟨hs1, hs2⟩ := List.pairwise_cons.1 hs
    have hin : ∀ k' ∈ ks, k' ≠ k := fun k' hk' e => ltS_ne (hr1 k' hk') e.symm
    have hks : ∀ k' (l' : List V), k' ∉ ks → lk ks l' k' = none := fun k' l' h => lk_none ks l' h
    by_cases he : j = k
    · subst he
      obtain ⟨z, hz, hf⟩ := h j x (by simp [lk])
      simp only [lk, if_true, Option.some.injEq] at hz
      subst hz
      have ih := sums_sub js m ks l hr2 hs2 (by simpa using hl) (by simpa using hm) fun k' u hu => by
        have hk' : k' ∈ ks := Classical.byContradiction fun hn => by rw [hks k' l hn] at hu; cases hu
        obtain ⟨z, hz, hf⟩ := h k' u (by rw [lk, if_neg (fun e => hin k' hk' e.symm)]; exact hu)
        rw [lk, if_neg (fun e => hin k' hk' e.symm)] at hz
        exact ⟨z, hz, hf⟩
      simp only [List.map_cons, List.sum_cons]; omega
    · have hkj : k ∈ js := by
        obtain ⟨z, hz, -⟩ := h k x (by simp [lk])
        rw [lk, if_neg he] at hz
        exact Classical.byContradiction fun hn => by rw [lk_none js m hn] at hz; cases hz
      have hjk := hs1 k hkj
      have hne : ∀ k' ∈ k :: ks, j ≠ k' := fun k' hk' => by
        rcases List.mem_cons.1 hk' with rfl | hk'
        · exact he
        · exact ltS_ne (ltS_trans hjk (hr1 k' hk'))
      have ih := sums_sub js m (k :: ks) (x :: l) hr hs2 hl (by simpa using hm) fun k' u hu => by
        have hk' : k' ∈ k :: ks := Classical.byContradiction fun hn => by rw [lk_none (k :: ks) (x :: l) hn] at hu; cases hu
        obtain ⟨z, hz, hf⟩ := h k' u hu
        rw [lk, if_neg (hne k' hk')] at hz
        exact ⟨z, hz, hf⟩
      rw [List.map_cons (l := m), List.sum_cons]; omega
theorem sub_count {w v : V} (h : Sub w v) : w.count ≤ v.count := by
  induction h with
  | same => exact Nat.le_refl _
  | obj hw hv h1 h2 ih =>
    rw [V.count_eq, V.count_eq]
    have := sums_sub (f := V.count) _ _ _ _ hw.rise hv.rise hw.len hv.len fun k y hy => by
      rw [← hw.member] at hy
      rename_i w' v'
      cases hz : v'.member k with
      | none => exact absurd hz (h1 k y hy)
      | some z => exact ⟨z, by rw [← hv.member]; exact hz, ih k y z hy hz⟩
    omega
theorem sub_good {w v : V} (h : Sub w v) : ∀ (d : Int), w.sound → v.good d = true → w.good d = true := by
  induction h with
  | same => exact fun d _ h => h
  | obj hw hv h1 h2 ih =>
    rename_i w' v'
    intro d hs hg
    rw [V.good_eq, Bool.and_eq_true, List.all_eq_true] at hg ⊢
    refine ⟨of_flat hs.flat (flat_of hg.1).2, fun y hy => ?_⟩
    obtain ⟨i, hi, rfl⟩ := List.getElem_of_mem hy
    have hm : w'.member (w'.keys[i]'(by rw [hw.len]; exact hi)) = some w'.l[i] := by
      rw [hw.member]
      exact lk_at _ _ hw.len hw.nodup i (by rw [hw.len]; exact hi)
    cases hz : v'.member (w'.keys[i]'(by rw [hw.len]; exact hi)) with
    | none => exact absurd hz (h1 _ _ hm)
    | some z => exact ih _ _ z hm hz (d + 1) (hs.item (List.getElem_mem hi)) (hg.2 z (member_mem hz))
theorem sub_fine {w v : V} (h : Sub w v) (hs : w.sound) (hf : v.fine = true) : w.fine = true := by
  have h1 := sub_good h 1 hs (fine_good hf)
  have h2 := sub_count h
  have h3 := fine_count hf
  unfold V.fine
  rw [h1, decide_eq_true (by omega)]; rfl
theorem lvs_app (x : V) : ∀ (ns m : List ByteArray), m ≠ [] → x.lvs (ns ++ m) = (x.lvs m).map (ns ++ ·) := by
  induction x using V.ind with
  | h x ih =>
    intro ns m hm
    rw [lvs_eq x (ns ++ m), lvs_eq x m]
    have hne : ns ++ m ≠ [] := by simp [hm]
    by_cases hc : x.k ≠ 5 ∨ (x.l = [] ∧ m ≠ [])
    · rw [if_pos hc, if_pos (by rcases hc with h | h; exact .inl h; exact .inr ⟨h.1, hne⟩)]
      simp
    · rw [if_neg hc, if_neg (fun h => hc (by rcases h with h | h; exact .inl h; exact .inr ⟨h.1, hm⟩))]
      have key : ∀ (l : List V) (ks : List ByteArray), (∀ y ∈ l, y ∈ x.l) → V.lvs.go l ks (ns ++ m) = (V.lvs.go l ks m).map (ns ++ ·) := by
        intro l
        induction l with
        | nil => intro ks _; rw [lgo_nil, lgo_nil]; rfl
        | cons y l ihl =>
          intro ks hl
          cases ks with
          | nil => rw [lgo_nil', lgo_nil']; rfl
          | cons k ks =>
            rw [lgo_cons, lgo_cons, List.map_append, ← ihl ks (fun z hz => hl z (by simp [hz])), List.append_assoc, ih y (hl y (by simp)) ns (m ++ [k]) (by simp)]
      exact key _ _ (fun _ h => h)
theorem lvs_some (x : V) : ∀ (d : Int) (ns : List ByteArray), x.good d = true → ns ≠ [] → x.lvs ns ≠ [] := by
  induction x using V.ind with
  | h x ih =>
    intro d ns hg hn
    rw [lvs_eq]
    split
    · simp
    · rename_i hc
      have h5 : x.k = 5 := Classical.byContradiction fun h => hc (.inl h)
      have hob := sound_obj (good_sound hg) h5
      have hle : x.l ≠ [] := fun h => hc (.inr ⟨h, hn⟩)
      have hlen := hob.len
      cases hl : x.l with
      | nil => exact absurd hl hle
      | cons y l =>
        cases hk : x.keys with
        | nil => rw [hl, hk] at hlen; simp at hlen
        | cons k ks =>
          rw [lgo_cons]
          intro he
          have hy : y ∈ x.l := by rw [hl]; simp
          have hgy : y.good (d + 1) = true := by
            obtain ⟨i, hi, e⟩ := List.getElem_of_mem hy
            rw [← e]; exact good_item hg hi
          exact ih y hy (d + 1) (ns ++ [k]) hgy (by simp) (List.append_eq_nil_iff.1 he).1
theorem lvs_member {x z : V} {k : ByteArray} (hx : VObj x) (hm : x.member k = some z) (h5 : x.l ≠ []) (ns : List ByteArray) : ∀ q ∈ z.lvs (ns ++ [k]), q ∈ x.lvs ns := by
  intro q hq
  rw [lvs_eq, if_neg (by rintro (h | h); exact h hx.k5; exact h5 h.1)]
  have key : ∀ (ks : List ByteArray) (l : List V), lk ks l k = some z → q ∈ V.lvs.go l ks ns := by
    intro ks
    induction ks with
    | nil => intro l h; simp [lk] at h
    | cons j ks ihk =>
      intro l h
      cases l with
      | nil => simp [lk] at h
      | cons y l =>
        rw [lgo_cons, List.mem_append]
        rw [lk] at h
        split at h
        · rename_i he
          subst he
          cases h
          exact .inl hq
        · exact .inr (ihk l h)
  exact key _ _ (by rw [← hx.member]; exact hm)
theorem sub_all (v : V) : ∀ (d : Int) (w : V), v.good d = true → v.k = 5 → Sub w v → (∀ q ∈ v.lvs [], goV q w = goV q v) → w = v := by
  induction v using V.ind with
  | h v ih =>
    intro d w hg h5 hs hq
    cases hs with
    | same => rfl
    | obj hw hv h1 h2 =>
      refine obj_ext hw hv fun k => ?_
      cases hz : v.member k with
      | none =>
        cases hm : w.member k with
        | none => rfl
        | some y => exact absurd hz (h1 k y hm)
      | some z =>
        have hzl := member_mem hz
        have hvl : v.l ≠ [] := fun e => by rw [e] at hzl; cases hzl
        have hgz : z.good (d + 1) = true := by
          obtain ⟨i, hi, e⟩ := List.getElem_of_mem hzl
          rw [← e]; exact good_item hg hi
        by_cases hc : z.k ≠ 5 ∨ z.l = []
        · have hmem : [k] ∈ v.lvs [] := lvs_member hv hz hvl [] [k] (by rw [lvs_eq, if_pos (by rcases hc with h | h; exact .inl h; exact .inr ⟨h, by simp⟩)]; simp)
          have := hq _ hmem
          rw [goV, goV, hz] at this
          cases hm : w.member k with
          | none => rw [hm] at this; cases this
          | some y => rw [hm] at this; exact this
        · have hz5 : z.k = 5 := Classical.byContradiction fun h => hc (.inl h)
          have hzn : z.l ≠ [] := fun h => hc (.inr h)
          have hpre : ∀ q ∈ z.lvs [], (k :: q) ∈ v.lvs [] := fun q hq' => lvs_member hv hz hvl [] _ (by
            have e1 : z.lvs ([] ++ [k]) = (z.lvs []).map ([k] ++ ·) := by
              rw [lvs_eq z ([] ++ [k]), lvs_eq z [], if_neg (by rintro (h | h); exact h hz5; exact hzn h.1), if_neg (by rintro (h | h); exact h hz5; exact hzn h.1)]
              have key : ∀ (l : List V) (ks : List ByteArray), V.lvs.go l ks ([] ++ [k]) = (V.lvs.go l ks []).map ([k] ++ ·) := by
                intro l
                induction l with
                | nil => intro ks; rw [lgo_nil, lgo_nil]; rfl
                | cons y l ihl =>
                  intro ks
                  cases ks with
                  | nil => rw [lgo_nil', lgo_nil']; rfl
                  | cons j ks =>
                    rw [lgo_cons, lgo_cons, List.map_append, ← ihl ks]
                    congr 1
                    exact lvs_app y [k] [j] (by simp)
              exact key _ _
            rw [e1]
            exact List.mem_map.2 ⟨q, hq', rfl⟩)
          cases hm : w.member k with
          | none =>
            have hne := lvs_some z (d + 1) [k] hgz (by simp)
            obtain ⟨q, hq'⟩ := List.exists_mem_of_ne_nil _ hne
            obtain ⟨r, hr, ⟨y, hy, -⟩, -⟩ := lvs_mem z (d + 1) [k] hgz q hq'
            have h3 := hq q (lvs_member hv hz hvl [] q hq')
            rw [hr, List.singleton_append, goV, goV, hm, hz] at h3
            rw [Option.bind_none, Option.bind_some, hy] at h3
            cases h3
          | some y =>
            have := ih z hzl (d + 1) y hgz hz5 (h2 k y z hm hz) fun q hq' => by
              have h3 := hq _ (hpre q hq')
              rw [goV, goV, hm, hz] at h3
              exact h3
            rw [this]
structure Inv (v u : V) (k : Nat) : Prop where
  sub : Sub u v
  sound : u.sound
  k5 : u.k = 5
  done : ∀ i, (h : i < v.leaves.length) → i < k → findV u v.leaves[i] = findV v v.leaves[i]
def InvI (v u : V) (k : Nat) (l : List ByteArray) (i : Nat) : Prop := Inv v u k ∧ ∀ j, 0 < j → j < i → ∃ z, goV (l.take j) u = some z
theorem inv_start {v : V} (hf : v.fine = true) (h5 : v.k = 5) : Inv v V.none5 0 :=
  ⟨sub_none (sound_obj (fine_sound hf) h5), none5_sound, rfl, fun i _ h => absurd h (Nat.not_lt_zero _)⟩
theorem Inv.fine {v u : V} {k : Nat} (h : Inv v u k) (hf : v.fine = true) : u.fine = true := sub_fine h.sub h.sound hf
theorem Inv.size {v u : V} {k : Nat} (h : Inv v u k) (hf : v.fine = true) : u.size ≤ 14640 := fine_size (h.fine hf)
theorem way_obj {v u z : V} {l : List ByteArray} (hv : v.sound) (hs : Sub u v) (hl : goV l v = some z) {i : Nat} (hi : i < l.length) {t : V} (ht : goV (l.take i) u = some t) : t.k = 5 := by
  obtain ⟨q, hq, hsq⟩ := sub_go _ hs ht
  refine hsq.k5 ?_
  rw [← List.take_append_drop i l, go_app, hq, Option.bind_some, List.drop_eq_getElem_cons hi] at hl
  obtain ⟨y, hy, -⟩ := go_cons_some hl
  exact (member_plain (go_sound _ hv hq) hy).2
theorem inv_add {v u y z : V} {k : Nat} (h : Inv v u k) (hf : v.fine = true) {r : List ByteArray} (hr : r ≠ []) (hp : ∀ a ∈ r, plainB a = true) (hy : y.sound) (hz : goV r v = some z) (hyz : Sub y z) (hpre : ∀ i, 0 < i → i < r.length → ∃ t, goV (r.take i) u = some t)
    (hn : goV r u = none) (ha : ∀ i, (hi : i < v.leaves.length) → i < k → Apart r (namesD v.leaves[i])) :
    (atV (addF y) r u) = (setV r u y, 0) ∧ Inv v (setV r u y) k ∧ goV r (setV r u y) = some y := by
  have hpre5 : ∀ i, 0 < i → i < r.length → ∃ t, goV (r.take i) u = some t ∧ t.k = 5 := fun i h0 hi => by
    obtain ⟨t, ht⟩ := hpre i h0 hi
    exact ⟨t, ht, way_obj (fine_sound hf) h.sub hz hi ht⟩
  obtain ⟨s1, s2, -⟩ := set_keeps r (x := y) hr h.sound hy hp
  have hthere : ∀ (r : List ByteArray) {u : V}, r ≠ [] → u.sound → u.k = 5 → (∀ i, 0 < i → i < r.length → ∃ t, goV (r.take i) u = some t ∧ t.k = 5) → goV r u = none → goV r (setV r u y) = some y := by
    intro r
    induction r with
    | nil => intro u h; exact absurd rfl h
    | cons a r ihr =>
      intro u _ hu h5 hp hn
      have hob := sound_obj hu h5
      by_cases he : r = []
      · subst he
        have hm : u.member a = none := by
          cases hm : u.member a with
          | none => rfl
          | some z => rw [goV, hm] at hn; cases hn
        rw [show setV [a] u y = u.put a y from by rw [setV, base_of h5, hm]; simp, goV, put_mem hob]
        rfl
      · obtain ⟨t, ht, ht5⟩ := hp 1 (by omega) (by have := List.length_pos_iff.2 he; simp; omega)
        rw [List.take_succ_cons, List.take_zero] at ht
        obtain ⟨t', hm, ht'⟩ := go_cons_some ht
        simp only [goV, Option.some.injEq] at ht'
        subst ht'
        rw [setV, if_pos he, base_of h5, hm, goV, put_mem hob, Option.bind_some, Option.getD_some]
        exact ihr he (member_sound hu hm) ht5 (fun i h0 hi => by
          have := hp (i + 1) (by omega) (by simpa using hi)
          rw [List.take_succ_cons, goV, hm] at this
          exact this) (by rw [goV, hm] at hn; exact hn)
  refine ⟨at_set r y hr h.sound h.k5 hpre5 hn, ⟨sub_set r hr h.sound h.k5 h.sub hz hyz hpre5 hn, s1, s2, fun i hi hk => ?_⟩, hthere r hr h.sound h.k5 hpre5 hn⟩
  have hd := h.done i hi hk
  obtain ⟨-, -, s, -, hs, -, -, -, x, -, hx, -⟩ := leaf_at (List.getElem_mem hi)
  have hap := ha i hi hk
  rw [hx] at hd ⊢
  unfold findV at hd ⊢
  exact set_apart r _ h.sound hap hd
end Go.Proofs.YtjibdbnpkfghhaaGreatDoor
