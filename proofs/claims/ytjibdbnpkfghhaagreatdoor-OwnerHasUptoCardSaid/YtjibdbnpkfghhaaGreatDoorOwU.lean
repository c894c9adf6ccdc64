/- The plain law of OwnerHas: what is wanted is there, and its own; wanted again, it changes nothing. -/
import Derived.Test.YtjibdbnpkfghhaaGreatDoorOwY
set_option linter.all false
namespace Go.Proofs.YtjibdbnpkfghhaaGreatDoor

/-- Through objects alone is through values. -/
theorem go_get : ∀ (r : List ByteArray) {x y : V}, x.sound → goV r x = some y → getV r x = some y
 | [], _, _, _, h => h
 | a :: r, x, y, hx, h => by
  obtain ⟨z, hm, hz⟩ := go_cons_some h
  have h5 := (member_plain hx hm).2
  have hob := sound_obj hx h5
  have hmem : a ∈ x.keys := (hob.keys_iff a).2 (by rw [hm]; simp)
  have hb := has_of_mem hob.rise hmem
  have hlt := hasB_lt hb
  have hlt2 : posOf x.keys a < x.l.length := by rw [← hob.len]; exact hlt
  have hm2 := hm
  rw [hob.member] at hm2
  have hat := lk_at x.keys x.l hob.len hob.nodup _ hlt
  rw [hasB_at hb, hm2] at hat
  have hl : x.l[posOf x.keys a]? = some z := by rw [List.getElem?_eq_getElem hlt2]; exact hat.symm
  rw [getV, show x.child a = some (posOf x.keys a) from by simp [V.child, h5, hb], Option.bind_some, hl, Option.bind_some]
  exact go_get r (member_sound hx hm) hz
theorem like_self (x : V) : likeB x x = true := by
 unfold likeB; rw [(same_iff x x).2 rfl]; rfl
/-- What was set is there. -/
theorem set_there : ∀ (l : List ByteArray) {v x : V}, l ≠ [] → v.sound → ∃ y, goV l (setV l v x) = some y ∧ likeB y x = true
 | [], _, _, h, _ => absurd rfl h
 | a :: r, v, x, _, hv => by
  have hb := base_obj hv
  rw [setV]
  by_cases hr : r = []
  ·subst hr
   rw [if_neg (by simp)]
   have hput : ∃ y, goV [a] (v.base.put a x) = some y ∧ likeB y x = true := ⟨x, by rw [goV, put_mem hb]; rfl, like_self x⟩
   cases hm : v.base.member a with
   | none => exact hput
   | some old =>
    simp only
    split
    ·rename_i hk
     exact ⟨old, by rw [goV, hm]; rfl, hk⟩
    ·exact hput
  ·rw [if_pos hr]
   have hbs := base_sound hv
   have hs : ((v.base.member a).getD V.zero).sound := by
    cases hm : v.base.member a with
    | none => exact zero_sound
    | some z => exact member_sound hbs hm
   obtain ⟨y, h1, h2⟩ := set_there r (x := x) hr hs
   exact ⟨y, by rw [goV, put_mem hb]; exact h1, h2⟩
/-- Once there, it stays. -/
theorem sets_stay {want : V} {r : List ByteArray} {p : ByteArray} (hp : p ∈ want.leaves) (hr : namesB p = some r) {y : V} (hy : likeB y ((findV want p).getD V.zero) = true) :
  ∀ (ps : List ByteArray) {v : V}, v.sound → (∀ q ∈ ps, q ∈ want.leaves) → goV r v = some y → goV r (ps.foldl (setStep want) v) = some y := by
 intro ps v hv hl h
 refine sets_apart ps hv hl (fun q hq => ?_) h
 obtain ⟨-, -, s, -, hs, hsne, -⟩ := leaf_at (hl q hq)
 have hnd' : namesD q = s := by unfold namesD; rw [hs]; rfl
 by_cases he : q = p
 ·subst he
  rw [hr] at hs
  cases hs
  refine .inr fun z hz hgz => ?_
  unfold setStep
  rw [hnd', set_like _ hsne hz hgz hy]
  exact hgz
 ·exact .inl (by rw [hnd']; exact leaf_apart (hl q hq) hp hs hr he)
theorem sets_there {want : V} {p : ByteArray} : ∀ (ps : List ByteArray) {v : V}, p ∈ ps → (∀ q ∈ ps, q ∈ want.leaves) → v.sound → ∃ y, findV (ps.foldl (setStep want) v) p = some y ∧ likeB y ((findV want p).getD V.zero) = true
 | [], _, h, _, _ => (List.not_mem_nil h).elim
 | q :: ps, v, h, hl, hv => by
  rw [List.foldl_cons]
  have hs := (setStep_keeps hv (hl q (by simp))).1
  by_cases he : q = p
  ·subst he
   obtain ⟨-, -, s, -, hn, hsne, -⟩ := leaf_at (hl q (by simp))
   have hnd' : namesD q = s := by unfold namesD; rw [hn]; rfl
   obtain ⟨y, h1, h2⟩ := set_there (namesD q) (v := v) (x := (findV want q).getD V.zero) (by rw [hnd']; exact hsne) hv
   refine ⟨y, ?_, h2⟩
   unfold findV
   rw [hnd'] at h1 ⊢
   exact sets_stay (hl q (by simp)) hn h2 ps hs (fun q' hq' => hl q' (by simp [hq'])) (by unfold setStep; rw [hnd']; exact h1)
  ·exact sets_there ps (by rcases List.mem_cons.1 h with e | e; exact absurd e.symm he; exact e) (fun q' hq' => hl q' (by simp [hq'])) hs
theorem sets_same {want : V} : ∀ (ps : List ByteArray) {v : V}, v.sound → (∀ q ∈ ps, q ∈ want.leaves ∧ ∃ y, findV v q = some y ∧ likeB y ((findV want q).getD V.zero) = true) → ps.foldl (setStep want) v = v
 | [], _, _, _ => rfl
 | q :: ps, v, hv, h => by
  rw [List.foldl_cons]
  obtain ⟨h1, y, h2, h3⟩ := h q (by simp)
  obtain ⟨-, -, s, -, hn, hsne, -⟩ := leaf_at h1
  have hnd' : namesD q = s := by unfold namesD; rw [hn]; rfl
  have : setStep want v q = v := by
   unfold setStep
   unfold findV at h2
   rw [hnd'] at h2 ⊢
   exact set_like s hsne hv h2 h3
  rw [this]
  exact sets_same ps hv (fun q' hq' => h q' (by simp [hq']))

theorem goodPaths_iff (ps : List ByteArray) : goodPaths ps = true ↔ (∀ p ∈ ps, pathB p = true) ∧ Rises ps := by
 unfold goodPaths
 rw [decide_eq_true_eq]
 constructor
 ·intro h
  refine ⟨fun p hp => ?_, List.pairwise_iff_getElem.2 fun i j hi hj hij => ?_⟩
  ·obtain ⟨k, hk, rfl⟩ := List.getElem_of_mem hp
   exact (h k hk).1
  ·obtain ⟨d, rfl⟩ : ∃ d, j = i + 1 + d := ⟨j - i - 1, by omega⟩
   clear hij
   induction d with
   | zero => have := (h (i + 1) hj).2 (by omega); simpa using this
   | succ d ih =>
    have h1 := ih (by omega)
    have h2 := (h (i + 1 + (d + 1)) hj).2 (by omega)
    exact ltS_trans h1 h2
 ·rintro ⟨h1, h2⟩ k hk
  exact ⟨h1 _ (List.getElem_mem hk), fun h0 => rises_get h2 (by omega) hk (by omega)⟩
theorem goodOws_iff (l : List Ow) : goodOws l = true ↔ (∀ o ∈ l, namedB o.name = true ∧ o.paths ≠ [] ∧ goodPaths o.paths = true) ∧ Rises (l.map Ow.name) ∧ l.length ≤ 6 := by
 constructor
 ·intro h
  refine ⟨fun o ho => ?_, goodOws_rises h, ?_⟩
  ·unfold goodOws at h
   rw [Bool.and_eq_true, decide_eq_true_eq] at h
   obtain ⟨i, hi, rfl⟩ := List.getElem_of_mem ho
   exact ⟨(h.1 i hi).1, (h.1 i hi).2.2⟩
  ·unfold goodOws at h
   rw [Bool.and_eq_true, decide_eq_true_eq, decide_eq_true_eq] at h
   exact h.2
 ·rintro ⟨h1, h2, h3⟩
  unfold goodOws
  rw [Bool.and_eq_true, decide_eq_true_eq, decide_eq_true_eq]
  refine ⟨fun i hi => ?_, h3⟩
  obtain ⟨g1, g2, g3⟩ := h1 _ (List.getElem_mem hi)
  refine ⟨g1, fun h0 => ?_, g2, g3⟩
  have := rises_get h2 (i := i - 1) (j := i) (by simp; omega) (by simpa using hi) (by omega)
  simpa using this

/-- No leaf twice. -/
theorem lvs_nodup (x : V) : ∀ (d : Int) (ns : List ByteArray), x.good d = true → (x.lvs ns).Nodup := by
 induction x using V.ind with
 | h x ih =>
  intro d ns hg
  rw [lvs_eq]
  split
  ·simp
  ·rename_i hc
   have h5 : x.k = 5 := Classical.byContradiction fun h => hc (.inl h)
   have hob := sound_obj (good_sound hg) h5
   have hgood : ∀ y ∈ x.l, y.good (d + 1) = true := fun y hy => by
    obtain ⟨i, hi, rfl⟩ := List.getElem_of_mem hy
    exact good_item hg hi
   have key : ∀ (l : List V) (ks : List ByteArray), ks.Nodup → (∀ y ∈ l, y ∈ x.l) → (V.lvs.go l ks ns).Nodup ∧ ∀ q ∈ V.lvs.go l ks ns, ∃ k ∈ ks, ∃ r, q = ns ++ k :: r := by
    intro l
    induction l with
    | nil => intro ks _ _; rw [lgo_nil]; exact ⟨.nil, fun q h => (List.not_mem_nil h).elim⟩
    | cons y l ihl =>
     intro ks hn hm
     cases ks with
     | nil => rw [lgo_nil']; exact ⟨.nil, fun q h => (List.not_mem_nil h).elim⟩
     | cons k ks =>
      obtain ⟨hk, hn⟩ := List.nodup_cons.1 hn
      obtain ⟨h1, h2⟩ := ihl ks hn (fun z hz => hm z (by simp [hz]))
      have hy := hm y (by simp)
      have h3 : ∀ q ∈ y.lvs (ns ++ [k]), ∃ r, q = ns ++ k :: r := fun q hq => by
       obtain ⟨r, hr, -⟩ := lvs_mem y (d + 1) _ (hgood y hy) q hq
       exact ⟨r, by rw [hr]; simp⟩
      rw [lgo_cons]
      refine ⟨List.nodup_append.2 ⟨ih y hy (d + 1) _ (hgood y hy), h1, ?_⟩, fun q hq => ?_⟩
      ·intro a ha b hb e
       subst e
       obtain ⟨r, hr⟩ := h3 _ ha
       obtain ⟨k2, hk2, r2, hr2⟩ := h2 _ hb
       rw [hr] at hr2
       have := List.append_cancel_left hr2
       simp only [List.cons.injEq] at this
       exact hk (this.1 ▸ hk2)
      ·rcases List.mem_append.1 hq with h | h
       ·obtain ⟨r, hr⟩ := h3 _ h
        exact ⟨k, by simp, r, hr⟩
       ·obtain ⟨k2, hk2, r2, hr2⟩ := h2 _ h
        exact ⟨k2, by simp [hk2], r2, hr2⟩
   exact (key _ _ hob.nodup (fun _ h => h)).1
theorem leaves_good (x : V) : goodPaths x.leaves = true := by
 rw [goodPaths_iff]
 refine ⟨fun p hp => ?_, ?_⟩
 ·obtain ⟨-, -, r, -, hn, hne, -⟩ := leaf_at hp
  unfold pathB
  rw [hn]
  simpa using hne
 ·have hnd : x.leaves.Nodup := by
   unfold V.leaves
   split
   ·rename_i hc
    refine (sortB_perm _).nodup_iff.2 ?_
    unfold List.Nodup
    rw [List.pairwise_map]
    have h0 := lvs_nodup x 1 [] (fine_good hc.1)
    refine List.Pairwise.imp_of_mem (fun {a b} ha hb hne e => hne ?_) h0
    have hnames : ∀ q ∈ x.lvs [], namesB (joinB q) = some q := fun q hq => by
     obtain ⟨r, hqr, -, hlen, hp⟩ := lvs_mem x 1 [] (fine_good hc.1) q hq
     rw [List.nil_append] at hqr
     subst hqr
     exact names_join_b (by have := joinL_len q (fun a ha => plain_size (hp a ha)); omega)
    have h1 := hnames a ha
    rw [e, hnames b hb] at h1
    exact (Option.some.inj h1).symm
   ·exact .nil
  have hs : Sorted x.leaves := by
   unfold V.leaves
   split
   ·exact sortB_sorted _
   ·exact .nil
  refine (hs.and hnd).imp fun {a b} h => ?_
  rcases ltS_tri a b with e | e | e
  ·exact e
  ·exact absurd e h.2
  ·rw [h.1] at e; cases e
theorem paths_self {os : List Ow} {who : ByteArray} {ps : List ByteArray} (h : ∀ o ∈ os, o.name ≠ who) : pathsOfL (insO os who ps) who = ps := by
 have hno : ∀ l : List Ow, (∀ o ∈ l, o.name ≠ who) → l.find? (fun o => decide (o.name = who)) = none := fun l hl => List.find?_eq_none.2 fun o ho => by simpa using hl o ho
 unfold insO
 split
 ·rename_i he
  unfold pathsOfL
  rw [hno os h, he]
 ·unfold pathsOfL
  rw [List.find?_append, hno _ (fun o ho => h o (List.mem_of_mem_take ho)), List.find?_cons, decide_eq_true (show (⟨who, ps⟩ : Ow).name = who from rfl)]
  rfl
theorem ins_mem {os : List Ow} {who : ByteArray} {ps : List ByteArray} {o : Ow} (h : o ∈ insO os who ps) : o ∈ os ∨ (o = ⟨who, ps⟩ ∧ ps ≠ []) := by
 unfold insO at h
 split at h
 ·exact .inl h
 ·rename_i hne
  rcases List.mem_append.1 h with h | h
  ·exact .inl (List.mem_of_mem_take h)
  ·rcases List.mem_cons.1 h with h | h
   ·exact .inr ⟨h, hne⟩
   ·exact .inl (List.mem_of_mem_drop h)
theorem others_name {v want : V} {who : ByteArray} {l : List Ow} : ∀ o ∈ othersL v want who l, o.name ≠ who := fun o h => by
 obtain ⟨-, -, -, h, -⟩ := others_mem h
 exact h
theorem hasB_mem {ks : List ByteArray} {key : ByteArray} (h : key ∉ ks) : hasB ks key = false := by
 cases hb : hasB ks key with
 | false => rfl
 | true => exact absurd (by have := hasB_at hb; rw [← this]; exact List.getElem_mem _) h
theorem ins_rises {os : List Ow} {who : ByteArray} {ps : List ByteArray} (h : ∀ o ∈ os, o.name ≠ who) (hr : Rises (os.map Ow.name)) : Rises ((insO os who ps).map Ow.name) := by
 unfold insO
 split
 ·exact hr
 ·have := rises_insert hr (key := who) (hasB_mem (fun hm => by
   obtain ⟨o, ho, e⟩ := List.mem_map.1 hm
   exact h o ho e))
  unfold posO
  rw [List.map_append, List.map_take, List.map_cons, List.map_drop]
  exact this
theorem filter_ins {os : List Ow} {who : ByteArray} {ps : List ByteArray} (h : ∀ o ∈ os, o.name ≠ who) : (insO os who ps).filter (fun o => decide (o.name ≠ who)) = os := by
 have hall : ∀ l : List Ow, (∀ o ∈ l, o.name ≠ who) → l.filter (fun o => decide (o.name ≠ who)) = l := fun l hl => List.filter_eq_self.2 fun o ho => by simpa using hl o ho
 unfold insO
 split
 ·exact hall os h
 ·rw [List.filter_append, List.filter_cons, if_neg (by simp), hall _ (fun o ho => h o (List.mem_of_mem_take ho)), hall _ (fun o ho => h o (List.mem_of_mem_drop ho)), List.take_append_drop]
theorem old_none {who : ByteArray} : ∀ (l : List Ow) (a : List ByteArray), (∀ o ∈ l, o.name ≠ who) → l.foldl (fun old o => if o.name = who then o.paths else old) a = a
 | [], _, _ => rfl
 | o :: r, a, h => by rw [List.foldl_cons, if_neg (h o (by simp)), old_none r a (fun o ho => h o (by simp [ho]))]
theorem old_ins {os : List Ow} {who : ByteArray} {ps : List ByteArray} (h : ∀ o ∈ os, o.name ≠ who) : oldL who (insO os who ps) = ps := by
 unfold oldL insO
 split
 ·rename_i he
  rw [old_none _ _ h, he]
 ·rw [List.foldl_append, old_none _ _ (fun o ho => h o (List.mem_of_mem_take ho)), List.foldl_cons, if_pos (show (⟨who, ps⟩ : Ow).name = who from rfl), old_none _ _ (fun o ho => h o (List.mem_of_mem_drop ho))]
theorem drops_none {paths : List ByteArray} {out : List Ow} : ∀ (ps : List ByteArray) (v : V), (∀ p ∈ ps, p ∈ paths) → ps.foldl (dropStep paths out) v = v
 | [], _, _ => rfl
 | p :: ps, v, h => by
  rw [List.foldl_cons]
  have : dropStep paths out v p = v := by
   unfold dropStep
   rw [if_neg]
   intro hc
   have : inB paths p = true := by unfold inB; exact List.any_eq_true.2 ⟨p, h p (by simp), by simp⟩
   rw [this] at hc
   cases hc.1
  rw [this]
  exact drops_none ps v (fun q hq => h q (by simp [hq]))
theorem drop_k : ∀ (l : List ByteArray) {v : V}, v.sound → v.k = 5 → (dropV l v).k = 5
 | [], _, _, h => h
 | a :: r, v, hv, h => by
  have hob := sound_obj hv h
  rw [dropV]
  split
  ·exact h
  ·split
   ·exact (hob.del a).k5
   ·split
    ·exact (hob.del a).k5
    ·exact (hob.put a _).k5
theorem drops_k {paths : List ByteArray} {out : List Ow} : ∀ (ps : List ByteArray) {v : V}, v.sound → v.k = 5 → (ps.foldl (dropStep paths out) v).k = 5
 | [], _, _, h => h
 | p :: ps, v, hv, h => by
  rw [List.foldl_cons]
  refine drops_k ps (dropStep_keeps paths out hv p).1 ?_
  unfold dropStep
  split
  ·exact drop_k _ hv h
  ·exact h
theorem sets_k {want : V} : ∀ (ps : List ByteArray) {v : V}, (∀ q ∈ ps, q ∈ want.leaves) → v.sound → v.k = 5 → (ps.foldl (setStep want) v).k = 5
 | [], _, _, _, h => h
 | p :: ps, v, hl, hv, _ => by
  rw [List.foldl_cons]
  obtain ⟨h1, h2, -⟩ := setStep_keeps hv (hl p (by simp))
  exact sets_k ps (fun q hq => hl q (by simp [hq])) h1 h2
/-- What is in the way depends on what stands there alone. -/
theorem way_there {v w want : V} {q : ByteArray} : ∀ (ls : List ByteArray), wayL v want q ls = false → (∀ p ∈ ls, ∃ y, findV w p = some y ∧ likeB y ((findV want p).getD V.zero) = true) → wayL w want q ls = false
 | [], _, _ => rfl
 | p :: r, h, hw => by
  rw [show wayL v want q (p :: r) = if (aboveB p q || aboveB q p) = true then true else if p = q then (match findV v p with | none => true | some now => !likeB now ((findV want p).getD V.zero)) else wayL v want q r from rfl] at h
  rw [show wayL w want q (p :: r) = if (aboveB p q || aboveB q p) = true then true else if p = q then (match findV w p with | none => true | some now => !likeB now ((findV want p).getD V.zero)) else wayL w want q r from rfl]
  split at h
  ·cases h
  ·rename_i ha
   rw [if_neg ha]
   by_cases hpq : p = q
   ·rw [if_pos hpq]
    obtain ⟨y, h1, h2⟩ := hw p (by simp)
    rw [h1]
    simp [h2]
   ·rw [if_neg hpq] at h ⊢
    exact way_there r h (fun p hp => hw p (by simp [hp]))
theorem getP_go {x y : V} {p : ByteArray} (hf : x.fine = true) {r : List ByteArray} (hr : namesB p = some r) (h : goV r x = some y) : getP x p = (y, 0) := by
 unfold getP
 rw [hr]
 simp only
 rw [if_neg (by rw [hf]; simp), go_get r (fine_sound hf) h]

theorem obj_form {y : V} (h : y.sound) (h5 : y.k = 5) : ∃ ks l, y = .mk 5 0 ⟨#[]⟩ ks l ∧ ks.length = l.length := by
 have hob := sound_obj h h5
 obtain ⟨k, n, s, ks, l⟩ := y
 exact ⟨ks, l, by have a := hob.k5; have b := hob.n0; have c := hob.s0; simp only [V.k_mk, V.n_mk, V.s_mk] at a b c; rw [a, b, c], hob.len⟩
/-- One leaf where another is wanted: the same, or both objects. -/
def LeafLike (x y : V) : Prop := y = x ∨ (x = .mk 5 0 ⟨#[]⟩ [] [] ∧ ∃ ks l, y = .mk 5 0 ⟨#[]⟩ ks l ∧ 0 < ks.length)
theorem leafLike_of {x y : V} (hx : x.sound) (hy : y.sound) (hxl : x.k = 5 → x.l = []) (h : likeB y x = true) : LeafLike x y := by
 rcases like_true h with ⟨h1, h2⟩ | h1
 ·obtain ⟨ks, l, rfl, hl⟩ := obj_form hx h2
  obtain ⟨js, m, rfl, hm⟩ := obj_form hy h1
  have e : l = [] := hxl h2
  subst e
  obtain rfl : ks = [] := List.length_eq_zero_iff.1 hl
  by_cases hj : 0 < js.length
  ·exact .inr ⟨rfl, js, m, rfl, hj⟩
  ·obtain rfl : js = [] := List.length_eq_zero_iff.1 (by omega)
   obtain rfl : m = [] := List.length_eq_zero_iff.1 (by rw [← hm]; rfl)
   exact .inl rfl
 ·exact .inl h1

/-- WHAT IS WANTED IS THERE. -/
theorem has_law {v : V} {l : List Ow} {who : ByteArray} {want w : V} {force : Bool} {m : List Ow} {c : List (ByteArray × ByteArray)} (h : applyV v l who want force = (w, m, c, 0)) :
  pathsOfL m who = want.leaves ∧ goodOws m = true ∧ w.fine = true ∧ (∀ p ∈ want.leaves, ∃ x y, getP want p = (x, 0) ∧ getP w p = (y, 0) ∧ LeafLike x y ∧ x.size ≤ 14640 ∧ y.size ≤ 14640) ∧ applyV w m who want false = (w, m, [], 0) := by
 obtain ⟨hb, hc, rfl, rfl, hwf, hm6, -⟩ := apply_ok h
 obtain ⟨hvf, hwantf, hv5, hw5, hgl, hwho⟩ := form_parts hb
 have hon := others_name (v := v) (want := want) (who := who) (l := l)
 have hor := others_rises (v := v) (want := want) (who := who) (goodOws_rises hgl)
 obtain ⟨hds, hdc⟩ := drops_keep want.leaves (othersL v want who l) (oldL who l) (fine_sound hvf)
 have hdk := drops_k (paths := want.leaves) (out := othersL v want who l) (oldL who l) (fine_sound hvf) hv5
 have hthere : ∀ p ∈ want.leaves, ∃ y, findV (nextV v l who want) p = some y ∧ likeB y ((findV want p).getD V.zero) = true := fun p hp => sets_there want.leaves hp (fun _ h => h) hds
 have hwk : (nextV v l who want).k = 5 := sets_k want.leaves (fun _ h => h) hds hdk
 have hself : pathsOfL (outL v l who want) who = want.leaves := paths_self hon
 have hgood : goodOws (outL v l who want) = true := by
  rw [goodOws_iff]
  refine ⟨fun o ho => ?_, ins_rises hon hor, hm6⟩
  rcases ins_mem ho with ho | ⟨rfl, hne⟩
  ·obtain ⟨o', h1, h2, h3, -, h5, h6⟩ := others_mem ho
   obtain ⟨g1, g2, g3⟩ := ((goodOws_iff l).1 hgl).1 o' h1
   obtain ⟨g4, g5⟩ := (goodPaths_iff _).1 g3
   refine ⟨by rw [← h2]; exact g1, h5, (goodPaths_iff _).2 ⟨fun p hp => ?_, ?_⟩⟩
   ·rw [h6] at hp
    exact g4 p (List.mem_filter.1 hp).1
   ·rw [h6]
    exact g5.sublist List.filter_sublist
  ·exact ⟨hwho, hne, leaves_good want⟩
 refine ⟨hself, hgood, hwf, fun p hp => ?_, ?_⟩
 ·obtain ⟨-, -, r, -, hn, -, -, -, x, hx, hfx, hxl⟩ := leaf_at hp
  obtain ⟨y, hy, hk⟩ := hthere p hp
  rw [hfx, Option.getD_some] at hk
  have hy2 : goV r (nextV v l who want) = some y := by unfold findV namesD at hy; rw [hn] at hy; exact hy
  have z1 := fine_size hwantf
  have z2 := fine_size hwf
  have z3 := go_size r hx
  have z4 := go_size r hy2
  exact ⟨x, y, getP_go hwantf hn hx, getP_go hwf hn hy2, leafLike_of (go_sound r (fine_sound hwantf) hx) (go_sound r (fine_sound hwf) hy2) hxl hk, by omega, by omega⟩
 ·have hform : formB (nextV v l who want) (outL v l who want) who want = true := by
   unfold formB
   rw [hwf, hwantf, hgood, hwho, decide_eq_true hwk, decide_eq_true hw5]; rfl
  have hway : ∀ o ∈ othersL v want who l, ∀ q ∈ o.paths, wayB (nextV v l who want) want q = false := fun o ho q hq => by
   obtain ⟨_, -, -, -, h3, -⟩ := others_mem ho
   exact way_there want.leaves (h3 q hq).2 hthere
  have hconf : confL (nextV v l who want) (outL v l who want) who want = [] := by
   unfold confL
   refine List.flatMap_eq_nil_iff.2 fun o ho => ?_
   unfold confO
   split
   ·rfl
   ·rename_i hne
    rw [List.map_eq_nil_iff, List.filter_eq_nil_iff]
    intro q hq
    rcases ins_mem ho with ho | ⟨rfl, -⟩
    ·rw [hway o ho q hq]; simp
    ·exact absurd rfl hne
  have hoth : othersL (nextV v l who want) want who (outL v l who want) = othersL v want who l := by
   have : ∀ (l2 : List Ow), (∀ o ∈ l2, o ∈ othersL v want who l) → l2.filterMap (keepO fun q => !wayB (nextV v l who want) want q) = l2 := by
    intro l2
    induction l2 with
    | nil => intro _; rfl
    | cons o r ih =>
     intro hl2
     have ho := hl2 o (by simp)
     obtain ⟨-, -, -, -, -, hne, -⟩ := others_mem ho
     have hfil : (o.paths.filter fun q => !wayB (nextV v l who want) want q) = o.paths := List.filter_eq_self.2 fun q hq => by rw [hway o ho q hq]; rfl
     have hk : keepO (fun q => !wayB (nextV v l who want) want q) o = some o := by
      unfold keepO
      rw [hfil, if_neg hne]
     rw [List.filterMap_cons, hk, ih (fun o' ho' => hl2 o' (by simp [ho']))]
   rw [show othersL (nextV v l who want) want who (outL v l who want) = ((outL v l who want).filter fun o => decide (o.name ≠ who)).filterMap (keepO fun q => !wayB (nextV v l who want) want q) from rfl, show outL v l who want = insO (othersL v want who l) who want.leaves from rfl, filter_ins hon]
   exact this _ (fun _ h => h)
  have hout : outL (nextV v l who want) (outL v l who want) who want = outL v l who want := by
   rw [show outL (nextV v l who want) (outL v l who want) who want = insO (othersL (nextV v l who want) want who (outL v l who want)) who want.leaves from rfl, hoth]
   rfl
  have hnext : nextV (nextV v l who want) (outL v l who want) who want = nextV v l who want := by
   rw [show nextV (nextV v l who want) (outL v l who want) who want = want.leaves.foldl (setStep want) ((oldL who (outL v l who want)).foldl (dropStep want.leaves (othersL (nextV v l who want) want who (outL v l who want))) (nextV v l who want)) from rfl,
    show oldL who (outL v l who want) = want.leaves from old_ins hon, drops_none _ _ (fun _ h => h)]
   exact sets_same want.leaves (fine_sound hwf) (fun q hq => ⟨hq, hthere q hq⟩)
  unfold applyV
  rw [if_neg (by rw [hform]; simp), if_neg (by rw [hconf]; simp), hnext, hout, if_neg (by rw [hwf]; simp; omega)]
theorem filter_total (f : Ow → Bool) (l : List Ow) : owsSize (l.filter f) ≤ owsSize l := by
 induction l with
 | nil => simp
 | cons o r ih =>
  unfold owsSize at ih ⊢
  rw [List.filter_cons]
  split
  ·simp only [List.map_cons, List.sum_cons]; omega
  ·simp only [List.map_cons, List.sum_cons]; omega
theorem keep_total (f : ByteArray → Bool) (l : List Ow) : owsSize (l.filterMap (keepO f)) ≤ owsSize l := by
 induction l with
 | nil => simp
 | cons o r ih =>
  unfold owsSize at ih ⊢
  rw [List.filterMap_cons]
  have hs := filter_size f o.paths
  unfold keepO at ih ⊢
  by_cases hk : o.paths.filter f = []
  ·simp only [hk, if_true, List.map_cons, List.sum_cons]; omega
  ·simp only [hk, if_false, List.map_cons, List.sum_cons]
   unfold Ow.size at ih ⊢
   simp only
   omega
theorem strs_total {B : Nat} : ∀ (l : List ByteArray), (∀ p ∈ l, p.size ≤ B) → strsSize l ≤ l.length * (B + 1)
 | [], _ => by simp [strsSize]
 | p :: r, h => by
  have h1 := strs_total r (fun q hq => h q (by simp [hq]))
  have h2 := h p (by simp)
  unfold strsSize at h1 ⊢
  rw [List.map_cons, List.sum_cons, List.length_cons, Nat.add_mul]
  omega
theorem ins_total (os : List Ow) (who : ByteArray) (ps : List ByteArray) : owsSize (insO os who ps) ≤ owsSize os + (1 + who.size + strsSize ps) := by
 unfold insO
 split
 ·omega
 ·have h : owsSize os = owsSize (os.take (posO os who)) + owsSize (os.drop (posO os who)) := by
   conv => lhs; rw [← List.take_append_drop (posO os who) os]
   unfold owsSize
   rw [List.map_append, List.sum_append]
  rw [h]
  unfold owsSize
  rw [List.map_append, List.sum_append, List.map_cons, List.sum_cons]
  unfold Ow.size
  simp only
  omega
theorem out_total {v : V} {l : List Ow} {who : ByteArray} {want : V} (hw : namedB who = true) : owsSize (outL v l who want) ≤ owsSize l + 250000 := by
 have h1 := ins_total (othersL v want who l) who want.leaves
 have h2 : owsSize (othersL v want who l) ≤ owsSize l := Nat.le_trans (keep_total _ _) (filter_total _ _)
 have h3 := strs_total (B := 2000) want.leaves (fun p hp => leaf_size hp)
 have h4 := leaves_len want
 have h5 : want.leaves.length * 2001 ≤ 120 * 2001 := Nat.mul_le_mul_right _ h4
 have h6 : who.size ≤ 12 := by
  unfold namedB at hw
  rw [Bool.and_eq_true, decide_eq_true_eq] at hw
  exact hw.2
 unfold outL
 omega
/-- What comes of an Apply that did not. -/
theorem apply_no {v : V} {l : List Ow} {who : ByteArray} {want w : V} {force : Bool} {m : List Ow} {c : List (ByteArray × ByteArray)} {er : Int} (h : applyV v l who want force = (w, m, c, er)) (h0 : er ≠ 0) :
  w = v ∧ ((er = 5 ∧ c ≠ [] ∧ force = false) ∨ (er ≠ 5 ∧ c = [])) := by
 unfold applyV at h
 split at h
 ·simp only [Prod.mk.injEq] at h
  obtain ⟨rfl, -, rfl, rfl⟩ := h
  exact ⟨rfl, .inr ⟨by decide, rfl⟩⟩
 ·split at h
  ·rename_i hc
   simp only [Prod.mk.injEq] at h
   obtain ⟨rfl, -, rfl, rfl⟩ := h
   exact ⟨rfl, .inl ⟨rfl, hc.1, hc.2⟩⟩
  ·split at h
   ·simp only [Prod.mk.injEq] at h
    obtain ⟨rfl, -, rfl, rfl⟩ := h
    exact ⟨rfl, .inr ⟨by decide, rfl⟩⟩
   ·simp only [Prod.mk.injEq] at h
    exact absurd h.2.2.2.symm h0

open Go.RowKit
attribute [local go_sem ↓] Go.wp_at_zero Go.wp_at_succ
set_option maxHeartbeats 2000000 in
/-- The laws' own same: an empty object and one that is not. -/
theorem same_empty (ks : List ByteArray) (l : List V) (ka : Option Addr) (kc : Nat) (la : Option Addr) (lc : Nat) (kb : Option Addr) (kd : Nat) (lb : Option Addr) (ld : Nat) (w : World) (hk : 0 < ks.length) :
  Calls Tryz.prog 24 #[(V.mk 5 0 ⟨#[]⟩ [] []).val ka kc la lc, (V.mk 5 0 ⟨#[]⟩ ks l).val kb kd lb ld] w fun e w' => e = .returned (.bool false) ∧ Ext w w' := by
 have h1 : ((0 : Int) != (ks.length : Int)) = true := by simp; omega
 have h2 : ((0 : Int) == (ks.length : Int)) = false := by simp; omega
 go_enter Tryz.func24, Tryz.ntmps24
 go_wp2_with fail
 go_ret
 exact ⟨rfl, Xt⟩
end Go.Proofs.YtjibdbnpkfghhaaGreatDoor
