/- Plain laws of the reference's merged and differ: what is gathered behind k rounds; it is what the program's merge and diff gather. No program in sight. -/
import Derived.Test.YtnbappeiebameaaGreatDoorPkA
import Derived.Test.YtnbappeiebameaaGreatDoorPkC
set_option linter.all false
namespace Go.Proofs.YtnbappeiebameaaGreatDoor

/-- One member of v that p does not name. -/
def V.kstep (p : V) (k : ByteArray) (x out : V) : V := match p.member k with | none => out.put k x | some _ => out
def keepL (p : V) : List ByteArray → List V → V → V
  | k :: ks, x :: l, out => keepL p ks l (p.kstep k x out)
  | _, _, out => out
/-- One member of p. -/
def V.pstep (v : V) (k : ByteArray) (q out : V) : V := if q.k = 0 then out else out.put k (q.mrg (v.memD k))
def putL (v : V) : List ByteArray → List V → V → V
  | k :: ks, q :: l, out => putL v ks l (v.pstep k q out)
  | _, _, out => out
theorem keepL_snoc (p : V) : ∀ (ks : List ByteArray) (l : List V) (k : ByteArray) (x out : V), ks.length = l.length → keepL p (ks ++ [k]) (l ++ [x]) out = p.kstep k x (keepL p ks l out)
  | [], [], _, _, _, _ => rfl
  | [], _ :: _, _, _, _, h => by simp at h
  | _ :: _, [], _, _, _, h => by simp at h
  | a :: ks, y :: l, k, x, out, h => by
    simp only [List.cons_append, keepL]
    exact keepL_snoc p ks l k x _ (by simpa using h)
theorem putL_snoc (v : V) : ∀ (ks : List ByteArray) (l : List V) (k : ByteArray) (x out : V), ks.length = l.length → putL v (ks ++ [k]) (l ++ [x]) out = v.pstep k x (putL v ks l out)
  | [], [], _, _, _, _ => rfl
  | [], _ :: _, _, _, _, h => by simp at h
  | _ :: _, [], _, _, _, h => by simp at h
  | a :: ks, y :: l, k, x, out, h => by
    simp only [List.cons_append, putL]
    exact putL_snoc v ks l k x _ (by simpa using h)
theorem keepL_next {p v : V} {out acc : V} {k : Nat} (h1 : k < v.l.length) (h2 : k < v.keys.length) (h : keepL p (v.keys.take k) (v.l.take k) out = acc) : keepL p (v.keys.take (k + 1)) (v.l.take (k + 1)) out = p.kstep v.keys[k] v.l[k] acc := by
  rw [List.take_succ_eq_append_getElem h1, List.take_succ_eq_append_getElem h2, keepL_snoc _ _ _ _ _ _ (by simp; omega), h]
theorem putL_next {p v : V} {out acc : V} {k : Nat} (h1 : k < p.l.length) (h2 : k < p.keys.length) (h : putL v (p.keys.take k) (p.l.take k) out = acc) : putL v (p.keys.take (k + 1)) (p.l.take (k + 1)) out = v.pstep p.keys[k] p.l[k] acc := by
  rw [List.take_succ_eq_append_getElem h1, List.take_succ_eq_append_getElem h2, putL_snoc _ _ _ _ _ _ (by simp; omega), h]
theorem keepL_spec (p : V) : ∀ (ks : List ByteArray) (l : List V) (out : V), VObj out → ks.length = l.length → ks.Nodup → VObj (keepL p ks l out) ∧ ∀ k', (keepL p ks l out).member k' = match lk ks l k' with
    | some x => (match p.member k' with | none => some x | some _ => out.member k') | none => out.member k'
  | [], l, out, h, _, _ => ⟨h, fun k' => by simp [keepL, lk]⟩
  | _ :: _, [], _, _, h, _ => by simp at h
  | k :: ks, x :: l, out, h, hl, hn => by
    have ho : VObj (p.kstep k x out) := by unfold V.kstep; split; exact h.put _ _; exact h
    obtain ⟨i1, i2⟩ := keepL_spec p ks l (p.kstep k x out) ho (by simpa using hl) (List.nodup_cons.1 hn).2
    refine ⟨by rw [keepL]; exact i1, fun k' => ?_⟩
    rw [keepL, i2, lk]
    by_cases e : k = k'
    · subst e
      rw [lk_none ks l (List.nodup_cons.1 hn).1, if_pos rfl]
      simp only
      unfold V.kstep
      cases hm : p.member k with
      | none => simp only; rw [member_put h, if_pos rfl]
      | some q => rfl
    · rw [if_neg e]
      have : (p.kstep k x out).member k' = out.member k' := by
        unfold V.kstep
        cases hm : p.member k with
        | none => simp only; rw [member_put h, if_neg e]
        | some q => rfl
      rw [this]
theorem putL_spec (v : V) : ∀ (ks : List ByteArray) (l : List V) (out : V), VObj out → ks.length = l.length → ks.Nodup → VObj (putL v ks l out) ∧ ∀ k', (putL v ks l out).member k' = match lk ks l k' with
    | some q => if q.k = 0 then out.member k' else some (q.mrg (v.memD k')) | none => out.member k'
  | [], l, out, h, _, _ => ⟨h, fun k' => by simp [putL, lk]⟩
  | _ :: _, [], _, _, h, _ => by simp at h
  | k :: ks, x :: l, out, h, hl, hn => by
    have ho : VObj (v.pstep k x out) := by unfold V.pstep; split; exact h; exact h.put _ _
    obtain ⟨i1, i2⟩ := putL_spec v ks l (v.pstep k x out) ho (by simpa using hl) (List.nodup_cons.1 hn).2
    refine ⟨by rw [putL]; exact i1, fun k' => ?_⟩
    rw [putL, i2, lk]
    by_cases e : k = k'
    · subst e
      rw [lk_none ks l (List.nodup_cons.1 hn).1, if_pos rfl]
      simp only
      unfold V.pstep
      by_cases h0 : x.k = 0
      · rw [if_pos h0, if_pos h0]
      · rw [if_neg h0, if_neg h0, member_put h, if_pos rfl]
    · rw [if_neg e]
      have : (v.pstep k x out).member k' = out.member k' := by
        unfold V.pstep
        by_cases h0 : x.k = 0
        · rw [if_pos h0]
        · rw [if_neg h0, member_put h, if_neg e]
      rw [this]
/-- What is kept of v: all that p does not name. -/
def V.kept (p v : V) : V := if v.k = 5 then keepL p v.keys v.l V.none5 else V.none5
theorem kept_spec {p v : V} (hv : v.sound) : VObj (p.kept v) ∧ ∀ k', (p.kept v).member k' = match p.member k' with | none => v.base.member k' | some _ => none := by
  unfold V.kept
  by_cases h5 : v.k = 5
  · have o := sound_obj hv h5
    rw [if_pos h5, base_of h5]
    obtain ⟨i1, i2⟩ := keepL_spec p v.keys v.l V.none5 none5_obj o.len o.nodup
    refine ⟨i1, fun k' => ?_⟩
    rw [i2, o.member]
    cases lk v.keys v.l k' <;> cases p.member k' <;> simp [member_none5]
  · rw [if_neg h5, base_not h5]
    refine ⟨none5_obj, fun k' => ?_⟩
    cases p.member k' <;> simp [member_none5]
theorem mrg_ref {p v : V} (hp : p.sound) (hv : v.sound) (h5 : p.k = 5) : putL v p.keys p.l (p.kept v) = p.mrg v := by
  have o := sound_obj hp h5
  obtain ⟨k1, k2⟩ := kept_spec (p := p) hv
  obtain ⟨i1, i2⟩ := putL_spec v p.keys p.l (p.kept v) k1 o.len o.nodup
  obtain ⟨m1, m2⟩ := mrg_obj hp hv h5
  refine obj_ext i1 m1 fun k => ?_
  rw [i2, m2, k2, ← o.member]
  cases hm : p.member k with
  | none => rfl
  | some q =>
    simp only
    have hd : v.memD k = (v.base.member k).getD V.zero := by
      unfold V.memD
      by_cases h : v.k = 5
      · rw [base_of h]
      · rw [base_not h, member_not5 h, member_none5]
    rw [hd]
/-- How great it may be. -/
theorem put_count_le {x : V} (h : VObj x) (key : ByteArray) (y : V) : (x.put key y).count ≤ x.count + y.count := by have := count_put h key y; omega
theorem kstep_facts {p x acc : V} {k : ByteArray} (ha : acc.sound) (h5 : acc.k = 5) (hx : x.sound) (hk : plainB k = true) : (p.kstep k x acc).sound ∧ (p.kstep k x acc).k = 5 ∧ (p.kstep k x acc).count ≤ acc.count + x.count := by
  unfold V.kstep
  have o := sound_obj ha h5
  split
  · exact ⟨put_sound ha hx hk h5, (o.put _ _).k5, put_count_le o _ _⟩
  · exact ⟨ha, h5, by omega⟩
theorem pstep_facts {v q acc : V} {k : ByteArray} (hv : v.sound) (ha : acc.sound) (h5 : acc.k = 5) (hq : q.sound) (hk : plainB k = true) : (v.pstep k q acc).sound ∧ (v.pstep k q acc).k = 5 ∧ (v.pstep k q acc).count ≤ acc.count + q.count + v.count := by
  unfold V.pstep
  have o := sound_obj ha h5
  have hm : (v.memD k).sound := getD_sound hv k
  split
  · exact ⟨ha, h5, by omega⟩
  · have h1 := mrg_sound q hq _ hm
    have h2 := mrg_count q hq _ hm
    have h3 := put_count_le o k (q.mrg (v.memD k))
    have h4 : (v.memD k).count ≤ v.count := by
      unfold V.memD
      cases h : v.member k with
      | none => have := v.count_pos; rw [Option.getD_none, V.count_eq V.zero]; simpa [V.zero] using this
      | some y => have := sum_ge V.count (member_mem h); rw [Option.getD_some, V.count_eq v]; omega
    refine ⟨put_sound ha h1 hk h5, (o.put _ _).k5, ?_⟩
    split at h2 <;> omega
/-- A member of b, beside a's. -/
def V.fstep (a b : V) (k : ByteArray) (out : V) : V := match b.member k with
  | none => out.put k V.zero
  | some y => match a.member k with
    | none => out.put k y
    | some x => if x.same y = true then out else out.put k (y.dif x)
def difL (a b : V) : List ByteArray → V → V
  | k :: ks, out => difL a b ks (a.fstep b k out)
  | [], out => out
theorem difL_snoc (a b : V) : ∀ (ks : List ByteArray) (k : ByteArray) (out : V), difL a b (ks ++ [k]) out = a.fstep b k (difL a b ks out)
  | [], _, _ => rfl
  | c :: ks, k, out => by simp only [List.cons_append, difL]; exact difL_snoc a b ks k _
theorem difL_next {a b : V} {ks : List ByteArray} {out acc : V} {k : Nat} (h : k < ks.length) (e : difL a b (ks.take k) out = acc) : difL a b (ks.take (k + 1)) out = a.fstep b ks[k] acc := by
  rw [List.take_succ_eq_append_getElem h, difL_snoc, e]
theorem fstep_obj {a b out : V} (h : VObj out) (k : ByteArray) : VObj (a.fstep b k out) := by
  unfold V.fstep
  split
  · exact h.put _ _
  · split
    · exact h.put _ _
    · split
      · exact h
      · exact h.put _ _
/-- What a member becomes. -/
def V.fmem (a b : V) (k : ByteArray) (o : Option V) : Option V := match b.member k with
  | none => some V.zero
  | some y => match a.member k with
    | none => some y
    | some x => if x.same y = true then o else some (y.dif x)
theorem fmem_twice (a b : V) (k : ByteArray) (o : Option V) : a.fmem b k (a.fmem b k o) = a.fmem b k o := by
  unfold V.fmem
  cases b.member k with
  | none => rfl
  | some y =>
    cases a.member k with
    | none => rfl
    | some x => simp only; split <;> rfl
theorem fstep_member {a b out : V} (h : VObj out) (k k' : ByteArray) : (a.fstep b k out).member k' = if k = k' then a.fmem b k (out.member k') else out.member k' := by
  unfold V.fstep V.fmem
  cases b.member k with
  | none => simp only; rw [member_put h]
  | some y =>
    cases a.member k with
    | none => simp only; rw [member_put h]
    | some x =>
      simp only
      by_cases hs : x.same y = true
      · rw [if_pos hs, if_pos hs]; split <;> rfl
      · rw [if_neg hs, if_neg hs, member_put h]
theorem difL_spec (a b : V) : ∀ (ks : List ByteArray) (out : V), VObj out → VObj (difL a b ks out) ∧ ∀ k', (k' ∈ ks → (difL a b ks out).member k' = a.fmem b k' (out.member k')) ∧ (k' ∉ ks → (difL a b ks out).member k' = out.member k')
  | [], out, h => ⟨h, fun k' => ⟨fun hm => (by cases hm), fun _ => rfl⟩⟩
  | k :: ks, out, h => by
    obtain ⟨i1, i2⟩ := difL_spec a b ks (a.fstep b k out) (fstep_obj h k)
    refine ⟨i1, fun k' => ⟨fun hm => ?_, fun hm => ?_⟩⟩
    · rw [difL]
      by_cases e : k = k'
      · subst e
        by_cases hk : k ∈ ks
        · rw [(i2 k).1 hk, fstep_member h, if_pos rfl, fmem_twice]
        · rw [(i2 k).2 hk, fstep_member h, if_pos rfl]
      · rcases List.mem_cons.1 hm with h1 | h1
        · exact absurd h1.symm e
        · rw [(i2 k').1 h1, fstep_member h, if_neg e]
    · simp only [List.mem_cons, not_or] at hm
      rw [difL, (i2 k').2 hm.2, fstep_member h, if_neg (fun e => hm.1 e.symm)]
theorem dif_ref {a b : V} (ha : a.sound) (hb : b.sound) (a5 : a.k = 5) (b5 : b.k = 5) : difL a b (a.keys ++ b.keys) V.none5 = b.dif a := by
  have oa := sound_obj ha a5
  have ob := sound_obj hb b5
  obtain ⟨i1, i2⟩ := difL_spec a b (a.keys ++ b.keys) V.none5 none5_obj
  obtain ⟨m1, m2⟩ := dif_obj hb ha b5 a5
  refine obj_ext i1 m1 fun k => ?_
  rw [m2]
  have i2 := i2 k
  rw [member_none5] at i2
  have hin : k ∈ a.keys ++ b.keys ↔ (a.member k ≠ none ∨ b.member k ≠ none) := by rw [List.mem_append, oa.keys_iff, ob.keys_iff]
  unfold V.fmem at i2
  cases hbm : b.member k with
  | none =>
    cases ham : a.member k with
    | none => rw [i2.2 (by rw [hin, ham, hbm]; simp)]; simp
    | some x => rw [i2.1 (by rw [hin, ham]; simp), hbm]; simp
  | some y =>
    rw [i2.1 (by rw [hin, hbm]; simp), hbm]
    cases ham : a.member k <;> rfl
theorem fstep_facts {a b acc : V} {k : ByteArray} (ha : a.sound) (hb : b.sound) (hac : a.count ≤ 120) (hbc : b.count ≤ 120) (h : acc.sound) (h5 : acc.k = 5) (hk : plainB k = true) : (a.fstep b k acc).sound ∧ (a.fstep b k acc).k = 5 ∧ (a.fstep b k acc).count ≤ acc.count + 14520 := by
  have o := sound_obj h h5
  have hz : V.zero.count = 1 := by rw [V.count_eq]; simp [V.zero]
  unfold V.fstep
  cases hbm : b.member k with
  | none =>
    have := put_count_le o k V.zero
    exact ⟨put_sound h zero_sound hk h5, (o.put _ _).k5, by simp only; omega⟩
  | some y =>
    have hy := member_sound hb hbm
    have hyc : y.count ≤ 120 := by have := sum_ge V.count (member_mem hbm); rw [V.count_eq b] at hbc; omega
    cases ham : a.member k with
    | none =>
      have := put_count_le o k y
      exact ⟨put_sound h hy hk h5, (o.put _ _).k5, by simp only; omega⟩
    | some x =>
      have hx := member_sound ha ham
      have hxc : x.count ≤ 120 := by have := sum_ge V.count (member_mem ham); rw [V.count_eq a] at hac; omega
      obtain ⟨d1, d2⟩ := dif_sound 120 y hy x hx hxc
      have h3 := put_count_le o k (y.dif x)
      simp only
      split
      · exact ⟨h, h5, by omega⟩
      · exact ⟨put_sound h d1 hk h5, (o.put _ _).k5, by omega⟩
theorem member_count {v y : V} {k : ByteArray} (h : v.member k = some y) : y.count < v.count := by
  have := sum_ge V.count (member_mem h)
  rw [V.count_eq v]; omega
theorem member_size {v y : V} {k : ByteArray} (h : v.member k = some y) : y.size < v.size := V.size_mem (member_mem h)
end Go.Proofs.YtnbappeiebameaaGreatDoor
