/- Towards Apply: its steps said plainly; Contains at texts; rows of owners, cut. -/
import Derived.Test.YtjibdbnpkfghhaaGreatDoorOwX
import Derived.Test.YtjibdbnpkfghhaaGreatDoorSlO
import Derived.Test.YtjibdbnpkfghhaaGreatDoorOwD
set_option linter.all false
namespace Go.Proofs.YtjibdbnpkfghhaaGreatDoor
open Go.RowKit
attribute [local go_sem ↓] Go.wp_at_zero Go.wp_at_succ
theorem inB_eq (ks : List ByteArray) (p : ByteArray) : (ks.any fun y => p.toList == y.toList) = inB ks p := by
  unfold inB
  congr 1
  funext q
  by_cases h : p = q
  · rw [decide_eq_true h]; exact eqb_of h
  · rw [decide_eq_false h]; exact neb_of h
theorem containsS_any (ks : List ByteArray) (p : ByteArray) (a : Option Addr) (n c : Nat) (S : Nat → Prop) (w : World) (hn : ks.length = n) (hbig : n ≤ 1073741824) (hst : StrsIn w S a ks) :
    Calls Tryz.prog 51 #[.slice a n c, .string p] w fun e w' => e = .returned (.bool (inB ks p)) ∧ w = w' := by
  subst hn
  rcases hst with h | ⟨b, o, rfl, -, hc⟩
  · subst h
    refine (Tryz.slices_Contains_empty (α := ByteArray) a c (.string p) w).mono ?_
    rintro e w' ⟨rfl, rfl⟩
    exact ⟨rfl, rfl⟩
  · refine (Tryz.slices_Contains Value.string (fun x y => x.toList == y.toList) (EqlAt.string _ _) b o ks.length c ks p w (Nat.le_refl _) (by omega) (fun j hj => by rw [hc j hj, getElem!_pos ks j hj])).mono ?_
    rintro e w' ⟨rfl, rfl⟩
    rw [List.take_length, inB_eq]
    exact ⟨rfl, rfl⟩
theorem OCells.take {w : World} {T : Nat → Prop} : ∀ {l : List Ow} {xs : List Value} (k : Nat), OCells w T l xs → OCells w T (l.take k) (xs.take (k * 2))
  | [], xs, k, h => by have : xs = [] := h; subst this; simp [OCells]
  | x :: r, xs, 0, h => by simp [OCells]
  | x :: r, xs, k + 1, h => by
    obtain ⟨pa, pc, t, rfl, h1, h2⟩ := h
    rw [show (k + 1) * 2 = k * 2 + 1 + 1 by omega]
    exact ⟨pa, pc, t.take (k * 2), by simp, h1, OCells.take k h2⟩
theorem OCells.drop {w : World} {T : Nat → Prop} : ∀ {l : List Ow} {xs : List Value} (k : Nat), OCells w T l xs → OCells w T (l.drop k) (xs.drop (k * 2))
  | [], xs, k, h => by have : xs = [] := h; subst this; simp [OCells]
  | x :: r, xs, 0, h => by simpa using h
  | x :: r, xs, k + 1, h => by
    obtain ⟨pa, pc, t, rfl, h1, h2⟩ := h
    rw [show (k + 1) * 2 = k * 2 + 1 + 1 by omega]
    simp only [List.drop_succ_cons]
    exact OCells.drop k h2
theorem others_take (v want : V) (who : ByteArray) (l : List Ow) {k : Nat} (h : k < l.length) : othersL v want who (l.take (k + 1)) = othersL v want who (l.take k) ++ (if l[k].name = who then [] else match keepO (fun q => !wayB v want q) l[k] with | some x => [x] | none => []) := by
  unfold othersL
  rw [List.take_succ_eq_append_getElem h, List.filter_append, List.filterMap_append]
  congr 1
  by_cases hn : l[k].name = who
  · rw [if_pos hn, List.filter_eq_nil_iff.2 (by simp [hn])]; rfl
  · rw [if_neg hn, List.filter_eq_self.2 (by simp [hn])]
    cases hf : keepO (fun q => !wayB v want q) l[k] <;> simp [hf]
theorem old_take (who : ByteArray) (l : List Ow) {k : Nat} (h : k < l.length) : oldL who (l.take (k + 1)) = if l[k].name = who then l[k].paths else oldL who (l.take k) := by
  unfold oldL
  rw [List.take_succ_eq_append_getElem h, List.foldl_append]
  rfl
theorem others_mem {v want : V} {who : ByteArray} {l : List Ow} {o : Ow} (h : o ∈ othersL v want who l) : ∃ o' ∈ l, o'.name = o.name ∧ o.name ≠ who ∧ (∀ p ∈ o.paths, p ∈ o'.paths ∧ wayB v want p = false) ∧ o.paths ≠ [] ∧ o.paths = o'.paths.filter fun q => !wayB v want q := by
  unfold othersL at h
  obtain ⟨o', ho', hk⟩ := List.mem_filterMap.1 h
  obtain ⟨h1, h2⟩ := List.mem_filter.1 ho'
  unfold keepO at hk
  split at hk
  · cases hk
  · rename_i hne
    simp only [Option.some.injEq] at hk
    subst hk
    exact ⟨o', h1, rfl, by simpa using h2, fun p hp => by
      have := List.mem_filter.1 hp
      exact ⟨this.1, by simpa using this.2⟩, hne, rfl⟩
theorem filter_size (f : ByteArray → Bool) (ps : List ByteArray) : strsSize (ps.filter f) ≤ strsSize ps := by
  induction ps with
  | nil => simp
  | cons p r ih =>
    unfold strsSize at ih ⊢
    rw [List.filter_cons]
    split
    · simp only [List.map_cons, List.sum_cons]; omega
    · simp only [List.map_cons, List.sum_cons]; omega
theorem others_size {v want : V} {who : ByteArray} {l : List Ow} {o : Ow} (h : o ∈ othersL v want who l) : o.size ≤ owsSize l := by
  obtain ⟨o', h1, h2, -, -, -, h3⟩ := others_mem h
  have h4 := owsSize_mem h1
  have h5 := filter_size (fun q => !wayB v want q) o'.paths
  rw [← h3] at h5
  unfold Ow.size at h4 ⊢
  rw [← h2]
  omega
theorem others_len (v want : V) (who : ByteArray) (l : List Ow) : (othersL v want who l).length ≤ l.length := by
  unfold othersL
  have h1 := List.length_filterMap_le (keepO fun q => !wayB v want q) (l.filter fun o => decide (o.name ≠ who))
  have h2 := List.length_filter_le (fun o : Ow => decide (o.name ≠ who)) l
  omega
theorem goodOws_rises {l : List Ow} (h : goodOws l = true) : Rises (l.map Ow.name) := by
  unfold goodOws at h
  rw [Bool.and_eq_true, decide_eq_true_eq] at h
  have key : ∀ (l : List Ow), (∀ i, (h : i < l.length) → 0 < i → ltS (l[i - 1]'(by omega)).name l[i].name = true) → Rises (l.map Ow.name) := by
    intro l hl
    refine List.pairwise_iff_getElem.2 fun i j hi hj hij => ?_
    simp only [List.getElem_map]
    simp only [List.length_map] at hi hj
    obtain ⟨d, rfl⟩ : ∃ d, j = i + 1 + d := ⟨j - i - 1, by omega⟩
    clear hij
    induction d with
    | zero => have := hl (i + 1) hj (by omega); simpa using this
    | succ d ih =>
      have h1 := ih (by omega) (by omega)
      have h2 := hl (i + 1 + (d + 1)) hj (by omega)
      exact ltS_trans h1 h2
  exact key l fun i hi h0 => (h.1 i hi).2.1 h0
theorem rises_sub {a b : List ByteArray} (h : a.Sublist b) (hb : Rises b) : Rises a := hb.sublist h
theorem others_rises {v want : V} {who : ByteArray} {l : List Ow} (h : Rises (l.map Ow.name)) : Rises ((othersL v want who l).map Ow.name) := by
  refine rises_sub ?_ h
  unfold othersL
  have h1 : ((l.filter fun o => decide (o.name ≠ who)).map Ow.name).Sublist (l.map Ow.name) := (List.filter_sublist).map _
  refine List.Sublist.trans ?_ h1
  generalize (l.filter fun o => decide (o.name ≠ who)) = m
  induction m with
  | nil => simp
  | cons o r ih =>
    rw [List.filterMap_cons]
    unfold keepO at ih ⊢
    by_cases hk : (o.paths.filter fun q => !wayB v want q) = []
    · simp only [hk, if_true]
      exact ih.trans (List.sublist_cons_self _ _)
    · simp only [hk, if_false, List.map_cons]
      exact ih.cons_cons _
theorem fold_take {α β : Type} (f : α → β → α) (a : α) (l : List β) {k : Nat} (h : k < l.length) : (l.take (k + 1)).foldl f a = f ((l.take k).foldl f a) l[k] := by
  rw [List.take_succ_eq_append_getElem h, List.foldl_append]
  rfl
theorem drops_ok {v : V} (hv : v.fine = true) (paths : List ByteArray) (out : List Ow) (ps : List ByteArray) : (ps.foldl (dropStep paths out) v).sound ∧ (ps.foldl (dropStep paths out) v).count ≤ 120 := by
  obtain ⟨h1, h2⟩ := drops_keep paths out ps (fine_sound hv)
  have := fine_count hv
  exact ⟨h1, by omega⟩
theorem sets_ok {nx want : V} (h1 : nx.sound) (h2 : nx.count ≤ 120) (k : Nat) : ((want.leaves.take k).foldl (setStep want) nx).sound ∧ ((want.leaves.take k).foldl (setStep want) nx).count ≤ 20000 := by
  obtain ⟨h3, h4⟩ := sets_keep want (want.leaves.take k) (fun p hp => List.mem_of_mem_take hp) h1
  have h5 : (want.leaves.take k).length ≤ 120 := by rw [List.length_take]; have := leaves_len want; omega
  refine ⟨h3, ?_⟩
  have h6 : (want.leaves.take k).length * 131 ≤ 120 * 131 := Nat.mul_le_mul_right _ h5
  omega
theorem insO_len (l : List Ow) (who : ByteArray) (ps : List ByteArray) : (insO l who ps).length = if ps = [] then l.length else l.length + 1 := by
  unfold insO
  split
  · rfl
  · have h := posOf_le (l.map Ow.name) who
    simp only [List.length_map] at h
    simp only [List.length_append, List.length_cons, List.length_take, List.length_drop]
    unfold posO
    omega
theorem cf_keep {w w' : World} {S T : Nat → Prop} {cs : List Cf} {p : Option Addr} (h : CfIn w S cs p) (hk : Kept S w w') (hT : ∀ b, S b → T b) : CfIn w' T cs p := by
  rcases h with h | ⟨b, o, rfl, hS, hc⟩
  · exact .inl h
  · exact .inr ⟨b, o, rfl, hT b hS, fun i h => ⟨hk.cell (p := ⟨b, _, none⟩) hS (hc i h).1, hk.cell (p := ⟨b, _, none⟩) hS (hc i h).2⟩⟩
def RetApply (S : Nat → Prop) (r : V × List Ow × List Cf × Int) (w : World) (e : Ending) (w' : World) : Prop :=
  ∃ (ka : Option Addr) (kc : Nat) (la : Option Addr) (lc : Nat) (a : Option Addr) (c : Nat) (a2 : Option Addr) (c2 : Nat), e = .returned (.tuple #[r.1.val ka kc la lc, .slice a r.2.1.length c, .slice a2 r.2.2.1.length c2, .int .i64 r.2.2.2]) ∧
    r.1.In w' (Plus S w) ka kc la lc ∧ SlOk a r.2.1.length c ∧ OwsIn w' (Plus S w) r.2.1 a ∧ SlOk a2 r.2.2.1.length c2 ∧ CfIn w' (Plus S w) r.2.2.1 a2 ∧ Ext w w'
end Go.Proofs.YtjibdbnpkfghhaaGreatDoor
