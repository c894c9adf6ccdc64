/- A region that draws its order: a condition on the world that need hold only until one of its operations (the first store) has come up: loads ahead of it may be taken first. -/
import Derived.Test.YtknnflobpjppfaaDoorBase
import Derived.Deep.RegionHeld3
set_option linter.all false
namespace Go.Proofs.YtknnflobpjppfaaDoor
open Go

section
variable {P : Program} {ops : Array Oper} {Q : Exit → Act → World → Prop} {md : Region.Mode} {S : World → Prop} {c : Nat}

/-- Whatever order is picked, and, until operation c has come up, S holds behind each. -/
def wpAnyT (P : Program) (md : Region.Mode) (ops : Array Oper) (Q : Exit → Act → World → Prop) (S : World → Prop) (c : Nat) : Nat → Array Bool → Act → World → Prop
  | 0, listed, a, w => Region.ready md ops listed = [] ∧ Q .normal a w
  | fuel + 1, listed, a, w =>
    (Region.ready md ops listed = [] → Q .normal a w) ∧
    ∀ i ∈ Region.ready md ops listed, wpOp P ops Q i (fun a' w' => ((listed.setIfInBounds i true).getD c true = false → S w') ∧ wpAnyT P md ops Q S c fuel (listed.setIfInBounds i true) a' w') a w

theorem wpAny_of_till : ∀ (fuel : Nat) (listed : Array Bool) (a : Act) (w : World), wpAnyT P md ops Q S c fuel listed a w → wpAny P md ops Q fuel listed a w
  | 0, _, _, _, h => h
  | fuel + 1, _, _, _, h => ⟨h.1, fun i hi => wpOp_mono (fun a' w' h' => wpAny_of_till fuel _ a' w' h'.2) (h.2 i hi)⟩

/-- x waits for i. -/
def dependsB (md : Region.Mode) (ops : Array Oper) (i x : Nat) : Bool := match ops[x]? with
  | some o => o.after.any fun e => Region.binds md e && e.on == i
  | none => false
/-- Each waits for the one ahead of it, the first for i. -/
def chainB (md : Region.Mode) (ops : Array Oper) : Nat → List Nat → Bool
  | _, [] => true
  | i, x :: r => dependsB md ops i x && chainB md ops x r
theorem not_chain {listed : Array Bool} : ∀ (ch : List Nat) (i : Nat), chainB md ops i ch = true → listed.getD i true = false → (∀ x ∈ ch, listed.getD x true = false) → ∀ j ∈ Region.ready md ops listed, j ∉ ch
  | [], _, _, _, _, _, _ => by simp
  | x :: r, i, hc, hi, hx, j, hj => by
    simp only [chainB, Bool.and_eq_true] at hc
    have ih := not_chain r x hc.2 (hx x (by simp)) (fun y hy => hx y (by simp [hy])) j hj
    intro hm
    rcases List.mem_cons.1 hm with rfl | hm
    · obtain ⟨-, oj, hoj, hall⟩ := mem_ready.1 hj
      have hd := hc.1
      unfold dependsB at hd
      rw [hoj] at hd
      simp only [Array.any_eq_true'] at hd
      obtain ⟨e, he, hb⟩ := hd
      simp only [Bool.and_eq_true, beq_iff_eq] at hb
      have h1 := hall e he hb.1
      rw [hb.2] at h1
      rcases Nat.lt_or_ge i listed.size with h' | h'
      · simp [h'] at hi h1; rw [hi] at h1; cases h1
      · simp [Array.getElem?_eq_none h'] at hi
    · exact ih hm

theorem wpAnyT_first {i : Nat} {ch : List Nat} {oi : Oper} {v : Value} (hi : ops[i]? = some oi) (hsel : ∀ (j : Nat) (o : Oper) cs b, ops[j]? = some o → o.op ≠ .select cs b)
    (hQ : ∀ c a w, Q (.panic c) (a.put oi.dst v) w → Q (.panic c) a w) (hch : chainB md ops i ch = true) (hcc : c ∈ ch) (hich : i ∉ ch) :
    ∀ (fuel : Nat) (listed : Array Bool) (a : Act) (w : World),
      (∀ j oj, ops[j]? = some oj → j ≠ i → listed.getD j true = false → (∀ e ∈ oj.after, Region.binds md e = true → e.on ≠ i) → oi.apart ops oj = true) →
      i ∈ Region.ready md ops listed → (∀ x ∈ ch, listed.getD x true = false) → YieldsIf P ops S oi v a → S w →
      wpAnyT P md ops Q S c fuel (listed.setIfInBounds i true) (a.put oi.dst v) w → wpAnyT P md ops Q S c (fuel + 1) listed a w := by
  intro fuel
  induction fuel with
  | zero =>
    intro listed a w _ hr hcl hy hS H
    refine ⟨fun h => (by rw [h] at hr; cases hr), fun j hj => ?_⟩
    by_cases hji : j = i
    · subst hji; exact hy.wpOp hi hS ⟨fun _ => hS, H⟩
    · have := ready_mono hj hji
      rw [H.1] at this
      cases this
  | succ fuel ih =>
    intro listed a w hfree hr hcl hy hS H
    refine ⟨fun h => (by rw [h] at hr; cases hr), fun j hj => ?_⟩
    by_cases hji : j = i
    · subst hji; exact hy.wpOp hi hS ⟨fun _ => hS, H⟩
    · have h1 := H.2 j (ready_mono hj hji)
      obtain ⟨hjun, oj, hoj, hall⟩ := mem_ready.1 hj
      have hnot : ∀ e ∈ oj.after, Region.binds md e = true → e.on ≠ i := fun e he hb heq => by
        have h1 := hall e he hb
        have h0 := (mem_ready.1 hr).1
        rw [heq] at h1
        rcases Nat.lt_or_ge i listed.size with h' | h'
        · simp [h'] at h0 h1; rw [h0] at h1; cases h1
        · simp [Array.getElem?_eq_none h'] at h1
      have hi0 : listed.getD i true = false := (mem_ready.1 hr).1
      have hjch := not_chain ch i hch hi0 hcl j hj
      have hjc : j ≠ c := fun e => hjch (e ▸ hcc)
      have hci : i ≠ c := fun e => hich (e ▸ hcc)
      have h2 := wpOp_putIf hoj (hfree j oj hoj hji hjun hnot) (fun cs b => hsel i oi cs b hi) (fun cs b => hsel j oj cs b hoj) hQ hy h1
      have hfree' : ∀ k ok, ops[k]? = some ok → k ≠ i → (listed.setIfInBounds j true).getD k true = false →
          (∀ e ∈ ok.after, Region.binds md e = true → e.on ≠ i) → oi.apart ops ok = true := fun k ok hk hki hun hno => by
        refine hfree k ok hk hki ?_ hno
        by_cases hjk : j = k
        · subst hjk; exact hjun
        · rw [getD_set_ne true hjk] at hun; exact hun
      have hcj : ∀ x ∈ ch, (listed.setIfInBounds j true).getD x true = false := fun x hx => by rw [getD_set_ne true (fun e : j = x => hjch (e ▸ hx))]; exact hcl x hx
      have hcij : ((listed.setIfInBounds i true).setIfInBounds j true).getD c true = false := by rw [getD_set_ne true hjc, getD_set_ne true hci]; exact hcl c hcc
      refine wpOp_mono (fun a' w' h3 => ⟨fun _ => h3.2.1 hcij, ih (listed.setIfInBounds j true) a' w' hfree' (ready_mono hr (Ne.symm hji)) hcj h3.1 (h3.2.1 hcij) ?_⟩) h2
      rw [Array.setIfInBounds_comm _ _ hji]
      exact h3.2.2

theorem wpAnyT_take {i : Nat} {oi : Oper} {v : Value} {fuel : Nat} {listed : Array Bool} {a : Act} {w : World} (ch : List Nat) (hi : ops[i]? = some oi)
    (hs : Region.noSelect ops = true) (hf : Region.free md ops listed i = true) (hr : (Region.ready md ops listed).contains i = true) (hch : chainB md ops i ch = true)
    (hcc : ch.contains c = true) (hich : ch.contains i = false) (hcl : (ch.all fun x => !listed.getD x true) = true)
    (hQ : ∀ c a w, Q (.panic c) (a.put oi.dst v) w → Q (.panic c) a w) (hy : YieldsIf P ops S oi v a) (hS : S w)
    (h : wpAnyT P md ops Q S c fuel (listed.setIfInBounds i true) (a.put oi.dst v) w) : wpAnyT P md ops Q S c (fuel + 1) listed a w := by
  refine wpAnyT_first hi (Region.noSelect_spec hs) hQ hch (by simpa using hcc) (by simpa using hich) fuel listed a w (Region.free_spec hi hf) (by simpa using hr) ?_ hy hS h
  intro x hx
  have := List.all_eq_true.1 hcl x hx
  simpa using this

/-- Each of the operations rs comes up next. -/
def AllReadyT (P : Program) (md : Region.Mode) (ops : Array Oper) (Q : Exit → Act → World → Prop) (S : World → Prop) (c : Nat) (fuel : Nat) (listed : Array Bool) (a : Act) (w : World) (rs : List Nat) : Prop :=
  ∀ i ∈ rs, wpOp P ops Q i (fun a' w' => ((listed.setIfInBounds i true).getD c true = false → S w') ∧ wpAnyT P md ops Q S c fuel (listed.setIfInBounds i true) a' w') a w
theorem AllReadyT.nil {fuel : Nat} {listed : Array Bool} {a : Act} {w : World} : AllReadyT P md ops Q S c fuel listed a w [] := fun _ h => by cases h
theorem AllReadyT.cons {fuel : Nat} {listed : Array Bool} {a : Act} {w : World} {i : Nat} {o : Oper} {rs : List Nat} (ho : ops[i]? = some o)
    (h : ∀ K' : Act → World → Prop, Shut (∀ a w, ((listed.setIfInBounds i true).getD c true = false → S w) → wpAnyT P md ops Q S c fuel (listed.setIfInBounds i true) a w → K' a w) → if Region.wanted o (yielded ops a.tmps) = true then Oper.wp P o a w K' Q else K' (a.put o.dst undef) w)
    (hs : AllReadyT P md ops Q S c fuel listed a w rs) : AllReadyT P md ops Q S c fuel listed a w (i :: rs) := fun j hj => by
  rcases List.mem_cons.1 hj with rfl | hj
  · exact wpOp_step ho (fun K' hK => h K' (fun a w hS hW => hK a w ⟨hS, hW⟩))
  · exact hs j hj
theorem wpAnyT_ready {rs : List Nat} {fuel : Nat} {listed : Array Bool} {a : Act} {w : World} (hr : Region.ready md ops listed = rs) (hne : rs ≠ [])
    (h : AllReadyT P md ops Q S c fuel listed a w rs) : wpAnyT P md ops Q S c (fuel + 1) listed a w := ⟨fun h0 => absurd (hr ▸ h0) hne, hr ▸ h⟩
theorem wpAnyT_done {listed : Array Bool} {a : Act} {w : World} (hr : Region.ready md ops listed = []) (h : Q .normal a w) :
    ∀ fuel, wpAnyT P md ops Q S c fuel listed a w
  | 0 => ⟨hr, h⟩
  | _ + 1 => ⟨fun _ => h, by rw [hr]; simp⟩
theorem wp_region_till {id : Nat} {a : Act} {w : World} (hm : P.follows .mixedOrders = true)
    (h : wpAnyT P .any ops Q S c ops.size (Array.replicate ops.size false) a w.drew) : (Code.region id ops true).wp P Q a w :=
  wp_region_any hm (wpAny_of_till _ _ _ _ h)
end
end Go.Proofs.YtknnflobpjppfaaDoor
