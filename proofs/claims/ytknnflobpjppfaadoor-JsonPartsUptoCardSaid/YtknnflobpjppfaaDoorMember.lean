/- The walks of Member and of the reference's MemberOf. -/
import Derived.Test.YtknnflobpjppfaaDoorJsonP
set_option linter.all false
namespace Go.Proofs.YtknnflobpjppfaaDoor
open Go.RowKit

/-- Item j of x is what the key names. -/
structure At (x : V) (key : ByteArray) (j : Nat) : Prop where
  k : x.k = 5
  len : x.keys.length = x.l.length
  lt : j < x.l.length
  eq : (x.keys[j]'(by omega)).toList = key.toList
  no : ∀ i, (h : i < j) → (x.keys[i]'(by omega)).toList ≠ key.toList
/-- There is nothing of that key. -/
def NotAt (x : V) (key : ByteArray) : Prop := x.k ≠ 5 ∨ x.keys.length ≠ x.l.length ∨ (∀ i, (h : i < x.keys.length) → x.keys[i].toList ≠ key.toList)
theorem find_at {x : V} {key : ByteArray} {j : Nat} (h : x.find key = some j) : At x key j := by
  unfold V.find at h
  split at h
  · rename_i hc
    rw [List.findIdx?_eq_some_iff_getElem] at h
    obtain ⟨h1, h2, h3⟩ := h
    refine ⟨hc.1, hc.2, by omega, by simpa using h2, fun i hi => ?_⟩
    have := h3 i hi
    simpa using this
  · cases h
theorem find_not {x : V} {key : ByteArray} (h : x.find key = none) : NotAt x key := by
  unfold V.find at h
  split at h
  · right; right
    intro i hi
    have := List.findIdx?_eq_none_iff.1 h (x.keys[i]) (List.getElem_mem hi)
    simpa using this
  · rename_i hc
    by_cases h5 : x.k = 5
    · exact .inr (.inl fun h => hc ⟨h5, h⟩)
    · exact .inl h5
theorem member_at {x : V} {key : ByteArray} {y : V} (h : x.member key = some y) : ∃ j, ∃ a : At x key j, x.l[j]'a.lt = y := by
  unfold V.member at h
  cases hf : x.find key with
  | none => rw [hf] at h; cases h
  | some j =>
    rw [hf] at h
    have a := find_at hf
    refine ⟨j, a, ?_⟩
    simp only [Option.bind_some, List.getElem?_eq_getElem a.lt, Option.some.injEq] at h
    exact h
theorem member_not {x : V} {key : ByteArray} (h : x.member key = none) : NotAt x key := by
  unfold V.member at h
  cases hf : x.find key with
  | none => exact find_not hf
  | some j =>
    rw [hf] at h
    have a := find_at hf
    simp [List.getElem?_eq_getElem a.lt] at h

theorem V.zero_in (w : World) (S : Nat → Prop) : V.zero.In w S none 0 none 0 := by
  rw [V.in_iff]; exact ⟨SlOk.nil, SlOk.nil, .inl rfl, .inl rfl⟩

set_option maxHeartbeats 1000000 in
theorem member_some {x y : V} {key : ByteArray} (hm : x.member key = some y) (ka : Option Addr) (kc : Nat) (la : Option Addr) (lc : Nat) (S : Nat → Prop) (w : World) (hsz : x.size ≤ 1073741824) (hin : x.In w S ka kc la lc) :
    Calls Tryd.prog 28 #[x.val ka kc la lc, .string key] w (RetV2 S y (.bool true) w) := by
  obtain ⟨j, a, rfl⟩ := member_at hm
  clear hm
  have hl := x.len_l
  have hk5 : (x.k == 5) = true := by simpa using a.k
  have hlen : ((x.keys.length : Int) == (x.l.length : Int)) = true := by simpa using congrArg Int.ofNat a.len
  have hjl := a.lt
  have hll : x.keys.length ≤ x.l.length := Nat.le_of_eq a.len
  have hll2 : x.l.length ≤ x.keys.length := Nat.le_of_eq a.len.symm
  go_enter Tryd.func28, Tryd.ntmps28
  go_wp2_with fail
  go_loopg [6, 7, 23] (j + 1) (fun g _ _ i wr => ∃ k : Nat, k ≤ j ∧ i = .int .i64 k ∧ g = j + 1 - k ∧ Box wr w.heap.size #[.int .i64 x.k, .int .i64 x.n, .string x.s, .slice ka x.keys.length kc, .slice la x.l.length lc] 33 ∧ Box wr (w.heap.size + 1) #[.int .i64 0, .int .i64 0, .string ⟨#[]⟩, .slice none 0 0, .slice none 0 0] 33 ∧ Ext w wr)
  case atStart => exact ⟨0, by omega, rfl, rfl, (by (with_reducible apply Box.to); (focus (with_reducible repeat (first | assumption | (apply Box.new; (focus (first | rfl | (first | (simp; done) | (simp; omega) | omega)))) | apply Box.set | (apply Box.other; rotate_left; (focus (first | (simp; done) | (simp; omega) | omega))) | apply Box.alloc | apply Box.drew | (apply Box.ext; (focus assumption))))); (first | rfl | (simp; done) | (go_light; simp [*]; done))), (by (with_reducible apply Box.to); (focus (with_reducible repeat (first | assumption | (apply Box.new; (focus (first | rfl | (first | (simp; done) | (simp; omega) | omega)))) | apply Box.set | (apply Box.other; rotate_left; (focus (first | (simp; done) | (simp; omega) | omega))) | apply Box.alloc | apply Box.drew | (apply Box.ext; (focus assumption))))); (first | rfl | (simp; done) | (go_light; simp [*]; done))), (by with_reducible repeat (first | exact Ext.refl _ | assumption | apply Ext.drew | apply Ext.drewN | apply Ext.alloc | (refine Ext.setCell ?_ ?_ _; rotate_left; (focus (first | (simp; done) | (simp; omega) | omega))) | refine Ext.trans ?_ (by assumption)))⟩
  case round =>
    obtain ⟨k, hk, rfl, rfl, hB0, hB1, hx⟩ := hrel
    have hc0 := hB0.cells; have hf0 := hB0.free; have hl0 := hB0.lt
    have hc1 := hB1.cells; have hf1 := hB1.free; have hl1 := hB1.lt
    have hlt : k < x.keys.length := by omega
    obtain ⟨b, o, rfl, hS, e0⟩ := (hin.ext hx).key hlt
    by_cases hkj : k = j
    · subst hkj
      obtain ⟨b', o', rfl, hS', ka', kc', la', lc', ⟨d0, d1, d2, d3, d4⟩, hin'⟩ := hin.item hjl
      have d0 := hx.cell d0; have d1 := hx.cell d1; have d2 := hx.cell d2; have d3 := hx.cell d3; have d4 := hx.cell d4
      have heq : (x.keys[k].toList == key.toList) = true := by simpa using a.eq
      have hlt2 : k < x.l.length := hjl
      go_wp2_with fail
      (with_reducible apply bp_ret); (focus (go_light; simp [results, Tryd.results28, go_sem, *]; rfl))
      exact ⟨ka', kc', la', lc', rfl, (hin'.ext (by with_reducible repeat (first | exact Ext.refl _ | assumption | apply Ext.drew | apply Ext.drewN | apply Ext.alloc | (refine Ext.setCell ?_ ?_ _; rotate_left; (focus (first | (simp; done) | (simp; omega) | omega))) | refine Ext.trans ?_ (by assumption)))).mono (fun _ h _ => .inl h), (by with_reducible repeat (first | exact Ext.refl _ | assumption | apply Ext.drew | apply Ext.drewN | apply Ext.alloc | (refine Ext.setCell ?_ ?_ _; rotate_left; (focus (first | (simp; done) | (simp; omega) | omega))) | refine Ext.trans ?_ (by assumption)))⟩
    · have heq : (x.keys[k].toList == key.toList) = false := by simpa using a.no k (by omega)
      go_wp2_with fail
      go_roundg (j + 1 - (k + 1))
      case measure => omega
      case rel => exact ⟨k + 1, by omega, by go_num, rfl, (by (with_reducible apply Box.to); (focus (with_reducible repeat (first | assumption | (apply Box.new; (focus (first | rfl | (first | (simp; done) | (simp; omega) | omega)))) | apply Box.set | (apply Box.other; rotate_left; (focus (first | (simp; done) | (simp; omega) | omega))) | apply Box.alloc | apply Box.drew | (apply Box.ext; (focus assumption))))); (first | rfl | (simp; done) | (go_light; simp [*]; done))), (by (with_reducible apply Box.to); (focus (with_reducible repeat (first | assumption | (apply Box.new; (focus (first | rfl | (first | (simp; done) | (simp; omega) | omega)))) | apply Box.set | (apply Box.other; rotate_left; (focus (first | (simp; done) | (simp; omega) | omega))) | apply Box.alloc | apply Box.drew | (apply Box.ext; (focus assumption))))); (first | rfl | (simp; done) | (go_light; simp [*]; done))), (by with_reducible repeat (first | exact Ext.refl _ | assumption | apply Ext.drew | apply Ext.drewN | apply Ext.alloc | (refine Ext.setCell ?_ ?_ _; rotate_left; (focus (first | (simp; done) | (simp; omega) | omega))) | refine Ext.trans ?_ (by assumption)))⟩

set_option maxHeartbeats 1000000 in
theorem member_none {x : V} {key : ByteArray} (hm : x.member key = none) (ka : Option Addr) (kc : Nat) (la : Option Addr) (lc : Nat) (S : Nat → Prop) (w : World) (hsz : x.size ≤ 1073741824) (hin : x.In w S ka kc la lc) :
    Calls Tryd.prog 28 #[x.val ka kc la lc, .string key] w fun e w' => e = .returned (.tuple #[.agg #[.int .i64 0, .int .i64 0, .string ⟨#[]⟩, .slice none 0 0, .slice none 0 0], .bool false]) ∧ Ext w w' := by
  have hl := x.len_l
  have hlk := x.len_keys
  by_cases h5 : x.k = 5
  · have hk5 : (x.k == 5) = true := by simpa using h5
    by_cases hln : x.keys.length = x.l.length
    · have hlen : ((x.keys.length : Int) == (x.l.length : Int)) = true := by simpa using congrArg Int.ofNat hln
      have Hno := Lib.hid (((member_not hm).resolve_left (fun h => h h5)).resolve_left (fun h => h hln))
      have hll : x.keys.length ≤ x.l.length := Nat.le_of_eq hln
      clear hln h5 hm
      go_enter Tryd.func28, Tryd.ntmps28
      go_wp2_with fail
      go_loopg [6, 7, 23] x.keys.length (fun g _ _ i wr => ∃ k : Nat, k ≤ x.keys.length ∧ i = .int .i64 k ∧ g = x.keys.length - k ∧ Box wr w.heap.size #[.int .i64 x.k, .int .i64 x.n, .string x.s, .slice ka x.keys.length kc, .slice la x.l.length lc] 33 ∧ Box wr (w.heap.size + 1) #[.int .i64 0, .int .i64 0, .string ⟨#[]⟩, .slice none 0 0, .slice none 0 0] 33 ∧ Ext w wr)
      case atStart => exact ⟨0, by omega, rfl, rfl, (by (with_reducible apply Box.to); (focus (with_reducible repeat (first | assumption | (apply Box.new; (focus (first | rfl | (first | (simp; done) | (simp; omega) | omega)))) | apply Box.set | (apply Box.other; rotate_left; (focus (first | (simp; done) | (simp; omega) | omega))) | apply Box.alloc | apply Box.drew | (apply Box.ext; (focus assumption))))); (first | rfl | (simp; done) | (go_light; simp [*]; done))), (by (with_reducible apply Box.to); (focus (with_reducible repeat (first | assumption | (apply Box.new; (focus (first | rfl | (first | (simp; done) | (simp; omega) | omega)))) | apply Box.set | (apply Box.other; rotate_left; (focus (first | (simp; done) | (simp; omega) | omega))) | apply Box.alloc | apply Box.drew | (apply Box.ext; (focus assumption))))); (first | rfl | (simp; done) | (go_light; simp [*]; done))), (by with_reducible repeat (first | exact Ext.refl _ | assumption | apply Ext.drew | apply Ext.drewN | apply Ext.alloc | (refine Ext.setCell ?_ ?_ _; rotate_left; (focus (first | (simp; done) | (simp; omega) | omega))) | refine Ext.trans ?_ (by assumption)))⟩
      case round =>
        obtain ⟨k, hk, rfl, rfl, hB0, hB1, hx⟩ := hrel
        have hc0 := hB0.cells; have hf0 := hB0.free; have hl0 := hB0.lt
        have hc1 := hB1.cells; have hf1 := hB1.free; have hl1 := hB1.lt
        by_cases hlt : k < x.keys.length
        · obtain ⟨b, o, rfl, hS, e0⟩ := (hin.ext hx).key hlt
          have heq : (x.keys[k].toList == key.toList) = false := by simpa using Hno.out k hlt
          go_wp2_with fail
          go_roundg (x.keys.length - (k + 1))
          case measure => omega
          case rel => exact ⟨k + 1, by omega, by go_num, rfl, (by (with_reducible apply Box.to); (focus (with_reducible repeat (first | assumption | (apply Box.new; (focus (first | rfl | (first | (simp; done) | (simp; omega) | omega)))) | apply Box.set | (apply Box.other; rotate_left; (focus (first | (simp; done) | (simp; omega) | omega))) | apply Box.alloc | apply Box.drew | (apply Box.ext; (focus assumption))))); (first | rfl | (simp; done) | (go_light; simp [*]; done))), (by (with_reducible apply Box.to); (focus (with_reducible repeat (first | assumption | (apply Box.new; (focus (first | rfl | (first | (simp; done) | (simp; omega) | omega)))) | apply Box.set | (apply Box.other; rotate_left; (focus (first | (simp; done) | (simp; omega) | omega))) | apply Box.alloc | apply Box.drew | (apply Box.ext; (focus assumption))))); (first | rfl | (simp; done) | (go_light; simp [*]; done))), (by with_reducible repeat (first | exact Ext.refl _ | assumption | apply Ext.drew | apply Ext.drewN | apply Ext.alloc | (refine Ext.setCell ?_ ?_ _; rotate_left; (focus (first | (simp; done) | (simp; omega) | omega))) | refine Ext.trans ?_ (by assumption)))⟩
        · go_wp2_with fail
          (with_reducible apply bp_ret); (focus (go_light; simp [results, Tryd.results28, go_sem, *]; rfl))
          exact ⟨rfl, (by with_reducible repeat (first | exact Ext.refl _ | assumption | apply Ext.drew | apply Ext.drewN | apply Ext.alloc | (refine Ext.setCell ?_ ?_ _; rotate_left; (focus (first | (simp; done) | (simp; omega) | omega))) | refine Ext.trans ?_ (by assumption)))⟩
    · have hlen : ((x.keys.length : Int) == (x.l.length : Int)) = false := by simpa using fun h => hln (by omega)
      clear hln h5 hm
      go_enter Tryd.func28, Tryd.ntmps28
      go_wp2_with fail
      (with_reducible apply bp_ret); (focus (go_light; simp [results, Tryd.results28, go_sem, *]; rfl))
      exact ⟨rfl, (by with_reducible repeat (first | exact Ext.refl _ | assumption | apply Ext.drew | apply Ext.drewN | apply Ext.alloc | (refine Ext.setCell ?_ ?_ _; rotate_left; (focus (first | (simp; done) | (simp; omega) | omega))) | refine Ext.trans ?_ (by assumption)))⟩
  · have hk5 : (x.k == 5) = false := by simpa using h5
    clear h5 hm
    go_enter Tryd.func28, Tryd.ntmps28
    go_wp2_with fail
    (with_reducible apply bp_ret); (focus (go_light; simp [results, Tryd.results28, go_sem, *]; rfl))
    exact ⟨rfl, (by with_reducible repeat (first | exact Ext.refl _ | assumption | apply Ext.drew | apply Ext.drewN | apply Ext.alloc | (refine Ext.setCell ?_ ?_ _; rotate_left; (focus (first | (simp; done) | (simp; omega) | omega))) | refine Ext.trans ?_ (by assumption)))⟩
end Go.Proofs.YtknnflobpjppfaaDoor
