/- The reference's GoodValue says what Good says; its MemberOf. -/
import Derived.Test.YtjibdbnpkfghhaaGreatDoorRef2d
import Derived.Test.YtjibdbnpkfghhaaGreatDoorPkA
import Derived.Test.YtjibdbnpkfghhaaGreatDoorPkC
set_option linter.all false
namespace Go.Proofs.YtjibdbnpkfghhaaGreatDoor
open Go.RowKit

theorem plain_nil {s : ByteArray} (h : s.toList = []) : plainB s = true := by
  have : s = ⟨#[]⟩ := bytes_ext (by rw [h]; simp [ByteArray.toList_eq])
  subst this
  decide
theorem keysB_nil {ks : List ByteArray} (h : ks.length = 0) : keysB ks = true := by
  obtain rfl := List.eq_nil_of_length_eq_zero h
  unfold keysB
  rw [decide_eq_true_eq]
  intro i hi
  simp at hi
theorem form_eq (x : V) : x.form = (!decide (x.k < 0 ∨ 5 < x.k) && !g2 x.k x.n x.s x.keys.length x.l.length && !g3 x.k x.n x.s && !g4 x.k x.keys.length x.l.length && keysB x.keys) := by
  have hA := plain_nil (s := x.s)
  have hK := keysB_nil (ks := x.keys)
  unfold V.form f0 f1 f2 f3 f4 f5 g2 g3 g4
  generalize plainB x.s = P at *
  generalize keysB x.keys = K at *
  generalize x.s.toList = t at *
  generalize x.keys.length = a at *
  generalize x.l.length = b at *
  generalize x.k = k at *
  generalize x.n = n at *
  have ht : t.isEmpty = true ↔ t = [] := by simp
  rw [Bool.eq_iff_iff]
  simp only [Bool.and_eq_true, Bool.not_eq_true', Bool.or_eq_false_iff, decide_eq_true_eq, decide_eq_false_iff_not, ht]
  by_cases k0 : k = 0
  · subst k0; simp only [if_pos, decide_eq_true_eq, ht]; grind
  by_cases k1 : k = 1
  · subst k1; simp (decide := true) only [if_pos, if_neg, decide_eq_true_eq, ht]; grind
  by_cases k2 : k = 2
  · subst k2; simp (decide := true) only [if_pos, if_neg, decide_eq_true_eq, ht]; grind
  by_cases k3 : k = 3
  · subst k3; simp (decide := true) only [if_pos, if_neg, decide_eq_true_eq, Bool.and_eq_true, ht]; grind
  by_cases k4 : k = 4
  · subst k4; simp (decide := true) only [if_pos, if_neg, decide_eq_true_eq, ht]; grind
  by_cases k5 : k = 5
  · subst k5; simp (decide := true) only [if_pos, if_neg, decide_eq_true_eq, Bool.and_eq_true, ht]; grind
  · simp only [if_neg k0, if_neg k1, if_neg k2, if_neg k3, if_neg k4, if_neg k5]
    constructor
    · intro h; cases h
    · rintro ⟨⟨⟨⟨h, -⟩, -⟩, -⟩, -⟩; omega
theorem flat_form (x : V) (d : Int) : x.flat d = (decide (d ≤ 12) && x.form) := by
  rw [form_eq]
  unfold V.flat g1
  by_cases hd : 12 < d
  · have h1 : ¬ d ≤ 12 := by omega
    simp [hd, h1]
  · have h1 : d ≤ 12 := by omega
    simp [hd, h1]
theorem good_shaped (x : V) : ∀ d : Int, x.good d = (decide (d + x.depth ≤ 13) && x.shaped) := by
  induction x using V.ind with
  | h x ih =>
    intro d
    rw [V.good_eq, V.shaped_eq, V.depth_eq, flat_form, Bool.eq_iff_iff]
    simp only [Bool.and_eq_true, List.all_eq_true, decide_eq_true_eq]
    constructor
    · rintro ⟨⟨h1, h2⟩, h3⟩
      refine ⟨?_, h2, fun y hy => ?_⟩
      · have : maxOf V.depth x.l ≤ (12 - d).toNat := maxOf_le.2 fun y hy => by
          have := h3 y hy
          rw [ih y hy] at this
          simp only [Bool.and_eq_true, decide_eq_true_eq] at this
          omega
        omega
      · have := h3 y hy
        rw [ih y hy] at this
        simp only [Bool.and_eq_true, decide_eq_true_eq] at this
        exact this.2
    · rintro ⟨h1, h2, h3⟩
      refine ⟨⟨by omega, h2⟩, fun y hy => ?_⟩
      rw [ih y hy]
      simp only [Bool.and_eq_true, decide_eq_true_eq]
      have : V.depth y ≤ maxOf V.depth x.l := maxOf_le.1 (Nat.le_refl _) y hy
      exact ⟨by omega, h3 y hy⟩
theorem fine_ref (x : V) : x.fine = (decide ((x.depth : Int) ≤ 12) && decide ((x.count : Int) ≤ 120) && x.shaped) := by
  unfold V.fine
  rw [good_shaped, Bool.eq_iff_iff]
  simp only [Bool.and_eq_true, decide_eq_true_eq]
  constructor
  · rintro ⟨⟨h1, h2⟩, h3⟩; exact ⟨⟨by omega, by omega⟩, h2⟩
  · rintro ⟨⟨h1, h3⟩, h2⟩; exact ⟨⟨by omega, h2⟩, by omega⟩

theorem goodValue_any (x : V) (ka : Option Addr) (kc : Nat) (la : Option Addr) (lc : Nat) (S : Nat → Prop) (w : World) (hsz : x.size ≤ 1073741824) (hin : x.In w S ka kc la lc) :
    Calls Tryz.prog 32 #[x.val ka kc la lc] w fun e w' => e = .returned (.bool x.fine) ∧ Ext w w' := by
  have Hf := Lib.hid (fine_ref x)
  by_cases h1 : (x.depth : Int) ≤ 12
  · by_cases h2 : (x.count : Int) ≤ 120
    · have Hf := Lib.hid (show x.fine = x.shaped by rw [Hf.out]; simp only [h1, h2, decide_true, Bool.true_and])
      go_enter Tryz.func32, Tryz.ntmps32
      go_wp2_with (first | (go_at_call 78; (with_reducible refine (depth_any _ x ka kc la lc S _ (Nat.le_refl _) hsz (hin.ext Xt)).mono ?_); rintro e w1 ⟨rfl, h1⟩; obtain ⟨hc1, hf1, hz1⟩ := ext_facts h1; (try simp at hz1); (try have hzA : w.heap.size < w1.heap.size := by omega); (try have hzB : w.heap.size + 1 < w1.heap.size := by omega); (try have hzC : w.heap.size + 2 < w1.heap.size := by omega); (try have hzD : w.heap.size + 3 < w1.heap.size := by omega)) | (go_at_call 79; (with_reducible refine (shaped_any _ x ka kc la lc S _ (Nat.le_refl _) hsz (hin.ext Xt)).mono ?_); rintro e w1 ⟨rfl, h1⟩; obtain ⟨hc1, hf1, hz1⟩ := ext_facts h1; (try simp at hz1); (try have hzA : w.heap.size < w1.heap.size := by omega); (try have hzB : w.heap.size + 1 < w1.heap.size := by omega); (try have hzC : w.heap.size + 2 < w1.heap.size := by omega); (try have hzD : w.heap.size + 3 < w1.heap.size := by omega)))
      go_ret
      exact ⟨ret_bool Hf.out.symm, Xt⟩
    · have h3 : (120 : Int) < (x.count : Int) := by omega
      have Hf := Lib.hid (show x.fine = false by rw [Hf.out]; simp only [h2, decide_false, Bool.and_false, Bool.false_and])
      go_enter Tryz.func32, Tryz.ntmps32
      go_wp2_with (first | (go_at_call 78; (with_reducible refine (depth_any _ x ka kc la lc S _ (Nat.le_refl _) hsz (hin.ext Xt)).mono ?_); rintro e w1 ⟨rfl, h1⟩; obtain ⟨hc1, hf1, hz1⟩ := ext_facts h1; (try simp at hz1); (try have hzA : w.heap.size < w1.heap.size := by omega); (try have hzB : w.heap.size + 1 < w1.heap.size := by omega); (try have hzC : w.heap.size + 2 < w1.heap.size := by omega); (try have hzD : w.heap.size + 3 < w1.heap.size := by omega)))
      go_ret
      exact ⟨ret_bool Hf.out.symm, Xt⟩
  · have h3 : (12 : Int) < (x.depth : Int) := by omega
    have Hf := Lib.hid (show x.fine = false by rw [Hf.out]; simp only [h1, decide_false, Bool.false_and])
    go_enter Tryz.func32, Tryz.ntmps32
    go_wp2_with (first | (go_at_call 78; (with_reducible refine (depth_any _ x ka kc la lc S _ (Nat.le_refl _) hsz (hin.ext Xt)).mono ?_); rintro e w1 ⟨rfl, h1⟩; obtain ⟨hc1, hf1, hz1⟩ := ext_facts h1; (try simp at hz1); (try have hzA : w.heap.size < w1.heap.size := by omega); (try have hzB : w.heap.size + 1 < w1.heap.size := by omega); (try have hzC : w.heap.size + 2 < w1.heap.size := by omega); (try have hzD : w.heap.size + 3 < w1.heap.size := by omega)))
    go_ret
    exact ⟨ret_bool Hf.out.symm, Xt⟩
set_option maxHeartbeats 1000000 in
theorem memberOf_some {x y : V} {key : ByteArray} (hm : x.member key = some y) (ka : Option Addr) (kc : Nat) (la : Option Addr) (lc : Nat) (S : Nat → Prop) (w : World) (hsz : x.size ≤ 1073741824) (hin : x.In w S ka kc la lc) :
    Calls Tryz.prog 117 #[x.val ka kc la lc, .string key] w (RetV2 S y (.bool true) w) := by
  obtain ⟨j, a, rfl⟩ := member_at hm
  clear hm
  have hl := x.len_l
  have hk5 : (x.k == 5) = true := by simpa using a.k
  have hk5' : (x.k != 5) = false := by simpa using a.k
  have hlen : ((x.keys.length : Int) == (x.l.length : Int)) = true := by simpa using congrArg Int.ofNat a.len
  have hlen' : ((x.keys.length : Int) != (x.l.length : Int)) = false := by simpa using congrArg Int.ofNat a.len
  have hjl := a.lt
  have hll : x.keys.length ≤ x.l.length := Nat.le_of_eq a.len
  have hll2 : x.l.length ≤ x.keys.length := Nat.le_of_eq a.len.symm
  go_enter Tryz.func117, Tryz.ntmps117
  go_wp2_with fail
  go_loopg [6, 23] (j + 1) (fun g _ i wr => ∃ k : Nat, k ≤ j ∧ i = .int .i64 k ∧ g = j + 1 - k ∧ Box wr w.heap.size #[.int .i64 x.k, .int .i64 x.n, .string x.s, .slice ka x.keys.length kc, .slice la x.l.length lc] 25 ∧ Box wr (w.heap.size + 1) #[.int .i64 0, .int .i64 0, .string ⟨#[]⟩, .slice none 0 0, .slice none 0 0] 25 ∧ Ext w wr)
  case atStart => exact ⟨0, by omega, rfl, rfl, Bxt, Bxt, Xt⟩
  case round =>
    obtain ⟨k, hk, rfl, rfl, hB0, hB1, hx⟩ := hrel
    have hc0 := hB0.cells; have hf0 := hB0.free; have hl0 := hB0.lt
    have hc1 := hB1.cells; have hf1 := hB1.free; have hl1 := hB1.lt
    have hlt : k < x.keys.length := by omega
    obtain ⟨b, o, rfl, hS, e0⟩ := (hin.ext hx).key hlt
    by_cases hkj : k = j
    · subst hkj
      obtain ⟨b', o', rfl, hS', ka', kc', la', lc', ⟨d0, d1, d2, d3, d4⟩, hin'⟩ := hin.item hjl
      have d0 := hx.cell d0; have d1 := hx.cell d1; have d2 := hx.cell d2; have d3 := hx.cell d3; have d4 := hx.cell d4
      have heq : (x.keys[k].toList == key.toList) = true := by simpa using a.eq
      have hlt2 : k < x.l.length := hjl
      go_wp2_with fail
      (with_reducible apply bp_ret); (focus (go_light; simp [results, Tryz.results117, go_sem, *]; rfl))
      exact ⟨ka', kc', la', lc', rfl, (hin'.ext Xt).mono (fun _ h _ => .inl h), Xt⟩
    · have heq : (x.keys[k].toList == key.toList) = false := by simpa using a.no k (by omega)
      go_wp2_with fail
      go_roundg (j + 1 - (k + 1))
      case measure => omega
      case rel => exact ⟨k + 1, by omega, by go_num, rfl, Bxt, Bxt, Xt⟩

set_option maxHeartbeats 1000000 in
theorem memberOf_none {x : V} {key : ByteArray} (hm : x.member key = none) (ka : Option Addr) (kc : Nat) (la : Option Addr) (lc : Nat) (S : Nat → Prop) (w : World) (hsz : x.size ≤ 1073741824) (hin : x.In w S ka kc la lc) :
    Calls Tryz.prog 117 #[x.val ka kc la lc, .string key] w fun e w' => e = .returned (.tuple #[.agg #[.int .i64 0, .int .i64 0, .string ⟨#[]⟩, .slice none 0 0, .slice none 0 0], .bool false]) ∧ Ext w w' := by
  have hl := x.len_l
  have hlk := x.len_keys
  by_cases h5 : x.k = 5
  · have hk5 : (x.k == 5) = true := by simpa using h5
    have hk5' : (x.k != 5) = false := by simpa using h5
    by_cases hln : x.keys.length = x.l.length
    · have hlen : ((x.keys.length : Int) == (x.l.length : Int)) = true := by simpa using congrArg Int.ofNat hln
      have hlen' : ((x.keys.length : Int) != (x.l.length : Int)) = false := by simpa using congrArg Int.ofNat hln
      have Hno := Lib.hid (((member_not hm).resolve_left (fun h => h h5)).resolve_left (fun h => h hln))
      have hll : x.keys.length ≤ x.l.length := Nat.le_of_eq hln
      clear hln h5 hm
      go_enter Tryz.func117, Tryz.ntmps117
      go_wp2_with fail
      go_loopg [6, 23] x.keys.length (fun g _ i wr => ∃ k : Nat, k ≤ x.keys.length ∧ i = .int .i64 k ∧ g = x.keys.length - k ∧ Box wr w.heap.size #[.int .i64 x.k, .int .i64 x.n, .string x.s, .slice ka x.keys.length kc, .slice la x.l.length lc] 25 ∧ Box wr (w.heap.size + 1) #[.int .i64 0, .int .i64 0, .string ⟨#[]⟩, .slice none 0 0, .slice none 0 0] 25 ∧ Ext w wr)
      case atStart => exact ⟨0, by omega, rfl, rfl, Bxt, Bxt, Xt⟩
      case round =>
        obtain ⟨k, hk, rfl, rfl, hB0, hB1, hx⟩ := hrel
        have hc0 := hB0.cells; have hf0 := hB0.free; have hl0 := hB0.lt
        have hc1 := hB1.cells; have hf1 := hB1.free; have hl1 := hB1.lt
        by_cases hlt : k < x.keys.length
        · obtain ⟨b, o, rfl, hS, e0⟩ := (hin.ext hx).key hlt
          have heq : (x.keys[k].toList == key.toList) = false := by simpa using Hno.out k hlt
          go_wp2_with fail
          go_roundg (x.keys.length - (k + 1))
          case measure => omega
          case rel => exact ⟨k + 1, by omega, by go_num, rfl, Bxt, Bxt, Xt⟩
        · go_wp2_with fail
          (with_reducible apply bp_ret); (focus (go_light; simp [results, Tryz.results117, go_sem, *]; rfl))
          exact ⟨rfl, Xt⟩
    · have hlen : ((x.keys.length : Int) == (x.l.length : Int)) = false := by simpa using fun h => hln (by omega)
      have hlen' : ((x.keys.length : Int) != (x.l.length : Int)) = true := by simpa using fun h => hln (by omega)
      clear hln h5 hm
      go_enter Tryz.func117, Tryz.ntmps117
      go_wp2_with fail
      (with_reducible apply bp_ret); (focus (go_light; simp [results, Tryz.results117, go_sem, *]; rfl))
      exact ⟨rfl, Xt⟩
  · have hk5 : (x.k == 5) = false := by simpa using h5
    have hk5' : (x.k != 5) = true := by simpa using h5
    clear h5 hm
    go_enter Tryz.func117, Tryz.ntmps117
    go_wp2_with fail
    (with_reducible apply bp_ret); (focus (go_light; simp [results, Tryz.results117, go_sem, *]; rfl))
    exact ⟨rfl, Xt⟩
end Go.Proofs.YtjibdbnpkfghhaaGreatDoor
