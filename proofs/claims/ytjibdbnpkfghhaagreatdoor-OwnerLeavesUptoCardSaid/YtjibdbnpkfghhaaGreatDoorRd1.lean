/- The walks of the reader of package json: fail, space, next, take, more. -/
import Derived.Test.YtjibdbnpkfghhaaGreatDoorByt
import Derived.Test.YtjibdbnpkfghhaaGreatDoorPkB
import Derived.Shelf.Strings.SlTrimAscii
set_option linter.all false
namespace Go.Proofs.YtjibdbnpkfghhaaGreatDoor
open Go.RowKit
attribute [local go_sem ↓] Go.wp_at_zero Go.wp_at_succ
structure Rd (r : Nat) (w w' : World) : Prop where
  below : Below r w w'
  held : Held (fun b => b ≠ r) w w'
theorem Rd.refl (r : Nat) (w : World) : Rd r w w := ⟨Below.refl _ _, Held.refl _ _⟩
theorem Rd.trans {r : Nat} {a b c : World} (h : Rd r a b) (k : Rd r b c) : Rd r a c := ⟨h.below.trans k.below, h.held.trans k.held⟩
theorem Rd.size {r : Nat} {a b : World} (h : Rd r a b) : a.heap.size ≤ b.heap.size := h.held.size
theorem Rd.ext {r : Nat} {a b c : World} (h : Rd r a b) (hr : r < a.heap.size) (e : Ext b c) : Rd r a c :=
  ⟨h.below.trans (Below.mono e (by have := h.size; omega)), h.held.ext e⟩
theorem Rd.of {r : Nat} {a b : World} (hr : r < a.heap.size) (e : Ext a b) : Rd r a b := (Rd.refl r a).ext hr e
theorem Rd.set {r : Nat} {a b : World} (h : Rd r a b) (i : Nat) (v : Value) : Rd r a (b.setCell ⟨r, i, none⟩ v) :=
  ⟨h.below.setCell (Nat.le_refl _) v, h.held.set (by simp) v⟩
theorem Box.rd {r : Nat} {w w' : World} {n : Nat} {vs : Array Value} {T : TypeId} (e : Rd r w w') (h : Box w n vs T) (hn : n ≠ r) : Box w' n vs T := Box.held e.held h hn
theorem In.rd {r : Nat} {w w' : World} (e : Rd r w w') {x : V} {S : Nat → Prop} {ka : Option Addr} {kc : Nat} {la : Option Addr} {lc : Nat} (h : x.In w S ka kc la lc) (hS : ∀ b, S b → b ≠ r) : x.In w' S ka kc la lc :=
  h.keep (fun b hb hl => e.held.block b (hS b hb) hl) (fun _ h _ => h)
abbrev Sr (w : World) (r : Nat) (s : ByteArray) (bad : Bool) : Prop := Box w r #[.string s, .bool bad] 60
theorem Sr.ext {w w' : World} {r : Nat} {s : ByteArray} {bad : Bool} (h : Sr w r s bad) (e : Ext w w') : Sr w' r s bad := Box.ext e h
theorem Sr.lt {w : World} {r : Nat} {s : ByteArray} {bad : Bool} (h : Sr w r s bad) : r < w.heap.size := Box.lt h
theorem trim_space (s : Bytes) : Lib.trimLeftS s [32, 9, 10, 13] = spaceL s := by
  unfold Lib.trimLeftS spaceL
  congr 1
  funext c
  rw [Bool.eq_iff_iff]
  simp [isSp, or_assoc]
theorem bp_end {P : Program} {fn : Func} {R : Ending → World → Prop} {tmps : Array Value} {w : World} (hr : fn.results = #[]) (hR : R (.returned (.tuple #[])) w) :
    bodyPost P fn R .normal { tmps := tmps, defers := [] } w := bodyPost_end (results_none hr _ _ _) rfl hR
theorem fail_any (r : Nat) (s : ByteArray) (bad : Bool) (w : World) (hr : Sr w r s bad) :
    Calls Tryz.prog 94 #[.pointer (some ⟨r, 0, none⟩)] w fun e w' => e = .returned (.tuple #[]) ∧ Sr w' r ⟨#[]⟩ true ∧ Rd r w w' := by
  have hc0 := hr.cells; have hf0 := hr.free; have hl0 := hr.lt
  go_enter Tryz.func94, Tryz.ntmps94
  go_wp2_with fail
  (with_reducible apply bp_end); (focus (rfl))
  exact ⟨rfl, Bxt, ((Rd.refl _ _).set _ _).set _ _⟩
theorem space_any (r : Nat) (s : ByteArray) (bad : Bool) (w : World) (hr : Sr w r s bad) :
    Calls Tryz.prog 43 #[.pointer (some ⟨r, 0, none⟩)] w fun e w' => e = .returned (.tuple #[]) ∧ (∃ s', s'.data.toList = spaceL s.data.toList ∧ Sr w' r s' bad) ∧ Rd r w w' := by
  have hlt := hr.lt
  have hc0 := hr.cells; have hf0 := hr.free; have hl0 := hr.lt
  go_enter Tryz.func43, Tryz.ntmps43
  go_wp2_with fail
  (refine (Any.strings_TrimLeft_laid Tryz.lays161 (by kernel_rfl) s ⟨#[32, 9, 10, 13]⟩ _ (by decide) (ascii_of_all (by decide))).mono ?_); rintro e w1 ⟨rfl, h1⟩
  have h1 : Ext w w1 := h1
  have hr1 := hr.ext h1
  obtain ⟨s1, hs1⟩ : ∃ s1 : ByteArray, (⟨(Lib.trimLeftS s.data.toList [32, 9, 10, 13]).toArray⟩ : ByteArray) = s1 := ⟨_, rfl⟩
  have hs2 : s1.data.toList = spaceL s.data.toList := by rw [← hs1, ← trim_space]
  have Hs2 := Lib.hid hs2
  clear hc0 hf0 hl0 hs2
  have hc1 := hr1.cells; have hf1 := hr1.free; have hl1 := hr1.lt
  have e1 : (⟨(Lib.trimLeftS s.data.toList (⟨#[32, 9, 10, 13]⟩ : ByteArray).data.toList).toArray⟩ : ByteArray) = s1 := hs1
  rw [e1]
  clear e1 hs1
  go_wp2_with fail
  (with_reducible apply bp_end); (focus (rfl))
  exact ⟨rfl, ⟨s1, Hs2.out, Bxt⟩, (Rd.of hlt h1).set _ _⟩
def headB (l : Bytes) : UInt8 := l.headD 0
theorem head_at {s : ByteArray} (h : 0 < s.size) : s[0] = headB s.data.toList := by
  have h' : 0 < s.data.toList.length := by rw [Array.length_toList]; exact h
  unfold headB
  cases hc : s.data.toList with
  | nil => rw [hc] at h'; simp at h'
  | cons c t =>
    have : s.data.toList[0]'h' = c := by simp [hc]
    rw [List.headD_cons, ← this]; rfl
theorem next_any (r : Nat) (s : ByteArray) (bad : Bool) (w : World) (hr : Sr w r s bad) :
    Calls Tryz.prog 95 #[.pointer (some ⟨r, 0, none⟩)] w fun e w' => e = .returned (.int .u8 (headB s.data.toList).toNat) ∧ w' = w := by
  have hc0 := hr.cells; have hf0 := hr.free; have hl0 := hr.lt
  by_cases hz : s.data.toList = []
  · have hz1 : s.toList = [] := by rw [ByteArray.toList_eq, hz]
    have hz2 : (s.toList == []) = true := by rw [hz1]; rfl
    have hz3 : s.toList.isEmpty = true := by rw [hz1]; rfl
    rw [hz]
    clear hz
    go_enter Tryz.func95, Tryz.ntmps95
    go_wp2_with fail
    (with_reducible apply bp_ret); (focus (go_light; simp [results, Tryz.results95, go_sem, *]; rfl))
    exact ⟨rfl, rfl⟩
  · have hz1 : ¬ s.toList = [] := by rw [ByteArray.toList_eq]; exact hz
    have hz2 : (s.toList == []) = false := by simpa using hz1
    have hz3 : s.toList.isEmpty = false := by cases h : s.toList with | nil => exact absurd h hz1 | cons => rfl
    have hsz : 0 < s.size := by
      have := List.length_pos_iff.2 hz
      rw [Array.length_toList] at this
      exact this
    have Hh := Lib.hid (head_at hsz)
    clear hz
    go_enter Tryz.func95, Tryz.ntmps95
    go_wp2_with fail
    (with_reducible apply bp_ret); (focus (go_light; simp [results, Tryz.results95, go_sem, *]; rfl))
    refine ⟨?_, rfl⟩
    rw [← Hh.out]
theorem take_any (r : Nat) (s : ByteArray) (bad : Bool) (p : ByteArray) (w : World) (hr : Sr w r s bad) :
    Calls Tryz.prog 96 #[.pointer (some ⟨r, 0, none⟩), .string p] w fun e w' => e = .returned (.tuple #[]) ∧ Rd r w w' ∧
      ((p.data.toList.isPrefixOf s.data.toList = true ∧ ∃ s', s'.data.toList = s.data.toList.drop p.data.toList.length ∧ Sr w' r s' bad) ∨ (p.data.toList.isPrefixOf s.data.toList = false ∧ Sr w' r ⟨#[]⟩ true)) := by
  have hc0 := hr.cells; have hf0 := hr.free; have hl0 := hr.lt
  obtain ⟨s1, hs1⟩ : ∃ s1 : ByteArray, (⟨(Lib.trimPrefix s.data.toList p.data.toList).toArray⟩ : ByteArray) = s1 := ⟨_, rfl⟩
  have hs2 : s1.data.toList = Lib.trimPrefix s.data.toList p.data.toList := by rw [← hs1]
  have Hs1 := Lib.hid hs1
  have Hs2 := Lib.hid hs2
  clear hs1 hs2
  cases hp : Lib.hasPrefix s.data.toList p.data.toList with
  | true =>
    have Hp := Lib.hid hp
    have hp2 : p.data.toList.isPrefixOf s.data.toList = true := hp
    clear hp
    have Hp2 := Lib.hid hp2
    clear hp2
    go_enter Tryz.func96, Tryz.ntmps96
    go_wp2_with fail
    (refine (Tryz.strings_CutPrefix s p _).mono ?_); rintro e w1 ⟨rfl, rfl⟩
    rw [Hs1.out, Hp.out]
    go_wp2_with fail
    (with_reducible apply bp_end); (focus (rfl))
    refine ⟨rfl, (Rd.refl _ _).set _ _, .inl ⟨Hp2.out, s1, ?_, Bxt⟩⟩
    rw [Hs2.out]
    unfold Lib.trimPrefix
    rw [if_pos Hp.out]
  | false =>
    have Hp := Lib.hid hp
    have hp2 : p.data.toList.isPrefixOf s.data.toList = false := hp
    clear hp
    have Hp2 := Lib.hid hp2
    clear hp2
    go_enter Tryz.func96, Tryz.ntmps96
    go_wp2_with fail
    (refine (Tryz.strings_CutPrefix s p _).mono ?_); rintro e w1 ⟨rfl, rfl⟩
    rw [Hs1.out, Hp.out]
    go_wp2_with fail
    (refine (fail_any r s bad _ hr).mono ?_); rintro e w2 ⟨rfl, hr2, h2⟩
    go_wp2_with fail
    (with_reducible apply bp_ret); (focus (go_light; simp [results, Tryz.results96, go_sem, *]; rfl))
    exact ⟨rfl, h2, .inr ⟨Hp2.out, hr2⟩⟩
theorem drop_list (s : ByteArray) (n : Nat) : (s.extract n s.size).data.toList = s.data.toList.drop n := by
  rw [Lib.extract_data, List.take_of_length_le (by rw [List.length_drop, Array.length_toList]; exact Nat.le_refl _)]
def MoreR (r : Nat) (t : Bytes) (bad first : Bool) (c : UInt8) (w : World) (e : Ending) (w' : World) : Prop :=
  Rd r w w' ∧ ∃ (s' : ByteArray) (bad' : Bool), Sr w' r s' bad' ∧ (bad' = true → s'.data.toList = []) ∧
      ((∃ u, t = c :: u ∧ e = .returned (.bool false) ∧ bad' = bad ∧ s'.data.toList = u) ∨
       (headB t ≠ c ∧ e = .returned (.bool (!bad')) ∧ ((first = true ∧ bad' = bad ∧ s'.data.toList = t) ∨ (first = false ∧ ((∃ u, t = 44 :: u ∧ bad' = bad ∧ s'.data.toList = u) ∨ (headB t ≠ 44 ∧ bad' = true))))))
theorem more_any (r : Nat) (s : ByteArray) (bad first : Bool) (c : UInt8) (hc : c ≠ 0) (hb : bad = true → s.data.toList = []) (w : World) (hr : Sr w r s bad) :
    Calls Tryz.prog 138 #[.pointer (some ⟨r, 0, none⟩), .bool first, .int .u8 c.toNat] w (MoreR r (spaceL s.data.toList) bad first c w) := by
  have hlt := hr.lt
  have Hb := Lib.hid hb
  clear hb
  go_enter Tryz.func138, Tryz.ntmps138
  go_wp2_with fail
  (refine (space_any r s bad _ hr).mono ?_); rintro e w1 ⟨rfl, ⟨s1, hs1, hr1⟩, h1⟩
  have Hs1 := Lib.hid hs1
  have hb1 : bad = true → s1.data.toList = [] := fun h => by rw [hs1, Hb.out h]; rfl
  have Hb1 := Lib.hid hb1
  clear hs1 hb1 Hb hr
  have hlt1 := hr1.lt
  by_cases hc1 : headB s1.data.toList = c
  · have hcb : ((headB s1.data.toList).toNat : Int) = (c.toNat : Int) := by rw [hc1]
    have hcc : (((headB s1.data.toList).toNat : Int) == (c.toNat : Int)) = true := by rw [hcb]; simp
    have hne : s1.data.toList ≠ [] := fun h => by rw [h] at hc1; exact hc hc1.symm
    have hsz : 1 ≤ s1.size := by
      have := List.length_pos_iff.2 hne
      rw [Array.length_toList] at this
      exact this
    have hsz1 : (1 : Int) ≤ (s1.size : Int) := by omega
    have hcons : s1.data.toList = c :: s1.data.toList.drop 1 := by
      cases hq : s1.data.toList with
      | nil => exact absurd hq hne
      | cons d t => rw [hq] at hc1; simp only [headB, List.headD_cons] at hc1; rw [hc1]; rfl
    have Hcons := Lib.hid hcons
    clear hcons hne hc1 hcb
    have hc1 := hr1.cells; have hf1 := hr1.free; have hl1 := hr1.lt
    go_wp2_with fail
    (refine (next_any r s1 bad _ hr1).mono ?_); rintro e w2 ⟨rfl, rfl⟩
    go_wp2_with fail
    (with_reducible apply bp_ret); (focus (go_light; simp [results, Tryz.results138, go_sem, *]; rfl))
    rw [← Hs1.out]
    unfold MoreR
    refine ⟨h1.set _ _, s1.extract 1 s1.size, bad, Bxt, fun h => by rw [drop_list, Hb1.out h]; rfl, .inl ⟨s1.data.toList.drop 1, Hcons.out, rfl, rfl, drop_list _ _⟩⟩
  · have hcb : ¬ ((headB s1.data.toList).toNat : Int) = (c.toNat : Int) := fun h => hc1 (by apply UInt8.toNat_inj.1; omega)
    have hcc : (((headB s1.data.toList).toNat : Int) == (c.toNat : Int)) = false := by simpa using hcb
    have Hc1 := Lib.hid hc1
    clear hc1 hcb
    have hc1 := hr1.cells; have hf1 := hr1.free; have hl1 := hr1.lt
    go_wp2_with fail
    (refine (next_any r s1 bad _ hr1).mono ?_); rintro e w2 ⟨rfl, rfl⟩
    cases first with
    | true =>
      go_wp2_with fail
      (with_reducible apply bp_ret); (focus (go_light; simp [results, Tryz.results138, go_sem, *]; rfl))
      rw [← Hs1.out]
      unfold MoreR
      exact ⟨h1, s1, bad, hr1, Hb1.out, .inr ⟨Hc1.out, rfl, .inl ⟨rfl, rfl, rfl⟩⟩⟩
    | false =>
      go_wp2_with fail
      (refine (take_any r s1 bad ⟨#[44]⟩ _ hr1).mono ?_)
      rintro e w3 ⟨rfl, h3, (⟨hp, s3, hs3, hr3⟩ | ⟨hp, hr3⟩)⟩
      · have hcons : s1.data.toList = 44 :: s3.data.toList := by
          rw [hs3]
          cases hq : s1.data.toList with
          | nil => rw [hq] at hp; simp [List.isPrefixOf] at hp
          | cons d t =>
            rw [hq] at hp
            simp only [List.isPrefixOf, Bool.and_true, beq_iff_eq] at hp
            rw [← hp]; rfl
        have Hcons := Lib.hid hcons
        clear hcons hp hs3 hc1 hf1 hl1
        have hc3 := hr3.cells; have hf3 := hr3.free; have hl3 := hr3.lt
        go_wp2_with fail
        (with_reducible apply bp_ret); (focus (go_light; simp [results, Tryz.results138, go_sem, *]; rfl))
        rw [← Hs1.out]
        unfold MoreR
        exact ⟨h1.trans h3, s3, bad, hr3, (fun h => by have := Hb1.out h; rw [Hcons.out] at this; cases this), .inr ⟨Hc1.out, rfl, .inr ⟨rfl, .inl ⟨_, Hcons.out, rfl, rfl⟩⟩⟩⟩
      · have hne : headB s1.data.toList ≠ 44 := fun h => by
          cases hq : s1.data.toList with
          | nil => rw [hq] at h; simp [headB] at h
          | cons d t =>
            rw [hq] at h hp
            simp only [headB, List.headD_cons] at h
            rw [h] at hp
            simp [List.isPrefixOf] at hp
        have Hne := Lib.hid hne
        clear hne hp hc1 hf1 hl1
        have hc3 := hr3.cells; have hf3 := hr3.free; have hl3 := hr3.lt
        go_wp2_with fail
        (with_reducible apply bp_ret); (focus (go_light; simp [results, Tryz.results138, go_sem, *]; rfl))
        rw [← Hs1.out]
        unfold MoreR
        exact ⟨h1.trans h3, ⟨#[]⟩, true, hr3, fun _ => rfl, .inr ⟨Hc1.out, rfl, .inr ⟨rfl, .inr ⟨Hne.out, rfl⟩⟩⟩⟩
end Go.Proofs.YtjibdbnpkfghhaaGreatDoor
