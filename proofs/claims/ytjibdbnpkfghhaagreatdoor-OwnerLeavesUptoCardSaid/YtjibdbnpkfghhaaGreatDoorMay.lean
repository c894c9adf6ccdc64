/- The walk of point.may. -/
import Derived.Test.YtjibdbnpkfghhaaGreatDoorIdx
import Derived.Test.YtjibdbnpkfghhaaGreatDoorPkD
set_option linter.all false
namespace Go.Proofs.YtjibdbnpkfghhaaGreatDoor
open Go.RowKit
attribute [local go_sem ↓] Go.wp_at_zero Go.wp_at_succ
theorem unesc_len2 (s : List UInt8) : (unescN s).length ≤ s.length * 4 := by
 have h1 := rep_len s [126, 49] [47] (by simp) (by decide)
 have h2 := rep_len (Lib.replaceAll s [126, 49] [47]) [126, 48] [126] (by simp) (by decide)
 unfold unescN
 simp only [List.length_cons, List.length_nil] at h1 h2
 omega
theorem names_small {p : List UInt8} {l : List (List UInt8)} (h : namesL p = some l) : l.length ≤ 2001 ∧ ∀ q ∈ l, q.length ≤ 8000 := by
 unfold namesL at h
 cases p with
 | nil => simp at h; subst h; simp
 | cons c r =>
  simp only at h
  split at h
  ·rename_i hc
   have hr : r.length ≤ 2000 := by have := hc.2; simp at this; omega
   split at h
   ·simp only [Option.some.injEq] at h
    subst h
    refine ⟨by have := split_len r; simp; omega, fun q hq => ?_⟩
    obtain ⟨s, hs, rfl⟩ := List.mem_map.1 hq
    have := split_piece r s hs
    have := unesc_len2 s
    omega
   ·cases h
  ·cases h
theorem namesB_eq {p : ByteArray} {ks : List ByteArray} (h : namesB p = some ks) : namesL p.data.toList = some (ks.map (·.data.toList)) := by
 unfold namesB at h
 cases hn : namesL p.data.toList with
 | none => rw [hn] at h; cases h
 | some m =>
  rw [hn] at h
  simp only [Option.map_some, Option.some.injEq] at h
  subst h
  have : ((fun x : ByteArray => x.data.toList) ∘ fun s : List UInt8 => (⟨s.toArray⟩ : ByteArray)) = id := by funext s; rfl
  simp [this]
theorem namesB_small {p : ByteArray} {ks : List ByteArray} (h : namesB p = some ks) : ks.length ≤ 2001 ∧ ∀ k ∈ ks, k.size ≤ 8000 := by
 obtain ⟨h1, h2⟩ := names_small (namesB_eq h)
 refine ⟨by simpa using h1, fun k hk => ?_⟩
 have := h2 k.data.toList (List.mem_map_of_mem hk)
 have e : k.data.toList.length = k.size := Array.length_toList
 omega
def RetMay (x : V) (p : ByteArray) (w : World) (e : Ending) (w' : World) : Prop :=
 (∃ a n c ks, namesB p = some ks ∧ x.fine = true ∧ e = .returned (.tuple #[.slice a n c, .int .i64 0]) ∧ ks.length = n ∧ SlOk a n c ∧ StrsIn w' (fun b => w.heap.size ≤ b) a ks ∧ Ext w w') ∨
 ((namesB p = none ∨ x.fine = false) ∧ e = .returned (.tuple #[.slice none 0 0, .int .i64 1]) ∧ Ext w w')
set_option maxHeartbeats 1000000 in
theorem may_any (x : V) (ka : Option Addr) (kc : Nat) (la : Option Addr) (lc : Nat) (S : Nat → Prop) (p : ByteArray) (w : World) (hsz : x.size ≤ 1073741824) (hin : x.In w S ka kc la lc) (hp : p.size ≤ 1073741824) (hm : MaxAt w) :
  Calls Tryz.prog 83 #[x.val ka kc la lc, .string p] w (RetMay x p w) := by
 have hf0 : x.fine = false ∨ x.fine = true := by cases x.fine <;> simp
 rcases hf0 with hf | hf
 all_goals
  have Hf := Lib.hid hf
  go_enter Tryz.func83, Tryz.ntmps83
  go_upto_region 1 with fail
  refine gen_world (R := fun wx => Box wx w.heap.size #[.int .i64 x.k, .int .i64 x.n, .string x.s, .slice ka x.keys.length kc, .slice la x.l.length lc] 25 ∧ Ext w wx) ⟨Bxt, Xt⟩ ?_
  rintro wa ⟨hB0, hxa⟩
  go_wp2_with fail
  (refine (split_any p hp _ (hm.ext Xt)).mono ?_)
  rintro e w1 (⟨l', a, n, c, ks, h1, rfl, h2, h3, h4, h5, h6⟩ | ⟨h1, rfl, h6⟩)
 ·have hnb := namesB_of (ks := ks) (p := p) (by rw [h1, h3])
  have Hnb := Lib.hid hnb
  have hB0 := Box.ext h6 hB0
  have hx1 : Ext w w1 := Xt
  have hsz0 := hxa.size
  clear h6 hxa h1 h3 hnb h2 h5
  have hc0 := hB0.cells; have hf0 := hB0.free; have hl0 := hB0.lt
  go_wp2_with fail
  (with_reducible refine (fine_any x ka kc la lc S _ hsz (hin.ext Xt)).mono ?_); rintro e w2 ⟨rfl, h2'⟩; obtain ⟨hcw2, hfw2, hzw2⟩ := ext_facts h2'; (try simp at hzw2); (try have hzAw2 : w.heap.size < w2.heap.size := by omega); (try have hzBw2 : w.heap.size + 1 < w2.heap.size := by omega); (try have hzCw2 : w.heap.size + 2 < w2.heap.size := by omega)
  rw [hf]
  go_wp2
  go_ret2
  exact .inr ⟨.inr Hf.out, rfl, Xt⟩
 ·have Hnb := Lib.hid (namesB_none h1)
  have hx1 : Ext w w1 := Xt
  clear h1 h6 hxa hB0
  go_wp2_with fail
  go_ret2
  exact .inr ⟨.inl Hnb.out, rfl, Xt⟩
 ·have hnb := namesB_of (ks := ks) (p := p) (by rw [h1, h3])
  have Hnb := Lib.hid hnb
  have H2 := Lib.hid h2
  have hB0 := Box.ext h6 hB0
  have hx1 : Ext w w1 := Xt
  have h5 := h5.keep (T := fun b => w.heap.size ≤ b) (fun _ _ _ => rfl) (fun b h _ => Nat.le_trans hxa.size h)
  clear h6 hxa h1 h3 hnb h2
  have hc0 := hB0.cells; have hf0 := hB0.free; have hl0 := hB0.lt
  go_wp2_with fail
  (with_reducible refine (fine_any x ka kc la lc S _ hsz (hin.ext Xt)).mono ?_); rintro e w2 ⟨rfl, h2'⟩; obtain ⟨hcw2, hfw2, hzw2⟩ := ext_facts h2'; (try simp at hzw2); (try have hzAw2 : w.heap.size < w2.heap.size := by omega); (try have hzBw2 : w.heap.size + 1 < w2.heap.size := by omega); (try have hzCw2 : w.heap.size + 2 < w2.heap.size := by omega)
  rw [hf]
  go_wp2
  go_ret2
  exact .inl ⟨a, n, c, ks, Hnb.out, Hf.out, rfl, H2.out, h4, h5.ext Xt, Xt⟩
 ·have Hnb := Lib.hid (namesB_none h1)
  have hx1 : Ext w w1 := Xt
  clear h1 h6 hxa hB0
  go_wp2_with fail
  go_ret2
  exact .inr ⟨.inl Hnb.out, rfl, Xt⟩
end Go.Proofs.YtjibdbnpkfghhaaGreatDoor
