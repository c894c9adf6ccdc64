/- The walks of the reference's values: depthOf, ascii, shaped, GoodValue, CountOf. -/
import Derived.Test.YtjibdbnpkfghhaaGreatDoorPkD
set_option linter.all false
namespace Go.Proofs.YtjibdbnpkfghhaaGreatDoor
open Go.RowKit

/-- How deep a value is. -/
def V.depth : V → Nat | .mk _ _ _ _ l => go l + 1
where go : List V → Nat
  | [] => 0
  | x :: r => max (V.depth x) (go r)
def maxOf (f : V → Nat) : List V → Nat
  | [] => 0
  | x :: r => max (f x) (maxOf f r)
theorem V.depth_eq (x : V) : x.depth = maxOf V.depth x.l + 1 := by
  have h : ∀ l, V.depth.go l = maxOf V.depth l := by
    intro l; induction l with
    | nil => simp [V.depth.go, maxOf]
    | cons x r ih => simp [V.depth.go, maxOf, ih]
  cases x with | mk k n s ks l => simp [V.depth, h]
theorem maxOf_snoc (f : V → Nat) (l : List V) (x : V) : maxOf f (l ++ [x]) = max (maxOf f l) (f x) := by
  induction l with
  | nil => simp [maxOf]
  | cons a r ih => simp only [List.cons_append, maxOf, ih]; omega
theorem maxOf_take (f : V → Nat) (l : List V) {k : Nat} (h : k < l.length) : maxOf f (l.take (k + 1)) = max (maxOf f (l.take k)) (f l[k]) := by
  rw [List.take_succ_eq_append_getElem h, maxOf_snoc]
theorem maxOf_le {f : V → Nat} {l : List V} {b : Nat} : maxOf f l ≤ b ↔ ∀ x ∈ l, f x ≤ b := by
  induction l with
  | nil => simp [maxOf]
  | cons a r ih => simp only [maxOf, List.mem_cons, forall_eq_or_imp]; rw [← ih]; omega
theorem V.depth_le (x : V) : x.depth ≤ x.size := by
  induction x using V.ind with
  | h x ih =>
    rw [V.depth_eq, V.size_eq]
    have : maxOf V.depth x.l ≤ (x.l.map V.size).sum := by
      rw [maxOf_le]; intro y hy
      have := ih y hy; have := sum_ge V.size hy; omega
    omega

theorem maxOf_take_le (f : V → Nat) (l : List V) (k : Nat) : maxOf f (l.take k) ≤ maxOf f l := by
  rw [maxOf_le]; intro x hx
  exact maxOf_le.1 (Nat.le_refl _) x (List.mem_of_mem_take hx)

set_option maxHeartbeats 1000000 in
theorem depth_any (m : Nat) : ∀ (x : V) (ka : Option Addr) (kc : Nat) (la : Option Addr) (lc : Nat) (S : Nat → Prop) (w : World), x.size ≤ m → x.size ≤ 1073741824 → x.In w S ka kc la lc →
    Calls Tryz.prog 78 #[x.val ka kc la lc] w fun e w' => e = .returned (.tuple #[.int .i64 x.depth, .int .i64 x.count]) ∧ Ext w w' := by
  induction m with
  | zero => intro x _ _ _ _ _ _ h; have := x.size_pos; omega
  | succ m ih =>
    intro x ka kc la lc S w hm hsz hin
    have hl := x.len_l
    have hcs := x.count_le
    have Hce := Lib.hid x.count_eq
    have hds := x.depth_le
    have Hde := Lib.hid x.depth_eq
    go_enter Tryz.func78, Tryz.ntmps78
    go_wp2_with fail
    go_loopg [4, 5, 8, 9, 13] x.l.length (fun g dd t _ _ i wr => ∃ k c d : Nat, k ≤ x.l.length ∧ i = .int .i64 k ∧ g = x.l.length - k ∧ t = .int .i64 c ∧ c ≤ x.size ∧ dd = .int .i64 d ∧ d ≤ x.size ∧ c = 1 + ((x.l.take k).map V.count).sum ∧ d = maxOf V.depth (x.l.take k) ∧
      Box wr w.heap.size #[.int .i64 x.k, .int .i64 x.n, .string x.s, .slice ka x.keys.length kc, .slice la x.l.length lc] 25 ∧ Ext w wr)
    case atStart => exact ⟨0, 1, 0, by omega, rfl, rfl, rfl, by omega, rfl, by omega, by simp, by simp [maxOf], Bxt, Xt⟩
    case round =>
      obtain ⟨k, c, d, hk, rfl, rfl, rfl, hcz, rfl, hdz, hc, hd, hB0, hx⟩ := hrel
      have Hc := Lib.hid hc
      have Hd := Lib.hid hd
      clear hc hd
      have hc0 := hB0.cells; have hf0 := hB0.free; have hl0 := hB0.lt
      by_cases hlt : k < x.l.length
      · obtain ⟨b, o, rfl, hS, ka', kc', la', lc', ⟨d0, d1, d2, d3, d4⟩, hin'⟩ := (hin.ext hx).item hlt
        have hsi := V.size_item hlt
        have hci := (x.l[k]).count_le
        have hdi := (x.l[k]).depth_le
        have Hst := Lib.hid (sum_take V.count x.l hlt)
        have Hmt := Lib.hid (maxOf_take V.depth x.l hlt)
        have hle := sum_take_le V.count x.l (k + 1)
        have hsz2 : c + (x.l[k]).count ≤ x.size := by have h1 := Hst.out; have h2 := Hc.out; have h3 := Hce.out; omega
        clear hle
        by_cases hmx : d < (x.l[k]).depth
        · have hmx' : (d : Int) < ((x.l[k]).depth : Int) := by omega
          go_wp2_with (go_at_call 78; (with_reducible refine (ih _ _ _ _ _ _ _ (by omega) (by omega) (hin'.ext Xt)).mono ?_); rintro e w1 ⟨rfl, h1⟩; obtain ⟨hc1, hf1, hz1⟩ := ext_facts h1; (try simp at hz1); (try have hzA : w.heap.size < w1.heap.size := by omega); (try have hzB : w.heap.size + 1 < w1.heap.size := by omega); (try have hzC : w.heap.size + 2 < w1.heap.size := by omega); (try have hzD : w.heap.size + 3 < w1.heap.size := by omega))
          go_roundg (x.l.length - (k + 1))
          case measure => omega
          case rel => exact ⟨k + 1, c + (x.l[k]).count, (x.l[k]).depth, by omega, by go_num, rfl, by go_num, hsz2, by go_num, by omega, by have h1 := Hst.out; have h2 := Hc.out; omega, by have h1 := Hmt.out; have h2 := Hd.out; omega, Bxt, Xt⟩
        · have hmx' : ((x.l[k]).depth : Int) ≤ (d : Int) := by omega
          go_wp2_with (go_at_call 78; (with_reducible refine (ih _ _ _ _ _ _ _ (by omega) (by omega) (hin'.ext Xt)).mono ?_); rintro e w1 ⟨rfl, h1⟩; obtain ⟨hc1, hf1, hz1⟩ := ext_facts h1; (try simp at hz1); (try have hzA : w.heap.size < w1.heap.size := by omega); (try have hzB : w.heap.size + 1 < w1.heap.size := by omega); (try have hzC : w.heap.size + 2 < w1.heap.size := by omega); (try have hzD : w.heap.size + 3 < w1.heap.size := by omega))
          go_roundg (x.l.length - (k + 1))
          case measure => omega
          case rel => exact ⟨k + 1, c + (x.l[k]).count, d, by omega, by go_num, rfl, by go_num, hsz2, by go_num, by omega, by have h1 := Hst.out; have h2 := Hc.out; omega, by have h1 := Hmt.out; have h2 := Hd.out; omega, Bxt, Xt⟩
      · have hd2 : x.depth = d + 1 := by
          have h1 := Hd.out
          rw [List.take_of_length_le (by omega)] at h1
          have h2 := Hde.out
          omega
        have hc2 : x.count = c := by
          have h1 := Hc.out
          rw [List.take_of_length_le (by omega)] at h1
          have h2 := Hce.out
          omega
        have Hd2 := Lib.hid hd2
        have Hc2 := Lib.hid hc2
        clear hd2 hc2
        go_wp2_with fail
        go_ret2
        refine ⟨?_, Xt⟩
        rw [Hd2.out, Hc2.out]
        rfl

theorem bytes_cell (W : World) (s : ByteArray) (cap : Nat) (e : TypeId) (fr : Nat × Nat) (k : Nat) (h : k < s.size) : (W.alloc (.cells (bytesRow s cap) e fr)).cell? ⟨W.heap.size, k, none⟩ = some (.int .u8 s[k].toNat) := by
  rw [cell_of_row _ _ _ _ _ _ (heap_alloc_new W _)]
  unfold bytesRow
  rw [Array.getElem?_append_left (by simpa using h)]
  simp [h]
  rfl

theorem ascii_any (s : ByteArray) (w : World) (hs : s.size ≤ 1073741824) : Calls Tryz.prog 123 #[.string s] w fun e w' => e = .returned (.bool (plainB s)) ∧ Ext w w' := by
  have hcv := fun w => run_bytes_of_string (P := Tryz.prog) w 9 86 5 s Tryz.underlying9 Tryz.underlying86 Tryz.underlying5
  go_enter Tryz.func123, Tryz.ntmps123
  go_wp2_with fail
  refine gen_world (R := fun wx => (∀ k (h : k < s.size), wx.cell? ⟨w.heap.size, k, none⟩ = some (.int .u8 s[k].toNat)) ∧ Ext w wx) ⟨fun k h => bytes_cell w.drew s _ _ _ k h, Xt⟩ ?_
  rintro wx ⟨hc, hx⟩
  go_loopg [4, 8] s.size (fun g _ i wr => ∃ k : Nat, k ≤ s.size ∧ i = .int .i64 k ∧ g = s.size - k ∧ ((s.data.toList.take k).all fun c => decide ((c.toNat : Int) < 128)) = true ∧ wr = wx)
  case atStart => exact ⟨0, Nat.zero_le _, rfl, rfl, rfl, rfl⟩
  case round =>
    obtain ⟨k, hk, rfl, rfl, ht, rfl⟩ := hrel
    have Ht := Lib.hid ht
    clear ht
    by_cases hlt : k < s.size
    · have d0 := hc k hlt
      have Hc := Lib.hid hc
      clear hc
      by_cases h1 : (128 : Int) ≤ (s[k].toNat : Int)
      · have h2 : (127 : Int) < (s[k].toNat : Int) := by omega
        go_wp2_with fail
        go_ret
        exact ⟨ret_bool (plain_bad hlt h1).symm, hx⟩
      · have h2 : (s[k].toNat : Int) ≤ 127 := by omega
        go_wp2_with fail
        go_roundg (s.size - (k + 1))
        case measure => omega
        case rel => exact ⟨k + 1, by omega, by go_num, rfl, plain_take hlt Ht.out (by omega), rfl⟩
    · clear hc
      go_wp2_with fail
      go_ret
      refine ⟨ret_bool ?_, hx⟩
      have := Ht.out
      rw [List.take_of_length_le (by simp; omega)] at this
      unfold plainB
      rw [this]
      simp
      omega
end Go.Proofs.YtjibdbnpkfghhaaGreatDoor
