/- OwnerLeaves: for all values the law returns true (an object is made of its leaves); the argument holds at most 1048576 values and letters; the library's listed variables as its text lays them. -/
import Derived.Test.YtjibdbnpkfghhaaGreatDoorPkC
import Derived.Test.YtjibdbnpkfghhaaGreatDoorLibAt
import Derived.Test.YtjibdbnpkfghhaaGreatDoorPkL
import Derived.Test.YtjibdbnpkfghhaaGreatDoorOwH
import Derived.Test.YtjibdbnpkfghhaaGreatDoorOwM2
import Derived.Test.YtjibdbnpkfghhaaGreatDoorAdd
import Derived.HandedShaped
import Derived.SevenTiedAt
set_option linter.all false
namespace Go.Proofs.YtjibdbnpkfghhaaGreatDoor.lawOwnerLeaves
open Go.ChangeShapes Go.WideShapes Go.ChangeAt Go.RowKit
open Go.ChangeMaps (open_string shut_string)
section
attribute [local go_sem ↓] Go.wp_at_zero Go.wp_at_succ
theorem meetL {P : Prop} (G : Nat → Option Addr → Nat → Option Addr → Nat → World → Prop) (H : Nat → Option Addr → Nat → Option Addr → Nat → World → Prop) (reg : (∀ a b c d e w, H a b c d e w → G a b c d e w) → P) (rest : ∀ a b c d e w, H a b c d e w → G a b c d e w) : P := reg rest
theorem gt_zero {x : V} (h : x.l = []) : ¬ (0 : Int) < (x.l.length : Int) := by rw [h]; simp
theorem addL {y x : V} {p : ByteArray} {u : V} (h : addP x p y = (u, 0)) (kb : Option Addr) (kd : Nat) (lb : Option Addr) (ld : Nat) (ka : Option Addr) (kc : Nat) (la : Option Addr) (lc : Nat) (S : Nat → Prop) (w : World) (hl : LibAt w) (hsx : x.size ≤ 536870912) (hsy : y.size ≤ 536862000) (hp : p.size ≤ 1073741824) (hin : x.In w S ka kc la lc) (hjn : y.In w S kb kd lb ld) :
    Calls Tryz.prog 41 #[x.val ka kc la lc, .string p, y.val kb kd lb ld] w (RetV2 S u (.int .i64 0) w) := by
  have := add_any y kb kd lb ld x ka kc la lc p S w hl hsx hsy hp hin hjn
  rwa [h] at this
theorem joinT {l : List ByteArray} {i : Nat} (hi : i ≤ l.length) (a : Option Addr) (c : Nat) (S : Nat → Prop) (w : World) (hs : StrsIn w S a l) (hz : ∀ k ∈ l, k.size ≤ 8000) (hn : l.length ≤ 2001) (hm : MaxAt w) :
    Calls Tryz.prog 40 #[.slice a i c] w fun e w' => e = .returned (.string (joinB (l.take i))) ∧ Ext w w' := by
  have hti : (l.take i).length = i := by rw [List.length_take]; omega
  have hs2 : StrsIn w S a (l.take i) := by
    rcases hs with h | ⟨b, o, rfl, hS, hC⟩
    · exact .inl (by rw [h]; simp)
    · exact .inr ⟨b, o, rfl, hS, fun j hj => by rw [List.getElem_take]; exact hC j (by rw [hti] at hj; omega)⟩
  refine (join_any a i c (l.take i) S w hs2 hti (fun j hj => by have := hz _ (List.mem_of_mem_take (List.getElem_mem hj)); omega) (by omega) hm).mono ?_
  rintro e w' ⟨s, rfl, hs, hx⟩
  exact ⟨by rw [show s = joinB (l.take i) from bytes_eq (by rw [hs, joinB_list])], hx⟩
set_option maxRecDepth 100000 in
set_option maxHeartbeats 8000000 in
theorem walk (v : V) (ka0 : Option Addr) (kc0 : Nat) (la0 : Option Addr) (lc0 : Nat) (w : World) (hl : LibAt w) (hvz : v.size ≤ 1048576) (hin0 : v.In w All ka0 kc0 la0 lc0) :
    Calls Tryz.prog 8 #[v.val ka0 kc0 la0 lc0] w fun e w' => e = .returned (.bool true) ∧ Ext w w' := by
  have Hin0 := Lib.hid (hin0.mono (T := fun b => b < w.heap.size) (fun b _ h => h))
  clear hin0
  have hcase : (v.fine = true ∧ v.k = 5) ∨ (v.leaves = [] ∧ (v.fine = false ∨ (v.fine = true ∧ (v.k != 5) = true))) := by
    unfold V.leaves
    by_cases h5 : v.k = 5
    · cases hf : v.fine with
      | true => exact .inl ⟨rfl, h5⟩
      | false => exact .inr ⟨by rw [if_neg (by simp)], .inl rfl⟩
    · exact .inr ⟨by rw [if_neg (fun h => h5 h.2)], by cases hf : v.fine; exact .inl rfl; exact .inr ⟨rfl, by simpa using h5⟩⟩
  have Hcase := Lib.hid hcase
  clear hcase
  go_enter Tryz.func8, Tryz.ntmps8
  go_upto_region 1 with fail
  refine gen_world (R := fun wx => Box wx w.heap.size #[.int .i64 v.k, .int .i64 v.n, .string v.s, .slice ka0 v.keys.length kc0, .slice la0 v.l.length lc0] 25 ∧ Ext w wx) ⟨Bxt, Xt⟩ ?_
  rintro wa ⟨hB0, hxa⟩
  have hl0' := hB0.lt
  rcases Hcase.out with ⟨hf, h5⟩ | ⟨hle, hbad⟩
  · have Hf := Lib.hid hf
    have H5 := Lib.hid h5
    have h5b : (v.k != 5) = false := by rw [h5]; rfl
    have hvs := fine_size hf
    have hll := leaves_len v
    clear hf h5
    have hc0 := hB0.cells; have hf0 := hB0.free; have hl0 := hB0.lt
    go_wp2_with fail
    (refine (fine_any v ka0 kc0 la0 lc0 _ _ (by omega) (Hin0.out.ext Xt)).mono ?_)
    rw [Hf.out]
    rintro e w1 ⟨rfl, h1⟩
    have hB0 := Box.ext (w' := w1) Xt hB0
    have hx1 : Ext w w1 := Xt
    clear h1 hc0 hf0 hl0 hxa hl0'
    have hc0 := hB0.cells; have hf0 := hB0.free; have hl0 := hB0.lt
    go_upto_region 4 with fail
    obtain ⟨B, hB⟩ : ∃ B, w1.heap.size = B := ⟨_, rfl⟩
    have hBw : w.heap.size < B := by omega
    rw [hB]
    refine gen_world (R := fun wx => Box wx B #[.int .i64 5, .int .i64 0, .string ⟨#[]⟩, .slice none 0 0, .slice none 0 0] 25 ∧ Box wx w.heap.size #[.int .i64 v.k, .int .i64 v.n, .string v.s, .slice ka0 v.keys.length kc0, .slice la0 v.l.length lc0] 25 ∧ Ext w wx) ⟨by rw [← hB]; exact Bxt, Bxt, Xt⟩ ?_
    clear hB0 hc0 hf0 hl0 hx1 hB
    rintro wb ⟨hB3, hB0, hxb⟩
    have Hin0 := Lib.hid (Hin0.out.mono (T := fun b => b ≠ B) (fun b h _ => by omega))
    have hlb := hB3.lt
    have hc0 := hB0.cells; have hf0 := hB0.free; have hl0 := hB0.lt
    go_wp2_with fail
    (refine (leavesO_any v ka0 kc0 la0 lc0 _ _ (by omega) (Hin0.out.ext Xt) (hl.max.ext Xt)).mono ?_)
    rintro e w2 ⟨a8, c8, rfl, hok8, hst8, h2⟩
    have hB0 := Box.ext (w' := w2) Xt hB0
    have hB3 := Box.ext (w' := w2) Xt hB3
    have hB3 : Box w2 B #[.int .i64 V.none5.k, .int .i64 V.none5.n, .string V.none5.s, .slice none V.none5.keys.length 0, .slice none V.none5.l.length 0] 25 := hB3
    have hx2 : Ext w w2 := Xt
    have Hst8 := Lib.hid (hst8.keep (T := fun b => b ≠ B) (fun _ _ _ => rfl) (fun b h _ => by (try simp at h); omega))
    clear h2 hst8 hc0 hf0 hl0 hxb hlb
    go_wp2_with fail
    go_loopg [32] v.leaves.length (fun g i wr => ∃ (k : Nat) (u : V) (ku : Option Addr) (cu : Nat) (lu : Option Addr) (du : Nat), k ≤ v.leaves.length ∧ i = .int .i64 k ∧ g = v.leaves.length - k ∧ Inv v u k ∧ Box wr B #[.int .i64 u.k, .int .i64 u.n, .string u.s, .slice ku u.keys.length cu, .slice lu u.l.length du] 25 ∧ Box wr w.heap.size #[.int .i64 v.k, .int .i64 v.n, .string v.s, .slice ka0 v.keys.length kc0, .slice la0 v.l.length lc0] 25 ∧ u.In wr (fun b => b ≠ B) ku cu lu du ∧ StrsIn wr (fun b => b ≠ B) a8 v.leaves ∧ Ext w wr)
    case atStart => exact ⟨0, V.none5, none, 0, none, 0, Nat.zero_le _, rfl, rfl, inv_start Hf.out H5.out, Bxt, Bxt, (V.in_iff ..).2 ⟨SlOk.nil, SlOk.nil, .inl rfl, .inl rfl⟩, Hst8.out.ext Xt, Xt⟩
    case round =>
      obtain ⟨wo, rfl⟩ : ∃ x, x = wr := ⟨_, rfl⟩
      clear hB0 hB3 Hst8 hx2 hok8
      obtain ⟨k, u, ku, cu, lu, du, hk, rfl, rfl, hI, hB3, hB0, hinu, hst8, hx⟩ := hrel
      have HI := Lib.hid hI
      have Hinu := Lib.hid hinu
      have Hst8 := Lib.hid hst8
      have hlo := hB3.lt
      clear hI hinu hst8
      by_cases hlt : k < v.leaves.length
      · obtain ⟨b2, o2, rfl, hS2, hC⟩ := Hst8.out.resolve_left (by intro h; rw [h] at hlt; simp at hlt)
        have e0 := hC k hlt
        have hqz := leaf_size (List.getElem_mem hlt)
        obtain ⟨-, -, l0, -, hl0n, hl0e, hl0l, hl0p, -⟩ := leaf_at (List.getElem_mem hlt)
        have Hab := Lib.hid (fun (u : V) (i : Nat) => step_above (u := u) (i := i) Hf.out hlt hl0n)
        have Hlf := Lib.hid (fun (u : V) => step_leaf (u := u) Hf.out hlt hl0n)
        have Hst0 := Lib.hid (show InvI v u k l0 1 from ⟨HI.out, fun j h0 h1 => by omega⟩)
        have hgx : ∃ x, getP v v.leaves[k] = (x, 0) ∧ (x.k = 5 → x.l = []) ∧ x.size ≤ 14640 := by
          obtain ⟨-, -, l', -, hl', -, -, -, x, hx0, -, hxl⟩ := leaf_at (List.getElem_mem hlt)
          have hxf := go_fine Hf.out hx0
          refine ⟨x, ?_, hxl, fine_size hxf⟩
          unfold getP
          rw [hl']
          simp only
          rw [if_neg (by rw [Hf.out]; simp), get_go l' (fine_sound Hf.out) (fun i hi t ht => way_obj (fine_sound Hf.out) (.same v) hx0 hi ht), hx0]
        obtain ⟨x, hgx, hxl, hxz⟩ := hgx
        obtain ⟨q, hq⟩ : ∃ q, v.leaves[k] = q := ⟨_, rfl⟩
        have hnd : namesD q = l0 := by rw [← hq]; unfold namesD; rw [hl0n]; rfl
        have hns : (namesB q).isSome = true := by rw [← hq, hl0n]; rfl
        rw [hq] at e0 hqz hgx Hlf
        have Hgx := Lib.hid hgx
        have Hxl := Lib.hid hxl
        have hlp : ∀ a ∈ l0, a.size ≤ 8000 := fun a ha => by have := plain_size (hl0p a ha); omega
        have Hlp := Lib.hid hlp
        have hl1 : 1 ≤ l0.length := List.length_pos_iff.2 hl0e
        have Hjs := Lib.hid (fun (i : Nat) => join_size hl0p hl0l i)
        have Hnd := Lib.hid hnd
        have Hns := Lib.hid hns
        clear hC hq hgx hxl hl0n hl0e hl0p hlp hnd hns
        have hc0 := hB0.cells; have hf0 := hB0.free; have hl0 := hB0.lt
        go_wp2_with fail
        (refine (get_any v ka0 kc0 la0 lc0 (fun b => b ≠ B) q _ (by omega) (Hin0.out.ext Xt) (by omega) (hl.ext Xt)).mono ?_)
        rw [Hgx.out]
        rintro e wc ⟨kx, cx, lx, dx, rfl, hinx, hc⟩
        have hxoc : Ext wo wc := Xt
        have Hinx := Lib.hid (hinx.mono (T := fun b => b ≠ B) (fun b h _ => by rcases h with h | h; exact h; (try simp at h); omega))
        clear hc hinx hc0 hf0 hl0
        go_upto_region 8 with fail
        obtain ⟨D, hD⟩ : ∃ D, wc.heap.size = D := ⟨_, rfl⟩
        have hDB : D ≠ B := by have := hxoc.size; omega
        rw [hD]
        refine gen_world (R := fun wx => Box wx D #[.int .i64 x.k, .int .i64 x.n, .string x.s, .slice kx x.keys.length cx, .slice lx x.l.length dx] 25 ∧ Ext wc wx) ⟨by rw [← hD]; exact Bxt, Xt⟩ ?_
        clear hD
        rintro wd ⟨hB6, hxd⟩
        have hxod : Ext wo wd := hxoc.trans hxd
        have hxwd : Ext w wd := hx.trans hxod
        have Hinx := Lib.hid (V.In.ext Hinx.out hxd)
        clear hxoc hxd
        go_wp2_with fail
        (refine (splitD_any q _ (by omega) (hl.max.ext Xt)).mono ?_)
        rw [show RetD q = fun w e w' => ∃ a c, e = .returned (.tuple #[.slice a (namesD q).length c, .int .i64 (if (namesB q).isSome = true then 0 else 1)]) ∧ SlOk a (namesD q).length c ∧ StrsIn w' (fun b => w.heap.size ≤ b) a (namesD q) ∧ Ext w w' from rfl]
        rw [Hnd.out, if_pos Hns.out]
        rintro e we ⟨na, nc, rfl, hsln, hstn, he⟩
        have hxoe : Ext wo we := hxod.trans Xt
        have hxwe : Ext w we := hx.trans hxoe
        have hsz := hxod.size
        have hB6 := Box.ext (w' := we) Xt hB6
        have hB3 := Box.ext hxoe hB3
        have hB0 := Box.ext hxoe hB0
        have Hinu := Lib.hid (V.In.ext Hinu.out hxoe)
        have Hst8 := Lib.hid (Hst8.out.ext hxoe)
        have Hinx := Lib.hid (V.In.ext (w' := we) Hinx.out Xt)
        have Hstn := Lib.hid (hstn.keep (T := fun b => b ≠ B) (fun _ _ _ => rfl) (fun b h _ => by (try simp at h); omega))
        have Hsln := Lib.hid hsln
        clear he hstn hsln hxod hxwd hxoe
        have hc6 := hB6.cells; have hf6 := hB6.free; have hl6 := hB6.lt
        go_upto_region 9 with fail
        go_cut [63] (fun s wx => s = .bool false ∧ we = wx)
        case first =>
          by_cases hx5 : x.k = 5
          · have hx5b : (x.k == 5) = true := by rw [hx5]; rfl
            have Hx5 := Lib.hid hx5
            clear hx5
            go_wp2_with fail
            go_meet
            exact ⟨congrArg Value.bool (by rw [Hxl.out Hx5.out]; rfl), rfl⟩
          · have hx5b : (x.k == 5) = false := by simpa using hx5
            clear hx5
            go_wp2_with fail
            go_meet
            exact ⟨rfl, rfl⟩
        case rest =>
          obtain ⟨hs, rfl⟩ := hcut
          subst hs
          clear hc6 hf6 hl6
          go_wp2_with fail
          go_loopg [10] (l0.length - 1) (fun g i wr => ∃ (j : Nat) (u : V) (ku : Option Addr) (cu : Nat) (lu : Option Addr) (du : Nat), 1 ≤ j ∧ j ≤ l0.length ∧ i = .int .i64 j ∧ g = l0.length - j ∧ InvI v u k l0 j ∧ Box wr B #[.int .i64 u.k, .int .i64 u.n, .string u.s, .slice ku u.keys.length cu, .slice lu u.l.length du] 25 ∧ Box wr w.heap.size #[.int .i64 v.k, .int .i64 v.n, .string v.s, .slice ka0 v.keys.length kc0, .slice la0 v.l.length lc0] 25 ∧ u.In wr (fun b => b ≠ B) ku cu lu du ∧ StrsIn wr (fun b => b ≠ B) (some ⟨b2, o2, none⟩) v.leaves ∧ Ext w wr ∧ Box wr D #[.int .i64 x.k, .int .i64 x.n, .string x.s, .slice kx x.keys.length cx, .slice lx x.l.length dx] 25 ∧ x.In wr (fun b => b ≠ B) kx cx lx dx ∧ StrsIn wr (fun b => b ≠ B) na l0)
          case atStart => exact ⟨1, u, ku, cu, lu, du, Nat.le_refl _, hl1, rfl, rfl, Hst0.out, Bxt, Bxt, Hinu.out.ext Xt, Hst8.out.ext Xt, Xt, Bxt, Hinx.out.ext Xt, Hstn.out.ext Xt⟩
          case round =>
            obtain ⟨wi, rfl⟩ : ∃ x, x = wr := ⟨_, rfl⟩
            clear hB3 hB0 hB6 Hinu Hst8 Hinx Hstn Hst0 HI hxwe hx
            obtain ⟨j, u, ku, cu, lu, du, hj1, hjl, rfl, rfl, hI, hB3, hB0, hinu, hst8, hxi, hB6, hinx, hstn⟩ := hrel
            have Hinu := Lib.hid hinu
            have Hst8 := Lib.hid hst8
            have Hinx := Lib.hid hinx
            have Hstn := Lib.hid hstn
            have hus := hI.1.size Hf.out
            have HI := Lib.hid hI
            have hli := hB3.lt
            clear hinu hst8 hinx hstn hI
            by_cases hlt2 : j < l0.length
            · obtain ⟨b4, o4, rfl, -, -⟩ := Hstn.out.resolve_left (by intro h; rw [h] at hl1; simp at hl1)
              have hj0 : (0 : Int) ≤ (j : Int) := by omega
              have hjc : (j : Int) ≤ (nc : Int) := by have := Hsln.out.1; omega
              have hjn : j ≤ nc := by have := Hsln.out.1; omega
              have hjc2 : ¬ (nc : Int) < (j : Int) := by omega
              have hjc3 : ¬ nc < j := by omega
              have hab := Hab.out u j HI.out (by omega) hlt2
              obtain ⟨gz, gg, hget⟩ : ∃ gz gg, getP u (joinB (l0.take j)) = (gz, gg) := ⟨_, _, rfl⟩
              rw [hget] at hab
              have Hget := Lib.hid hget
              have Hab2 := Lib.hid hab
              clear hget hab
              go_upto_region 14 with fail
              refine meetL ?G1 (fun bt k3 c3 l3 d3 wy => Ext wi wy) (fun cont => ?reg1) ?rest1
              case reg1 =>
                have Sof : ∀ w', Ext wi w' → (w'.cell? ⟨B, 0, none⟩ = some (.int .i64 u.k) ∧ w'.cell? ⟨B, 1, none⟩ = some (.int .i64 u.n) ∧ w'.cell? ⟨B, 2, none⟩ = some (.string u.s) ∧ w'.cell? ⟨B, 3, none⟩ = some (.slice ku u.keys.length cu) ∧ w'.cell? ⟨B, 4, none⟩ = some (.slice lu u.l.length du)) := fun w' e => ⟨e.cell (hB3.cells 0), e.cell (hB3.cells 1), e.cell (hB3.cells 2), e.cell (hB3.cells 3), e.cell (hB3.cells 4)⟩
                refine wp_region_till (S := fun w' => w'.cell? ⟨B, 0, none⟩ = some (.int .i64 u.k) ∧ w'.cell? ⟨B, 1, none⟩ = some (.int .i64 u.n) ∧ w'.cell? ⟨B, 2, none⟩ = some (.string u.s) ∧ w'.cell? ⟨B, 3, none⟩ = some (.slice ku u.keys.length cu) ∧ w'.cell? ⟨B, 4, none⟩ = some (.slice lu u.l.length du)) (c := 11) (by kernel_rfl) ?_
                (refine wpAnyT_take (i := 0) (v := ?_) [10, 11] (Array.getElem?_eq_getElem (by decide)) (by kernel_rfl) (by kernel_rfl) (by kernel_rfl) (by kernel_rfl) rfl rfl (by kernel_rfl) (fun _ _ _ h => h) (Or.inl ⟨by kernel_rfl, ?_⟩) (Sof _ Xt) ?_); rotate_left; (focus (intro w hSw; (try dsimp only at hSw); (try simp only [rl]); go_simp; (try with_reducible rfl))); (try simp only [rl])
                (refine wpAnyT_take (i := 1) (v := ?_) [10, 11] (Array.getElem?_eq_getElem (by decide)) (by kernel_rfl) (by kernel_rfl) (by kernel_rfl) (by kernel_rfl) rfl rfl (by kernel_rfl) (fun _ _ _ h => h) (Or.inl ⟨by kernel_rfl, ?_⟩) (Sof _ Xt) ?_); rotate_left; (focus (intro w hSw; (try dsimp only at hSw); (try simp only [rl]); go_simp; (try with_reducible rfl))); (try simp only [rl])
                (refine wpAnyT_take (i := 2) (v := ?_) [10, 11] (Array.getElem?_eq_getElem (by decide)) (by kernel_rfl) (by kernel_rfl) (by kernel_rfl) (by kernel_rfl) rfl rfl (by kernel_rfl) (fun _ _ _ h => h) (Or.inl ⟨by kernel_rfl, ?_⟩) (Sof _ Xt) ?_); rotate_left; (focus (intro w hSw; (try dsimp only at hSw); (try simp only [rl]); go_simp; (try with_reducible rfl))); (try simp only [rl])
                (refine wpAnyT_take (i := 3) (v := ?_) [10, 11] (Array.getElem?_eq_getElem (by decide)) (by kernel_rfl) (by kernel_rfl) (by kernel_rfl) (by kernel_rfl) rfl rfl (by kernel_rfl) (fun _ _ _ h => h) (Or.inl ⟨by kernel_rfl, ?_⟩) (Sof _ Xt) ?_); rotate_left; (focus (intro w hSw; (try dsimp only at hSw); (try simp only [rl]); go_simp; (try with_reducible rfl))); (try simp only [rl])
                refine wpAnyT_ready (rs := [4, 9]) (by kernel_rfl) (by simp) ?_
                refine AllReadyT.cons (Array.getElem?_eq_getElem (by decide)) (fun K hK => ?_) (AllReadyT.cons (Array.getElem?_eq_getElem (by decide)) (fun K hK => ?_) AllReadyT.nil)
                · (try simp only [rl])
                  (try go_simp)
                  (refine (joinT (by omega) _ _ _ _ (Hstn.out.ext Xt) Hlp.out (by omega) (hl.max.ext Xt)).mono ?_)
                  rintro e w1 ⟨rfl, h1⟩
                  (try go_simp)
                  have hxi1 : Ext wi w1 := Xt
                  have hz1 := hxi1.size
                  refine hK.out _ _ (fun _ => Sof _ Xt) ?_; clear hK K; (try simp only [rl])
                  refine wpAnyT_ready (rs := [5, 9]) (by kernel_rfl) (by simp) ?_
                  refine AllReadyT.cons (Array.getElem?_eq_getElem (by decide)) (fun K hK => ?_) (AllReadyT.cons (Array.getElem?_eq_getElem (by decide)) (fun K hK => ?_) AllReadyT.nil)
                  · (try simp only [rl])
                    (try go_simp)
                    (refine (get_any u ku cu lu du (fun b => b ≠ B) _ _ (by omega) (Hinu.out.ext Xt) (by have := Hjs.out j; omega) (hl.ext Xt)).mono ?_)
                    rw [Hget.out]
                    rintro e w2 ⟨k3, c3, l3, d3, rfl, hin3, h3⟩
                    (try go_simp)
                    have hxi2 : Ext wi w2 := Xt
                    refine hK.out _ _ (fun _ => Sof _ Xt) ?_; clear hK K; (try simp only [rl])
                    (refine wpAnyT_take (i := 6) (v := ?_) [10, 11] (Array.getElem?_eq_getElem (by decide)) (by kernel_rfl) (by kernel_rfl) (by kernel_rfl) (by kernel_rfl) rfl rfl (by kernel_rfl) (fun _ _ _ h => h) (Or.inl ⟨by kernel_rfl, ?_⟩) (Sof _ Xt) ?_); rotate_left; (focus (intro w hSw; (try dsimp only at hSw); (try simp only [rl]); go_simp; (try with_reducible rfl))); (try simp only [rl])
                    (refine wpAnyT_take (i := 7) (v := ?_) [10, 11] (Array.getElem?_eq_getElem (by decide)) (by kernel_rfl) (by kernel_rfl) (by kernel_rfl) (by kernel_rfl) rfl rfl (by kernel_rfl) (fun _ _ _ h => h) (Or.inl ⟨by kernel_rfl, ?_⟩) (Sof _ Xt) ?_); rotate_left; (focus (intro w hSw; (try dsimp only at hSw); (try simp only [rl]); go_simp; (try with_reducible rfl))); (try simp only [rl])
                    (refine wpAnyT_take (i := 8) (v := ?_) [11] (Array.getElem?_eq_getElem (by decide)) (by kernel_rfl) (by kernel_rfl) (by kernel_rfl) (by kernel_rfl) rfl rfl (by kernel_rfl) (fun _ _ _ h => h) (Or.inl ⟨by kernel_rfl, ?_⟩) (Sof _ Xt) ?_); rotate_left; (focus (intro w hSw; (try dsimp only at hSw); (try simp only [rl]); go_simp; (try with_reducible rfl))); (try simp only [rl])
                    (refine wpAnyT_one (i := 9) (by kernel_rfl) (Array.getElem?_eq_getElem (by decide)) fun K hK => ?_); (try simp only [rl])
                    go_simp
                    refine hK.out _ _ (fun _ => Sof _ Xt) ?_; clear hK K; (try simp only [rl])
                    (refine wpAnyT_one (i := 10) (by kernel_rfl) (Array.getElem?_eq_getElem (by decide)) fun K hK => ?_); (try simp only [rl])
                    go_simp
                    refine hK.out _ _ (fun _ => Sof _ Xt) ?_; clear hK K; (try simp only [rl])
                    (refine wpAnyT_one (i := 11) (by kernel_rfl) (Array.getElem?_eq_getElem (by decide)) fun K hK => ?_); (try simp only [rl])
                    go_simp
                    (refine hK.out _ _ (fun h => Bool.noConfusion (show true = false from h)) ?_); clear hK K; (try simp only [rl])
                    refine wpAnyT_done (by kernel_rfl) ?_ _
                    have HP : ∀ wy, wy = (w2.alloc (.cells #[.int .i64 gz.k, .int .i64 gz.n, .string gz.s, .slice k3 gz.keys.length c3, .slice l3 gz.l.length d3] 25)) → Ext wi wy := by
                      rintro wy rfl
                      exact Xt
                    obtain ⟨wy, hwy⟩ : ∃ wy, wy = (w2.alloc (.cells #[.int .i64 gz.k, .int .i64 gz.n, .string gz.s, .slice k3 gz.keys.length c3, .slice l3 gz.l.length d3] 25)) := ⟨_, rfl⟩
                    have HP := HP wy hwy
                    rw [← hwy]
                    clear hwy
                    generalize w2.heap.size = bt at HP ⊢
                    exact cont bt k3 c3 l3 d3 wy HP
                  · (try simp only [rl])
                    go_simp
                    refine hK.out _ _ (fun _ => Sof _ Xt) ?_; clear hK K; (try simp only [rl])
                    (refine wpAnyT_one (i := 5) (by kernel_rfl) (Array.getElem?_eq_getElem (by decide)) fun K hK => ?_); (try simp only [rl])
                    (try go_simp)
                    (refine (get_any u ku cu lu du (fun b => b ≠ B) _ _ (by omega) (Hinu.out.ext Xt) (by have := Hjs.out j; omega) (hl.ext Xt)).mono ?_)
                    rw [Hget.out]
                    rintro e w2 ⟨k3, c3, l3, d3, rfl, hin3, h3⟩
                    (try go_simp)
                    have hBt : Box w2 w1.heap.size #[.int .i64 0, .int .i64 0, .string ⟨#[]⟩, .slice none 0 0, .slice none 0 0] 25 := Box.ext (w := (w1).alloc (.cells #[.int .i64 0, .int .i64 0, .string ⟨#[]⟩, .slice none 0 0, .slice none 0 0] 25)) Xt Bxt
                    have hxi2 : Ext wi w2 := Xt
                    refine hK.out _ _ (fun _ => Sof _ Xt) ?_; clear hK K; (try simp only [rl])
                    have hct := hBt.cells; have hft := hBt.free; have hlt := hBt.lt
                    (refine wpAnyT_take (i := 6) (v := ?_) [10, 11] (Array.getElem?_eq_getElem (by decide)) (by kernel_rfl) (by kernel_rfl) (by kernel_rfl) (by kernel_rfl) rfl rfl (by kernel_rfl) (fun _ _ _ h => h) (Or.inl ⟨by kernel_rfl, ?_⟩) (Sof _ Xt) ?_); rotate_left; (focus (intro w hSw; (try dsimp only at hSw); (try simp only [rl]); go_simp; (try with_reducible rfl))); (try simp only [rl])
                    (refine wpAnyT_take (i := 7) (v := ?_) [10, 11] (Array.getElem?_eq_getElem (by decide)) (by kernel_rfl) (by kernel_rfl) (by kernel_rfl) (by kernel_rfl) rfl rfl (by kernel_rfl) (fun _ _ _ h => h) (Or.inl ⟨by kernel_rfl, ?_⟩) (Sof _ Xt) ?_); rotate_left; (focus (intro w hSw; (try dsimp only at hSw); (try simp only [rl]); go_simp; (try with_reducible rfl))); (try simp only [rl])
                    (refine wpAnyT_take (i := 8) (v := ?_) [11] (Array.getElem?_eq_getElem (by decide)) (by kernel_rfl) (by kernel_rfl) (by kernel_rfl) (by kernel_rfl) rfl rfl (by kernel_rfl) (fun _ _ _ h => h) (Or.inl ⟨by kernel_rfl, ?_⟩) (Sof _ Xt) ?_); rotate_left; (focus (intro w hSw; (try dsimp only at hSw); (try simp only [rl]); go_simp; (try with_reducible rfl))); (try simp only [rl])
                    (refine wpAnyT_one (i := 10) (by kernel_rfl) (Array.getElem?_eq_getElem (by decide)) fun K hK => ?_); (try simp only [rl])
                    go_simp
                    refine hK.out _ _ (fun _ => Sof _ Xt) ?_; clear hK K; (try simp only [rl])
                    (refine wpAnyT_one (i := 11) (by kernel_rfl) (Array.getElem?_eq_getElem (by decide)) fun K hK => ?_); (try simp only [rl])
                    go_simp
                    (refine hK.out _ _ (fun h => Bool.noConfusion (show true = false from h)) ?_); clear hK K; (try simp only [rl])
                    refine wpAnyT_done (by kernel_rfl) ?_ _
                    exact cont _ _ _ _ _ _ (by exact Xt)
                · (try simp only [rl])
                  go_simp
                  refine hK.out _ _ (fun _ => Sof _ Xt) ?_; clear hK K; (try simp only [rl])
                  (refine wpAnyT_one (i := 4) (by kernel_rfl) (Array.getElem?_eq_getElem (by decide)) fun K hK => ?_); (try simp only [rl])
                  (try go_simp)
                  (refine (joinT (by omega) _ _ _ _ (Hstn.out.ext Xt) Hlp.out (by omega) (hl.max.ext Xt)).mono ?_)
                  rintro e w1 ⟨rfl, h1⟩
                  (try go_simp)
                  have hBt1 : Box w1 wi.heap.size #[.int .i64 0, .int .i64 0, .string ⟨#[]⟩, .slice none 0 0, .slice none 0 0] 25 := Box.ext (w := (wi).alloc (.cells #[.int .i64 0, .int .i64 0, .string ⟨#[]⟩, .slice none 0 0, .slice none 0 0] 25)) (Ext.trans Xt h1) Bxt
                  have hxi1 : Ext wi w1 := Xt
                  have hz1 := hxi1.size
                  refine hK.out _ _ (fun _ => Sof _ Xt) ?_; clear hK K; (try simp only [rl])
                  (refine wpAnyT_one (i := 5) (by kernel_rfl) (Array.getElem?_eq_getElem (by decide)) fun K hK => ?_); (try simp only [rl])
                  (try go_simp)
                  (refine (get_any u ku cu lu du (fun b => b ≠ B) _ _ (by omega) (Hinu.out.ext Xt) (by have := Hjs.out j; omega) (hl.ext Xt)).mono ?_)
                  rw [Hget.out]
                  rintro e w2 ⟨k3, c3, l3, d3, rfl, hin3, h3⟩
                  (try go_simp)
                  have hBt : Box w2 wi.heap.size #[.int .i64 0, .int .i64 0, .string ⟨#[]⟩, .slice none 0 0, .slice none 0 0] 25 := Box.ext h3 hBt1
                  have hxi2 : Ext wi w2 := Xt
                  refine hK.out _ _ (fun _ => Sof _ Xt) ?_; clear hK K; (try simp only [rl])
                  have hct := hBt.cells; have hft := hBt.free; have hlt := hBt.lt
                  (refine wpAnyT_take (i := 6) (v := ?_) [10, 11] (Array.getElem?_eq_getElem (by decide)) (by kernel_rfl) (by kernel_rfl) (by kernel_rfl) (by kernel_rfl) rfl rfl (by kernel_rfl) (fun _ _ _ h => h) (Or.inl ⟨by kernel_rfl, ?_⟩) (Sof _ Xt) ?_); rotate_left; (focus (intro w hSw; (try dsimp only at hSw); (try simp only [rl]); go_simp; (try with_reducible rfl))); (try simp only [rl])
                  (refine wpAnyT_take (i := 7) (v := ?_) [10, 11] (Array.getElem?_eq_getElem (by decide)) (by kernel_rfl) (by kernel_rfl) (by kernel_rfl) (by kernel_rfl) rfl rfl (by kernel_rfl) (fun _ _ _ h => h) (Or.inl ⟨by kernel_rfl, ?_⟩) (Sof _ Xt) ?_); rotate_left; (focus (intro w hSw; (try dsimp only at hSw); (try simp only [rl]); go_simp; (try with_reducible rfl))); (try simp only [rl])
                  (refine wpAnyT_take (i := 8) (v := ?_) [11] (Array.getElem?_eq_getElem (by decide)) (by kernel_rfl) (by kernel_rfl) (by kernel_rfl) (by kernel_rfl) rfl rfl (by kernel_rfl) (fun _ _ _ h => h) (Or.inl ⟨by kernel_rfl, ?_⟩) (Sof _ Xt) ?_); rotate_left; (focus (intro w hSw; (try dsimp only at hSw); (try simp only [rl]); go_simp; (try with_reducible rfl))); (try simp only [rl])
                  (refine wpAnyT_one (i := 10) (by kernel_rfl) (Array.getElem?_eq_getElem (by decide)) fun K hK => ?_); (try simp only [rl])
                  go_simp
                  refine hK.out _ _ (fun _ => Sof _ Xt) ?_; clear hK K; (try simp only [rl])
                  (refine wpAnyT_one (i := 11) (by kernel_rfl) (Array.getElem?_eq_getElem (by decide)) fun K hK => ?_); (try simp only [rl])
                  go_simp
                  (refine hK.out _ _ (fun h => Bool.noConfusion (show true = false from h)) ?_); clear hK K; (try simp only [rl])
                  refine wpAnyT_done (by kernel_rfl) ?_ _
                  exact cont _ _ _ _ _ _ (by exact Xt)
              case rest1 =>
                rintro bt k3 c3 l3 d3 wy hxy
                have hB3 := Box.ext hxy hB3
                have hB0 := Box.ext hxy hB0
                have hB6 := Box.ext hxy hB6
                have Hinu := Lib.hid (V.In.ext Hinu.out hxy)
                have Hinx := Lib.hid (V.In.ext Hinx.out hxy)
                have Hst8 := Lib.hid (Hst8.out.ext hxy)
                have Hstn := Lib.hid (Hstn.out.ext hxy)
                have hxwy : Ext w wy := hxi.trans hxy
                have hly := hB3.lt
                clear hxy hxi hli Hget
                rcases Hab2.out with ⟨hg, hnext⟩ | ⟨hg, u2, hadd, hnext⟩
                · have hg : gg = 0 := hg
                  subst hg
                  have Hnext := Lib.hid hnext
                  clear hnext
                  go_wp2_with fail
                  go_roundg (l0.length - (j + 1))
                  case measure => omega
                  case rel => exact ⟨j + 1, u, ku, cu, lu, du, by omega, by omega, by go_num, rfl, Hnext.out, Bxt, Bxt, Hinu.out.ext Xt, Hst8.out.ext Xt, Xt, Bxt, Hinx.out.ext Xt, Hstn.out.ext Xt⟩
                · have hg : gg = 3 := hg
                  subst hg
                  have Hnext := Lib.hid hnext
                  have Hadd := Lib.hid hadd
                  clear hnext hadd
                  go_upto_region 16 with fail
                  have Sof : ∀ w', Ext w w' → True := fun _ _ => trivial
                  refine wp_region_till (S := fun _ => True) (c := 11) (by kernel_rfl) ?_
                  (refine wpAnyT_take (i := 1) (v := ?_) [10, 11] (Array.getElem?_eq_getElem (by decide)) (by kernel_rfl) (by kernel_rfl) (by kernel_rfl) (by kernel_rfl) rfl rfl (by kernel_rfl) (fun _ _ _ h => h) (Or.inl ⟨by kernel_rfl, ?_⟩) (Sof _ Xt) ?_); rotate_left; (focus (intro w hSw; (try dsimp only at hSw); (try simp only [rl]); go_simp; (try with_reducible rfl))); (try simp only [rl])
                  (refine wpAnyT_take (i := 2) (v := ?_) [10, 11] (Array.getElem?_eq_getElem (by decide)) (by kernel_rfl) (by kernel_rfl) (by kernel_rfl) (by kernel_rfl) rfl rfl (by kernel_rfl) (fun _ _ _ h => h) (Or.inl ⟨by kernel_rfl, ?_⟩) (Sof _ Xt) ?_); rotate_left; (focus (intro w hSw; (try dsimp only at hSw); (try simp only [rl]); go_simp; (try with_reducible rfl))); (try simp only [rl])
                  (refine wpAnyT_take (i := 3) (v := ?_) [10, 11] (Array.getElem?_eq_getElem (by decide)) (by kernel_rfl) (by kernel_rfl) (by kernel_rfl) (by kernel_rfl) rfl rfl (by kernel_rfl) (fun _ _ _ h => h) (Or.inl ⟨by kernel_rfl, ?_⟩) (Sof _ Xt) ?_); rotate_left; (focus (intro w hSw; (try dsimp only at hSw); (try simp only [rl]); go_simp; (try with_reducible rfl))); (try simp only [rl])
                  (refine wpAnyT_take (i := 5) (v := ?_) [10, 11] (Array.getElem?_eq_getElem (by decide)) (by kernel_rfl) (by kernel_rfl) (by kernel_rfl) (by kernel_rfl) rfl rfl (by kernel_rfl) (fun _ _ _ h => h) (Or.inl ⟨by kernel_rfl, ?_⟩) (Sof _ Xt) ?_); rotate_left; (focus (intro w hSw; (try dsimp only at hSw); (try simp only [rl]); go_simp; (try with_reducible rfl))); (try simp only [rl])
                  have hc3 := hB3.cells; have hf3 := hB3.free; have hl3 := hB3.lt
                  refine wpAnyT_ready (rs := [0, 4]) (by kernel_rfl) (by simp) ?_
                  refine AllReadyT.cons (Array.getElem?_eq_getElem (by decide)) (fun K hK => ?_) (AllReadyT.cons (Array.getElem?_eq_getElem (by decide)) (fun K hK => ?_) AllReadyT.nil)
                  · (try simp only [rl])
                    go_simp
                    refine hK.out _ _ (fun _ => Sof _ Xt) ?_; clear hK K; (try simp only [rl])
                    (refine wpAnyT_one (i := 4) (by kernel_rfl) (Array.getElem?_eq_getElem (by decide)) fun K hK => ?_); (try simp only [rl])
                    (try go_simp)
                    (refine (joinT (by omega) _ _ _ _ (Hstn.out.ext Xt) Hlp.out (by omega) (hl.max.ext Xt)).mono ?_)
                    rintro e w5 ⟨rfl, h5⟩
                    (try go_simp)
                    have hxy5 : Ext wy w5 := Xt
                    clear hc3 hf3 hl3
                    refine hK.out _ _ (fun _ => Sof _ Xt) ?_; clear hK K; (try simp only [rl])
                    (refine wpAnyT_one (i := 6) (by kernel_rfl) (Array.getElem?_eq_getElem (by decide)) fun K hK => ?_); (try simp only [rl])
                    (try go_simp)
                    (refine (addL (y := V.none5) Hadd.out none 0 none 0 ku cu lu du (fun b => b ≠ B) _ (hl.ext Xt) (by omega) (by decide +kernel) (by have := Hjs.out j; omega) (Hinu.out.ext Xt) ((V.in_iff ..).2 ⟨SlOk.nil, SlOk.nil, .inl rfl, .inl rfl⟩)).mono ?_)
                    rintro e w6 ⟨k5, c5, l5, d5, rfl, hin5, h6⟩
                    (try go_simp)
                    have hxy6 : Ext wy w6 := Xt
                    have hB36 := Box.ext hxy6 hB3
                    have Hin5 := Lib.hid (hin5.mono (T := fun b => b ≠ B) (fun b h _ => by rcases h with h | h; exact h; (try simp at h); have := hxy5.size; omega))
                    refine hK.out _ _ (fun _ => Sof _ Xt) ?_; clear hK K; (try simp only [rl])
                    have hc3 := hB36.cells; have hf3 := hB36.free; have hl3 := hB36.lt
                    (refine wpAnyT_take (i := 7) (v := ?_) [10, 11] (Array.getElem?_eq_getElem (by decide)) (by kernel_rfl) (by kernel_rfl) (by kernel_rfl) (by kernel_rfl) rfl rfl (by kernel_rfl) (fun _ _ _ h => h) (Or.inl ⟨by kernel_rfl, ?_⟩) (Sof _ Xt) ?_); rotate_left; (focus (intro w hSw; (try dsimp only at hSw); (try simp only [rl]); go_simp; (try with_reducible rfl))); (try simp only [rl])
                    (refine wpAnyT_take (i := 8) (v := ?_) [10, 11] (Array.getElem?_eq_getElem (by decide)) (by kernel_rfl) (by kernel_rfl) (by kernel_rfl) (by kernel_rfl) rfl rfl (by kernel_rfl) (fun _ _ _ h => h) (Or.inl ⟨by kernel_rfl, ?_⟩) (Sof _ Xt) ?_); rotate_left; (focus (intro w hSw; (try dsimp only at hSw); (try simp only [rl]); go_simp; (try with_reducible rfl))); (try simp only [rl])
                    (refine wpAnyT_take (i := 9) (v := ?_) [11] (Array.getElem?_eq_getElem (by decide)) (by kernel_rfl) (by kernel_rfl) (by kernel_rfl) (by kernel_rfl) rfl rfl (by kernel_rfl) (fun _ _ _ h => h) (Or.inl ⟨by kernel_rfl, ?_⟩) (Sof _ Xt) ?_); rotate_left; (focus (intro w hSw; (try dsimp only at hSw); (try simp only [rl]); go_simp; (try with_reducible rfl))); (try simp only [rl])
                    (refine wpAnyT_one (i := 10) (by kernel_rfl) (Array.getElem?_eq_getElem (by decide)) fun K hK => ?_); (try simp only [rl])
                    go_simp
                    refine hK.out _ _ (fun _ => Sof _ Xt) ?_; clear hK K; (try simp only [rl])
                    (refine wpAnyT_one (i := 11) (by kernel_rfl) (Array.getElem?_eq_getElem (by decide)) fun K hK => ?_); (try simp only [rl])
                    go_simp
                    (refine hK.out _ _ (fun h => Bool.noConfusion (show true = false from h)) ?_); clear hK K; (try simp only [rl])
                    refine wpAnyT_done (by kernel_rfl) ?_ _
                    clear hin5
                    go_wp2_with fail
                    go_roundg (l0.length - (j + 1))
                    case measure => omega
                    case rel => exact ⟨j + 1, u2, k5, c5, l5, d5, by omega, by omega, by go_num, rfl, Hnext.out, Bxt, Bxt, Hin5.out.keep (Held.kept (a := w6) (T := fun b => b ≠ B) Hxt) (fun b h _ => h), Hst8.out.keep (Held.kept (a := wy) (T := fun b => b ≠ B) Hxt) (fun b h _ => h), Xt, Bxt, Hinx.out.keep (Held.kept (a := wy) (T := fun b => b ≠ B) Hxt) (fun b h _ => h), Hstn.out.keep (Held.kept (a := wy) (T := fun b => b ≠ B) Hxt) (fun b h _ => h)⟩
                  · (try simp only [rl])
                    (try go_simp)
                    (refine (joinT (by omega) _ _ _ _ (Hstn.out.ext Xt) Hlp.out (by omega) (hl.max.ext Xt)).mono ?_)
                    rintro e w5 ⟨rfl, h5⟩
                    (try go_simp)
                    have hxy5 : Ext wy w5 := Xt
                    have hB35 := Box.ext hxy5 hB3
                    refine hK.out _ _ (fun _ => Sof _ Xt) ?_; clear hK K; (try simp only [rl])
                    clear hc3 hf3 hl3
                    have hc3 := hB35.cells; have hf3 := hB35.free; have hl3 := hB35.lt
                    (refine wpAnyT_one (i := 0) (by kernel_rfl) (Array.getElem?_eq_getElem (by decide)) fun K hK => ?_); (try simp only [rl])
                    go_simp
                    clear hc3 hf3 hl3
                    refine hK.out _ _ (fun _ => Sof _ Xt) ?_; clear hK K; (try simp only [rl])
                    (refine wpAnyT_one (i := 6) (by kernel_rfl) (Array.getElem?_eq_getElem (by decide)) fun K hK => ?_); (try simp only [rl])
                    (try go_simp)
                    (refine (addL (y := V.none5) Hadd.out none 0 none 0 ku cu lu du (fun b => b ≠ B) _ (hl.ext Xt) (by omega) (by decide +kernel) (by have := Hjs.out j; omega) (Hinu.out.ext Xt) ((V.in_iff ..).2 ⟨SlOk.nil, SlOk.nil, .inl rfl, .inl rfl⟩)).mono ?_)
                    rintro e w6 ⟨k5, c5, l5, d5, rfl, hin5, h6⟩
                    (try go_simp)
                    have hxy6 : Ext wy w6 := Xt
                    have hB36 := Box.ext hxy6 hB3
                    have Hin5 := Lib.hid (hin5.mono (T := fun b => b ≠ B) (fun b h _ => by rcases h with h | h; exact h; (try simp at h); have := hxy5.size; omega))
                    refine hK.out _ _ (fun _ => Sof _ Xt) ?_; clear hK K; (try simp only [rl])
                    have hc3 := hB36.cells; have hf3 := hB36.free; have hl3 := hB36.lt
                    (refine wpAnyT_take (i := 7) (v := ?_) [10, 11] (Array.getElem?_eq_getElem (by decide)) (by kernel_rfl) (by kernel_rfl) (by kernel_rfl) (by kernel_rfl) rfl rfl (by kernel_rfl) (fun _ _ _ h => h) (Or.inl ⟨by kernel_rfl, ?_⟩) (Sof _ Xt) ?_); rotate_left; (focus (intro w hSw; (try dsimp only at hSw); (try simp only [rl]); go_simp; (try with_reducible rfl))); (try simp only [rl])
                    (refine wpAnyT_take (i := 8) (v := ?_) [10, 11] (Array.getElem?_eq_getElem (by decide)) (by kernel_rfl) (by kernel_rfl) (by kernel_rfl) (by kernel_rfl) rfl rfl (by kernel_rfl) (fun _ _ _ h => h) (Or.inl ⟨by kernel_rfl, ?_⟩) (Sof _ Xt) ?_); rotate_left; (focus (intro w hSw; (try dsimp only at hSw); (try simp only [rl]); go_simp; (try with_reducible rfl))); (try simp only [rl])
                    (refine wpAnyT_take (i := 9) (v := ?_) [11] (Array.getElem?_eq_getElem (by decide)) (by kernel_rfl) (by kernel_rfl) (by kernel_rfl) (by kernel_rfl) rfl rfl (by kernel_rfl) (fun _ _ _ h => h) (Or.inl ⟨by kernel_rfl, ?_⟩) (Sof _ Xt) ?_); rotate_left; (focus (intro w hSw; (try dsimp only at hSw); (try simp only [rl]); go_simp; (try with_reducible rfl))); (try simp only [rl])
                    (refine wpAnyT_one (i := 10) (by kernel_rfl) (Array.getElem?_eq_getElem (by decide)) fun K hK => ?_); (try simp only [rl])
                    go_simp
                    refine hK.out _ _ (fun _ => Sof _ Xt) ?_; clear hK K; (try simp only [rl])
                    (refine wpAnyT_one (i := 11) (by kernel_rfl) (Array.getElem?_eq_getElem (by decide)) fun K hK => ?_); (try simp only [rl])
                    go_simp
                    (refine hK.out _ _ (fun h => Bool.noConfusion (show true = false from h)) ?_); clear hK K; (try simp only [rl])
                    refine wpAnyT_done (by kernel_rfl) ?_ _
                    clear hin5
                    go_wp2_with fail
                    go_roundg (l0.length - (j + 1))
                    case measure => omega
                    case rel => exact ⟨j + 1, u2, k5, c5, l5, d5, by omega, by omega, by go_num, rfl, Hnext.out, Bxt, Bxt, Hin5.out.keep (Held.kept (a := w6) (T := fun b => b ≠ B) Hxt) (fun b h _ => h), Hst8.out.keep (Held.kept (a := wy) (T := fun b => b ≠ B) Hxt) (fun b h _ => h), Xt, Bxt, Hinx.out.keep (Held.kept (a := wy) (T := fun b => b ≠ B) Hxt) (fun b h _ => h), Hstn.out.keep (Held.kept (a := wy) (T := fun b => b ≠ B) Hxt) (fun b h _ => h)⟩
            · obtain rfl : j = l0.length := by omega
              obtain ⟨x', u2, hgx', -, -, hadd, hnext⟩ := Hlf.out u HI.out
              rw [Hgx.out] at hgx'
              obtain rfl : x = x' := congrArg Prod.fst hgx'
              have Hadd := Lib.hid hadd
              have Hnext := Lib.hid hnext
              clear hgx' hadd hnext hlt2
              have hc3 := hB3.cells; have hf3 := hB3.free; have hl3 := hB3.lt
              have hc6 := hB6.cells; have hf6 := hB6.free; have hl6 := hB6.lt
              go_wp2_with fail
              (refine (addL Hadd.out kx cx lx dx ku cu lu du (fun b => b ≠ B) _ (hl.ext Xt) (by omega) (by omega) (by omega) (Hinu.out.ext Xt) (Hinx.out.ext Xt)).mono ?_)
              rintro e w6 ⟨k5, c5, l5, d5, rfl, hin5, h6⟩
              have hxi6 : Ext wi w6 := Xt
              have hB36 := Box.ext hxi6 hB3
              have Hin5 := Lib.hid (hin5.mono (T := fun b => b ≠ B) (fun b h _ => by rcases h with h | h; exact h; (try simp at h); omega))
              clear hin5 h6 hc3 hf3 hl3 hc6 hf6 hl6
              have hc3 := hB36.cells; have hf3 := hB36.free; have hl3 := hB36.lt
              go_wp2_with fail
              go_roundg (v.leaves.length - (k + 1))
              case measure => omega
              case rel => exact ⟨k + 1, u2, k5, c5, l5, d5, by omega, by go_num, rfl, Hnext.out, Bxt, Bxt, Hin5.out.keep (Held.kept (a := w6) (T := fun b => b ≠ B) Hxt) (fun b h _ => h), Hst8.out.keep (Held.kept (a := wi) (T := fun b => b ≠ B) Hxt) (fun b h _ => h), Xt⟩
      · have hke : k = v.leaves.length := by omega
        have Huv := Lib.hid (inv_end Hf.out H5.out (by have := HI.out; rwa [hke] at this))
        have hc0 := hB0.cells; have hf0 := hB0.free; have hl0 := hB0.lt
        have hc3 := hB3.cells; have hf3 := hB3.free; have hl3 := hB3.lt
        go_wp2_with fail
        (refine (same_any v u Huv.out (by omega) ka0 kc0 la0 lc0 ku cu lu du _ _ _ (Hin0.out.ext Xt) (Hinu.out.ext Xt)).mono ?_)
        rintro e w3 ⟨rfl, h3⟩
        have hx3 : Ext w w3 := hx.trans Xt
        clear h3 hc0 hf0 hl0 hc3 hf3 hl3
        go_wp2_with fail
        (refine (owns_keep _ (hl.ext Xt)).mono ?_)
        rintro e w4 ⟨rfl, h4⟩
        go_wp2_with fail
        go_ret
        exact ⟨rfl, Xt⟩
  · have Hle := Lib.hid hle
    clear hle
    rcases hbad with hf | ⟨hf, h5b⟩
    · have Hf := Lib.hid hf
      clear hf
      have hc0 := hB0.cells; have hf0 := hB0.free; have hl0 := hB0.lt
      go_wp2_with fail
      (refine (fine_any v ka0 kc0 la0 lc0 _ _ (by omega) (Hin0.out.ext Xt)).mono ?_)
      rw [Hf.out]
      rintro e w1 ⟨rfl, h1⟩
      have hB0 := Box.ext (w' := w1) Xt hB0
      have hx1 : Ext w w1 := Xt
      clear h1 hc0 hf0 hl0
      have hc0 := hB0.cells; have hf0 := hB0.free; have hl0 := hB0.lt
      go_wp2_with fail
      (refine (leavesO_any v ka0 kc0 la0 lc0 _ _ (by omega) (Hin0.out.ext Xt) (hl.max.ext Xt)).mono ?_)
      rw [Hle.out]
      rintro e w2 ⟨a8, c8, rfl, hok8, hst8, h2⟩
      have hx2 : Ext w w2 := hx1.trans Xt
      clear h2 hst8 hc0 hf0 hl0
      go_wp2_with fail
      (refine (owns_keep _ (hl.ext Xt)).mono ?_)
      rintro e w3 ⟨rfl, h3⟩
      go_wp2_with fail
      go_ret
      exact ⟨rfl, Xt⟩
    · have Hf := Lib.hid hf
      clear hf
      have hc0 := hB0.cells; have hf0 := hB0.free; have hl0 := hB0.lt
      go_wp2_with fail
      (refine (fine_any v ka0 kc0 la0 lc0 _ _ (by omega) (Hin0.out.ext Xt)).mono ?_)
      rw [Hf.out]
      rintro e w1 ⟨rfl, h1⟩
      have hB0 := Box.ext (w' := w1) Xt hB0
      have hx1 : Ext w w1 := Xt
      clear h1 hc0 hf0 hl0
      have hc0 := hB0.cells; have hf0 := hB0.free; have hl0 := hB0.lt
      go_wp2_with fail
      (refine (leavesO_any v ka0 kc0 la0 lc0 _ _ (by omega) (Hin0.out.ext Xt) (hl.max.ext Xt)).mono ?_)
      rw [Hle.out]
      rintro e w2 ⟨a8, c8, rfl, hok8, hst8, h2⟩
      have hx2 : Ext w w2 := hx1.trans Xt
      clear h2 hst8 hc0 hf0 hl0
      go_wp2_with fail
      (refine (owns_keep _ (hl.ext Xt)).mono ?_)
      rintro e w3 ⟨rfl, h3⟩
      go_wp2_with fail
      go_ret
      exact ⟨rfl, Xt⟩
end
set_option maxRecDepth 100000 in
theorem lifted (os : Os) (started : os.Started) (H : Type) (enc : TypeId × Value → H) (Fi : Stop.Interp) :
    ReturnsInHanded {} Tryz.checked os 8 .any ((Rows.OpenSpec.upto Rows.ownerLeavesSpec).preRow enc Tryz.prog Tryz.f8 Rows.ownerLeavesUptoRow.domain false Rows.ownerLeavesUptoRow.laid) (((Rows.OpenSpec.upto Rows.ownerLeavesSpec).at Fi).post enc Tryz.prog Tryz.f8 false true false false) := by
  obtain ⟨places, hx⟩ : ∃ places, DataW.whole enc Tryz.prog ((start.laidWorld os).forCall (fun _ _ => 0) ⟨#[], #[.agg #[.int .i64 0, .int .i64 0, .string ⟨#[]⟩, .slice none 0 0, .slice none 0 0]], []⟩).memory Tryz.f8.params.toList Rows.ownerLeavesSpec.vars false (#[.agg #[.int .i64 0, .int .i64 0, .string ⟨#[]⟩, .slice none 0 0, .slice none 0 0]]).toList 8 = some ([.agg [.lit (.int .i64 0), .lit (.int .i64 0), .lit (.string []), .nil, .nil]], [], places) := ⟨[], by kernel_rfl⟩
  refine returnsInHanded_of_row (C := Tryz.checked) (s := Rows.OpenSpec.upto Rows.ownerLeavesSpec) Tryz.own started (by kernel_rfl) Tryz.func8
    (witness_row_atRef (enc := enc) (C := Tryz.checked) false (start.laidWorld os) #[.agg #[.int .i64 0, .int .i64 0, .string ⟨#[]⟩, .slice none 0 0, .slice none 0 0]] rfl (by kernel_rfl) (by kernel_rfl) (by kernel_rfl)
      (OpenSpec.preRow_of_cond 8 hx (by kernel_rfl) (fun k hk => by cases hk; kernel_rfl) (by kernel_rfl) (start.laid_met os _))) ?_
  intro W base args ds gs before hval0 hW _ hk _ hL hsh _
  have hkb := hk _ rfl
  have hval : ∀ (j : Nat) t v, Tryz.f8.params[j]? = some t → args[j]? = some v → Value.okWide Tryz.prog W .any base t v := hval0
  have hW' := hW
  obtain ⟨p, q, hA0, hV, rfl, hfz, hnd⟩ := hW
  have hA : DataW.TrodAll enc Tryz.prog W 0 (fun _ => true) true Tryz.f8.params.toList args.toList ds p := hA0
  rw [Tryz.params8] at hA hval
  obtain ⟨v0, vs0, d0, ds0, p0, q0, hargs, rfl, rfl, h0, r0⟩ := trodAll_cons hA
  obtain ⟨rfl, rfl, rfl⟩ := trodAll_nil r0
  obtain rfl : args = #[v0] := by cases args; simp_all
  obtain ⟨rfl, rfl⟩ := trodVars_none hV
  have hbulk : Rows.uptoBulkAll [d0] ≤ 1048576 := by simpa [Rows.uptoSmall] using hkb
  have k0 := h0
  have lt0 : ∀ x ∈ p0, x.block < W.heap.size := by obtain ⟨m, hm⟩ := k0; exact DataW.trod_lt m _ _ _ hm
  have hlib := libAt_of hsh hL
  obtain ⟨x0, ka0, kc0, la0, lc0, rfl, hin0, hxb0⟩ := open_value (hval 0 25 v0 rfl rfl) h0
  simp only [Rows.uptoBulkAll, Rows.uptoBulk] at hbulk
  clear hA0 hval0
  refine (walk x0 ka0 kc0 la0 lc0 W hlib (by omega) (all_in hin0)).mono fun e W' ⟨he, bel⟩ => ?_
  subst he
  exact ⟨_, rfl, _, _, _, [], _, [], hW', trodAll_mk1 (shut_bool Tryz.underlying4 _), (trodAll_cons_mk (Below.trod Tryz.laidOut (by kernel_rfl) (of_decide_eq_true (by kernel_rfl)) k0 bel lt0) trodAll_mk0), rfl, Below.frame bel _, fun h => by cases h⟩
theorem cA : (Rows.ownerLeavesUptoRow.inPlace == Tryz.pinned.checked.prog.inPlace 8) = true := by kernel_rfl
theorem cB : (Rows.ownerLeavesUptoRow.unfollowed == Tryz.pinned.checked.prog.unfollowed 8) = true := by kernel_rfl
theorem cC : (Rows.ownerLeavesUptoRow.recurses == Tryz.pinned.checked.prog.recurses 8) = true := by kernel_rfl
theorem cD : (Rows.ownerLeavesUptoRow.named == Tryz.pinned.checked.prog.varsNamed 8) = true := by kernel_rfl
theorem closed : joinedFacts Tryz.pinned.checked.prog 8 Tryz.f8 (Rows.OpenSpec.upto Rows.ownerLeavesSpec).bare Rows.ownerLeavesUptoRow = true := by
  unfold joinedFacts
  rw [cA, cB, cC, cD]
  kernel_rfl
theorem said : Rows.OwnerLeavesUptoSaid :=
  OpenClaim.holds_of_cond 8 Tryz.f8 rfl rfl rfl rfl rfl rfl rfl ⟨rfl, rfl, rfl, rfl, rfl⟩ rfl rfl rfl rfl rfl (by kernel_rfl) Tryz.func8 closed
    (of_decide_eq_true (by kernel_rfl)) (by unfold Func.isWrapper; first | (rw [if_pos (by decide +kernel)]; kernel_rfl) | (rw [if_neg (by decide +kernel)]; exact ⟨rfl, rfl⟩))
    (fun os started H enc _ F => by rw [OpenClaim.pre_eq_preRow]; exact lifted os started H enc F)
theorem plain (f : FuncId) (fn : Func) (hf : Tryz.pinned.checked.prog.funcNamed "stairwell/stairwellkeep.OwnerLeaves" = some f) (hfn : Tryz.pinned.checked.prog.funcs[f]? = some fn) :
    true = Tryz.pinned.checked.prog.looks [] ∧ ∀ (j : Nat) t, fn.params[j]? = some t → Tryz.pinned.checked.prog.wantsStandIn t = false := by
  obtain rfl : f = 8 := Option.some.inj ((show Tryz.prog.funcNamed "stairwell/stairwellkeep.OwnerLeaves" = some 8 by kernel_rfl).symm.trans hf) |>.symm
  obtain rfl : fn = Tryz.f8 := (Option.some.inj (Tryz.func8.symm.trans hfn)).symm
  refine ⟨by kernel_rfl, fun j t ht => ?_⟩
  rw [Tryz.params8] at ht
  have h : t = 25 := by simpa using Array.mem_of_getElem? ht
  rcases h with rfl
  · exact (show Tryz.prog.wantsStandIn 25 = false by kernel_rfl)
theorem proved : Rows.OwnerLeavesUptoCardSaid :=
  Claim7.holds_tied_plain_at .later [] _ _ _ _ said (fun _ h => by cases h) (by kernel_rfl) (fun _ h => by cases h) ownerLeavesUpto_row_tie rfl ⟨rfl, rfl⟩ (by kernel_rfl) rfl plain (by kernel_rfl)
end Go.Proofs.YtjibdbnpkfghhaaGreatDoor.lawOwnerLeaves
