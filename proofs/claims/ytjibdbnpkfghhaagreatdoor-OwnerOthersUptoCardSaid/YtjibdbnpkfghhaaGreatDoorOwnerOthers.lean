/- OwnerOthers: for all values, owners, texts and wants the law returns true (what others own stays theirs, and stands as it stood); the arguments hold together at most 1048576 values and letters; the library's listed variables as its text lays them. -/
import Derived.Test.YtjibdbnpkfghhaaGreatDoorPkC
import Derived.Test.YtjibdbnpkfghhaaGreatDoorLibAt
import Derived.Test.YtjibdbnpkfghhaaGreatDoorOpenW
import Derived.Test.YtjibdbnpkfghhaaGreatDoorOwH
import Derived.Test.YtjibdbnpkfghhaaGreatDoorOwI
import Derived.HandedShaped
import Derived.SevenTiedAt
set_option linter.all false
namespace Go.Proofs.YtjibdbnpkfghhaaGreatDoor.lawOwnerOthers
open Go.ChangeShapes Go.WideShapes Go.ChangeAt Go.RowKit
open Go.ChangeMaps (open_string shut_string)
section
attribute [local go_sem ↓] Go.wp_at_zero Go.wp_at_succ
set_option maxRecDepth 100000 in
set_option maxHeartbeats 8000000 in
theorem walk (v : V) (ka0 : Option Addr) (kc0 : Nat) (la0 : Option Addr) (lc0 : Nat) (a : Option Addr) (cap : Nat) (l : List Ow) (who : ByteArray) (want : V) (ka3 : Option Addr) (kc3 : Nat) (la3 : Option Addr) (lc3 : Nat) (w : World) (hl : LibAt w)
    (hvz : v.size ≤ 1048576) (hlz : owsSize l ≤ 1048576) (hhz : who.size ≤ 1048576) (hwz : want.size ≤ 1048576) (hin0 : v.In w All ka0 kc0 la0 lc0) (hok : SlOk a l.length cap) (how : OwsIn w All l a) (hin3 : want.In w All ka3 kc3 la3 lc3) :
    Calls Tryz.prog 5 #[v.val ka0 kc0 la0 lc0, .slice a l.length cap, .string who, want.val ka3 kc3 la3 lc3] w fun e w' => e = .returned (.bool true) ∧ Ext w w' := by
  obtain ⟨⟨x, m, cs, er⟩, hr⟩ : ∃ r, applyV v l who want false = r := ⟨_, rfl⟩
  have Hr := Lib.hid hr
  have hlen := owsSize_len l
  have Hin0 := Lib.hid hin0
  have Hin3 := Lib.hid hin3
  have How := Lib.hid how
  have Hok := Lib.hid hok
  clear hin0 hin3 how hok hr
  go_enter Tryz.func5, Tryz.ntmps5
  go_upto_region 1 with fail
  refine gen_world (R := fun wx => Box wx w.heap.size #[.int .i64 v.k, .int .i64 v.n, .string v.s, .slice ka0 v.keys.length kc0, .slice la0 v.l.length lc0] 25 ∧ Box wx (w.heap.size + 1) #[.int .i64 want.k, .int .i64 want.n, .string want.s, .slice ka3 want.keys.length kc3, .slice la3 want.l.length lc3] 25 ∧ Ext w wx) ⟨Bxt, Bxt, Xt⟩ ?_
  rintro wa ⟨hB0, hB1, hxa⟩
  have hc0 := hB0.cells; have hf0 := hB0.free; have hl0 := hB0.lt
  have hc1 := hB1.cells; have hf1 := hB1.free; have hl1 := hB1.lt
  go_wp2_with fail
  (refine (apply_any v ka0 kc0 la0 lc0 l a cap who want ka3 kc3 la3 lc3 false All _ (by omega) (by omega) (by omega) (by omega) Hok.out (Hin0.out.ext Xt) (How.out.ext Xt) (Hin3.out.ext Xt) (hl.max.ext Xt)).mono ?_)
  rw [Hr.out]
  rintro e w2 ⟨k2, c2, l2, d2, a5, c5, a6, c6, rfl, hin2, hok5, how5, -, -, h2⟩
  have hx2 : Ext w w2 := Xt
  have hB0 := Box.ext (w' := w2) Xt hB0
  have Hin2 := Lib.hid (all_in hin2)
  have How5 := Lib.hid (how5.mono (T := All) fun _ _ _ => trivial)
  clear h2 hin2 how5 hc0 hf0 hl0 hc1 hf1 hl1 hB1
  go_upto_region 2 with fail
  refine gen_world (R := fun wx => Box wx w.heap.size #[.int .i64 v.k, .int .i64 v.n, .string v.s, .slice ka0 v.keys.length kc0, .slice la0 v.l.length lc0] 25 ∧ Box wx w2.heap.size #[.int .i64 x.k, .int .i64 x.n, .string x.s, .slice k2 x.keys.length c2, .slice l2 x.l.length d2] 25 ∧ Ext w2 wx) ⟨Bxt, Bxt, Xt⟩ ?_
  clear hB0
  rintro wb ⟨hB0, hB9, hxb⟩
  have hxwb : Ext w wb := hx2.trans hxb
  have Hin2 := Lib.hid (V.In.ext Hin2.out hxb)
  have How5 := Lib.hid (How5.out.ext hxb)
  by_cases h0 : er = 0
  · subst h0
    obtain ⟨hform, -, -, -, hxf, hm6, -⟩ := apply_ok Hr.out
    obtain ⟨-, -, -, -, hgl, -⟩ := form_parts hform
    have Hgl := Lib.hid hgl
    have hxs := fine_size hxf
    clear hform hxf hgl hxa
    go_wp2_with fail
    (refine (owns_keep _ (hl.ext Xt)).mono ?_)
    rintro e w3 ⟨rfl, h3⟩
    have hB0 := Box.ext h3 hB0
    have hB9 := Box.ext h3 hB9
    have hxw3 : Ext w w3 := hxwb.trans h3
    have Hin2 := Lib.hid (V.In.ext Hin2.out h3)
    have How5 := Lib.hid (How5.out.ext h3)
    clear h3 hxb hxwb hx2
    go_wp2_with fail
    go_loopg [40] l.length (fun g i wr => ∃ k : Nat, k ≤ l.length ∧ i = .int .i64 k ∧ g = l.length - k ∧ Ext w3 wr)
    case atStart => exact ⟨0, Nat.zero_le _, rfl, rfl, Xt⟩
    case round =>
      obtain ⟨wo, rfl⟩ : ∃ x, x = wr := ⟨_, rfl⟩
      obtain ⟨k, hk, rfl, rfl, hx⟩ := hrel
      have hxw : Ext w wo := hxw3.trans hx
      by_cases hlt : k < l.length
      · obtain ⟨b, o, rfl, hSb, pa, pc, d0, d1, hsl, hst⟩ := (How.out.ext hxw).item hlt
        have hoz := owsSize_mem (List.getElem_mem hlt)
        have hpl := Ow.len_paths l[k]
        have Hpz := Lib.hid (fun (x : ByteArray) (h : x ∈ (l[k]).paths) => show x.size ≤ 1048576 from by have := Ow.len_path h; omega)
        have Hps := Lib.hid (fun (p : ByteArray) (h : p ∈ (l[k]).paths) => show (namesB p).isSome = true from by
          obtain ⟨r, hr, -⟩ := goodOws_path Hgl.out (List.getElem_mem hlt) h
          rw [hr]; rfl)
        have Hlaw := Lib.hid (fun (hn : (l[k]).name ≠ who) => others_law Hr.out (List.getElem_mem hlt) hn)
        obtain ⟨ow, how⟩ : ∃ ow, l[k] = ow := ⟨_, rfl⟩
        rw [how] at d0 d1 hsl hst hpl Hpz Hps Hlaw hoz
        have Hst := Lib.hid hst
        clear how hst
        go_upto_region 7 with fail
        refine gen_world (R := fun wx => Box wx wo.heap.size #[.string ow.name, .slice pa ow.paths.length pc] 42 ∧ Ext wo wx) ⟨Bxt, Xt⟩ ?_
        rintro wc ⟨hB14, hxc⟩
        have hx3c : Ext w3 wc := hx.trans hxc
        have hxwc : Ext w wc := hxw.trans hxc
        have hci := hB14.cells; have hfi := hB14.free; have hli := hB14.lt
        by_cases hnw : ow.name = who
        · have hnb := eqb_of hnw
          clear hnw
          go_wp2_with fail
          go_roundg (l.length - (k + 1))
          case measure => omega
          case rel => exact ⟨k + 1, by omega, by go_num, rfl, Xt⟩
        · have hnb := neb_of hnw
          obtain ⟨hpo, hth⟩ := Hlaw.out hnw
          have Hpo := Lib.hid hpo
          have Hth := Lib.hid hth
          clear hnw hpo hth
          have How5c := Lib.hid (How5.out.ext hx3c)
          have Hstc := Lib.hid (Hst.out.ext hxc)
          go_upto_region 8 with fail
          have Sof : ∀ w', Ext wc w' → (w'.cell? ⟨wo.heap.size, 0, none⟩ = some (.string ow.name) ∧ w'.cell? ⟨wo.heap.size, 1, none⟩ = some (.slice pa ow.paths.length pc)) := fun w' e => ⟨e.cell (hB14.cells 0), e.cell (hB14.cells 1)⟩
          refine wp_region_held_drew (S := fun w' => w'.cell? ⟨wo.heap.size, 0, none⟩ = some (.string ow.name) ∧ w'.cell? ⟨wo.heap.size, 1, none⟩ = some (.slice pa ow.paths.length pc)) (by kernel_rfl) (Sof _ Xt) (fun hHeld => ?_)
          (refine wpAnyH_take (i := 0) (v := ?_) (Array.getElem?_eq_getElem (by decide)) (by kernel_rfl) (by kernel_rfl) (by kernel_rfl) (fun _ _ _ h => h) (Or.inl ⟨by kernel_rfl, ?_⟩) (by assumption) ?_); rotate_left; (focus (intro w hSw; (try dsimp only at hSw); (try simp only [rl]); go_simp; (try with_reducible rfl))); (try simp only [rl])
          (refine wpAnyH_take (i := 1) (v := ?_) (Array.getElem?_eq_getElem (by decide)) (by kernel_rfl) (by kernel_rfl) (by kernel_rfl) (fun _ _ _ h => h) (Or.inl ⟨by kernel_rfl, ?_⟩) (by assumption) ?_); rotate_left; (focus (intro w hSw; (try dsimp only at hSw); (try simp only [rl]); go_simp; (try with_reducible rfl))); (try simp only [rl])
          (refine wpAnyH_take (i := 2) (v := ?_) (Array.getElem?_eq_getElem (by decide)) (by kernel_rfl) (by kernel_rfl) (by kernel_rfl) (fun _ _ _ h => h) (Or.inl ⟨by kernel_rfl, ?_⟩) (by assumption) ?_); rotate_left; (focus (intro w hSw; (try dsimp only at hSw); (try simp only [rl]); go_simp; (try with_reducible rfl))); (try simp only [rl])
          (refine wpAnyH_take (i := 4) (v := ?_) (Array.getElem?_eq_getElem (by decide)) (by kernel_rfl) (by kernel_rfl) (by kernel_rfl) (fun _ _ _ h => h) (Or.inl ⟨by kernel_rfl, ?_⟩) (by assumption) ?_); rotate_left; (focus (intro w hSw; (try dsimp only at hSw); (try simp only [rl]); go_simp; (try with_reducible rfl))); (try simp only [rl])
          (refine wpAnyH_take (i := 5) (v := ?_) (Array.getElem?_eq_getElem (by decide)) (by kernel_rfl) (by kernel_rfl) (by kernel_rfl) (fun _ _ _ h => h) (Or.inl ⟨by kernel_rfl, ?_⟩) (by assumption) ?_); rotate_left; (focus (intro w hSw; (try dsimp only at hSw); (try simp only [rl]); go_simp; (try with_reducible rfl))); (try simp only [rl])
          (refine wpAnyH_ready (rs := [3]) (by kernel_rfl) (by simp) ?_); (refine AllReadyH.cons (Array.getElem?_eq_getElem (by decide)) (fun K hK => ?_) AllReadyH.nil); (try simp only [rl])
          (try go_simp)
          (refine (pathsOf_any m a5 c5 ow.name All _ (by omega) (How5c.out.ext Xt)).mono ?_)
          rw [Hpo.out]
          rintro e w4 ⟨a7, c7, rfl, hok7, hst7, h4⟩
          (try go_simp)
          refine hK.out _ _ (Sof _ Xt) (fun hHeld => ?_)
          clear hK K
          (try simp only [rl])
          (refine wpAnyH_ready (rs := [6]) (by kernel_rfl) (by simp) ?_); (refine AllReadyH.cons (Array.getElem?_eq_getElem (by decide)) (fun K hK => ?_) AllReadyH.nil); (try simp only [rl])
          (try go_simp)
          (refine (sameTextsK_any ow.paths a7 pa _ _ c7 pc _ _ _ (hst7.ext Xt) (Hstc.out.ext Xt) rfl rfl (by omega)).mono ?_)
          rintro e w5 ⟨rfl, h5⟩
          (try go_simp)
          refine hK.out _ _ (Sof _ Xt) (fun hHeld => ?_)
          clear hK K
          (try simp only [rl])
          (refine wpAnyH_take (i := 7) (v := ?_) (Array.getElem?_eq_getElem (by decide)) (by kernel_rfl) (by kernel_rfl) (by kernel_rfl) (fun _ _ _ h => h) (Or.inl ⟨by kernel_rfl, ?_⟩) (by assumption) ?_); rotate_left; (focus (intro w hSw; (try dsimp only at hSw); (try simp only [rl]); go_simp; (try with_reducible rfl))); (try simp only [rl])
          refine wpAnyH_done (by kernel_rfl) ?_ _
          have hxc5 : Ext wc w5 := Xt
          have hB145 := Box.ext hxc5 hB14
          clear hci hfi hli hst7 h4 h5
          have hci := hB145.cells; have hfi := hB145.free; have hli := hB145.lt
          go_wp2_with fail
          go_loopg [59] ow.paths.length (fun g i wr => ∃ j : Nat, j ≤ ow.paths.length ∧ i = .int .i64 j ∧ g = ow.paths.length - j ∧ Ext wc wr)
          case atStart => exact ⟨0, Nat.zero_le _, rfl, rfl, Xt⟩
          case round =>
            obtain ⟨wi, rfl⟩ : ∃ x, x = wr := ⟨_, rfl⟩
            obtain ⟨j, hj, rfl, rfl, hxi⟩ := hrel
            clear hci hfi hli hB145 hxc5
            have hx3i : Ext w3 wi := hx3c.trans hxi
            have hxwi : Ext w wi := hxwc.trans hxi
            have hst2 := Hstc.out.ext hxi
            by_cases hjl : j < ow.paths.length
            · obtain ⟨b2, o2, rfl, hS2, hC⟩ := hst2.resolve_left (by intro h; rw [h] at hjl; simp at hjl)
              have e0 := hC j hjl
              have hqz := Hpz.out _ (List.getElem_mem hjl)
              have hqs := Hps.out _ (List.getElem_mem hjl)
              have hqt := Hth.out _ (List.getElem_mem hjl)
              obtain ⟨q, hq⟩ : ∃ q, ow.paths[j] = q := ⟨_, rfl⟩
              rw [hq] at e0 hqz hqs hqt
              have Hqs := Lib.hid hqs
              have Hqt := Lib.hid hqt
              clear hC hq hst2 hqs hqt
              have hBv := Box.ext hx3i hB0
              have hBx := Box.ext hx3i hB9
              have hc0 := hBv.cells; have hf0 := hBv.free; have hl0 := hBv.lt
              go_wp2_with fail
              (refine (through_any v ka0 kc0 la0 lc0 All q _ (by omega) (Hin0.out.ext Xt) (by omega) Hqs.out (hl.max.ext Xt)).mono ?_)
              obtain ⟨fb, hfb⟩ : ∃ fb, (findV v q).isSome = fb := ⟨_, rfl⟩
              unfold RetThr RetV2
              rw [hfb]
              rintro e w6 ⟨z, hz, hzs, k7, c7, l7, d7, rfl, hin7, h6⟩
              have Hfb := Lib.hid hfb
              have Hz := Lib.hid hz
              have hBx := Box.ext (w' := w6) Xt hBx
              have hxi6 : Ext wi w6 := Xt
              have Hin7 := Lib.hid (all_in hin7)
              clear hfb hz h6 hin7 hc0 hf0 hl0
              go_upto_region 14 with fail
              refine gen_world (R := fun wx => Box wx w6.heap.size #[.int .i64 z.k, .int .i64 z.n, .string z.s, .slice k7 z.keys.length c7, .slice l7 z.l.length d7] 25 ∧ Box wx w2.heap.size #[.int .i64 x.k, .int .i64 x.n, .string x.s, .slice k2 x.keys.length c2, .slice l2 x.l.length d2] 25 ∧ Ext w6 wx) ⟨Bxt, Bxt, Xt⟩ ?_
              clear hBx
              rintro wd ⟨hB17, hBx, hxd⟩
              have hxid : Ext wi wd := hxi6.trans hxd
              have Hin7 := Lib.hid (V.In.ext Hin7.out hxd)
              have hx3d : Ext w3 wd := hx3i.trans hxid
              have hxwd : Ext w wd := hxwi.trans hxid
              clear hxi6 hxd
              have hc0 := hBx.cells; have hf0 := hBx.free; have hl0 := hBx.lt
              go_wp2_with fail
              (refine (through_any x k2 c2 l2 d2 All q _ (by omega) (Hin2.out.ext Xt) (by omega) Hqs.out (hl.max.ext Xt)).mono ?_)
              obtain ⟨gb, hgb⟩ : ∃ gb, (findV x q).isSome = gb := ⟨_, rfl⟩
              unfold RetThr RetV2
              rw [hgb]
              rintro e w7 ⟨y, hy, hys, k8, c8, l8, d8, rfl, hin8, h7⟩
              have Hgb := Lib.hid hgb
              have Hy := Lib.hid hy
              have hB17 := Box.ext (w' := w7) Xt hB17
              have hxd7 : Ext wd w7 := Xt
              have Hin8 := Lib.hid (all_in hin8)
              clear hgb hy h7 hin8 hc0 hf0 hl0
              go_upto_region 15 with fail
              refine gen_world (R := fun wx => Box wx w6.heap.size #[.int .i64 z.k, .int .i64 z.n, .string z.s, .slice k7 z.keys.length c7, .slice l7 z.l.length d7] 25 ∧ Box wx w7.heap.size #[.int .i64 y.k, .int .i64 y.n, .string y.s, .slice k8 y.keys.length c8, .slice l8 y.l.length d8] 25 ∧ Ext w7 wx) ⟨Bxt, Bxt, Xt⟩ ?_
              clear hB17
              rintro we ⟨hB17, hB19, hxe⟩
              have hxde : Ext wd we := hxd7.trans hxe
              have hxce : Ext wc we := hxi.trans (hxid.trans hxde)
              have Hin7 := Lib.hid (V.In.ext Hin7.out hxde)
              have Hin8 := Lib.hid (V.In.ext Hin8.out hxe)
              clear hxd7 hxe
              have hc0 := hB17.cells; have hf0 := hB17.free; have hl0 := hB17.lt
              have hc1 := hB19.cells; have hf1 := hB19.free; have hl1 := hB19.lt
              cases fb with
              | false =>
                go_wp2_with fail
                go_roundg (ow.paths.length - (j + 1))
                case measure => omega
                case rel => exact ⟨j + 1, by omega, by go_num, rfl, Xt⟩
              | true =>
                obtain ⟨z2, hz2⟩ := Option.isSome_iff_exists.1 Hfb.out
                obtain rfl := Hz.out z2 hz2
                by_cases h5 : z.k = 5
                · have h5b : (z.k != 5) = false := by rw [h5]; rfl
                  clear h5
                  go_wp2_with fail
                  go_roundg (ow.paths.length - (j + 1))
                  case measure => omega
                  case rel => exact ⟨j + 1, by omega, by go_num, rfl, Xt⟩
                · have h5b : (z.k != 5) = true := by simpa using h5
                  have hyx := Hqt.out z hz2 h5
                  have Hyz := Lib.hid (Hy.out z hyx)
                  obtain rfl : gb = true := by rw [← Hgb.out, hyx]; rfl
                  clear h5 hyx hz2
                  go_wp2_with fail
                  (refine (same_any z y Hyz.out (by omega) k7 c7 l7 d7 k8 c8 l8 d8 All All _ (Hin7.out.ext Xt) (Hin8.out.ext Xt)).mono ?_)
                  rintro e w8 ⟨rfl, h8⟩
                  have hxc8 : Ext wc w8 := Xt
                  clear h8 hc0 hf0 hl0 hc1 hf1 hl1
                  go_wp2_with fail
                  go_roundg (ow.paths.length - (j + 1))
                  case measure => omega
                  case rel => exact ⟨j + 1, by omega, by go_num, rfl, Xt⟩
            · clear hst2
              go_wp2_with fail
              go_roundg (l.length - (k + 1))
              case measure => omega
              case rel => exact ⟨k + 1, by omega, by go_num, rfl, Xt⟩
      · go_wp2_with fail
        go_ret
        exact ⟨rfl, Xt⟩
  · have h0b : (er != 0) = true := by simpa using h0
    clear h0
    go_wp2_with fail
    (refine (owns_keep _ (hl.ext Xt)).mono ?_)
    rintro e w3 ⟨rfl, h3⟩
    go_wp2_with fail
    go_ret
    exact ⟨rfl, Xt⟩
end
set_option maxRecDepth 100000 in
theorem lifted (os : Os) (started : os.Started) (H : Type) (enc : TypeId × Value → H) (Fi : Stop.Interp) :
    ReturnsInHanded {} Tryz.checked os 5 .any ((Rows.OpenSpec.upto Rows.ownerOthersSpec).preRow enc Tryz.prog Tryz.f5 Rows.ownerOthersUptoRow.domain false Rows.ownerOthersUptoRow.laid) (((Rows.OpenSpec.upto Rows.ownerOthersSpec).at Fi).post enc Tryz.prog Tryz.f5 false true false false) := by
  obtain ⟨places, hx⟩ : ∃ places, DataW.whole enc Tryz.prog ((start.laidWorld os).forCall (fun _ _ => 0) ⟨#[], #[.agg #[.int .i64 0, .int .i64 0, .string ⟨#[]⟩, .slice none 0 0, .slice none 0 0], .slice none 0 0, .string ⟨#[]⟩, .agg #[.int .i64 0, .int .i64 0, .string ⟨#[]⟩, .slice none 0 0, .slice none 0 0]], []⟩).memory Tryz.f5.params.toList Rows.ownerOthersSpec.vars false (#[.agg #[.int .i64 0, .int .i64 0, .string ⟨#[]⟩, .slice none 0 0, .slice none 0 0], .slice none 0 0, .string ⟨#[]⟩, .agg #[.int .i64 0, .int .i64 0, .string ⟨#[]⟩, .slice none 0 0, .slice none 0 0]]).toList 8 = some ([.agg [.lit (.int .i64 0), .lit (.int .i64 0), .lit (.string []), .nil, .nil], .nil, .lit (.string []), .agg [.lit (.int .i64 0), .lit (.int .i64 0), .lit (.string []), .nil, .nil]], [], places) := ⟨[], by kernel_rfl⟩
  refine returnsInHanded_of_row (C := Tryz.checked) (s := Rows.OpenSpec.upto Rows.ownerOthersSpec) Tryz.own started (by kernel_rfl) Tryz.func5
    (witness_row_atRef (enc := enc) (C := Tryz.checked) false (start.laidWorld os) #[.agg #[.int .i64 0, .int .i64 0, .string ⟨#[]⟩, .slice none 0 0, .slice none 0 0], .slice none 0 0, .string ⟨#[]⟩, .agg #[.int .i64 0, .int .i64 0, .string ⟨#[]⟩, .slice none 0 0, .slice none 0 0]] rfl (by kernel_rfl) (by kernel_rfl) (by kernel_rfl)
      (OpenSpec.preRow_of_cond 8 hx (by kernel_rfl) (fun k hk => by cases hk; kernel_rfl) (by kernel_rfl) (start.laid_met os _))) ?_
  intro W base args ds gs before hval0 hW _ hk _ hL hsh _
  have hkb := hk _ rfl
  have hval : ∀ (j : Nat) t v, Tryz.f5.params[j]? = some t → args[j]? = some v → Value.okWide Tryz.prog W .any base t v := hval0
  have hW' := hW
  obtain ⟨p, q, hA0, hV, rfl, hfz, hnd⟩ := hW
  have hA : DataW.TrodAll enc Tryz.prog W 0 (fun _ => true) true Tryz.f5.params.toList args.toList ds p := hA0
  rw [Tryz.params5] at hA hval
  obtain ⟨v0, vs0, d0, ds0, p0, q0, hargs, rfl, rfl, h0, r0⟩ := trodAll_cons hA
  obtain ⟨v1, vs1, d1, ds1, p1, q1, rfl, rfl, rfl, h1, r1⟩ := trodAll_cons r0
  obtain ⟨v2, vs2, d2, ds2, p2, q2, rfl, rfl, rfl, h2, r2⟩ := trodAll_cons r1
  obtain ⟨v3, vs3, d3, ds3, p3, q3, rfl, rfl, rfl, h3, r3⟩ := trodAll_cons r2
  obtain ⟨rfl, rfl, rfl⟩ := trodAll_nil r3
  obtain rfl : args = #[v0, v1, v2, v3] := by cases args; simp_all
  obtain ⟨rfl, rfl⟩ := trodVars_none hV
  have hbulk : Rows.uptoBulkAll [d0, d1, d2, d3] ≤ 1048576 := by simpa [Rows.uptoSmall] using hkb
  have k0 := h0
  have k1 := h1
  have k2 := h2
  have k3 := h3
  have lt0 : ∀ x ∈ p0, x.block < W.heap.size := by obtain ⟨m, hm⟩ := k0; exact DataW.trod_lt m _ _ _ hm
  have lt1 : ∀ x ∈ p1, x.block < W.heap.size := by obtain ⟨m, hm⟩ := k1; exact DataW.trod_lt m _ _ _ hm
  have lt2 : ∀ x ∈ p2, x.block < W.heap.size := by obtain ⟨m, hm⟩ := k2; exact DataW.trod_lt m _ _ _ hm
  have lt3 : ∀ x ∈ p3, x.block < W.heap.size := by obtain ⟨m, hm⟩ := k3; exact DataW.trod_lt m _ _ _ hm
  have hlib := libAt_of hsh hL
  obtain ⟨x0, ka0, kc0, la0, lc0, rfl, hin0, hxb0⟩ := open_value (hval 0 25 v0 rfl rfl) h0
  obtain ⟨a1, len1, cap1, rfl⟩ := okWide_slice Tryz.underlying32 (hval 1 32 v1 rfl rfl)
  obtain ⟨fuel1, hf1⟩ := h1
  obtain ⟨a1', cap1', l1, hc1, hok1, hin1, hxb1⟩ := open_ows hf1
  simp only [Value.slice.injEq] at hc1
  obtain ⟨rfl, rfl, rfl⟩ := hc1
  have hxb1 : owsSize l1 + 1 ≤ Rows.uptoBulk d1 := hxb1
  obtain ⟨s2, rfl, rfl, rfl, ws2⟩ := open_string Tryz.underlying9 (hval 2 9 v2 rfl rfl) h2
  obtain ⟨x3, ka3, kc3, la3, lc3, rfl, hin3, hxb3⟩ := open_value (hval 3 25 v3 rfl rfl) h3
  simp only [Rows.uptoBulkAll, Rows.uptoBulk] at hbulk
  have hlen2 : s2.data.toList.length = s2.size := Array.length_toList
  clear hA0 hval0
  refine (walk x0 ka0 kc0 la0 lc0 a1 cap1 l1 s2 x3 ka3 kc3 la3 lc3 W hlib (by omega) (by omega) (by omega) (by omega) (all_in hin0) hok1 (hin1.mono fun _ _ _ => trivial) (all_in hin3)).mono fun e W' ⟨he, bel⟩ => ?_
  subst he
  exact ⟨_, rfl, _, _, _, [], _, [], hW', trodAll_mk1 (shut_bool Tryz.underlying4 _), (trodAll_cons_mk (Below.trod Tryz.laidOut (by kernel_rfl) (of_decide_eq_true (by kernel_rfl)) k0 bel lt0) (trodAll_cons_mk (Below.trod Tryz.laidOut (by kernel_rfl) (of_decide_eq_true (by kernel_rfl)) k1 bel lt1) (trodAll_cons_mk (Below.trod Tryz.laidOut (by kernel_rfl) (of_decide_eq_true (by kernel_rfl)) k2 bel lt2) (trodAll_cons_mk (Below.trod Tryz.laidOut (by kernel_rfl) (of_decide_eq_true (by kernel_rfl)) k3 bel lt3) trodAll_mk0)))), rfl, Below.frame bel _, fun h => by cases h⟩
theorem cA : (Rows.ownerOthersUptoRow.inPlace == Tryz.pinned.checked.prog.inPlace 5) = true := by kernel_rfl
theorem cB : (Rows.ownerOthersUptoRow.unfollowed == Tryz.pinned.checked.prog.unfollowed 5) = true := by kernel_rfl
theorem cC : (Rows.ownerOthersUptoRow.recurses == Tryz.pinned.checked.prog.recurses 5) = true := by kernel_rfl
theorem cD : (Rows.ownerOthersUptoRow.named == Tryz.pinned.checked.prog.varsNamed 5) = true := by kernel_rfl
theorem closed : joinedFacts Tryz.pinned.checked.prog 5 Tryz.f5 (Rows.OpenSpec.upto Rows.ownerOthersSpec).bare Rows.ownerOthersUptoRow = true := by
  unfold joinedFacts
  rw [cA, cB, cC, cD]
  kernel_rfl
theorem said : Rows.OwnerOthersUptoSaid :=
  OpenClaim.holds_of_cond 5 Tryz.f5 rfl rfl rfl rfl rfl rfl rfl ⟨rfl, rfl, rfl, rfl, rfl⟩ rfl rfl rfl rfl rfl (by kernel_rfl) Tryz.func5 closed
    (of_decide_eq_true (by kernel_rfl)) (by unfold Func.isWrapper; first | (rw [if_pos (by decide +kernel)]; kernel_rfl) | (rw [if_neg (by decide +kernel)]; exact ⟨rfl, rfl⟩))
    (fun os started H enc _ F => by rw [OpenClaim.pre_eq_preRow]; exact lifted os started H enc F)
theorem plain (f : FuncId) (fn : Func) (hf : Tryz.pinned.checked.prog.funcNamed "stairwell/stairwellkeep.OwnerOthers" = some f) (hfn : Tryz.pinned.checked.prog.funcs[f]? = some fn) :
    true = Tryz.pinned.checked.prog.looks [] ∧ ∀ (j : Nat) t, fn.params[j]? = some t → Tryz.pinned.checked.prog.wantsStandIn t = false := by
  obtain rfl : f = 5 := Option.some.inj ((show Tryz.prog.funcNamed "stairwell/stairwellkeep.OwnerOthers" = some 5 by kernel_rfl).symm.trans hf) |>.symm
  obtain rfl : fn = Tryz.f5 := (Option.some.inj (Tryz.func5.symm.trans hfn)).symm
  refine ⟨by kernel_rfl, fun j t ht => ?_⟩
  rw [Tryz.params5] at ht
  have h : t = 25 ∨ t = 32 ∨ t = 9 ∨ t = 25 := by simpa using Array.mem_of_getElem? ht
  rcases h with rfl | rfl | rfl | rfl
  · exact (show Tryz.prog.wantsStandIn 25 = false by kernel_rfl)
  · exact (show Tryz.prog.wantsStandIn 32 = false by kernel_rfl)
  · exact (show Tryz.prog.wantsStandIn 9 = false by kernel_rfl)
  · exact (show Tryz.prog.wantsStandIn 25 = false by kernel_rfl)
theorem proved : Rows.OwnerOthersUptoCardSaid :=
  Claim7.holds_tied_plain_at .later [] _ _ _ _ said (fun _ h => by cases h) (by kernel_rfl) (fun _ h => by cases h) ownerOthersUpto_row_tie rfl ⟨rfl, rfl⟩ (by kernel_rfl) rfl plain (by kernel_rfl)
end Go.Proofs.YtjibdbnpkfghhaaGreatDoor.lawOwnerOthers
