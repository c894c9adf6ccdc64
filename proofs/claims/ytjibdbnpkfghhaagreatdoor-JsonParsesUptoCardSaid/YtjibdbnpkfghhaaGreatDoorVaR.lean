/- The walk of the reference's valueAt. -/
import Derived.Test.YtjibdbnpkfghhaaGreatDoorVaP
import Derived.Test.YtjibdbnpkfghhaaGreatDoorTxR
import Derived.Test.YtjibdbnpkfghhaaGreatDoorDecR
import Derived.Test.YtjibdbnpkfghhaaGreatDoorPkC
import Derived.Deep.RegionLaw
import Derived.Deep.DeepCutAuto
import Derived.Deep.CutBlock
set_option linter.all false
namespace Go.Proofs.YtjibdbnpkfghhaaGreatDoor
open Go.RowKit
attribute [local go_sem ↓] Go.wp_at_zero Go.wp_at_succ

/-- What valueAt, manyAt give. -/
def RetW (s : ByteArray) (r : Option (V × Bytes)) (w : World) (e : Ending) (w' : World) : Prop :=
  Ext w w' ∧ ∃ (v : V) (ka : Option Addr) (kc : Nat) (la : Option Addr) (lc : Nat) (j : Int), e = .returned (.tuple #[v.val ka kc la lc, .int .i64 j]) ∧ match r with
    | none => j = -1
    | some p => ∃ k : Nat, j = k ∧ k ≤ s.size ∧ fromB s k = p.2 ∧ v = p.1 ∧ v.In w' (fun b => w.heap.size ≤ b) ka kc la lc
/-- What stands behind a bracket. -/
def manyL (f : Nat) (c : UInt8) (t : Bytes) : Option (V × Bytes) :=
  if c = 91 then (listL (valL f) (t.length + 1) t []).map fun p => (.mk 4 0 ⟨#[]⟩ [] p.1, p.2)
  else (objL (valL f) (t.length + 1) t [] []).map fun p => (.mk 5 0 ⟨#[]⟩ p.1.1 p.1.2, p.2)
def ValW (f : Nat) : Prop := ∀ (s : ByteArray) (i d : Nat) (w : World), d + f = 13 → s.size ≤ 1048576 → i ≤ s.size →
  Calls Tryz.prog 44 #[.string s, .int .i64 i, .int .i64 d] w (RetW s (valL f (fromB s i)) w)
def ManyW (f : Nat) : Prop := ∀ (s : ByteArray) (i d : Nat) (c : UInt8) (w : World), d + f = 12 → s.size ≤ 1048576 → (h : i < s.size) → s[i] = c → c = 91 ∨ c = 123 →
  Calls Tryz.prog 106 #[.string s, .int .i64 i, .int .i64 d] w (RetW s (manyL f c (fromB s (i + 1))) w)
theorem numD_dg {c : UInt8} {t : Bytes} (h : c = 45 ∨ isDg c = true) (x : UInt8) (hx : x ∈ numD c t) : isDg x = true := by
  unfold numD numT at hx
  have aux : ∀ l : Bytes, x ∈ l.takeWhile isDg → isDg x = true := by
    intro l
    induction l with
    | nil => intro h; cases h
    | cons a r ih =>
      intro h
      rw [List.takeWhile_cons] at h
      split at h
      · rcases List.mem_cons.1 h with rfl | h
        · assumption
        · exact ih h
      · cases h
  split at hx
  · exact aux _ hx
  · rename_i h45
    rcases List.mem_cons.1 hx with rfl | hx
    · exact h.resolve_left h45
    · exact aux _ hx
abbrev three : Array Value := #[.string ⟨#[110, 117, 108, 108]⟩, .string ⟨#[102, 97, 108, 115, 101]⟩, .string ⟨#[116, 114, 117, 101]⟩]
theorem three_at : ∀ i, i < 3 → three[i]? = some (.string (wordB i))
  | 0, _ => rfl | 1, _ => rfl | 2, _ => rfl

set_option maxRecDepth 100000 in
set_option maxHeartbeats 8000000 in
theorem value_zero : ValW 0 := by
  intro s i d w hd hs hi
  obtain rfl : d = 13 := by omega
  go_enter Tryz.func44, Tryz.ntmps44
  go_wp2_with fail
  (refine (skip_any s i _ (by omega) hi).mono ?_)
  rintro e w1 ⟨j, rfl, -, hj, -, h1⟩
  have hx1 : Ext w w1 := Xt
  have hB0 : Box w1 w.heap.size #[.int .i64 0, .int .i64 0, .string ⟨#[]⟩, .slice none 0 0, .slice none 0 0] 25 := Box.ext h1 (Box.new w _ 25 rfl)
  clear h1
  have hc0 := hB0.cells; have hf0 := hB0.free; have hl0 := hB0.lt
  by_cases hge : (s.size : Int) ≤ (j : Int)
  · go_wp2_with fail
    (with_reducible apply bp_ret); (focus (go_light; simp [results, Tryz.results44, go_sem, *]; rfl))
    exact ⟨Xt, V.zero, none, 0, none, 0, _, rfl, rfl⟩
  · go_wp2_with fail
    (with_reducible apply bp_ret); (focus (go_light; simp [results, Tryz.results44, go_sem, *]; rfl))
    exact ⟨Xt, V.zero, none, 0, none, 0, _, rfl, rfl⟩
set_option maxRecDepth 100000 in
set_option maxHeartbeats 16000000 in
theorem value_step (f : Nat) (hM : ManyW f) : ValW (f + 1) := by
  intro s i d w hd hs hi
  obtain ⟨R, hR⟩ : ∃ R, valL (f + 1) (fromB s i) = R := ⟨_, rfl⟩
  rw [hR]
  have HR := Lib.hid hR
  have HM := Lib.hid hM
  clear hR hM
  have hd12 : ¬ (12 : Int) < (d : Int) := by omega
  go_enter Tryz.func44, Tryz.ntmps44
  go_wp2_with fail
  (refine (skip_any s i _ (by omega) hi).mono ?_)
  rintro e w1 ⟨j, rfl, hij, hj, hsp, h1⟩
  have Hsp := Lib.hid hsp
  have hx1 : Ext w w1 := Xt
  have hB0 : Box w1 w.heap.size #[.int .i64 0, .int .i64 0, .string ⟨#[]⟩, .slice none 0 0, .slice none 0 0] 25 := Box.ext h1 (Box.new w _ 25 rfl)
  clear h1 hsp
  by_cases hlt : j < s.size
  · have hge : ¬ (s.size : Int) ≤ (j : Int) := by omega
    have hj0 : (0 : Int) ≤ (j : Int) := by omega
    have hj1 : (j : Int) < (s.size : Int) := by omega
    obtain ⟨c, hc⟩ : ∃ c, s[j] = c := ⟨_, rfl⟩
    have Hat := Lib.hid (show spaceL (fromB s i) = c :: fromB s (j + 1) by rw [← Hsp.out, ← hc]; exact from_at hlt)
    have Hfj := Lib.hid (show fromB s j = c :: fromB s (j + 1) by rw [← hc]; exact from_at hlt)
    have hcn : (s[j].toNat : Int) = (c.toNat : Int) := by rw [hc]
    have Hc := Lib.hid hc
    have hc256 := c.toNat_lt
    have hlw : w.heap.size < w1.heap.size := hB0.lt
    clear hc
    go_upto_region 5 with fail
    refine gen_world (R := fun wx => Box wx w.heap.size #[.int .i64 0, .int .i64 0, .string ⟨#[]⟩, .slice none 0 0, .slice none 0 0] 25 ∧ Box wx w1.heap.size three 9 ∧ Ext w wx) ⟨Bxt, Bxt, Xt⟩ ?_
    rintro wa ⟨hBz, hBS, hxa⟩
    clear hx1 hB0
    simp only [show (decide (s.size ≤ j)) = false by simpa using hlt, show (decide ((12 : Int) < (d : Int))) = false by simpa using hd12, Bool.or_false]
    go_wp2_with fail
    go_loopg [7, 8, 9, 31] 3 (fun g _ _ _ i wr => ∃ q : Nat, q ≤ 3 ∧ i = .int .i64 q ∧ g = 3 - q ∧ Hid (∀ k, k < q → (wordB k).data.toList.isPrefixOf (c :: fromB s (j + 1)) = false) ∧ Box wr w.heap.size #[.int .i64 0, .int .i64 0, .string ⟨#[]⟩, .slice none 0 0, .slice none 0 0] 25 ∧ Box wr w1.heap.size three 9 ∧ Ext w wr)
    case atStart => exact ⟨0, by omega, rfl, rfl, Lib.hid (fun k hk => by omega), hBz, hBS, hxa⟩
    case round =>
      clear hBz hBS hxa
      obtain ⟨q, hq3, rfl, rfl, Hno, hBz, hBS, hx⟩ := hrel
      by_cases hlq : q < 3
      · have hq0 : (0 : Int) ≤ (q : Int) := by omega
        have hq1 : (q : Int) < 3 := by omega
        have e0 := (hBS.cells q).trans (three_at q hlq)
        obtain ⟨nk, hnk⟩ : ∃ s, wordB q = s := ⟨_, rfl⟩
        have Hnk := Lib.hid hnk
        rw [hnk] at e0
        clear hnk
        obtain ⟨u, hue⟩ : ∃ u, s.extract j s.size = u := ⟨_, rfl⟩
        have Hul := Lib.hid (show u.data.toList = c :: fromB s (j + 1) by
          rw [← hue, Lib.extract_data]
          rw [← Hfj.out]
          simp [fromB]
          exact List.take_of_length_le (by simp))
        go_wp2_with fail
        (refine (Tryz.strings_HasPrefix _ _ _).mono ?_); rintro e w2 ⟨rfl, rfl⟩
        rw [Hul.out]
        cases hp : Lib.hasPrefix (c :: fromB s (j + 1)) nk.data.toList with
        | true =>
          have hlen := pre_len (show nk.data.toList.isPrefixOf (c :: fromB s (j + 1)) = true from hp)
          have hjs : j + nk.size ≤ s.size := by
            have h1 : nk.data.toList.length = nk.size := Array.length_toList
            rw [← Hfj.out, from_len] at hlen
            omega
          have Hv := Lib.hid (show R = some (wordV q, fromB s (j + nk.size)) by
            have h := valL_word (f := f) Hat.out q hlq (by rw [Hnk.out]; exact hp)
            rw [Hnk.out, ← Hfj.out] at h
            rw [← HR.out, h]
            simp [fromB])
          clear hp hlen
          have hc0 := hBz.cells; have hf0 := hBz.free; have hl0 := hBz.lt
          obtain rfl | rfl | rfl : q = 0 ∨ q = 1 ∨ q = 2 := by omega
          · obtain rfl := Hnk.out
            go_wp2_with fail
            (with_reducible apply bp_ret); (focus (go_light; simp [results, Tryz.results44, go_sem, *]; rfl))
            rw [Hv.out]
            exact ⟨Xt, V.zero, none, 0, none, 0, _, rfl, j + 4, by go_num, hjs, rfl, rfl, (V.in_iff ..).2 ⟨SlOk.nil, SlOk.nil, .inl rfl, .inl rfl⟩⟩
          · obtain rfl := Hnk.out
            go_wp2_with fail
            (with_reducible apply bp_ret); (focus (go_light; simp [results, Tryz.results44, go_sem, *]; rfl))
            rw [Hv.out]
            exact ⟨Xt, falseV, none, 0, none, 0, _, rfl, j + 5, by go_num, hjs, rfl, rfl, (V.in_iff ..).2 ⟨SlOk.nil, SlOk.nil, .inl rfl, .inl rfl⟩⟩
          · obtain rfl := Hnk.out
            go_wp2_with fail
            (with_reducible apply bp_ret); (focus (go_light; simp [results, Tryz.results44, go_sem, *]; rfl))
            rw [Hv.out]
            exact ⟨Xt, trueV, none, 0, none, 0, _, rfl, j + 4, by go_num, hjs, rfl, rfl, (V.in_iff ..).2 ⟨SlOk.nil, SlOk.nil, .inl rfl, .inl rfl⟩⟩
        | false =>
          have Hp := Lib.hid hp
          clear hp
          go_wp2_with fail
          go_roundg (3 - (q + 1))
          case measure => omega
          case rel => exact ⟨q + 1, by omega, by go_num, rfl, Lib.hid (fun k hk => by rcases Nat.lt_succ_iff_lt_or_eq.1 hk with h | h; exact Hno.out k h; rw [h, Hnk.out]; exact Hp.out), Bxt, Bxt, Xt⟩
      · obtain rfl : q = 3 := by omega
        have HR := Lib.hid (show valD f c (fromB s (j + 1)) = R by rw [← HR.out, valL_rest Hat.out Hno.out])
        by_cases h34 : (c.toNat : Int) = 34
        · have b34 : ((c.toNat : Int) == 34) = true := by simpa using h34
          obtain ⟨T, hT⟩ : ∃ T, textL ((fromB s (j + 1)).length + 1) (fromB s (j + 1)) [] = T := ⟨_, rfl⟩
          have HT := Lib.hid hT
          have HR := Lib.hid (show (T.map fun p => ((.mk 3 0 ⟨p.1.toArray⟩ [] [], p.2) : V × Bytes)) = R by rw [← HR.out, ← hT, show c = 34 from byte_is (n := 34) (by omega) h34]; rfl)
          clear h34 hT
          go_wp2_with fail
          (refine (textAt_any s j _ (by omega) hlt).mono ?_)
          rw [HT.out]
          rintro e w2 ⟨h2, b, y, rfl, hcase⟩
          have hBz := Box.ext (w' := w2) Xt hBz
          have hx2 : Ext w w2 := Xt
          have Hcase := Lib.hid hcase
          clear h2 hcase
          have hc0 := hBz.cells; have hf0 := hBz.free; have hl0 := hBz.lt
          go_wp2_with fail
          (with_reducible apply bp_ret); (focus (go_light; simp [results, Tryz.results44, go_sem, *]; rfl))
          refine ⟨Xt, .mk 3 0 b [] [], none, 0, none, 0, y, rfl, ?_⟩
          rw [← HR.out]
          have hcase := Hcase.out
          cases T with
          | none => exact hcase
          | some p =>
            obtain ⟨k, hk, hks, hkf, hkb⟩ := hcase
            exact ⟨k, hk, hks, hkf, by rw [show b = ⟨p.1.toArray⟩ by rw [← hkb]], (V.in_iff ..).2 ⟨SlOk.nil, SlOk.nil, .inl rfl, .inl rfl⟩⟩
        have b34 : ((c.toNat : Int) == 34) = false := by simpa using h34
        by_cases hdg : c = 45 ∨ isDg c = true
        · have Hdg := Lib.hid hdg
          obtain ⟨D, hD⟩ : ∃ D, (fromB s (j + 1)).takeWhile isDg = D := ⟨_, rfl⟩
          have HD := Lib.hid hD
          have hDl : j + 1 + D.length ≤ s.size := by
            have h1 : D.length ≤ (fromB s (j + 1)).length := by rw [← hD]; exact (List.takeWhile_sublist _).length_le
            rw [from_len] at h1; omega
          obtain ⟨z, hz⟩ : ∃ z : Nat, j + 1 + D.length = z := ⟨_, rfl⟩
          have Hz := Lib.hid hz
          rw [hz] at hDl
          have hz1 : j + 1 ≤ z := by omega
          have HR := Lib.hid (show ((numL (c :: fromB s (j + 1))).map fun p => ((.mk 2 p.1 ⟨#[]⟩ [] [], p.2) : V × Bytes)) = R by
            rw [← HR.out]; unfold valD
            rw [if_neg (fun h => h34 (by rw [h]; rfl)), if_pos hdg])
          clear hD hz
          by_cases h45 : c = 45
          · have b45 : ((c.toNat : Int) == 45) = true := by rw [h45]; rfl
            have H45 := Lib.hid h45
            clear h45 hdg h34
            have hc0 := hBz.cells; have hf0 := hBz.free; have hl0 := hBz.lt
            go_upto_block 3 with fail
            go_cut [13] (fun t13 wx => t13 = .int .i64 z ∧ wx = wr)
            case first =>
              go_wp2_with fail
              go_loopg [13] (s.size - (j + 1)) (fun g t13 wx => ∃ k : Nat, t13 = .int .i64 k ∧ j + 1 ≤ k ∧ k ≤ z ∧ g = s.size - k ∧ Hid (((fromB s k).takeWhile isDg).length + k = z) ∧ wx = wr)
              case atStart => exact ⟨j + 1, by go_num, by omega, hz1, rfl, Lib.hid (by rw [HD.out, ← Hz.out]; omega), rfl⟩
              case round =>
                obtain ⟨k, rfl, hk1, hkz, rfl, Hk, rfl⟩ := hrel
                by_cases hks : k < s.size
                · have hk0 : (0 : Int) ≤ (k : Int) := by omega
                  have hki : (k : Int) < (s.size : Int) := by omega
                  obtain ⟨x, hx'⟩ : ∃ x, s[k] = x := ⟨_, rfl⟩
                  have Hx := Lib.hid hx'
                  have hxn : (s[k].toNat : Int) = (x.toNat : Int) := by rw [hx']
                  clear hx'
                  by_cases g1 : (48 : Int) ≤ (x.toNat : Int)
                  · by_cases g2 : (x.toNat : Int) ≤ 57
                    · have Hn := Lib.hid (show ((fromB s (k + 1)).takeWhile isDg).length + (k + 1) = z by
                        have h := Hk.out
                        rw [from_at hks, Hx.out, List.takeWhile_cons, if_pos (by unfold isDg; simp; omega), List.length_cons] at h
                        omega)
                      have hkz2 : k + 1 ≤ z := by have := Hn.out; omega
                      go_wp2_with fail
                      go_roundg (s.size - (k + 1))
                      case measure => omega
                      case rel => exact ⟨k + 1, by go_num, by omega, hkz2, rfl, Hn, rfl⟩
                    · obtain rfl : k = z := by
                        have h := Hk.out
                        rw [from_at hks, Hx.out, List.takeWhile_cons, if_neg (by unfold isDg; simp; omega), List.length_nil] at h
                        omega
                      go_wp2_with fail
                      go_meet
                      exact ⟨rfl, rfl⟩
                  · obtain rfl : k = z := by
                      have h := Hk.out
                      rw [from_at hks, Hx.out, List.takeWhile_cons, if_neg (by unfold isDg; simp; omega), List.length_nil] at h
                      omega
                    go_wp2_with fail
                    go_meet
                    exact ⟨rfl, rfl⟩
                · obtain rfl : k = z := by omega
                  have hki : ¬ (k : Int) < (s.size : Int) := by omega
                  go_wp2_with fail
                  go_meet
                  exact ⟨rfl, rfl⟩
            case rest =>
              obtain ⟨rfl, rfl⟩ := hcut
              have hz0i : (0 : Int) ≤ (z : Int) := by omega
              have hzsi : (z : Int) ≤ (s.size : Int) := by omega
              have hjzi : (j : Int) ≤ (z : Int) := by omega
              obtain ⟨u, hue⟩ : ∃ u, s.extract j z = u := ⟨_, rfl⟩
              have Hul := Lib.hid (show u.data.toList = numT c (fromB s (j + 1)) by
                rw [← hue, Lib.extract_data]
                rw [← num_take Hdg.out, ← Hfj.out]
                show (fromB s j).take (z - j) = _
                congr 1
                rw [Hfj.out, numN_at Hdg.out, HD.out, ← Hz.out]; omega)
              obtain ⟨q, hqe⟩ : ∃ q : ByteArray, q = ⟨(numD c (fromB s (j + 1))).toArray⟩ := ⟨_, rfl⟩
              have Hq := Lib.hid (show q.data.toList = numD c (fromB s (j + 1)) by rw [hqe])
              have Htr := Lib.hid (show (⟨(Lib.trimPrefix u.data.toList [45]).toArray⟩ : ByteArray) = q by
                rw [hqe, Hul.out]
                unfold numD
                rw [if_pos H45.out, numT, H45.out]; rfl)
              have hqs : q.size ≤ 1048576 := by
                have h1 : q.data.toList.length = q.size := Array.length_toList
                have h2 := Hz.out
                have h3 : (numD c (fromB s (j + 1))).length ≤ D.length + 1 := by
                  unfold numD numT
                  rw [HD.out]
                  split <;> simp
                rw [← Hq.out] at h3
                omega
              have hcv := fun w => run_bytes_of_string (P := Tryz.prog) w 9 86 5 q Tryz.underlying9 Tryz.underlying86 Tryz.underlying5
              clear hqe
              go_wp2_with fail
              (refine (Tryz.strings_TrimPrefix _ _ _).mono ?_); rintro e w2 ⟨rfl, rfl⟩
              rw [Htr.out]
              go_wp2_with fail
              refine gen_world (R := fun wx => (∀ k (h : k < q.size), wx.cell? ⟨w2.heap.size, k, none⟩ = some (.int .u8 q[k].toNat)) ∧ Box wx w.heap.size #[.int .i64 0, .int .i64 0, .string ⟨#[]⟩, .slice none 0 0, .slice none 0 0] 25 ∧ Ext w2 wx) ⟨fun k h => bytes_cell _ q _ _ _ k h, Bxt, Xt⟩ ?_
              rintro wx ⟨hcb, hBz, hxx⟩
              have Hcb := Lib.hid hcb
              have hx2 := hx.trans hxx
              clear hcb hcv hc0 hf0 hl0
              go_loopg [14, 16, 106] q.size (fun g t14 _ i wy => ∃ (k n : Nat), k ≤ q.size ∧ i = .int .i64 k ∧ g = q.size - k ∧ t14 = .int .i64 n ∧ n ≤ 90071992547409929 ∧ Hid ((q.data.toList.take k).foldl stepD 0 = n) ∧ wy = wx)
              case atStart => exact ⟨0, 0, by omega, rfl, rfl, rfl, by omega, Lib.hid rfl, rfl⟩
              case round =>
                obtain ⟨k, n, hk, rfl, rfl, rfl, hn, Hf, rfl⟩ := hrel
                by_cases hkq : k < q.size
                · have d0 := Hcb.out k hkq
                  obtain ⟨x, hxe⟩ : ∃ x, q[k] = x := ⟨_, rfl⟩
                  rw [hxe] at d0
                  have Hx := Lib.hid hxe
                  have hk0 : (0 : Int) ≤ (k : Int) := by omega
                  have hki : (k : Int) < (q.size : Int) := by omega
                  clear hxe
                  by_cases h53 : 9007199254740992 < n
                  · have i53 : (9007199254740992 : Int) < (n : Int) := by omega
                    have HRn := Lib.hid (show R = none by rw [← HR.out, num_bail Hdg.out (q := k) (by rw [← Hq.out, Hf.out]; exact h53)]; rfl)
                    clear h53
                    have hc0 := hBz.cells; have hf0 := hBz.free; have hl0 := hBz.lt
                    go_wp2_with fail
                    (with_reducible apply bp_ret); (focus (go_light; simp [results, Tryz.results44, go_sem, *]; rfl))
                    rw [HRn.out]
                    exact ⟨Xt, V.zero, none, 0, none, 0, _, rfl, rfl⟩
                  · have i53 : ¬ (9007199254740992 : Int) < (n : Int) := by omega
                    have hxd := numD_dg Hdg.out x (by rw [← Hq.out, ← Hx.out]; exact List.getElem_mem (by simpa using hkq))
                    have hx48 : 48 ≤ x.toNat := by unfold isDg at hxd; simp at hxd; omega
                    have hx57 : x.toNat ≤ 57 := by unfold isDg at hxd; simp at hxd; omega
                    have hw := u8sub x.toNat x.toNat_lt 48 hx48
                    obtain ⟨v, hv⟩ : ∃ v, x.toNat - 48 = v := ⟨_, rfl⟩
                    rw [hv] at hw
                    have hw : IntKind.u8.wrap ((x.toNat : Int) - 48) = (v : Int) := hw
                    have hv9 : v ≤ 9 := by omega
                    have Hn := Lib.hid (show (q.data.toList.take (k + 1)).foldl stepD 0 = 10 * n + v by
                      rw [List.take_succ_eq_append_getElem (by simpa using hkq), List.foldl_append, Hf.out]
                      show 10 * n + ((q[k]).toNat - 48) = _
                      rw [Hx.out, hv])
                    have hx256 := x.toNat_lt
                    clear hv hxd h53
                    go_wp2_with fail
                    go_roundg (q.size - (k + 1))
                    case measure => omega
                    case rel => exact ⟨k + 1, 10 * n + v, by omega, by go_num, rfl, congrArg (Value.int .i64) (by omega), by omega, Hn, rfl⟩
                · obtain rfl : k = q.size := by omega
                  obtain ⟨k0, hk0⟩ : ∃ k0 : Int, -(n : Int) = k0 := ⟨_, rfl⟩
                  have hlo : -90071992547409929 ≤ k0 := by omega
                  have hhi : k0 ≤ 90071992547409929 := by omega
                  have He := Lib.hid (num_end (t := fromB s (j + 1)) Hdg.out (k := k0) (by
                    have h := Hf.out
                    rw [List.take_of_length_le (by simp), Hq.out] at h
                    rw [h, if_pos H45.out, hk0]))
                  have HR := Lib.hid (show R = if -9007199254740992 ≤ k0 ∧ k0 ≤ 9007199254740992 ∧ Lib.itoa k0 = u.data.toList then some (.mk 2 k0 ⟨#[]⟩ [] [], fromB s z) else none by
                    rw [← HR.out, He.out, Hul.out]
                    have hdr : (fromB s (j + 1)).drop ((fromB s (j + 1)).takeWhile isDg).length = fromB s z := by rw [HD.out, ← Hz.out]; simp [fromB]
                    rw [hdr]
                    split <;> rfl)
                  go_upto_region 28 with fail
                  (try rw [hk0])
                  clear hk0 hn hBS
                  by_cases hg : (9007199254740992 : Int) < k0
                  · have HRn := Lib.hid (show R = none by rw [HR.out, if_neg (by omega)])
                    refine wp_region_held_drew (S := fun _ => True) (by kernel_rfl) trivial (fun hHeld => ?_)
                    (refine wpAnyH_take (i := 0) (v := ?_) (Array.getElem?_eq_getElem (by decide)) (by kernel_rfl) (by kernel_rfl) (by kernel_rfl) (fun _ _ _ h => h) (Or.inl ⟨by kernel_rfl, ?_⟩) (by assumption) ?_); rotate_left; (focus (intro w hSw; (try dsimp only at hSw); (try simp only [rl]); go_simp; (try with_reducible rfl))); (try simp only [rl])
                    (refine wpAnyH_take (i := 1) (v := ?_) (Array.getElem?_eq_getElem (by decide)) (by kernel_rfl) (by kernel_rfl) (by kernel_rfl) (fun _ _ _ h => h) (Or.inl ⟨by kernel_rfl, ?_⟩) (by assumption) ?_); rotate_left; (focus (intro w hSw; (try dsimp only at hSw); (try simp only [rl]); go_simp; (try with_reducible rfl))); (try simp only [rl])
                    (refine wpAnyH_take (i := 2) (v := ?_) (Array.getElem?_eq_getElem (by decide)) (by kernel_rfl) (by kernel_rfl) (by kernel_rfl) (fun _ _ _ h => h) (Or.inl ⟨by kernel_rfl, ?_⟩) (by assumption) ?_); rotate_left; (focus (intro w hSw; (try dsimp only at hSw); (try simp only [rl]); go_simp; (try with_reducible rfl))); (try simp only [rl])
                    (refine wpAnyH_take (i := 3) (v := undef) (Array.getElem?_eq_getElem (by decide)) (by kernel_rfl) (by kernel_rfl) (by kernel_rfl) (fun _ _ _ h => h) (Or.inr ⟨by kernel_rfl, rfl⟩) (by assumption) ?_); (try simp only [rl])
                    (refine wpAnyH_take (i := 4) (v := undef) (Array.getElem?_eq_getElem (by decide)) (by kernel_rfl) (by kernel_rfl) (by kernel_rfl) (fun _ _ _ h => h) (Or.inr ⟨by kernel_rfl, rfl⟩) (by assumption) ?_); (try simp only [rl])
                    (refine wpAnyH_take (i := 5) (v := ?_) (Array.getElem?_eq_getElem (by decide)) (by kernel_rfl) (by kernel_rfl) (by kernel_rfl) (fun _ _ _ h => h) (Or.inl ⟨by kernel_rfl, ?_⟩) (by assumption) ?_); rotate_left; (focus (intro w hSw; (try dsimp only at hSw); (try simp only [rl]); go_simp; (try with_reducible rfl))); (try simp only [rl])
                    (refine wpAnyH_take (i := 6) (v := ?_) (Array.getElem?_eq_getElem (by decide)) (by kernel_rfl) (by kernel_rfl) (by kernel_rfl) (fun _ _ _ h => h) (Or.inl ⟨by kernel_rfl, ?_⟩) (by assumption) ?_); rotate_left; (focus (intro w hSw; (try dsimp only at hSw); (try simp only [rl]); go_simp; (try with_reducible rfl))); (try simp only [rl])
                    (refine wpAnyH_take (i := 7) (v := undef) (Array.getElem?_eq_getElem (by decide)) (by kernel_rfl) (by kernel_rfl) (by kernel_rfl) (fun _ _ _ h => h) (Or.inr ⟨by kernel_rfl, rfl⟩) (by assumption) ?_); (try simp only [rl])
                    (refine wpAnyH_take (i := 8) (v := undef) (Array.getElem?_eq_getElem (by decide)) (by kernel_rfl) (by kernel_rfl) (by kernel_rfl) (fun _ _ _ h => h) (Or.inr ⟨by kernel_rfl, rfl⟩) (by assumption) ?_); (try simp only [rl])
                    (refine wpAnyH_take (i := 9) (v := undef) (Array.getElem?_eq_getElem (by decide)) (by kernel_rfl) (by kernel_rfl) (by kernel_rfl) (fun _ _ _ h => h) (Or.inr ⟨by kernel_rfl, rfl⟩) (by assumption) ?_); (try simp only [rl])
                    (refine wpAnyH_take (i := 10) (v := undef) (Array.getElem?_eq_getElem (by decide)) (by kernel_rfl) (by kernel_rfl) (by kernel_rfl) (fun _ _ _ h => h) (Or.inr ⟨by kernel_rfl, rfl⟩) (by assumption) ?_); (try simp only [rl])
                    (refine wpAnyH_take (i := 11) (v := undef) (Array.getElem?_eq_getElem (by decide)) (by kernel_rfl) (by kernel_rfl) (by kernel_rfl) (fun _ _ _ h => h) (Or.inr ⟨by kernel_rfl, rfl⟩) (by assumption) ?_); (try simp only [rl])
                    (refine wpAnyH_take (i := 12) (v := undef) (Array.getElem?_eq_getElem (by decide)) (by kernel_rfl) (by kernel_rfl) (by kernel_rfl) (fun _ _ _ h => h) (Or.inr ⟨by kernel_rfl, rfl⟩) (by assumption) ?_); (try simp only [rl])
                    (refine wpAnyH_take (i := 13) (v := undef) (Array.getElem?_eq_getElem (by decide)) (by kernel_rfl) (by kernel_rfl) (by kernel_rfl) (fun _ _ _ h => h) (Or.inr ⟨by kernel_rfl, rfl⟩) (by assumption) ?_); (try simp only [rl])
                    (refine wpAnyH_take (i := 14) (v := ?_) (Array.getElem?_eq_getElem (by decide)) (by kernel_rfl) (by kernel_rfl) (by kernel_rfl) (fun _ _ _ h => h) (Or.inl ⟨by kernel_rfl, ?_⟩) (by assumption) ?_); rotate_left; (focus (intro w hSw; (try dsimp only at hSw); (try simp only [rl]); go_simp; (try with_reducible rfl))); (try simp only [rl])
                    refine wpAnyH_done (by kernel_rfl) ?_ _
                    have hc0 := hBz.cells; have hf0 := hBz.free; have hl0 := hBz.lt
                    go_wp2_with fail
                    (with_reducible apply bp_ret); (focus (go_light; simp [results, Tryz.results44, go_sem, *]; rfl))
                    rw [HRn.out]
                    exact ⟨Xt, V.zero, none, 0, none, 0, _, rfl, rfl⟩
                  by_cases hl : k0 < -9007199254740992
                  · have HRn := Lib.hid (show R = none by rw [HR.out, if_neg (by omega)])
                    refine wp_region_held_drew (S := fun _ => True) (by kernel_rfl) trivial (fun hHeld => ?_)
                    (refine wpAnyH_take (i := 0) (v := ?_) (Array.getElem?_eq_getElem (by decide)) (by kernel_rfl) (by kernel_rfl) (by kernel_rfl) (fun _ _ _ h => h) (Or.inl ⟨by kernel_rfl, ?_⟩) (by assumption) ?_); rotate_left; (focus (intro w hSw; (try dsimp only at hSw); (try simp only [rl]); go_simp; (try with_reducible rfl))); (try simp only [rl])
                    (refine wpAnyH_take (i := 1) (v := ?_) (Array.getElem?_eq_getElem (by decide)) (by kernel_rfl) (by kernel_rfl) (by kernel_rfl) (fun _ _ _ h => h) (Or.inl ⟨by kernel_rfl, ?_⟩) (by assumption) ?_); rotate_left; (focus (intro w hSw; (try dsimp only at hSw); (try simp only [rl]); go_simp; (try with_reducible rfl))); (try simp only [rl])
                    (refine wpAnyH_take (i := 2) (v := ?_) (Array.getElem?_eq_getElem (by decide)) (by kernel_rfl) (by kernel_rfl) (by kernel_rfl) (fun _ _ _ h => h) (Or.inl ⟨by kernel_rfl, ?_⟩) (by assumption) ?_); rotate_left; (focus (intro w hSw; (try dsimp only at hSw); (try simp only [rl]); go_simp; (try with_reducible rfl))); (try simp only [rl])
                    (refine wpAnyH_take (i := 3) (v := ?_) (Array.getElem?_eq_getElem (by decide)) (by kernel_rfl) (by kernel_rfl) (by kernel_rfl) (fun _ _ _ h => h) (Or.inl ⟨by kernel_rfl, ?_⟩) (by assumption) ?_); rotate_left; (focus (intro w hSw; (try dsimp only at hSw); (try simp only [rl]); go_simp; (try with_reducible rfl))); (try simp only [rl])
                    (refine wpAnyH_take (i := 4) (v := ?_) (Array.getElem?_eq_getElem (by decide)) (by kernel_rfl) (by kernel_rfl) (by kernel_rfl) (fun _ _ _ h => h) (Or.inl ⟨by kernel_rfl, ?_⟩) (by assumption) ?_); rotate_left; (focus (intro w hSw; (try dsimp only at hSw); (try simp only [rl]); go_simp; (try with_reducible rfl))); (try simp only [rl])
                    (refine wpAnyH_take (i := 5) (v := ?_) (Array.getElem?_eq_getElem (by decide)) (by kernel_rfl) (by kernel_rfl) (by kernel_rfl) (fun _ _ _ h => h) (Or.inl ⟨by kernel_rfl, ?_⟩) (by assumption) ?_); rotate_left; (focus (intro w hSw; (try dsimp only at hSw); (try simp only [rl]); go_simp; (try with_reducible rfl))); (try simp only [rl])
                    (refine wpAnyH_take (i := 6) (v := ?_) (Array.getElem?_eq_getElem (by decide)) (by kernel_rfl) (by kernel_rfl) (by kernel_rfl) (fun _ _ _ h => h) (Or.inl ⟨by kernel_rfl, ?_⟩) (by assumption) ?_); rotate_left; (focus (intro w hSw; (try dsimp only at hSw); (try simp only [rl]); go_simp; (try with_reducible rfl))); (try simp only [rl])
                    (refine wpAnyH_take (i := 7) (v := undef) (Array.getElem?_eq_getElem (by decide)) (by kernel_rfl) (by kernel_rfl) (by kernel_rfl) (fun _ _ _ h => h) (Or.inr ⟨by kernel_rfl, rfl⟩) (by assumption) ?_); (try simp only [rl])
                    (refine wpAnyH_take (i := 8) (v := undef) (Array.getElem?_eq_getElem (by decide)) (by kernel_rfl) (by kernel_rfl) (by kernel_rfl) (fun _ _ _ h => h) (Or.inr ⟨by kernel_rfl, rfl⟩) (by assumption) ?_); (try simp only [rl])
                    (refine wpAnyH_take (i := 9) (v := undef) (Array.getElem?_eq_getElem (by decide)) (by kernel_rfl) (by kernel_rfl) (by kernel_rfl) (fun _ _ _ h => h) (Or.inr ⟨by kernel_rfl, rfl⟩) (by assumption) ?_); (try simp only [rl])
                    (refine wpAnyH_take (i := 10) (v := undef) (Array.getElem?_eq_getElem (by decide)) (by kernel_rfl) (by kernel_rfl) (by kernel_rfl) (fun _ _ _ h => h) (Or.inr ⟨by kernel_rfl, rfl⟩) (by assumption) ?_); (try simp only [rl])
                    (refine wpAnyH_take (i := 11) (v := undef) (Array.getElem?_eq_getElem (by decide)) (by kernel_rfl) (by kernel_rfl) (by kernel_rfl) (fun _ _ _ h => h) (Or.inr ⟨by kernel_rfl, rfl⟩) (by assumption) ?_); (try simp only [rl])
                    (refine wpAnyH_take (i := 12) (v := undef) (Array.getElem?_eq_getElem (by decide)) (by kernel_rfl) (by kernel_rfl) (by kernel_rfl) (fun _ _ _ h => h) (Or.inr ⟨by kernel_rfl, rfl⟩) (by assumption) ?_); (try simp only [rl])
                    (refine wpAnyH_take (i := 13) (v := undef) (Array.getElem?_eq_getElem (by decide)) (by kernel_rfl) (by kernel_rfl) (by kernel_rfl) (fun _ _ _ h => h) (Or.inr ⟨by kernel_rfl, rfl⟩) (by assumption) ?_); (try simp only [rl])
                    (refine wpAnyH_take (i := 14) (v := ?_) (Array.getElem?_eq_getElem (by decide)) (by kernel_rfl) (by kernel_rfl) (by kernel_rfl) (fun _ _ _ h => h) (Or.inl ⟨by kernel_rfl, ?_⟩) (by assumption) ?_); rotate_left; (focus (intro w hSw; (try dsimp only at hSw); (try simp only [rl]); go_simp; (try with_reducible rfl))); (try simp only [rl])
                    refine wpAnyH_done (by kernel_rfl) ?_ _
                    have hc0 := hBz.cells; have hf0 := hBz.free; have hl0 := hBz.lt
                    go_wp2_with fail
                    (with_reducible apply bp_ret); (focus (go_light; simp [results, Tryz.results44, go_sem, *]; rfl))
                    rw [HRn.out]
                    exact ⟨Xt, V.zero, none, 0, none, 0, _, rfl, rfl⟩
                  refine wp_region_held_drew (S := fun _ => True) (by kernel_rfl) trivial (fun hHeld => ?_)
                  (refine wpAnyH_take (i := 0) (v := ?_) (Array.getElem?_eq_getElem (by decide)) (by kernel_rfl) (by kernel_rfl) (by kernel_rfl) (fun _ _ _ h => h) (Or.inl ⟨by kernel_rfl, ?_⟩) (by assumption) ?_); rotate_left; (focus (intro w hSw; (try dsimp only at hSw); (try simp only [rl]); go_simp; (try with_reducible rfl))); (try simp only [rl])
                  (refine wpAnyH_take (i := 1) (v := ?_) (Array.getElem?_eq_getElem (by decide)) (by kernel_rfl) (by kernel_rfl) (by kernel_rfl) (fun _ _ _ h => h) (Or.inl ⟨by kernel_rfl, ?_⟩) (by assumption) ?_); rotate_left; (focus (intro w hSw; (try dsimp only at hSw); (try simp only [rl]); go_simp; (try with_reducible rfl))); (try simp only [rl])
                  (refine wpAnyH_take (i := 2) (v := ?_) (Array.getElem?_eq_getElem (by decide)) (by kernel_rfl) (by kernel_rfl) (by kernel_rfl) (fun _ _ _ h => h) (Or.inl ⟨by kernel_rfl, ?_⟩) (by assumption) ?_); rotate_left; (focus (intro w hSw; (try dsimp only at hSw); (try simp only [rl]); go_simp; (try with_reducible rfl))); (try simp only [rl])
                  (refine wpAnyH_take (i := 3) (v := ?_) (Array.getElem?_eq_getElem (by decide)) (by kernel_rfl) (by kernel_rfl) (by kernel_rfl) (fun _ _ _ h => h) (Or.inl ⟨by kernel_rfl, ?_⟩) (by assumption) ?_); rotate_left; (focus (intro w hSw; (try dsimp only at hSw); (try simp only [rl]); go_simp; (try with_reducible rfl))); (try simp only [rl])
                  (refine wpAnyH_take (i := 4) (v := ?_) (Array.getElem?_eq_getElem (by decide)) (by kernel_rfl) (by kernel_rfl) (by kernel_rfl) (fun _ _ _ h => h) (Or.inl ⟨by kernel_rfl, ?_⟩) (by assumption) ?_); rotate_left; (focus (intro w hSw; (try dsimp only at hSw); (try simp only [rl]); go_simp; (try with_reducible rfl))); (try simp only [rl])
                  (refine wpAnyH_take (i := 5) (v := ?_) (Array.getElem?_eq_getElem (by decide)) (by kernel_rfl) (by kernel_rfl) (by kernel_rfl) (fun _ _ _ h => h) (Or.inl ⟨by kernel_rfl, ?_⟩) (by assumption) ?_); rotate_left; (focus (intro w hSw; (try dsimp only at hSw); (try simp only [rl]); go_simp; (try with_reducible rfl))); (try simp only [rl])
                  (refine wpAnyH_take (i := 6) (v := ?_) (Array.getElem?_eq_getElem (by decide)) (by kernel_rfl) (by kernel_rfl) (by kernel_rfl) (fun _ _ _ h => h) (Or.inl ⟨by kernel_rfl, ?_⟩) (by assumption) ?_); rotate_left; (focus (intro w hSw; (try dsimp only at hSw); (try simp only [rl]); go_simp; (try with_reducible rfl))); (try simp only [rl])
                  (refine wpAnyH_take (i := 7) (v := ?_) (Array.getElem?_eq_getElem (by decide)) (by kernel_rfl) (by kernel_rfl) (by kernel_rfl) (fun _ _ _ h => h) (Or.inl ⟨by kernel_rfl, ?_⟩) (by assumption) ?_); rotate_left; (focus (intro w hSw; (try dsimp only at hSw); (try simp only [rl]); go_simp; (try with_reducible rfl))); (try simp only [rl])
                  (refine wpAnyH_take (i := 9) (v := ?_) (Array.getElem?_eq_getElem (by decide)) (by kernel_rfl) (by kernel_rfl) (by kernel_rfl) (fun _ _ _ h => h) (Or.inl ⟨by kernel_rfl, ?_⟩) (by assumption) ?_); rotate_left; (focus (intro w hSw; (try dsimp only at hSw); (try simp only [rl]); go_simp; (try with_reducible rfl))); (try simp only [rl])
                  (refine wpAnyH_take (i := 10) (v := ?_) (Array.getElem?_eq_getElem (by decide)) (by kernel_rfl) (by kernel_rfl) (by kernel_rfl) (fun _ _ _ h => h) (Or.inl ⟨by kernel_rfl, ?_⟩) (by assumption) ?_); rotate_left; (focus (intro w hSw; (try dsimp only at hSw); (try simp only [rl]); go_simp; (try with_reducible rfl))); (try simp only [rl])
                  (refine wpAnyH_take (i := 11) (v := ?_) (Array.getElem?_eq_getElem (by decide)) (by kernel_rfl) (by kernel_rfl) (by kernel_rfl) (fun _ _ _ h => h) (Or.inl ⟨by kernel_rfl, ?_⟩) (by assumption) ?_); rotate_left; (focus (intro w hSw; (try dsimp only at hSw); (try simp only [rl]); go_simp; (try with_reducible rfl))); (try simp only [rl])
                  (refine wpAnyH_take (i := 12) (v := ?_) (Array.getElem?_eq_getElem (by decide)) (by kernel_rfl) (by kernel_rfl) (by kernel_rfl) (fun _ _ _ h => h) (Or.inl ⟨by kernel_rfl, ?_⟩) (by assumption) ?_); rotate_left; (focus (intro w hSw; (try dsimp only at hSw); (try simp only [rl]); go_simp; (try with_reducible rfl))); (try simp only [rl])
                  (refine wpAnyH_ready (rs := [8]) (by kernel_rfl) (by simp) ?_); (refine AllReadyH.cons (Array.getElem?_eq_getElem (by decide)) (fun K hK => ?_) AllReadyH.nil); (try simp only [rl])
                  (try go_simp)
                  (refine (decimal_any k0 (by omega) (by omega) _).mono ?_)
                  rintro e w3 ⟨qd, rfl, hqd, h3⟩
                  (try go_simp)
                  have hBz := Box.ext (w' := w3) Xt hBz
                  have hx3 : Ext w w3 := Xt
                  have Hqd := Lib.hid hqd
                  refine hK.out _ _ trivial (fun hHeld => ?_)
                  clear hK K hqd h3
                  (try simp only [rl])
                  by_cases heq : qd = u
                  · have hb : (qd.toList == u.toList) = true := by rw [heq]; simp
                    have HRn := Lib.hid (show R = some (.mk 2 k0 ⟨#[]⟩ [] [], fromB s z) by rw [HR.out, if_pos ⟨by omega, by omega, by rw [← Hqd.out, heq]⟩])
                    clear heq
                    (refine wpAnyH_take (i := 13) (v := ?_) (Array.getElem?_eq_getElem (by decide)) (by kernel_rfl) (by kernel_rfl) (by kernel_rfl) (fun _ _ _ h => h) (Or.inl ⟨by kernel_rfl, ?_⟩) (by assumption) ?_); rotate_left; (focus (intro w hSw; (try dsimp only at hSw); (try simp only [rl]); go_simp; (try with_reducible rfl))); (try simp only [rl])
                    (refine wpAnyH_take (i := 14) (v := ?_) (Array.getElem?_eq_getElem (by decide)) (by kernel_rfl) (by kernel_rfl) (by kernel_rfl) (fun _ _ _ h => h) (Or.inl ⟨by kernel_rfl, ?_⟩) (by assumption) ?_); rotate_left; (focus (intro w hSw; (try dsimp only at hSw); (try simp only [rl]); go_simp; (try with_reducible rfl))); (try simp only [rl])
                    refine wpAnyH_done (by kernel_rfl) ?_ _
                    have hc0 := hBz.cells; have hf0 := hBz.free; have hl0 := hBz.lt
                    go_wp2_with fail
                    (with_reducible apply bp_ret); (focus (go_light; simp [results, Tryz.results44, go_sem, *]; rfl))
                    rw [HRn.out]
                    exact ⟨Xt, .mk 2 k0 ⟨#[]⟩ [] [], none, 0, none, 0, _, rfl, z, rfl, hDl, rfl, rfl, (V.in_iff ..).2 ⟨SlOk.nil, SlOk.nil, .inl rfl, .inl rfl⟩⟩
                  · have hb : (qd.toList == u.toList) = false := by simpa using fun h => heq (bytes_ext h)
                    have HRn := Lib.hid (show R = none by rw [HR.out, if_neg (fun h => heq (ByteArray.ext (Array.toList_inj.1 (Hqd.out.trans h.2.2))))])
                    clear heq
                    (refine wpAnyH_take (i := 13) (v := ?_) (Array.getElem?_eq_getElem (by decide)) (by kernel_rfl) (by kernel_rfl) (by kernel_rfl) (fun _ _ _ h => h) (Or.inl ⟨by kernel_rfl, ?_⟩) (by assumption) ?_); rotate_left; (focus (intro w hSw; (try dsimp only at hSw); (try simp only [rl]); go_simp; (try with_reducible rfl))); (try simp only [rl])
                    (refine wpAnyH_take (i := 14) (v := ?_) (Array.getElem?_eq_getElem (by decide)) (by kernel_rfl) (by kernel_rfl) (by kernel_rfl) (fun _ _ _ h => h) (Or.inl ⟨by kernel_rfl, ?_⟩) (by assumption) ?_); rotate_left; (focus (intro w hSw; (try dsimp only at hSw); (try simp only [rl]); go_simp; (try with_reducible rfl))); (try simp only [rl])
                    refine wpAnyH_done (by kernel_rfl) ?_ _
                    have hc0 := hBz.cells; have hf0 := hBz.free; have hl0 := hBz.lt
                    go_wp2_with fail
                    (with_reducible apply bp_ret); (focus (go_light; simp [results, Tryz.results44, go_sem, *]; rfl))
                    rw [HRn.out]
                    exact ⟨Xt, V.zero, none, 0, none, 0, _, rfl, rfl⟩
          · have b45 : ((c.toNat : Int) == 45) = false := by simpa using fun h => h45 (byte_is (n := 45) (by omega) h)
            have H45 := Lib.hid h45
            have hc48 : (48 : Int) ≤ (c.toNat : Int) := by have := hdg.resolve_left h45; unfold isDg at this; simp at this; omega
            have hc57 : (c.toNat : Int) ≤ 57 := by have := hdg.resolve_left h45; unfold isDg at this; simp at this; omega
            clear h45 hdg h34
            have hc0 := hBz.cells; have hf0 := hBz.free; have hl0 := hBz.lt
            go_upto_block 3 with fail
            go_cut [13] (fun t13 wx => t13 = .int .i64 z ∧ wx = wr)
            case first =>
              go_wp2_with fail
              go_loopg [13] (s.size - (j + 1)) (fun g t13 wx => ∃ k : Nat, t13 = .int .i64 k ∧ j + 1 ≤ k ∧ k ≤ z ∧ g = s.size - k ∧ Hid (((fromB s k).takeWhile isDg).length + k = z) ∧ wx = wr)
              case atStart => exact ⟨j + 1, by go_num, by omega, hz1, rfl, Lib.hid (by rw [HD.out, ← Hz.out]; omega), rfl⟩
              case round =>
                obtain ⟨k, rfl, hk1, hkz, rfl, Hk, rfl⟩ := hrel
                by_cases hks : k < s.size
                · have hk0 : (0 : Int) ≤ (k : Int) := by omega
                  have hki : (k : Int) < (s.size : Int) := by omega
                  obtain ⟨x, hx'⟩ : ∃ x, s[k] = x := ⟨_, rfl⟩
                  have Hx := Lib.hid hx'
                  have hxn : (s[k].toNat : Int) = (x.toNat : Int) := by rw [hx']
                  clear hx'
                  by_cases g1 : (48 : Int) ≤ (x.toNat : Int)
                  · by_cases g2 : (x.toNat : Int) ≤ 57
                    · have Hn := Lib.hid (show ((fromB s (k + 1)).takeWhile isDg).length + (k + 1) = z by
                        have h := Hk.out
                        rw [from_at hks, Hx.out, List.takeWhile_cons, if_pos (by unfold isDg; simp; omega), List.length_cons] at h
                        omega)
                      have hkz2 : k + 1 ≤ z := by have := Hn.out; omega
                      go_wp2_with fail
                      go_roundg (s.size - (k + 1))
                      case measure => omega
                      case rel => exact ⟨k + 1, by go_num, by omega, hkz2, rfl, Hn, rfl⟩
                    · obtain rfl : k = z := by
                        have h := Hk.out
                        rw [from_at hks, Hx.out, List.takeWhile_cons, if_neg (by unfold isDg; simp; omega), List.length_nil] at h
                        omega
                      go_wp2_with fail
                      go_meet
                      exact ⟨rfl, rfl⟩
                  · obtain rfl : k = z := by
                      have h := Hk.out
                      rw [from_at hks, Hx.out, List.takeWhile_cons, if_neg (by unfold isDg; simp; omega), List.length_nil] at h
                      omega
                    go_wp2_with fail
                    go_meet
                    exact ⟨rfl, rfl⟩
                · obtain rfl : k = z := by omega
                  have hki : ¬ (k : Int) < (s.size : Int) := by omega
                  go_wp2_with fail
                  go_meet
                  exact ⟨rfl, rfl⟩
            case rest =>
              obtain ⟨rfl, rfl⟩ := hcut
              have hz0i : (0 : Int) ≤ (z : Int) := by omega
              have hzsi : (z : Int) ≤ (s.size : Int) := by omega
              have hjzi : (j : Int) ≤ (z : Int) := by omega
              obtain ⟨u, hue⟩ : ∃ u, s.extract j z = u := ⟨_, rfl⟩
              have Hul := Lib.hid (show u.data.toList = numT c (fromB s (j + 1)) by
                rw [← hue, Lib.extract_data]
                rw [← num_take Hdg.out, ← Hfj.out]
                show (fromB s j).take (z - j) = _
                congr 1
                rw [Hfj.out, numN_at Hdg.out, HD.out, ← Hz.out]; omega)
              obtain ⟨q, hqe⟩ : ∃ q : ByteArray, q = ⟨(numD c (fromB s (j + 1))).toArray⟩ := ⟨_, rfl⟩
              have Hq := Lib.hid (show q.data.toList = numD c (fromB s (j + 1)) by rw [hqe])
              have Htr := Lib.hid (show (⟨(Lib.trimPrefix u.data.toList [45]).toArray⟩ : ByteArray) = q by
                rw [hqe, Hul.out]
                unfold numD
                rw [if_neg H45.out, numT]
                unfold Lib.trimPrefix Lib.hasPrefix
                rw [if_neg (by rw [pre_cons]; simpa using fun h => H45.out h.symm)])
              have hqs : q.size ≤ 1048576 := by
                have h1 : q.data.toList.length = q.size := Array.length_toList
                have h2 := Hz.out
                have h3 : (numD c (fromB s (j + 1))).length ≤ D.length + 1 := by
                  unfold numD numT
                  rw [HD.out]
                  split <;> simp
                rw [← Hq.out] at h3
                omega
              have hcv := fun w => run_bytes_of_string (P := Tryz.prog) w 9 86 5 q Tryz.underlying9 Tryz.underlying86 Tryz.underlying5
              clear hqe
              go_wp2_with fail
              (refine (Tryz.strings_TrimPrefix _ _ _).mono ?_); rintro e w2 ⟨rfl, rfl⟩
              rw [Htr.out]
              go_wp2_with fail
              refine gen_world (R := fun wx => (∀ k (h : k < q.size), wx.cell? ⟨w2.heap.size, k, none⟩ = some (.int .u8 q[k].toNat)) ∧ Box wx w.heap.size #[.int .i64 0, .int .i64 0, .string ⟨#[]⟩, .slice none 0 0, .slice none 0 0] 25 ∧ Ext w2 wx) ⟨fun k h => bytes_cell _ q _ _ _ k h, Bxt, Xt⟩ ?_
              rintro wx ⟨hcb, hBz, hxx⟩
              have Hcb := Lib.hid hcb
              have hx2 := hx.trans hxx
              clear hcb hcv hc0 hf0 hl0
              go_loopg [14, 16, 106] q.size (fun g t14 _ i wy => ∃ (k n : Nat), k ≤ q.size ∧ i = .int .i64 k ∧ g = q.size - k ∧ t14 = .int .i64 n ∧ n ≤ 90071992547409929 ∧ Hid ((q.data.toList.take k).foldl stepD 0 = n) ∧ wy = wx)
              case atStart => exact ⟨0, 0, by omega, rfl, rfl, rfl, by omega, Lib.hid rfl, rfl⟩
              case round =>
                obtain ⟨k, n, hk, rfl, rfl, rfl, hn, Hf, rfl⟩ := hrel
                by_cases hkq : k < q.size
                · have d0 := Hcb.out k hkq
                  obtain ⟨x, hxe⟩ : ∃ x, q[k] = x := ⟨_, rfl⟩
                  rw [hxe] at d0
                  have Hx := Lib.hid hxe
                  have hk0 : (0 : Int) ≤ (k : Int) := by omega
                  have hki : (k : Int) < (q.size : Int) := by omega
                  clear hxe
                  by_cases h53 : 9007199254740992 < n
                  · have i53 : (9007199254740992 : Int) < (n : Int) := by omega
                    have HRn := Lib.hid (show R = none by rw [← HR.out, num_bail Hdg.out (q := k) (by rw [← Hq.out, Hf.out]; exact h53)]; rfl)
                    clear h53
                    have hc0 := hBz.cells; have hf0 := hBz.free; have hl0 := hBz.lt
                    go_wp2_with fail
                    (with_reducible apply bp_ret); (focus (go_light; simp [results, Tryz.results44, go_sem, *]; rfl))
                    rw [HRn.out]
                    exact ⟨Xt, V.zero, none, 0, none, 0, _, rfl, rfl⟩
                  · have i53 : ¬ (9007199254740992 : Int) < (n : Int) := by omega
                    have hxd := numD_dg Hdg.out x (by rw [← Hq.out, ← Hx.out]; exact List.getElem_mem (by simpa using hkq))
                    have hx48 : 48 ≤ x.toNat := by unfold isDg at hxd; simp at hxd; omega
                    have hx57 : x.toNat ≤ 57 := by unfold isDg at hxd; simp at hxd; omega
                    have hw := u8sub x.toNat x.toNat_lt 48 hx48
                    obtain ⟨v, hv⟩ : ∃ v, x.toNat - 48 = v := ⟨_, rfl⟩
                    rw [hv] at hw
                    have hw : IntKind.u8.wrap ((x.toNat : Int) - 48) = (v : Int) := hw
                    have hv9 : v ≤ 9 := by omega
                    have Hn := Lib.hid (show (q.data.toList.take (k + 1)).foldl stepD 0 = 10 * n + v by
                      rw [List.take_succ_eq_append_getElem (by simpa using hkq), List.foldl_append, Hf.out]
                      show 10 * n + ((q[k]).toNat - 48) = _
                      rw [Hx.out, hv])
                    have hx256 := x.toNat_lt
                    clear hv hxd h53
                    go_wp2_with fail
                    go_roundg (q.size - (k + 1))
                    case measure => omega
                    case rel => exact ⟨k + 1, 10 * n + v, by omega, by go_num, rfl, congrArg (Value.int .i64) (by omega), by omega, Hn, rfl⟩
                · obtain rfl : k = q.size := by omega
                  obtain ⟨k0, hk0⟩ : ∃ k0 : Int, (n : Int) = k0 := ⟨_, rfl⟩
                  have hlo : -90071992547409929 ≤ k0 := by omega
                  have hhi : k0 ≤ 90071992547409929 := by omega
                  have He := Lib.hid (num_end (t := fromB s (j + 1)) Hdg.out (k := k0) (by
                    have h := Hf.out
                    rw [List.take_of_length_le (by simp), Hq.out] at h
                    rw [h, if_neg H45.out, hk0]))
                  have HR := Lib.hid (show R = if -9007199254740992 ≤ k0 ∧ k0 ≤ 9007199254740992 ∧ Lib.itoa k0 = u.data.toList then some (.mk 2 k0 ⟨#[]⟩ [] [], fromB s z) else none by
                    rw [← HR.out, He.out, Hul.out]
                    have hdr : (fromB s (j + 1)).drop ((fromB s (j + 1)).takeWhile isDg).length = fromB s z := by rw [HD.out, ← Hz.out]; simp [fromB]
                    rw [hdr]
                    split <;> rfl)
                  go_upto_region 28 with fail
                  (try rw [hk0])
                  clear hk0 hn hBS
                  by_cases hg : (9007199254740992 : Int) < k0
                  · have HRn := Lib.hid (show R = none by rw [HR.out, if_neg (by omega)])
                    refine wp_region_held_drew (S := fun _ => True) (by kernel_rfl) trivial (fun hHeld => ?_)
                    (refine wpAnyH_take (i := 0) (v := ?_) (Array.getElem?_eq_getElem (by decide)) (by kernel_rfl) (by kernel_rfl) (by kernel_rfl) (fun _ _ _ h => h) (Or.inl ⟨by kernel_rfl, ?_⟩) (by assumption) ?_); rotate_left; (focus (intro w hSw; (try dsimp only at hSw); (try simp only [rl]); go_simp; (try with_reducible rfl))); (try simp only [rl])
                    (refine wpAnyH_take (i := 1) (v := ?_) (Array.getElem?_eq_getElem (by decide)) (by kernel_rfl) (by kernel_rfl) (by kernel_rfl) (fun _ _ _ h => h) (Or.inl ⟨by kernel_rfl, ?_⟩) (by assumption) ?_); rotate_left; (focus (intro w hSw; (try dsimp only at hSw); (try simp only [rl]); go_simp; (try with_reducible rfl))); (try simp only [rl])
                    (refine wpAnyH_take (i := 2) (v := ?_) (Array.getElem?_eq_getElem (by decide)) (by kernel_rfl) (by kernel_rfl) (by kernel_rfl) (fun _ _ _ h => h) (Or.inl ⟨by kernel_rfl, ?_⟩) (by assumption) ?_); rotate_left; (focus (intro w hSw; (try dsimp only at hSw); (try simp only [rl]); go_simp; (try with_reducible rfl))); (try simp only [rl])
                    (refine wpAnyH_take (i := 3) (v := undef) (Array.getElem?_eq_getElem (by decide)) (by kernel_rfl) (by kernel_rfl) (by kernel_rfl) (fun _ _ _ h => h) (Or.inr ⟨by kernel_rfl, rfl⟩) (by assumption) ?_); (try simp only [rl])
                    (refine wpAnyH_take (i := 4) (v := undef) (Array.getElem?_eq_getElem (by decide)) (by kernel_rfl) (by kernel_rfl) (by kernel_rfl) (fun _ _ _ h => h) (Or.inr ⟨by kernel_rfl, rfl⟩) (by assumption) ?_); (try simp only [rl])
                    (refine wpAnyH_take (i := 5) (v := ?_) (Array.getElem?_eq_getElem (by decide)) (by kernel_rfl) (by kernel_rfl) (by kernel_rfl) (fun _ _ _ h => h) (Or.inl ⟨by kernel_rfl, ?_⟩) (by assumption) ?_); rotate_left; (focus (intro w hSw; (try dsimp only at hSw); (try simp only [rl]); go_simp; (try with_reducible rfl))); (try simp only [rl])
                    (refine wpAnyH_take (i := 6) (v := ?_) (Array.getElem?_eq_getElem (by decide)) (by kernel_rfl) (by kernel_rfl) (by kernel_rfl) (fun _ _ _ h => h) (Or.inl ⟨by kernel_rfl, ?_⟩) (by assumption) ?_); rotate_left; (focus (intro w hSw; (try dsimp only at hSw); (try simp only [rl]); go_simp; (try with_reducible rfl))); (try simp only [rl])
                    (refine wpAnyH_take (i := 7) (v := undef) (Array.getElem?_eq_getElem (by decide)) (by kernel_rfl) (by kernel_rfl) (by kernel_rfl) (fun _ _ _ h => h) (Or.inr ⟨by kernel_rfl, rfl⟩) (by assumption) ?_); (try simp only [rl])
                    (refine wpAnyH_take (i := 8) (v := undef) (Array.getElem?_eq_getElem (by decide)) (by kernel_rfl) (by kernel_rfl) (by kernel_rfl) (fun _ _ _ h => h) (Or.inr ⟨by kernel_rfl, rfl⟩) (by assumption) ?_); (try simp only [rl])
                    (refine wpAnyH_take (i := 9) (v := undef) (Array.getElem?_eq_getElem (by decide)) (by kernel_rfl) (by kernel_rfl) (by kernel_rfl) (fun _ _ _ h => h) (Or.inr ⟨by kernel_rfl, rfl⟩) (by assumption) ?_); (try simp only [rl])
                    (refine wpAnyH_take (i := 10) (v := undef) (Array.getElem?_eq_getElem (by decide)) (by kernel_rfl) (by kernel_rfl) (by kernel_rfl) (fun _ _ _ h => h) (Or.inr ⟨by kernel_rfl, rfl⟩) (by assumption) ?_); (try simp only [rl])
                    (refine wpAnyH_take (i := 11) (v := undef) (Array.getElem?_eq_getElem (by decide)) (by kernel_rfl) (by kernel_rfl) (by kernel_rfl) (fun _ _ _ h => h) (Or.inr ⟨by kernel_rfl, rfl⟩) (by assumption) ?_); (try simp only [rl])
                    (refine wpAnyH_take (i := 12) (v := undef) (Array.getElem?_eq_getElem (by decide)) (by kernel_rfl) (by kernel_rfl) (by kernel_rfl) (fun _ _ _ h => h) (Or.inr ⟨by kernel_rfl, rfl⟩) (by assumption) ?_); (try simp only [rl])
                    (refine wpAnyH_take (i := 13) (v := undef) (Array.getElem?_eq_getElem (by decide)) (by kernel_rfl) (by kernel_rfl) (by kernel_rfl) (fun _ _ _ h => h) (Or.inr ⟨by kernel_rfl, rfl⟩) (by assumption) ?_); (try simp only [rl])
                    (refine wpAnyH_take (i := 14) (v := ?_) (Array.getElem?_eq_getElem (by decide)) (by kernel_rfl) (by kernel_rfl) (by kernel_rfl) (fun _ _ _ h => h) (Or.inl ⟨by kernel_rfl, ?_⟩) (by assumption) ?_); rotate_left; (focus (intro w hSw; (try dsimp only at hSw); (try simp only [rl]); go_simp; (try with_reducible rfl))); (try simp only [rl])
                    refine wpAnyH_done (by kernel_rfl) ?_ _
                    have hc0 := hBz.cells; have hf0 := hBz.free; have hl0 := hBz.lt
                    go_wp2_with fail
                    (with_reducible apply bp_ret); (focus (go_light; simp [results, Tryz.results44, go_sem, *]; rfl))
                    rw [HRn.out]
                    exact ⟨Xt, V.zero, none, 0, none, 0, _, rfl, rfl⟩
                  by_cases hl : k0 < -9007199254740992
                  · have HRn := Lib.hid (show R = none by rw [HR.out, if_neg (by omega)])
                    refine wp_region_held_drew (S := fun _ => True) (by kernel_rfl) trivial (fun hHeld => ?_)
                    (refine wpAnyH_take (i := 0) (v := ?_) (Array.getElem?_eq_getElem (by decide)) (by kernel_rfl) (by kernel_rfl) (by kernel_rfl) (fun _ _ _ h => h) (Or.inl ⟨by kernel_rfl, ?_⟩) (by assumption) ?_); rotate_left; (focus (intro w hSw; (try dsimp only at hSw); (try simp only [rl]); go_simp; (try with_reducible rfl))); (try simp only [rl])
                    (refine wpAnyH_take (i := 1) (v := ?_) (Array.getElem?_eq_getElem (by decide)) (by kernel_rfl) (by kernel_rfl) (by kernel_rfl) (fun _ _ _ h => h) (Or.inl ⟨by kernel_rfl, ?_⟩) (by assumption) ?_); rotate_left; (focus (intro w hSw; (try dsimp only at hSw); (try simp only [rl]); go_simp; (try with_reducible rfl))); (try simp only [rl])
                    (refine wpAnyH_take (i := 2) (v := ?_) (Array.getElem?_eq_getElem (by decide)) (by kernel_rfl) (by kernel_rfl) (by kernel_rfl) (fun _ _ _ h => h) (Or.inl ⟨by kernel_rfl, ?_⟩) (by assumption) ?_); rotate_left; (focus (intro w hSw; (try dsimp only at hSw); (try simp only [rl]); go_simp; (try with_reducible rfl))); (try simp only [rl])
                    (refine wpAnyH_take (i := 3) (v := ?_) (Array.getElem?_eq_getElem (by decide)) (by kernel_rfl) (by kernel_rfl) (by kernel_rfl) (fun _ _ _ h => h) (Or.inl ⟨by kernel_rfl, ?_⟩) (by assumption) ?_); rotate_left; (focus (intro w hSw; (try dsimp only at hSw); (try simp only [rl]); go_simp; (try with_reducible rfl))); (try simp only [rl])
                    (refine wpAnyH_take (i := 4) (v := ?_) (Array.getElem?_eq_getElem (by decide)) (by kernel_rfl) (by kernel_rfl) (by kernel_rfl) (fun _ _ _ h => h) (Or.inl ⟨by kernel_rfl, ?_⟩) (by assumption) ?_); rotate_left; (focus (intro w hSw; (try dsimp only at hSw); (try simp only [rl]); go_simp; (try with_reducible rfl))); (try simp only [rl])
                    (refine wpAnyH_take (i := 5) (v := ?_) (Array.getElem?_eq_getElem (by decide)) (by kernel_rfl) (by kernel_rfl) (by kernel_rfl) (fun _ _ _ h => h) (Or.inl ⟨by kernel_rfl, ?_⟩) (by assumption) ?_); rotate_left; (focus (intro w hSw; (try dsimp only at hSw); (try simp only [rl]); go_simp; (try with_reducible rfl))); (try simp only [rl])
                    (refine wpAnyH_take (i := 6) (v := ?_) (Array.getElem?_eq_getElem (by decide)) (by kernel_rfl) (by kernel_rfl) (by kernel_rfl) (fun _ _ _ h => h) (Or.inl ⟨by kernel_rfl, ?_⟩) (by assumption) ?_); rotate_left; (focus (intro w hSw; (try dsimp only at hSw); (try simp only [rl]); go_simp; (try with_reducible rfl))); (try simp only [rl])
                    (refine wpAnyH_take (i := 7) (v := undef) (Array.getElem?_eq_getElem (by decide)) (by kernel_rfl) (by kernel_rfl) (by kernel_rfl) (fun _ _ _ h => h) (Or.inr ⟨by kernel_rfl, rfl⟩) (by assumption) ?_); (try simp only [rl])
                    (refine wpAnyH_take (i := 8) (v := undef) (Array.getElem?_eq_getElem (by decide)) (by kernel_rfl) (by kernel_rfl) (by kernel_rfl) (fun _ _ _ h => h) (Or.inr ⟨by kernel_rfl, rfl⟩) (by assumption) ?_); (try simp only [rl])
                    (refine wpAnyH_take (i := 9) (v := undef) (Array.getElem?_eq_getElem (by decide)) (by kernel_rfl) (by kernel_rfl) (by kernel_rfl) (fun _ _ _ h => h) (Or.inr ⟨by kernel_rfl, rfl⟩) (by assumption) ?_); (try simp only [rl])
                    (refine wpAnyH_take (i := 10) (v := undef) (Array.getElem?_eq_getElem (by decide)) (by kernel_rfl) (by kernel_rfl) (by kernel_rfl) (fun _ _ _ h => h) (Or.inr ⟨by kernel_rfl, rfl⟩) (by assumption) ?_); (try simp only [rl])
                    (refine wpAnyH_take (i := 11) (v := undef) (Array.getElem?_eq_getElem (by decide)) (by kernel_rfl) (by kernel_rfl) (by kernel_rfl) (fun _ _ _ h => h) (Or.inr ⟨by kernel_rfl, rfl⟩) (by assumption) ?_); (try simp only [rl])
                    (refine wpAnyH_take (i := 12) (v := undef) (Array.getElem?_eq_getElem (by decide)) (by kernel_rfl) (by kernel_rfl) (by kernel_rfl) (fun _ _ _ h => h) (Or.inr ⟨by kernel_rfl, rfl⟩) (by assumption) ?_); (try simp only [rl])
                    (refine wpAnyH_take (i := 13) (v := undef) (Array.getElem?_eq_getElem (by decide)) (by kernel_rfl) (by kernel_rfl) (by kernel_rfl) (fun _ _ _ h => h) (Or.inr ⟨by kernel_rfl, rfl⟩) (by assumption) ?_); (try simp only [rl])
                    (refine wpAnyH_take (i := 14) (v := ?_) (Array.getElem?_eq_getElem (by decide)) (by kernel_rfl) (by kernel_rfl) (by kernel_rfl) (fun _ _ _ h => h) (Or.inl ⟨by kernel_rfl, ?_⟩) (by assumption) ?_); rotate_left; (focus (intro w hSw; (try dsimp only at hSw); (try simp only [rl]); go_simp; (try with_reducible rfl))); (try simp only [rl])
                    refine wpAnyH_done (by kernel_rfl) ?_ _
                    have hc0 := hBz.cells; have hf0 := hBz.free; have hl0 := hBz.lt
                    go_wp2_with fail
                    (with_reducible apply bp_ret); (focus (go_light; simp [results, Tryz.results44, go_sem, *]; rfl))
                    rw [HRn.out]
                    exact ⟨Xt, V.zero, none, 0, none, 0, _, rfl, rfl⟩
                  refine wp_region_held_drew (S := fun _ => True) (by kernel_rfl) trivial (fun hHeld => ?_)
                  (refine wpAnyH_take (i := 0) (v := ?_) (Array.getElem?_eq_getElem (by decide)) (by kernel_rfl) (by kernel_rfl) (by kernel_rfl) (fun _ _ _ h => h) (Or.inl ⟨by kernel_rfl, ?_⟩) (by assumption) ?_); rotate_left; (focus (intro w hSw; (try dsimp only at hSw); (try simp only [rl]); go_simp; (try with_reducible rfl))); (try simp only [rl])
                  (refine wpAnyH_take (i := 1) (v := ?_) (Array.getElem?_eq_getElem (by decide)) (by kernel_rfl) (by kernel_rfl) (by kernel_rfl) (fun _ _ _ h => h) (Or.inl ⟨by kernel_rfl, ?_⟩) (by assumption) ?_); rotate_left; (focus (intro w hSw; (try dsimp only at hSw); (try simp only [rl]); go_simp; (try with_reducible rfl))); (try simp only [rl])
                  (refine wpAnyH_take (i := 2) (v := ?_) (Array.getElem?_eq_getElem (by decide)) (by kernel_rfl) (by kernel_rfl) (by kernel_rfl) (fun _ _ _ h => h) (Or.inl ⟨by kernel_rfl, ?_⟩) (by assumption) ?_); rotate_left; (focus (intro w hSw; (try dsimp only at hSw); (try simp only [rl]); go_simp; (try with_reducible rfl))); (try simp only [rl])
                  (refine wpAnyH_take (i := 3) (v := ?_) (Array.getElem?_eq_getElem (by decide)) (by kernel_rfl) (by kernel_rfl) (by kernel_rfl) (fun _ _ _ h => h) (Or.inl ⟨by kernel_rfl, ?_⟩) (by assumption) ?_); rotate_left; (focus (intro w hSw; (try dsimp only at hSw); (try simp only [rl]); go_simp; (try with_reducible rfl))); (try simp only [rl])
                  (refine wpAnyH_take (i := 4) (v := ?_) (Array.getElem?_eq_getElem (by decide)) (by kernel_rfl) (by kernel_rfl) (by kernel_rfl) (fun _ _ _ h => h) (Or.inl ⟨by kernel_rfl, ?_⟩) (by assumption) ?_); rotate_left; (focus (intro w hSw; (try dsimp only at hSw); (try simp only [rl]); go_simp; (try with_reducible rfl))); (try simp only [rl])
                  (refine wpAnyH_take (i := 5) (v := ?_) (Array.getElem?_eq_getElem (by decide)) (by kernel_rfl) (by kernel_rfl) (by kernel_rfl) (fun _ _ _ h => h) (Or.inl ⟨by kernel_rfl, ?_⟩) (by assumption) ?_); rotate_left; (focus (intro w hSw; (try dsimp only at hSw); (try simp only [rl]); go_simp; (try with_reducible rfl))); (try simp only [rl])
                  (refine wpAnyH_take (i := 6) (v := ?_) (Array.getElem?_eq_getElem (by decide)) (by kernel_rfl) (by kernel_rfl) (by kernel_rfl) (fun _ _ _ h => h) (Or.inl ⟨by kernel_rfl, ?_⟩) (by assumption) ?_); rotate_left; (focus (intro w hSw; (try dsimp only at hSw); (try simp only [rl]); go_simp; (try with_reducible rfl))); (try simp only [rl])
                  (refine wpAnyH_take (i := 7) (v := ?_) (Array.getElem?_eq_getElem (by decide)) (by kernel_rfl) (by kernel_rfl) (by kernel_rfl) (fun _ _ _ h => h) (Or.inl ⟨by kernel_rfl, ?_⟩) (by assumption) ?_); rotate_left; (focus (intro w hSw; (try dsimp only at hSw); (try simp only [rl]); go_simp; (try with_reducible rfl))); (try simp only [rl])
                  (refine wpAnyH_take (i := 9) (v := ?_) (Array.getElem?_eq_getElem (by decide)) (by kernel_rfl) (by kernel_rfl) (by kernel_rfl) (fun _ _ _ h => h) (Or.inl ⟨by kernel_rfl, ?_⟩) (by assumption) ?_); rotate_left; (focus (intro w hSw; (try dsimp only at hSw); (try simp only [rl]); go_simp; (try with_reducible rfl))); (try simp only [rl])
                  (refine wpAnyH_take (i := 10) (v := ?_) (Array.getElem?_eq_getElem (by decide)) (by kernel_rfl) (by kernel_rfl) (by kernel_rfl) (fun _ _ _ h => h) (Or.inl ⟨by kernel_rfl, ?_⟩) (by assumption) ?_); rotate_left; (focus (intro w hSw; (try dsimp only at hSw); (try simp only [rl]); go_simp; (try with_reducible rfl))); (try simp only [rl])
                  (refine wpAnyH_take (i := 11) (v := ?_) (Array.getElem?_eq_getElem (by decide)) (by kernel_rfl) (by kernel_rfl) (by kernel_rfl) (fun _ _ _ h => h) (Or.inl ⟨by kernel_rfl, ?_⟩) (by assumption) ?_); rotate_left; (focus (intro w hSw; (try dsimp only at hSw); (try simp only [rl]); go_simp; (try with_reducible rfl))); (try simp only [rl])
                  (refine wpAnyH_take (i := 12) (v := ?_) (Array.getElem?_eq_getElem (by decide)) (by kernel_rfl) (by kernel_rfl) (by kernel_rfl) (fun _ _ _ h => h) (Or.inl ⟨by kernel_rfl, ?_⟩) (by assumption) ?_); rotate_left; (focus (intro w hSw; (try dsimp only at hSw); (try simp only [rl]); go_simp; (try with_reducible rfl))); (try simp only [rl])
                  (refine wpAnyH_ready (rs := [8]) (by kernel_rfl) (by simp) ?_); (refine AllReadyH.cons (Array.getElem?_eq_getElem (by decide)) (fun K hK => ?_) AllReadyH.nil); (try simp only [rl])
                  (try go_simp)
                  (refine (decimal_any k0 (by omega) (by omega) _).mono ?_)
                  rintro e w3 ⟨qd, rfl, hqd, h3⟩
                  (try go_simp)
                  have hBz := Box.ext (w' := w3) Xt hBz
                  have hx3 : Ext w w3 := Xt
                  have Hqd := Lib.hid hqd
                  refine hK.out _ _ trivial (fun hHeld => ?_)
                  clear hK K hqd h3
                  (try simp only [rl])
                  by_cases heq : qd = u
                  · have hb : (qd.toList == u.toList) = true := by rw [heq]; simp
                    have HRn := Lib.hid (show R = some (.mk 2 k0 ⟨#[]⟩ [] [], fromB s z) by rw [HR.out, if_pos ⟨by omega, by omega, by rw [← Hqd.out, heq]⟩])
                    clear heq
                    (refine wpAnyH_take (i := 13) (v := ?_) (Array.getElem?_eq_getElem (by decide)) (by kernel_rfl) (by kernel_rfl) (by kernel_rfl) (fun _ _ _ h => h) (Or.inl ⟨by kernel_rfl, ?_⟩) (by assumption) ?_); rotate_left; (focus (intro w hSw; (try dsimp only at hSw); (try simp only [rl]); go_simp; (try with_reducible rfl))); (try simp only [rl])
                    (refine wpAnyH_take (i := 14) (v := ?_) (Array.getElem?_eq_getElem (by decide)) (by kernel_rfl) (by kernel_rfl) (by kernel_rfl) (fun _ _ _ h => h) (Or.inl ⟨by kernel_rfl, ?_⟩) (by assumption) ?_); rotate_left; (focus (intro w hSw; (try dsimp only at hSw); (try simp only [rl]); go_simp; (try with_reducible rfl))); (try simp only [rl])
                    refine wpAnyH_done (by kernel_rfl) ?_ _
                    have hc0 := hBz.cells; have hf0 := hBz.free; have hl0 := hBz.lt
                    go_wp2_with fail
                    (with_reducible apply bp_ret); (focus (go_light; simp [results, Tryz.results44, go_sem, *]; rfl))
                    rw [HRn.out]
                    exact ⟨Xt, .mk 2 k0 ⟨#[]⟩ [] [], none, 0, none, 0, _, rfl, z, rfl, hDl, rfl, rfl, (V.in_iff ..).2 ⟨SlOk.nil, SlOk.nil, .inl rfl, .inl rfl⟩⟩
                  · have hb : (qd.toList == u.toList) = false := by simpa using fun h => heq (bytes_ext h)
                    have HRn := Lib.hid (show R = none by rw [HR.out, if_neg (fun h => heq (ByteArray.ext (Array.toList_inj.1 (Hqd.out.trans h.2.2))))])
                    clear heq
                    (refine wpAnyH_take (i := 13) (v := ?_) (Array.getElem?_eq_getElem (by decide)) (by kernel_rfl) (by kernel_rfl) (by kernel_rfl) (fun _ _ _ h => h) (Or.inl ⟨by kernel_rfl, ?_⟩) (by assumption) ?_); rotate_left; (focus (intro w hSw; (try dsimp only at hSw); (try simp only [rl]); go_simp; (try with_reducible rfl))); (try simp only [rl])
                    (refine wpAnyH_take (i := 14) (v := ?_) (Array.getElem?_eq_getElem (by decide)) (by kernel_rfl) (by kernel_rfl) (by kernel_rfl) (fun _ _ _ h => h) (Or.inl ⟨by kernel_rfl, ?_⟩) (by assumption) ?_); rotate_left; (focus (intro w hSw; (try dsimp only at hSw); (try simp only [rl]); go_simp; (try with_reducible rfl))); (try simp only [rl])
                    refine wpAnyH_done (by kernel_rfl) ?_ _
                    have hc0 := hBz.cells; have hf0 := hBz.free; have hl0 := hBz.lt
                    go_wp2_with fail
                    (with_reducible apply bp_ret); (focus (go_light; simp [results, Tryz.results44, go_sem, *]; rfl))
                    rw [HRn.out]
                    exact ⟨Xt, V.zero, none, 0, none, 0, _, rfl, rfl⟩
        have hn45 : (c.toNat : Int) ≠ 45 := fun h => hdg (.inl (byte_is (n := 45) (by omega) h))
        have b45 : ((c.toNat : Int) == 45) = false := by simpa using hn45
        have hnd : ¬ ((48 : Int) ≤ (c.toNat : Int) ∧ (c.toNat : Int) ≤ 57) := fun h => hdg (.inr (by unfold isDg; simp; omega))
        by_cases hbr : c = 91 ∨ c = 123
        · have Hbr := Lib.hid hbr
          have HR := Lib.hid (show manyL f c (fromB s (j + 1)) = R by
            rw [← HR.out]
            rcases hbr with h | h <;> (subst h; rfl))
          have hc57 : ¬ (c.toNat : Int) ≤ 57 := by rcases hbr with h | h <;> (rw [h]; decide)
          have hc48 : (48 : Int) ≤ (c.toNat : Int) := by omega
          have hzr : w.heap.size < wr.heap.size := hBz.lt
          by_cases h91 : c = 91
          · have b91 : ((c.toNat : Int) == 91) = true := by rw [h91]; rfl
            clear hbr h91
            clear hdg hnd hn45 h34
            have hc0 := hBz.cells; have hf0 := hBz.free; have hl0 := hBz.lt
            go_wp2_with fail
            (refine (HM.out s j d c _ (by omega) hs hlt Hc.out Hbr.out).mono ?_)
            rw [HR.out]
            rintro e w2 ⟨h2, v, ka, kc, la, lc, y, rfl, hcase⟩
            have hBz := Box.ext (w' := w2) Xt hBz
            have hx2 : Ext w w2 := Xt
            have Hcase := Lib.hid hcase
            clear h2 hcase hc0 hf0 hl0
            have hc0 := hBz.cells; have hf0 := hBz.free; have hl0 := hBz.lt
            go_wp2_with fail
            (with_reducible apply bp_ret); (focus (go_light; simp [results, Tryz.results44, go_sem, *]; rfl))
            refine ⟨Xt, v, ka, kc, la, lc, y, rfl, ?_⟩
            have hcase := Hcase.out
            cases R with
            | none => exact hcase
            | some p =>
              obtain ⟨k, hk, hks, hkf, hkv, hin⟩ := hcase
              refine ⟨k, hk, hks, hkf, hkv, hin.keep ?_ (fun b hb _ => by omega)⟩
              exact fun b hb hl => by rw [Below.heap_setCell _ _ _ _ (by simp; omega), Below.heap_setCell _ _ _ _ (by simp; omega), Below.heap_setCell _ _ _ _ (by simp; omega), Below.heap_setCell _ _ _ _ (by simp; omega), Below.heap_setCell _ _ _ _ (by simp; omega)]
          · have b91 : ((c.toNat : Int) == 91) = false := by simpa using fun h => h91 (byte_is (n := 91) (by omega) h)
            have b123 : ((c.toNat : Int) == 123) = true := by rw [hbr.resolve_left h91]; rfl
            clear hbr h91
            clear hdg hnd hn45 h34
            have hc0 := hBz.cells; have hf0 := hBz.free; have hl0 := hBz.lt
            go_wp2_with fail
            (refine (HM.out s j d c _ (by omega) hs hlt Hc.out Hbr.out).mono ?_)
            rw [HR.out]
            rintro e w2 ⟨h2, v, ka, kc, la, lc, y, rfl, hcase⟩
            have hBz := Box.ext (w' := w2) Xt hBz
            have hx2 : Ext w w2 := Xt
            have Hcase := Lib.hid hcase
            clear h2 hcase hc0 hf0 hl0
            have hc0 := hBz.cells; have hf0 := hBz.free; have hl0 := hBz.lt
            go_wp2_with fail
            (with_reducible apply bp_ret); (focus (go_light; simp [results, Tryz.results44, go_sem, *]; rfl))
            refine ⟨Xt, v, ka, kc, la, lc, y, rfl, ?_⟩
            have hcase := Hcase.out
            cases R with
            | none => exact hcase
            | some p =>
              obtain ⟨k, hk, hks, hkf, hkv, hin⟩ := hcase
              refine ⟨k, hk, hks, hkf, hkv, hin.keep ?_ (fun b hb _ => by omega)⟩
              exact fun b hb hl => by rw [Below.heap_setCell _ _ _ _ (by simp; omega), Below.heap_setCell _ _ _ _ (by simp; omega), Below.heap_setCell _ _ _ _ (by simp; omega), Below.heap_setCell _ _ _ _ (by simp; omega), Below.heap_setCell _ _ _ _ (by simp; omega)]
        have HRn := Lib.hid (show R = none by
          rw [← HR.out]; unfold valD
          rw [if_neg (fun h => h34 (by rw [h]; rfl)), if_neg hdg, if_neg (fun h => hbr (.inl h)), if_neg (fun h => hbr (.inr h))])
        have b91 : ((c.toNat : Int) == 91) = false := by simpa using fun h => hbr (.inl (byte_is (n := 91) (by omega) h))
        have b123 : ((c.toNat : Int) == 123) = false := by simpa using fun h => hbr (.inr (byte_is (n := 123) (by omega) h))
        have hc0 := hBz.cells; have hf0 := hBz.free; have hl0 := hBz.lt
        by_cases hc48 : (48 : Int) ≤ (c.toNat : Int)
        · have hc57 : ¬ (c.toNat : Int) ≤ 57 := by omega
          clear hbr hdg hnd hn45 h34
          go_wp2_with fail
          (with_reducible apply bp_ret); (focus (go_light; simp [results, Tryz.results44, go_sem, *]; rfl))
          exact ⟨Xt, V.zero, none, 0, none, 0, _, rfl, by rw [HRn.out]⟩
        · clear hbr hdg hnd hn45 h34
          go_wp2_with fail
          (with_reducible apply bp_ret); (focus (go_light; simp [results, Tryz.results44, go_sem, *]; rfl))
          exact ⟨Xt, V.zero, none, 0, none, 0, _, rfl, by rw [HRn.out]⟩
  · have hge : (s.size : Int) ≤ (j : Int) := by omega
    have HRn := Lib.hid (show R = none by rw [← HR.out, valL_end (by rw [← Hsp.out]; exact from_end (by omega))])
    have hc0 := hB0.cells; have hf0 := hB0.free; have hl0 := hB0.lt
    go_wp2_with fail
    (with_reducible apply bp_ret); (focus (go_light; simp [results, Tryz.results44, go_sem, *]; rfl))
    exact ⟨Xt, V.zero, none, 0, none, 0, _, rfl, by rw [HRn.out]⟩
end Go.Proofs.YtjibdbnpkfghhaaGreatDoor
