/- PointDoes: for all values and paths the law returns true (Get, Add, Remove and Put answer what the reference answers); the arguments hold together at most 1048576 values and letters; the library's listed variables as its text lays them. -/
import Derived.Test.YtnbappeiebameaaGreatDoorPkC
import Derived.Test.YtnbappeiebameaaGreatDoorLibAt
import Derived.Test.YtnbappeiebameaaGreatDoorPkL
import Derived.Test.YtnbappeiebameaaGreatDoorPkN
import Derived.Test.YtnbappeiebameaaGreatDoorAdd
import Derived.Test.YtnbappeiebameaaGreatDoorGet
import Derived.Test.YtnbappeiebameaaGreatDoorCopy
import Derived.Test.YtnbappeiebameaaGreatDoorSameR
import Derived.Test.YtnbappeiebameaaGreatDoorPointsL
import Derived.Test.YtnbappeiebameaaGreatDoorPatchP
import Derived.Deep.RegionHeld3
import Derived.HandedShaped
import Derived.SevenTiedAt
set_option linter.all false
namespace Go.Proofs.YtnbappeiebameaaGreatDoor.lawPointDoes
open Go.ChangeShapes Go.WideShapes Go.ChangeAt Go.RowKit
open Go.ChangeMaps (open_string shut_string)
section
attribute [local go_sem ↓] Go.wp_at_zero Go.wp_at_succ

set_option maxRecDepth 100000 in
set_option maxHeartbeats 16000000 in
theorem walk (x : V) (ka0 : Option Addr) (kc0 : Nat) (la0 : Option Addr) (lc0 : Nat) (y : V) (ka1 : Option Addr) (kc1 : Nat) (la1 : Option Addr) (lc1 : Nat) (p : ByteArray) (w : World) (hl : LibAt w) (hs0 : x.size ≤ 4194304) (hs1 : y.size ≤ 4194304) (hp : p.size ≤ 4194304) (hin0 : x.In w All ka0 kc0 la0 lc0) (hin1 : y.In w All ka1 kc1 la1 lc1) :
    Calls Tryz.prog 3 #[x.val ka0 kc0 la0 lc0, y.val ka1 kc1 la1 lc1, .string p] w fun e w' => e = .returned (.bool true) ∧ Ext w w' := by
  have Hin0 := Lib.hid hin0
  have Hin1 := Lib.hid hin1
  clear hin0 hin1
  obtain ⟨q1, hq1⟩ : ∃ q, (getP x p).1 = q := ⟨_, rfl⟩
  obtain ⟨e1, he1⟩ : ∃ q, (getP x p).2 = q := ⟨_, rfl⟩
  have Hq1 := Lib.hid (show getP x p = (q1, e1) from Prod.ext hq1 he1)
  have hbe1 : (e1 != e1) = false := by simp
  obtain ⟨q2, hq2⟩ : ∃ q, (addP x p y).1 = q := ⟨_, rfl⟩
  obtain ⟨e2, he2⟩ : ∃ q, (addP x p y).2 = q := ⟨_, rfl⟩
  have Hq2 := Lib.hid (show addP x p y = (q2, e2) from Prod.ext hq2 he2)
  have hbe2 : (e2 != e2) = false := by simp
  obtain ⟨q3, hq3⟩ : ∃ q, (remP x p).1 = q := ⟨_, rfl⟩
  obtain ⟨e3, he3⟩ : ∃ q, (remP x p).2 = q := ⟨_, rfl⟩
  have Hq3 := Lib.hid (show remP x p = (q3, e3) from Prod.ext hq3 he3)
  have hbe3 : (e3 != e3) = false := by simp
  obtain ⟨q4, hq4⟩ : ∃ q, (putP x p y).1 = q := ⟨_, rfl⟩
  obtain ⟨e4, he4⟩ : ∃ q, (putP x p y).2 = q := ⟨_, rfl⟩
  have Hq4 := Lib.hid (show putP x p y = (q4, e4) from Prod.ext hq4 he4)
  have hbe4 : (e4 != e4) = false := by simp
  have hz1 := getP_size x p
  have hz2 : (addP x p y).1.size ≤ 16777216 := alt_size 1 x p y hs0 hs1
  have hz3 : (remP x p).1.size ≤ 16777216 := alt_size 2 x p y hs0 hs1
  have hz4 : (putP x p y).1.size ≤ 16777216 := alt_size 3 x p y hs0 hs1
  rw [hq1] at hz1
  rw [hq2] at hz2
  rw [hq3] at hz3
  rw [hq4] at hz4
  have hbe4 : (e4 == e4) = true := by simp
  clear hq1 he1 hq2 he2 hq3 he3 hq4 he4
  go_enter Tryz.func3, Tryz.ntmps3
  go_upto_region 1 with fail
  refine gen_world (R := fun wx => Box wx w.heap.size #[.int .i64 x.k, .int .i64 x.n, .string x.s, .slice ka0 x.keys.length kc0, .slice la0 x.l.length lc0] 25 ∧ x.In wx All ka0 kc0 la0 lc0 ∧ Box wx (w.heap.size + 1) #[.int .i64 y.k, .int .i64 y.n, .string y.s, .slice ka1 y.keys.length kc1, .slice la1 y.l.length lc1] 25 ∧ y.In wx All ka1 kc1 la1 lc1 ∧ Ext w wx) ⟨Bxt, Hin0.out.ext Xt, Bxt, Hin1.out.ext Xt, Xt⟩ ?_
  clear Hin0 Hin1
  rintro wa ⟨hB0, hin0, hB1, hin1, hx_wa⟩
  have Hin0 := Lib.hid hin0
  have Hin1 := Lib.hid hin1
  clear hin0 hin1
  have hc0 := hB0.cells; have hf0 := hB0.free; have hl0 := hB0.lt
  go_wp2_with fail
  (refine (copy_any _ x ka0 kc0 la0 lc0 All _ (Nat.le_refl _) (by omega) (Hin0.out.ext Xt)).mono ?_)
  rintro e w1 ⟨ka2, kc2, la2, lc2, rfl, hin_, h_w1⟩
  have hB0 := Box.ext h_w1 hB0
  have Hin0 := Lib.hid (V.In.ext (w' := w1) Hin0.out h_w1)
  have hB1 := Box.ext h_w1 hB1
  have Hin1 := Lib.hid (V.In.ext (w' := w1) Hin1.out h_w1)
  have hx_w1 := hx_wa.trans h_w1
  clear hc0 hf0 hl0
  clear h_w1 hx_wa
  have Hin2 := Lib.hid (show x.In w1 All ka2 kc2 la2 lc2 from all_in hin_)
  clear hin_
  have ho0_2 := hB0.lt
  have ho1_2 := hB1.lt
  go_upto_region 2 with fail
  refine gen_world (R := fun wx => Box wx w.heap.size #[.int .i64 x.k, .int .i64 x.n, .string x.s, .slice ka0 x.keys.length kc0, .slice la0 x.l.length lc0] 25 ∧ x.In wx All ka0 kc0 la0 lc0 ∧ Box wx (w.heap.size + 1) #[.int .i64 y.k, .int .i64 y.n, .string y.s, .slice ka1 y.keys.length kc1, .slice la1 y.l.length lc1] 25 ∧ y.In wx All ka1 kc1 la1 lc1 ∧ Box wx w1.heap.size #[.int .i64 x.k, .int .i64 x.n, .string x.s, .slice ka2 x.keys.length kc2, .slice la2 x.l.length lc2] 25 ∧ x.In wx All ka2 kc2 la2 lc2 ∧ Ext w wx) ⟨Bxt, Hin0.out.ext Xt, Bxt, Hin1.out.ext Xt, Bxt, Hin2.out.ext Xt, Xt⟩ ?_
  clear hB0 Hin0 hB1 Hin1 Hin2 hx_w1
  rintro wvw1 ⟨hB0, hin0, hB1, hin1, hB2, hin2, hx_wvw1⟩
  have Hin0 := Lib.hid hin0
  have Hin1 := Lib.hid hin1
  have Hin2 := Lib.hid hin2
  clear hin0 hin1 hin2
  have hc2 := hB2.cells; have hf2 := hB2.free; have hl2 := hB2.lt
  go_wp2_with fail
  (refine (get_any x ka2 kc2 la2 lc2 All p _ (by omega) (Hin2.out.ext Xt) (by omega) (hl.ext Xt)).mono ?_)
  rw [Hq1.out]
  rintro e w2 ⟨ka3, kc3, la3, lc3, rfl, hin_, h_w2⟩
  have hB0 := Box.ext h_w2 hB0
  have Hin0 := Lib.hid (V.In.ext (w' := w2) Hin0.out h_w2)
  have hB1 := Box.ext h_w2 hB1
  have Hin1 := Lib.hid (V.In.ext (w' := w2) Hin1.out h_w2)
  have hB2 := Box.ext h_w2 hB2
  have Hin2 := Lib.hid (V.In.ext (w' := w2) Hin2.out h_w2)
  have hx_w2 := hx_wvw1.trans h_w2
  clear hc2 hf2 hl2
  clear h_w2 hx_wvw1
  have Hin3 := Lib.hid (show q1.In w2 All ka3 kc3 la3 lc3 from all_in hin_)
  clear hin_
  have Hin0 := Lib.hid (show x.In w2 (fun q => q ≠ w2.heap.size) ka0 kc0 la0 lc0 from Hin0.out.mono (fun q h hl => by omega))
  have Hin1 := Lib.hid (show y.In w2 (fun q => q ≠ w2.heap.size) ka1 kc1 la1 lc1 from Hin1.out.mono (fun q h hl => by omega))
  have Hin2 := Lib.hid (show x.In w2 (fun q => q ≠ w2.heap.size) ka2 kc2 la2 lc2 from Hin2.out.mono (fun q h hl => by omega))
  have Hin3 := Lib.hid (show q1.In w2 (fun q => q ≠ w2.heap.size) ka3 kc3 la3 lc3 from Hin3.out.mono (fun q h hl => by omega))
  have ho0_3 := hB0.lt
  have ho1_3 := hB1.lt
  have ho2_3 := hB2.lt
  go_upto_region 3 with fail
  refine gen_world (R := fun wx => Box wx w.heap.size #[.int .i64 x.k, .int .i64 x.n, .string x.s, .slice ka0 x.keys.length kc0, .slice la0 x.l.length lc0] 25 ∧ x.In wx (fun q => q ≠ w2.heap.size) ka0 kc0 la0 lc0 ∧ Box wx (w.heap.size + 1) #[.int .i64 y.k, .int .i64 y.n, .string y.s, .slice ka1 y.keys.length kc1, .slice la1 y.l.length lc1] 25 ∧ y.In wx (fun q => q ≠ w2.heap.size) ka1 kc1 la1 lc1 ∧ Box wx w1.heap.size #[.int .i64 x.k, .int .i64 x.n, .string x.s, .slice ka2 x.keys.length kc2, .slice la2 x.l.length lc2] 25 ∧ x.In wx (fun q => q ≠ w2.heap.size) ka2 kc2 la2 lc2 ∧ Box wx w2.heap.size #[.int .i64 q1.k, .int .i64 q1.n, .string q1.s, .slice ka3 q1.keys.length kc3, .slice la3 q1.l.length lc3] 25 ∧ q1.In wx (fun q => q ≠ w2.heap.size) ka3 kc3 la3 lc3 ∧ Ext w wx) ⟨Bxt, Hin0.out.keep (Held.kept (T := (fun q => q ≠ w2.heap.size)) (a := w2) Hxt) (fun _ h _ => h), Bxt, Hin1.out.keep (Held.kept (T := (fun q => q ≠ w2.heap.size)) (a := w2) Hxt) (fun _ h _ => h), Bxt, Hin2.out.keep (Held.kept (T := (fun q => q ≠ w2.heap.size)) (a := w2) Hxt) (fun _ h _ => h), Bxt, Hin3.out.keep (Held.kept (T := (fun q => q ≠ w2.heap.size)) (a := w2) Hxt) (fun _ h _ => h), Xt⟩ ?_
  clear hB0 Hin0 hB1 Hin1 hB2 Hin2 Hin3 hx_w2
  rintro wvw2 ⟨hB0, hin0, hB1, hin1, hB2, hin2, hB3, hin3, hx_wvw2⟩
  have Hin0 := Lib.hid hin0
  have Hin1 := Lib.hid hin1
  have Hin2 := Lib.hid hin2
  have Hin3 := Lib.hid hin3
  clear hin0 hin1 hin2 hin3
  have hz_w3_3 := hB3.lt
  have hc0 := hB0.cells; have hf0 := hB0.free; have hl0 := hB0.lt
  go_wp2_with fail
  (refine (getAt_any x ka0 kc0 la0 lc0 (fun q => q ≠ w2.heap.size) p _ (by omega) (Hin0.out.ext Xt) (by omega)).mono ?_)
  rw [Hq1.out]
  rintro e w3 ⟨ka4, kc4, la4, lc4, rfl, hin_, h_w3⟩
  have hB0 := Box.ext h_w3 hB0
  have Hin0 := Lib.hid (V.In.ext (w' := w3) Hin0.out h_w3)
  have hB1 := Box.ext h_w3 hB1
  have Hin1 := Lib.hid (V.In.ext (w' := w3) Hin1.out h_w3)
  have hB2 := Box.ext h_w3 hB2
  have Hin2 := Lib.hid (V.In.ext (w' := w3) Hin2.out h_w3)
  have hB3 := Box.ext h_w3 hB3
  have Hin3 := Lib.hid (V.In.ext (w' := w3) Hin3.out h_w3)
  have hx_w3 := hx_wvw2.trans h_w3
  clear hc0 hf0 hl0
  clear h_w3 hx_wvw2
  have Hin4 := Lib.hid (show q1.In w3 (fun q => q ≠ w2.heap.size) ka4 kc4 la4 lc4 from hin_.mono (fun q h hl => by rcases h with h | h; exact h; (try simp at h); (try simp); omega))
  clear hin_
  have Hin0 := Lib.hid (show x.In w3 (fun q => q ≠ w2.heap.size ∧ q ≠ w3.heap.size) ka0 kc0 la0 lc0 from Hin0.out.mono (fun q h hl => by exact ⟨h, Nat.ne_of_lt hl⟩))
  have Hin1 := Lib.hid (show y.In w3 (fun q => q ≠ w2.heap.size ∧ q ≠ w3.heap.size) ka1 kc1 la1 lc1 from Hin1.out.mono (fun q h hl => by exact ⟨h, Nat.ne_of_lt hl⟩))
  have Hin2 := Lib.hid (show x.In w3 (fun q => q ≠ w2.heap.size ∧ q ≠ w3.heap.size) ka2 kc2 la2 lc2 from Hin2.out.mono (fun q h hl => by exact ⟨h, Nat.ne_of_lt hl⟩))
  have Hin3 := Lib.hid (show q1.In w3 (fun q => q ≠ w2.heap.size ∧ q ≠ w3.heap.size) ka3 kc3 la3 lc3 from Hin3.out.mono (fun q h hl => by exact ⟨h, Nat.ne_of_lt hl⟩))
  have Hin4 := Lib.hid (show q1.In w3 (fun q => q ≠ w2.heap.size ∧ q ≠ w3.heap.size) ka4 kc4 la4 lc4 from Hin4.out.mono (fun q h hl => by exact ⟨h, Nat.ne_of_lt hl⟩))
  have ho0_4 := hB0.lt
  have ho1_4 := hB1.lt
  have ho2_4 := hB2.lt
  have ho3_4 := hB3.lt
  go_upto_region 4 with fail
  refine gen_world (R := fun wx => Box wx w.heap.size #[.int .i64 x.k, .int .i64 x.n, .string x.s, .slice ka0 x.keys.length kc0, .slice la0 x.l.length lc0] 25 ∧ x.In wx (fun q => q ≠ w2.heap.size ∧ q ≠ w3.heap.size) ka0 kc0 la0 lc0 ∧ Box wx (w.heap.size + 1) #[.int .i64 y.k, .int .i64 y.n, .string y.s, .slice ka1 y.keys.length kc1, .slice la1 y.l.length lc1] 25 ∧ y.In wx (fun q => q ≠ w2.heap.size ∧ q ≠ w3.heap.size) ka1 kc1 la1 lc1 ∧ Box wx w1.heap.size #[.int .i64 x.k, .int .i64 x.n, .string x.s, .slice ka2 x.keys.length kc2, .slice la2 x.l.length lc2] 25 ∧ x.In wx (fun q => q ≠ w2.heap.size ∧ q ≠ w3.heap.size) ka2 kc2 la2 lc2 ∧ Box wx w2.heap.size #[.int .i64 q1.k, .int .i64 q1.n, .string q1.s, .slice ka3 q1.keys.length kc3, .slice la3 q1.l.length lc3] 25 ∧ q1.In wx (fun q => q ≠ w2.heap.size ∧ q ≠ w3.heap.size) ka3 kc3 la3 lc3 ∧ Box wx w3.heap.size #[.int .i64 q1.k, .int .i64 q1.n, .string q1.s, .slice ka4 q1.keys.length kc4, .slice la4 q1.l.length lc4] 25 ∧ q1.In wx (fun q => q ≠ w2.heap.size ∧ q ≠ w3.heap.size) ka4 kc4 la4 lc4 ∧ Ext w wx) ⟨Bxt, Hin0.out.keep (Held.kept (T := (fun q => q ≠ w2.heap.size ∧ q ≠ w3.heap.size)) (a := w3) Hxt) (fun _ h _ => h), Bxt, Hin1.out.keep (Held.kept (T := (fun q => q ≠ w2.heap.size ∧ q ≠ w3.heap.size)) (a := w3) Hxt) (fun _ h _ => h), Bxt, Hin2.out.keep (Held.kept (T := (fun q => q ≠ w2.heap.size ∧ q ≠ w3.heap.size)) (a := w3) Hxt) (fun _ h _ => h), Bxt, Hin3.out.keep (Held.kept (T := (fun q => q ≠ w2.heap.size ∧ q ≠ w3.heap.size)) (a := w3) Hxt) (fun _ h _ => h), Bxt, Hin4.out.keep (Held.kept (T := (fun q => q ≠ w2.heap.size ∧ q ≠ w3.heap.size)) (a := w3) Hxt) (fun _ h _ => h), Xt⟩ ?_
  clear hB0 Hin0 hB1 Hin1 hB2 Hin2 hB3 Hin3 Hin4 hx_w3
  rintro wvw3 ⟨hB0, hin0, hB1, hin1, hB2, hin2, hB3, hin3, hB4, hin4, hx_wvw3⟩
  have Hin0 := Lib.hid hin0
  have Hin1 := Lib.hid hin1
  have Hin2 := Lib.hid hin2
  have Hin3 := Lib.hid hin3
  have Hin4 := Lib.hid hin4
  clear hin0 hin1 hin2 hin3 hin4
  have hz_w4_3 := hB3.lt
  have hz_w4_4 := hB4.lt
  have hc3 := hB3.cells; have hf3 := hB3.free; have hl3 := hB3.lt
  have hc4 := hB4.cells; have hf4 := hB4.free; have hl4 := hB4.lt
  go_wp2_with fail
  (refine (sameR_yes q1 q1 rfl (by omega) ka3 kc3 la3 lc3 ka4 kc4 la4 lc4 (fun q => q ≠ w2.heap.size ∧ q ≠ w3.heap.size) (fun q => q ≠ w2.heap.size ∧ q ≠ w3.heap.size) _ (Hin3.out.ext Xt) (Hin4.out.ext Xt)).mono ?_)
  rintro e w4 ⟨rfl, h_w4⟩
  have hB0 := Box.ext h_w4 hB0
  have Hin0 := Lib.hid (V.In.ext (w' := w4) Hin0.out h_w4)
  have hB1 := Box.ext h_w4 hB1
  have Hin1 := Lib.hid (V.In.ext (w' := w4) Hin1.out h_w4)
  have hB2 := Box.ext h_w4 hB2
  have Hin2 := Lib.hid (V.In.ext (w' := w4) Hin2.out h_w4)
  have hB3 := Box.ext h_w4 hB3
  have Hin3 := Lib.hid (V.In.ext (w' := w4) Hin3.out h_w4)
  have hB4 := Box.ext h_w4 hB4
  have Hin4 := Lib.hid (V.In.ext (w' := w4) Hin4.out h_w4)
  have hx_w4 := hx_wvw3.trans h_w4
  clear hc3 hf3 hl3 hc4 hf4 hl4
  clear h_w4 hx_wvw3
  have hz_wa1_3 := hB3.lt
  have hz_wa1_4 := hB4.lt
  have hc1 := hB1.cells; have hf1 := hB1.free; have hl1 := hB1.lt
  have hc2 := hB2.cells; have hf2 := hB2.free; have hl2 := hB2.lt
  have hc3 := hB3.cells; have hf3 := hB3.free; have hl3 := hB3.lt
  go_wp2_with fail
  (refine (add_any y ka1 kc1 la1 lc1 x ka2 kc2 la2 lc2 p (fun q => q ≠ w2.heap.size ∧ q ≠ w3.heap.size) _ (hl.ext Xt) (by omega) (by omega) (by omega) (Hin2.out.ext Xt) (Hin1.out.ext Xt)).mono ?_)
  rw [Hq2.out]
  rintro e wa1 ⟨ka5, kc5, la5, lc5, rfl, hin_, h_wa1⟩
  have hB0 := Box.ext h_wa1 hB0
  have Hin0 := Lib.hid (V.In.ext (w' := wa1) Hin0.out h_wa1)
  have hB1 := Box.ext h_wa1 hB1
  have Hin1 := Lib.hid (V.In.ext (w' := wa1) Hin1.out h_wa1)
  have hB2 := Box.ext h_wa1 hB2
  have Hin2 := Lib.hid (V.In.ext (w' := wa1) Hin2.out h_wa1)
  have hB3 := Box.ext h_wa1 hB3
  have Hin3 := Lib.hid (V.In.ext (w' := wa1) Hin3.out h_wa1)
  have hB4 := Box.ext h_wa1 hB4
  have Hin4 := Lib.hid (V.In.ext (w' := wa1) Hin4.out h_wa1)
  have hx_wa1 := hx_w4.trans h_wa1
  clear hc1 hf1 hl1 hc2 hf2 hl2 hc3 hf3 hl3
  clear h_wa1 hx_w4
  have Hin5 := Lib.hid (show q2.In wa1 (fun q => q ≠ w2.heap.size ∧ q ≠ w3.heap.size) ka5 kc5 la5 lc5 from hin_.mono (fun q h hl => by rcases h with h | h; exact h; (try simp at h); (try simp); omega))
  clear hin_
  have hc3 := hB3.cells; have hf3 := hB3.free; have hl3 := hB3.lt
  go_upto_region 7 with fail
  refine gen_world (R := fun wx => Box wx w.heap.size #[.int .i64 x.k, .int .i64 x.n, .string x.s, .slice ka0 x.keys.length kc0, .slice la0 x.l.length lc0] 25 ∧ x.In wx (fun q => q ≠ w2.heap.size ∧ q ≠ w3.heap.size) ka0 kc0 la0 lc0 ∧ Box wx (w.heap.size + 1) #[.int .i64 y.k, .int .i64 y.n, .string y.s, .slice ka1 y.keys.length kc1, .slice la1 y.l.length lc1] 25 ∧ y.In wx (fun q => q ≠ w2.heap.size ∧ q ≠ w3.heap.size) ka1 kc1 la1 lc1 ∧ Box wx w1.heap.size #[.int .i64 x.k, .int .i64 x.n, .string x.s, .slice ka2 x.keys.length kc2, .slice la2 x.l.length lc2] 25 ∧ x.In wx (fun q => q ≠ w2.heap.size ∧ q ≠ w3.heap.size) ka2 kc2 la2 lc2 ∧ Box wx w3.heap.size #[.int .i64 q1.k, .int .i64 q1.n, .string q1.s, .slice ka4 q1.keys.length kc4, .slice la4 q1.l.length lc4] 25 ∧ q1.In wx (fun q => q ≠ w2.heap.size ∧ q ≠ w3.heap.size) ka4 kc4 la4 lc4 ∧ Box wx w2.heap.size #[.int .i64 q2.k, .int .i64 q2.n, .string q2.s, .slice ka5 q2.keys.length kc5, .slice la5 q2.l.length lc5] 25 ∧ q2.In wx (fun q => q ≠ w2.heap.size ∧ q ≠ w3.heap.size) ka5 kc5 la5 lc5 ∧ Ext w wx) ⟨Bxt, Hin0.out.keep (Held.kept (T := (fun q => q ≠ w2.heap.size ∧ q ≠ w3.heap.size)) (a := wa1) Hxt) (fun _ h _ => h), Bxt, Hin1.out.keep (Held.kept (T := (fun q => q ≠ w2.heap.size ∧ q ≠ w3.heap.size)) (a := wa1) Hxt) (fun _ h _ => h), Bxt, Hin2.out.keep (Held.kept (T := (fun q => q ≠ w2.heap.size ∧ q ≠ w3.heap.size)) (a := wa1) Hxt) (fun _ h _ => h), Bxt, Hin4.out.keep (Held.kept (T := (fun q => q ≠ w2.heap.size ∧ q ≠ w3.heap.size)) (a := wa1) Hxt) (fun _ h _ => h), Bxt, Hin5.out.keep (Held.kept (T := (fun q => q ≠ w2.heap.size ∧ q ≠ w3.heap.size)) (a := wa1) Hxt) (fun _ h _ => h), Xt⟩ ?_
  clear hB0 Hin0 hB1 Hin1 hB2 Hin2 hB4 Hin4 Hin5 hx_wa1
  rintro wvwa1 ⟨hB0, hin0, hB1, hin1, hB2, hin2, hB4, hin4, hB5, hin5, hx_wvwa1⟩
  have Hin0 := Lib.hid hin0
  have Hin1 := Lib.hid hin1
  have Hin2 := Lib.hid hin2
  have Hin4 := Lib.hid hin4
  have Hin5 := Lib.hid hin5
  clear hin0 hin1 hin2 hin4 hin5
  clear hc3 hf3 hl3 hB3 Hin3
  have hz_wb1_5 := hB5.lt
  have hz_wb1_4 := hB4.lt
  have hc0 := hB0.cells; have hf0 := hB0.free; have hl0 := hB0.lt
  have hc1 := hB1.cells; have hf1 := hB1.free; have hl1 := hB1.lt
  have hc4 := hB4.cells; have hf4 := hB4.free; have hl4 := hB4.lt
  go_wp2_with fail
  (refine ((alterR_any 1 (by decide) x ka0 kc0 la0 lc0 y ka1 kc1 la1 lc1 p (fun q => q ≠ w2.heap.size ∧ q ≠ w3.heap.size) _ (by omega) (by omega) (by omega) (Hin0.out.ext Xt) (Hin1.out.ext Xt))).mono ?_)
  rw [show altP 1 x p y = (q2, e2) from Hq2.out]
  rintro e wb1 ⟨ka6, kc6, la6, lc6, rfl, hin_, h_wb1⟩
  have hB0 := Box.ext h_wb1 hB0
  have Hin0 := Lib.hid (V.In.ext (w' := wb1) Hin0.out h_wb1)
  have hB1 := Box.ext h_wb1 hB1
  have Hin1 := Lib.hid (V.In.ext (w' := wb1) Hin1.out h_wb1)
  have hB2 := Box.ext h_wb1 hB2
  have Hin2 := Lib.hid (V.In.ext (w' := wb1) Hin2.out h_wb1)
  have hB4 := Box.ext h_wb1 hB4
  have Hin4 := Lib.hid (V.In.ext (w' := wb1) Hin4.out h_wb1)
  have hB5 := Box.ext h_wb1 hB5
  have Hin5 := Lib.hid (V.In.ext (w' := wb1) Hin5.out h_wb1)
  have hx_wb1 := hx_wvwa1.trans h_wb1
  clear hc0 hf0 hl0 hc1 hf1 hl1 hc4 hf4 hl4
  clear h_wb1 hx_wvwa1
  have Hin6 := Lib.hid (show q2.In wb1 (fun q => q ≠ w2.heap.size ∧ q ≠ w3.heap.size) ka6 kc6 la6 lc6 from hin_.mono (fun q h hl => by rcases h with h | h; exact h; (try simp at h); (try simp); omega))
  clear hin_
  have hc4 := hB4.cells; have hf4 := hB4.free; have hl4 := hB4.lt
  go_upto_region 8 with fail
  refine gen_world (R := fun wx => Box wx w.heap.size #[.int .i64 x.k, .int .i64 x.n, .string x.s, .slice ka0 x.keys.length kc0, .slice la0 x.l.length lc0] 25 ∧ x.In wx (fun q => q ≠ w2.heap.size ∧ q ≠ w3.heap.size) ka0 kc0 la0 lc0 ∧ Box wx (w.heap.size + 1) #[.int .i64 y.k, .int .i64 y.n, .string y.s, .slice ka1 y.keys.length kc1, .slice la1 y.l.length lc1] 25 ∧ y.In wx (fun q => q ≠ w2.heap.size ∧ q ≠ w3.heap.size) ka1 kc1 la1 lc1 ∧ Box wx w1.heap.size #[.int .i64 x.k, .int .i64 x.n, .string x.s, .slice ka2 x.keys.length kc2, .slice la2 x.l.length lc2] 25 ∧ x.In wx (fun q => q ≠ w2.heap.size ∧ q ≠ w3.heap.size) ka2 kc2 la2 lc2 ∧ Box wx w2.heap.size #[.int .i64 q2.k, .int .i64 q2.n, .string q2.s, .slice ka5 q2.keys.length kc5, .slice la5 q2.l.length lc5] 25 ∧ q2.In wx (fun q => q ≠ w2.heap.size ∧ q ≠ w3.heap.size) ka5 kc5 la5 lc5 ∧ Box wx w3.heap.size #[.int .i64 q2.k, .int .i64 q2.n, .string q2.s, .slice ka6 q2.keys.length kc6, .slice la6 q2.l.length lc6] 25 ∧ q2.In wx (fun q => q ≠ w2.heap.size ∧ q ≠ w3.heap.size) ka6 kc6 la6 lc6 ∧ Ext w wx) ⟨Bxt, Hin0.out.keep (Held.kept (T := (fun q => q ≠ w2.heap.size ∧ q ≠ w3.heap.size)) (a := wb1) Hxt) (fun _ h _ => h), Bxt, Hin1.out.keep (Held.kept (T := (fun q => q ≠ w2.heap.size ∧ q ≠ w3.heap.size)) (a := wb1) Hxt) (fun _ h _ => h), Bxt, Hin2.out.keep (Held.kept (T := (fun q => q ≠ w2.heap.size ∧ q ≠ w3.heap.size)) (a := wb1) Hxt) (fun _ h _ => h), Bxt, Hin5.out.keep (Held.kept (T := (fun q => q ≠ w2.heap.size ∧ q ≠ w3.heap.size)) (a := wb1) Hxt) (fun _ h _ => h), Bxt, Hin6.out.keep (Held.kept (T := (fun q => q ≠ w2.heap.size ∧ q ≠ w3.heap.size)) (a := wb1) Hxt) (fun _ h _ => h), Xt⟩ ?_
  clear hB0 Hin0 hB1 Hin1 hB2 Hin2 hB5 Hin5 Hin6 hx_wb1
  rintro wvwb1 ⟨hB0, hin0, hB1, hin1, hB2, hin2, hB5, hin5, hB6, hin6, hx_wvwb1⟩
  have Hin0 := Lib.hid hin0
  have Hin1 := Lib.hid hin1
  have Hin2 := Lib.hid hin2
  have Hin5 := Lib.hid hin5
  have Hin6 := Lib.hid hin6
  clear hin0 hin1 hin2 hin5 hin6
  clear hc4 hf4 hl4 hB4 Hin4
  have hz_wc1_5 := hB5.lt
  have hz_wc1_6 := hB6.lt
  have hc5 := hB5.cells; have hf5 := hB5.free; have hl5 := hB5.lt
  have hc6 := hB6.cells; have hf6 := hB6.free; have hl6 := hB6.lt
  go_wp2_with fail
  (refine (sameR_yes q2 q2 rfl (by omega) ka5 kc5 la5 lc5 ka6 kc6 la6 lc6 (fun q => q ≠ w2.heap.size ∧ q ≠ w3.heap.size) (fun q => q ≠ w2.heap.size ∧ q ≠ w3.heap.size) _ (Hin5.out.ext Xt) (Hin6.out.ext Xt)).mono ?_)
  rintro e wc1 ⟨rfl, h_wc1⟩
  have hB0 := Box.ext h_wc1 hB0
  have Hin0 := Lib.hid (V.In.ext (w' := wc1) Hin0.out h_wc1)
  have hB1 := Box.ext h_wc1 hB1
  have Hin1 := Lib.hid (V.In.ext (w' := wc1) Hin1.out h_wc1)
  have hB2 := Box.ext h_wc1 hB2
  have Hin2 := Lib.hid (V.In.ext (w' := wc1) Hin2.out h_wc1)
  have hB5 := Box.ext h_wc1 hB5
  have Hin5 := Lib.hid (V.In.ext (w' := wc1) Hin5.out h_wc1)
  have hB6 := Box.ext h_wc1 hB6
  have Hin6 := Lib.hid (V.In.ext (w' := wc1) Hin6.out h_wc1)
  have hx_wc1 := hx_wvwb1.trans h_wc1
  clear hc5 hf5 hl5 hc6 hf6 hl6
  clear h_wc1 hx_wvwb1
  have hz_wa2_5 := hB5.lt
  have hz_wa2_6 := hB6.lt
  have hc2 := hB2.cells; have hf2 := hB2.free; have hl2 := hB2.lt
  have hc5 := hB5.cells; have hf5 := hB5.free; have hl5 := hB5.lt
  go_wp2_with fail
  (refine (rem_any x ka2 kc2 la2 lc2 p (fun q => q ≠ w2.heap.size ∧ q ≠ w3.heap.size) _ (hl.ext Xt) (by omega) (by omega) (Hin2.out.ext Xt)).mono ?_)
  rw [Hq3.out]
  rintro e wa2 ⟨ka7, kc7, la7, lc7, rfl, hin_, h_wa2⟩
  have hB0 := Box.ext h_wa2 hB0
  have Hin0 := Lib.hid (V.In.ext (w' := wa2) Hin0.out h_wa2)
  have hB1 := Box.ext h_wa2 hB1
  have Hin1 := Lib.hid (V.In.ext (w' := wa2) Hin1.out h_wa2)
  have hB2 := Box.ext h_wa2 hB2
  have Hin2 := Lib.hid (V.In.ext (w' := wa2) Hin2.out h_wa2)
  have hB5 := Box.ext h_wa2 hB5
  have Hin5 := Lib.hid (V.In.ext (w' := wa2) Hin5.out h_wa2)
  have hB6 := Box.ext h_wa2 hB6
  have Hin6 := Lib.hid (V.In.ext (w' := wa2) Hin6.out h_wa2)
  have hx_wa2 := hx_wc1.trans h_wa2
  clear hc2 hf2 hl2 hc5 hf5 hl5
  clear h_wa2 hx_wc1
  have Hin7 := Lib.hid (show q3.In wa2 (fun q => q ≠ w2.heap.size ∧ q ≠ w3.heap.size) ka7 kc7 la7 lc7 from hin_.mono (fun q h hl => by rcases h with h | h; exact h; (try simp at h); (try simp); omega))
  clear hin_
  have hc5 := hB5.cells; have hf5 := hB5.free; have hl5 := hB5.lt
  go_upto_region 11 with fail
  refine gen_world (R := fun wx => Box wx w.heap.size #[.int .i64 x.k, .int .i64 x.n, .string x.s, .slice ka0 x.keys.length kc0, .slice la0 x.l.length lc0] 25 ∧ x.In wx (fun q => q ≠ w2.heap.size ∧ q ≠ w3.heap.size) ka0 kc0 la0 lc0 ∧ Box wx (w.heap.size + 1) #[.int .i64 y.k, .int .i64 y.n, .string y.s, .slice ka1 y.keys.length kc1, .slice la1 y.l.length lc1] 25 ∧ y.In wx (fun q => q ≠ w2.heap.size ∧ q ≠ w3.heap.size) ka1 kc1 la1 lc1 ∧ Box wx w1.heap.size #[.int .i64 x.k, .int .i64 x.n, .string x.s, .slice ka2 x.keys.length kc2, .slice la2 x.l.length lc2] 25 ∧ x.In wx (fun q => q ≠ w2.heap.size ∧ q ≠ w3.heap.size) ka2 kc2 la2 lc2 ∧ Box wx w3.heap.size #[.int .i64 q2.k, .int .i64 q2.n, .string q2.s, .slice ka6 q2.keys.length kc6, .slice la6 q2.l.length lc6] 25 ∧ q2.In wx (fun q => q ≠ w2.heap.size ∧ q ≠ w3.heap.size) ka6 kc6 la6 lc6 ∧ Box wx w2.heap.size #[.int .i64 q3.k, .int .i64 q3.n, .string q3.s, .slice ka7 q3.keys.length kc7, .slice la7 q3.l.length lc7] 25 ∧ q3.In wx (fun q => q ≠ w2.heap.size ∧ q ≠ w3.heap.size) ka7 kc7 la7 lc7 ∧ Ext w wx) ⟨Bxt, Hin0.out.keep (Held.kept (T := (fun q => q ≠ w2.heap.size ∧ q ≠ w3.heap.size)) (a := wa2) Hxt) (fun _ h _ => h), Bxt, Hin1.out.keep (Held.kept (T := (fun q => q ≠ w2.heap.size ∧ q ≠ w3.heap.size)) (a := wa2) Hxt) (fun _ h _ => h), Bxt, Hin2.out.keep (Held.kept (T := (fun q => q ≠ w2.heap.size ∧ q ≠ w3.heap.size)) (a := wa2) Hxt) (fun _ h _ => h), Bxt, Hin6.out.keep (Held.kept (T := (fun q => q ≠ w2.heap.size ∧ q ≠ w3.heap.size)) (a := wa2) Hxt) (fun _ h _ => h), Bxt, Hin7.out.keep (Held.kept (T := (fun q => q ≠ w2.heap.size ∧ q ≠ w3.heap.size)) (a := wa2) Hxt) (fun _ h _ => h), Xt⟩ ?_
  clear hB0 Hin0 hB1 Hin1 hB2 Hin2 hB6 Hin6 Hin7 hx_wa2
  rintro wvwa2 ⟨hB0, hin0, hB1, hin1, hB2, hin2, hB6, hin6, hB7, hin7, hx_wvwa2⟩
  have Hin0 := Lib.hid hin0
  have Hin1 := Lib.hid hin1
  have Hin2 := Lib.hid hin2
  have Hin6 := Lib.hid hin6
  have Hin7 := Lib.hid hin7
  clear hin0 hin1 hin2 hin6 hin7
  clear hc5 hf5 hl5 hB5 Hin5
  have hz_wb2_7 := hB7.lt
  have hz_wb2_6 := hB6.lt
  have hc0 := hB0.cells; have hf0 := hB0.free; have hl0 := hB0.lt
  have hc1 := hB1.cells; have hf1 := hB1.free; have hl1 := hB1.lt
  have hc6 := hB6.cells; have hf6 := hB6.free; have hl6 := hB6.lt
  go_wp2_with fail
  (refine ((alterR_any 2 (by decide) x ka0 kc0 la0 lc0 y ka1 kc1 la1 lc1 p (fun q => q ≠ w2.heap.size ∧ q ≠ w3.heap.size) _ (by omega) (by omega) (by omega) (Hin0.out.ext Xt) (Hin1.out.ext Xt))).mono ?_)
  rw [show altP 2 x p y = (q3, e3) from Hq3.out]
  rintro e wb2 ⟨ka8, kc8, la8, lc8, rfl, hin_, h_wb2⟩
  have hB0 := Box.ext h_wb2 hB0
  have Hin0 := Lib.hid (V.In.ext (w' := wb2) Hin0.out h_wb2)
  have hB1 := Box.ext h_wb2 hB1
  have Hin1 := Lib.hid (V.In.ext (w' := wb2) Hin1.out h_wb2)
  have hB2 := Box.ext h_wb2 hB2
  have Hin2 := Lib.hid (V.In.ext (w' := wb2) Hin2.out h_wb2)
  have hB6 := Box.ext h_wb2 hB6
  have Hin6 := Lib.hid (V.In.ext (w' := wb2) Hin6.out h_wb2)
  have hB7 := Box.ext h_wb2 hB7
  have Hin7 := Lib.hid (V.In.ext (w' := wb2) Hin7.out h_wb2)
  have hx_wb2 := hx_wvwa2.trans h_wb2
  clear hc0 hf0 hl0 hc1 hf1 hl1 hc6 hf6 hl6
  clear h_wb2 hx_wvwa2
  have Hin8 := Lib.hid (show q3.In wb2 (fun q => q ≠ w2.heap.size ∧ q ≠ w3.heap.size) ka8 kc8 la8 lc8 from hin_.mono (fun q h hl => by rcases h with h | h; exact h; (try simp at h); (try simp); omega))
  clear hin_
  have hc6 := hB6.cells; have hf6 := hB6.free; have hl6 := hB6.lt
  go_upto_region 12 with fail
  refine gen_world (R := fun wx => Box wx w.heap.size #[.int .i64 x.k, .int .i64 x.n, .string x.s, .slice ka0 x.keys.length kc0, .slice la0 x.l.length lc0] 25 ∧ x.In wx (fun q => q ≠ w2.heap.size ∧ q ≠ w3.heap.size) ka0 kc0 la0 lc0 ∧ Box wx (w.heap.size + 1) #[.int .i64 y.k, .int .i64 y.n, .string y.s, .slice ka1 y.keys.length kc1, .slice la1 y.l.length lc1] 25 ∧ y.In wx (fun q => q ≠ w2.heap.size ∧ q ≠ w3.heap.size) ka1 kc1 la1 lc1 ∧ Box wx w1.heap.size #[.int .i64 x.k, .int .i64 x.n, .string x.s, .slice ka2 x.keys.length kc2, .slice la2 x.l.length lc2] 25 ∧ x.In wx (fun q => q ≠ w2.heap.size ∧ q ≠ w3.heap.size) ka2 kc2 la2 lc2 ∧ Box wx w2.heap.size #[.int .i64 q3.k, .int .i64 q3.n, .string q3.s, .slice ka7 q3.keys.length kc7, .slice la7 q3.l.length lc7] 25 ∧ q3.In wx (fun q => q ≠ w2.heap.size ∧ q ≠ w3.heap.size) ka7 kc7 la7 lc7 ∧ Box wx w3.heap.size #[.int .i64 q3.k, .int .i64 q3.n, .string q3.s, .slice ka8 q3.keys.length kc8, .slice la8 q3.l.length lc8] 25 ∧ q3.In wx (fun q => q ≠ w2.heap.size ∧ q ≠ w3.heap.size) ka8 kc8 la8 lc8 ∧ Ext w wx) ⟨Bxt, Hin0.out.keep (Held.kept (T := (fun q => q ≠ w2.heap.size ∧ q ≠ w3.heap.size)) (a := wb2) Hxt) (fun _ h _ => h), Bxt, Hin1.out.keep (Held.kept (T := (fun q => q ≠ w2.heap.size ∧ q ≠ w3.heap.size)) (a := wb2) Hxt) (fun _ h _ => h), Bxt, Hin2.out.keep (Held.kept (T := (fun q => q ≠ w2.heap.size ∧ q ≠ w3.heap.size)) (a := wb2) Hxt) (fun _ h _ => h), Bxt, Hin7.out.keep (Held.kept (T := (fun q => q ≠ w2.heap.size ∧ q ≠ w3.heap.size)) (a := wb2) Hxt) (fun _ h _ => h), Bxt, Hin8.out.keep (Held.kept (T := (fun q => q ≠ w2.heap.size ∧ q ≠ w3.heap.size)) (a := wb2) Hxt) (fun _ h _ => h), Xt⟩ ?_
  clear hB0 Hin0 hB1 Hin1 hB2 Hin2 hB7 Hin7 Hin8 hx_wb2
  rintro wvwb2 ⟨hB0, hin0, hB1, hin1, hB2, hin2, hB7, hin7, hB8, hin8, hx_wvwb2⟩
  have Hin0 := Lib.hid hin0
  have Hin1 := Lib.hid hin1
  have Hin2 := Lib.hid hin2
  have Hin7 := Lib.hid hin7
  have Hin8 := Lib.hid hin8
  clear hin0 hin1 hin2 hin7 hin8
  clear hc6 hf6 hl6 hB6 Hin6
  have hz_wc2_7 := hB7.lt
  have hz_wc2_8 := hB8.lt
  have hc7 := hB7.cells; have hf7 := hB7.free; have hl7 := hB7.lt
  have hc8 := hB8.cells; have hf8 := hB8.free; have hl8 := hB8.lt
  go_wp2_with fail
  (refine (sameR_yes q3 q3 rfl (by omega) ka7 kc7 la7 lc7 ka8 kc8 la8 lc8 (fun q => q ≠ w2.heap.size ∧ q ≠ w3.heap.size) (fun q => q ≠ w2.heap.size ∧ q ≠ w3.heap.size) _ (Hin7.out.ext Xt) (Hin8.out.ext Xt)).mono ?_)
  rintro e wc2 ⟨rfl, h_wc2⟩
  have hB0 := Box.ext h_wc2 hB0
  have Hin0 := Lib.hid (V.In.ext (w' := wc2) Hin0.out h_wc2)
  have hB1 := Box.ext h_wc2 hB1
  have Hin1 := Lib.hid (V.In.ext (w' := wc2) Hin1.out h_wc2)
  have hB2 := Box.ext h_wc2 hB2
  have Hin2 := Lib.hid (V.In.ext (w' := wc2) Hin2.out h_wc2)
  have hB7 := Box.ext h_wc2 hB7
  have Hin7 := Lib.hid (V.In.ext (w' := wc2) Hin7.out h_wc2)
  have hB8 := Box.ext h_wc2 hB8
  have Hin8 := Lib.hid (V.In.ext (w' := wc2) Hin8.out h_wc2)
  have hx_wc2 := hx_wvwb2.trans h_wc2
  clear hc7 hf7 hl7 hc8 hf8 hl8
  clear h_wc2 hx_wvwb2
  have hz_wa3_7 := hB7.lt
  have hz_wa3_8 := hB8.lt
  have hc1 := hB1.cells; have hf1 := hB1.free; have hl1 := hB1.lt
  have hc2 := hB2.cells; have hf2 := hB2.free; have hl2 := hB2.lt
  have hc7 := hB7.cells; have hf7 := hB7.free; have hl7 := hB7.lt
  go_wp2_with fail
  (refine (put_any y ka1 kc1 la1 lc1 x ka2 kc2 la2 lc2 p (fun q => q ≠ w2.heap.size ∧ q ≠ w3.heap.size) _ (hl.ext Xt) (by omega) (by omega) (by omega) (Hin2.out.ext Xt) (Hin1.out.ext Xt)).mono ?_)
  rw [Hq4.out]
  rintro e wa3 ⟨ka9, kc9, la9, lc9, rfl, hin_, h_wa3⟩
  have hB0 := Box.ext h_wa3 hB0
  have Hin0 := Lib.hid (V.In.ext (w' := wa3) Hin0.out h_wa3)
  have hB1 := Box.ext h_wa3 hB1
  have Hin1 := Lib.hid (V.In.ext (w' := wa3) Hin1.out h_wa3)
  have hB2 := Box.ext h_wa3 hB2
  have Hin2 := Lib.hid (V.In.ext (w' := wa3) Hin2.out h_wa3)
  have hB7 := Box.ext h_wa3 hB7
  have Hin7 := Lib.hid (V.In.ext (w' := wa3) Hin7.out h_wa3)
  have hB8 := Box.ext h_wa3 hB8
  have Hin8 := Lib.hid (V.In.ext (w' := wa3) Hin8.out h_wa3)
  have hx_wa3 := hx_wc2.trans h_wa3
  clear hc1 hf1 hl1 hc2 hf2 hl2 hc7 hf7 hl7
  clear h_wa3 hx_wc2
  have Hin9 := Lib.hid (show q4.In wa3 (fun q => q ≠ w2.heap.size ∧ q ≠ w3.heap.size) ka9 kc9 la9 lc9 from hin_.mono (fun q h hl => by rcases h with h | h; exact h; (try simp at h); (try simp); omega))
  clear hin_
  have hc7 := hB7.cells; have hf7 := hB7.free; have hl7 := hB7.lt
  go_upto_region 15 with fail
  refine gen_world (R := fun wx => Box wx w.heap.size #[.int .i64 x.k, .int .i64 x.n, .string x.s, .slice ka0 x.keys.length kc0, .slice la0 x.l.length lc0] 25 ∧ x.In wx (fun q => q ≠ w2.heap.size ∧ q ≠ w3.heap.size) ka0 kc0 la0 lc0 ∧ Box wx (w.heap.size + 1) #[.int .i64 y.k, .int .i64 y.n, .string y.s, .slice ka1 y.keys.length kc1, .slice la1 y.l.length lc1] 25 ∧ y.In wx (fun q => q ≠ w2.heap.size ∧ q ≠ w3.heap.size) ka1 kc1 la1 lc1 ∧ Box wx w1.heap.size #[.int .i64 x.k, .int .i64 x.n, .string x.s, .slice ka2 x.keys.length kc2, .slice la2 x.l.length lc2] 25 ∧ x.In wx (fun q => q ≠ w2.heap.size ∧ q ≠ w3.heap.size) ka2 kc2 la2 lc2 ∧ Box wx w3.heap.size #[.int .i64 q3.k, .int .i64 q3.n, .string q3.s, .slice ka8 q3.keys.length kc8, .slice la8 q3.l.length lc8] 25 ∧ q3.In wx (fun q => q ≠ w2.heap.size ∧ q ≠ w3.heap.size) ka8 kc8 la8 lc8 ∧ Box wx w2.heap.size #[.int .i64 q4.k, .int .i64 q4.n, .string q4.s, .slice ka9 q4.keys.length kc9, .slice la9 q4.l.length lc9] 25 ∧ q4.In wx (fun q => q ≠ w2.heap.size ∧ q ≠ w3.heap.size) ka9 kc9 la9 lc9 ∧ Ext w wx) ⟨Bxt, Hin0.out.keep (Held.kept (T := (fun q => q ≠ w2.heap.size ∧ q ≠ w3.heap.size)) (a := wa3) Hxt) (fun _ h _ => h), Bxt, Hin1.out.keep (Held.kept (T := (fun q => q ≠ w2.heap.size ∧ q ≠ w3.heap.size)) (a := wa3) Hxt) (fun _ h _ => h), Bxt, Hin2.out.keep (Held.kept (T := (fun q => q ≠ w2.heap.size ∧ q ≠ w3.heap.size)) (a := wa3) Hxt) (fun _ h _ => h), Bxt, Hin8.out.keep (Held.kept (T := (fun q => q ≠ w2.heap.size ∧ q ≠ w3.heap.size)) (a := wa3) Hxt) (fun _ h _ => h), Bxt, Hin9.out.keep (Held.kept (T := (fun q => q ≠ w2.heap.size ∧ q ≠ w3.heap.size)) (a := wa3) Hxt) (fun _ h _ => h), Xt⟩ ?_
  clear hB0 Hin0 hB1 Hin1 hB2 Hin2 hB8 Hin8 Hin9 hx_wa3
  rintro wvwa3 ⟨hB0, hin0, hB1, hin1, hB2, hin2, hB8, hin8, hB9, hin9, hx_wvwa3⟩
  have Hin0 := Lib.hid hin0
  have Hin1 := Lib.hid hin1
  have Hin2 := Lib.hid hin2
  have Hin8 := Lib.hid hin8
  have Hin9 := Lib.hid hin9
  clear hin0 hin1 hin2 hin8 hin9
  clear hc7 hf7 hl7 hB7 Hin7
  have hz_wb3_9 := hB9.lt
  have hz_wb3_8 := hB8.lt
  have hc0 := hB0.cells; have hf0 := hB0.free; have hl0 := hB0.lt
  have hc1 := hB1.cells; have hf1 := hB1.free; have hl1 := hB1.lt
  have hc8 := hB8.cells; have hf8 := hB8.free; have hl8 := hB8.lt
  go_wp2_with fail
  (refine ((alterR_any 3 (by decide) x ka0 kc0 la0 lc0 y ka1 kc1 la1 lc1 p (fun q => q ≠ w2.heap.size ∧ q ≠ w3.heap.size) _ (by omega) (by omega) (by omega) (Hin0.out.ext Xt) (Hin1.out.ext Xt))).mono ?_)
  rw [show altP 3 x p y = (q4, e4) from Hq4.out]
  rintro e wb3 ⟨ka10, kc10, la10, lc10, rfl, hin_, h_wb3⟩
  have hB0 := Box.ext h_wb3 hB0
  have Hin0 := Lib.hid (V.In.ext (w' := wb3) Hin0.out h_wb3)
  have hB1 := Box.ext h_wb3 hB1
  have Hin1 := Lib.hid (V.In.ext (w' := wb3) Hin1.out h_wb3)
  have hB2 := Box.ext h_wb3 hB2
  have Hin2 := Lib.hid (V.In.ext (w' := wb3) Hin2.out h_wb3)
  have hB8 := Box.ext h_wb3 hB8
  have Hin8 := Lib.hid (V.In.ext (w' := wb3) Hin8.out h_wb3)
  have hB9 := Box.ext h_wb3 hB9
  have Hin9 := Lib.hid (V.In.ext (w' := wb3) Hin9.out h_wb3)
  have hx_wb3 := hx_wvwa3.trans h_wb3
  clear hc0 hf0 hl0 hc1 hf1 hl1 hc8 hf8 hl8
  clear h_wb3 hx_wvwa3
  have Hin10 := Lib.hid (show q4.In wb3 (fun q => q ≠ w2.heap.size ∧ q ≠ w3.heap.size) ka10 kc10 la10 lc10 from hin_.mono (fun q h hl => by rcases h with h | h; exact h; (try simp at h); (try simp); omega))
  clear hin_
  have hc8 := hB8.cells; have hf8 := hB8.free; have hl8 := hB8.lt
  go_upto_region 16 with fail
  refine gen_world (R := fun wx => Box wx w.heap.size #[.int .i64 x.k, .int .i64 x.n, .string x.s, .slice ka0 x.keys.length kc0, .slice la0 x.l.length lc0] 25 ∧ x.In wx (fun q => q ≠ w2.heap.size ∧ q ≠ w3.heap.size) ka0 kc0 la0 lc0 ∧ Box wx (w.heap.size + 1) #[.int .i64 y.k, .int .i64 y.n, .string y.s, .slice ka1 y.keys.length kc1, .slice la1 y.l.length lc1] 25 ∧ y.In wx (fun q => q ≠ w2.heap.size ∧ q ≠ w3.heap.size) ka1 kc1 la1 lc1 ∧ Box wx w1.heap.size #[.int .i64 x.k, .int .i64 x.n, .string x.s, .slice ka2 x.keys.length kc2, .slice la2 x.l.length lc2] 25 ∧ x.In wx (fun q => q ≠ w2.heap.size ∧ q ≠ w3.heap.size) ka2 kc2 la2 lc2 ∧ Box wx w2.heap.size #[.int .i64 q4.k, .int .i64 q4.n, .string q4.s, .slice ka9 q4.keys.length kc9, .slice la9 q4.l.length lc9] 25 ∧ q4.In wx (fun q => q ≠ w2.heap.size ∧ q ≠ w3.heap.size) ka9 kc9 la9 lc9 ∧ Box wx w3.heap.size #[.int .i64 q4.k, .int .i64 q4.n, .string q4.s, .slice ka10 q4.keys.length kc10, .slice la10 q4.l.length lc10] 25 ∧ q4.In wx (fun q => q ≠ w2.heap.size ∧ q ≠ w3.heap.size) ka10 kc10 la10 lc10 ∧ Ext w wx) ⟨Bxt, Hin0.out.keep (Held.kept (T := (fun q => q ≠ w2.heap.size ∧ q ≠ w3.heap.size)) (a := wb3) Hxt) (fun _ h _ => h), Bxt, Hin1.out.keep (Held.kept (T := (fun q => q ≠ w2.heap.size ∧ q ≠ w3.heap.size)) (a := wb3) Hxt) (fun _ h _ => h), Bxt, Hin2.out.keep (Held.kept (T := (fun q => q ≠ w2.heap.size ∧ q ≠ w3.heap.size)) (a := wb3) Hxt) (fun _ h _ => h), Bxt, Hin9.out.keep (Held.kept (T := (fun q => q ≠ w2.heap.size ∧ q ≠ w3.heap.size)) (a := wb3) Hxt) (fun _ h _ => h), Bxt, Hin10.out.keep (Held.kept (T := (fun q => q ≠ w2.heap.size ∧ q ≠ w3.heap.size)) (a := wb3) Hxt) (fun _ h _ => h), Xt⟩ ?_
  clear hB0 Hin0 hB1 Hin1 hB2 Hin2 hB9 Hin9 Hin10 hx_wb3
  rintro wvwb3 ⟨hB0, hin0, hB1, hin1, hB2, hin2, hB9, hin9, hB10, hin10, hx_wvwb3⟩
  have Hin0 := Lib.hid hin0
  have Hin1 := Lib.hid hin1
  have Hin2 := Lib.hid hin2
  have Hin9 := Lib.hid hin9
  have Hin10 := Lib.hid hin10
  clear hin0 hin1 hin2 hin9 hin10
  clear hc8 hf8 hl8 hB8 Hin8
  have hz_wc3_9 := hB9.lt
  have hz_wc3_10 := hB10.lt
  have hc9 := hB9.cells; have hf9 := hB9.free; have hl9 := hB9.lt
  have hc10 := hB10.cells; have hf10 := hB10.free; have hl10 := hB10.lt
  go_wp2_with fail
  (refine (sameR_yes q4 q4 rfl (by omega) ka9 kc9 la9 lc9 ka10 kc10 la10 lc10 (fun q => q ≠ w2.heap.size ∧ q ≠ w3.heap.size) (fun q => q ≠ w2.heap.size ∧ q ≠ w3.heap.size) _ (Hin9.out.ext Xt) (Hin10.out.ext Xt)).mono ?_)
  rintro e wc3 ⟨rfl, h_wc3⟩
  have hB0 := Box.ext h_wc3 hB0
  have Hin0 := Lib.hid (V.In.ext (w' := wc3) Hin0.out h_wc3)
  have hB1 := Box.ext h_wc3 hB1
  have Hin1 := Lib.hid (V.In.ext (w' := wc3) Hin1.out h_wc3)
  have hB2 := Box.ext h_wc3 hB2
  have Hin2 := Lib.hid (V.In.ext (w' := wc3) Hin2.out h_wc3)
  have hB9 := Box.ext h_wc3 hB9
  have Hin9 := Lib.hid (V.In.ext (w' := wc3) Hin9.out h_wc3)
  have hB10 := Box.ext h_wc3 hB10
  have Hin10 := Lib.hid (V.In.ext (w' := wc3) Hin10.out h_wc3)
  have hx_wc3 := hx_wvwb3.trans h_wc3
  clear hc9 hf9 hl9 hc10 hf10 hl10
  clear h_wc3 hx_wvwb3
  have hz_wd1_9 := hB9.lt
  have hz_wd1_10 := hB10.lt
  have hc0 := hB0.cells; have hf0 := hB0.free; have hl0 := hB0.lt
  have hc2 := hB2.cells; have hf2 := hB2.free; have hl2 := hB2.lt
  go_wp2_with fail
  (refine (sameR_yes x x rfl (by omega) ka2 kc2 la2 lc2 ka0 kc0 la0 lc0 (fun q => q ≠ w2.heap.size ∧ q ≠ w3.heap.size) (fun q => q ≠ w2.heap.size ∧ q ≠ w3.heap.size) _ (Hin2.out.ext Xt) (Hin0.out.ext Xt)).mono ?_)
  rintro e wd1 ⟨rfl, h_wd1⟩
  have hB0 := Box.ext h_wd1 hB0
  have Hin0 := Lib.hid (V.In.ext (w' := wd1) Hin0.out h_wd1)
  have hB1 := Box.ext h_wd1 hB1
  have Hin1 := Lib.hid (V.In.ext (w' := wd1) Hin1.out h_wd1)
  have hB2 := Box.ext h_wd1 hB2
  have Hin2 := Lib.hid (V.In.ext (w' := wd1) Hin2.out h_wd1)
  have hB9 := Box.ext h_wd1 hB9
  have Hin9 := Lib.hid (V.In.ext (w' := wd1) Hin9.out h_wd1)
  have hB10 := Box.ext h_wd1 hB10
  have Hin10 := Lib.hid (V.In.ext (w' := wd1) Hin10.out h_wd1)
  have hx_wd1 := hx_wc3.trans h_wd1
  clear hc0 hf0 hl0 hc2 hf2 hl2
  clear h_wd1 hx_wc3
  have hz_wd2_9 := hB9.lt
  have hz_wd2_10 := hB10.lt
  go_wp2_with fail
  (refine (points_law _ (hl.ext Xt)).mono ?_)
  rintro e wd2 ⟨rfl, h_wd2⟩
  have hB0 := Box.ext h_wd2 hB0
  have Hin0 := Lib.hid (V.In.ext (w' := wd2) Hin0.out h_wd2)
  have hB1 := Box.ext h_wd2 hB1
  have Hin1 := Lib.hid (V.In.ext (w' := wd2) Hin1.out h_wd2)
  have hB2 := Box.ext h_wd2 hB2
  have Hin2 := Lib.hid (V.In.ext (w' := wd2) Hin2.out h_wd2)
  have hB9 := Box.ext h_wd2 hB9
  have Hin9 := Lib.hid (V.In.ext (w' := wd2) Hin9.out h_wd2)
  have hB10 := Box.ext h_wd2 hB10
  have Hin10 := Lib.hid (V.In.ext (w' := wd2) Hin10.out h_wd2)
  have hx_wd2 := hx_wd1.trans h_wd2
  clear h_wd2 hx_wd1
  go_wp2_with fail
  go_ret
  exact ⟨rfl, Xt⟩
end
set_option maxRecDepth 100000 in
theorem lifted (os : Os) (started : os.Started) (H : Type) (enc : TypeId × Value → H) (Fi : Stop.Interp) :
    ReturnsInHanded {} Tryz.checked os 3 .any ((Rows.OpenSpec.upto Rows.pointDoesSpec).preRow enc Tryz.prog Tryz.f3 Rows.pointDoesUptoRow.domain false Rows.pointDoesUptoRow.laid) (((Rows.OpenSpec.upto Rows.pointDoesSpec).at Fi).post enc Tryz.prog Tryz.f3 false true false false) := by
  obtain ⟨places, hx⟩ : ∃ places, DataW.whole enc Tryz.prog ((start.laidWorld os).forCall (fun _ _ => 0) ⟨#[], #[.agg #[.int .i64 0, .int .i64 0, .string ⟨#[]⟩, .slice none 0 0, .slice none 0 0], .agg #[.int .i64 0, .int .i64 0, .string ⟨#[]⟩, .slice none 0 0, .slice none 0 0], .string ⟨#[]⟩], []⟩).memory Tryz.f3.params.toList Rows.pointDoesSpec.vars false (#[.agg #[.int .i64 0, .int .i64 0, .string ⟨#[]⟩, .slice none 0 0, .slice none 0 0], .agg #[.int .i64 0, .int .i64 0, .string ⟨#[]⟩, .slice none 0 0, .slice none 0 0], .string ⟨#[]⟩]).toList 8 = some ([.agg [.lit (.int .i64 0), .lit (.int .i64 0), .lit (.string []), .nil, .nil], .agg [.lit (.int .i64 0), .lit (.int .i64 0), .lit (.string []), .nil, .nil], .lit (.string [])], [], places) := ⟨[], by kernel_rfl⟩
  refine returnsInHanded_of_row (C := Tryz.checked) (s := Rows.OpenSpec.upto Rows.pointDoesSpec) Tryz.own started (by kernel_rfl) Tryz.func3
    (witness_row_atRef (enc := enc) (C := Tryz.checked) false (start.laidWorld os) #[.agg #[.int .i64 0, .int .i64 0, .string ⟨#[]⟩, .slice none 0 0, .slice none 0 0], .agg #[.int .i64 0, .int .i64 0, .string ⟨#[]⟩, .slice none 0 0, .slice none 0 0], .string ⟨#[]⟩] rfl (by kernel_rfl) (by kernel_rfl) (by kernel_rfl)
      (OpenSpec.preRow_of_cond 8 hx (by kernel_rfl) (fun k hk => by cases hk; kernel_rfl) (by kernel_rfl) (start.laid_met os _))) ?_
  intro W base args ds gs before hval0 hW _ hk _ hL hsh _
  have hkb := hk _ rfl
  have hval : ∀ (j : Nat) t v, Tryz.f3.params[j]? = some t → args[j]? = some v → Value.okWide Tryz.prog W .any base t v := hval0
  have hW' := hW
  obtain ⟨p, q, hA0, hV, rfl, hfz, hnd⟩ := hW
  have hA : DataW.TrodAll enc Tryz.prog W 0 (fun _ => true) true Tryz.f3.params.toList args.toList ds p := hA0
  rw [Tryz.params3] at hA hval
  obtain ⟨v0, vs0, d0, ds0, p0, q0, hargs, rfl, rfl, h0, r0⟩ := trodAll_cons hA
  obtain ⟨v1, vs1, d1, ds1, p1, q1, rfl, rfl, rfl, h1, r1⟩ := trodAll_cons r0
  obtain ⟨v2, vs2, d2, ds2, p2, q2, rfl, rfl, rfl, h2, r2⟩ := trodAll_cons r1
  obtain ⟨rfl, rfl, rfl⟩ := trodAll_nil r2
  obtain rfl : args = #[v0, v1, v2] := by cases args; simp_all
  obtain ⟨rfl, rfl⟩ := trodVars_none hV
  have hbulk : Rows.uptoBulkAll [d0, d1, d2] ≤ 1048576 := by simpa [Rows.uptoSmall] using hkb
  have k0 := h0
  have k1 := h1
  have k2 := h2
  have lt0 : ∀ x ∈ p0, x.block < W.heap.size := by obtain ⟨m, hm⟩ := k0; exact DataW.trod_lt m _ _ _ hm
  have lt1 : ∀ x ∈ p1, x.block < W.heap.size := by obtain ⟨m, hm⟩ := k1; exact DataW.trod_lt m _ _ _ hm
  have lt2 : ∀ x ∈ p2, x.block < W.heap.size := by obtain ⟨m, hm⟩ := k2; exact DataW.trod_lt m _ _ _ hm
  have hlib := libAt_of hsh hL
  obtain ⟨x0, ka0, kc0, la0, lc0, rfl, hin0, hxb0⟩ := open_value (hval 0 25 v0 rfl rfl) h0
  obtain ⟨x1, ka1, kc1, la1, lc1, rfl, hin1, hxb1⟩ := open_value (hval 1 25 v1 rfl rfl) h1
  obtain ⟨s2, rfl, rfl, rfl, ws2⟩ := open_string Tryz.underlying9 (hval 2 9 v2 rfl rfl) h2
  simp only [Rows.uptoBulkAll, Rows.uptoBulk] at hbulk
  have hlen2 : s2.data.toList.length = s2.size := Array.length_toList
  clear hA0 hval0
  refine (walk x0 ka0 kc0 la0 lc0 x1 ka1 kc1 la1 lc1 s2 W hlib (by omega) (by omega) (by omega) (all_in hin0) (all_in hin1)).mono fun e W' ⟨he, bel⟩ => ?_
  subst he
  exact ⟨_, rfl, _, _, _, [], _, [], hW', trodAll_mk1 (shut_bool Tryz.underlying4 _), (trodAll_cons_mk (Below.trod Tryz.laidOut (by kernel_rfl) (of_decide_eq_true (by kernel_rfl)) k0 bel lt0) (trodAll_cons_mk (Below.trod Tryz.laidOut (by kernel_rfl) (of_decide_eq_true (by kernel_rfl)) k1 bel lt1) (trodAll_cons_mk (Below.trod Tryz.laidOut (by kernel_rfl) (of_decide_eq_true (by kernel_rfl)) k2 bel lt2) trodAll_mk0))), rfl, Below.frame bel _, fun h => by cases h⟩
theorem cA : (Rows.pointDoesUptoRow.inPlace == Tryz.pinned.checked.prog.inPlace 3) = true := by kernel_rfl
theorem cB : (Rows.pointDoesUptoRow.unfollowed == Tryz.pinned.checked.prog.unfollowed 3) = true := by kernel_rfl
theorem cC : (Rows.pointDoesUptoRow.recurses == Tryz.pinned.checked.prog.recurses 3) = true := by kernel_rfl
theorem cD : (Rows.pointDoesUptoRow.named == Tryz.pinned.checked.prog.varsNamed 3) = true := by kernel_rfl
theorem closed : joinedFacts Tryz.pinned.checked.prog 3 Tryz.f3 (Rows.OpenSpec.upto Rows.pointDoesSpec).bare Rows.pointDoesUptoRow = true := by
  unfold joinedFacts
  rw [cA, cB, cC, cD]
  kernel_rfl
theorem said : Rows.PointDoesUptoSaid :=
  OpenClaim.holds_of_cond 3 Tryz.f3 rfl rfl rfl rfl rfl rfl rfl ⟨rfl, rfl, rfl, rfl, rfl⟩ rfl rfl rfl rfl rfl (by kernel_rfl) Tryz.func3 closed
    (of_decide_eq_true (by kernel_rfl)) (by unfold Func.isWrapper; first | (rw [if_pos (by decide +kernel)]; kernel_rfl) | (rw [if_neg (by decide +kernel)]; exact ⟨rfl, rfl⟩))
    (fun os started H enc _ F => by rw [OpenClaim.pre_eq_preRow]; exact lifted os started H enc F)
theorem plain (f : FuncId) (fn : Func) (hf : Tryz.pinned.checked.prog.funcNamed "stairwell/stairwelllaw.PointDoes" = some f) (hfn : Tryz.pinned.checked.prog.funcs[f]? = some fn) :
    true = Tryz.pinned.checked.prog.looks [] ∧ ∀ (j : Nat) t, fn.params[j]? = some t → Tryz.pinned.checked.prog.wantsStandIn t = false := by
  obtain rfl : f = 3 := Option.some.inj ((show Tryz.prog.funcNamed "stairwell/stairwelllaw.PointDoes" = some 3 by kernel_rfl).symm.trans hf) |>.symm
  obtain rfl : fn = Tryz.f3 := (Option.some.inj (Tryz.func3.symm.trans hfn)).symm
  refine ⟨by kernel_rfl, fun j t ht => ?_⟩
  rw [Tryz.params3] at ht
  have h : t = 25 ∨ t = 9 := by simpa using Array.mem_of_getElem? ht
  rcases h with rfl | rfl
  · exact (show Tryz.prog.wantsStandIn 25 = false by kernel_rfl)
  · exact (show Tryz.prog.wantsStandIn 9 = false by kernel_rfl)
theorem proved : Rows.PointDoesUptoCardSaid :=
  Claim7.holds_tied_plain_at .later [] _ _ _ _ said (fun _ h => by cases h) (by kernel_rfl) (fun _ h => by cases h) pointDoesUpto_row_tie rfl ⟨rfl, rfl⟩ (by kernel_rfl) rfl plain (by kernel_rfl)
end Go.Proofs.YtnbappeiebameaaGreatDoor.lawPointDoes
