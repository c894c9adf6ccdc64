/- The walk of the law ServerNil: a server that is nil answers ErrNone, tells no things, and its time is 0. -/
import Derived.Test.YtnbappeiebameaaGreatDoorPkA
import Derived.Lib.SmallJoins
import Derived.ChangeArms
set_option linter.all false
namespace Go.Proofs.YtnbappeiebameaaGreatDoor
open Go.ChangeShapes Go.WideShapes Go.ChangeAt Go.RowKit Go.Deep Go.Joins

theorem Tryz.cellsAct : Tryz.prog.cellsOf 73 = 8 := by kernel_rfl
theorem Tryz.cellsIntA : Tryz.prog.cellsOf 3 = 1 := by kernel_rfl
theorem Tryz.cellsStrA : Tryz.prog.cellsOf 9 = 1 := by kernel_rfl
theorem Tryz.cellsBoolA : Tryz.prog.cellsOf 4 = 1 := by kernel_rfl
/-- An act. -/
abbrev actV (k : Int) (a b c : ByteArray) (x y z : Int) (f : Bool) : Value := .agg #[.int .i64 k, .string a, .string b, .string c, .int .i64 x, .int .i64 y, .int .i64 z, .bool f]
set_option maxRecDepth 100000 in
theorem open_act {H : Type} {enc : TypeId × Value → H} {w : World} {base b0 : Nat} {spare : Nat → Bool} {held : Bool} {r : Reach} {v : Value} {d : DataW H} {p : List MemPlace}
    (hv : Value.okWide Tryz.prog w r b0 73 v) (h : DataW.Trod enc Tryz.prog w base spare held 73 v d p) : ∃ k a b c x y z f, v = actV k a b c x y z f := by
  obtain ⟨cs, rfl, hsz⟩ := okWide_struct Tryz.underlying73 hv
  obtain ⟨fuel, hf⟩ := h
  obtain ⟨xs, n, -, -, hcl, hxl, hall⟩ := DataW.trod_struct Tryz.underlying73 hf
  have h8 : cs.size = 8 := hsz.trans Tryz.cellsAct
  obtain ⟨c0, c1, c2, c3, c4, c5, c6, c7, rfl⟩ : ∃ a b c d e f g h, cs = #[a, b, c, d, e, f, g, h] := by
    obtain ⟨l⟩ := cs
    match l, h8 with
    | [a, b, c, d, e, f, g, h], _ => exact ⟨a, b, c, d, e, f, g, h, rfl⟩
  match xs, hxl with
  | [x0, x1, x2, x3, x4, x5, x6, x7], _ =>
    have t0 := hall 0 _ rfl
    have t1 := hall 1 _ rfl
    have t2 := hall 2 _ rfl
    have t3 := hall 3 _ rfl
    have t4 := hall 4 _ rfl
    have t5 := hall 5 _ rfl
    have t6 := hall 6 _ rfl
    have t7 := hall 7 _ rfl
    simp only [Value.cells, Tryz.cellsStrA, Tryz.cellsIntA, Tryz.cellsBoolA] at t0 t1 t2 t3 t4 t5 t6 t7
    obtain ⟨s0, e0, -⟩ := DataW.trod_int Tryz.underlying3 t0
    obtain ⟨s1, e1, -⟩ := DataW.trod_string Tryz.underlying9 t1
    obtain ⟨s2, e2, -⟩ := DataW.trod_string Tryz.underlying9 t2
    obtain ⟨s3, e3, -⟩ := DataW.trod_string Tryz.underlying9 t3
    obtain ⟨s4, e4, -⟩ := DataW.trod_int Tryz.underlying3 t4
    obtain ⟨s5, e5, -⟩ := DataW.trod_int Tryz.underlying3 t5
    obtain ⟨s6, e6, -⟩ := DataW.trod_int Tryz.underlying3 t6
    obtain ⟨s7, e7, -⟩ := DataW.trod_bool Tryz.underlying4 t7
    simp [Tryz.cellsStrA, Tryz.cellsIntA, Tryz.cellsBoolA] at e0 e1 e2 e3 e4 e5 e6 e7
    exact ⟨s0, s1, s2, s3, s4, s5, s6, s7, by rw [e0, e1, e2, e3, e4, e5, e6, e7]⟩

set_option maxRecDepth 100000 in
theorem no_any (n : Int) (w : World) : Calls Tryz.prog 128 #[.int .i64 n] w fun e w' => e = .returned (.agg #[.int .i64 n, .int .i64 0, .string ⟨#[]⟩]) ∧ Ext w w' := by
  go_enter Tryz.func128, Tryz.ntmps128
  go_wp2_with fail
  (with_reducible apply bp_ret); (focus (go_light; simp [results, Tryz.results128, go_sem, *]; rfl))
  exact ⟨rfl, Xt⟩
set_option maxRecDepth 100000 in
set_option maxHeartbeats 4000000 in
theorem do_nil (k : Int) (a b c : ByteArray) (x y z : Int) (f : Bool) (w : World) : Calls Tryz.prog 67 #[.pointer none, actV k a b c x y z f] w fun e w' => e = .returned (.agg #[.int .i64 3, .int .i64 0, .string ⟨#[]⟩]) ∧ Ext w w' := by
  go_enter Tryz.func67, Tryz.ntmps67
  go_wp2_with fail
  (refine (no_any 3 _).mono ?_)
  rintro e w1 ⟨rfl, h1⟩
  have hB : Box w1 (w.heap.size + 1) #[.int .i64 0, .int .i64 0, .string ⟨#[]⟩] 76 := Box.ext h1 Bxt
  have hx1 : Ext w w1 := Xt
  clear h1
  have hc1 := hB.cells; have hf1 := hB.free; have hl1 := hB.lt
  go_wp2_with fail
  (with_reducible apply bp_ret); (focus (go_light; simp [results, Tryz.results67, go_sem, *]; rfl))
  exact ⟨rfl, Xt⟩
set_option maxRecDepth 100000 in
theorem things_nil (w : World) : Calls Tryz.prog 68 #[.pointer none] w fun e w' => e = .returned (.slice none 0 0) ∧ Ext w w' := by
  go_enter Tryz.func68, Tryz.ntmps68
  go_wp2_with fail
  go_ret
  exact ⟨rfl, Xt⟩
set_option maxRecDepth 100000 in
theorem time_nil (w : World) : Calls Tryz.prog 69 #[.pointer none] w fun e w' => e = .returned (.int .i64 0) ∧ Ext w w' := by
  go_enter Tryz.func69, Tryz.ntmps69
  go_wp2_with fail
  go_ret
  exact ⟨rfl, Xt⟩
set_option maxRecDepth 100000 in
set_option maxHeartbeats 4000000 in
theorem serverNil_walk (k : Int) (a b c : ByteArray) (x y z : Int) (f : Bool) (w : World) : Calls Tryz.prog 14 #[actV k a b c x y z f] w fun e w' => e = .returned (.bool true) ∧ Ext w w' := by
  go_enter Tryz.func14, Tryz.ntmps14
  go_wp2_with fail
  (refine (do_nil k a b c x y z f _).mono ?_)
  rintro e w1 ⟨rfl, h1⟩
  have hx1 : Ext w w1 := Xt
  clear h1
  go_wp2_with fail
  (refine (things_nil _).mono ?_)
  rintro e w2 ⟨rfl, h2⟩
  have hx2 : Ext w w2 := Xt
  clear h2
  go_wp2_with fail
  (refine (time_nil _).mono ?_)
  rintro e w3 ⟨rfl, h3⟩
  have hx3 : Ext w w3 := Xt
  clear h3
  go_wp2_with fail
  go_ret
  exact ⟨rfl, Xt⟩
end Go.Proofs.YtnbappeiebameaaGreatDoor
