/- What the rows' 'laid' gives, where patch.names is listed, too. -/
import Derived.Test.YtnbappeiebameaaGreatDoorLibAt
import Derived.Test.YtnbappeiebameaaGreatDoorReadO
set_option linter.all false
namespace Go.Proofs.YtnbappeiebameaaGreatDoor
open Go.RowKit

theorem gNM : Tryz.prog.globalNamed "stairwell/patch.names" = some 0 := by kernel_rfl
theorem gNMT : (Tryz.prog.globals[0]?).map (·.type) = some 173 := by kernel_rfl
theorem cellsNM : Tryz.prog.cellsOf 173 = 7 := by kernel_rfl
/-- An array of texts that reads as these holds them, cell for cell. -/
theorem cells_of_strs {H : Type} {enc : TypeId × Value → H} {P : Program} {w : World} {base : Nat} {sp : Nat → Bool} {held : Bool} {fuel : Nat} {t e : TypeId} {n : Nat} {cs : List Value} {zs : List (List UInt8)} {p : List MemPlace}
    (ht : P.underlying t = some (.array n e)) (he : P.underlying e = some .string) (hce : P.cellsOf e = 1) (hct : P.cellsOf t = n)
    (h : DataW.trod enc P w base sp held fuel t cs = some (.agg (zs.map fun z => .lit (.string z)), p)) : cs = zs.map fun z => Value.string ⟨z.toArray⟩ := by
  cases fuel with
  | zero => simp [DataW.trod] at h
  | succ fuel =>
    simp only [DataW.trod, ht, hce, hct, Nat.mul_one] at h
    split at h
    · rename_i hl
      obtain ⟨xs, hm, hx⟩ := Option.map_eq_some_iff.1 h
      have hxs : xs.map (·.1) = zs.map fun z => (DataW.lit (.string z) : DataW H) := by
        have := congrArg Prod.fst hx
        simpa using this
      have hxl : xs.length = n := by simpa using Lib.mapM_length hm
      have hzl : zs.length = n := by
        have := congrArg List.length hxs
        simp only [List.length_map] at this
        omega
      apply List.ext_getElem?
      intro i
      by_cases hi : i < n
      · obtain ⟨b, hb, hf⟩ := Lib.mapM_at hm i i (by simp [hi])
        obtain ⟨z, hc, rfl, _⟩ := DataW.trod_string he hf
        have h1 : cs[i]? = some (.string z) := by
          have := congrArg (·[0]?) hc
          simpa [List.getElem?_take, List.getElem?_drop] using this
        have h2 : (xs.map (·.1))[i]? = some (DataW.lit (.string z.data.toList) : DataW H) := by simp [hb]
        rw [hxs] at h2
        simp only [List.getElem?_map, Option.map_eq_some_iff, DataW.lit.injEq, Lit.string.injEq] at h2
        obtain ⟨z', hz', hz2⟩ := h2
        rw [h1, List.getElem?_map, hz', hz2]
        simp
      · rw [List.getElem?_eq_none (by omega), List.getElem?_eq_none (by simp; omega)]
    · cases h
theorem names_of {W : World} {rest : List (String × DataW Unit)} (h : laidMet Tryz.prog (("stairwell/patch.names", Rows.laid_stairwell_patch_names) :: rest) W) : NamesAt W := by
  obtain ⟨ps, ⟨g', t', cs, fuel, p, q, hg', ht', hvar, hd, _, _⟩, _⟩ := h
  obtain rfl := Option.some.inj (gNM.symm.trans hg')
  obtain rfl := Option.some.inj (gNMT.symm.trans ht')
  have hc := cells_of_strs (zs := [[], [97, 100, 100], [114, 101, 109, 111, 118, 101], [114, 101, 112, 108, 97, 99, 101], [109, 111, 118, 101], [99, 111, 112, 121], [116, 101, 115, 116]]) Tryz.underlying173 Tryz.underlying9 cellsStr1 cellsNM hd
  intro i hi
  have h0 := World.var?_cell gNM hvar i
  rw [show cs = cs.toList.toArray by simp, hc] at h0
  match i, hi with
  | 0, _ => simpa [nmB, nmL] using h0
  | 1, _ => simpa [nmB, nmL] using h0
  | 2, _ => simpa [nmB, nmL] using h0
  | 3, _ => simpa [nmB, nmL] using h0
  | 4, _ => simpa [nmB, nmL] using h0
  | 5, _ => simpa [nmB, nmL] using h0
  | 6, _ => simpa [nmB, nmL] using h0
theorem libAt8_of {W : World} (hsh : W.ShapedOpen Tryz.prog) (hL0 : laidMetH Tryz.prog Rows.patchReadsUptoRow.laid W) : LibAt W ∧ NamesAt W := by
  have hL : laidMet Tryz.prog Rows.patchReadsUptoRow.laid W := hL0
  obtain ⟨m, hm⟩ := Tryz.laysM146.s1_3 W hsh
  obtain ⟨a1, s1, hv1, -, -, -⟩ := laid_sentinel hL.tail.tail.tail.tail gER gERT Tryz.underlying151 rowES Tryz.underlying281 Tryz.underlying283 rfl rfl Tryz.underlying9 cellsES cellsStr1
  obtain ⟨a0, s0, hv0, -, -, -⟩ := laid_sentinel hL.tail.tail.tail.tail.tail gES gEST Tryz.underlying151 rowES Tryz.underlying281 Tryz.underlying283 rfl rfl Tryz.underlying9 cellsES cellsStr1
  refine ⟨⟨⟨m, hm⟩, ⟨_, by have h0 := World.var?_cell gES hv0 0; simpa using h0, .inr ⟨_, _, rfl⟩⟩, ⟨_, by have h0 := World.var?_cell gER hv1 0; simpa using h0, .inr ⟨_, _, rfl⟩⟩, ?_⟩, names_of hL.tail.tail.tail.tail.tail.tail⟩
  exact Lib.tabIs_of_head gP10 gP10T Tryz.underlying285 Tryz.underlying225 cellsU64 cellsP10 hL.tail.tail
end Go.Proofs.YtnbappeiebameaaGreatDoor
