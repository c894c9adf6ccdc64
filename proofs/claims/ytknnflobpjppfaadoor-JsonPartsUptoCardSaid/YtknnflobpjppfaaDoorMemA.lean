/- json.Member at whatever value. -/
import Derived.Test.YtknnflobpjppfaaDoorMember
set_option linter.all false
namespace Go.Proofs.YtknnflobpjppfaaDoor
open Go.RowKit

/-- What a value has by a key, or null. -/
def V.memD (x : V) (key : ByteArray) : V := (x.member key).getD V.zero
theorem memD_size (x : V) (key : ByteArray) : x.memD key = V.zero ∨ (x.memD key).size < x.size := by
  unfold V.memD
  cases h : x.member key with
  | none => exact .inl rfl
  | some y =>
    refine .inr ?_
    unfold V.member at h
    obtain ⟨i, -, hi⟩ := Option.bind_eq_some_iff.1 h
    exact V.size_mem (List.mem_of_getElem? hi)
theorem member_any (x : V) (key : ByteArray) (ka : Option Addr) (kc : Nat) (la : Option Addr) (lc : Nat) (S : Nat → Prop) (w : World) (hsz : x.size ≤ 1073741824) (hin : x.In w S ka kc la lc) :
    Calls Tryd.prog 28 #[x.val ka kc la lc, .string key] w (RetV2 S (x.memD key) (.bool (x.member key).isSome) w) := by
  unfold V.memD
  cases h : x.member key with
  | some y => exact member_some h ka kc la lc S w hsz hin
  | none =>
    refine (member_none h ka kc la lc S w hsz hin).mono ?_
    rintro e w' ⟨rfl, hx⟩
    exact ⟨none, 0, none, 0, rfl, V.zero_in _ _, hx⟩
end Go.Proofs.YtknnflobpjppfaaDoor
