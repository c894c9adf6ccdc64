/- Plain functions of package stage: what a step, a spec, a status and the next status are. No program in sight. -/
import Derived.Test.YtpkgeailbifnjaaBase
set_option linter.all false
namespace Go.Proofs.Ytpkgeailbifnjaa
open Go.RowKit

/-- A status. -/
structure St where
  sb : ByteArray
  cm : ByteArray
  ph : Int
  sp : Int
  wt : Int
  si : Int

def goodStepB (wt p : Int) : Bool := decide ((wt = -1 ∧ 0 ≤ p ∧ p ≤ 1099511627776) ∨ (0 ≤ wt ∧ wt ≤ 100 ∧ p = 0))
def stepsB (xs : List (Int × Int)) : Bool := xs.all fun x => goodStepB x.1 x.2
def goodSpecB (im : ByteArray) (xs : List (Int × Int)) : Bool := decide (im.toList ≠ []) && decide (im.size ≤ 60) && decide (xs.length ≤ 8) && stepsB xs
def goodStB (s : St) : Bool :=
  decide (s.sb.toList ≠ [] ∧ s.cm.toList ≠ [] ∧ 0 ≤ s.sp ∧ s.sp ≤ 8 ∧ 0 ≤ s.wt ∧ s.wt ≤ 100 ∧ 0 ≤ s.si ∧ s.si ≤ 1099511627776 ∧ (s.ph ≠ 3 → s.si = 0) ∧
    ((s.ph = 1 ∧ s.sb.toList = s.cm.toList ∧ s.wt = 100 ∧ s.sp = 0) ∨ (s.ph = 4 ∧ s.wt = 0 ∧ s.sp = 0 ∧ s.sb.toList ≠ s.cm.toList) ∨ ((s.ph = 2 ∨ s.ph = 3) ∧ s.sb.toList ≠ s.cm.toList)))
def doneSt (i : ByteArray) : St := ⟨i, i, 1, 0, 100, 0⟩
def runSt (now : Int) : List (Int × Int) → St → Int → St
  | [], s, _ => doneSt s.cm
  | x :: r, s, o =>
    if 0 ≤ x.1 then runSt now r { s with wt := x.1, ph := 2, si := 0, sp := s.sp + 1 } o
    else if s.ph ≠ 3 then { s with ph := 3, si := now }
    else if o = 1 then runSt now r { s with ph := 2, si := 0, sp := s.sp + 1 } 0
    else if x.2 = 0 ∨ now < s.si ∨ now - s.si < x.2 then s
    else runSt now r { s with ph := 2, si := 0, sp := s.sp + 1 } o
def comingSt (im : ByteArray) (s : St) : St := if im.toList = s.cm.toList then s else ⟨s.sb, im, 2, 0, 0, 0⟩
def nextSt (im : ByteArray) (xs : List (Int × Int)) (s : St) (now order : Int) : St × Int :=
  if goodSpecB im xs = false ∨ goodStB s = false then (s, 1)
  else if now < 0 ∨ 1099511627776 < now then (s, 8)
  else if order < 0 ∨ 3 < order then (s, 9)
  else if im.toList ≠ s.cm.toList ∧ im.toList = s.sb.toList then (doneSt s.sb, 0)
  else if (comingSt im s).ph ≠ 2 ∧ (comingSt im s).ph ≠ 3 then (comingSt im s, 0)
  else if order = 2 then (doneSt (comingSt im s).cm, 0)
  else if order = 3 then (⟨(comingSt im s).sb, (comingSt im s).cm, 4, 0, 0, 0⟩, 0)
  else (runSt now (xs.drop (comingSt im s).sp.toNat) (comingSt im s) order, 0)

/-- The value of a status. -/
abbrev St.val (s : St) : Value := .agg #[.string s.sb, .string s.cm, .int .i64 s.ph, .int .i64 s.sp, .int .i64 s.wt, .int .i64 s.si]

end Go.Proofs.Ytpkgeailbifnjaa
