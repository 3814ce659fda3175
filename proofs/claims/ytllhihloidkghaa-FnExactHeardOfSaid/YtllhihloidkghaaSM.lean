/-
  Models of functions.
-/
import Derived.Test.YtllhihloidkghaaS1
import Derived.Test.YtllhihloidkghaaVxe
set_option linter.unusedVariables false
set_option linter.unusedSimpArgs false
namespace Go.Proofs.Ytllhihloidkghaa
open Go.Vx

abbrev kLabel' : List K := [.str, .str]
abbrev kAlarm' : List K := [.sl 176 kLabel', .int .i64, .int .i64, .str]
abbrev kLabel : List K := [.str, .str]
abbrev kAlarm : List K := [.sl 129 kLabel, .int .i64, .int .i64, .str]
abbrev kDeed' : List K := [.int .i64, .int .i64, .sl 176 kLabel', .int .i64, .int .i64, .str, .sl 176 kLabel', .int .i64, .int .i64, .int .i64, .sl 67 kAlarm', .int .i64, .int .i64, .int .i64, .int .i64]
abbrev kDeed : List K := [.int .i64, .int .i64, .sl 129 kLabel, .int .i64, .int .i64, .str, .sl 129 kLabel, .int .i64, .int .i64, .int .i64, .sl 74 kAlarm, .int .i64, .int .i64, .int .i64, .int .i64]
noncomputable def mLaw : Nat → List D → D := con (fun _ => True) fun _ _ => .bool true
noncomputable def mCp : Nat → List D → D := con (fun ds => (cell ds 0).asList.length ≤ 1048576) fun _ ds => .sl (cell ds 0).asList
/-- An alarm again. -/
def cpAl (r : List D) : List D := [.sl (cell r 0).asList, cell r 1, cell r 2, cell r 3]
noncomputable def mCpAl : Nat → List D → D := con (fun ds => (cell (cell ds 0).row 0).asList.length ≤ 1048576) fun _ ds => .sl [cpAl (cell ds 0).row]
noncomputable def mCpAls : Nat → List D → D := con (fun ds => (cell ds 0).asList.length + sumR (szDs kAlarm) (cell ds 0).asList ≤ 1048576) fun _ ds => .sl ((cell ds 0).asList.flatMap fun r => [cpAl r])
/-- When the deed of this place took place. -/
def linOf (l : List (List D)) (i : Int) : Int := (cell (rowN l i.toNat) 13).asInt
def ltP (l : List (List D)) (r s : List D) : Bool := decide (linOf l (cell r 0).asInt < linOf l (cell s 0).asInt)
noncomputable def mOrd1 : Nat → List D → D := con (fun ds => let l := (cell (cell ds 2).row 0).asList; let o := (cell (cell ds 3).row 0).asList
    ((0 ≤ (cell ds 0).asInt ∧ (cell ds 0).asInt < o.length) ∧ 0 ≤ (cell ds 1).asInt ∧ (cell ds 1).asInt < o.length) ∧ ∀ r, r ∈ o → 0 ≤ (cell r 0).asInt ∧ (cell r 0).asInt < l.length)
  fun _ ds => .bool (ltP (cell (cell ds 2).row 0).asList (rowN (cell (cell ds 3).row 0).asList (cell ds 0).asInt.toNat) (rowN (cell (cell ds 3).row 0).asList (cell ds 1).asInt.toNat))
/-- The places of the deeds that took place. -/
def placesN (l : List (List D)) (n : Nat) : List (List D) := pickN (fun i => !decide (linOf l i = -1)) (fun i => [.int i]) n
def ordP (l : List (List D)) : List (List D) := stS (ltP l) (placesN l l.length)
noncomputable def mOrder : Nat → List D → D := con (fun ds => (cell ds 0).asList.length ≤ 1048576) fun _ ds => .sl (ordP (cell ds 0).asList)
def mkDd (r : List D) : List D := [cell r 0, cell r 1, cell r 2, cell r 3, cell r 4, cell r 5, cell r 6, cell r 7, cell r 8, cell r 9, cell r 10, cell r 11, cell r 12, cell r 13, cell r 14]
/-- The deed of a place. -/
def atP (l : List (List D)) (r : List D) : List D := rowN l (cell r 0).asInt.toNat
noncomputable def mOrdered : Nat → List D → D := con (fun ds => (cell ds 0).asList.length ≤ 1048576) fun _ ds => .sl ((ordP (cell ds 0).asList).map fun r => mkDd (atP (cell ds 0).asList r))
/-- What a deed tells. -/
def tellG (r : List D) : List (List D) := bif decide ((cell r 0).asInt = 2) then [cpAl [cell r 2, cell r 3, cell r 4, cell r 5]] else []
noncomputable def mTold : Nat → List D → D := con (fun ds => (cell ds 0).asList.length + sumR (szDs kDeed) (cell ds 0).asList ≤ 1048576) fun _ ds => .sl ((ordP (cell ds 0).asList).flatMap fun r => tellG (atP (cell ds 0).asList r))
/-- What one hears. -/
def hearG (i : Int) (r : List D) : List (List D) := bif decide ((cell r 0).asInt = 9) && decide ((cell r 7).asInt = i) && decide ((cell r 9).asInt = 5) then (cell r 10).asList.flatMap fun r => [cpAl r] else []
noncomputable def mHeard : Nat → List D → D := con (fun ds => (cell ds 0).asList.length + sumR (szDs kDeed) (cell ds 0).asList ≤ 1048576) fun _ ds => .sl ((ordP (cell ds 0).asList).flatMap fun r => hearG (cell ds 1).asInt (atP (cell ds 0).asList r))
noncomputable def Φ : Fns := fun f => match f with
  | 38 => mText
  | 115 => mEqA kLabel
  | 111 => mSzA kLabel'
  | 112 => mToA kLabel'
  | 84 => mEqL kLabel
  | 39 => mHldL kLabel
  | 37 => mMrkL kLabel
  | 79 => mSzL kLabel'
  | 81 => mToL kLabel'
  | 35 => mEqA kAlarm
  | 78 => mSzA kAlarm'
  | 80 => mToA kAlarm'
  | 12 => mEqL kAlarm
  | 16 => mHldL kAlarm
  | 15 => mMrkL kAlarm
  | 45 => mSzL kAlarm'
  | 53 => mToL kAlarm'
  | 36 => mEqA kDeed
  | 29 => mSzA kDeed'
  | 32 => mToA kDeed'
  | 13 => mEqL kDeed
  | 14 => mMrkL kDeed
  | 8 => mSzL kDeed'
  | 10 => mToL kDeed'
  | 3 => mLaw
  | 4 => mLaw
  | 83 => mCp
  | 34 => mCpAl
  | 31 => mCpAl
  | 41 => mCpAls
  | 40 => mCpAls
  | 114 => mOrd1
  | 82 => mOrder
  | 30 => mOrder
  | 33 => mOrdered
  | 11 => mTold
  | 9 => mTold
  | 18 => mHeard
  | 17 => mHeard
  | _ => fun _ _ => default

end Go.Proofs.Ytllhihloidkghaa
