/-
  Models of functions.
-/
import Derived.Test.YtpgpkomolheinaaS1
import Derived.Test.YtpgpkomolheinaaVxb
namespace Go.Proofs.Ytpgpkomolheinaa
open Go.Vx

abbrev kLabel' : List K := [.str, .str]
abbrev kLabel : List K := [.str, .str]
abbrev kAlarm' : List K := [.sl 78 kLabel', .int .i64, .int .i64, .str]
abbrev kAlarm : List K := [.sl 80 kLabel, .int .i64, .int .i64, .str]
abbrev kDeed' : List K := [.int .i64, .int .i64, .sl 78 kLabel', .int .i64, .int .i64, .str, .sl 78 kLabel', .int .i64, .int .i64, .int .i64, .sl 74 kAlarm', .int .i64, .int .i64, .int .i64, .int .i64]
abbrev kDeed : List K := [.int .i64, .int .i64, .sl 80 kLabel, .int .i64, .int .i64, .str, .sl 80 kLabel, .int .i64, .int .i64, .int .i64, .sl 53 kAlarm, .int .i64, .int .i64, .int .i64, .int .i64]
/-- Some of the second are the first, in order. -/
def within (p : List D → List D → Bool) : List (List D) → List (List D) → Bool
  | [], _ => true
  | _ :: _, [] => false
  | x :: xs, y :: ys => if p x y = true then within p xs ys else within p (x :: xs) ys
noncomputable def mWithin : Nat → List D → D := con (fun _ => True) fun _ ds => .bool (within (eqDs kAlarm) (cell ds 0).asList (cell ds 1).asList)
noncomputable def mLaw : Nat → List D → D := con (fun _ => True) fun _ _ => .bool true
def ahead (a b : List D) : Bool := !decide ((cell a 14).asInt = -1) && decide ((cell a 14).asInt < (cell b 12).asInt)
def allR (p : List D → Bool) : List (List D) → Bool
  | [] => true
  | x :: xs => p x && allR p xs
/-- One deed took place behind another that it was ahead of. -/
def untimely (a b : List D) : Bool := ahead a b && (!decide ((cell a 13).asInt = -1) && (!decide ((cell b 13).asInt = -1) && decide ((cell b 13).asInt ≤ (cell a 13).asInt)))
def inTime (l : List (List D)) : Bool := allR (fun a => allR (fun b => !untimely a b) l) l
noncomputable def mAhead : Nat → List D → D := con (fun _ => True) fun _ ds => .bool (ahead (cell ds 0).row (cell ds 1).row)
noncomputable def mInTime : Nat → List D → D := con (fun _ => True) fun _ ds => .bool (inTime (cell ds 0).asList)
noncomputable def Φ : Fns := fun f => match f with
  | 68 => mEqA kLabel
  | 62 => mSzA kLabel'
  | 65 => mToA kLabel'
  | 22 => mEqL kLabel
  | 18 => mSzL kLabel'
  | 20 => mToL kLabel'
  | 39 => mEqA kAlarm
  | 59 => mSzA kAlarm'
  | 61 => mToA kAlarm'
  | 17 => mEqL kAlarm
  | 13 => mSzL kAlarm'
  | 15 => mToL kAlarm'
  | 75 => mEqA kDeed
  | 71 => mSzA kDeed'
  | 73 => mToA kDeed'
  | 30 => mEqL kDeed
  | 26 => mSzL kDeed'
  | 28 => mToL kDeed'
  | 63 => mEqL kLabel
  | 60 => mEqA kAlarm
  | 66 => mEqL kLabel
  | 53 => mEqA kAlarm
  | 14 => mWithin
  | 16 => mWithin
  | 72 => mAhead
  | 74 => mAhead
  | 27 => mInTime
  | 29 => mInTime
  | 3 => mLaw
  | 5 => mLaw
  | _ => fun _ _ => default

end Go.Proofs.Ytpgpkomolheinaa
