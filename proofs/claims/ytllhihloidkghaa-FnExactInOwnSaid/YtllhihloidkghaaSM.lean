/-
  Models of functions.
-/
import Derived.Test.YtllhihloidkghaaS1
import Derived.Test.YtllhihloidkghaaVxc
namespace Go.Proofs.Ytllhihloidkghaa
open Go.Vx

abbrev kLabel' : List K := [.str, .str]
abbrev kAlarm' : List K := [.sl 176 kLabel', .int .i64, .int .i64, .str]
abbrev kLabel : List K := [.str, .str]
abbrev kAlarm : List K := [.sl 129 kLabel, .int .i64, .int .i64, .str]
abbrev kChain' : List K := [.int .i64, .sl 67 kAlarm']
abbrev kPart' : List K := [.int .i64, .int .i64, .sl 202 kChain']
abbrev kSub' : List K := [.sl 67 kAlarm', .bool]
abbrev kGroup' : List K := [.int .i64, .sl 176 kLabel', .int .i64, .int .i64, .sl 67 kAlarm']
abbrev kTimer' : List K := [.int .i64, .int .i64]
abbrev kBatch' : List K := [.int .i64, .sl 176 kLabel', .int .i64, .sl 67 kAlarm']
abbrev kTask' : List K := [.int .i64, .int .i64, .sl 176 kLabel', .int .i64, .int .i64, .str, .sl 176 kLabel', .int .i64, .sl 3 [.int .i64], .sl 67 kAlarm', .int .i64, .int .i64]
abbrev kDeed' : List K := [.int .i64, .int .i64, .sl 176 kLabel', .int .i64, .int .i64, .str, .sl 176 kLabel', .int .i64, .int .i64, .int .i64, .sl 67 kAlarm', .int .i64, .int .i64, .int .i64, .int .i64]
abbrev kChain : List K := [.int .i64, .sl 74 kAlarm]
abbrev kPart : List K := [.int .i64, .int .i64, .sl 188 kChain]
abbrev kSub : List K := [.sl 74 kAlarm, .bool]
abbrev kGroup : List K := [.int .i64, .sl 129 kLabel, .int .i64, .int .i64, .sl 74 kAlarm]
abbrev kTimer : List K := [.int .i64, .int .i64]
abbrev kBatch : List K := [.int .i64, .sl 129 kLabel, .int .i64, .sl 74 kAlarm]
abbrev kTask : List K := [.int .i64, .int .i64, .sl 129 kLabel, .int .i64, .int .i64, .str, .sl 129 kLabel, .int .i64, .sl 3 [.int .i64], .sl 74 kAlarm, .int .i64, .int .i64]
abbrev kDeed : List K := [.int .i64, .int .i64, .sl 129 kLabel, .int .i64, .int .i64, .str, .sl 129 kLabel, .int .i64, .int .i64, .int .i64, .sl 74 kAlarm, .int .i64, .int .i64, .int .i64, .int .i64]
abbrev kConf' : List K := [.int .i64, .int .i64, .int .i64, .int .i64, .int .i64, .sl 9 [.str]]
abbrev kConf : List K := [.int .i64, .int .i64, .int .i64, .int .i64, .int .i64, .sl 9 [.str]]
abbrev kWorld' : List K := [.int .i64, .int .i64, .int .i64, .int .i64, .int .i64, .sl 9 [.str], .int .i64, .int .i64, .sl 135 kPart', .sl 138 kSub', .sl 67 kAlarm', .int .i64, .sl 141 kGroup', .int .i64, .sl 162 kTimer', .sl 144 kBatch', .sl 67 kAlarm', .sl 147 kTask', .sl 69 kDeed']
abbrev kWorld : List K := [.int .i64, .int .i64, .int .i64, .int .i64, .int .i64, .sl 9 [.str], .int .i64, .int .i64, .sl 151 kPart, .sl 154 kSub, .sl 74 kAlarm, .int .i64, .sl 157 kGroup, .int .i64, .sl 160 kTimer, .sl 109 kBatch, .sl 74 kAlarm, .sl 115 kTask, .sl 76 kDeed]
noncomputable def mLaw : Nat → List D → D := con (fun _ => True) fun _ _ => .bool true
noncomputable def mBound : Nat → List D → D := con (fun _ => True) fun _ ds => intV .add .i64 (intV .add .i64 100 (intV .mul .i64 6 (cell (cell ds 0).row 10).asList.length).asInt).asInt (intV .mul .i64 6 (cell (cell ds 0).row 14).asList.length).asInt
/-- A text among texts. -/
noncomputable def hasB (l : List (List D)) (s : ByteArray) : Bool := tt (∃ j, j < l.length ∧ (cell (rowN l j) 0).asStr = s)
noncomputable def mHas : Nat → List D → D := con (fun _ => True) fun _ ds => .bool (hasB (cell ds 0).asList (cell ds 1).asStr)
/-- The labels of some names. -/
noncomputable def projL (xs names : List (List D)) : List (List D) := (xs.filter fun r => hasB names (cell r 0).asStr).map fun r => [cell r 0, cell r 1]
noncomputable def mProject : Nat → List D → D := con (fun ds => (cell ds 0).asList.length ≤ 1048576) fun _ ds => .sl (projL (cell ds 0).asList (cell ds 1).asList)
noncomputable def mKeyOf : Nat → List D → D := con (fun ds => (cell (cell ds 0).row 0).asList.length ≤ 1048576) fun _ ds => .sl (projL (cell (cell ds 0).row 0).asList (cell ds 1).asList)
noncomputable def mStands : Nat → List D → D := con (fun _ => True) fun _ ds => .int (findR (fun r => eqR (eqDs kLabel) (cell r 0).asList (cell ds 1).asList = true) (cell ds 0).asList 0)
/-- No two alarms have the same labels. -/
def apart (l : List (List D)) : Prop := ∀ k, k < l.length → ∀ m, m < k → eqR (eqDs kLabel) (cell (rowN l m) 0).asList (cell (rowN l k) 0).asList = false
noncomputable def mApart : Nat → List D → D := con (fun _ => True) fun _ ds => .bool (tt (apart (cell ds 0).asList))
/-- A batch bears alarms of its key. -/
def ownB (names : List (List D)) (b : List D) : Prop := (cell b 3).asList ≠ [] ∧ (∀ k, k < (cell b 3).asList.length → eqR (eqDs kLabel) (projL (cell (rowN (cell b 3).asList k) 0).asList names) (cell b 1).asList = true) ∧ apart (cell b 3).asList
noncomputable def mInOwn : Nat → List D → D := con (fun ds => szDs kWorld (cell ds 0).row ≤ 1048576) fun _ ds => .bool (tt (∀ j, j < (cell (cell ds 0).row 15).asList.length → ownB (cell (cell ds 0).row 5).asList (rowN (cell (cell ds 0).row 15).asList j)))
noncomputable def Φ : Fns := fun f => match f with
  | 121 => mEqL [.int .i64]
  | 98 => mEqL [.str]
  | 117 => mSzL [.int .i64]
  | 85 => mSzL [.str]
  | 119 => mToL [.int .i64]
  | 91 => mToL [.str]
  | 130 => mEqA kChain
  | 115 => mEqA kLabel
  | 100 => mEqA kSub
  | 102 => mEqA kTimer
  | 128 => mSzA kChain'
  | 111 => mSzA kLabel'
  | 87 => mSzA kSub'
  | 129 => mToA kChain'
  | 112 => mToA kLabel'
  | 93 => mToA kSub'
  | 95 => mToA kTimer'
  | 120 => mEqL kChain
  | 84 => mEqL kLabel
  | 60 => mEqL kSub
  | 62 => mEqL kTimer
  | 116 => mSzL kChain'
  | 79 => mSzL kLabel'
  | 44 => mSzL kSub'
  | 47 => mSzL kTimer'
  | 118 => mToL kChain'
  | 81 => mToL kLabel'
  | 52 => mToL kSub'
  | 55 => mToL kTimer'
  | 99 => mEqA kPart
  | 86 => mSzA kPart'
  | 92 => mToA kPart'
  | 59 => mEqL kPart
  | 43 => mSzL kPart'
  | 51 => mToL kPart'
  | 35 => mEqA kAlarm
  | 103 => mEqA kBatch
  | 78 => mSzA kAlarm'
  | 89 => mSzA kBatch'
  | 80 => mToA kAlarm'
  | 96 => mToA kBatch'
  | 12 => mEqL kAlarm
  | 63 => mEqL kBatch
  | 45 => mSzL kAlarm'
  | 48 => mSzL kBatch'
  | 53 => mToL kAlarm'
  | 56 => mToL kBatch'
  | 101 => mEqA kGroup
  | 88 => mSzA kGroup'
  | 94 => mToA kGroup'
  | 61 => mEqL kGroup
  | 46 => mSzL kGroup'
  | 54 => mToL kGroup'
  | 58 => mEqA kConf
  | 42 => mSzA kConf'
  | 50 => mToA kConf'
  | 104 => mEqA kTask
  | 90 => mSzA kTask'
  | 97 => mToA kTask'
  | 64 => mEqL kTask
  | 49 => mSzL kTask'
  | 57 => mToL kTask'
  | 36 => mEqA kDeed
  | 29 => mSzA kDeed'
  | 32 => mToA kDeed'
  | 13 => mEqL kDeed
  | 8 => mSzL kDeed'
  | 10 => mToL kDeed'
  | 23 => mEqA kWorld
  | 19 => mSzA kWorld'
  | 21 => mToA kWorld'
  | 5 => mLaw
  | 20 => mBound
  | 22 => mBound
  | 6 => mLaw
  | 65 => mEqL kLabel
  | 68 => mEqL kLabel
  | 122 => mHas
  | 123 => mHas
  | 105 => mProject
  | 106 => mProject
  | 66 => mKeyOf
  | 69 => mKeyOf
  | 67 => mStands
  | 107 => mStands
  | 70 => mApart
  | 24 => mInOwn
  | 25 => mInOwn
  | _ => fun _ _ => default

end Go.Proofs.Ytllhihloidkghaa
