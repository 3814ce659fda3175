/-
  Models of functions.
-/
import Derived.Test.YtllhihloidkghaaS1
import Derived.Test.YtllhihloidkghaaVxc
namespace Go.Proofs.Ytllhihloidkghaa
open Go.Vx

abbrev kLabel' : List K := [.str, .str]
abbrev kAlarm' : List K := [.sl 176 kLabel', .int .i64, .int .i64, .str]
abbrev kLabel : List K := [.str, .str]
abbrev kAlarm : List K := [.sl 129 kLabel, .int .i64, .int .i64, .str]
abbrev kChain' : List K := [.int .i64, .sl 67 kAlarm']
abbrev kPart' : List K := [.int .i64, .int .i64, .sl 202 kChain']
abbrev kSub' : List K := [.sl 67 kAlarm', .bool]
abbrev kGroup' : List K := [.int .i64, .sl 176 kLabel', .int .i64, .int .i64, .sl 67 kAlarm']
abbrev kTimer' : List K := [.int .i64, .int .i64]
abbrev kBatch' : List K := [.int .i64, .sl 176 kLabel', .int .i64, .sl 67 kAlarm']
abbrev kTask' : List K := [.int .i64, .int .i64, .sl 176 kLabel', .int .i64, .int .i64, .str, .sl 176 kLabel', .int .i64, .sl 3 [.int .i64], .sl 67 kAlarm', .int .i64, .int .i64]
abbrev kDeed' : List K := [.int .i64, .int .i64, .sl 176 kLabel', .int .i64, .int .i64, .str, .sl 176 kLabel', .int .i64, .int .i64, .int .i64, .sl 67 kAlarm', .int .i64, .int .i64, .int .i64, .int .i64]
abbrev kChain : List K := [.int .i64, .sl 74 kAlarm]
abbrev kPart : List K := [.int .i64, .int .i64, .sl 188 kChain]
abbrev kSub : List K := [.sl 74 kAlarm, .bool]
abbrev kGroup : List K := [.int .i64, .sl 129 kLabel, .int .i64, .int .i64, .sl 74 kAlarm]
abbrev kTimer : List K := [.int .i64, .int .i64]
abbrev kBatch : List K := [.int .i64, .sl 129 kLabel, .int .i64, .sl 74 kAlarm]
abbrev kTask : List K := [.int .i64, .int .i64, .sl 129 kLabel, .int .i64, .int .i64, .str, .sl 129 kLabel, .int .i64, .sl 3 [.int .i64], .sl 74 kAlarm, .int .i64, .int .i64]
abbrev kDeed : List K := [.int .i64, .int .i64, .sl 129 kLabel, .int .i64, .int .i64, .str, .sl 129 kLabel, .int .i64, .int .i64, .int .i64, .sl 74 kAlarm, .int .i64, .int .i64, .int .i64, .int .i64]
abbrev kConf' : List K := [.int .i64, .int .i64, .int .i64, .int .i64, .int .i64, .sl 9 [.str]]
abbrev kConf : List K := [.int .i64, .int .i64, .int .i64, .int .i64, .int .i64, .sl 9 [.str]]
abbrev kWorld' : List K := [.int .i64, .int .i64, .int .i64, .int .i64, .int .i64, .sl 9 [.str], .int .i64, .int .i64, .sl 135 kPart', .sl 138 kSub', .sl 67 kAlarm', .int .i64, .sl 141 kGroup', .int .i64, .sl 162 kTimer', .sl 144 kBatch', .sl 67 kAlarm', .sl 147 kTask', .sl 69 kDeed']
abbrev kWorld : List K := [.int .i64, .int .i64, .int .i64, .int .i64, .int .i64, .sl 9 [.str], .int .i64, .int .i64, .sl 151 kPart, .sl 154 kSub, .sl 74 kAlarm, .int .i64, .sl 157 kGroup, .int .i64, .sl 160 kTimer, .sl 109 kBatch, .sl 74 kAlarm, .sl 115 kTask, .sl 76 kDeed]
noncomputable def mLaw : Nat → List D → D := con (fun _ => True) fun _ _ => .bool true
noncomputable def mCp : Nat → List D → D := con (fun ds => (cell ds 0).asList.length ≤ 1048576) fun _ ds => .sl (cell ds 0).asList
/-- An alarm again. -/
def cpAl (r : List D) : List D := [.sl (cell r 0).asList, cell r 1, cell r 2, cell r 3]
noncomputable def mCpAl : Nat → List D → D := con (fun ds => (cell (cell ds 0).row 0).asList.length ≤ 1048576) fun _ ds => .sl [cpAl (cell ds 0).row]
noncomputable def mCpAls : Nat → List D → D := con (fun ds => (cell ds 0).asList.length + sumR (szDs kAlarm) (cell ds 0).asList ≤ 1048576) fun _ ds => .sl ((cell ds 0).asList.flatMap fun r => [cpAl r])
/-- The alarm of the task that joins. -/
noncomputable def joinA (w : List D) : List (List D) := bif tt (3 < (cell w 17).asList.length ∧ (cell (rowN (cell w 17).asList 3) 0).asInt = 5) then [cpAl [cell (rowN (cell w 17).asList 3) 2, cell (rowN (cell w 17).asList 3) 3, cell (rowN (cell w 17).asList 3) 4, cell (rowN (cell w 17).asList 3) 5]] else []
noncomputable def mFeedOf : Nat → List D → D := con (fun ds => szDs kWorld (cell ds 0).row ≤ 1048576) fun _ ds => .sl (joinA (cell ds 0).row ++ (cell (cell ds 0).row 10).asList.flatMap fun r => [cpAl r])
noncomputable def Φ : Fns := fun f => match f with
  | 38 => mText
  | 121 => mEqL [.int .i64]
  | 98 => mEqL [.str]
  | 110 => mMrkL [.int .i64]
  | 108 => mMrkL [.str]
  | 117 => mSzL [.int .i64]
  | 85 => mSzL [.str]
  | 119 => mToL [.int .i64]
  | 91 => mToL [.str]
  | 130 => mEqA kChain
  | 115 => mEqA kLabel
  | 100 => mEqA kSub
  | 102 => mEqA kTimer
  | 128 => mSzA kChain'
  | 111 => mSzA kLabel'
  | 87 => mSzA kSub'
  | 129 => mToA kChain'
  | 112 => mToA kLabel'
  | 93 => mToA kSub'
  | 95 => mToA kTimer'
  | 120 => mEqL kChain
  | 84 => mEqL kLabel
  | 60 => mEqL kSub
  | 62 => mEqL kTimer
  | 39 => mHldL kLabel
  | 109 => mMrkL kChain
  | 37 => mMrkL kLabel
  | 73 => mMrkL kSub
  | 75 => mMrkL kTimer
  | 116 => mSzL kChain'
  | 79 => mSzL kLabel'
  | 44 => mSzL kSub'
  | 47 => mSzL kTimer'
  | 118 => mToL kChain'
  | 81 => mToL kLabel'
  | 52 => mToL kSub'
  | 55 => mToL kTimer'
  | 99 => mEqA kPart
  | 86 => mSzA kPart'
  | 92 => mToA kPart'
  | 59 => mEqL kPart
  | 72 => mMrkL kPart
  | 43 => mSzL kPart'
  | 51 => mToL kPart'
  | 35 => mEqA kAlarm
  | 103 => mEqA kBatch
  | 78 => mSzA kAlarm'
  | 89 => mSzA kBatch'
  | 80 => mToA kAlarm'
  | 96 => mToA kBatch'
  | 12 => mEqL kAlarm
  | 63 => mEqL kBatch
  | 16 => mHldL kAlarm
  | 15 => mMrkL kAlarm
  | 76 => mMrkL kBatch
  | 45 => mSzL kAlarm'
  | 48 => mSzL kBatch'
  | 53 => mToL kAlarm'
  | 56 => mToL kBatch'
  | 101 => mEqA kGroup
  | 88 => mSzA kGroup'
  | 94 => mToA kGroup'
  | 61 => mEqL kGroup
  | 74 => mMrkL kGroup
  | 46 => mSzL kGroup'
  | 54 => mToL kGroup'
  | 58 => mEqA kConf
  | 71 => mMrkA kConf
  | 42 => mSzA kConf'
  | 50 => mToA kConf'
  | 104 => mEqA kTask
  | 90 => mSzA kTask'
  | 97 => mToA kTask'
  | 64 => mEqL kTask
  | 77 => mMrkL kTask
  | 49 => mSzL kTask'
  | 57 => mToL kTask'
  | 36 => mEqA kDeed
  | 29 => mSzA kDeed'
  | 32 => mToA kDeed'
  | 13 => mEqL kDeed
  | 14 => mMrkL kDeed
  | 8 => mSzL kDeed'
  | 10 => mToL kDeed'
  | 23 => mEqA kWorld
  | 28 => mMrkA kWorld
  | 19 => mSzA kWorld'
  | 21 => mToA kWorld'
  | 7 => mLaw
  | 83 => mCp
  | 34 => mCpAl
  | 31 => mCpAl
  | 41 => mCpAls
  | 40 => mCpAls
  | 27 => mFeedOf
  | 26 => mFeedOf
  | _ => fun _ _ => default

end Go.Proofs.Ytllhihloidkghaa
