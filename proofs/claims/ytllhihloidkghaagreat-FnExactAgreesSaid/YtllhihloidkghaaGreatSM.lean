/-
  Models of functions.
-/
import Derived.Test.YtllhihloidkghaaGreatS1
import Derived.Test.YtllhihloidkghaaGreatVxe
set_option linter.unusedVariables false
set_option linter.unusedSimpArgs false
namespace Go.Proofs.YtllhihloidkghaaGreat
open Go.Vx

abbrev kLabel' : List K := [.str, .str]
abbrev kAlarm' : List K := [.sl 172 kLabel', .int .i64, .int .i64, .str]
abbrev kChain' : List K := [.int .i64, .sl 105 kAlarm']
abbrev kPart' : List K := [.int .i64, .int .i64, .sl 170 kChain']
abbrev kSub' : List K := [.sl 105 kAlarm', .bool]
abbrev kGroup' : List K := [.int .i64, .sl 172 kLabel', .int .i64, .int .i64, .sl 105 kAlarm']
abbrev kTimer' : List K := [.int .i64, .int .i64]
abbrev kBatch' : List K := [.int .i64, .sl 172 kLabel', .int .i64, .sl 105 kAlarm']
abbrev kTask' : List K := [.int .i64, .int .i64, .sl 172 kLabel', .int .i64, .int .i64, .str, .sl 172 kLabel', .int .i64, .sl 3 [.int .i64], .sl 105 kAlarm', .int .i64, .int .i64]
abbrev kDeed' : List K := [.int .i64, .int .i64, .sl 172 kLabel', .int .i64, .int .i64, .str, .sl 172 kLabel', .int .i64, .int .i64, .int .i64, .sl 105 kAlarm', .int .i64, .int .i64, .int .i64, .int .i64]
abbrev kLabel : List K := [.str, .str]
abbrev kAlarm : List K := [.sl 159 kLabel, .int .i64, .int .i64, .str]
abbrev kChain : List K := [.int .i64, .sl 122 kAlarm]
abbrev kPart : List K := [.int .i64, .int .i64, .sl 157 kChain]
abbrev kSub : List K := [.sl 122 kAlarm, .bool]
abbrev kGroup : List K := [.int .i64, .sl 159 kLabel, .int .i64, .int .i64, .sl 122 kAlarm]
abbrev kTimer : List K := [.int .i64, .int .i64]
abbrev kBatch : List K := [.int .i64, .sl 159 kLabel, .int .i64, .sl 122 kAlarm]
abbrev kTask : List K := [.int .i64, .int .i64, .sl 159 kLabel, .int .i64, .int .i64, .str, .sl 159 kLabel, .int .i64, .sl 3 [.int .i64], .sl 122 kAlarm, .int .i64, .int .i64]
abbrev kDeed : List K := [.int .i64, .int .i64, .sl 159 kLabel, .int .i64, .int .i64, .str, .sl 159 kLabel, .int .i64, .int .i64, .int .i64, .sl 122 kAlarm, .int .i64, .int .i64, .int .i64, .int .i64]
abbrev kConf' : List K := [.int .i64, .int .i64, .int .i64, .int .i64, .int .i64, .sl 9 [.str]]
abbrev kConf : List K := [.int .i64, .int .i64, .int .i64, .int .i64, .int .i64, .sl 9 [.str]]
abbrev kModel' : List K := [.int .i64, .int .i64, .int .i64, .int .i64, .int .i64, .sl 9 [.str], .sl 105 kAlarm', .sl 101 kSub', .sl 105 kAlarm', .sl 108 kGroup', .int .i64]
abbrev kModel : List K := [.int .i64, .int .i64, .int .i64, .int .i64, .int .i64, .sl 9 [.str], .sl 122 kAlarm, .sl 73 kSub, .sl 122 kAlarm, .sl 77 kGroup, .int .i64]
abbrev kWorld' : List K := [.int .i64, .int .i64, .int .i64, .int .i64, .int .i64, .sl 9 [.str], .int .i64, .int .i64, .sl 98 kPart', .sl 101 kSub', .sl 105 kAlarm', .int .i64, .sl 108 kGroup', .int .i64, .sl 140 kTimer', .sl 111 kBatch', .sl 105 kAlarm', .sl 115 kTask', .sl 118 kDeed']
abbrev kWorld : List K := [.int .i64, .int .i64, .int .i64, .int .i64, .int .i64, .sl 9 [.str], .int .i64, .int .i64, .sl 126 kPart, .sl 73 kSub, .sl 122 kAlarm, .int .i64, .sl 77 kGroup, .int .i64, .sl 138 kTimer, .sl 142 kBatch, .sl 122 kAlarm, .sl 129 kTask, .sl 146 kDeed]
noncomputable def mLaw : Nat → List D → D := con (fun _ => True) fun _ _ => .bool true
noncomputable def mCp : Nat → List D → D := con (fun ds => (cell ds 0).asList.length ≤ 1048576) fun _ ds => .sl (cell ds 0).asList
/-- An alarm again. -/
def cpAl (r : List D) : List D := [.sl (cell r 0).asList, cell r 1, cell r 2, cell r 3]
noncomputable def mCpAl : Nat → List D → D := con (fun ds => (cell (cell ds 0).row 0).asList.length ≤ 1048576) fun _ ds => .sl [cpAl (cell ds 0).row]
noncomputable def mCpAls : Nat → List D → D := con (fun ds => (cell ds 0).asList.length + sumR (szDs kAlarm) (cell ds 0).asList ≤ 1048576) fun _ ds => .sl ((cell ds 0).asList.flatMap fun r => [cpAl r])
/-- The alarm of the task that joins. -/
noncomputable def joinA (w : List D) : List (List D) := bif tt (3 < (cell w 17).asList.length ∧ (cell (rowN (cell w 17).asList 3) 0).asInt = 5) then [cpAl [cell (rowN (cell w 17).asList 3) 2, cell (rowN (cell w 17).asList 3) 3, cell (rowN (cell w 17).asList 3) 4, cell (rowN (cell w 17).asList 3) 5]] else []
noncomputable def mFeedOf : Nat → List D → D := con (fun ds => szDs kWorld (cell ds 0).row ≤ 1048576) fun _ ds => .sl (joinA (cell ds 0).row ++ (cell (cell ds 0).row 10).asList.flatMap fun r => [cpAl r])
/-! Orders. -/
noncomputable def mSetLt : Nat → List D → D := con (fun _ => True) fun _ ds => .bool (setLt (cell ds 0).asList (cell ds 1).asList)
noncomputable def mLess : Nat → List D → D := con (fun _ => True) fun _ ds => .bool (Op.bytesLess (cell ds 0).asStr.toList (cell ds 1).asStr.toList)
/-- An alarm ahead of another. -/
def ltA (r s : List D) : Bool := setLt (cell r 0).asList (cell s 0).asList
noncomputable def mByL1 : Nat → List D → D := con (fun ds => (0 ≤ (cell ds 0).asInt ∧ (cell ds 0).asInt < (cell (cell ds 2).row 0).asList.length) ∧ 0 ≤ (cell ds 1).asInt ∧ (cell ds 1).asInt < (cell (cell ds 2).row 0).asList.length)
  fun _ ds => .bool (ltA (rowN (cell (cell ds 2).row 0).asList (cell ds 0).asInt.toNat) (rowN (cell (cell ds 2).row 0).asList (cell ds 1).asInt.toNat))
noncomputable def mByL : Nat → List D → D := con (fun _ => True) fun _ ds => .sl (stS ltA (cell ds 0).asList)
noncomputable def mSortA : Nat → List D → D := con (fun ds => (cell ds 0).asList.length + sumR (szDs kAlarm) (cell ds 0).asList ≤ 1048576) fun _ ds => .sl (stS ltA ((cell ds 0).asList.map cpAl))

noncomputable def mAlIn : Nat → List D → D := con (fun ds => szDs kPart (cell ds 0).row ≤ 1048576) fun _ ds => .sl ((cell (cell ds 0).row 2).asList.flatMap fun c => (cell c 1).asList.flatMap fun r => [cpAl r])
def partA (p : List D) : List (List D) := (cell p 2).asList.flatMap fun c => (cell c 1).asList.flatMap fun r => [cpAl r]
def allSt (l : List (List D)) : List (List D) := stS ltA (l.flatMap partA)
noncomputable def mAllA : Nat → List D → D := con (fun ds => (cell ds 0).asList.length + sumR (szDs kPart) (cell ds 0).asList ≤ 1048576) fun _ ds => .sl (allSt (cell ds 0).asList)
noncomputable def feedW (w : List D) : List (List D) := joinA w ++ (cell w 10).asList.flatMap fun r => [cpAl r]
noncomputable def agreesB (w m : List D) : Bool := eqDs kConf w m && tt ((cell w 13).asInt = (cell m 10).asInt) && eqR (eqDs kSub) (cell w 9).asList (cell m 7).asList && eqR (eqDs kGroup) (cell w 12).asList (cell m 9).asList && eqR (eqDs kAlarm) (allSt (cell w 8).asList) (cell m 6).asList && eqR (eqDs kAlarm) (feedW w) (cell m 8).asList
noncomputable def mAgrees : Nat → List D → D := con (fun ds => szDs kWorld (cell ds 0).row ≤ 1048576) fun _ ds => .bool (agreesB (cell ds 0).row (cell ds 1).row)
noncomputable def Φ : Fns := fun f => match f with
  | 106 => mEqL [.int .i64]
  | 83 => mEqL [.str]
  | 94 => mSzL [.int .i64]
  | 51 => mSzL [.str]
  | 98 => mToL [.int .i64]
  | 66 => mToL [.str]
  | 116 => mEqA kChain
  | 117 => mEqA kLabel
  | 85 => mEqA kSub
  | 88 => mEqA kTimer
  | 107 => mSzA kChain'
  | 108 => mSzA kLabel'
  | 53 => mSzA kSub'
  | 110 => mToA kChain'
  | 111 => mToA kLabel'
  | 68 => mToA kSub'
  | 71 => mToA kTimer'
  | 104 => mEqL kChain
  | 105 => mEqL kLabel
  | 44 => mEqL kSub
  | 47 => mEqL kTimer
  | 92 => mSzL kChain'
  | 93 => mSzL kLabel'
  | 14 => mSzL kSub'
  | 17 => mSzL kTimer'
  | 96 => mToL kChain'
  | 97 => mToL kLabel'
  | 29 => mToL kSub'
  | 32 => mToL kTimer'
  | 84 => mEqA kPart
  | 52 => mSzA kPart'
  | 67 => mToA kPart'
  | 43 => mEqL kPart
  | 13 => mSzL kPart'
  | 28 => mToL kPart'
  | 86 => mEqA kAlarm
  | 89 => mEqA kBatch
  | 54 => mSzA kAlarm'
  | 56 => mSzA kBatch'
  | 69 => mToA kAlarm'
  | 72 => mToA kBatch'
  | 45 => mEqL kAlarm
  | 48 => mEqL kBatch
  | 15 => mSzL kAlarm'
  | 18 => mSzL kBatch'
  | 30 => mToL kAlarm'
  | 33 => mToL kBatch'
  | 87 => mEqA kGroup
  | 55 => mSzA kGroup'
  | 70 => mToA kGroup'
  | 46 => mEqL kGroup
  | 16 => mSzL kGroup'
  | 31 => mToL kGroup'
  | 42 => mEqA kConf
  | 12 => mSzA kConf'
  | 27 => mToA kConf'
  | 11 => mEqA kModel
  | 5 => mSzA kModel'
  | 8 => mToA kModel'
  | 90 => mEqA kTask
  | 57 => mSzA kTask'
  | 73 => mToA kTask'
  | 49 => mEqL kTask
  | 19 => mSzL kTask'
  | 34 => mToL kTask'
  | 91 => mEqA kDeed
  | 58 => mSzA kDeed'
  | 74 => mToA kDeed'
  | 50 => mEqL kDeed
  | 20 => mSzL kDeed'
  | 35 => mToL kDeed'
  | 10 => mEqA kWorld
  | 4 => mSzA kWorld'
  | 7 => mToA kWorld'
  | 3 => mLaw
  | 103 => mCp
  | 81 => mCpAl
  | 63 => mCpAl
  | 82 => mCpAls
  | 64 => mCpAls
  | 41 => mFeedOf
  | 24 => mFeedOf
  | 102 => mSetLt
  | 95 => mSetLt
  | 109 => mLess
  | 101 => mByL1
  | 80 => mByL
  | 62 => mSortA
  | 61 => mAlIn
  | 79 => mAlIn
  | 23 => mAllA
  | 40 => mAllA
  | 65 => mEqL kLabel
  | 99 => mEqL kLabel
  | 60 => mEqA kAlarm
  | 78 => mEqA kAlarm
  | 22 => mEqL kAlarm
  | 39 => mEqL kAlarm
  | 25 => mEqA kSub
  | 76 => mEqA kSub
  | 37 => mEqL kSub
  | 26 => mEqA kGroup
  | 77 => mEqA kGroup
  | 38 => mEqL kGroup
  | 75 => mEqL [.str]
  | 59 => mEqL [.str]
  | 36 => mEqA kConf
  | 21 => mEqA kConf
  | 9 => mAgrees
  | 6 => mAgrees
  | _ => fun _ _ => default

end Go.Proofs.YtllhihloidkghaaGreat
