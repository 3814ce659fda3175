/-
  Models of functions.
-/
import Derived.Test.YtllhihloidkghaaS1
import Derived.Test.YtllhihloidkghaaVxb
namespace Go.Proofs.Ytllhihloidkghaa
open Go.Vx

abbrev kLabel' : List K := [.str, .str]
abbrev kAlarm' : List K := [.sl 176 kLabel', .int .i64, .int .i64, .str]
abbrev kLabel : List K := [.str, .str]
abbrev kAlarm : List K := [.sl 129 kLabel, .int .i64, .int .i64, .str]
abbrev kChain' : List K := [.int .i64, .sl 67 kAlarm']
abbrev kPart' : List K := [.int .i64, .int .i64, .sl 202 kChain']
abbrev kSub' : List K := [.sl 67 kAlarm', .bool]
abbrev kGroup' : List K := [.int .i64, .sl 176 kLabel', .int .i64, .int .i64, .sl 67 kAlarm']
abbrev kTimer' : List K := [.int .i64, .int .i64]
abbrev kBatch' : List K := [.int .i64, .sl 176 kLabel', .int .i64, .sl 67 kAlarm']
abbrev kTask' : List K := [.int .i64, .int .i64, .sl 176 kLabel', .int .i64, .int .i64, .str, .sl 176 kLabel', .int .i64, .sl 3 [.int .i64], .sl 67 kAlarm', .int .i64, .int .i64]
abbrev kDeed' : List K := [.int .i64, .int .i64, .sl 176 kLabel', .int .i64, .int .i64, .str, .sl 176 kLabel', .int .i64, .int .i64, .int .i64, .sl 67 kAlarm', .int .i64, .int .i64, .int .i64, .int .i64]
abbrev kChain : List K := [.int .i64, .sl 74 kAlarm]
abbrev kPart : List K := [.int .i64, .int .i64, .sl 188 kChain]
abbrev kSub : List K := [.sl 74 kAlarm, .bool]
abbrev kGroup : List K := [.int .i64, .sl 129 kLabel, .int .i64, .int .i64, .sl 74 kAlarm]
abbrev kTimer : List K := [.int .i64, .int .i64]
abbrev kBatch : List K := [.int .i64, .sl 129 kLabel, .int .i64, .sl 74 kAlarm]
abbrev kTask : List K := [.int .i64, .int .i64, .sl 129 kLabel, .int .i64, .int .i64, .str, .sl 129 kLabel, .int .i64, .sl 3 [.int .i64], .sl 74 kAlarm, .int .i64, .int .i64]
abbrev kDeed : List K := [.int .i64, .int .i64, .sl 129 kLabel, .int .i64, .int .i64, .str, .sl 129 kLabel, .int .i64, .int .i64, .int .i64, .sl 74 kAlarm, .int .i64, .int .i64, .int .i64, .int .i64]
abbrev kConf' : List K := [.int .i64, .int .i64, .int .i64, .int .i64, .int .i64, .sl 9 [.str]]
abbrev kConf : List K := [.int .i64, .int .i64, .int .i64, .int .i64, .int .i64, .sl 9 [.str]]
abbrev kWorld' : List K := [.int .i64, .int .i64, .int .i64, .int .i64, .int .i64, .sl 9 [.str], .int .i64, .int .i64, .sl 135 kPart', .sl 138 kSub', .sl 67 kAlarm', .int .i64, .sl 141 kGroup', .int .i64, .sl 162 kTimer', .sl 144 kBatch', .sl 67 kAlarm', .sl 147 kTask', .sl 69 kDeed']
abbrev kWorld : List K := [.int .i64, .int .i64, .int .i64, .int .i64, .int .i64, .sl 9 [.str], .int .i64, .int .i64, .sl 151 kPart, .sl 154 kSub, .sl 74 kAlarm, .int .i64, .sl 157 kGroup, .int .i64, .sl 160 kTimer, .sl 109 kBatch, .sl 74 kAlarm, .sl 115 kTask, .sl 76 kDeed]
noncomputable def mLaw : Nat → List D → D := con (fun _ => True) fun _ _ => .bool true
noncomputable def mBound : Nat → List D → D := con (fun _ => True) fun _ ds => intV .add .i64 (intV .add .i64 100 (intV .mul .i64 6 (cell (cell ds 0).row 10).asList.length).asInt).asInt (intV .mul .i64 6 (cell (cell ds 0).row 14).asList.length).asInt
noncomputable def Φ : Fns := fun f => match f with
  | 121 => mEqL [.int .i64]
  | 98 => mEqL [.str]
  | 117 => mSzL [.int .i64]
  | 85 => mSzL [.str]
  | 119 => mToL [.int .i64]
  | 91 => mToL [.str]
  | 130 => mEqA kChain
  | 115 => mEqA kLabel
  | 100 => mEqA kSub
  | 102 => mEqA kTimer
  | 128 => mSzA kChain'
  | 111 => mSzA kLabel'
  | 87 => mSzA kSub'
  | 129 => mToA kChain'
  | 112 => mToA kLabel'
  | 93 => mToA kSub'
  | 95 => mToA kTimer'
  | 120 => mEqL kChain
  | 84 => mEqL kLabel
  | 60 => mEqL kSub
  | 62 => mEqL kTimer
  | 116 => mSzL kChain'
  | 79 => mSzL kLabel'
  | 44 => mSzL kSub'
  | 47 => mSzL kTimer'
  | 118 => mToL kChain'
  | 81 => mToL kLabel'
  | 52 => mToL kSub'
  | 55 => mToL kTimer'
  | 99 => mEqA kPart
  | 86 => mSzA kPart'
  | 92 => mToA kPart'
  | 59 => mEqL kPart
  | 43 => mSzL kPart'
  | 51 => mToL kPart'
  | 35 => mEqA kAlarm
  | 103 => mEqA kBatch
  | 78 => mSzA kAlarm'
  | 89 => mSzA kBatch'
  | 80 => mToA kAlarm'
  | 96 => mToA kBatch'
  | 12 => mEqL kAlarm
  | 63 => mEqL kBatch
  | 45 => mSzL kAlarm'
  | 48 => mSzL kBatch'
  | 53 => mToL kAlarm'
  | 56 => mToL kBatch'
  | 101 => mEqA kGroup
  | 88 => mSzA kGroup'
  | 94 => mToA kGroup'
  | 61 => mEqL kGroup
  | 46 => mSzL kGroup'
  | 54 => mToL kGroup'
  | 58 => mEqA kConf
  | 42 => mSzA kConf'
  | 50 => mToA kConf'
  | 104 => mEqA kTask
  | 90 => mSzA kTask'
  | 97 => mToA kTask'
  | 64 => mEqL kTask
  | 49 => mSzL kTask'
  | 57 => mToL kTask'
  | 36 => mEqA kDeed
  | 29 => mSzA kDeed'
  | 32 => mToA kDeed'
  | 13 => mEqL kDeed
  | 8 => mSzL kDeed'
  | 10 => mToL kDeed'
  | 23 => mEqA kWorld
  | 19 => mSzA kWorld'
  | 21 => mToA kWorld'
  | 5 => mLaw
  | 20 => mBound
  | 22 => mBound
  | _ => fun _ _ => default

end Go.Proofs.Ytllhihloidkghaa
