/-
  Models of functions.
-/
import Derived.Test.YtpgpkomolheinaaS1
import Derived.Test.YtpgpkomolheinaaVxe
set_option linter.unusedVariables false
set_option linter.unusedSimpArgs false
namespace Go.Proofs.Ytpgpkomolheinaa
open Go.Vx

abbrev kLabel' : List K := [.str, .str]
abbrev kLabel : List K := [.str, .str]
abbrev kAlarm' : List K := [.sl 78 kLabel', .int .i64, .int .i64, .str]
abbrev kAlarm : List K := [.sl 80 kLabel, .int .i64, .int .i64, .str]
abbrev kBatch' : List K := [.int .i64, .sl 78 kLabel', .int .i64, .sl 74 kAlarm']
abbrev kBatch : List K := [.int .i64, .sl 80 kLabel, .int .i64, .sl 53 kAlarm]
abbrev kDeed' : List K := [.int .i64, .int .i64, .sl 78 kLabel', .int .i64, .int .i64, .str, .sl 78 kLabel', .int .i64, .int .i64, .int .i64, .sl 74 kAlarm', .int .i64, .int .i64, .int .i64, .int .i64]
abbrev kDeed : List K := [.int .i64, .int .i64, .sl 80 kLabel, .int .i64, .int .i64, .str, .sl 80 kLabel, .int .i64, .int .i64, .int .i64, .sl 53 kAlarm, .int .i64, .int .i64, .int .i64, .int .i64]
noncomputable def mLaw : Nat → List D → D := con (fun _ => True) fun _ _ => .bool true
noncomputable def mCp : Nat → List D → D := con (fun ds => (cell ds 0).asList.length ≤ 1048576) fun _ ds => .sl (cell ds 0).asList
/-- An alarm again; a batch again. -/
def cpAl (r : List D) : List D := [.sl (cell r 0).asList, cell r 1, cell r 2, cell r 3]
def cpBt (r : List D) : List D := [cell r 0, .sl (cell r 1).asList, cell r 2, .sl ((cell r 3).asList.flatMap fun r => [cpAl r])]
noncomputable def mCpAl : Nat → List D → D := con (fun ds => (cell (cell ds 0).row 0).asList.length ≤ 1048576) fun _ ds => .sl [cpAl (cell ds 0).row]
noncomputable def mCpAls : Nat → List D → D := con (fun ds => (cell ds 0).asList.length + sumR (szDs kAlarm) (cell ds 0).asList ≤ 1048576) fun _ ds => .sl ((cell ds 0).asList.flatMap fun r => [cpAl r])
noncomputable def mCpBt : Nat → List D → D := con (fun ds => szDs kBatch (cell ds 0).row ≤ 1048576) fun _ ds => .sl [cpBt (cell ds 0).row]
/-- The alarm, if it is of these labels. -/
def ofG (s : List (List D)) (r : List D) : List (List D) := bif eqR (eqDs kLabel) (cell r 0).asList s then [cpAl r] else []
noncomputable def mOf : Nat → List D → D := con (fun ds => (cell ds 0).asList.length + sumR (szDs kAlarm) (cell ds 0).asList ≤ 1048576) fun _ ds => .sl ((cell ds 0).asList.flatMap (ofG (cell ds 1).asList))
noncomputable def mSentOf : Nat → List D → D := con (fun ds => (cell ds 0).asList.length + sumR (szDs kBatch) (cell ds 0).asList ≤ 1048576) fun _ ds => .sl ((cell ds 0).asList.flatMap fun b => (cell b 3).asList.flatMap (ofG (cell ds 1).asList))
noncomputable def btG (n : Int) (r : List D) : List (List D) := bif tt ((cell r 0).asInt = n) then [cpBt r] else []
noncomputable def mBatchesOf : Nat → List D → D := con (fun ds => (cell ds 0).asList.length + sumR (szDs kBatch) (cell ds 0).asList ≤ 1048576) fun _ ds => .sl ((cell ds 0).asList.flatMap (btG (cell ds 1).asInt))
noncomputable def lastRow (xs : List (List D)) : List D := if xs = [] then [.sl [], .int 0, .int 0, .str ByteArray.empty] else rowN xs (xs.length - 1)
noncomputable def mLast : Nat → List D → D := con (fun ds => (mSentOf 1000 ds).asBool = true) fun c ds => if c = 0 then .sl [lastRow (mSentOf 0 ds).asList] else .bool (tt ((mSentOf 0 ds).asList ≠ []))
/-! Orders. -/
noncomputable def mSetLt : Nat → List D → D := con (fun _ => True) fun _ ds => .bool (setLt (cell ds 0).asList (cell ds 1).asList)
noncomputable def mLess : Nat → List D → D := con (fun _ => True) fun _ ds => .bool (Op.bytesLess (cell ds 0).asStr.toList (cell ds 1).asStr.toList)
/-- An alarm ahead of another. -/
def ltA (r s : List D) : Bool := setLt (cell r 0).asList (cell s 0).asList
noncomputable def mByL1 : Nat → List D → D := con (fun ds => (0 ≤ (cell ds 0).asInt ∧ (cell ds 0).asInt < (cell (cell ds 2).row 0).asList.length) ∧ 0 ≤ (cell ds 1).asInt ∧ (cell ds 1).asInt < (cell (cell ds 2).row 0).asList.length)
  fun _ ds => .bool (ltA (rowN (cell (cell ds 2).row 0).asList (cell ds 0).asInt.toNat) (rowN (cell (cell ds 2).row 0).asList (cell ds 1).asInt.toNat))
noncomputable def mByL : Nat → List D → D := con (fun _ => True) fun _ ds => .sl (stS ltA (cell ds 0).asList)
noncomputable def mSortA : Nat → List D → D := con (fun ds => (cell ds 0).asList.length + sumR (szDs kAlarm) (cell ds 0).asList ≤ 1048576) fun _ ds => .sl (stS ltA ((cell ds 0).asList.map cpAl))
/-- When the deed of this place took place. -/
def linOf (l : List (List D)) (i : Int) : Int := (cell (rowN l i.toNat) 13).asInt
def ltP (l : List (List D)) (r s : List D) : Bool := decide (linOf l (cell r 0).asInt < linOf l (cell s 0).asInt)
noncomputable def mOrd1 : Nat → List D → D := con (fun ds => let l := (cell (cell ds 2).row 0).asList; let o := (cell (cell ds 3).row 0).asList
    ((0 ≤ (cell ds 0).asInt ∧ (cell ds 0).asInt < o.length) ∧ 0 ≤ (cell ds 1).asInt ∧ (cell ds 1).asInt < o.length) ∧ ∀ r, r ∈ o → 0 ≤ (cell r 0).asInt ∧ (cell r 0).asInt < l.length)
  fun _ ds => .bool (ltP (cell (cell ds 2).row 0).asList (rowN (cell (cell ds 3).row 0).asList (cell ds 0).asInt.toNat) (rowN (cell (cell ds 3).row 0).asList (cell ds 1).asInt.toNat))
/-- The places of the deeds that took place. -/
def placesN (l : List (List D)) (n : Nat) : List (List D) := pickN (fun i => !decide (linOf l i = -1)) (fun i => [.int i]) n
def ordP (l : List (List D)) : List (List D) := stS (ltP l) (placesN l l.length)
noncomputable def mOrder : Nat → List D → D := con (fun ds => (cell ds 0).asList.length ≤ 1048576) fun _ ds => .sl (ordP (cell ds 0).asList)
/-- The last alarm of its labels. -/
noncomputable def lastAt (l : List (List D)) (i : Nat) : Bool := tt (∀ k, i < k → k < l.length → eqR (eqDs kLabel) (cell (rowN l k) 0).asList (cell (rowN l i) 0).asList = false)
noncomputable def lastsN (f : List D → List D) (l : List (List D)) (n : Nat) : List (List D) := pickN (lastAt l) (fun i => f (rowN l i)) n
noncomputable def mStands : Nat → List D → D := con (fun _ => True) fun _ ds => .int (findR (fun r => eqR (eqDs kLabel) (cell r 0).asList (cell ds 1).asList = true) (cell ds 0).asList 0)
noncomputable def mLastOf : Nat → List D → D := con (fun ds => (cell ds 0).asList.length + sumR (szDs kAlarm) (cell ds 0).asList ≤ 1048576) fun _ ds => .sl (stS ltA (lastsN cpAl (cell ds 0).asList (cell ds 0).asList.length))
def mkDd (r : List D) : List D := [cell r 0, cell r 1, cell r 2, cell r 3, cell r 4, cell r 5, cell r 6, cell r 7, cell r 8, cell r 9, cell r 10, cell r 11, cell r 12, cell r 13, cell r 14]
/-- The deed of a place. -/
def atP (l : List (List D)) (r : List D) : List D := rowN l (cell r 0).asInt.toNat
noncomputable def mOrdered : Nat → List D → D := con (fun ds => (cell ds 0).asList.length ≤ 1048576) fun _ ds => .sl ((ordP (cell ds 0).asList).map fun r => mkDd (atP (cell ds 0).asList r))
/-- It tells one that it lagged. -/
def lagR (i : Int) (r : List D) : Bool := decide ((cell r 0).asInt = 9) && decide ((cell r 7).asInt = i) && decide ((cell r 9).asInt = 7)
noncomputable def mLags : Nat → List D → D := con (fun ds => (cell ds 0).asList.length ≤ 1048576) fun _ ds => .int (((placesN (cell ds 0).asList (cell ds 0).asList.length).countP fun r => lagR (cell ds 1).asInt (atP (cell ds 0).asList r) : Nat) : Int)
/-- It made this one. -/
def bornR (n : Int) (r : List D) : Bool := decide ((cell r 0).asInt = 7) && decide ((cell r 9).asInt = 1) && decide ((cell r 8).asInt = n)
def bornIn (n : Int) : List (List D) → Int
  | [] => -1
  | r :: rs => if bornR n r = true then (cell r 11).asInt else bornIn n rs
noncomputable def mBorn : Nat → List D → D := con (fun ds => (cell ds 0).asList.length ≤ 1048576) fun _ ds => .int (bornIn (cell ds 1).asInt ((ordP (cell ds 0).asList).map (atP (cell ds 0).asList)))
/-! Some of others; laws on draws. -/
def within (p : List D → List D → Bool) : List (List D) → List (List D) → Bool
  | [], _ => true
  | _ :: _, [] => false
  | x :: xs, y :: ys => if p x y = true then within p xs ys else within p (x :: xs) ys
noncomputable def mWithin : Nat → List D → D := con (fun _ => True) fun _ ds => .bool (within (eqDs kAlarm) (cell ds 0).asList (cell ds 1).asList)
noncomputable def mBig : Nat → List D → D := con (fun _ => True) fun _ ds => .bool (tt (1048576 < ((cell ds 0).asList.length : Int)))
noncomputable def mAt : Nat → List D → D := con (fun ds => 0 ≤ (cell ds 1).asInt) fun _ ds => if (cell ds 1).asInt < (cell ds 0).asList.length then .int (IntKind.i64.wrap (cell (rowN (cell ds 0).asList (cell ds 1).asInt.toNat) 0).asInt)
  else .int ((IntKind.i64.wrap (IntKind.i64.wrap ((cell ds 1).asInt * 31) + IntKind.i64.wrap ((cell ds 0).asList.length * 7))).tmod 256)
noncomputable def Φ : Fns := fun f => match f with
  | 69 => mText
  | 68 => mEqA kLabel
  | 62 => mSzA kLabel'
  | 65 => mToA kLabel'
  | 22 => mEqL kLabel
  | 70 => mHldL kLabel
  | 24 => mMrkL kLabel
  | 18 => mSzL kLabel'
  | 20 => mToL kLabel'
  | 39 => mEqA kAlarm
  | 78 => mEqA kBatch
  | 41 => mHldA kAlarm
  | 40 => mMrkA kAlarm
  | 59 => mSzA kAlarm'
  | 76 => mSzA kBatch'
  | 61 => mToA kAlarm'
  | 77 => mToA kBatch'
  | 17 => mEqL kAlarm
  | 35 => mEqL kBatch
  | 25 => mHldL kAlarm
  | 44 => mHldL kBatch
  | 23 => mMrkL kAlarm
  | 36 => mMrkL kBatch
  | 13 => mSzL kAlarm'
  | 31 => mSzL kBatch'
  | 15 => mToL kAlarm'
  | 33 => mToL kBatch'
  | 75 => mEqA kDeed
  | 71 => mSzA kDeed'
  | 73 => mToA kDeed'
  | 30 => mEqL kDeed
  | 26 => mSzL kDeed'
  | 28 => mToL kDeed'
  | 4 => mLaw
  | 6 => mLaw
  | 8 => mLaw
  | 63 => mEqL kLabel
  | 66 => mEqL kLabel
  | 90 => mCp
  | 67 => mCpAl
  | 64 => mCpAl
  | 92 => mCpAls
  | 91 => mCpAls
  | 80 => mCpBt
  | 79 => mCpBt
  | 21 => mOf
  | 19 => mOf
  | 34 => mSentOf
  | 32 => mSentOf
  | 43 => mBatchesOf
  | 42 => mBatchesOf
  | 7 => mLaw
  | 37 => mLast
  | 38 => mLast
  | 54 => mSetLt
  | 98 => mSetLt
  | 108 => mLess
  | 97 => mByL1
  | 109 => mOrd1
  | 86 => mByL
  | 87 => mSortA
  | 99 => mOrder
  | 89 => mOrder
  | 85 => mStands
  | 49 => mLastOf
  | 51 => mLastOf
  | 12 => mLaw
  | 88 => mOrdered
  | 56 => mLags
  | 55 => mLags
  | 58 => mBorn
  | 57 => mBorn
  | 10 => mLaw
  | 11 => mLaw
  | 60 => mEqA kAlarm
  | 53 => mEqA kAlarm
  | 14 => mWithin
  | 16 => mWithin
  | 45 => mBig
  | 50 => mEqL kAlarm
  | 52 => mAt
  | _ => fun _ _ => default

end Go.Proofs.Ytpgpkomolheinaa

