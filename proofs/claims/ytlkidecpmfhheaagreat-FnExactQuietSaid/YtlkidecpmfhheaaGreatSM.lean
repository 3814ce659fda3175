import Derived.Test.YtlkidecpmfhheaaGreatS1a
import Derived.Test.YtlkidecpmfhheaaGreatS1b
import Derived.Test.YtlkidecpmfhheaaGreatS1c
import Derived.Test.YtlkidecpmfhheaaGreatS1d
import Derived.Test.YtlkidecpmfhheaaGreatVxe
import Derived.Test.YtlkidecpmfhheaaGreatVxf
import Derived.Test.YtlkidecpmfhheaaGreatVxd
set_option linter.all false
namespace Go.Proofs.YtlkidecpmfhheaaGreat
open Go.Vx
abbrev kLabel' : List K := [.str, .str]
abbrev kAlarm' : List K := [.sl 238 kLabel', .int .i64, .int .i64, .str]
abbrev kChain' : List K := [.int .i64, .sl 114 kAlarm']
abbrev kPart' : List K := [.int .i64, .int .i64, .sl 236 kChain']
abbrev kSub' : List K := [.sl 114 kAlarm', .bool]
abbrev kGroup' : List K := [.int .i64, .sl 238 kLabel', .int .i64, .int .i64, .sl 114 kAlarm']
abbrev kTimer' : List K := [.int .i64, .int .i64]
abbrev kBatch' : List K := [.int .i64, .sl 238 kLabel', .int .i64, .sl 114 kAlarm']
abbrev kTask' : List K := [.int .i64, .int .i64, .sl 238 kLabel', .int .i64, .int .i64, .str, .sl 238 kLabel', .int .i64, .sl 3 [.int .i64], .sl 114 kAlarm', .int .i64, .int .i64]
abbrev kDeed' : List K := [.int .i64, .int .i64, .sl 238 kLabel', .int .i64, .int .i64, .str, .sl 238 kLabel', .int .i64, .int .i64, .int .i64, .sl 114 kAlarm', .int .i64, .int .i64, .int .i64, .int .i64]
abbrev kLabel : List K := [.str, .str]
abbrev kAlarm : List K := [.sl 220 kLabel, .int .i64, .int .i64, .str]
abbrev kChain : List K := [.int .i64, .sl 135 kAlarm]
abbrev kPart : List K := [.int .i64, .int .i64, .sl 218 kChain]
abbrev kSub : List K := [.sl 135 kAlarm, .bool]
abbrev kGroup : List K := [.int .i64, .sl 220 kLabel, .int .i64, .int .i64, .sl 135 kAlarm]
abbrev kTimer : List K := [.int .i64, .int .i64]
abbrev kBatch : List K := [.int .i64, .sl 220 kLabel, .int .i64, .sl 135 kAlarm]
abbrev kTask : List K := [.int .i64, .int .i64, .sl 220 kLabel, .int .i64, .int .i64, .str, .sl 220 kLabel, .int .i64, .sl 3 [.int .i64], .sl 135 kAlarm, .int .i64, .int .i64]
abbrev kDeed : List K := [.int .i64, .int .i64, .sl 220 kLabel, .int .i64, .int .i64, .str, .sl 220 kLabel, .int .i64, .int .i64, .int .i64, .sl 135 kAlarm, .int .i64, .int .i64, .int .i64, .int .i64]
abbrev kConf' : List K := [.int .i64, .int .i64, .int .i64, .int .i64, .int .i64, .sl 9 [.str]]
abbrev kConf : List K := [.int .i64, .int .i64, .int .i64, .int .i64, .int .i64, .sl 9 [.str]]
abbrev kWorld' : List K := [.int .i64, .int .i64, .int .i64, .int .i64, .int .i64, .sl 9 [.str], .int .i64, .int .i64, .sl 107 kPart', .sl 110 kSub', .sl 114 kAlarm', .int .i64, .sl 117 kGroup', .int .i64, .sl 155 kTimer', .sl 120 kBatch', .sl 114 kAlarm', .sl 123 kTask', .sl 126 kDeed']
abbrev kWorld : List K := [.int .i64, .int .i64, .int .i64, .int .i64, .int .i64, .sl 9 [.str], .int .i64, .int .i64, .sl 147 kPart, .sl 132 kSub, .sl 135 kAlarm, .int .i64, .sl 152 kGroup, .int .i64, .sl 143 kTimer, .sl 157 kBatch, .sl 135 kAlarm, .sl 141 kTask, .sl 137 kDeed]
noncomputable def mLaw : Nat → List D → D := con (fun _ => True) fun _ _ => .bool true
noncomputable def mCp : Nat → List D → D := con (fun ds => (cell ds 0).asList.length ≤ 1048576) fun _ ds => .sl (cell ds 0).asList
def cpAl (r : List D) : List D := [.sl (cell r 0).asList, cell r 1, cell r 2, cell r 3]
noncomputable def mCpAl : Nat → List D → D := con (fun ds => (cell (cell ds 0).row 0).asList.length ≤ 1048576) fun _ ds => .sl [cpAl (cell ds 0).row]
noncomputable def mCpAls : Nat → List D → D := con (fun ds => (cell ds 0).asList.length + sumR (szDs kAlarm) (cell ds 0).asList ≤ 1048576) fun _ ds => .sl ((cell ds 0).asList.flatMap fun r => [cpAl r])
noncomputable def joinA (w : List D) : List (List D) := bif tt (3 < (cell w 17).asList.length ∧ (cell (rowN (cell w 17).asList 3) 0).asInt = 5) then [cpAl [cell (rowN (cell w 17).asList 3) 2, cell (rowN (cell w 17).asList 3) 3, cell (rowN (cell w 17).asList 3) 4, cell (rowN (cell w 17).asList 3) 5]] else []
noncomputable def mFeedOf : Nat → List D → D := con (fun ds => szDs kWorld (cell ds 0).row ≤ 1048576) fun _ ds => .sl (joinA (cell ds 0).row ++ (cell (cell ds 0).row 10).asList.flatMap fun r => [cpAl r])
noncomputable def mSetLt : Nat → List D → D := con (fun _ => True) fun _ ds => .bool (setLt (cell ds 0).asList (cell ds 1).asList)
noncomputable def mLess : Nat → List D → D := con (fun _ => True) fun _ ds => .bool (Op.bytesLess (cell ds 0).asStr.toList (cell ds 1).asStr.toList)
def ltA (r s : List D) : Bool := setLt (cell r 0).asList (cell s 0).asList
noncomputable def mByL1 : Nat → List D → D := con (fun ds => (0 ≤ (cell ds 0).asInt ∧ (cell ds 0).asInt < (cell (cell ds 2).row 0).asList.length) ∧ 0 ≤ (cell ds 1).asInt ∧ (cell ds 1).asInt < (cell (cell ds 2).row 0).asList.length)
 fun _ ds => .bool (ltA (rowN (cell (cell ds 2).row 0).asList (cell ds 0).asInt.toNat) (rowN (cell (cell ds 2).row 0).asList (cell ds 1).asInt.toNat))
noncomputable def mByL : Nat → List D → D := con (fun _ => True) fun _ ds => .sl (stS ltA (cell ds 0).asList)
noncomputable def mSortA : Nat → List D → D := con (fun ds => (cell ds 0).asList.length + sumR (szDs kAlarm) (cell ds 0).asList ≤ 1048576) fun _ ds => .sl (stS ltA ((cell ds 0).asList.map cpAl))
noncomputable def mAlIn : Nat → List D → D := con (fun ds => szDs kPart (cell ds 0).row ≤ 1048576) fun _ ds => .sl ((cell (cell ds 0).row 2).asList.flatMap fun c => (cell c 1).asList.flatMap fun r => [cpAl r])
def partA (p : List D) : List (List D) := (cell p 2).asList.flatMap fun c => (cell c 1).asList.flatMap fun r => [cpAl r]
def allSt (l : List (List D)) : List (List D) := stS ltA (l.flatMap partA)
noncomputable def mAllA : Nat → List D → D := con (fun ds => (cell ds 0).asList.length + sumR (szDs kPart) (cell ds 0).asList ≤ 1048576) fun _ ds => .sl (allSt (cell ds 0).asList)
noncomputable def feedW (w : List D) : List (List D) := joinA w ++ (cell w 10).asList.flatMap fun r => [cpAl r]
noncomputable def agreesB (w m : List D) : Bool := eqDs kConf w m && tt ((cell w 13).asInt = (cell m 10).asInt) && eqR (eqDs kSub) (cell w 9).asList (cell m 7).asList && eqR (eqDs kGroup) (cell w 12).asList (cell m 9).asList && eqR (eqDs kAlarm) (allSt (cell w 8).asList) (cell m 6).asList && eqR (eqDs kAlarm) (feedW w) (cell m 8).asList
noncomputable def mAgrees : Nat → List D → D := con (fun ds => szDs kWorld (cell ds 0).row ≤ 1048576) fun _ ds => .bool (agreesB (cell ds 0).row (cell ds 1).row)
noncomputable def mB (p : List D → Prop) : Nat → List D → D := con (fun _ => True) fun _ ds => .bool (tt (p ds))
def byte (s : ByteArray) (i : Nat) : Nat := (s.toList[i]?.getD 0).toNat
def NameB (s : ByteArray) (i : Nat) : Prop := 97 ≤ byte s i ∧ byte s i ≤ 122
def PlainB (s : ByteArray) (i : Nat) : Prop := 32 ≤ byte s i ∧ byte s i ≤ 126 ∧ byte s i ≠ 34 ∧ byte s i ≠ 92
def NameOk (s : ByteArray) : Prop := (1 ≤ s.size ∧ s.size ≤ 8) ∧ ∀ i, i < s.size → NameB s i
def PlainOk (s : ByteArray) : Prop := s.size ≤ 12 ∧ ∀ i, i < s.size → PlainB s i
def LabOk (r : List D) : Prop := NameOk (cell r 0).asStr ∧ PlainOk (cell r 1).asStr
def SetAt (xs : List (List D)) (i : Nat) : Prop := LabOk (rowN xs i) ∧ (0 < i → Op.bytesLess (cell (rowN xs (i - 1)) 0).asStr.toList (cell (rowN xs i) 0).asStr.toList = true)
def SetOk (xs : List (List D)) : Prop := xs.length ≤ 4 ∧ ∀ i, i < xs.length → SetAt xs i
def AlOk (r : List D) : Prop := (SetOk (cell r 0).asList ∧ 0 < (cell r 0).asList.length) ∧ (0 ≤ (cell r 1).asInt ∧ (cell r 1).asInt ≤ 99999) ∧ ((cell r 1).asInt ≤ (cell r 2).asInt ∧ (cell r 2).asInt ≤ 99999) ∧ PlainOk (cell r 3).asStr
def labB (r : List D) : ByteArray := (cell r 0).asStr ++ ⟨#[61, 34]⟩ ++ (cell r 1).asStr ++ ⟨#[34]⟩
noncomputable def setB (xs : List (List D)) : ByteArray := ⟨#[123]⟩ ++ joinB (xs.map labB) ⟨#[44, 32]⟩ ++ ⟨#[125]⟩
noncomputable def setT (xs : List (List D)) : ByteArray := bif tt (SetOk xs) then setB xs else ⟨#[]⟩
noncomputable def mSetT : Nat → List D → D := con (fun _ => True) fun _ ds => .str (setT (cell ds 0).asList)
noncomputable def hasB (l : List (List D)) (s : ByteArray) : Bool := tt (∃ j, j < l.length ∧ (cell (rowN l j) 0).asStr = s)
noncomputable def mHas : Nat → List D → D := con (fun _ => True) fun _ ds => .bool (hasB (cell ds 0).asList (cell ds 1).asStr)
noncomputable def projL (xs names : List (List D)) : List (List D) := (xs.filter fun r => hasB names (cell r 0).asStr).map fun r => [cell r 0, cell r 1]
noncomputable def mProject : Nat → List D → D := con (fun ds => (cell ds 0).asList.length ≤ 1048576) fun _ ds => .sl (projL (cell ds 0).asList (cell ds 1).asList)
noncomputable def mKeyOf : Nat → List D → D := con (fun ds => (cell (cell ds 0).row 0).asList.length ≤ 1048576) fun _ ds => .sl (projL (cell (cell ds 0).row 0).asList (cell ds 1).asList)
noncomputable def mStands : Nat → List D → D := con (fun _ => True) fun _ ds => .int (findR (fun r => eqR (eqDs kLabel) (cell r 0).asList (cell ds 1).asList = true) (cell ds 0).asList 0)
def apart (l : List (List D)) : Prop := ∀ k, k < l.length → ∀ m, m < k → eqR (eqDs kLabel) (cell (rowN l m) 0).asList (cell (rowN l k) 0).asList = false
noncomputable def mApart : Nat → List D → D := con (fun _ => True) fun _ ds => .bool (tt (apart (cell ds 0).asList))
def In (a b c : Int) : Prop := b ≤ a ∧ a ≤ c
def InOrd (xs : List (List D)) : Prop := ∀ i, i < xs.length → 0 < i → Op.bytesLess (cell (rowN xs (i - 1)) 0).asStr.toList (cell (rowN xs i) 0).asStr.toList = true
def ByP (xs : List (List D)) : Prop := (∀ i, i < xs.length → NameOk (cell (rowN xs i) 0).asStr) ∧ xs.length ≤ 2 ∧ InOrd xs
def ConfP (r : List D) : Prop := In (cell r 0).asInt 1 3 ∧ In (cell r 1).asInt 1 8 ∧ In (cell r 2).asInt 1 2 ∧ In (cell r 3).asInt 1 9 ∧ In (cell r 4).asInt 1 9 ∧ ByP (cell r 5).asList
def hstep (h : Nat) (b : UInt8) : Nat := (h ^^^ b.toNat) * 16777619 % 4294967296
def hashN (l : List UInt8) : Nat := l.foldl hstep 2166136261
noncomputable def mSum : Nat → List D → D := con (fun _ => True) fun _ ds => .int (hashN (lby (cell ds 0).asStr))
def fingN (h : Nat) : Nat := (h ^^^ h / 65536) % 32
noncomputable def fing (xs : List (List D)) : Int := (fingN (hashN (lby (setT xs))) : Nat)
noncomputable def mFing : Nat → List D → D := con (fun _ => True) fun _ ds => .int (fing (cell ds 0).asList)
noncomputable def partOf (f n : Int) : Int := bif tt (n < 1 ∨ f < 0) then 0 else f.tmod n
noncomputable def mPartOf : Nat → List D → D := con (fun _ => True) fun _ ds => .int (partOf (cell ds 0).asInt (cell ds 1).asInt)
def ChainP (c : List D) : Prop := 0 < (cell c 1).asList.length ∧ (∀ i, i < (cell c 1).asList.length → AlOk (rowN (cell c 1).asList i) ∧ fing (cell (rowN (cell c 1).asList i) 0).asList = (cell c 0).asInt) ∧ apart (cell c 1).asList
def PartP (p : List D) (i n : Int) : Prop := (∀ k, k < (cell p 2).asList.length → ChainP (rowN (cell p 2).asList k) ∧ partOf (cell (rowN (cell p 2).asList k) 0).asInt n = i ∧ (0 < k → (cell (rowN (cell p 2).asList (k - 1)) 0).asInt < (cell (rowN (cell p 2).asList k) 0).asInt)) ∧ In (cell p 0).asInt (-1) 4 ∧ 0 ≤ (cell p 1).asInt
def StoreP (l : List (List D)) : Prop := In l.length 1 3 ∧ ∀ i, i < l.length → PartP (rowN l i) i l.length
def FitsP (a : List D) : Prop := AlOk a ∧ (cell a 2).asInt ≤ 99899
def cntS (l : List (List D)) : Nat := sumR (fun p => sumR (fun c => (cell c 1).asList.length) (cell p 2).asList) l
noncomputable def mCnt : Nat → List D → D := con (fun ds => (cell ds 0).asList.length + sumR (szDs kPart) (cell ds 0).asList ≤ 1048576) fun _ ds => .int (cntS (cell ds 0).asList)
def StoreR (w : List D) : Prop := StoreP (cell w 8).asList ∧ ((cell w 8).asList.length : Int) = (cell w 0).asInt ∧ (cntS (cell w 8).asList : Int) ≤ (cell w 1).asInt ∧ ∀ i, i < (allSt (cell w 8).asList).length → FitsP (rowN (allSt (cell w 8).asList) i)
def AlsP (l : List (List D)) : Prop := ∀ i, i < l.length → AlOk (rowN l i)
def SubP (s : List D) : Prop := ((cell s 1).asBool = true → (cell s 0).asList.length = 0) ∧ (cell s 0).asList.length ≤ 3 ∧ AlsP (cell s 0).asList
def SubsR (l : List (List D)) (n : Int) : Prop := (∀ i, i < l.length → SubP (rowN l i)) ∧ (l.length : Int) = n
def codeP (op c : Int) : Prop := (op = 1 → In c 1 4) ∧ (op = 3 → In c 5 6) ∧ (op = 7 → In c 1 3) ∧ (op = 8 → c = 8 ∨ c = 6) ∧ (op = 9 → In c 5 7) ∧ (op ≠ 1 → op ≠ 3 → op ≠ 7 → op ≠ 8 → op ≠ 9 → c = 8)
def DeedP (d : List D) : Prop := In (cell d 0).asInt 1 9 ∧ In (cell d 1).asInt (-1) 4 ∧ 0 ≤ (cell d 12).asInt ∧ 0 ≤ (cell d 7).asInt ∧ 0 ≤ (cell d 8).asInt ∧ 0 ≤ (cell d 11).asInt ∧
 ((cell d 13).asInt = -1 → (cell d 14).asInt = -1 ∧ (cell d 9).asInt = 0) ∧ ((cell d 13).asInt ≠ -1 → (cell d 12).asInt ≤ (cell d 13).asInt ∧ ((cell d 14).asInt = -1 ∨ (cell d 13).asInt ≤ (cell d 14).asInt) ∧ codeP (cell d 0).asInt (cell d 9).asInt)
def zeroA (a b c d : D) : Prop := a.asList.length = 0 ∧ b.asInt = 0 ∧ c.asInt = 0 ∧ d.asStr = ⟨#[]⟩
def bareT (t : List D) : Prop := (cell t 7).asInt = 0 ∧ (cell t 8).asList.length = 0 ∧ (cell t 9).asList.length = 0
def seenP (t : List D) : Prop := (∀ i, i < (cell t 8).asList.length → 0 ≤ (cell (rowN (cell t 8).asList i) 0).asInt) ∧ ((cell t 1).asInt = 2 → In (cell t 8).asList.length 1 3 ∧ (cell t 7).asInt = (cell t 8).asList.length) ∧ ((cell t 1).asInt ≠ 2 → ((cell t 8).asList.length : Int) = (cell t 7).asInt ∧ (cell t 7).asInt ≤ 2)
def taskA (t : List D) : List D := [cell t 2, cell t 3, cell t 4, cell t 5]
def TaskP (t : List D) (k : Int) : Prop := 0 ≤ (cell t 11).asInt ∧ In (cell t 1).asInt 0 2 ∧ In k 0 4 ∧ AlsP (cell t 9).asList ∧ 0 ≤ (cell t 7).asInt ∧ 0 ≤ (cell t 10).asInt ∧ In (cell t 0).asInt 0 6 ∧
 ((cell t 0).asInt = 0 → (cell t 1).asInt = 0 ∧ zeroA (cell t 2) (cell t 3) (cell t 4) (cell t 5) ∧ (cell t 6).asList.length = 0 ∧ bareT t ∧ (cell t 10).asInt = 0 ∧ (cell t 11).asInt = 0) ∧
 ((cell t 0).asInt = 1 → k < 3 ∧ AlOk (taskA t) ∧ (cell t 6).asList.length = 0 ∧ bareT t ∧ (cell t 10).asInt = 0) ∧
 ((cell t 0).asInt = 2 → k < 3 ∧ (cell t 1).asInt < 2 ∧ zeroA (cell t 2) (cell t 3) (cell t 4) (cell t 5) ∧ SetOk (cell t 6).asList ∧ bareT t ∧ (cell t 10).asInt = 0) ∧
 ((cell t 0).asInt = 3 → k < 3 ∧ zeroA (cell t 2) (cell t 3) (cell t 4) (cell t 5) ∧ (cell t 6).asList.length = 0 ∧ (cell t 10).asInt = 0 ∧ seenP t) ∧
 ((cell t 0).asInt = 4 → k < 3 ∧ (cell t 1).asInt < 2 ∧ zeroA (cell t 2) (cell t 3) (cell t 4) (cell t 5) ∧ (cell t 6).asList.length = 0 ∧ (cell t 10).asInt = 0 ∧ (cell t 7).asInt ≤ 2 ∧ (cell t 8).asList.length = 0 ∧ (cell t 9).asList.length = 0) ∧
 ((cell t 0).asInt = 5 → k = 3 ∧ (cell t 1).asInt < 2 ∧ AlOk (taskA t) ∧ (cell t 6).asList.length = 0 ∧ bareT t ∧ (cell t 10).asInt = 0) ∧
 ((cell t 0).asInt = 6 → k = 4 ∧ (cell t 1).asInt < 2 ∧ zeroA (cell t 2) (cell t 3) (cell t 4) (cell t 5) ∧ (cell t 6).asList.length = 0 ∧ bareT t)
noncomputable def holdsT (t : List D) (n : Int) : Int := bif tt (n < 1) then -1 else bif tt ((cell t 0).asInt = 1 ∧ ((cell t 1).asInt = 1 ∨ (cell t 1).asInt = 2)) then partOf (fing (cell t 2).asList) n else
 bif tt ((cell t 0).asInt = 2 ∧ (cell t 1).asInt = 1) then partOf (fing (cell t 6).asList) n else bif tt (((cell t 0).asInt = 3 ∨ (cell t 0).asInt = 4) ∧ (cell t 1).asInt = 1) then (cell t 7).asInt else -1
noncomputable def mHolds : Nat → List D → D := con (fun _ => True) fun _ ds => .int (holdsT (cell ds 0).row (cell ds 1).asInt)
def HoldsG (t : List D) : Prop := ((cell t 0).asInt = 5 ∨ (cell t 0).asInt = 6) ∧ (cell t 1).asInt = 1
def dueI (born last wait every : Int) : Int := IntKind.i64.wrap (if last = -1 then born + wait else last + every)
def Bef (a b : List D) : Prop := (cell a 0).asInt < (cell b 0).asInt ∨ (cell a 0).asInt = (cell b 0).asInt ∧ (cell a 1).asInt < (cell b 1).asInt
def HeapP (l : List (List D)) : Prop := l.length ≤ 16 ∧ ∀ i, i < l.length → 0 ≤ (cell (rowN l i) 0).asInt ∧ 0 ≤ (cell (rowN l i) 1).asInt ∧ (0 < i → ¬ Bef (rowN l i) (rowN l ((i - 1) / 2)))
def GroupP (g : List D) (by' : List (List D)) : Prop := 0 ≤ (cell g 0).asInt ∧ SetOk (cell g 1).asList ∧ In (cell g 2).asInt 0 99999 ∧ ((cell g 3).asInt = -1 ∨ In (cell g 3).asInt (cell g 2).asInt 99999) ∧ 0 < (cell g 4).asList.length ∧
 ∀ i, i < (cell g 4).asList.length → AlOk (rowN (cell g 4).asList i) ∧ eqR (eqDs kLabel) (projL (cell (rowN (cell g 4).asList i) 0).asList by') (cell g 1).asList = true ∧ (0 < i → setLt (cell (rowN (cell g 4).asList (i - 1)) 0).asList (cell (rowN (cell g 4).asList i) 0).asList = true)
def GroupsP (l : List (List D)) (by' : List (List D)) : Prop := l.length ≤ 12 ∧ ∀ i, i < l.length → GroupP (rowN l i) by' ∧ (0 < i → (cell (rowN l (i - 1)) 0).asInt < (cell (rowN l i) 0).asInt) ∧ ∀ k, k < i → eqR (eqDs kLabel) (cell (rowN l k) 1).asList (cell (rowN l i) 1).asList = false
noncomputable def mCodes : Nat → List D → D := con (fun _ => True) fun _ ds => .sl (bif tt ((cell ds 0).asInt = 1) then [[.int 1], [.int 2], [.int 3], [.int 4]] else bif tt ((cell ds 0).asInt = 3) then [[.int 5], [.int 6]] else bif tt ((cell ds 0).asInt = 7) then [[.int 1], [.int 2], [.int 3]] else bif tt ((cell ds 0).asInt = 8) then [[.int 8], [.int 6]] else bif tt ((cell ds 0).asInt = 9) then [[.int 5], [.int 6], [.int 7]] else [[.int 8]])
noncomputable def mHasI : Nat → List D → D := con (fun _ => True) fun _ ds => .bool (tt (∃ j, j < (cell ds 0).asList.length ∧ (cell (rowN (cell ds 0).asList j) 0).asInt = (cell ds 1).asInt))
def snapP (t : List D) : Prop := (∀ i, i < (cell t 8).asList.length → 0 ≤ (cell (rowN (cell t 8).asList i) 0).asInt) ∧ ((cell t 8).asList.length : Int) = (cell t 7).asInt ∧ AlsP (cell t 9).asList ∧ ((cell t 1).asInt = 2 → In (cell t 7).asInt 1 3) ∧ ((cell t 1).asInt ≠ 2 → In (cell t 7).asInt 0 2)
noncomputable def chainAt (p : List D) (f : Int) : Int := findR (fun c => (cell c 0).asInt = f) (cell p 2).asList 0
noncomputable def inCh (l s : List (List D)) : Int := findR (fun r => eqR (eqDs kLabel) (cell r 0).asList s = true) l 0
noncomputable def findIn (p : List D) (s : List (List D)) : List D × Bool := bif tt (chainAt p (fing s) < 0) then ([.sl [], .int 0, .int 0, .str ⟨#[]⟩], false) else
 bif tt (inCh (cell (rowN (cell p 2).asList (chainAt p (fing s)).toNat) 1).asList s < 0) then ([.sl [], .int 0, .int 0, .str ⟨#[]⟩], false) else
 (cpAl (rowN (cell (rowN (cell p 2).asList (chainAt p (fing s)).toNat) 1).asList (inCh (cell (rowN (cell p 2).asList (chainAt p (fing s)).toNat) 1).asList s).toNat), true)
noncomputable def findA (l s : List (List D)) : List D × Bool := bif tt (l.length = 0) then ([.sl [], .int 0, .int 0, .str ⟨#[]⟩], false) else findIn (rowN l (partOf (fing s) l.length).toNat) s
noncomputable def mFindIn : Nat → List D → D := con (fun ds => (cell ds 1).asList.length ≤ 1048576) fun c ds => if c = 0 then .sl [(findIn (cell ds 0).row (cell ds 1).asList).1] else .bool (findIn (cell ds 0).row (cell ds 1).asList).2
noncomputable def mFindA : Nat → List D → D := con (fun ds => (cell ds 1).asList.length ≤ 1048576) fun c ds => if c = 0 then .sl [(findA (cell ds 0).asList (cell ds 1).asList).1] else .bool (findA (cell ds 0).asList (cell ds 1).asList).2
noncomputable def mChainAt : Nat → List D → D := con (fun _ => True) fun _ ds => .int (chainAt (cell ds 0).row (cell ds 1).asInt)
noncomputable def mInCh : Nat → List D → D := con (fun _ => True) fun _ ds => .int (inCh (cell (cell ds 0).row 1).asList (cell ds 1).asList)
noncomputable def mHome : Nat → List D → D := con (fun _ => True) fun _ ds => .int (partOf (fing (cell ds 1).asList) (cell ds 0).asList.length)
def seenW (w t : List D) : Prop := (∀ i, i < (cell t 8).asList.length → (cell (rowN (cell t 8).asList i) 0).asInt ≤ (cell (rowN (cell w 8).asList i) 1).asInt) ∧
 ((∀ i, i < (cell t 8).asList.length → (cell (rowN (cell t 8).asList i) 0).asInt = (cell (rowN (cell w 8).asList i) 1).asInt) → eqR (eqDs kAlarm) (cell t 9).asList (((cell w 8).asList.take (cell t 8).asList.length).flatMap partA) = true)
noncomputable def mSeenW : Nat → List D → D := con (fun ds => szDs kWorld (cell ds 0).row ≤ 1048576 ∧ (cell (cell ds 1).row 8).asList.length ≤ (cell (cell ds 0).row 8).asList.length) fun _ ds => .bool (tt (seenW (cell ds 0).row (cell ds 1).row))
def deedOp (n : Int) : Int := if n = 1 then 1 else if n = 2 then 3 else if n = 3 then 4 else if n = 4 then 6 else if n = 5 then 7 else if n = 6 then 8 else 0
noncomputable def mDeedOp : Nat → List D → D := con (fun ds => In (cell ds 0).asInt 0 6) fun _ ds => .int (deedOp (cell ds 0).asInt)
noncomputable def eqA (a b : List D) : Prop := eqDs kAlarm a b = true
noncomputable def eqS (a b : List (List D)) : Prop := eqR (eqDs kLabel) a b = true
def deedF (w t d : List D) : Prop := ((cell t 0).asInt = 1 → (cell t 1).asInt = 2 → (findA (cell w 8).asList (cell t 2).asList).2 = true ∧ eqA (findA (cell w 8).asList (cell t 2).asList).1 (taskA t) ∧ eqS (cell d 2).asList (cell t 2).asList) ∧
 ((cell t 0).asInt = 1 → (cell t 1).asInt ≠ 2 → eqA (taskA d) (taskA t) ∧ FitsP (taskA t)) ∧ ((cell t 0).asInt = 2 → eqS (cell d 6).asList (cell t 6).asList) ∧
 (((cell t 0).asInt = 3 ∨ (cell t 0).asInt = 4) → ((cell t 1).asInt = 2 → ((cell t 8).asList.length : Int) = (cell w 0).asInt) ∧ ((cell t 1).asInt ≠ 2 → (cell t 7).asInt < (cell w 0).asInt) ∧ seenW w t) ∧
 ((cell t 0).asInt = 5 → eqA (taskA d) (taskA t)) ∧ ((cell t 0).asInt = 6 → (cell d 8).asInt = (cell t 10).asInt ∧ (cell t 10).asInt < (cell w 13).asInt)
def taskW (w : List D) (k : Nat) : Prop := TaskP (rowN (cell w 17).asList k) k ∧ ((cell (rowN (cell w 17).asList k) 0).asInt ≠ 0 → (cell (rowN (cell w 17).asList k) 11).asInt < (cell w 18).asList.length ∧
 (cell (rowN (cell w 18).asList (cell (rowN (cell w 17).asList k) 11).asInt.toNat) 1).asInt = k ∧ (cell (rowN (cell w 18).asList (cell (rowN (cell w 17).asList k) 11).asInt.toNat) 14).asInt = -1 ∧
 (cell (rowN (cell w 18).asList (cell (rowN (cell w 17).asList k) 11).asInt.toNat) 0).asInt = deedOp (cell (rowN (cell w 17).asList k) 0).asInt ∧
 ((cell (rowN (cell w 18).asList (cell (rowN (cell w 17).asList k) 11).asInt.toNat) 13).asInt ≠ -1 ↔ (cell (rowN (cell w 17).asList k) 0).asInt = 1 ∧ (cell (rowN (cell w 17).asList k) 1).asInt = 2) ∧
 deedF w (rowN (cell w 17).asList k) (rowN (cell w 18).asList (cell (rowN (cell w 17).asList k) 11).asInt.toNat))
def deedsW (w : List D) : Prop := ∀ i, i < (cell w 18).asList.length → DeedP (rowN (cell w 18).asList i) ∧ (cell (rowN (cell w 18).asList i) 12).asInt < (cell w 6).asInt ∧ (cell (rowN (cell w 18).asList i) 13).asInt < (cell w 6).asInt ∧ (cell (rowN (cell w 18).asList i) 14).asInt < (cell w 6).asInt
noncomputable def partAtT (t : List D) (n : Int) (at' : Bool) : Int := bif tt (n < 1) then -1 else bif !at' then -1 else bif tt ((cell t 0).asInt = 1) then partOf (fing (cell t 2).asList) n else bif tt ((cell t 0).asInt = 2) then partOf (fing (cell t 6).asList) n else bif tt ((cell t 0).asInt = 3 ∨ (cell t 0).asInt = 4) then (cell t 7).asInt else -1
noncomputable def mPartAt : Nat → List D → D := con (fun _ => True) fun _ ds => .int (partAtT (cell ds 0).row (cell ds 1).asInt (cell ds 2).asBool)
def keyedP (l key by' : List (List D)) : Prop := ∀ i, i < l.length → AlOk (rowN l i) ∧ eqR (eqDs kLabel) (projL (cell (rowN l i) 0).asList by') key = true ∧ (0 < i → setLt (cell (rowN l (i - 1)) 0).asList (cell (rowN l i) 0).asList = true)
noncomputable def mGroupOf : Nat → List D → D := con (fun _ => True) fun _ ds => .int (findR (fun g => eqR (eqDs kLabel) (cell g 1).asList (cell ds 1).asList = true) (cell ds 0).asList 0)
noncomputable def mNextDue : Nat → List D → D := con (fun _ => True) fun _ ds => .int (dueI (cell (cell ds 0).row 2).asInt (cell (cell ds 0).row 3).asInt (cell ds 1).asInt (cell ds 2).asInt)
noncomputable def mDue : Nat → List D → D := con (fun _ => True) fun _ ds => .int (dueI (cell (cell ds 1).row 2).asInt (cell (cell ds 1).row 3).asInt (cell (cell ds 0).row 3).asInt (cell (cell ds 0).row 4).asInt)
def snapF (w t : List D) : Prop := ((cell t 1).asInt = 2 → ((cell t 8).asList.length : Int) = (cell w 0).asInt) ∧ ((cell t 1).asInt ≠ 2 → (cell t 7).asInt < (cell w 0).asInt) ∧ seenW w t
noncomputable def mBw (q : List D → Prop) (p : List D → Prop) : Nat → List D → D := con (fun ds => szDs kWorld (cell ds 0).row ≤ 1048576 ∧ q ds) fun _ ds => .bool (tt (p ds))
def busyN (w : List D) : Nat := sumR (fun t => if (cell t 0).asInt = 0 then 0 else 1) (cell w 17).asList
noncomputable def mBusy : Nat → List D → D := con (fun _ => True) fun _ ds => .int (busyN (cell ds 0).row)
def RipeP (w : List D) : Prop := 0 < (cell w 14).asList.length ∧ (cell (rowN (cell w 14).asList 0) 0).asInt ≤ (cell w 7).asInt
def partsP (w : List D) : Prop := ((cell w 8).asList.length : Int) = (cell w 0).asInt
def heldP (w : List D) : Prop := (cell w 17).asList.length = 5 ∧ (∀ i, i < (cell w 8).asList.length → In (cell (rowN (cell w 8).asList i) 0).asInt (-1) 4) ∧ ∀ k, k < 5 → holdsT (rowN (cell w 17).asList k) (cell w 8).asList.length < (cell w 8).asList.length
def locksP (w : List D) : Prop := (∀ i, i < (cell w 8).asList.length → ∀ k, k < (cell w 17).asList.length → (holdsT (rowN (cell w 17).asList k) (cell w 8).asList.length = (i : Int) ↔ (cell (rowN (cell w 8).asList i) 0).asInt = (k : Int))) ∧
 (∀ k, k < (cell w 17).asList.length → (HoldsG (rowN (cell w 17).asList k) ↔ (cell w 11).asInt = (k : Int))) ∧ In (cell w 11).asInt (-1) 4
def timedP (w g : List D) : Prop := ((cell (rowN (cell w 17).asList 4) 0).asInt = 6 ∧ (cell (rowN (cell w 17).asList 4) 10).asInt = (cell g 0).asInt) ∨ ∃ j, j < (cell w 14).asList.length ∧ (cell (rowN (cell w 14).asList j) 1).asInt = (cell g 0).asInt ∧ (cell (rowN (cell w 14).asList j) 0).asInt = dueI (cell g 2).asInt (cell g 3).asInt (cell w 3).asInt (cell w 4).asInt
def groupsW (w : List D) : Prop := GroupsP (cell w 12).asList (cell w 5).asList ∧ HeapP (cell w 14).asList ∧
 (∀ i, i < (cell w 14).asList.length → (cell (rowN (cell w 14).asList i) 1).asInt < (cell w 13).asInt ∧ ∀ k, k < i → (cell (rowN (cell w 14).asList k) 1).asInt ≠ (cell (rowN (cell w 14).asList i) 1).asInt) ∧
 ∀ i, i < (cell w 12).asList.length → timedP w (rowN (cell w 12).asList i) ∧ (cell (rowN (cell w 12).asList i) 2).asInt ≤ (cell w 7).asInt ∧ (cell (rowN (cell w 12).asList i) 3).asInt ≤ (cell w 7).asInt ∧ (cell (rowN (cell w 12).asList i) 0).asInt < (cell w 13).asInt
def tasksW (w : List D) : Prop := ∀ k, k < (cell w 17).asList.length → taskW w k
def WorldP (w : List D) : Prop := ConfP w ∧ 0 ≤ (cell w 6).asInt ∧ 0 ≤ (cell w 13).asInt ∧ In (cell w 7).asInt 0 99899 ∧ StoreR w ∧ SubsR (cell w 9).asList (cell w 2).asInt ∧ (cell w 17).asList.length = 5 ∧
 AlsP (cell w 10).asList ∧ AlsP (cell w 16).asList ∧ deedsW w ∧ tasksW w ∧ locksP w ∧ groupsW w
def QuietP (w : List D) : Prop := WorldP w ∧ busyN w = 0 ∧ (cell w 10).asList.length = 0 ∧ ¬ RipeP w
noncomputable def Φ : Fns := fun f => match f with
 | 189 => mEqL [.int .i64]
 | 111 => mEqL [.str]
 | 152 => mSzL [.int .i64]
 | 77 => mSzL [.str]
 | 172 => mToL [.int .i64]
 | 94 => mToL [.str]
 | 255 => mEqA kChain
 | 256 => mEqA kLabel
 | 113 => mEqA kSub
 | 116 => mEqA kTimer
 | 221 => mSzA kChain'
 | 222 => mSzA kLabel'
 | 79 => mSzA kSub'
 | 237 => mToA kChain'
 | 238 => mToA kLabel'
 | 96 => mToA kSub'
 | 99 => mToA kTimer'
 | 187 => mEqL kChain
 | 188 => mEqL kLabel
 | 45 => mEqL kSub
 | 48 => mEqL kTimer
 | 150 => mSzL kChain'
 | 151 => mSzL kLabel'
 | 21 => mSzL kSub'
 | 24 => mSzL kTimer'
 | 170 => mToL kChain'
 | 171 => mToL kLabel'
 | 33 => mToL kSub'
 | 36 => mToL kTimer'
 | 112 => mEqA kPart
 | 78 => mSzA kPart'
 | 95 => mToA kPart'
 | 44 => mEqL kPart
 | 20 => mSzL kPart'
 | 32 => mToL kPart'
 | 114 => mEqA kAlarm
 | 117 => mEqA kBatch
 | 80 => mSzA kAlarm'
 | 82 => mSzA kBatch'
 | 97 => mToA kAlarm'
 | 100 => mToA kBatch'
 | 46 => mEqL kAlarm
 | 49 => mEqL kBatch
 | 22 => mSzL kAlarm'
 | 25 => mSzL kBatch'
 | 34 => mToL kAlarm'
 | 37 => mToL kBatch'
 | 115 => mEqA kGroup
 | 81 => mSzA kGroup'
 | 98 => mToA kGroup'
 | 47 => mEqL kGroup
 | 23 => mSzL kGroup'
 | 35 => mToL kGroup'
 | 43 => mEqA kConf
 | 19 => mSzA kConf'
 | 31 => mToA kConf'
 | 118 => mEqA kTask
 | 83 => mSzA kTask'
 | 101 => mToA kTask'
 | 50 => mEqL kTask
 | 26 => mSzL kTask'
 | 38 => mToL kTask'
 | 119 => mEqA kDeed
 | 84 => mSzA kDeed'
 | 102 => mToA kDeed'
 | 51 => mEqL kDeed
 | 27 => mSzL kDeed'
 | 39 => mToL kDeed'
 | 10 => mEqA kWorld
 | 6 => mSzA kWorld'
 | 8 => mToA kWorld'
 | 3 => mLaw
 | 292 => mCp
 | 220 => mCpAl
 | 201 => mCpAl
 | 202 => mCpAls
 | 190 => mCpAls
 | 149 => mFeedOf
 | 138 => mFeedOf
 | 272 => mSetLt
 | 259 => mSetLt
 | 293 => mLess
 | 291 => mByL1
 | 219 => mByL
 | 209 => mSortA
 | 208 => mAlIn
 | 218 => mAlIn
 | 137 => mAllA
 | 148 => mAllA
 | 163 => mEqL kLabel
 | 248 => mEqL kLabel
 | 162 => mEqA kAlarm
 | 217 => mEqA kAlarm
 | 136 => mEqL kAlarm
 | 147 => mEqL kAlarm
 | 139 => mEqA kSub
 | 215 => mEqA kSub
 | 145 => mEqL kSub
 | 140 => mEqA kGroup
 | 216 => mEqA kGroup
 | 146 => mEqL kGroup
 | 214 => mEqL [.str]
 | 207 => mEqL [.str]
 | 144 => mEqA kConf
 | 135 => mEqA kConf
 | 76 => mAgrees
 | 73 => mAgrees
 | 86 => mB fun ds => (cell ds 1).asInt ≤ (cell ds 0).asInt ∧ (cell ds 0).asInt ≤ (cell ds 2).asInt
 | 104 => mB fun ds => (cell ds 1).asInt ≤ (cell ds 0).asInt ∧ (cell ds 0).asInt ≤ (cell ds 2).asInt
 | 223 => mB fun ds => NameOk (cell ds 0).asStr
 | 239 => mB fun ds => NameOk (cell ds 0).asStr
 | 227 => mB fun ds => PlainOk (cell ds 0).asStr
 | 243 => mB fun ds => PlainOk (cell ds 0).asStr
 | 295 => mB fun ds => LabOk (cell ds 0).row
 | 302 => mB fun ds => LabOk (cell ds 0).row
 | 226 => mB fun ds => SetOk (cell ds 0).asList
 | 242 => mB fun ds => SetOk (cell ds 0).asList
 | 156 => mB fun ds => AlOk (cell ds 0).row
 | 178 => mB fun ds => AlOk (cell ds 0).row
 | 339 => mJoin
 | 299 => mSetT
 | 329 => mSetT
 | 330 => mHas
 | 340 => mHas
 | 311 => mProject
 | 335 => mProject
 | 264 => mKeyOf
 | 319 => mKeyOf
 | 260 => mStands
 | 332 => mStands
 | 325 => mApart
 | 224 => mB fun ds => InOrd (cell ds 0).asList
 | 240 => mB fun ds => InOrd (cell ds 0).asList
 | 153 => mB fun ds => ByP (cell ds 0).asList
 | 173 => mB fun ds => ByP (cell ds 0).asList
 | 85 => mB fun ds => ConfP (cell ds 0).row
 | 103 => mB fun ds => ConfP (cell ds 0).row
 | 298 => mSum
 | 328 => mSum
 | 233 => mFing
 | 306 => mFing
 | 232 => mPartOf
 | 301 => mPartOf
 | 294 => mB fun ds => ChainP (cell ds 0).row
 | 300 => mB fun ds => ChainP (cell ds 0).row
 | 225 => mB fun ds => PartP (cell ds 0).row (cell ds 1).asInt (cell ds 2).asInt
 | 241 => mB fun ds => PartP (cell ds 0).row (cell ds 1).asInt (cell ds 2).asInt
 | 154 => mB fun ds => StoreP (cell ds 0).asList
 | 174 => mB fun ds => StoreP (cell ds 0).asList
 | 155 => mB fun ds => FitsP (cell ds 1).row
 | 176 => mB fun ds => FitsP (cell ds 1).row
 | 175 => mCnt
 | 88 => mB fun ds => AlsP (cell ds 0).asList
 | 107 => mB fun ds => AlsP (cell ds 0).asList
 | 89 => mB fun ds => SubP (cell ds 0).row
 | 177 => mB fun ds => SubP (cell ds 0).row
 | 106 => mB fun ds => SubsR (cell ds 0).asList (cell (cell ds 1).row 2).asInt
 | 244 => mB fun ds => codeP (cell ds 0).asInt (cell ds 1).asInt
 | 90 => mB fun ds => DeedP (cell ds 0).row
 | 179 => mB fun ds => DeedP (cell ds 0).row
 | 159 => mB fun ds => TaskP (cell ds 0).row (cell ds 1).asInt
 | 180 => mB fun ds => TaskP (cell ds 0).row (cell ds 1).asInt
 | 165 => mHolds
 | 182 => mHolds
 | 166 => mB fun ds => HoldsG (cell ds 0).row
 | 183 => mB fun ds => HoldsG (cell ds 0).row
 | 235 => mB fun ds => Bef (cell ds 0).row (cell ds 1).row
 | 253 => mB fun ds => Bef (cell ds 0).row (cell ds 1).row
 | 168 => mB fun ds => HeapP (cell ds 0).asList
 | 185 => mB fun ds => HeapP (cell ds 0).asList
 | 234 => mB fun ds => GroupP (cell ds 0).row (cell ds 1).asList
 | 251 => mB fun ds => GroupP (cell ds 0).row (cell ds 1).asList
 | 167 => mB fun ds => GroupsP (cell ds 0).asList (cell ds 1).asList
 | 184 => mB fun ds => GroupsP (cell ds 0).asList (cell ds 1).asList
 | 158 => mCodes
 | 157 => mHasI
 | 228 => mB fun ds => zeroA (cell (cell ds 0).row 0) (cell (cell ds 0).row 1) (cell (cell ds 0).row 2) (cell (cell ds 0).row 3)
 | 229 => mB fun ds => seenP (cell ds 0).row
 | 246 => mB fun ds => snapP (cell ds 0).row
 | 245 => mEqA kTask
 | 303 => mEqL [.int .i64]
 | 230 => mFindIn
 | 304 => mFindIn
 | 161 => mFindA
 | 247 => mFindA
 | 296 => mChainAt
 | 326 => mChainAt
 | 297 => mInCh
 | 327 => mInCh
 | 231 => mHome
 | 305 => mHome
 | 236 => mNextDue
 | 254 => mNextDue
 | 169 => mDue
 | 186 => mDue
 | 250 => mPartAt
 | 307 => mB fun ds => keyedP (cell ds 0).asList (cell ds 1).asList (cell ds 2).asList
 | 252 => mGroupOf
 | 164 => mSeenW
 | 160 => mDeedOp
 | 29 => mBusy
 | 41 => mBusy
 | 30 => mB fun ds => RipeP (cell ds 0).row
 | 42 => mB fun ds => RipeP (cell ds 0).row
 | 87 => mBw (fun _ => True) fun ds => StoreR (cell ds 0).row
 | 105 => mBw (fun _ => True) fun ds => StoreR (cell ds 0).row
 | 249 => mBw (fun ds => partsP (cell ds 0).row ∧ (cell (cell ds 1).row 0).asInt = 3 ∧ ∃ k, TaskP (cell ds 1).row k) fun ds => snapF (cell ds 0).row (cell ds 1).row
 | 181 => mBw (fun ds => partsP (cell ds 0).row ∧ (cell (cell ds 1).row 0).asInt ≠ 0 ∧ ∃ k, TaskP (cell ds 1).row k) fun ds => (cell (cell ds 2).row 0).asInt = deedOp (cell (cell ds 1).row 0).asInt ∧ deedF (cell ds 0).row (cell ds 1).row (cell ds 2).row
 | 108 => mBw (fun ds => partsP (cell ds 0).row) fun ds => deedsW (cell ds 0).row ∧ tasksW (cell ds 0).row
 | 91 => mBw (fun ds => partsP (cell ds 0).row ∧ 0 ≤ (cell ds 1).asInt ∧ (cell ds 1).asInt < (cell (cell ds 0).row 17).asList.length) fun ds => taskW (cell ds 0).row (cell ds 1).asInt.toNat
 | 92 => mBw (fun ds => heldP (cell ds 0).row) fun ds => locksP (cell ds 0).row
 | 109 => mB fun ds => locksP (cell ds 0).row
 | 93 => mBw (fun ds => (cell (cell ds 0).row 17).asList.length = 5) fun ds => groupsW (cell ds 0).row
 | 110 => mBw (fun ds => (cell (cell ds 0).row 17).asList.length = 5) fun ds => groupsW (cell ds 0).row
 | 28 => mBw (fun _ => True) fun ds => WorldP (cell ds 0).row
 | 40 => mBw (fun _ => True) fun ds => WorldP (cell ds 0).row
 | 7 => mBw (fun _ => True) fun ds => QuietP (cell ds 0).row
 | 9 => mBw (fun _ => True) fun ds => QuietP (cell ds 0).row
 | _ => fun _ _ => default
theorem Φ3 : Φ 3 = mLaw := rfl
theorem Φ6 : Φ 6 = mSzA kWorld' := rfl
theorem Φ8 : Φ 8 = mToA kWorld' := rfl
theorem Φ10 : Φ 10 = mEqA kWorld := rfl
theorem Φ19 : Φ 19 = mSzA kConf' := rfl
theorem Φ20 : Φ 20 = mSzL kPart' := rfl
theorem Φ21 : Φ 21 = mSzL kSub' := rfl
theorem Φ22 : Φ 22 = mSzL kAlarm' := rfl
theorem Φ23 : Φ 23 = mSzL kGroup' := rfl
theorem Φ24 : Φ 24 = mSzL kTimer' := rfl
theorem Φ25 : Φ 25 = mSzL kBatch' := rfl
theorem Φ26 : Φ 26 = mSzL kTask' := rfl
theorem Φ27 : Φ 27 = mSzL kDeed' := rfl
theorem Φ28 : Φ 28 = mBw (fun _ => True) fun ds => WorldP (cell ds 0).row := rfl
theorem Φ31 : Φ 31 = mToA kConf' := rfl
theorem Φ32 : Φ 32 = mToL kPart' := rfl
theorem Φ33 : Φ 33 = mToL kSub' := rfl
theorem Φ34 : Φ 34 = mToL kAlarm' := rfl
theorem Φ35 : Φ 35 = mToL kGroup' := rfl
theorem Φ36 : Φ 36 = mToL kTimer' := rfl
theorem Φ37 : Φ 37 = mToL kBatch' := rfl
theorem Φ38 : Φ 38 = mToL kTask' := rfl
theorem Φ39 : Φ 39 = mToL kDeed' := rfl
theorem Φ40 : Φ 40 = mBw (fun _ => True) fun ds => WorldP (cell ds 0).row := rfl
theorem Φ43 : Φ 43 = mEqA kConf := rfl
theorem Φ46 : Φ 46 = mEqL kAlarm := rfl
theorem Φ80 : Φ 80 = mSzA kAlarm' := rfl
theorem Φ85 : Φ 85 = mB fun ds => ConfP (cell ds 0).row := rfl
theorem Φ86 : Φ 86 = mB fun ds => (cell ds 1).asInt ≤ (cell ds 0).asInt ∧ (cell ds 0).asInt ≤ (cell ds 2).asInt := rfl
theorem Φ87 : Φ 87 = mBw (fun _ => True) fun ds => StoreR (cell ds 0).row := rfl
theorem Φ88 : Φ 88 = mB fun ds => AlsP (cell ds 0).asList := rfl
theorem Φ89 : Φ 89 = mB fun ds => SubP (cell ds 0).row := rfl
theorem Φ90 : Φ 90 = mB fun ds => DeedP (cell ds 0).row := rfl
theorem Φ91 : Φ 91 = mBw (fun ds => partsP (cell ds 0).row ∧ 0 ≤ (cell ds 1).asInt ∧ (cell ds 1).asInt < (cell (cell ds 0).row 17).asList.length) fun ds => taskW (cell ds 0).row (cell ds 1).asInt.toNat := rfl
theorem Φ92 : Φ 92 = mBw (fun ds => heldP (cell ds 0).row) fun ds => locksP (cell ds 0).row := rfl
theorem Φ93 : Φ 93 = mBw (fun ds => (cell (cell ds 0).row 17).asList.length = 5) fun ds => groupsW (cell ds 0).row := rfl
theorem Φ95 : Φ 95 = mToA kPart' := rfl
theorem Φ96 : Φ 96 = mToA kSub' := rfl
theorem Φ97 : Φ 97 = mToA kAlarm' := rfl
theorem Φ98 : Φ 98 = mToA kGroup' := rfl
theorem Φ99 : Φ 99 = mToA kTimer' := rfl
theorem Φ100 : Φ 100 = mToA kBatch' := rfl
theorem Φ101 : Φ 101 = mToA kTask' := rfl
theorem Φ102 : Φ 102 = mToA kDeed' := rfl
theorem Φ103 : Φ 103 = mB fun ds => ConfP (cell ds 0).row := rfl
theorem Φ104 : Φ 104 = mB fun ds => (cell ds 1).asInt ≤ (cell ds 0).asInt ∧ (cell ds 0).asInt ≤ (cell ds 2).asInt := rfl
theorem Φ105 : Φ 105 = mBw (fun _ => True) fun ds => StoreR (cell ds 0).row := rfl
theorem Φ107 : Φ 107 = mB fun ds => AlsP (cell ds 0).asList := rfl
theorem Φ108 : Φ 108 = mBw (fun ds => partsP (cell ds 0).row) fun ds => deedsW (cell ds 0).row ∧ tasksW (cell ds 0).row := rfl
theorem Φ109 : Φ 109 = mB fun ds => locksP (cell ds 0).row := rfl
theorem Φ110 : Φ 110 = mBw (fun ds => (cell (cell ds 0).row 17).asList.length = 5) fun ds => groupsW (cell ds 0).row := rfl
theorem Φ112 : Φ 112 = mEqA kPart := rfl
theorem Φ113 : Φ 113 = mEqA kSub := rfl
theorem Φ114 : Φ 114 = mEqA kAlarm := rfl
theorem Φ115 : Φ 115 = mEqA kGroup := rfl
theorem Φ116 : Φ 116 = mEqA kTimer := rfl
theorem Φ117 : Φ 117 = mEqA kBatch := rfl
theorem Φ118 : Φ 118 = mEqA kTask := rfl
theorem Φ119 : Φ 119 = mEqA kDeed := rfl
theorem Φ136 : Φ 136 = mEqL kAlarm := rfl
theorem Φ137 : Φ 137 = mAllA := rfl
theorem Φ147 : Φ 147 = mEqL kAlarm := rfl
theorem Φ148 : Φ 148 = mAllA := rfl
theorem Φ150 : Φ 150 = mSzL kChain' := rfl
theorem Φ151 : Φ 151 = mSzL kLabel' := rfl
theorem Φ154 : Φ 154 = mB fun ds => StoreP (cell ds 0).asList := rfl
theorem Φ155 : Φ 155 = mB fun ds => FitsP (cell ds 1).row := rfl
theorem Φ156 : Φ 156 = mB fun ds => AlOk (cell ds 0).row := rfl
theorem Φ158 : Φ 158 = mCodes := rfl
theorem Φ159 : Φ 159 = mB fun ds => TaskP (cell ds 0).row (cell ds 1).asInt := rfl
theorem Φ160 : Φ 160 = mDeedOp := rfl
theorem Φ161 : Φ 161 = mFindA := rfl
theorem Φ162 : Φ 162 = mEqA kAlarm := rfl
theorem Φ163 : Φ 163 = mEqL kLabel := rfl
theorem Φ164 : Φ 164 = mSeenW := rfl
theorem Φ165 : Φ 165 = mHolds := rfl
theorem Φ166 : Φ 166 = mB fun ds => HoldsG (cell ds 0).row := rfl
theorem Φ167 : Φ 167 = mB fun ds => GroupsP (cell ds 0).asList (cell ds 1).asList := rfl
theorem Φ168 : Φ 168 = mB fun ds => HeapP (cell ds 0).asList := rfl
theorem Φ169 : Φ 169 = mDue := rfl
theorem Φ170 : Φ 170 = mToL kChain' := rfl
theorem Φ171 : Φ 171 = mToL kLabel' := rfl
theorem Φ174 : Φ 174 = mB fun ds => StoreP (cell ds 0).asList := rfl
theorem Φ175 : Φ 175 = mCnt := rfl
theorem Φ176 : Φ 176 = mB fun ds => FitsP (cell ds 1).row := rfl
theorem Φ178 : Φ 178 = mB fun ds => AlOk (cell ds 0).row := rfl
theorem Φ179 : Φ 179 = mB fun ds => DeedP (cell ds 0).row := rfl
theorem Φ180 : Φ 180 = mB fun ds => TaskP (cell ds 0).row (cell ds 1).asInt := rfl
theorem Φ181 : Φ 181 = mBw (fun ds => partsP (cell ds 0).row ∧ (cell (cell ds 1).row 0).asInt ≠ 0 ∧ ∃ k, TaskP (cell ds 1).row k) fun ds => (cell (cell ds 2).row 0).asInt = deedOp (cell (cell ds 1).row 0).asInt ∧ deedF (cell ds 0).row (cell ds 1).row (cell ds 2).row := rfl
theorem Φ182 : Φ 182 = mHolds := rfl
theorem Φ183 : Φ 183 = mB fun ds => HoldsG (cell ds 0).row := rfl
theorem Φ184 : Φ 184 = mB fun ds => GroupsP (cell ds 0).asList (cell ds 1).asList := rfl
theorem Φ185 : Φ 185 = mB fun ds => HeapP (cell ds 0).asList := rfl
theorem Φ186 : Φ 186 = mDue := rfl
theorem Φ188 : Φ 188 = mEqL kLabel := rfl
theorem Φ190 : Φ 190 = mCpAls := rfl
theorem Φ201 : Φ 201 = mCpAl := rfl
theorem Φ202 : Φ 202 = mCpAls := rfl
theorem Φ208 : Φ 208 = mAlIn := rfl
theorem Φ209 : Φ 209 = mSortA := rfl
theorem Φ217 : Φ 217 = mEqA kAlarm := rfl
theorem Φ218 : Φ 218 = mAlIn := rfl
theorem Φ220 : Φ 220 = mCpAl := rfl
theorem Φ223 : Φ 223 = mB fun ds => NameOk (cell ds 0).asStr := rfl
theorem Φ225 : Φ 225 = mB fun ds => PartP (cell ds 0).row (cell ds 1).asInt (cell ds 2).asInt := rfl
theorem Φ226 : Φ 226 = mB fun ds => SetOk (cell ds 0).asList := rfl
theorem Φ227 : Φ 227 = mB fun ds => PlainOk (cell ds 0).asStr := rfl
theorem Φ228 : Φ 228 = mB fun ds => zeroA (cell (cell ds 0).row 0) (cell (cell ds 0).row 1) (cell (cell ds 0).row 2) (cell (cell ds 0).row 3) := rfl
theorem Φ229 : Φ 229 = mB fun ds => seenP (cell ds 0).row := rfl
theorem Φ230 : Φ 230 = mFindIn := rfl
theorem Φ231 : Φ 231 = mHome := rfl
theorem Φ232 : Φ 232 = mPartOf := rfl
theorem Φ233 : Φ 233 = mFing := rfl
theorem Φ234 : Φ 234 = mB fun ds => GroupP (cell ds 0).row (cell ds 1).asList := rfl
theorem Φ236 : Φ 236 = mNextDue := rfl
theorem Φ237 : Φ 237 = mToA kChain' := rfl
theorem Φ238 : Φ 238 = mToA kLabel' := rfl
theorem Φ239 : Φ 239 = mB fun ds => NameOk (cell ds 0).asStr := rfl
theorem Φ241 : Φ 241 = mB fun ds => PartP (cell ds 0).row (cell ds 1).asInt (cell ds 2).asInt := rfl
theorem Φ242 : Φ 242 = mB fun ds => SetOk (cell ds 0).asList := rfl
theorem Φ243 : Φ 243 = mB fun ds => PlainOk (cell ds 0).asStr := rfl
theorem Φ245 : Φ 245 = mEqA kTask := rfl
theorem Φ246 : Φ 246 = mB fun ds => snapP (cell ds 0).row := rfl
theorem Φ247 : Φ 247 = mFindA := rfl
theorem Φ248 : Φ 248 = mEqL kLabel := rfl
theorem Φ249 : Φ 249 = mBw (fun ds => partsP (cell ds 0).row ∧ (cell (cell ds 1).row 0).asInt = 3 ∧ ∃ k, TaskP (cell ds 1).row k) fun ds => snapF (cell ds 0).row (cell ds 1).row := rfl
theorem Φ250 : Φ 250 = mPartAt := rfl
theorem Φ252 : Φ 252 = mGroupOf := rfl
theorem Φ254 : Φ 254 = mNextDue := rfl
theorem Φ255 : Φ 255 = mEqA kChain := rfl
theorem Φ256 : Φ 256 = mEqA kLabel := rfl
theorem Φ259 : Φ 259 = mSetLt := rfl
theorem Φ264 : Φ 264 = mKeyOf := rfl
theorem Φ272 : Φ 272 = mSetLt := rfl
theorem Φ291 : Φ 291 = mByL1 := rfl
theorem Φ292 : Φ 292 = mCp := rfl
theorem Φ293 : Φ 293 = mLess := rfl
theorem Φ294 : Φ 294 = mB fun ds => ChainP (cell ds 0).row := rfl
theorem Φ296 : Φ 296 = mChainAt := rfl
theorem Φ297 : Φ 297 = mInCh := rfl
theorem Φ299 : Φ 299 = mSetT := rfl
theorem Φ300 : Φ 300 = mB fun ds => ChainP (cell ds 0).row := rfl
theorem Φ301 : Φ 301 = mPartOf := rfl
theorem Φ304 : Φ 304 = mFindIn := rfl
theorem Φ305 : Φ 305 = mHome := rfl
theorem Φ306 : Φ 306 = mFing := rfl
theorem Φ307 : Φ 307 = mB fun ds => keyedP (cell ds 0).asList (cell ds 1).asList (cell ds 2).asList := rfl
theorem Φ311 : Φ 311 = mProject := rfl
theorem Φ319 : Φ 319 = mKeyOf := rfl
theorem Φ325 : Φ 325 = mApart := rfl
theorem Φ326 : Φ 326 = mChainAt := rfl
theorem Φ327 : Φ 327 = mInCh := rfl
theorem Φ329 : Φ 329 = mSetT := rfl
theorem Φ332 : Φ 332 = mStands := rfl
theorem Φ335 : Φ 335 = mProject := rfl
end Go.Proofs.YtlkidecpmfhheaaGreat
