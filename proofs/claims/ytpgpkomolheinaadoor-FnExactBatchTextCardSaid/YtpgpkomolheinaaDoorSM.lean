/-
  Models of functions.
-/
import Derived.Test.YtpgpkomolheinaaDoorS1
import Derived.Test.YtpgpkomolheinaaDoorVxc
namespace Go.Proofs.YtpgpkomolheinaaDoor
open Go.Vx

abbrev kLabel' : List K := [.str, .str]
abbrev kLabel : List K := [.str, .str]
abbrev kAlarm' : List K := [.sl 68 kLabel', .int .i64, .int .i64, .str]
abbrev kAlarm : List K := [.sl 70 kLabel, .int .i64, .int .i64, .str]
abbrev kBatch' : List K := [.int .i64, .sl 68 kLabel', .int .i64, .sl 42 kAlarm']
abbrev kBatch : List K := [.int .i64, .sl 70 kLabel, .int .i64, .sl 45 kAlarm]
noncomputable def mLaw : Nat → List D → D := con (fun _ => True) fun _ _ => .bool true
noncomputable def mB (p : List D → Prop) : Nat → List D → D := con (fun _ => True) fun _ ds => .bool (tt (p ds))
/-- Names, plain texts, labels, alarms. -/
def byte (s : ByteArray) (i : Nat) : Nat := (s.toList[i]?.getD 0).toNat
def NameB (s : ByteArray) (i : Nat) : Prop := 97 ≤ byte s i ∧ byte s i ≤ 122
def PlainB (s : ByteArray) (i : Nat) : Prop := 32 ≤ byte s i ∧ byte s i ≤ 126 ∧ byte s i ≠ 34 ∧ byte s i ≠ 92
def NameOk (s : ByteArray) : Prop := (1 ≤ s.size ∧ s.size ≤ 8) ∧ ∀ i, i < s.size → NameB s i
def PlainOk (s : ByteArray) : Prop := s.size ≤ 12 ∧ ∀ i, i < s.size → PlainB s i
def LabOk (r : List D) : Prop := NameOk (cell r 0).asStr ∧ PlainOk (cell r 1).asStr
def SetAt (xs : List (List D)) (i : Nat) : Prop := LabOk (rowN xs i) ∧ (0 < i → Op.bytesLess (cell (rowN xs (i - 1)) 0).asStr.toList (cell (rowN xs i) 0).asStr.toList = true)
def SetOk (xs : List (List D)) : Prop := xs.length ≤ 4 ∧ ∀ i, i < xs.length → SetAt xs i
def AlOk (r : List D) : Prop := (SetOk (cell r 0).asList ∧ 0 < (cell r 0).asList.length) ∧ (0 ≤ (cell r 1).asInt ∧ (cell r 1).asInt ≤ 99999) ∧ ((cell r 1).asInt ≤ (cell r 2).asInt ∧ (cell r 2).asInt ≤ 99999) ∧ PlainOk (cell r 3).asStr
/-- Words. -/
def labB (r : List D) : ByteArray := (cell r 0).asStr ++ ⟨#[61, 34]⟩ ++ (cell r 1).asStr ++ ⟨#[34]⟩
noncomputable def setB (xs : List (List D)) : ByteArray := ⟨#[123]⟩ ++ joinB (xs.map labB) ⟨#[44, 32]⟩ ++ ⟨#[125]⟩
noncomputable def setT (xs : List (List D)) : ByteArray := bif tt (SetOk xs) then setB xs else ⟨#[]⟩
noncomputable def alB (r : List D) : ByteArray := setT (cell r 0).asList ++ ⟨#[32]⟩ ++ itoaB (cell r 1).asInt ++ ⟨#[45]⟩ ++ itoaB (cell r 2).asInt ++ ⟨#[32, 34]⟩ ++ (cell r 3).asStr ++ ⟨#[34]⟩
noncomputable def alT (r : List D) : ByteArray := bif tt (AlOk r) then alB r else ⟨#[]⟩
noncomputable def alsT (xs : List (List D)) : ByteArray := bif tt (xs.length = 0) then ⟨#[45]⟩ else joinB (xs.map alT) ⟨#[59, 32]⟩
noncomputable def btF (xs : List (List D)) (s : ByteArray) : ByteArray := xs.foldl (fun s r => s ++ ⟨#[59, 32]⟩ ++ alT r) s
noncomputable def btT (r : List D) : ByteArray := btF (cell r 3).asList (itoaB (cell r 0).asInt ++ ⟨#[32]⟩ ++ itoaB (cell r 2).asInt ++ ⟨#[32]⟩ ++ setT (cell r 1).asList)
noncomputable def mSetT : Nat → List D → D := con (fun _ => True) fun _ ds => .str (setT (cell ds 0).asList)
noncomputable def mAlT : Nat → List D → D := con (fun _ => True) fun _ ds => .str (alT (cell ds 0).row)
noncomputable def mAlsT : Nat → List D → D := con (fun ds => (cell ds 0).asList.length ≤ 1048576) fun _ ds => .str (alsT (cell ds 0).asList)
noncomputable def mBtT : Nat → List D → D := con (fun ds => (cell (cell ds 0).row 3).asList.length ≤ 1048576) fun _ ds => .str (btT (cell ds 0).row)
noncomputable def Φ : Fns := fun f => match f with
  | 38 => mEqA kLabel
  | 33 => mSzA kLabel'
  | 35 => mToA kLabel'
  | 27 => mEqL kLabel
  | 21 => mSzL kLabel'
  | 24 => mToL kLabel'
  | 20 => mEqA kAlarm
  | 14 => mEqA kBatch
  | 15 => mSzA kAlarm'
  | 10 => mSzA kBatch'
  | 17 => mToA kAlarm'
  | 12 => mToA kBatch'
  | 9 => mEqL kAlarm
  | 5 => mSzL kAlarm'
  | 7 => mToL kAlarm'
  | 3 => mLaw
  | 4 => mLaw
  | 39 => mB fun ds => (cell ds 1).asInt ≤ (cell ds 0).asInt ∧ (cell ds 0).asInt ≤ (cell ds 2).asInt
  | 41 => mB fun ds => (cell ds 1).asInt ≤ (cell ds 0).asInt ∧ (cell ds 0).asInt ≤ (cell ds 2).asInt
  | 46 => mB fun ds => Op.bytesLess (cell ds 0).asStr.toList (cell ds 1).asStr.toList = true
  | 51 => mB fun ds => NameOk (cell ds 0).asStr
  | 53 => mB fun ds => NameOk (cell ds 0).asStr
  | 40 => mB fun ds => PlainOk (cell ds 0).asStr
  | 42 => mB fun ds => PlainOk (cell ds 0).asStr
  | 45 => mB fun ds => LabOk (cell ds 0).row
  | 48 => mB fun ds => LabOk (cell ds 0).row
  | 34 => mB fun ds => SetOk (cell ds 0).asList
  | 37 => mB fun ds => SetOk (cell ds 0).asList
  | 28 => mB fun ds => AlOk (cell ds 0).row
  | 29 => mB fun ds => AlOk (cell ds 0).row
  | 22 => mItoa
  | 25 => mItoa
  | 36 => mItoa
  | 19 => mJoin
  | 23 => mSetT
  | 26 => mSetT
  | 16 => mAlT
  | 18 => mAlT
  | 6 => mAlsT
  | 8 => mAlsT
  | 11 => mBtT
  | 13 => mBtT
  | _ => fun _ _ => default

end Go.Proofs.YtpgpkomolheinaaDoor
