/-
  Models of functions.
-/
import Derived.Test.YthibophjhdoooaaGreatDoorS1
import Derived.Test.YthibophjhdoooaaGreatDoorVxf
set_option linter.unusedVariables false
set_option linter.unusedSimpArgs false
namespace Go.Proofs.YthibophjhdoooaaGreatDoor
open Go.Vx

abbrev kLabel : List K := [.str, .str]
abbrev kAlarm : List K := [.sl 82 kLabel, .int .i64, .int .i64, .str]
noncomputable def mLaw : Nat → List D → D := con (fun _ => True) fun _ _ => .bool true
noncomputable def mB (p : List D → Prop) : Nat → List D → D := con (fun _ => True) fun _ ds => .bool (tt (p ds))
/-- Names, plain texts, labels, alarms. -/
def byte (s : ByteArray) (i : Nat) : Nat := (s.toList[i]?.getD 0).toNat
def NameB (s : ByteArray) (i : Nat) : Prop := 97 ≤ byte s i ∧ byte s i ≤ 122
def PlainB (s : ByteArray) (i : Nat) : Prop := 32 ≤ byte s i ∧ byte s i ≤ 126 ∧ byte s i ≠ 34 ∧ byte s i ≠ 92
def NameOk (s : ByteArray) : Prop := (1 ≤ s.size ∧ s.size ≤ 8) ∧ ∀ i, i < s.size → NameB s i
def PlainOk (s : ByteArray) : Prop := s.size ≤ 12 ∧ ∀ i, i < s.size → PlainB s i
def LabOk (r : List D) : Prop := NameOk (cell r 0).asStr ∧ PlainOk (cell r 1).asStr
def SetAt (xs : List (List D)) (i : Nat) : Prop := LabOk (rowN xs i) ∧ (0 < i → Op.bytesLess (cell (rowN xs (i - 1)) 0).asStr.toList (cell (rowN xs i) 0).asStr.toList = true)
def SetOk (xs : List (List D)) : Prop := xs.length ≤ 4 ∧ ∀ i, i < xs.length → SetAt xs i
def AlOk (r : List D) : Prop := (SetOk (cell r 0).asList ∧ 0 < (cell r 0).asList.length) ∧ (0 ≤ (cell r 1).asInt ∧ (cell r 1).asInt ≤ 99999) ∧ ((cell r 1).asInt ≤ (cell r 2).asInt ∧ (cell r 2).asInt ≤ 99999) ∧ PlainOk (cell r 3).asStr
/-- Words. -/
def labB (r : List D) : ByteArray := (cell r 0).asStr ++ ⟨#[61, 34]⟩ ++ (cell r 1).asStr ++ ⟨#[34]⟩
noncomputable def setB (xs : List (List D)) : ByteArray := ⟨#[123]⟩ ++ joinB (xs.map labB) ⟨#[44, 32]⟩ ++ ⟨#[125]⟩
noncomputable def setT (xs : List (List D)) : ByteArray := bif tt (SetOk xs) then setB xs else ⟨#[]⟩
noncomputable def alB (r : List D) : ByteArray := setT (cell r 0).asList ++ ⟨#[32]⟩ ++ itoaB (cell r 1).asInt ++ ⟨#[45]⟩ ++ itoaB (cell r 2).asInt ++ ⟨#[32, 34]⟩ ++ (cell r 3).asStr ++ ⟨#[34]⟩
noncomputable def alT (r : List D) : ByteArray := bif tt (AlOk r) then alB r else ⟨#[]⟩
noncomputable def alsT (xs : List (List D)) : ByteArray := bif tt (xs.length = 0) then ⟨#[45]⟩ else joinB (xs.map alT) ⟨#[59, 32]⟩
noncomputable def btF (xs : List (List D)) (s : ByteArray) : ByteArray := xs.foldl (fun s r => s ++ ⟨#[59, 32]⟩ ++ alT r) s
noncomputable def btT (r : List D) : ByteArray := btF (cell r 3).asList (itoaB (cell r 0).asInt ++ ⟨#[32]⟩ ++ itoaB (cell r 2).asInt ++ ⟨#[32]⟩ ++ setT (cell r 1).asList)
noncomputable def mSetT : Nat → List D → D := con (fun _ => True) fun _ ds => .str (setT (cell ds 0).asList)
noncomputable def mAlT : Nat → List D → D := con (fun _ => True) fun _ ds => .str (alT (cell ds 0).row)
noncomputable def mAlsT : Nat → List D → D := con (fun ds => (cell ds 0).asList.length ≤ 1048576) fun _ ds => .str (alsT (cell ds 0).asList)
noncomputable def mBtT : Nat → List D → D := con (fun ds => (cell (cell ds 0).row 3).asList.length ≤ 1048576) fun _ ds => .str (btT (cell ds 0).row)
/-- Listeners, codes, tasks, deeds. -/
noncomputable def subT (r : List D) : ByteArray := bif (cell r 1).asBool then ⟨#[108, 97, 103]⟩ else alsT (cell r 0).asList
noncomputable def mSubT : Nat → List D → D := con (fun ds => (cell (cell ds 0).row 0).asList.length ≤ 1048576) fun _ ds => .str (subT (cell ds 0).row)
def codesR : List (List D) := [[.str ⟨#[110, 101, 119]⟩], [.str ⟨#[109, 101, 114, 103, 101, 100]⟩], [.str ⟨#[102, 117, 108, 108]⟩], [.str ⟨#[102, 111, 114, 109]⟩], [.str ⟨#[102, 111, 117, 110, 100]⟩], [.str ⟨#[110, 111, 110, 101]⟩], [.str ⟨#[108, 97, 103]⟩], [.str ⟨#[100, 111, 110, 101]⟩]]
noncomputable def codeT (n : Int) : ByteArray := bif tt (1 ≤ n ∧ n ≤ 8) then (cell (rowN codesR (n - 1).toNat) 0).asStr else ⟨#[]⟩
noncomputable def mCodeT : Nat → List D → D := con (fun _ => True) fun _ ds => .str (codeT (cell ds 0).asInt)
def tasksR : List (List D) := [[.str ⟨#[112, 117, 116]⟩], [.str ⟨#[103, 101, 116]⟩], [.str ⟨#[108, 105, 115, 116]⟩], [.str ⟨#[115, 119, 101, 101, 112]⟩], [.str ⟨#[106, 111, 105, 110]⟩], [.str ⟨#[102, 108, 117, 115, 104]⟩]]
noncomputable def taskT (r : List D) : ByteArray := bif tt ((cell r 0).asInt = 0) then ⟨#[105, 100, 108, 101]⟩ else bif tt (1 ≤ (cell r 0).asInt ∧ (cell r 0).asInt ≤ 6) then (cell (rowN tasksR ((cell r 0).asInt - 1).toNat) 0).asStr ++ ⟨#[32]⟩ ++ itoaB (cell r 1).asInt else ⟨#[]⟩
noncomputable def mTaskT : Nat → List D → D := con (fun _ => True) fun _ ds => .str (taskT (cell ds 0).row)
noncomputable def headT (r : List D) : ByteArray :=
  bif tt ((cell r 0).asInt = 1) then ⟨#[112, 117, 116, 32]⟩ ++ alT [cell r 2, cell r 3, cell r 4, cell r 5] else
  bif tt ((cell r 0).asInt = 2) then ⟨#[116, 101, 108, 108, 32]⟩ ++ alT [cell r 2, cell r 3, cell r 4, cell r 5] else
  bif tt ((cell r 0).asInt = 7) then ⟨#[106, 111, 105, 110, 32]⟩ ++ alT [cell r 2, cell r 3, cell r 4, cell r 5] else
  bif tt ((cell r 0).asInt = 3) then ⟨#[103, 101, 116, 32]⟩ ++ setT (cell r 6).asList else
  bif tt ((cell r 0).asInt = 4) then ⟨#[108, 105, 115, 116]⟩ else
  bif tt ((cell r 0).asInt = 5) then ⟨#[115, 119, 101, 101, 112, 32]⟩ ++ itoaB (cell r 7).asInt else
  bif tt ((cell r 0).asInt = 6) then ⟨#[99, 108, 101, 97, 110]⟩ else
  bif tt ((cell r 0).asInt = 8) then ⟨#[102, 108, 117, 115, 104, 32]⟩ ++ itoaB (cell r 8).asInt else
  bif tt ((cell r 0).asInt = 9) then ⟨#[104, 101, 97, 114, 32]⟩ ++ itoaB (cell r 7).asInt else ⟨#[]⟩
noncomputable def mHeadT : Nat → List D → D := con (fun _ => True) fun _ ds => .str (headT (cell ds 0).row)
noncomputable def deedT (r : List D) : ByteArray := bif tt (1 ≤ (cell r 0).asInt ∧ (cell r 0).asInt ≤ 9) then
  (bif tt ((cell r 13).asInt = -1) then headT r ++ ⟨#[32, 111, 112, 101, 110]⟩ else
    bif tt ((cell r 0).asInt = 4 ∨ (cell r 0).asInt = 5 ∨ (cell r 0).asInt = 8) then headT r ++ (⟨#[32]⟩ ++ codeT (cell r 9).asInt) ++ (⟨#[32]⟩ ++ itoaB ((cell r 10).asList.length : Nat)) else headT r ++ (⟨#[32]⟩ ++ codeT (cell r 9).asInt))
  else ⟨#[]⟩
noncomputable def mDeedT : Nat → List D → D := con (fun _ => True) fun _ ds => .str (deedT (cell ds 0).row)
noncomputable def mBig : Nat → List D → D := con (fun _ => True) fun _ ds => .bool (tt (1048576 < ((cell ds 0).asList.length : Int)))
abbrev kBatch : List K := [.int .i64, .sl 82 kLabel, .int .i64, .sl 26 kAlarm]
def cpAl (r : List D) : List D := [.sl (cell r 0).asList, cell r 1, cell r 2, cell r 3]
def cpBt (r : List D) : List D := [cell r 0, .sl (cell r 1).asList, cell r 2, .sl ((cell r 3).asList.flatMap fun r => [cpAl r])]
noncomputable def mCpAl : Nat → List D → D := con (fun ds => (cell (cell ds 0).row 0).asList.length ≤ 1048576) fun _ ds => .sl [cpAl (cell ds 0).row]
noncomputable def mCpAls : Nat → List D → D := con (fun ds => (cell ds 0).asList.length + sumR (szDs kAlarm) (cell ds 0).asList ≤ 1048576) fun _ ds => .sl ((cell ds 0).asList.flatMap fun r => [cpAl r])
noncomputable def mCpBt : Nat → List D → D := con (fun ds => szDs kBatch (cell ds 0).row ≤ 1048576) fun _ ds => .sl [cpBt (cell ds 0).row]
noncomputable def Φ : Fns := fun f => match f with
  | 38 => mB fun ds => (cell ds 1).asInt ≤ (cell ds 0).asInt ∧ (cell ds 0).asInt ≤ (cell ds 2).asInt
  | 36 => mB fun ds => (cell ds 1).asInt ≤ (cell ds 0).asInt ∧ (cell ds 0).asInt ≤ (cell ds 2).asInt
  | 83 => mB fun ds => Op.bytesLess (cell ds 0).asStr.toList (cell ds 1).asStr.toList = true
  | 98 => mB fun ds => NameOk (cell ds 0).asStr
  | 92 => mB fun ds => NameOk (cell ds 0).asStr
  | 84 => mB fun ds => PlainOk (cell ds 0).asStr
  | 76 => mB fun ds => PlainOk (cell ds 0).asStr
  | 82 => mB fun ds => LabOk (cell ds 0).row
  | 77 => mB fun ds => LabOk (cell ds 0).row
  | 61 => mB fun ds => SetOk (cell ds 0).asList
  | 58 => mB fun ds => SetOk (cell ds 0).asList
  | 62 => mB fun ds => AlOk (cell ds 0).row
  | 57 => mB fun ds => AlOk (cell ds 0).row
  | 35 => mItoa
  | 31 => mItoa
  | 59 => mItoa
  | 41 => mJoin
  | 39 => mSetT
  | 30 => mSetT
  | 40 => mAlT
  | 29 => mAlT
  | 17 => mAlsT
  | 16 => mAlsT
  | 37 => mSplit
  | 19 => mSubT
  | 18 => mSubT
  | 34 => mCodeT
  | 32 => mCodeT
  | 13 => mTaskT
  | 12 => mTaskT
  | 33 => mHeadT
  | 11 => mDeedT
  | 10 => mDeedT
  | 15 => mBtT
  | 14 => mBtT
  | 4 => mBig
  | 89 => mEqL kLabel
  | 51 => mCpAl
  | 70 => mCpAls
  | 52 => mCpBt
  | _ => fun _ _ => default

end Go.Proofs.YthibophjhdoooaaGreatDoor

