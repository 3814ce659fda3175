/-
  Models of functions.
-/
import Derived.Test.YthibophjhdoooaaDoorS1
import Derived.Test.YthibophjhdoooaaDoorVxf
set_option linter.unusedVariables false
set_option linter.unusedSimpArgs false
namespace Go.Proofs.YthibophjhdoooaaDoor
open Go.Vx

abbrev kLabel : List K := [.str, .str]
abbrev kAlarm : List K := [.sl 70 kLabel, .int .i64, .int .i64, .str]
noncomputable def mLaw : Nat → List D → D := con (fun _ => True) fun _ _ => .bool true
noncomputable def mB (p : List D → Prop) : Nat → List D → D := con (fun _ => True) fun _ ds => .bool (tt (p ds))
/-- Names, plain texts, labels, alarms. -/
def byte (s : ByteArray) (i : Nat) : Nat := (s.toList[i]?.getD 0).toNat
def NameB (s : ByteArray) (i : Nat) : Prop := 97 ≤ byte s i ∧ byte s i ≤ 122
def PlainB (s : ByteArray) (i : Nat) : Prop := 32 ≤ byte s i ∧ byte s i ≤ 126 ∧ byte s i ≠ 34 ∧ byte s i ≠ 92
def NameOk (s : ByteArray) : Prop := (1 ≤ s.size ∧ s.size ≤ 8) ∧ ∀ i, i < s.size → NameB s i
def PlainOk (s : ByteArray) : Prop := s.size ≤ 12 ∧ ∀ i, i < s.size → PlainB s i
def LabOk (r : List D) : Prop := NameOk (cell r 0).asStr ∧ PlainOk (cell r 1).asStr
def SetAt (xs : List (List D)) (i : Nat) : Prop := LabOk (rowN xs i) ∧ (0 < i → Op.bytesLess (cell (rowN xs (i - 1)) 0).asStr.toList (cell (rowN xs i) 0).asStr.toList = true)
def SetOk (xs : List (List D)) : Prop := xs.length ≤ 4 ∧ ∀ i, i < xs.length → SetAt xs i
def AlOk (r : List D) : Prop := (SetOk (cell r 0).asList ∧ 0 < (cell r 0).asList.length) ∧ (0 ≤ (cell r 1).asInt ∧ (cell r 1).asInt ≤ 99999) ∧ ((cell r 1).asInt ≤ (cell r 2).asInt ∧ (cell r 2).asInt ≤ 99999) ∧ PlainOk (cell r 3).asStr
/-- Words. -/
def labB (r : List D) : ByteArray := (cell r 0).asStr ++ ⟨#[61, 34]⟩ ++ (cell r 1).asStr ++ ⟨#[34]⟩
noncomputable def setB (xs : List (List D)) : ByteArray := ⟨#[123]⟩ ++ joinB (xs.map labB) ⟨#[44, 32]⟩ ++ ⟨#[125]⟩
noncomputable def setT (xs : List (List D)) : ByteArray := bif tt (SetOk xs) then setB xs else ⟨#[]⟩
noncomputable def alB (r : List D) : ByteArray := setT (cell r 0).asList ++ ⟨#[32]⟩ ++ itoaB (cell r 1).asInt ++ ⟨#[45]⟩ ++ itoaB (cell r 2).asInt ++ ⟨#[32, 34]⟩ ++ (cell r 3).asStr ++ ⟨#[34]⟩
noncomputable def alT (r : List D) : ByteArray := bif tt (AlOk r) then alB r else ⟨#[]⟩
noncomputable def mSetT : Nat → List D → D := con (fun _ => True) fun _ ds => .str (setT (cell ds 0).asList)
noncomputable def mAlT : Nat → List D → D := con (fun _ => True) fun _ ds => .str (alT (cell ds 0).row)
/-- Words read: the next byte b from a place on. -/
def findB (s : ByteArray) (b : Int) : Nat → Nat → Int
  | 0, _ => -1
  | f + 1, k => if k < s.size then if (byte s k : Int) = b then (k : Int) else findB s b f (k + 1) else -1
def toK (s : ByteArray) (at' b : Int) : Int := findB s b (s.size + 1) at'.toNat
def toT (s : ByteArray) (at' b : Int) : ByteArray := if toK s at' b < 0 then ⟨#[]⟩ else s.extract at'.toNat (toK s at' b).toNat
def toN (s : ByteArray) (at' b : Int) : Int := if toK s at' b < 0 then -1 else toK s at' b + 1
noncomputable def mTo : Nat → List D → D := con (fun ds => 0 ≤ (cell ds 1).asInt ∧ (cell ds 0).asStr.size ≤ 1048576) fun c ds =>
  if c = 0 then .str (toT (cell ds 0).asStr (cell ds 1).asInt (cell ds 2).asInt) else .int (toN (cell ds 0).asStr (cell ds 1).asInt (cell ds 2).asInt)
/-- Where the labels end with which a text begins. -/
def l28F (s : ByteArray) : Nat → Int → Int
  | 0, _ => -1
  | f + 1, at' => if toN s at' 61 < 0 then -1 else if toN s (toN s at' 61 + 1) 34 < 0 then -1 else
    if toN s (toN s at' 61 + 1) 34 < s.size ∧ byte s (toN s (toN s at' 61 + 1) 34).toNat = 125 then toN s (toN s at' 61 + 1) 34 + 1 else l28F s f (toN s (toN s at' 61 + 1) 34 + 2)
noncomputable def mL28 : Nat → List D → D := con (fun ds => (cell ds 0).asStr.size ≤ 1048576) fun _ ds => .int (l28F (cell ds 0).asStr ((cell ds 0).asStr.size + 2) 1)
/-- The number of a text of digits. -/
def digs (s : ByteArray) : Nat → Int
  | 0 => 0
  | i + 1 => 10 * digs s i + ((byte s i : Int) - 48)
def DigB (s : ByteArray) (i : Nat) : Prop := 48 ≤ byte s i ∧ byte s i ≤ 57
def NumI (s : ByteArray) : Prop := (1 ≤ s.size ∧ s.size ≤ 5) ∧ (∀ i, i < s.size → DigB s i)
noncomputable def numI (s : ByteArray) : Int := bif tt (NumI s ∧ itoaB (digs s s.size) = s) then digs s s.size else 0
def OkNI (s : ByteArray) : Prop := NumI s ∧ itoaB (digs s s.size) = s
noncomputable def numS (s : ByteArray) : Int := bif tt (NumI s ∧ (s.size = 1 ∨ byte s 0 ≠ 48)) then digs s s.size else 0
def OkNS (s : ByteArray) : Prop := NumI s ∧ (s.size = 1 ∨ byte s 0 ≠ 48)
noncomputable def mNumI : Nat → List D → D := con (fun _ => True) fun c ds => if c = 0 then .int (numI (cell ds 0).asStr) else .bool (tt (OkNI (cell ds 0).asStr))
noncomputable def mNumS : Nat → List D → D := con (fun _ => True) fun c ds => if c = 0 then .int (numS (cell ds 0).asStr) else .bool (tt (OkNS (cell ds 0).asStr))
/-- The labels at the beginning of a text. -/
def saF : Nat → ByteArray → Bool → List (List D) → List (List D) × ByteArray × Bool
  | 0, _, _, _ => ([], ⟨#[]⟩, false)
  | f + 1, r, ok, out => if ok = false then ([], ⟨#[]⟩, false) else if Lib.hasPrefix (lby r) (lby ⟨#[125]⟩) then (out, trimP r ⟨#[125]⟩, true) else
    if 0 < out.length ∧ (Lib.hasPrefix (lby r) (lby ⟨#[44, 32]⟩) = false ∨ 4 ≤ out.length) then ([], ⟨#[]⟩, false) else
    let r' := if 0 < out.length then trimP r ⟨#[44, 32]⟩ else r
    if cutO r' ⟨#[61, 34]⟩ then saF f (cutB (cutB r' ⟨#[61, 34]⟩) ⟨#[34]⟩) (cutO (cutB r' ⟨#[61, 34]⟩) ⟨#[34]⟩) (out ++ [[.str (cutA r' ⟨#[61, 34]⟩), .str (cutA (cutB r' ⟨#[61, 34]⟩) ⟨#[34]⟩)]])
    else saF f (cutB r' ⟨#[61, 34]⟩) false (out ++ [[.str (cutA r' ⟨#[61, 34]⟩), .str ⟨#[]⟩]])
def setAtF (s : ByteArray) : List (List D) × ByteArray × Bool := saF (s.size + 3) (trimP s ⟨#[123]⟩) (Lib.hasPrefix (lby s) (lby ⟨#[123]⟩)) []
noncomputable def mSetAt : Nat → List D → D := con (fun ds => (cell ds 0).asStr.size ≤ 1048576) fun c ds => if c = 0 then .sl (setAtF (cell ds 0).asStr).1 else if c = 1 then .str (setAtF (cell ds 0).asStr).2.1 else .bool (setAtF (cell ds 0).asStr).2.2
def psF (s : ByteArray) : Nat → Int → List (List D) → List (List D)
  | 0, _, out => out
  | f + 1, at', out => if at' < (s.size : Int) - 1 ∧ out.length ≤ 4 then
      let a2 := if 0 < out.length then at' + 2 else at'
      if toN s a2 61 < 0 then out else if toN s (toN s a2 61 + 1) 34 < 0 then out else psF s f (toN s (toN s a2 61 + 1) 34) (out ++ [[.str (toT s a2 61), .str (toT s (toN s a2 61 + 1) 34)]])
    else out
def psR (s : ByteArray) : List (List D) := psF s 6 1 []
def PsOk (s : ByteArray) : Prop := s ≠ ByteArray.empty ∧ setT (psR s) = s
noncomputable def mPS : Nat → List D → D := con (fun ds => (cell ds 0).asStr.size ≤ 1048576) fun c ds => if c = 0 then .sl (bif tt (PsOk (cell ds 0).asStr) then psR (cell ds 0).asStr else []) else .bool (tt (PsOk (cell ds 0).asStr))
/-- Alarms read: as the reference reads, as the program reads. -/
noncomputable def sP (s : ByteArray) : Int := l28F s (s.size + 2) 1
noncomputable def sL (s : ByteArray) : List (List D) := bif tt (PsOk (s.extract 0 (sP s).toNat)) then psR (s.extract 0 (sP s).toNat) else []
noncomputable def sK1 (s : ByteArray) : Int := toN s (sP s + 1) 45
noncomputable def sK2 (s : ByteArray) : Int := toN s (sK1 s) 32
noncomputable def sRow (s : ByteArray) : List D := [.sl (sL s), .int (numS (toT s (sP s + 1) 45)), .int (numS (toT s (sK1 s) 32)), .str (toT s (sK2 s + 1) 34)]
def SOk (s : ByteArray) : Prop := 0 ≤ sP s ∧ PsOk (s.extract 0 (sP s).toNat) ∧ 0 ≤ sK1 s ∧ 0 ≤ sK2 s ∧ 0 ≤ toN s (sK2 s + 1) 34 ∧ OkNS (toT s (sP s + 1) 45) ∧ OkNS (toT s (sK1 s) 32) ∧ alT (sRow s) = s
noncomputable def iTm (s : ByteArray) : ByteArray := cutA (trimP (setAtF s).2.1 ⟨#[32]⟩) ⟨#[32, 34]⟩
noncomputable def iNt (s : ByteArray) : ByteArray := cutB (trimP (setAtF s).2.1 ⟨#[32]⟩) ⟨#[32, 34]⟩
noncomputable def iRow (s : ByteArray) : List D := [.sl (setAtF s).1, .int (numI (cutA (iTm s) ⟨#[45]⟩)), .int (numI (cutB (iTm s) ⟨#[45]⟩)), .str (trimS (iNt s) ⟨#[34]⟩)]
def IOk (s : ByteArray) : Prop := (setAtF s).2.2 = true ∧ OkNI (cutA (iTm s) ⟨#[45]⟩) ∧ OkNI (cutB (iTm s) ⟨#[45]⟩) ∧ alT (iRow s) ≠ ⟨#[]⟩ ∧ alT (iRow s) = s
noncomputable def mPA (ok : ByteArray → Prop) (row : ByteArray → List D) : Nat → List D → D := con (fun ds => (cell ds 0).asStr.size ≤ 1048576) fun c ds => if c = 0 then .sl [bif tt (ok (cell ds 0).asStr) then row (cell ds 0).asStr else [.sl [], .int 0, .int 0, .str ⟨#[]⟩]] else .bool (tt (ok (cell ds 0).asStr))
noncomputable def mBig : Nat → List D → D := con (fun _ => True) fun _ ds => .bool (tt (1048576 < ((cell ds 0).asList.length : Int)))
noncomputable def Φ : Fns := fun f => match f with
  | 50 => mB fun ds => (cell ds 1).asInt ≤ (cell ds 0).asInt ∧ (cell ds 0).asInt ≤ (cell ds 2).asInt
  | 31 => mB fun ds => (cell ds 1).asInt ≤ (cell ds 0).asInt ∧ (cell ds 0).asInt ≤ (cell ds 2).asInt
  | 75 => mB fun ds => Op.bytesLess (cell ds 0).asStr.toList (cell ds 1).asStr.toList = true
  | 84 => mB fun ds => NameOk (cell ds 0).asStr
  | 65 => mB fun ds => NameOk (cell ds 0).asStr
  | 64 => mB fun ds => PlainOk (cell ds 0).asStr
  | 32 => mB fun ds => PlainOk (cell ds 0).asStr
  | 74 => mB fun ds => LabOk (cell ds 0).row
  | 51 => mB fun ds => LabOk (cell ds 0).row
  | 63 => mB fun ds => SetOk (cell ds 0).asList
  | 30 => mB fun ds => SetOk (cell ds 0).asList
  | 45 => mB fun ds => AlOk (cell ds 0).row
  | 10 => mB fun ds => AlOk (cell ds 0).row
  | 47 => mItoa
  | 20 => mItoa
  | 44 => mItoa
  | 43 => mJoin
  | 46 => mSetT
  | 19 => mSetT
  | 24 => mAlT
  | 7 => mAlT
  | 15 => mCut
  | 39 => mCutP
  | 16 => mTrimP
  | 17 => mTrimS
  | 28 => mTo
  | 26 => mL28
  | 18 => mNumI
  | 29 => mNumS
  | 14 => mSetAt
  | 27 => mPS
  | 9 => mPA SOk sRow
  | 6 => mPA IOk iRow
  | 33 => mEqL kLabel
  | 11 => mEqA kAlarm
  | 4 => mBig
  | _ => fun _ _ => default

end Go.Proofs.YthibophjhdoooaaDoor

