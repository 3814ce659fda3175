/-
  What is left to show of the code of these functions, one by one.
-/
import Derived.Test.YtpgpkomolheinaaS0
set_option linter.unusedVariables false
set_option linter.unusedSimpArgs false
namespace Go.Proofs.Ytpgpkomolheinaa
open Go.Vx

/-- laws.FnExactOf -/
def g4 : Told1 := told 4 [.one (.sl 74 [.sl 78 [.str, .str], .int .i64, .int .i64, .str]), .one (.sl 78 [.str, .str])] [.one (.im (.bool))]
/-- laws.FnExactSentOf -/
def g6 : Told1 := told 6 [.one (.sl 93 [.int .i64, .sl 78 [.str, .str], .int .i64, .sl 74 [.sl 78 [.str, .str], .int .i64, .int .i64, .str]]), .one (.sl 78 [.str, .str])] [.one (.im (.bool))]
/-- laws.FnExactLastSent -/
def g7 : Told1 := told 7 [.one (.sl 93 [.int .i64, .sl 78 [.str, .str], .int .i64, .sl 74 [.sl 78 [.str, .str], .int .i64, .int .i64, .str]]), .one (.sl 78 [.str, .str])] [.one (.im (.bool))]
/-- spec.Of -/
def g19 : Told1 := told 19 [.one (.sl 53 [.sl 80 [.str, .str], .int .i64, .int .i64, .str]), .one (.sl 80 [.str, .str])] [.one (.own 53 [.sl 80 [.str, .str], .int .i64, .int .i64, .str] true)]
/-- impl.Of -/
def g21 : Told1 := told 21 [.one (.sl 53 [.sl 80 [.str, .str], .int .i64, .int .i64, .str]), .one (.sl 80 [.str, .str])] [.one (.own 53 [.sl 80 [.str, .str], .int .i64, .int .i64, .str] true)]
/-- impl.LastOf -/
def g49 : Told1 := told 49 [.one (.sl 53 [.sl 80 [.str, .str], .int .i64, .int .i64, .str])] [.one (.own 53 [.sl 80 [.str, .str], .int .i64, .int .i64, .str] true)]
/-- spec.LastOf -/
def g51 : Told1 := told 51 [.one (.sl 53 [.sl 80 [.str, .str], .int .i64, .int .i64, .str])] [.one (.own 53 [.sl 80 [.str, .str], .int .i64, .int .i64, .str] false)]
/-- impl.SetLess -/
def g54 : Told1 := told 54 [.one (.sl 80 [.str, .str]), .one (.sl 80 [.str, .str])] [.one (.im (.bool))]
/-- spec.SameAlarm -/
def g60 : Told1 := told 60 [.agg [.sl 80 [.str, .str], .int .i64, .int .i64, .str], .agg [.sl 80 [.str, .str], .int .i64, .int .i64, .str]] [.one (.im (.bool))]
/-- spec.SameSet -/
def g63 : Told1 := told 63 [.one (.sl 80 [.str, .str]), .one (.sl 80 [.str, .str])] [.one (.im (.bool))]
/-- spec.l4Copy -/
def g64 : Told1 := told 64 [.agg [.sl 80 [.str, .str], .int .i64, .int .i64, .str]] [.agg [.own 80 [.str, .str] true, .im (.int .i64), .im (.int .i64), .im (.str)]]
/-- impl.SameSet -/
def g66 : Told1 := told 66 [.one (.sl 80 [.str, .str]), .one (.sl 80 [.str, .str])] [.one (.im (.bool))]
/-- impl.copyAlarm -/
def g67 : Told1 := told 67 [.agg [.sl 80 [.str, .str], .int .i64, .int .i64, .str]] [.agg [.own 80 [.str, .str] true, .im (.int .i64), .im (.int .i64), .im (.str)]]
/-- impl.labelsAt -/
def g85 : Told1 := told 85 [.one (.sl 53 [.sl 80 [.str, .str], .int .i64, .int .i64, .str]), .one (.sl 80 [.str, .str])] [.one (.im (.int .i64))]
/-- impl.byLabels -/
def g86 : Told1 := toldS 86 53 [.sl 80 [.str, .str], .int .i64, .int .i64, .str]
/-- spec.l8Sort -/
def g87 : Told1 := told 87 [.one (.sl 53 [.sl 80 [.str, .str], .int .i64, .int .i64, .str])] [.one (.own 53 [.sl 80 [.str, .str], .int .i64, .int .i64, .str] false)]
/-- impl.copySet -/
def g90 : Told1 := told 90 [.one (.sl 80 [.str, .str])] [.one (.own 80 [.str, .str] true)]
/-- impl.byLabels$1 -/
def g97 : Told1 := told 97 [.one (.int .i64), .one (.int .i64), .pim [.sl 53 [.sl 80 [.str, .str], .int .i64, .int .i64, .str]]] [.one (.im (.bool))]
/-- spec.SetLess -/
def g98 : Told1 := told 98 [.one (.sl 80 [.str, .str]), .one (.sl 80 [.str, .str])] [.one (.im (.bool))]
/-- spec.Less -/
def g108 : Told1 := told 108 [.one (.str), .one (.str)] [.one (.im (.bool))]
def v19 : VC := .loop 3 0 2 [(.int .i64, 2), (.sl 53 [.sl 80 [.str, .str], .int .i64, .int .i64, .str], 3)] [.int 0, .op (.rows 4) []] (.ite (.op (.bin .lss .i64) [.var 2, .op .len [.var 0]]) (.req [.op .le [.int 0, .var 2], .op .lt [.var 2, .op .len [.var 0]], .op (.fn 63 1000) [.op (.fld 0) [.op .row [.var 0, .var 2]], .var 1]] (.ite (.op (.fn 63 0) [.op (.fld 0) [.op .row [.var 0, .var 2]], .var 1]) (.req [.op .le [.int 0, .var 2], .op .lt [.var 2, .op .len [.var 0]], .op (.fn 64 1000) [.op .row [.var 0, .var 2]]] (.req [.op (.appfit 56) [.op .asl [.var 3], .op (.rows 4) [.op .asl [.op (.fld 0) [.op (.fn 64 0) [.op .row [.var 0, .var 2]]]], .op (.fld 1) [.op (.fn 64 0) [.op .row [.var 0, .var 2]]], .op (.fld 2) [.op (.fn 64 0) [.op .row [.var 0, .var 2]]], .op (.fld 3) [.op (.fn 64 0) [.op .row [.var 0, .var 2]]]]]] (.back 0 [.op (.bin .add .i64) [.var 2, .int 1], .op .lapp [.op .asl [.var 3], .op (.rows 4) [.op .asl [.op (.fld 0) [.op (.fn 64 0) [.op .row [.var 0, .var 2]]]], .op (.fld 1) [.op (.fn 64 0) [.op .row [.var 0, .var 2]]], .op (.fld 2) [.op (.fn 64 0) [.op .row [.var 0, .var 2]]], .op (.fld 3) [.op (.fn 64 0) [.op .row [.var 0, .var 2]]]]]]))) (.back 0 [.op (.bin .add .i64) [.var 2, .int 1], .var 3]))) (.ret [.var 3]))
theorem v19_eq : vcOf TT (sigs [g63, g64]) [] Try.f19 g19.args g19.rets = some v19 := by kernel_rfl

def v21 : VC := .loop 3 0 2 [(.int .i64, 3), (.sl 53 [.sl 80 [.str, .str], .int .i64, .int .i64, .str], 2)] [.nl, .int 0] (.ite (.op (.bin .lss .i64) [.var 3, .op .len [.var 0]]) (.req [.op .le [.int 0, .var 3], .op .lt [.var 3, .op .len [.var 0]]] (.req [.op (.fn 66 1000) [.op (.fld 0) [.op .row [.var 0, .var 3]], .var 1]] (.ite (.op (.fn 66 0) [.op (.fld 0) [.op .row [.var 0, .var 3]], .var 1]) (.req [.op (.fn 67 1000) [.op .row [.var 0, .var 3]], .op (.appfit 56) [.op .asl [.var 2], .op (.rows 4) [.op .asl [.op (.fld 0) [.op (.fn 67 0) [.op .row [.var 0, .var 3]]]], .op (.fld 1) [.op (.fn 67 0) [.op .row [.var 0, .var 3]]], .op (.fld 2) [.op (.fn 67 0) [.op .row [.var 0, .var 3]]], .op (.fld 3) [.op (.fn 67 0) [.op .row [.var 0, .var 3]]]]]] (.back 0 [.op .lapp [.op .asl [.var 2], .op (.rows 4) [.op .asl [.op (.fld 0) [.op (.fn 67 0) [.op .row [.var 0, .var 3]]]], .op (.fld 1) [.op (.fn 67 0) [.op .row [.var 0, .var 3]]], .op (.fld 2) [.op (.fn 67 0) [.op .row [.var 0, .var 3]]], .op (.fld 3) [.op (.fn 67 0) [.op .row [.var 0, .var 3]]]]], .op (.bin .add .i64) [.var 3, .int 1]])) (.back 0 [.var 2, .op (.bin .add .i64) [.var 3, .int 1]])))) (.ret [.var 2]))
theorem v21_eq : vcOf TT (sigs [g66, g67]) [] Try.f21 g21.args g21.rets = some v21 := by kernel_rfl

def v49 : VC := .loop 3 0 2 [(.int .i64, 2), (.sl 53 [.sl 80 [.str, .str], .int .i64, .int .i64, .str], 1)] [.nl, .int 0] (.ite (.op (.bin .lss .i64) [.var 2, .op .len [.var 0]]) (.req [.op .le [.int 0, .var 2], .op .lt [.var 2, .op .len [.var 0]]] (.req [.op .le [.int 0, .op (.bin .add .i64) [.var 2, .int 1]], .op .le [.op (.bin .add .i64) [.var 2, .int 1], .op .len [.var 0]], .op .le [.op .len [.var 0], .op .len [.var 0]], .op (.fn 85 1000) [.op .cut [.var 0, .op (.bin .add .i64) [.var 2, .int 1], .op .subn [.op .len [.var 0], .op (.bin .add .i64) [.var 2, .int 1]]], .op (.fld 0) [.op .row [.var 0, .var 2]]]] (.ite (.op (.bin .lss .i64) [.op (.fn 85 0) [.op .cut [.var 0, .op (.bin .add .i64) [.var 2, .int 1], .op .subn [.op .len [.var 0], .op (.bin .add .i64) [.var 2, .int 1]]], .op (.fld 0) [.op .row [.var 0, .var 2]]], .int 0]) (.req [.op (.fn 67 1000) [.op .row [.var 0, .var 2]], .op (.appfit 56) [.op .asl [.var 1], .op (.rows 4) [.op .asl [.op (.fld 0) [.op (.fn 67 0) [.op .row [.var 0, .var 2]]]], .op (.fld 1) [.op (.fn 67 0) [.op .row [.var 0, .var 2]]], .op (.fld 2) [.op (.fn 67 0) [.op .row [.var 0, .var 2]]], .op (.fld 3) [.op (.fn 67 0) [.op .row [.var 0, .var 2]]]]]] (.back 0 [.op .lapp [.op .asl [.var 1], .op (.rows 4) [.op .asl [.op (.fld 0) [.op (.fn 67 0) [.op .row [.var 0, .var 2]]]], .op (.fld 1) [.op (.fn 67 0) [.op .row [.var 0, .var 2]]], .op (.fld 2) [.op (.fn 67 0) [.op .row [.var 0, .var 2]]], .op (.fld 3) [.op (.fn 67 0) [.op .row [.var 0, .var 2]]]]], .op (.bin .add .i64) [.var 2, .int 1]])) (.back 0 [.var 1, .op (.bin .add .i64) [.var 2, .int 1]])))) (.req [.op (.fn 86 1000) [.op .asl [.var 1]]] (.ret [.op (.fn 86 0) [.op .asl [.var 1]]])))
theorem v49_eq : vcOf TT (sigs [g67, g85, g86]) [] Try.f49 g49.args g49.rets = some v49 := by kernel_rfl

def v51 : VC := .loop 3 0 2 [(.int .i64, 1), (.sl 53 [.sl 80 [.str, .str], .int .i64, .int .i64, .str], 2)] [.int 0, .op (.rows 4) []] (.ite (.op (.bin .lss .i64) [.var 1, .op .len [.var 0]]) (.loop 7 1 2 [(.bool, 3), (.int .i64, 4)] [.bool true, .op (.bin .add .i64) [.var 1, .int 1]] (.ite (.op (.bin .lss .i64) [.var 4, .op .len [.var 0]]) (.req [.op .ite [.var 3, .op .le [.int 0, .var 4], .bool true], .op .ite [.var 3, .op .lt [.var 4, .op .len [.var 0]], .bool true], .op .ite [.var 3, .op .le [.int 0, .var 1], .bool true], .op .ite [.var 3, .op .lt [.var 1, .op .len [.var 0]], .bool true], .op .ite [.var 3, .op (.fn 63 1000) [.op (.fld 0) [.op .row [.var 0, .var 4]], .op (.fld 0) [.op .row [.var 0, .var 1]]], .bool true]] (.back 1 [.op .ite [.var 3, .op .not [.op (.fn 63 0) [.op (.fld 0) [.op .row [.var 0, .var 4]], .op (.fld 0) [.op .row [.var 0, .var 1]]]], .bool false], .op (.bin .add .i64) [.var 4, .int 1]])) (.ite (.var 3) (.req [.op .le [.int 0, .var 1], .op .lt [.var 1, .op .len [.var 0]], .op (.appfit 56) [.op .asl [.var 2], .op .asl [.op (.rows 4) [.op (.fld 0) [.op .row [.var 0, .var 1]], .op (.fld 1) [.op .row [.var 0, .var 1]], .op (.fld 2) [.op .row [.var 0, .var 1]], .op (.fld 3) [.op .row [.var 0, .var 1]]]]]] (.back 0 [.op (.bin .add .i64) [.var 1, .int 1], .op .lapp [.op .asl [.var 2], .op .asl [.op (.rows 4) [.op (.fld 0) [.op .row [.var 0, .var 1]], .op (.fld 1) [.op .row [.var 0, .var 1]], .op (.fld 2) [.op .row [.var 0, .var 1]], .op (.fld 3) [.op .row [.var 0, .var 1]]]]]])) (.back 0 [.op (.bin .add .i64) [.var 1, .int 1], .var 2])))) (.req [.op (.fn 87 1000) [.op .asl [.var 2]]] (.ret [.op (.fn 87 0) [.op .asl [.var 2]]])))
theorem v51_eq : vcOf TT (sigs [g63, g87]) [⟨3, [], [], true⟩] Try.f51 g51.args g51.rets = some v51 := by kernel_rfl

def v54 : VC := .loop 2 0 1 [(.int .i64, 2)] [.int 0] (.ite (.op .ite [.op (.bin .lss .i64) [.var 2, .op .len [.var 0]], .op (.bin .lss .i64) [.var 2, .op .len [.var 1]], .bool false]) (.req [.op .le [.int 0, .var 2], .op .lt [.var 2, .op .len [.var 0]], .op .lt [.var 2, .op .len [.var 1]]] (.ite (.op (.sbin .neq) [.op (.fld 0) [.op .row [.var 0, .var 2]], .op (.fld 0) [.op .row [.var 1, .var 2]]]) (.req [.op .le [.int 0, .var 2], .op .lt [.var 2, .op .len [.var 0]], .op .lt [.var 2, .op .len [.var 1]]] (.ret [.op (.sbin .lss) [.op (.fld 0) [.op .row [.var 0, .var 2]], .op (.fld 0) [.op .row [.var 1, .var 2]]]])) (.req [.op .le [.int 0, .var 2], .op .lt [.var 2, .op .len [.var 0]], .op .lt [.var 2, .op .len [.var 1]]] (.ite (.op (.sbin .neq) [.op (.fld 1) [.op .row [.var 0, .var 2]], .op (.fld 1) [.op .row [.var 1, .var 2]]]) (.req [.op .le [.int 0, .var 2], .op .lt [.var 2, .op .len [.var 0]], .op .lt [.var 2, .op .len [.var 1]]] (.ret [.op (.sbin .lss) [.op (.fld 1) [.op .row [.var 0, .var 2]], .op (.fld 1) [.op .row [.var 1, .var 2]]]])) (.back 0 [.op (.bin .add .i64) [.var 2, .int 1]]))))) (.ret [.op (.bin .lss .i64) [.op .len [.var 0], .op .len [.var 1]]]))
theorem v54_eq : vcOf TT (sigs []) [⟨2, [0], [], false⟩] Try.f54 g54.args g54.rets = some v54 := by kernel_rfl

def v60 : VC := .req [.op (.fn 63 1000) [.op (.fld 0) [.var 0], .op (.fld 0) [.var 1]]] (.ret [.op .ite [.op .ite [.op .ite [.op (.fn 63 0) [.op (.fld 0) [.var 0], .op (.fld 0) [.var 1]], .op (.bin .eql .i64) [.op (.fld 1) [.var 0], .op (.fld 1) [.var 1]], .bool false], .op (.bin .eql .i64) [.op (.fld 2) [.var 0], .op (.fld 2) [.var 1]], .bool false], .op (.sbin .eql) [.op (.fld 3) [.var 0], .op (.fld 3) [.var 1]], .bool false]])
theorem v60_eq : vcOf TT (sigs [g63]) [] Try.f60 g60.args g60.rets = some v60 := by kernel_rfl

def v63 : VC := .ite (.op (.bin .neq .i64) [.op .len [.var 0], .op .len [.var 1]]) (.ret [.bool false]) (.loop 4 0 1 [(.int .i64, 2)] [.int 0] (.ite (.op (.bin .lss .i64) [.var 2, .op .len [.var 0]]) (.req [.op .le [.int 0, .var 2], .op .lt [.var 2, .op .len [.var 0]], .op .lt [.var 2, .op .len [.var 1]]] (.ite (.op .not [.op .and [.op (.sbin .eql) [.op (.fld 0) [.op .row [.var 0, .var 2]], .op (.fld 0) [.op .row [.var 1, .var 2]]], .op (.sbin .eql) [.op (.fld 1) [.op .row [.var 0, .var 2]], .op (.fld 1) [.op .row [.var 1, .var 2]]]]]) (.ret [.bool false]) (.back 0 [.op (.bin .add .i64) [.var 2, .int 1]]))) (.ret [.bool true])))
theorem v63_eq : vcOf TT (sigs []) [⟨4, [0], [], false⟩] Try.f63 g63.args g63.rets = some v63 := by kernel_rfl

def v64 : VC := .req [.op (.appfit 32) [.op .asl [.op (.rows 2) []], .op (.fld 0) [.var 0]]] (.ret [.op .lapp [.op .asl [.op (.rows 2) []], .op (.fld 0) [.var 0]], .op (.fld 1) [.var 0], .op (.fld 2) [.var 0], .op (.fld 3) [.var 0]])
theorem v64_eq : vcOf TT (sigs []) [] Try.f64 g64.args g64.rets = some v64 := by kernel_rfl

def v66 : VC := .ite (.op (.bin .neq .i64) [.op .len [.var 0], .op .len [.var 1]]) (.ret [.bool false]) (.loop 4 0 1 [(.int .i64, 2)] [.int 0] (.ite (.op (.bin .lss .i64) [.var 2, .op .len [.var 0]]) (.req [.op .le [.int 0, .var 2], .op .lt [.var 2, .op .len [.var 0]], .op .lt [.var 2, .op .len [.var 1]]] (.ite (.op .not [.op .and [.op (.sbin .eql) [.op (.fld 0) [.op .row [.var 0, .var 2]], .op (.fld 0) [.op .row [.var 1, .var 2]]], .op (.sbin .eql) [.op (.fld 1) [.op .row [.var 0, .var 2]], .op (.fld 1) [.op .row [.var 1, .var 2]]]]]) (.ret [.bool false]) (.back 0 [.op (.bin .add .i64) [.var 2, .int 1]]))) (.ret [.bool true])))
theorem v66_eq : vcOf TT (sigs []) [⟨4, [0], [], false⟩] Try.f66 g66.args g66.rets = some v66 := by kernel_rfl

def v67 : VC := .req [.op (.fn 90 1000) [.op (.fld 0) [.var 0]]] (.ret [.op (.fn 90 0) [.op (.fld 0) [.var 0]], .op (.fld 1) [.var 0], .op (.fld 2) [.var 0], .op (.fld 3) [.var 0]])
theorem v67_eq : vcOf TT (sigs [g90]) [] Try.f67 g67.args g67.rets = some v67 := by kernel_rfl

def v85 : VC := .loop 2 0 1 [(.int .i64, 2)] [.int 0] (.ite (.op (.bin .lss .i64) [.var 2, .op .len [.var 0]]) (.req [.op .le [.int 0, .var 2], .op .lt [.var 2, .op .len [.var 0]]] (.req [.op (.fn 66 1000) [.op (.fld 0) [.op .row [.var 0, .var 2]], .var 1]] (.ite (.op (.fn 66 0) [.op (.fld 0) [.op .row [.var 0, .var 2]], .var 1]) (.ret [.var 2]) (.back 0 [.op (.bin .add .i64) [.var 2, .int 1]])))) (.ret [.int (-1)]))
theorem v85_eq : vcOf TT (sigs [g66]) [⟨2, [0], [], false⟩] Try.f85 g85.args g85.rets = some v85 := by kernel_rfl

def v87 : VC := .loop 3 0 2 [(.int .i64, 1), (.sl 53 [.sl 80 [.str, .str], .int .i64, .int .i64, .str], 2)] [.int 0, .op (.rows 4) []] (.ite (.op (.bin .lss .i64) [.var 1, .op .len [.var 0]]) (.req [.op .le [.int 0, .var 1], .op .lt [.var 1, .op .len [.var 0]], .op (.fn 64 1000) [.op .row [.var 0, .var 1]]] (.loop 7 1 1 [(.int .i64, 3)] [.op .len [.var 2]] (.req [.op .ite [.op (.bin .gtr .i64) [.var 3, .int 0], .op .le [.int 0, .op (.bin .sub .i64) [.var 3, .int 1]], .bool true], .op .ite [.op (.bin .gtr .i64) [.var 3, .int 0], .op .lt [.op (.bin .sub .i64) [.var 3, .int 1], .op .len [.var 2]], .bool true], .op .ite [.op (.bin .gtr .i64) [.var 3, .int 0], .op .ltlen [.op (.bin .sub .i64) [.var 3, .int 1], .var 2], .bool true], .op .ite [.op (.bin .gtr .i64) [.var 3, .int 0], .op (.fn 98 1000) [.op .asl [.op (.fld 0) [.op (.fn 64 0) [.op .row [.var 0, .var 1]]]], .op (.fld 0) [.op .row [.var 2, .op (.bin .sub .i64) [.var 3, .int 1]]]], .bool true]] (.ite (.op .ite [.op (.bin .gtr .i64) [.var 3, .int 0], .op (.fn 98 0) [.op .asl [.op (.fld 0) [.op (.fn 64 0) [.op .row [.var 0, .var 1]]]], .op (.fld 0) [.op .row [.var 2, .op (.bin .sub .i64) [.var 3, .int 1]]]], .bool false]) (.back 1 [.op (.bin .sub .i64) [.var 3, .int 1]]) (.req [.op .le [.int 0, .int 0], .op .le [.int 0, .var 3], .op .le [.var 3, .op .len [.var 2]], .op .le [.op .len [.var 2], .op .len [.var 2]], .op (.appfit 56) [.op .asl [.op (.rows 4) []], .op .cut [.var 2, .int 0, .op .subn [.var 3, .int 0]]], .op (.appfit 56) [.op .asl [.op .lapp [.op .asl [.op (.rows 4) []], .op .cut [.var 2, .int 0, .op .subn [.var 3, .int 0]]]], .op .asl [.op (.rows 4) [.op .asl [.op (.fld 0) [.op (.fn 64 0) [.op .row [.var 0, .var 1]]]], .op (.fld 1) [.op (.fn 64 0) [.op .row [.var 0, .var 1]]], .op (.fld 2) [.op (.fn 64 0) [.op .row [.var 0, .var 1]]], .op (.fld 3) [.op (.fn 64 0) [.op .row [.var 0, .var 1]]]]]], .op (.appfit 56) [.op .asl [.op .lapp [.op .asl [.op .lapp [.op .asl [.op (.rows 4) []], .op .cut [.var 2, .int 0, .op .subn [.var 3, .int 0]]]], .op .asl [.op (.rows 4) [.op .asl [.op (.fld 0) [.op (.fn 64 0) [.op .row [.var 0, .var 1]]]], .op (.fld 1) [.op (.fn 64 0) [.op .row [.var 0, .var 1]]], .op (.fld 2) [.op (.fn 64 0) [.op .row [.var 0, .var 1]]], .op (.fld 3) [.op (.fn 64 0) [.op .row [.var 0, .var 1]]]]]]], .op .cut [.var 2, .var 3, .op .subn [.op .len [.var 2], .var 3]]]] (.back 0 [.op (.bin .add .i64) [.var 1, .int 1], .op .lapp [.op .asl [.op .lapp [.op .asl [.op .lapp [.op .asl [.op (.rows 4) []], .op .cut [.var 2, .int 0, .op .subn [.var 3, .int 0]]]], .op .asl [.op (.rows 4) [.op .asl [.op (.fld 0) [.op (.fn 64 0) [.op .row [.var 0, .var 1]]]], .op (.fld 1) [.op (.fn 64 0) [.op .row [.var 0, .var 1]]], .op (.fld 2) [.op (.fn 64 0) [.op .row [.var 0, .var 1]]], .op (.fld 3) [.op (.fn 64 0) [.op .row [.var 0, .var 1]]]]]]], .op .cut [.var 2, .var 3, .op .subn [.op .len [.var 2], .var 3]]]])))))) (.ret [.var 2]))
theorem v87_eq : vcOf TT (sigs [g64, g98]) [⟨3, [], [], true⟩] Try.f87 g87.args g87.rets = some v87 := by kernel_rfl

def v90 : VC := .req [.op (.appfit 32) [.op .asl [.nl], .var 0]] (.ret [.op .lapp [.op .asl [.nl], .var 0]])
theorem v90_eq : vcOf TT (sigs []) [] Try.f90 g90.args g90.rets = some v90 := by kernel_rfl

def v97 : VC := .req [.op .le [.int 0, .var 0], .op .lt [.var 0, .op .len [.op (.fld 0) [.var 2]]], .op .le [.int 0, .var 1], .op .lt [.var 1, .op .len [.op (.fld 0) [.var 2]]], .op (.fn 54 1000) [.op (.fld 0) [.op .row [.op (.fld 0) [.var 2], .var 0]], .op (.fld 0) [.op .row [.op (.fld 0) [.var 2], .var 1]]]] (.ret [.op (.fn 54 0) [.op (.fld 0) [.op .row [.op (.fld 0) [.var 2], .var 0]], .op (.fld 0) [.op .row [.op (.fld 0) [.var 2], .var 1]]]])
theorem v97_eq : vcOf TT (sigs [g54]) [] Try.f97 g97.args g97.rets = some v97 := by kernel_rfl

def v98 : VC := .loop 2 0 1 [(.int .i64, 2)] [.int 0] (.ite (.op .ite [.op (.bin .lss .i64) [.var 2, .op .len [.var 0]], .op (.bin .lss .i64) [.var 2, .op .len [.var 1]], .bool false]) (.req [.op .le [.int 0, .var 2], .op .lt [.var 2, .op .len [.var 0]], .op .lt [.var 2, .op .len [.var 1]]] (.ite (.op (.sbin .neq) [.op (.fld 0) [.op .row [.var 0, .var 2]], .op (.fld 0) [.op .row [.var 1, .var 2]]]) (.req [.op .le [.int 0, .var 2], .op .lt [.var 2, .op .len [.var 0]], .op .lt [.var 2, .op .len [.var 1]], .op (.fn 108 1000) [.op (.fld 0) [.op .row [.var 0, .var 2]], .op (.fld 0) [.op .row [.var 1, .var 2]]]] (.ret [.op (.fn 108 0) [.op (.fld 0) [.op .row [.var 0, .var 2]], .op (.fld 0) [.op .row [.var 1, .var 2]]]])) (.req [.op .le [.int 0, .var 2], .op .lt [.var 2, .op .len [.var 0]], .op .lt [.var 2, .op .len [.var 1]]] (.ite (.op (.sbin .neq) [.op (.fld 1) [.op .row [.var 0, .var 2]], .op (.fld 1) [.op .row [.var 1, .var 2]]]) (.req [.op .le [.int 0, .var 2], .op .lt [.var 2, .op .len [.var 0]], .op .lt [.var 2, .op .len [.var 1]], .op (.fn 108 1000) [.op (.fld 1) [.op .row [.var 0, .var 2]], .op (.fld 1) [.op .row [.var 1, .var 2]]]] (.ret [.op (.fn 108 0) [.op (.fld 1) [.op .row [.var 0, .var 2]], .op (.fld 1) [.op .row [.var 1, .var 2]]]])) (.back 0 [.op (.bin .add .i64) [.var 2, .int 1]]))))) (.ret [.op (.bin .lss .i64) [.op .len [.var 0], .op .len [.var 1]]]))
theorem v98_eq : vcOf TT (sigs [g108]) [⟨2, [0], [], false⟩] Try.f98 g98.args g98.rets = some v98 := by kernel_rfl

def v108 : VC := .ret [.op (.sbin .lss) [.var 0, .var 1]]
theorem v108_eq : vcOf TT (sigs []) [] Try.f108 g108.args g108.rets = some v108 := by kernel_rfl

end Go.Proofs.Ytpgpkomolheinaa

