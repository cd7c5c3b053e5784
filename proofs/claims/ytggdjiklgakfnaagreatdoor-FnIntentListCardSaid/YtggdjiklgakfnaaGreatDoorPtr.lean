/- Pointers, trees and roots: what their tests return. No condition. -/
import Derived.Test.YtggdjiklgakfnaaGreatDoorTypes
namespace Go.Proofs.YtggdjiklgakfnaaGreatDoor
set_option linter.unnecessarySimpa false
open Go.RowKit
set_option linter.unusedSimpArgs false
set_option linter.unusedVariables false

def ptrHole (a b s m l : Int) : Bool := decide (a = 0 ∧ b = 0 ∧ s = 0 ∧ m = 0 ∧ l = 0)
def ptrOkB (a b s m l : Int) : Bool := ptrHole a b s m l || (inB a 8 63 && (inB b 1 900 && (inB s 1 128 && (inB m 0 99460728 && inB l 0 2))))
/-- A pointer's value. -/
def ptrV (a b s m l : Int) : Value := .agg #[.int .i64 a, .int .i64 b, .int .i64 s, .int .i64 m, .int .i64 l]
/-- A tree's value. -/
def treeV (a b s m l d n : Int) : Value := .agg #[.int .i64 a, .int .i64 b, .int .i64 s, .int .i64 m, .int .i64 l, .int .i64 d, .int .i64 n]
def rootV (t a b s m l d n : Int) : Value := .agg #[.int .i64 t, .int .i64 a, .int .i64 b, .int .i64 s, .int .i64 m, .int .i64 l, .int .i64 d, .int .i64 n]
def rootOkB (t a b s m l d n : Int) : Bool := inB t 1 900 && (ptrOkB a b s m l && (inB d 0 2 && inB n 1 16))











end Go.Proofs.YtggdjiklgakfnaaGreatDoor
