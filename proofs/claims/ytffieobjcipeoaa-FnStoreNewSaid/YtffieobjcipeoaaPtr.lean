/- Pointers, trees and roots: what their tests return. No condition. -/
import Derived.Test.YtffieobjcipeoaaTypes
namespace Go.Proofs.Ytffieobjcipeoaa
set_option linter.unnecessarySimpa false
open Go.RowKit
set_option linter.unusedSimpArgs false
set_option linter.unusedVariables false

def ptrHole (a b s m l : Int) : Bool := decide (a = 0 ∧ b = 0 ∧ s = 0 ∧ m = 0 ∧ l = 0)
def ptrOkB (a b s m l : Int) : Bool := ptrHole a b s m l || (inB a 8 63 && (inB b 1 900 && (inB s 1 128 && (inB m 0 99460728 && inB l 0 2))))
/-- A pointer's value. -/
def ptrV (a b s m l : Int) : Value := .agg #[.int .i64 a, .int .i64 b, .int .i64 s, .int .i64 m, .int .i64 l]
/-- A tree's value. -/
def treeV (a b s m l d n : Int) : Value := .agg #[.int .i64 a, .int .i64 b, .int .i64 s, .int .i64 m, .int .i64 l, .int .i64 d, .int .i64 n]
def rootV (t a b s m l d n : Int) : Value := .agg #[.int .i64 t, .int .i64 a, .int .i64 b, .int .i64 s, .int .i64 m, .int .i64 l, .int .i64 d, .int .i64 n]
def rootOkB (t a b s m l d n : Int) : Bool := inB t 1 900 && (ptrOkB a b s m l && (inB d 0 2 && inB n 1 16))

set_option maxHeartbeats 400000 in
theorem ptrHole_any (a b s m l : Int) (w : World) :
    Calls Try.prog 51 #[ptrV a b s m l] w fun e w' => e = .returned (.bool (ptrHole a b s m l)) ∧ Below w.heap.size w w' := by
  unfold ptrV
  go_enter Try.func51, Try.ntmps51
  go_wp2_with fail
  all_goals (go_ret; exact ⟨ret_bool (by simp [ptrHole, *]), bel1⟩)

set_option maxHeartbeats 400000 in
theorem spPtrHole_any (a b s m l : Int) (w : World) :
    Calls Try.prog 110 #[ptrV a b s m l] w fun e w' => e = .returned (.bool (ptrHole a b s m l)) ∧ Below w.heap.size w w' := by
  unfold ptrV
  go_enter Try.func110, Try.ntmps110
  go_wp2_with fail
  all_goals (go_ret; exact ⟨ret_bool (by simp [ptrHole, *]), bel1⟩)

set_option maxHeartbeats 1000000 in
theorem ptrOk_any (a b s m l : Int) (w : World) :
    Calls Try.prog 50 #[ptrV a b s m l] w fun e w' => e = .returned (.bool (ptrOkB a b s m l)) ∧ Below w.heap.size w w' := by
  show Calls Try.prog 50 #[.agg #[.int .i64 a, .int .i64 b, .int .i64 s, .int .i64 m, .int .i64 l]] w _
  go_enter Try.func50, Try.ntmps50
  go_wp2_with fail
  refine (ptrHole_any a b s m l _).mono ?_
  rintro e w1 ⟨rfl, hb1⟩
  have HB := bel1.trans (hb1.mono (by simp))
  have c1_0 : w1.cell? ⟨w.heap.size, 0, none⟩ = some (.int .i64 a) := (hb1.cell (by simp)).trans (by simp [go_sem])
  have c1_1 : w1.cell? ⟨w.heap.size, 1, none⟩ = some (.int .i64 b) := (hb1.cell (by simp)).trans (by simp [go_sem])
  have c1_2 : w1.cell? ⟨w.heap.size, 2, none⟩ = some (.int .i64 s) := (hb1.cell (by simp)).trans (by simp [go_sem])
  have c1_3 : w1.cell? ⟨w.heap.size, 3, none⟩ = some (.int .i64 m) := (hb1.cell (by simp)).trans (by simp [go_sem])
  have c1_4 : w1.cell? ⟨w.heap.size, 4, none⟩ = some (.int .i64 l) := (hb1.cell (by simp)).trans (by simp [go_sem])
  clear hb1
  generalize hh : ptrHole a b s m l = h
  cases h
  all_goals go_wp2_with fail
  repeat' (first
    | (go_at_call 80; refine (isRow_any _ _).mono ?_; rintro e w' ⟨rfl, rfl⟩; generalize hb : inB _ _ _ = b; cases b <;> go_wp2_with fail)
    | (go_at_call 47; refine (within_any _ _ _ _).mono ?_; rintro e w' ⟨rfl, rfl⟩; generalize hb : inB _ _ _ = b; cases b <;> go_wp2_with fail))
  all_goals (go_ret; exact ⟨ret_bool (by simp [ptrOkB, *]), HB⟩)

set_option maxHeartbeats 1000000 in
theorem spPtrOk_any (a b s m l : Int) (w : World) :
    Calls Try.prog 109 #[ptrV a b s m l] w fun e w' => e = .returned (.bool (ptrOkB a b s m l)) ∧ Below w.heap.size w w' := by
  show Calls Try.prog 109 #[.agg #[.int .i64 a, .int .i64 b, .int .i64 s, .int .i64 m, .int .i64 l]] w _
  go_enter Try.func109, Try.ntmps109
  go_wp2_with fail
  refine (spPtrHole_any a b s m l _).mono ?_
  rintro e w1 ⟨rfl, hb1⟩
  have HB := bel1.trans (hb1.mono (by simp))
  have c1_0 : w1.cell? ⟨w.heap.size, 0, none⟩ = some (.int .i64 a) := (hb1.cell (by simp)).trans (by simp [go_sem])
  have c1_1 : w1.cell? ⟨w.heap.size, 1, none⟩ = some (.int .i64 b) := (hb1.cell (by simp)).trans (by simp [go_sem])
  have c1_2 : w1.cell? ⟨w.heap.size, 2, none⟩ = some (.int .i64 s) := (hb1.cell (by simp)).trans (by simp [go_sem])
  have c1_3 : w1.cell? ⟨w.heap.size, 3, none⟩ = some (.int .i64 m) := (hb1.cell (by simp)).trans (by simp [go_sem])
  have c1_4 : w1.cell? ⟨w.heap.size, 4, none⟩ = some (.int .i64 l) := (hb1.cell (by simp)).trans (by simp [go_sem])
  clear hb1
  generalize hh : ptrHole a b s m l = h
  cases h
  all_goals go_wp2_with fail
  repeat' (first
    | (go_at_call 81; refine (l2Row_any _ _).mono ?_; rintro e w' ⟨rfl, rfl⟩; generalize hb : inB _ _ _ = b; cases b <;> go_wp2_with fail)
    | (go_at_call 56; refine (l6In_any _ _ _ _).mono ?_; rintro e w' ⟨rfl, rfl⟩; generalize hb : inB _ _ _ = b; cases b <;> go_wp2_with fail))
  all_goals (go_ret; exact ⟨ret_bool (by simp [ptrOkB, *]), HB⟩)



set_option maxHeartbeats 1000000 in
theorem toPtr_any (a b s m l : Int) (w : World) :
    Calls Try.prog 114 #[ptrV a b s m l] w fun e w' => e = .returned (ptrV a b s m l) ∧ Below w.heap.size w w' := by
  show Calls Try.prog 114 #[.agg #[.int .i64 a, .int .i64 b, .int .i64 s, .int .i64 m, .int .i64 l]] w _
  go_enter Try.func114, Try.ntmps114
  go_wp2
  exact bodyPost_ret (v := .agg #[.int .i64 a, .int .i64 b, .int .i64 s, .int .i64 m, .int .i64 l]) (by simp [results, Try.results114, go_sem]) rfl ⟨rfl, by repeat (first | exact Below.refl _ _ | refine Below.setCell ?_ (by simp <;> omega) _ | refine Below.alloc ?_ (by simp <;> omega) _)⟩




end Go.Proofs.Ytffieobjcipeoaa
