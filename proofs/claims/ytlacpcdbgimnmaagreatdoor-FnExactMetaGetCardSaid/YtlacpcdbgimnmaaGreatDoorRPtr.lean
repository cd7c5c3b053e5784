/- Pointers, trees and roots: what their tests return. No condition. -/
import Derived.Test.YtlacpcdbgimnmaaGreatDoorRTypes
set_option linter.unnecessarySimpa false
set_option linter.unusedSimpArgs false
set_option linter.unusedVariables false
namespace Go.Proofs.YtlacpcdbgimnmaaGreatDoor
open Go.RowKit
def ptrHole (a b s m l : Int) : Bool := decide (a = 0 ∧ b = 0 ∧ s = 0 ∧ m = 0 ∧ l = 0)
def ptrOkB (a b s m l : Int) : Bool := ptrHole a b s m l || (inB a 8 63 && (inB b 1 900 && (inB s 1 128 && (inB m 0 99460728 && inB l 0 2))))
def ptrV (a b s m l : Int) : Value := .agg #[.int .i64 a, .int .i64 b, .int .i64 s, .int .i64 m, .int .i64 l]
def treeV (a b s m l d n : Int) : Value := .agg #[.int .i64 a, .int .i64 b, .int .i64 s, .int .i64 m, .int .i64 l, .int .i64 d, .int .i64 n]
set_option maxHeartbeats 400000 in
theorem ptrHole_any (a b s m l : Int) (w : World) :
 Calls Tryz.prog 60 #[ptrV a b s m l] w fun e w' => e = .returned (.bool (ptrHole a b s m l)) ∧ Below w.heap.size w w' := by
 unfold ptrV
 go_enter Tryz.func60, Tryz.ntmps60
 go_wp2_with fail
 all_goals (go_ret; exact ⟨ret_bool (by simp [ptrHole, *]), bel1⟩)
set_option maxHeartbeats 400000 in
theorem spPtrHole_any (a b s m l : Int) (w : World) :
 Calls Tryz.prog 53 #[ptrV a b s m l] w fun e w' => e = .returned (.bool (ptrHole a b s m l)) ∧ Below w.heap.size w w' := by
 unfold ptrV
 go_enter Tryz.func53, Tryz.ntmps53
 go_wp2_with fail
 all_goals (go_ret; exact ⟨ret_bool (by simp [ptrHole, *]), bel1⟩)
set_option maxHeartbeats 1000000 in
theorem ptrOk_any (a b s m l : Int) (w : World) :
 Calls Tryz.prog 76 #[ptrV a b s m l] w fun e w' => e = .returned (.bool (ptrOkB a b s m l)) ∧ Below w.heap.size w w' := by
 show Calls Tryz.prog 76 #[.agg #[.int .i64 a, .int .i64 b, .int .i64 s, .int .i64 m, .int .i64 l]] w _
 go_enter Tryz.func76, Tryz.ntmps76
 go_wp2_with fail
 refine (ptrHole_any a b s m l _).mono ?_
 rintro e w1 ⟨rfl, hb1⟩
 have HB := bel1.trans (hb1.mono (by simp))
 have c1_0 : w1.cell? ⟨w.heap.size, 0, none⟩ = some (.int .i64 a) := (hb1.cell (by simp)).trans (by simp [go_sem])
 have c1_1 : w1.cell? ⟨w.heap.size, 1, none⟩ = some (.int .i64 b) := (hb1.cell (by simp)).trans (by simp [go_sem])
 have c1_2 : w1.cell? ⟨w.heap.size, 2, none⟩ = some (.int .i64 s) := (hb1.cell (by simp)).trans (by simp [go_sem])
 have c1_3 : w1.cell? ⟨w.heap.size, 3, none⟩ = some (.int .i64 m) := (hb1.cell (by simp)).trans (by simp [go_sem])
 have c1_4 : w1.cell? ⟨w.heap.size, 4, none⟩ = some (.int .i64 l) := (hb1.cell (by simp)).trans (by simp [go_sem])
 clear hb1
 generalize hh : ptrHole a b s m l = h
 cases h
 all_goals go_wp2_with fail
 repeat' (first
  | (go_at_call 99; refine (isRow_any _ _).mono ?_; rintro e w' ⟨rfl, rfl⟩; generalize hb : inB _ _ _ = b; cases b <;> go_wp2_with fail)
  | (go_at_call 41; refine (within_any _ _ _ _).mono ?_; rintro e w' ⟨rfl, rfl⟩; generalize hb : inB _ _ _ = b; cases b <;> go_wp2_with fail))
 all_goals (go_ret; exact ⟨ret_bool (by simp [ptrOkB, *]), HB⟩)
set_option maxHeartbeats 1000000 in
theorem spPtrOk_any (a b s m l : Int) (w : World) :
 Calls Tryz.prog 52 #[ptrV a b s m l] w fun e w' => e = .returned (.bool (ptrOkB a b s m l)) ∧ Below w.heap.size w w' := by
 show Calls Tryz.prog 52 #[.agg #[.int .i64 a, .int .i64 b, .int .i64 s, .int .i64 m, .int .i64 l]] w _
 go_enter Tryz.func52, Tryz.ntmps52
 go_wp2_with fail
 refine (spPtrHole_any a b s m l _).mono ?_
 rintro e w1 ⟨rfl, hb1⟩
 have HB := bel1.trans (hb1.mono (by simp))
 have c1_0 : w1.cell? ⟨w.heap.size, 0, none⟩ = some (.int .i64 a) := (hb1.cell (by simp)).trans (by simp [go_sem])
 have c1_1 : w1.cell? ⟨w.heap.size, 1, none⟩ = some (.int .i64 b) := (hb1.cell (by simp)).trans (by simp [go_sem])
 have c1_2 : w1.cell? ⟨w.heap.size, 2, none⟩ = some (.int .i64 s) := (hb1.cell (by simp)).trans (by simp [go_sem])
 have c1_3 : w1.cell? ⟨w.heap.size, 3, none⟩ = some (.int .i64 m) := (hb1.cell (by simp)).trans (by simp [go_sem])
 have c1_4 : w1.cell? ⟨w.heap.size, 4, none⟩ = some (.int .i64 l) := (hb1.cell (by simp)).trans (by simp [go_sem])
 clear hb1
 generalize hh : ptrHole a b s m l = h
 cases h
 all_goals go_wp2_with fail
 repeat' (first
  | (go_at_call 68; refine (l2Row_any _ _).mono ?_; rintro e w' ⟨rfl, rfl⟩; generalize hb : inB _ _ _ = b; cases b <;> go_wp2_with fail)
  | (go_at_call 31; refine (l6In_any _ _ _ _).mono ?_; rintro e w' ⟨rfl, rfl⟩; generalize hb : inB _ _ _ = b; cases b <;> go_wp2_with fail))
 all_goals (go_ret; exact ⟨ret_bool (by simp [ptrOkB, *]), HB⟩)
end Go.Proofs.YtlacpcdbgimnmaaGreatDoor
