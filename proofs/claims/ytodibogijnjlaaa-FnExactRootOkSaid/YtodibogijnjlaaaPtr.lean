/- Pointers, trees and roots: what their tests return. No condition. -/
import Derived.Test.YtodibogijnjlaaaSmall
import Derived.Test.YtodibogijnjlaaaTypes
namespace Go.Proofs.Ytodibogijnjlaaa
set_option linter.unnecessarySimpa false
open Go.RowKit
set_option linter.unusedSimpArgs false
set_option linter.unusedVariables false

def ptrHole (a b s m l : Int) : Bool := decide (a = 0 ∧ b = 0 ∧ s = 0 ∧ m = 0 ∧ l = 0)
def ptrOkB (a b s m l : Int) : Bool := ptrHole a b s m l || (inB a 8 63 && (inB b 1 900 && (inB s 1 128 && (inB m 0 99460728 && inB l 0 2))))
/-- A pointer's value. -/
def ptrV (a b s m l : Int) : Value := .agg #[.int .i64 a, .int .i64 b, .int .i64 s, .int .i64 m, .int .i64 l]
/-- A tree's value. -/
def treeV (a b s m l d n : Int) : Value := .agg #[.int .i64 a, .int .i64 b, .int .i64 s, .int .i64 m, .int .i64 l, .int .i64 d, .int .i64 n]
def rootV (t a b s m l d n : Int) : Value := .agg #[.int .i64 t, .int .i64 a, .int .i64 b, .int .i64 s, .int .i64 m, .int .i64 l, .int .i64 d, .int .i64 n]
def rootOkB (t a b s m l d n : Int) : Bool := inB t 1 900 && (ptrOkB a b s m l && (inB d 0 2 && inB n 1 16))
theorem bel1 {w : World} {o : Obj} : Below w.heap.size w (w.alloc o) := (Below.refl _ _).alloc (Nat.le_refl _) _

set_option maxHeartbeats 400000 in
theorem ptrHole_any (a b s m l : Int) (w : World) :
    Calls Try.prog 85 #[ptrV a b s m l] w fun e w' => e = .returned (.bool (ptrHole a b s m l)) ∧ Below w.heap.size w w' := by
  unfold ptrV
  go_enter Try.func85, Try.ntmps85
  go_wp2_with fail
  all_goals (go_ret; exact ⟨ret_bool (by simp [ptrHole, *]), bel1⟩)

set_option maxHeartbeats 400000 in
theorem spPtrHole_any (a b s m l : Int) (w : World) :
    Calls Try.prog 83 #[ptrV a b s m l] w fun e w' => e = .returned (.bool (ptrHole a b s m l)) ∧ Below w.heap.size w w' := by
  unfold ptrV
  go_enter Try.func83, Try.ntmps83
  go_wp2_with fail
  all_goals (go_ret; exact ⟨ret_bool (by simp [ptrHole, *]), bel1⟩)

set_option maxHeartbeats 1000000 in
theorem ptrOk_any (a b s m l : Int) (w : World) :
    Calls Try.prog 46 #[ptrV a b s m l] w fun e w' => e = .returned (.bool (ptrOkB a b s m l)) ∧ Below w.heap.size w w' := by
  show Calls Try.prog 46 #[.agg #[.int .i64 a, .int .i64 b, .int .i64 s, .int .i64 m, .int .i64 l]] w _
  go_enter Try.func46, Try.ntmps46
  go_wp2_with fail
  refine (ptrHole_any a b s m l _).mono ?_
  rintro e w1 ⟨rfl, hb1⟩
  have HB := bel1.trans (hb1.mono (by simp))
  have c1_0 : w1.cell? ⟨w.heap.size, 0, none⟩ = some (.int .i64 a) := (hb1.cell (by simp)).trans (by simp [go_sem])
  have c1_1 : w1.cell? ⟨w.heap.size, 1, none⟩ = some (.int .i64 b) := (hb1.cell (by simp)).trans (by simp [go_sem])
  have c1_2 : w1.cell? ⟨w.heap.size, 2, none⟩ = some (.int .i64 s) := (hb1.cell (by simp)).trans (by simp [go_sem])
  have c1_3 : w1.cell? ⟨w.heap.size, 3, none⟩ = some (.int .i64 m) := (hb1.cell (by simp)).trans (by simp [go_sem])
  have c1_4 : w1.cell? ⟨w.heap.size, 4, none⟩ = some (.int .i64 l) := (hb1.cell (by simp)).trans (by simp [go_sem])
  clear hb1
  generalize hh : ptrHole a b s m l = h
  cases h
  all_goals go_wp2_with fail
  repeat' (first
    | (go_at_call 54; refine (isRow_any _ _).mono ?_; rintro e w' ⟨rfl, rfl⟩; generalize hb : inB _ _ _ = b; cases b <;> go_wp2_with fail)
    | (go_at_call 45; refine (within_any _ _ _ _).mono ?_; rintro e w' ⟨rfl, rfl⟩; generalize hb : inB _ _ _ = b; cases b <;> go_wp2_with fail))
  all_goals (go_ret; exact ⟨ret_bool (by simp [ptrOkB, *]), HB⟩)

set_option maxHeartbeats 1000000 in
theorem spPtrOk_any (a b s m l : Int) (w : World) :
    Calls Try.prog 43 #[ptrV a b s m l] w fun e w' => e = .returned (.bool (ptrOkB a b s m l)) ∧ Below w.heap.size w w' := by
  show Calls Try.prog 43 #[.agg #[.int .i64 a, .int .i64 b, .int .i64 s, .int .i64 m, .int .i64 l]] w _
  go_enter Try.func43, Try.ntmps43
  go_wp2_with fail
  refine (spPtrHole_any a b s m l _).mono ?_
  rintro e w1 ⟨rfl, hb1⟩
  have HB := bel1.trans (hb1.mono (by simp))
  have c1_0 : w1.cell? ⟨w.heap.size, 0, none⟩ = some (.int .i64 a) := (hb1.cell (by simp)).trans (by simp [go_sem])
  have c1_1 : w1.cell? ⟨w.heap.size, 1, none⟩ = some (.int .i64 b) := (hb1.cell (by simp)).trans (by simp [go_sem])
  have c1_2 : w1.cell? ⟨w.heap.size, 2, none⟩ = some (.int .i64 s) := (hb1.cell (by simp)).trans (by simp [go_sem])
  have c1_3 : w1.cell? ⟨w.heap.size, 3, none⟩ = some (.int .i64 m) := (hb1.cell (by simp)).trans (by simp [go_sem])
  have c1_4 : w1.cell? ⟨w.heap.size, 4, none⟩ = some (.int .i64 l) := (hb1.cell (by simp)).trans (by simp [go_sem])
  clear hb1
  generalize hh : ptrHole a b s m l = h
  cases h
  all_goals go_wp2_with fail
  repeat' (first
    | (go_at_call 57; refine (l2Row_any _ _).mono ?_; rintro e w' ⟨rfl, rfl⟩; generalize hb : inB _ _ _ = b; cases b <;> go_wp2_with fail)
    | (go_at_call 42; refine (l6In_any _ _ _ _).mono ?_; rintro e w' ⟨rfl, rfl⟩; generalize hb : inB _ _ _ = b; cases b <;> go_wp2_with fail))
  all_goals (go_ret; exact ⟨ret_bool (by simp [ptrOkB, *]), HB⟩)

set_option maxHeartbeats 1000000 in
theorem rootOk_any (t a b s m l d n : Int) (w : World) :
    Calls Try.prog 15 #[rootV t a b s m l d n] w fun e w' => e = .returned (.bool (rootOkB t a b s m l d n)) ∧ Below w.heap.size w w' := by
  show Calls Try.prog 15 #[.agg #[.int .i64 t, .int .i64 a, .int .i64 b, .int .i64 s, .int .i64 m, .int .i64 l, .int .i64 d, .int .i64 n]] w _
  go_enter Try.func15, Try.ntmps15
  go_wp2_with fail
  refine (within_any _ _ _ _).mono ?_
  rintro e w' ⟨rfl, rfl⟩
  generalize hh : inB t 1 900 = h
  cases h
  all_goals go_wp2_with fail
  · go_ret
    exact ⟨ret_bool (by simp [rootOkB, *]), bel1⟩
  refine (ptrOk_any a b s m l _).mono ?_
  rintro e w1 ⟨rfl, hb1⟩
  have HB := bel1.trans (hb1.mono (by simp))
  have c1_0 : w1.cell? ⟨w.heap.size, 0, none⟩ = some (.int .i64 t) := (hb1.cell (by simp)).trans (by simp [go_sem])
  have c1_1 : w1.cell? ⟨w.heap.size, 1, none⟩ = some (.int .i64 a) := (hb1.cell (by simp)).trans (by simp [go_sem])
  have c1_2 : w1.cell? ⟨w.heap.size, 2, none⟩ = some (.int .i64 b) := (hb1.cell (by simp)).trans (by simp [go_sem])
  have c1_3 : w1.cell? ⟨w.heap.size, 3, none⟩ = some (.int .i64 s) := (hb1.cell (by simp)).trans (by simp [go_sem])
  have c1_4 : w1.cell? ⟨w.heap.size, 4, none⟩ = some (.int .i64 m) := (hb1.cell (by simp)).trans (by simp [go_sem])
  have c1_5 : w1.cell? ⟨w.heap.size, 5, none⟩ = some (.int .i64 l) := (hb1.cell (by simp)).trans (by simp [go_sem])
  have c1_6 : w1.cell? ⟨w.heap.size, 6, none⟩ = some (.int .i64 d) := (hb1.cell (by simp)).trans (by simp [go_sem])
  have c1_7 : w1.cell? ⟨w.heap.size, 7, none⟩ = some (.int .i64 n) := (hb1.cell (by simp)).trans (by simp [go_sem])
  clear hb1
  generalize hp : ptrOkB a b s m l = p
  cases p
  all_goals go_wp2_with fail
  repeat' (first
    | (go_at_call 45; refine (within_any _ _ _ _).mono ?_; rintro e w' ⟨rfl, rfl⟩; generalize hb : inB _ _ _ = b; cases b <;> go_wp2_with fail))
  all_goals (go_ret; exact ⟨ret_bool (by simp [rootOkB, *]), HB⟩)

set_option maxHeartbeats 1000000 in
theorem spRootOk_any (t a b s m l d n : Int) (w : World) :
    Calls Try.prog 13 #[rootV t a b s m l d n] w fun e w' => e = .returned (.bool (rootOkB t a b s m l d n)) ∧ Below w.heap.size w w' := by
  show Calls Try.prog 13 #[.agg #[.int .i64 t, .int .i64 a, .int .i64 b, .int .i64 s, .int .i64 m, .int .i64 l, .int .i64 d, .int .i64 n]] w _
  go_enter Try.func13, Try.ntmps13
  go_wp2_with fail
  refine (l6In_any _ _ _ _).mono ?_
  rintro e w' ⟨rfl, rfl⟩
  generalize hh : inB t 1 900 = h
  cases h
  all_goals go_wp2_with fail
  · go_ret
    exact ⟨ret_bool (by simp [rootOkB, *]), bel1⟩
  refine (spPtrOk_any a b s m l _).mono ?_
  rintro e w1 ⟨rfl, hb1⟩
  have HB := bel1.trans (hb1.mono (by simp))
  have c1_0 : w1.cell? ⟨w.heap.size, 0, none⟩ = some (.int .i64 t) := (hb1.cell (by simp)).trans (by simp [go_sem])
  have c1_1 : w1.cell? ⟨w.heap.size, 1, none⟩ = some (.int .i64 a) := (hb1.cell (by simp)).trans (by simp [go_sem])
  have c1_2 : w1.cell? ⟨w.heap.size, 2, none⟩ = some (.int .i64 b) := (hb1.cell (by simp)).trans (by simp [go_sem])
  have c1_3 : w1.cell? ⟨w.heap.size, 3, none⟩ = some (.int .i64 s) := (hb1.cell (by simp)).trans (by simp [go_sem])
  have c1_4 : w1.cell? ⟨w.heap.size, 4, none⟩ = some (.int .i64 m) := (hb1.cell (by simp)).trans (by simp [go_sem])
  have c1_5 : w1.cell? ⟨w.heap.size, 5, none⟩ = some (.int .i64 l) := (hb1.cell (by simp)).trans (by simp [go_sem])
  have c1_6 : w1.cell? ⟨w.heap.size, 6, none⟩ = some (.int .i64 d) := (hb1.cell (by simp)).trans (by simp [go_sem])
  have c1_7 : w1.cell? ⟨w.heap.size, 7, none⟩ = some (.int .i64 n) := (hb1.cell (by simp)).trans (by simp [go_sem])
  clear hb1
  generalize hp : ptrOkB a b s m l = p
  cases p
  all_goals go_wp2_with fail
  repeat' (first
    | (go_at_call 42; refine (l6In_any _ _ _ _).mono ?_; rintro e w' ⟨rfl, rfl⟩; generalize hb : inB _ _ _ = b; cases b <;> go_wp2_with fail))
  all_goals (go_ret; exact ⟨ret_bool (by simp [rootOkB, *]), HB⟩)

set_option maxHeartbeats 1000000 in
theorem toPtr_any (a b s m l : Int) (w : World) :
    Calls Try.prog 84 #[ptrV a b s m l] w fun e w' => e = .returned (ptrV a b s m l) ∧ Below w.heap.size w w' := by
  show Calls Try.prog 84 #[.agg #[.int .i64 a, .int .i64 b, .int .i64 s, .int .i64 m, .int .i64 l]] w _
  go_enter Try.func84, Try.ntmps84
  go_wp2
  exact bodyPost_ret (v := .agg #[.int .i64 a, .int .i64 b, .int .i64 s, .int .i64 m, .int .i64 l]) (by simp [results, Try.results84, go_sem]) rfl ⟨rfl, by repeat (first | exact Below.refl _ _ | refine Below.setCell ?_ (by simp <;> omega) _ | refine Below.alloc ?_ (by simp <;> omega) _)⟩

set_option maxHeartbeats 1000000 in
theorem toTree_any (a b s m l d n : Int) (w : World) :
    Calls Try.prog 44 #[treeV a b s m l d n] w fun e w' => e = .returned (treeV a b s m l d n) ∧ Below w.heap.size w w' := by
  show Calls Try.prog 44 #[.agg #[.int .i64 a, .int .i64 b, .int .i64 s, .int .i64 m, .int .i64 l, .int .i64 d, .int .i64 n]] w _
  go_enter Try.func44, Try.ntmps44
  go_wp2
  refine bodyPost_ret (v := .agg #[.int .i64 a, .int .i64 b, .int .i64 s, .int .i64 m, .int .i64 l]) (by simp [results, Try.results84, go_sem]) rfl ?_
  go_wp2
  exact bodyPost_ret (v := .agg #[.int .i64 a, .int .i64 b, .int .i64 s, .int .i64 m, .int .i64 l, .int .i64 d, .int .i64 n]) (by simp [results, Try.results44, go_sem]) rfl ⟨rfl, by repeat (first | exact Below.refl _ _ | refine Below.setCell ?_ (by simp <;> omega) _ | refine Below.alloc ?_ (by simp <;> omega) _)⟩

set_option maxHeartbeats 1000000 in
theorem toRoot_any (t a b s m l d n : Int) (w : World) :
    Calls Try.prog 14 #[rootV t a b s m l d n] w fun e w' => e = .returned (rootV t a b s m l d n) ∧ Below w.heap.size w w' := by
  show Calls Try.prog 14 #[.agg #[.int .i64 t, .int .i64 a, .int .i64 b, .int .i64 s, .int .i64 m, .int .i64 l, .int .i64 d, .int .i64 n]] w _
  go_enter Try.func14, Try.ntmps14
  go_wp2
  refine bodyPost_ret (v := .agg #[.int .i64 a, .int .i64 b, .int .i64 s, .int .i64 m, .int .i64 l]) (by simp [results, Try.results84, go_sem]) rfl ?_
  go_wp2
  refine bodyPost_ret (v := .agg #[.int .i64 a, .int .i64 b, .int .i64 s, .int .i64 m, .int .i64 l, .int .i64 d, .int .i64 n]) (by simp [results, Try.results44, go_sem]) rfl ?_
  go_wp2
  exact bodyPost_ret (v := .agg #[.int .i64 t, .int .i64 a, .int .i64 b, .int .i64 s, .int .i64 m, .int .i64 l, .int .i64 d, .int .i64 n]) (by simp [results, Try.results14, go_sem]) rfl ⟨rfl, by repeat (first | exact Below.refl _ _ | refine Below.setCell ?_ (by simp <;> omega) _ | refine Below.alloc ?_ (by simp <;> omega) _)⟩

set_option maxHeartbeats 1000000 in
theorem exactRootOk_flat (t a b s m l d n : Int) (w : World) :
    Calls Try.prog 3 #[rootV t a b s m l d n] w fun e w' => e = .returned (.bool true) ∧ Below w.heap.size w w' := by
  show Calls Try.prog 3 #[.agg #[.int .i64 t, .int .i64 a, .int .i64 b, .int .i64 s, .int .i64 m, .int .i64 l, .int .i64 d, .int .i64 n]] w _
  go_enter Try.func3, Try.ntmps3
  go_wp2_with fail
  refine (toRoot_any t a b s m l d n _).mono ?_
  rintro e w1 ⟨rfl, hb1⟩
  have H1 := bel1.trans (hb1.mono (by simp))
  have c1_0 : w1.cell? ⟨w.heap.size, 0, none⟩ = some (.int .i64 t) := (hb1.cell (by simp)).trans (by simp [go_sem])
  have c1_1 : w1.cell? ⟨w.heap.size, 1, none⟩ = some (.int .i64 a) := (hb1.cell (by simp)).trans (by simp [go_sem])
  have c1_2 : w1.cell? ⟨w.heap.size, 2, none⟩ = some (.int .i64 b) := (hb1.cell (by simp)).trans (by simp [go_sem])
  have c1_3 : w1.cell? ⟨w.heap.size, 3, none⟩ = some (.int .i64 s) := (hb1.cell (by simp)).trans (by simp [go_sem])
  have c1_4 : w1.cell? ⟨w.heap.size, 4, none⟩ = some (.int .i64 m) := (hb1.cell (by simp)).trans (by simp [go_sem])
  have c1_5 : w1.cell? ⟨w.heap.size, 5, none⟩ = some (.int .i64 l) := (hb1.cell (by simp)).trans (by simp [go_sem])
  have c1_6 : w1.cell? ⟨w.heap.size, 6, none⟩ = some (.int .i64 d) := (hb1.cell (by simp)).trans (by simp [go_sem])
  have c1_7 : w1.cell? ⟨w.heap.size, 7, none⟩ = some (.int .i64 n) := (hb1.cell (by simp)).trans (by simp [go_sem])
  clear hb1
  go_wp2_with fail
  refine (spRootOk_any t a b s m l d n _).mono ?_
  rintro e w2 ⟨rfl, hb2⟩
  have l1 : w.heap.size < w1.heap.size := World.block_lt_of_cell? w1 _ c1_0
  have H2 := H1.trans (hb2.mono H1.size)
  have c2_0 := (hb2.cell (p := ⟨w.heap.size, 0, none⟩) l1).trans c1_0
  have c2_1 := (hb2.cell (p := ⟨w.heap.size, 1, none⟩) l1).trans c1_1
  have c2_2 := (hb2.cell (p := ⟨w.heap.size, 2, none⟩) l1).trans c1_2
  have c2_3 := (hb2.cell (p := ⟨w.heap.size, 3, none⟩) l1).trans c1_3
  have c2_4 := (hb2.cell (p := ⟨w.heap.size, 4, none⟩) l1).trans c1_4
  have c2_5 := (hb2.cell (p := ⟨w.heap.size, 5, none⟩) l1).trans c1_5
  have c2_6 := (hb2.cell (p := ⟨w.heap.size, 6, none⟩) l1).trans c1_6
  have c2_7 := (hb2.cell (p := ⟨w.heap.size, 7, none⟩) l1).trans c1_7
  clear hb2 c1_0 c1_1 c1_2 c1_3 c1_4 c1_5 c1_6 c1_7
  go_wp2_with fail
  refine (toRoot_any t a b s m l d n _).mono ?_
  rintro e w3 ⟨rfl, hb3⟩
  have H3 := H2.trans (hb3.mono H2.size)
  clear hb3
  go_wp2_with fail
  refine (rootOk_any t a b s m l d n _).mono ?_
  rintro e w4 ⟨rfl, hb4⟩
  have H4 := H3.trans (hb4.mono H3.size)
  clear hb4
  generalize rootOkB t a b s m l d n = r
  cases r
  all_goals (go_wp2_with fail; go_ret; exact ⟨rfl, H4⟩)
theorem fnExactRootOk_walk (l : List Value) (x : RootD) (w : World) (h : RootR w 0 w.heap.size l x) :
    Calls Try.prog 3 #[.agg l.toArray] w fun e w' => e = .returned (.bool true) ∧ Below w.heap.size w w' := by
  obtain ⟨t, ⟨a, b, s, m, v⟩, d, n⟩ := x
  obtain rfl := h
  exact exactRootOk_flat t a b s m v d n w

end Go.Proofs.Ytodibogijnjlaaa
