/- FnExactRootGet: the walk. Condition: the table of powers of ten and strconv's error value lie as their initialisers lay them. -/
import Derived.Test.YtkaonhjfgnibeaaGreatDoorRootGet
import Derived.Test.YtkaonhjfgnibeaaGreatDoorFamRootEq
namespace Go.Proofs.YtkaonhjfgnibeaaGreatDoor
set_option linter.unusedVariables false
set_option linter.unusedSimpArgs false
set_option linter.unnecessarySimpa false
open Go Go.Lib Go.RowKit

set_option maxRecDepth 100000 in
set_option maxHeartbeats 2000000 in
theorem fnExactRootGet_walk (s : ByteArray) (w : World) (he : Env w) (hs : s.size ≤ maxLen) :
    Calls Tryz.prog 4 #[.string s] w fun e w' => e = .returned (.bool true) ∧ Below w.heap.size w w' := by
  obtain ⟨x, rfl⟩ : ∃ x : Str, s = strB x := ⟨s.data.toList, (strB_data s).symm⟩
  have hl : Hid ((strB x).size = x.length) := Lib.hid rfl
  go_enter Tryz.func4, Tryz.ntmps4
  by_cases hb : 1048576 < x.length
  · have h0 : (1048576 : Int) < ((strB x).size : Int) := by rw [hl.out]; omega
    go_wp2_with fail
    go_ret
    exact ⟨rfl, Below.refl _ _⟩
  have h0 : ¬ (1048576 : Int) < ((strB x).size : Int) := by rw [hl.out]; omega
  have h1 : ((strB x).size : Int) ≤ 1048576 := by rw [hl.out]; omega
  go_wp2_with fail
  refine (spRootGet_any x _ (by omega)).mono ?_
  rintro e w1 ⟨t, a, b, c, d, l, dd, n, ok, rfl, R1, hb1⟩
  have H1 := Lib.hid R1; clear R1
  go_wp2_with fail
  refine (rootGet_any x _ (he.below (Below.alloc hb1 (by first | exact hb1.size | (simp [World.setCell] <;> omega)) _)) (by omega)).mono ?_
  rintro e w2 ⟨t', a', b', c', d', l', dd', n', ok', rfl, R2, hb2⟩
  obtain ⟨rfl, rfl, rfl, rfl, rfl, rfl, rfl, rfl, rfl⟩ := rootIs_one H1.out R2
  clear R2 H1
  have l1 : w1.heap.size < w2.heap.size := by have := hb2.size; simp at this; omega
  have q0 : w2.cell? ⟨w1.heap.size, 0, none⟩ = some (.int .i64 t) := (hb2.cell (by simp)).trans (by simp [go_sem])
  have q1 : w2.cell? ⟨w1.heap.size, 1, none⟩ = some (.int .i64 a) := (hb2.cell (by simp)).trans (by simp [go_sem])
  have q2 : w2.cell? ⟨w1.heap.size, 2, none⟩ = some (.int .i64 b) := (hb2.cell (by simp)).trans (by simp [go_sem])
  have q3 : w2.cell? ⟨w1.heap.size, 3, none⟩ = some (.int .i64 c) := (hb2.cell (by simp)).trans (by simp [go_sem])
  have q4 : w2.cell? ⟨w1.heap.size, 4, none⟩ = some (.int .i64 d) := (hb2.cell (by simp)).trans (by simp [go_sem])
  have q5 : w2.cell? ⟨w1.heap.size, 5, none⟩ = some (.int .i64 l) := (hb2.cell (by simp)).trans (by simp [go_sem])
  have q6 : w2.cell? ⟨w1.heap.size, 6, none⟩ = some (.int .i64 dd) := (hb2.cell (by simp)).trans (by simp [go_sem])
  have q7 : w2.cell? ⟨w1.heap.size, 7, none⟩ = some (.int .i64 n) := (hb2.cell (by simp)).trans (by simp [go_sem])
  have H2 : Below w.heap.size w w2 := (Below.alloc hb1 (by exact hb1.size) _).trans (hb2.mono (by have := hb1.size; simp; omega))
  clear hb2
  have R : ∀ ww : World, RootR ww 0 0 [.int .i64 t, .int .i64 a, .int .i64 b, .int .i64 c, .int .i64 d, .int .i64 l, .int .i64 dd, .int .i64 n] (t, (a, b, c, d, l), dd, n) := fun _ => rfl
  go_wp2_with fail
  refine (eqRoot_yes _ _ _ _ _ _ _ _ (R _) (R _)).mono ?_
  rintro e w3 ⟨rfl, hb3⟩
  clear R
  go_wp2_with fail
  cases ok <;> go_wp2_with fail
  all_goals (go_ret; exact ⟨rfl, (Below.alloc H2 (by exact H2.size) _).trans (hb3.mono (by have := H2.size; simp; omega))⟩)
end Go.Proofs.YtkaonhjfgnibeaaGreatDoor
