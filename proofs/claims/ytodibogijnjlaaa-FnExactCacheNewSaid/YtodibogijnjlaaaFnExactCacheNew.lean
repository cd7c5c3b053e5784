/- FnExactCacheNew: the walk. No condition. -/
import Derived.Test.YtodibogijnjlaaaCacheNew
namespace Go.Proofs.Ytodibogijnjlaaa
set_option linter.unusedVariables false
set_option linter.unusedSimpArgs false
set_option linter.unnecessarySimpa false
open Go.RowKit

set_option maxRecDepth 100000 in
set_option maxHeartbeats 4000000 in
theorem fnExactCacheNew_walk (x : Int) (w : World) : Calls Try.prog 4 #[.int .i64 x] w fun e w' => e = .returned (.bool true) ∧ Below w.heap.size w w' := by
  go_enter Try.func4, Try.ntmps4
  go_wp2_with fail
  refine (spCacheNew_any x _).mono ?_
  rintro e w1 ⟨A, B, C, D, rfl, hb1⟩
  have R := cacheNew_any x
  generalize roomOf x = ro at *; generalize inB x 1 8 = ok at *
  have hoo : (ok != ok) = false := by simp
  have HI := Lib.hid R; clear R
  have S1 : Below w.heap.size w w1 := hb1
  have X1 : Below w.heap.size w w1 := S1
  clear hb1
  clear S1
  go_wp2_with fail
  refine (HI.out _).mono ?_
  rintro e w2 ⟨rfl, hb2⟩
  have S2 : Below w1.heap.size w1 w2 := bel1.trans (hb2.mono (by simp <;> omega))
  have c2_0 : w2.cell? ⟨w1.heap.size, 0, none⟩ = some (.int .i64 ro) := (hb2.cell (by simp <;> omega)).trans (by simp [go_sem])
  have c2_1 : w2.cell? ⟨w1.heap.size, 1, none⟩ = some (.int .i64 0) := (hb2.cell (by simp <;> omega)).trans (by simp [go_sem])
  have c2_2 : w2.cell? ⟨w1.heap.size, 2, none⟩ = some (.slice A 0 0) := (hb2.cell (by simp <;> omega)).trans (by simp [go_sem])
  have c2_3 : w2.cell? ⟨w1.heap.size, 3, none⟩ = some (.slice B 0 0) := (hb2.cell (by simp <;> omega)).trans (by simp [go_sem])
  have c2_4 : w2.cell? ⟨w1.heap.size, 4, none⟩ = some (.slice C 0 0) := (hb2.cell (by simp <;> omega)).trans (by simp [go_sem])
  have c2_5 : w2.cell? ⟨w1.heap.size, 5, none⟩ = some (.slice D 0 0) := (hb2.cell (by simp <;> omega)).trans (by simp [go_sem])
  have l2_0 : w1.heap.size < w2.heap.size := World.block_lt_of_cell? _ _ c2_0
  have X2 : Below w.heap.size w w2 := X1.trans (S2.mono X1.size)
  clear X1 hb2
  clear S2
  go_wp2_with fail
  refine (eqCache_yes [.int .i64 ro, .int .i64 0, .slice none 0 0, .slice none 0 0, .slice none 0 0, .slice none 0 0] [.int .i64 ro, .int .i64 0, .slice A 0 0, .slice B 0 0, .slice C 0 0, .slice D 0 0] (ro, 0, [], [], [], []) _ 0 0 0 0 noCache noCache).mono ?_
  rintro e w3 ⟨rfl, hb3⟩
  have S3 : Below w2.heap.size w2 w3 := bel1.trans (hb3.mono (by simp <;> omega))
  have c3_0 : w3.cell? ⟨w1.heap.size, 0, none⟩ = some (.int .i64 ro) := (S3.cell l2_0).trans c2_0
  have c3_1 : w3.cell? ⟨w1.heap.size, 1, none⟩ = some (.int .i64 0) := (S3.cell l2_0).trans c2_1
  have c3_2 : w3.cell? ⟨w1.heap.size, 2, none⟩ = some (.slice A 0 0) := (S3.cell l2_0).trans c2_2
  have c3_3 : w3.cell? ⟨w1.heap.size, 3, none⟩ = some (.slice B 0 0) := (S3.cell l2_0).trans c2_3
  have c3_4 : w3.cell? ⟨w1.heap.size, 4, none⟩ = some (.slice C 0 0) := (S3.cell l2_0).trans c2_4
  have c3_5 : w3.cell? ⟨w1.heap.size, 5, none⟩ = some (.slice D 0 0) := (S3.cell l2_0).trans c2_5
  have c3_6 : w3.cell? ⟨w2.heap.size, 0, none⟩ = some (.int .i64 ro) := (hb3.cell (by simp <;> omega)).trans (by simp [go_sem])
  have c3_7 : w3.cell? ⟨w2.heap.size, 1, none⟩ = some (.int .i64 0) := (hb3.cell (by simp <;> omega)).trans (by simp [go_sem])
  have c3_8 : w3.cell? ⟨w2.heap.size, 2, none⟩ = some (.slice none 0 0) := (hb3.cell (by simp <;> omega)).trans (by simp [go_sem])
  have c3_9 : w3.cell? ⟨w2.heap.size, 3, none⟩ = some (.slice none 0 0) := (hb3.cell (by simp <;> omega)).trans (by simp [go_sem])
  have c3_10 : w3.cell? ⟨w2.heap.size, 4, none⟩ = some (.slice none 0 0) := (hb3.cell (by simp <;> omega)).trans (by simp [go_sem])
  have c3_11 : w3.cell? ⟨w2.heap.size, 5, none⟩ = some (.slice none 0 0) := (hb3.cell (by simp <;> omega)).trans (by simp [go_sem])
  have l3_0 : w1.heap.size < w3.heap.size := World.block_lt_of_cell? _ _ c3_0
  have l3_1 : w2.heap.size < w3.heap.size := World.block_lt_of_cell? _ _ c3_6
  have X3 : Below w.heap.size w w3 := X2.trans (S3.mono X2.size)
  clear c2_0 c2_1 c2_2 c2_3 c2_4 c2_5 l2_0 X2 hb3
  clear S3
  go_wp2_with fail
  refine (markCache_nil _ _ 1 _ (by omega) (by omega)).mono ?_
  rintro e w4 ⟨rfl, hb4⟩
  have S4 : Below w3.heap.size w3 w4 := hb4
  have c4_0 : w4.cell? ⟨w1.heap.size, 0, none⟩ = some (.int .i64 ro) := (S4.cell l3_0).trans c3_0
  have c4_1 : w4.cell? ⟨w1.heap.size, 1, none⟩ = some (.int .i64 0) := (S4.cell l3_0).trans c3_1
  have c4_2 : w4.cell? ⟨w1.heap.size, 2, none⟩ = some (.slice A 0 0) := (S4.cell l3_0).trans c3_2
  have c4_3 : w4.cell? ⟨w1.heap.size, 3, none⟩ = some (.slice B 0 0) := (S4.cell l3_0).trans c3_3
  have c4_4 : w4.cell? ⟨w1.heap.size, 4, none⟩ = some (.slice C 0 0) := (S4.cell l3_0).trans c3_4
  have c4_5 : w4.cell? ⟨w1.heap.size, 5, none⟩ = some (.slice D 0 0) := (S4.cell l3_0).trans c3_5
  have c4_6 : w4.cell? ⟨w2.heap.size, 0, none⟩ = some (.int .i64 ro) := (S4.cell l3_1).trans c3_6
  have c4_7 : w4.cell? ⟨w2.heap.size, 1, none⟩ = some (.int .i64 0) := (S4.cell l3_1).trans c3_7
  have c4_8 : w4.cell? ⟨w2.heap.size, 2, none⟩ = some (.slice none 0 0) := (S4.cell l3_1).trans c3_8
  have c4_9 : w4.cell? ⟨w2.heap.size, 3, none⟩ = some (.slice none 0 0) := (S4.cell l3_1).trans c3_9
  have c4_10 : w4.cell? ⟨w2.heap.size, 4, none⟩ = some (.slice none 0 0) := (S4.cell l3_1).trans c3_10
  have c4_11 : w4.cell? ⟨w2.heap.size, 5, none⟩ = some (.slice none 0 0) := (S4.cell l3_1).trans c3_11
  have l4_0 : w1.heap.size < w4.heap.size := World.block_lt_of_cell? _ _ c4_0
  have l4_1 : w2.heap.size < w4.heap.size := World.block_lt_of_cell? _ _ c4_6
  have X4 : Below w.heap.size w w4 := X3.trans (S4.mono X3.size)
  clear c3_0 c3_1 c3_2 c3_3 c3_4 c3_5 c3_6 c3_7 c3_8 c3_9 c3_10 c3_11 l3_0 l3_1 X3 hb4
  clear S4
  go_wp2_with fail
  refine (heldCache_nil _ _ 1 _ (by omega) (by omega)).mono ?_
  rintro e w5 ⟨rfl, hb5⟩
  have S5 : Below w4.heap.size w4 w5 := hb5
  have c5_0 : w5.cell? ⟨w1.heap.size, 0, none⟩ = some (.int .i64 ro) := (S5.cell l4_0).trans c4_0
  have c5_1 : w5.cell? ⟨w1.heap.size, 1, none⟩ = some (.int .i64 0) := (S5.cell l4_0).trans c4_1
  have c5_2 : w5.cell? ⟨w1.heap.size, 2, none⟩ = some (.slice A 0 0) := (S5.cell l4_0).trans c4_2
  have c5_3 : w5.cell? ⟨w1.heap.size, 3, none⟩ = some (.slice B 0 0) := (S5.cell l4_0).trans c4_3
  have c5_4 : w5.cell? ⟨w1.heap.size, 4, none⟩ = some (.slice C 0 0) := (S5.cell l4_0).trans c4_4
  have c5_5 : w5.cell? ⟨w1.heap.size, 5, none⟩ = some (.slice D 0 0) := (S5.cell l4_0).trans c4_5
  have c5_6 : w5.cell? ⟨w2.heap.size, 0, none⟩ = some (.int .i64 ro) := (S5.cell l4_1).trans c4_6
  have c5_7 : w5.cell? ⟨w2.heap.size, 1, none⟩ = some (.int .i64 0) := (S5.cell l4_1).trans c4_7
  have c5_8 : w5.cell? ⟨w2.heap.size, 2, none⟩ = some (.slice none 0 0) := (S5.cell l4_1).trans c4_8
  have c5_9 : w5.cell? ⟨w2.heap.size, 3, none⟩ = some (.slice none 0 0) := (S5.cell l4_1).trans c4_9
  have c5_10 : w5.cell? ⟨w2.heap.size, 4, none⟩ = some (.slice none 0 0) := (S5.cell l4_1).trans c4_10
  have c5_11 : w5.cell? ⟨w2.heap.size, 5, none⟩ = some (.slice none 0 0) := (S5.cell l4_1).trans c4_11
  have l5_0 : w1.heap.size < w5.heap.size := World.block_lt_of_cell? _ _ c5_0
  have l5_1 : w2.heap.size < w5.heap.size := World.block_lt_of_cell? _ _ c5_6
  have X5 : Below w.heap.size w w5 := X4.trans (S5.mono X4.size)
  clear c4_0 c4_1 c4_2 c4_3 c4_4 c4_5 c4_6 c4_7 c4_8 c4_9 c4_10 c4_11 l4_0 l4_1 X4 hb5
  clear S5
  go_wp2_with fail
  refine (HI.out _).mono ?_
  rintro e w6 ⟨rfl, hb6⟩
  have S6 : Below w5.heap.size w5 w6 := hb6
  have c6_0 : w6.cell? ⟨w1.heap.size, 0, none⟩ = some (.int .i64 ro) := (S6.cell l5_0).trans c5_0
  have c6_1 : w6.cell? ⟨w1.heap.size, 1, none⟩ = some (.int .i64 0) := (S6.cell l5_0).trans c5_1
  have c6_2 : w6.cell? ⟨w1.heap.size, 2, none⟩ = some (.slice A 0 0) := (S6.cell l5_0).trans c5_2
  have c6_3 : w6.cell? ⟨w1.heap.size, 3, none⟩ = some (.slice B 0 0) := (S6.cell l5_0).trans c5_3
  have c6_4 : w6.cell? ⟨w1.heap.size, 4, none⟩ = some (.slice C 0 0) := (S6.cell l5_0).trans c5_4
  have c6_5 : w6.cell? ⟨w1.heap.size, 5, none⟩ = some (.slice D 0 0) := (S6.cell l5_0).trans c5_5
  have c6_6 : w6.cell? ⟨w2.heap.size, 0, none⟩ = some (.int .i64 ro) := (S6.cell l5_1).trans c5_6
  have c6_7 : w6.cell? ⟨w2.heap.size, 1, none⟩ = some (.int .i64 0) := (S6.cell l5_1).trans c5_7
  have c6_8 : w6.cell? ⟨w2.heap.size, 2, none⟩ = some (.slice none 0 0) := (S6.cell l5_1).trans c5_8
  have c6_9 : w6.cell? ⟨w2.heap.size, 3, none⟩ = some (.slice none 0 0) := (S6.cell l5_1).trans c5_9
  have c6_10 : w6.cell? ⟨w2.heap.size, 4, none⟩ = some (.slice none 0 0) := (S6.cell l5_1).trans c5_10
  have c6_11 : w6.cell? ⟨w2.heap.size, 5, none⟩ = some (.slice none 0 0) := (S6.cell l5_1).trans c5_11
  have l6_0 : w1.heap.size < w6.heap.size := World.block_lt_of_cell? _ _ c6_0
  have l6_1 : w2.heap.size < w6.heap.size := World.block_lt_of_cell? _ _ c6_6
  have X6 : Below w.heap.size w w6 := X5.trans (S6.mono X5.size)
  clear c5_0 c5_1 c5_2 c5_3 c5_4 c5_5 c5_6 c5_7 c5_8 c5_9 c5_10 c5_11 l5_0 l5_1 X5 hb6
  clear S6
  go_wp2_with fail
  refine (eqCache_yes [.int .i64 ro, .int .i64 0, .slice none 0 0, .slice none 0 0, .slice none 0 0, .slice none 0 0] [.int .i64 ro, .int .i64 0, .slice A 0 0, .slice B 0 0, .slice C 0 0, .slice D 0 0] (ro, 0, [], [], [], []) _ 0 0 0 0 noCache noCache).mono ?_
  rintro e w7 ⟨rfl, hb7⟩
  have S7 : Below w6.heap.size w6 w7 := bel1.trans (hb7.mono (by simp <;> omega))
  have c7_0 : w7.cell? ⟨w1.heap.size, 0, none⟩ = some (.int .i64 ro) := (S7.cell l6_0).trans c6_0
  have c7_1 : w7.cell? ⟨w1.heap.size, 1, none⟩ = some (.int .i64 0) := (S7.cell l6_0).trans c6_1
  have c7_2 : w7.cell? ⟨w1.heap.size, 2, none⟩ = some (.slice A 0 0) := (S7.cell l6_0).trans c6_2
  have c7_3 : w7.cell? ⟨w1.heap.size, 3, none⟩ = some (.slice B 0 0) := (S7.cell l6_0).trans c6_3
  have c7_4 : w7.cell? ⟨w1.heap.size, 4, none⟩ = some (.slice C 0 0) := (S7.cell l6_0).trans c6_4
  have c7_5 : w7.cell? ⟨w1.heap.size, 5, none⟩ = some (.slice D 0 0) := (S7.cell l6_0).trans c6_5
  have c7_6 : w7.cell? ⟨w2.heap.size, 0, none⟩ = some (.int .i64 ro) := (S7.cell l6_1).trans c6_6
  have c7_7 : w7.cell? ⟨w2.heap.size, 1, none⟩ = some (.int .i64 0) := (S7.cell l6_1).trans c6_7
  have c7_8 : w7.cell? ⟨w2.heap.size, 2, none⟩ = some (.slice none 0 0) := (S7.cell l6_1).trans c6_8
  have c7_9 : w7.cell? ⟨w2.heap.size, 3, none⟩ = some (.slice none 0 0) := (S7.cell l6_1).trans c6_9
  have c7_10 : w7.cell? ⟨w2.heap.size, 4, none⟩ = some (.slice none 0 0) := (S7.cell l6_1).trans c6_10
  have c7_11 : w7.cell? ⟨w2.heap.size, 5, none⟩ = some (.slice none 0 0) := (S7.cell l6_1).trans c6_11
  have c7_12 : w7.cell? ⟨w6.heap.size, 0, none⟩ = some (.int .i64 ro) := (hb7.cell (by simp <;> omega)).trans (by simp [go_sem])
  have c7_13 : w7.cell? ⟨w6.heap.size, 1, none⟩ = some (.int .i64 0) := (hb7.cell (by simp <;> omega)).trans (by simp [go_sem])
  have c7_14 : w7.cell? ⟨w6.heap.size, 2, none⟩ = some (.slice none 0 0) := (hb7.cell (by simp <;> omega)).trans (by simp [go_sem])
  have c7_15 : w7.cell? ⟨w6.heap.size, 3, none⟩ = some (.slice none 0 0) := (hb7.cell (by simp <;> omega)).trans (by simp [go_sem])
  have c7_16 : w7.cell? ⟨w6.heap.size, 4, none⟩ = some (.slice none 0 0) := (hb7.cell (by simp <;> omega)).trans (by simp [go_sem])
  have c7_17 : w7.cell? ⟨w6.heap.size, 5, none⟩ = some (.slice none 0 0) := (hb7.cell (by simp <;> omega)).trans (by simp [go_sem])
  have l7_0 : w1.heap.size < w7.heap.size := World.block_lt_of_cell? _ _ c7_0
  have l7_1 : w2.heap.size < w7.heap.size := World.block_lt_of_cell? _ _ c7_6
  have l7_2 : w6.heap.size < w7.heap.size := World.block_lt_of_cell? _ _ c7_12
  have X7 : Below w.heap.size w w7 := X6.trans (S7.mono X6.size)
  clear c6_0 c6_1 c6_2 c6_3 c6_4 c6_5 c6_6 c6_7 c6_8 c6_9 c6_10 c6_11 l6_0 l6_1 X6 hb7
  clear S7
  go_wp2_with fail
  refine (heldCache_nil _ _ 1 _ (by omega) (by omega)).mono ?_
  rintro e w8 ⟨rfl, hb8⟩
  have S8 : Below w7.heap.size w7 w8 := hb8
  have c8_0 : w8.cell? ⟨w1.heap.size, 0, none⟩ = some (.int .i64 ro) := (S8.cell l7_0).trans c7_0
  have c8_1 : w8.cell? ⟨w1.heap.size, 1, none⟩ = some (.int .i64 0) := (S8.cell l7_0).trans c7_1
  have c8_2 : w8.cell? ⟨w1.heap.size, 2, none⟩ = some (.slice A 0 0) := (S8.cell l7_0).trans c7_2
  have c8_3 : w8.cell? ⟨w1.heap.size, 3, none⟩ = some (.slice B 0 0) := (S8.cell l7_0).trans c7_3
  have c8_4 : w8.cell? ⟨w1.heap.size, 4, none⟩ = some (.slice C 0 0) := (S8.cell l7_0).trans c7_4
  have c8_5 : w8.cell? ⟨w1.heap.size, 5, none⟩ = some (.slice D 0 0) := (S8.cell l7_0).trans c7_5
  have c8_6 : w8.cell? ⟨w2.heap.size, 0, none⟩ = some (.int .i64 ro) := (S8.cell l7_1).trans c7_6
  have c8_7 : w8.cell? ⟨w2.heap.size, 1, none⟩ = some (.int .i64 0) := (S8.cell l7_1).trans c7_7
  have c8_8 : w8.cell? ⟨w2.heap.size, 2, none⟩ = some (.slice none 0 0) := (S8.cell l7_1).trans c7_8
  have c8_9 : w8.cell? ⟨w2.heap.size, 3, none⟩ = some (.slice none 0 0) := (S8.cell l7_1).trans c7_9
  have c8_10 : w8.cell? ⟨w2.heap.size, 4, none⟩ = some (.slice none 0 0) := (S8.cell l7_1).trans c7_10
  have c8_11 : w8.cell? ⟨w2.heap.size, 5, none⟩ = some (.slice none 0 0) := (S8.cell l7_1).trans c7_11
  have c8_12 : w8.cell? ⟨w6.heap.size, 0, none⟩ = some (.int .i64 ro) := (S8.cell l7_2).trans c7_12
  have c8_13 : w8.cell? ⟨w6.heap.size, 1, none⟩ = some (.int .i64 0) := (S8.cell l7_2).trans c7_13
  have c8_14 : w8.cell? ⟨w6.heap.size, 2, none⟩ = some (.slice none 0 0) := (S8.cell l7_2).trans c7_14
  have c8_15 : w8.cell? ⟨w6.heap.size, 3, none⟩ = some (.slice none 0 0) := (S8.cell l7_2).trans c7_15
  have c8_16 : w8.cell? ⟨w6.heap.size, 4, none⟩ = some (.slice none 0 0) := (S8.cell l7_2).trans c7_16
  have c8_17 : w8.cell? ⟨w6.heap.size, 5, none⟩ = some (.slice none 0 0) := (S8.cell l7_2).trans c7_17
  have l8_0 : w1.heap.size < w8.heap.size := World.block_lt_of_cell? _ _ c8_0
  have l8_1 : w2.heap.size < w8.heap.size := World.block_lt_of_cell? _ _ c8_6
  have l8_2 : w6.heap.size < w8.heap.size := World.block_lt_of_cell? _ _ c8_12
  have X8 : Below w.heap.size w w8 := X7.trans (S8.mono X7.size)
  clear c7_0 c7_1 c7_2 c7_3 c7_4 c7_5 c7_6 c7_7 c7_8 c7_9 c7_10 c7_11 c7_12 c7_13 c7_14 c7_15 c7_16 c7_17 l7_0 l7_1 l7_2 X7 hb8
  clear S8
  go_wp2_with fail
  go_ret
  exact ⟨rfl, X8⟩
end Go.Proofs.Ytodibogijnjlaaa
