/- to at each type: a copy in new memory. No condition. -/
import Derived.Test.YtlacpcdbgimnmaaDoorFamTo
import Derived.Test.YtlacpcdbgimnmaaDoorChecked
namespace Go.Proofs.YtlacpcdbgimnmaaDoor
set_option linter.unusedVariables false
set_option linter.unusedSimpArgs false
set_option linter.unnecessarySimpa false
open Go.RowKit

set_option maxRecDepth 100000 in
set_option maxHeartbeats 2000000 in
theorem toHead_any (cs : List Value) (x : HeadD) (w : World) (lo hi : Nat) (h : HeadR w lo hi cs x) (hz : sizeHead x ≤ 1048576) :
    Calls Tryd.prog 34 #[.agg cs.toArray] w (NewR HeadR w x) := by
  obtain ⟨name_, prev_, ⟨⟨tree_root_at_, tree_root_birth_, tree_root_size_, tree_root_sum_, tree_root_level_⟩, tree_depth_, tree_many_⟩, dead_, quota_⟩ := x
  obtain ⟨Aa0, na0, ca0, rfl, ha0, ha1⟩ := h
  show Calls Tryd.prog 34 #[.agg #[.string name_, .int .i64 prev_, .int .i64 tree_root_at_, .int .i64 tree_root_birth_, .int .i64 tree_root_size_, .int .i64 tree_root_sum_, .int .i64 tree_root_level_, .int .i64 tree_depth_, .int .i64 tree_many_, .slice Aa0 na0 ca0, .int .i64 quota_]] w _
  have Hha0 := Lib.hid ha0
  clear ha0
  have Hha1 := Lib.hid ha1
  clear ha1
  have hz : name_.size + dead_.length ≤ 1048576 := hz
  have HZ := Lib.hid hz
  have hl0 := Hha1.out.len
  go_enter Tryd.func34, Tryd.ntmps34
  go_wp2_with fail
  have l1 : w.heap.size ≤ w.heap.size + 1 := Nat.le_add_right _ _
  have l2 : w.heap.size ≤ w.heap.size + 1 + 1 := by omega
  have m1 : w.heap.size + 1 < w.heap.size + 3 := by omega
  have m2 : w.heap.size + 1 + 1 < w.heap.size + 3 := by omega
  have n02 : w.heap.size ≠ w.heap.size + 1 + 1 := by omega
  have n12 : w.heap.size + 1 ≠ w.heap.size + 1 + 1 := by omega
  refine (toTreeF_any [.int .i64 tree_root_at_, .int .i64 tree_root_birth_, .int .i64 tree_root_size_, .int .i64 tree_root_sum_, .int .i64 tree_root_level_, .int .i64 tree_depth_, .int .i64 tree_many_] ((tree_root_at_, tree_root_birth_, tree_root_size_, tree_root_sum_, tree_root_level_), tree_depth_, tree_many_) _ w 0 0 rfl).mono ?_
  rintro e w1 ⟨rfl, hb1⟩
  have X1 : Below w.heap.size w w1 := Below.trans (bel3) (hb1.mono (by simp <;> omega))
  have b1_0 : w1.heap[w.heap.size]? = some (.cells #[.string name_, .int .i64 prev_, .int .i64 tree_root_at_, .int .i64 tree_root_birth_, .int .i64 tree_root_size_, .int .i64 tree_root_sum_, .int .i64 tree_root_level_, .int .i64 tree_depth_, .int .i64 tree_many_, .slice Aa0 na0 ca0, .int .i64 quota_] 66 (0, 0)) := (hb1.block _ (by simp <;> omega)).trans al3_0
  have b1_1 : w1.heap[w.heap.size + 1]? = some (.cells #[.string ⟨#[]⟩, .int .i64 0, .int .i64 0, .int .i64 0, .int .i64 0, .int .i64 0, .int .i64 0, .int .i64 0, .int .i64 0, .slice none 0 0, .int .i64 0] 54 (0, 0)) := (hb1.block _ (by simp <;> omega)).trans al3_1
  have b1_2 : w1.heap[w.heap.size + 1 + 1]? = some (.cells #[.string name_, .int .i64 prev_, .int .i64 0, .int .i64 0, .int .i64 0, .int .i64 0, .int .i64 0, .int .i64 0, .int .i64 0, .slice none 0 0, .int .i64 0] 54 (0, 0)) := (hb1.block _ (by simp <;> omega)).trans al3_2
  have z1 : w.heap.size + 3 ≤ w1.heap.size := by have := hb1.size; simp at this; omega
  have c1_0_0 : w1.cell? ⟨w.heap.size, 0, none⟩ = some (.string name_) := cell_of_row _ _ 0 _ _ (0, 0) b1_0
  have c1_0_1 : w1.cell? ⟨w.heap.size, 1, none⟩ = some (.int .i64 prev_) := cell_of_row _ _ 1 _ _ (0, 0) b1_0
  have c1_0_2 : w1.cell? ⟨w.heap.size, 2, none⟩ = some (.int .i64 tree_root_at_) := cell_of_row _ _ 2 _ _ (0, 0) b1_0
  have c1_0_3 : w1.cell? ⟨w.heap.size, 3, none⟩ = some (.int .i64 tree_root_birth_) := cell_of_row _ _ 3 _ _ (0, 0) b1_0
  have c1_0_4 : w1.cell? ⟨w.heap.size, 4, none⟩ = some (.int .i64 tree_root_size_) := cell_of_row _ _ 4 _ _ (0, 0) b1_0
  have c1_0_5 : w1.cell? ⟨w.heap.size, 5, none⟩ = some (.int .i64 tree_root_sum_) := cell_of_row _ _ 5 _ _ (0, 0) b1_0
  have c1_0_6 : w1.cell? ⟨w.heap.size, 6, none⟩ = some (.int .i64 tree_root_level_) := cell_of_row _ _ 6 _ _ (0, 0) b1_0
  have c1_0_7 : w1.cell? ⟨w.heap.size, 7, none⟩ = some (.int .i64 tree_depth_) := cell_of_row _ _ 7 _ _ (0, 0) b1_0
  have c1_0_8 : w1.cell? ⟨w.heap.size, 8, none⟩ = some (.int .i64 tree_many_) := cell_of_row _ _ 8 _ _ (0, 0) b1_0
  have c1_0_9 : w1.cell? ⟨w.heap.size, 9, none⟩ = some (.slice Aa0 na0 ca0) := cell_of_row _ _ 9 _ _ (0, 0) b1_0
  have c1_0_10 : w1.cell? ⟨w.heap.size, 10, none⟩ = some (.int .i64 quota_) := cell_of_row _ _ 10 _ _ (0, 0) b1_0
  have c1_1_0 : w1.cell? ⟨w.heap.size + 1, 0, none⟩ = some (.string ⟨#[]⟩) := cell_of_row _ _ 0 _ _ (0, 0) b1_1
  have c1_1_1 : w1.cell? ⟨w.heap.size + 1, 1, none⟩ = some (.int .i64 0) := cell_of_row _ _ 1 _ _ (0, 0) b1_1
  have c1_1_2 : w1.cell? ⟨w.heap.size + 1, 2, none⟩ = some (.int .i64 0) := cell_of_row _ _ 2 _ _ (0, 0) b1_1
  have c1_1_3 : w1.cell? ⟨w.heap.size + 1, 3, none⟩ = some (.int .i64 0) := cell_of_row _ _ 3 _ _ (0, 0) b1_1
  have c1_1_4 : w1.cell? ⟨w.heap.size + 1, 4, none⟩ = some (.int .i64 0) := cell_of_row _ _ 4 _ _ (0, 0) b1_1
  have c1_1_5 : w1.cell? ⟨w.heap.size + 1, 5, none⟩ = some (.int .i64 0) := cell_of_row _ _ 5 _ _ (0, 0) b1_1
  have c1_1_6 : w1.cell? ⟨w.heap.size + 1, 6, none⟩ = some (.int .i64 0) := cell_of_row _ _ 6 _ _ (0, 0) b1_1
  have c1_1_7 : w1.cell? ⟨w.heap.size + 1, 7, none⟩ = some (.int .i64 0) := cell_of_row _ _ 7 _ _ (0, 0) b1_1
  have c1_1_8 : w1.cell? ⟨w.heap.size + 1, 8, none⟩ = some (.int .i64 0) := cell_of_row _ _ 8 _ _ (0, 0) b1_1
  have c1_1_9 : w1.cell? ⟨w.heap.size + 1, 9, none⟩ = some (.slice none 0 0) := cell_of_row _ _ 9 _ _ (0, 0) b1_1
  have c1_1_10 : w1.cell? ⟨w.heap.size + 1, 10, none⟩ = some (.int .i64 0) := cell_of_row _ _ 10 _ _ (0, 0) b1_1
  have f1_1_0 := block_free b1_1 0
  have f1_1_1 := block_free b1_1 1
  have f1_1_2 := block_free b1_1 2
  have f1_1_3 := block_free b1_1 3
  have f1_1_4 := block_free b1_1 4
  have f1_1_5 := block_free b1_1 5
  have f1_1_6 := block_free b1_1 6
  have f1_1_7 := block_free b1_1 7
  have f1_1_8 := block_free b1_1 8
  have f1_1_9 := block_free b1_1 9
  have f1_1_10 := block_free b1_1 10
  have c1_2_0 : w1.cell? ⟨w.heap.size + 1 + 1, 0, none⟩ = some (.string name_) := cell_of_row _ _ 0 _ _ (0, 0) b1_2
  have c1_2_1 : w1.cell? ⟨w.heap.size + 1 + 1, 1, none⟩ = some (.int .i64 prev_) := cell_of_row _ _ 1 _ _ (0, 0) b1_2
  have c1_2_2 : w1.cell? ⟨w.heap.size + 1 + 1, 2, none⟩ = some (.int .i64 0) := cell_of_row _ _ 2 _ _ (0, 0) b1_2
  have c1_2_3 : w1.cell? ⟨w.heap.size + 1 + 1, 3, none⟩ = some (.int .i64 0) := cell_of_row _ _ 3 _ _ (0, 0) b1_2
  have c1_2_4 : w1.cell? ⟨w.heap.size + 1 + 1, 4, none⟩ = some (.int .i64 0) := cell_of_row _ _ 4 _ _ (0, 0) b1_2
  have c1_2_5 : w1.cell? ⟨w.heap.size + 1 + 1, 5, none⟩ = some (.int .i64 0) := cell_of_row _ _ 5 _ _ (0, 0) b1_2
  have c1_2_6 : w1.cell? ⟨w.heap.size + 1 + 1, 6, none⟩ = some (.int .i64 0) := cell_of_row _ _ 6 _ _ (0, 0) b1_2
  have c1_2_7 : w1.cell? ⟨w.heap.size + 1 + 1, 7, none⟩ = some (.int .i64 0) := cell_of_row _ _ 7 _ _ (0, 0) b1_2
  have c1_2_8 : w1.cell? ⟨w.heap.size + 1 + 1, 8, none⟩ = some (.int .i64 0) := cell_of_row _ _ 8 _ _ (0, 0) b1_2
  have c1_2_9 : w1.cell? ⟨w.heap.size + 1 + 1, 9, none⟩ = some (.slice none 0 0) := cell_of_row _ _ 9 _ _ (0, 0) b1_2
  have c1_2_10 : w1.cell? ⟨w.heap.size + 1 + 1, 10, none⟩ = some (.int .i64 0) := cell_of_row _ _ 10 _ _ (0, 0) b1_2
  have f1_2_0 := block_free b1_2 0
  have f1_2_1 := block_free b1_2 1
  have f1_2_2 := block_free b1_2 2
  have f1_2_3 := block_free b1_2 3
  have f1_2_4 := block_free b1_2 4
  have f1_2_5 := block_free b1_2 5
  have f1_2_6 := block_free b1_2 6
  have f1_2_7 := block_free b1_2 7
  have f1_2_8 := block_free b1_2 8
  have f1_2_9 := block_free b1_2 9
  have f1_2_10 := block_free b1_2 10
  have HB1_0 := Lib.hid b1_0
  have HB1_1 := Lib.hid b1_1
  have HB1_2 := Lib.hid b1_2
  clear b1_0 b1_1 b1_2 hb1
  go_wp2_with fail
  have b1_0 := HB1_0.out
  have b1_1 := HB1_1.out
  have b1_2 := HB1_2.out
  have Y2 : ∀ W, Below w.heap.size w W → SliceR PtrR 5 W lo hi Aa0 na0 ca0 dead_ := fun W hb => SliceR.below Hha1.out hb (PtrR.below hb Hha1.out.lo_le)
  refine ((toPtrS_any _ _ _ dead_ _ lo hi (Y2 _ ((Below.setCell (p := ⟨w.heap.size + 1 + 1, 8, none⟩) (Below.setCell (p := ⟨w.heap.size + 1 + 1, 7, none⟩) (Below.setCell (p := ⟨w.heap.size + 1 + 1, 6, none⟩) (Below.setCell (p := ⟨w.heap.size + 1 + 1, 5, none⟩) (Below.setCell (p := ⟨w.heap.size + 1 + 1, 4, none⟩) (Below.setCell (p := ⟨w.heap.size + 1 + 1, 3, none⟩) (Below.setCell (p := ⟨w.heap.size + 1 + 1, 2, none⟩) X1 l2 _) l2 _) l2 _) l2 _) l2 _) l2 _) l2 _))) (by have := HZ.out; have := Hha1.out.len; clear HZ; omega)).mono ?_)
  rintro e w2 ⟨B2, d2, rfl, S2, hb2⟩
  clear Y2
  have X2 : Below w.heap.size w w2 := Below.trans ((Below.setCell (p := ⟨w.heap.size + 1 + 1, 8, none⟩) (Below.setCell (p := ⟨w.heap.size + 1 + 1, 7, none⟩) (Below.setCell (p := ⟨w.heap.size + 1 + 1, 6, none⟩) (Below.setCell (p := ⟨w.heap.size + 1 + 1, 5, none⟩) (Below.setCell (p := ⟨w.heap.size + 1 + 1, 4, none⟩) (Below.setCell (p := ⟨w.heap.size + 1 + 1, 3, none⟩) (Below.setCell (p := ⟨w.heap.size + 1 + 1, 2, none⟩) X1 l2 _) l2 _) l2 _) l2 _) l2 _) l2 _) l2 _)) (hb2.mono (by simp <;> omega))
  have b2_0 : w2.heap[w.heap.size]? = some (.cells #[.string name_, .int .i64 prev_, .int .i64 tree_root_at_, .int .i64 tree_root_birth_, .int .i64 tree_root_size_, .int .i64 tree_root_sum_, .int .i64 tree_root_level_, .int .i64 tree_depth_, .int .i64 tree_many_, .slice Aa0 na0 ca0, .int .i64 quota_] 66 (0, 0)) := (hb2.block _ (by simp <;> omega)).trans ((heap_far n02).trans ((heap_far n02).trans ((heap_far n02).trans ((heap_far n02).trans ((heap_far n02).trans ((heap_far n02).trans ((heap_far n02).trans (b1_0))))))))
  have b2_1 : w2.heap[w.heap.size + 1]? = some (.cells #[.string ⟨#[]⟩, .int .i64 0, .int .i64 0, .int .i64 0, .int .i64 0, .int .i64 0, .int .i64 0, .int .i64 0, .int .i64 0, .slice none 0 0, .int .i64 0] 54 (0, 0)) := (hb2.block _ (by simp <;> omega)).trans ((heap_far n12).trans ((heap_far n12).trans ((heap_far n12).trans ((heap_far n12).trans ((heap_far n12).trans ((heap_far n12).trans ((heap_far n12).trans (b1_1))))))))
  have b2_2 : w2.heap[w.heap.size + 1 + 1]? = some (.cells #[.string name_, .int .i64 prev_, .int .i64 tree_root_at_, .int .i64 tree_root_birth_, .int .i64 tree_root_size_, .int .i64 tree_root_sum_, .int .i64 tree_root_level_, .int .i64 tree_depth_, .int .i64 tree_many_, .slice none 0 0, .int .i64 0] 54 (0, 0)) := (hb2.block _ (by simp <;> omega)).trans ((block_set (block_set (block_set (block_set (block_set (block_set (block_set (b1_2)))))))).trans (by rfl))
  have z2 : w.heap.size + 3 ≤ w2.heap.size := by have := hb2.size; simp [World.setCell] at this; omega
  have S2 := SliceR.wide (lo' := w.heap.size + 3) (hi' := w2.heap.size) S2 (by simp [World.setCell] <;> omega) (Nat.le_refl _) (Nat.le_refl _) (PtrR.wide (by simp [World.setCell] <;> omega) (Nat.le_refl _) (Nat.le_refl _))
  clear c1_0_0 c1_0_1 c1_0_2 c1_0_3 c1_0_4 c1_0_5 c1_0_6 c1_0_7 c1_0_8 c1_0_9 c1_0_10 c1_1_0 c1_1_1 c1_1_2 c1_1_3 c1_1_4 c1_1_5 c1_1_6 c1_1_7 c1_1_8 c1_1_9 c1_1_10 f1_1_0 f1_1_1 f1_1_2 f1_1_3 f1_1_4 f1_1_5 f1_1_6 f1_1_7 f1_1_8 f1_1_9 f1_1_10 c1_2_0 c1_2_1 c1_2_2 c1_2_3 c1_2_4 c1_2_5 c1_2_6 c1_2_7 c1_2_8 c1_2_9 c1_2_10 f1_2_0 f1_2_1 f1_2_2 f1_2_3 f1_2_4 f1_2_5 f1_2_6 f1_2_7 f1_2_8 f1_2_9 f1_2_10
  have c2_0_0 : w2.cell? ⟨w.heap.size, 0, none⟩ = some (.string name_) := cell_of_row _ _ 0 _ _ (0, 0) b2_0
  have c2_0_1 : w2.cell? ⟨w.heap.size, 1, none⟩ = some (.int .i64 prev_) := cell_of_row _ _ 1 _ _ (0, 0) b2_0
  have c2_0_2 : w2.cell? ⟨w.heap.size, 2, none⟩ = some (.int .i64 tree_root_at_) := cell_of_row _ _ 2 _ _ (0, 0) b2_0
  have c2_0_3 : w2.cell? ⟨w.heap.size, 3, none⟩ = some (.int .i64 tree_root_birth_) := cell_of_row _ _ 3 _ _ (0, 0) b2_0
  have c2_0_4 : w2.cell? ⟨w.heap.size, 4, none⟩ = some (.int .i64 tree_root_size_) := cell_of_row _ _ 4 _ _ (0, 0) b2_0
  have c2_0_5 : w2.cell? ⟨w.heap.size, 5, none⟩ = some (.int .i64 tree_root_sum_) := cell_of_row _ _ 5 _ _ (0, 0) b2_0
  have c2_0_6 : w2.cell? ⟨w.heap.size, 6, none⟩ = some (.int .i64 tree_root_level_) := cell_of_row _ _ 6 _ _ (0, 0) b2_0
  have c2_0_7 : w2.cell? ⟨w.heap.size, 7, none⟩ = some (.int .i64 tree_depth_) := cell_of_row _ _ 7 _ _ (0, 0) b2_0
  have c2_0_8 : w2.cell? ⟨w.heap.size, 8, none⟩ = some (.int .i64 tree_many_) := cell_of_row _ _ 8 _ _ (0, 0) b2_0
  have c2_0_9 : w2.cell? ⟨w.heap.size, 9, none⟩ = some (.slice Aa0 na0 ca0) := cell_of_row _ _ 9 _ _ (0, 0) b2_0
  have c2_0_10 : w2.cell? ⟨w.heap.size, 10, none⟩ = some (.int .i64 quota_) := cell_of_row _ _ 10 _ _ (0, 0) b2_0
  have c2_1_0 : w2.cell? ⟨w.heap.size + 1, 0, none⟩ = some (.string ⟨#[]⟩) := cell_of_row _ _ 0 _ _ (0, 0) b2_1
  have c2_1_1 : w2.cell? ⟨w.heap.size + 1, 1, none⟩ = some (.int .i64 0) := cell_of_row _ _ 1 _ _ (0, 0) b2_1
  have c2_1_2 : w2.cell? ⟨w.heap.size + 1, 2, none⟩ = some (.int .i64 0) := cell_of_row _ _ 2 _ _ (0, 0) b2_1
  have c2_1_3 : w2.cell? ⟨w.heap.size + 1, 3, none⟩ = some (.int .i64 0) := cell_of_row _ _ 3 _ _ (0, 0) b2_1
  have c2_1_4 : w2.cell? ⟨w.heap.size + 1, 4, none⟩ = some (.int .i64 0) := cell_of_row _ _ 4 _ _ (0, 0) b2_1
  have c2_1_5 : w2.cell? ⟨w.heap.size + 1, 5, none⟩ = some (.int .i64 0) := cell_of_row _ _ 5 _ _ (0, 0) b2_1
  have c2_1_6 : w2.cell? ⟨w.heap.size + 1, 6, none⟩ = some (.int .i64 0) := cell_of_row _ _ 6 _ _ (0, 0) b2_1
  have c2_1_7 : w2.cell? ⟨w.heap.size + 1, 7, none⟩ = some (.int .i64 0) := cell_of_row _ _ 7 _ _ (0, 0) b2_1
  have c2_1_8 : w2.cell? ⟨w.heap.size + 1, 8, none⟩ = some (.int .i64 0) := cell_of_row _ _ 8 _ _ (0, 0) b2_1
  have c2_1_9 : w2.cell? ⟨w.heap.size + 1, 9, none⟩ = some (.slice none 0 0) := cell_of_row _ _ 9 _ _ (0, 0) b2_1
  have c2_1_10 : w2.cell? ⟨w.heap.size + 1, 10, none⟩ = some (.int .i64 0) := cell_of_row _ _ 10 _ _ (0, 0) b2_1
  have f2_1_0 := block_free b2_1 0
  have f2_1_1 := block_free b2_1 1
  have f2_1_2 := block_free b2_1 2
  have f2_1_3 := block_free b2_1 3
  have f2_1_4 := block_free b2_1 4
  have f2_1_5 := block_free b2_1 5
  have f2_1_6 := block_free b2_1 6
  have f2_1_7 := block_free b2_1 7
  have f2_1_8 := block_free b2_1 8
  have f2_1_9 := block_free b2_1 9
  have f2_1_10 := block_free b2_1 10
  have c2_2_0 : w2.cell? ⟨w.heap.size + 1 + 1, 0, none⟩ = some (.string name_) := cell_of_row _ _ 0 _ _ (0, 0) b2_2
  have c2_2_1 : w2.cell? ⟨w.heap.size + 1 + 1, 1, none⟩ = some (.int .i64 prev_) := cell_of_row _ _ 1 _ _ (0, 0) b2_2
  have c2_2_2 : w2.cell? ⟨w.heap.size + 1 + 1, 2, none⟩ = some (.int .i64 tree_root_at_) := cell_of_row _ _ 2 _ _ (0, 0) b2_2
  have c2_2_3 : w2.cell? ⟨w.heap.size + 1 + 1, 3, none⟩ = some (.int .i64 tree_root_birth_) := cell_of_row _ _ 3 _ _ (0, 0) b2_2
  have c2_2_4 : w2.cell? ⟨w.heap.size + 1 + 1, 4, none⟩ = some (.int .i64 tree_root_size_) := cell_of_row _ _ 4 _ _ (0, 0) b2_2
  have c2_2_5 : w2.cell? ⟨w.heap.size + 1 + 1, 5, none⟩ = some (.int .i64 tree_root_sum_) := cell_of_row _ _ 5 _ _ (0, 0) b2_2
  have c2_2_6 : w2.cell? ⟨w.heap.size + 1 + 1, 6, none⟩ = some (.int .i64 tree_root_level_) := cell_of_row _ _ 6 _ _ (0, 0) b2_2
  have c2_2_7 : w2.cell? ⟨w.heap.size + 1 + 1, 7, none⟩ = some (.int .i64 tree_depth_) := cell_of_row _ _ 7 _ _ (0, 0) b2_2
  have c2_2_8 : w2.cell? ⟨w.heap.size + 1 + 1, 8, none⟩ = some (.int .i64 tree_many_) := cell_of_row _ _ 8 _ _ (0, 0) b2_2
  have c2_2_9 : w2.cell? ⟨w.heap.size + 1 + 1, 9, none⟩ = some (.slice none 0 0) := cell_of_row _ _ 9 _ _ (0, 0) b2_2
  have c2_2_10 : w2.cell? ⟨w.heap.size + 1 + 1, 10, none⟩ = some (.int .i64 0) := cell_of_row _ _ 10 _ _ (0, 0) b2_2
  have f2_2_0 := block_free b2_2 0
  have f2_2_1 := block_free b2_2 1
  have f2_2_2 := block_free b2_2 2
  have f2_2_3 := block_free b2_2 3
  have f2_2_4 := block_free b2_2 4
  have f2_2_5 := block_free b2_2 5
  have f2_2_6 := block_free b2_2 6
  have f2_2_7 := block_free b2_2 7
  have f2_2_8 := block_free b2_2 8
  have f2_2_9 := block_free b2_2 9
  have f2_2_10 := block_free b2_2 10
  have HB2_0 := Lib.hid b2_0
  have HB2_1 := Lib.hid b2_1
  have HB2_2 := Lib.hid b2_2
  clear b2_0 b2_1 b2_2 HB1_0 HB1_1 HB1_2 hb2 X1 z1
  have T2 := Lib.hid S2; clear S2
  go_wp2_with fail
  have b2_0 := HB2_0.out
  have b2_1 := HB2_1.out
  have b2_2 := HB2_2.out
  have S2 := T2.out; clear T2
  exact bodyPost_ret (v := .agg #[.string name_, .int .i64 prev_, .int .i64 tree_root_at_, .int .i64 tree_root_birth_, .int .i64 tree_root_size_, .int .i64 tree_root_sum_, .int .i64 tree_root_level_, .int .i64 tree_depth_, .int .i64 tree_many_, .slice B2 na0 d2, .int .i64 quota_]) (by simp [results, Tryd.results34, go_sem, c2_1_0, f2_1_0, c2_1_1, f2_1_1, c2_1_2, f2_1_2, c2_1_3, f2_1_3, c2_1_4, f2_1_4, c2_1_5, f2_1_5, c2_1_6, f2_1_6, c2_1_7, f2_1_7, c2_1_8, f2_1_8, c2_1_9, f2_1_9, c2_1_10, f2_1_10]) rfl ⟨[.string name_, .int .i64 prev_, .int .i64 tree_root_at_, .int .i64 tree_root_birth_, .int .i64 tree_root_size_, .int .i64 tree_root_sum_, .int .i64 tree_root_level_, .int .i64 tree_depth_, .int .i64 tree_many_, .slice B2 na0 d2, .int .i64 quota_], rfl, ⟨_, _, _, rfl, Hha0.out, (SliceR.far S2 (Step.setCell (p := ⟨w.heap.size + 1, 10, none⟩) (Step.setCell (p := ⟨w.heap.size + 1, 9, none⟩) (Step.setCell (p := ⟨w.heap.size + 1, 8, none⟩) (Step.setCell (p := ⟨w.heap.size + 1, 7, none⟩) (Step.setCell (p := ⟨w.heap.size + 1, 6, none⟩) (Step.setCell (p := ⟨w.heap.size + 1, 5, none⟩) (Step.setCell (p := ⟨w.heap.size + 1, 4, none⟩) (Step.setCell (p := ⟨w.heap.size + 1, 3, none⟩) (Step.setCell (p := ⟨w.heap.size + 1, 2, none⟩) (Step.setCell (p := ⟨w.heap.size + 1, 1, none⟩) (Step.setCell (p := ⟨w.heap.size + 1, 0, none⟩) (Step.setCell (p := ⟨w.heap.size + 1 + 1, 10, none⟩) (Step.setCell (p := ⟨w.heap.size + 1 + 1, 9, none⟩) (Step.refl _ _) m2 _) m2 _) m1 _) m1 _) m1 _) m1 _) m1 _) m1 _) m1 _) m1 _) m1 _) m1 _) m1 _) (Below.refl _ _) (fun a b => PtrR.keep a b) (fun a b c => PtrR.wide a b c)).wide (by omega) (Nat.le_refl _) (Nat.le_refl _) (PtrR.wide (by omega) (Nat.le_refl _) (Nat.le_refl _))⟩, (Below.setCell (p := ⟨w.heap.size + 1, 10, none⟩) (Below.setCell (p := ⟨w.heap.size + 1, 9, none⟩) (Below.setCell (p := ⟨w.heap.size + 1, 8, none⟩) (Below.setCell (p := ⟨w.heap.size + 1, 7, none⟩) (Below.setCell (p := ⟨w.heap.size + 1, 6, none⟩) (Below.setCell (p := ⟨w.heap.size + 1, 5, none⟩) (Below.setCell (p := ⟨w.heap.size + 1, 4, none⟩) (Below.setCell (p := ⟨w.heap.size + 1, 3, none⟩) (Below.setCell (p := ⟨w.heap.size + 1, 2, none⟩) (Below.setCell (p := ⟨w.heap.size + 1, 1, none⟩) (Below.setCell (p := ⟨w.heap.size + 1, 0, none⟩) (Below.setCell (p := ⟨w.heap.size + 1 + 1, 10, none⟩) (Below.setCell (p := ⟨w.heap.size + 1 + 1, 9, none⟩) X2 l2 _) l2 _) l1 _) l1 _) l1 _) l1 _) l1 _) l1 _) l1 _) l1 _) l1 _) l1 _) l1 _)⟩

theorem info_HeadS : (Tryd.prog.info? 54).map (fun i => (i.zero, i.size, i.bytes)) = some (some (.agg #[.string ⟨#[]⟩, .int .i64 0, .int .i64 0, .int .i64 0, .int .i64 0, .int .i64 0, .int .i64 0, .int .i64 0, .int .i64 0, .slice none 0 0, .int .i64 0]), 11, 112) := by kernel_rfl
theorem make_HeadS (n : Nat) (hn : n ≤ 1048576) (w : World) :
    (Instr.makeSlice 29 (.int .i64 (n : Int)) (.int .i64 (n : Int))).run Tryd.prog w = .ok (.slice (some ⟨w.heap.size, 0, none⟩) n n) (w.alloc (.cells (madeCells #[.string ⟨#[]⟩, .int .i64 0, .int .i64 0, .int .i64 0, .int .i64 0, .int .i64 0, .int .i64 0, .int .i64 0, .int .i64 0, .slice none 0 0, .int .i64 0] (n * 11)) 54)) := by
  obtain ⟨i, hi, hz, hs, hb⟩ := info_parts info_HeadS
  have hr := run_make (P := Tryd.prog) w 29 54 i (.agg #[.string ⟨#[]⟩, .int .i64 0, .int .i64 0, .int .i64 0, .int .i64 0, .int .i64 0, .int .i64 0, .int .i64 0, .int .i64 0, .slice none 0 0, .int .i64 0]) Tryd.underlying29 hi hz .i64 .i64 n n (by omega) (by omega) (by rw [hb]; omega) (by omega)
  simp only [Int.toNat_natCast, hs] at hr
  exact hr

set_option maxRecDepth 100000 in
set_option maxHeartbeats 2000000 in
theorem toHeadS_any (A : Option Addr) (n c : Nat) (xs : List HeadD) (w : World) (lo hi : Nat) (h : SliceR HeadR 11 w lo hi A n c xs) (hz : xs.length + (xs.map sizeHead).sum ≤ 1048576) :
    Calls Tryd.prog 18 #[.slice A n c] w (NewSl HeadR 11 w n xs) := by
  have hl := Lib.hid h.len
  have hn : n ≤ 1048576 := by have := h.len; omega
  have HZ := Lib.hid hz
  clear hz
  have hmk := make_HeadS n hn w
  have H := Lib.hid h
  clear h
  go_enter Tryd.func18, Tryd.ntmps18
  go_wp2_with fail
  have hrow : ∃ cur, (w.alloc (.cells (madeCells #[.string ⟨#[]⟩, .int .i64 0, .int .i64 0, .int .i64 0, .int .i64 0, .int .i64 0, .int .i64 0, .int .i64 0, .int .i64 0, .slice none 0 0, .int .i64 0] (n * 11)) 54)).heap[w.heap.size]? = some (.cells cur 54 (0, 0)) ∧ cur.size = n * 11 := ⟨_, heap_alloc_new w _, size_madeCells _ _⟩
  generalize hW : w.alloc (.cells (madeCells #[.string ⟨#[]⟩, .int .i64 0, .int .i64 0, .int .i64 0, .int .i64 0, .int .i64 0, .int .i64 0, .int .i64 0, .int .i64 0, .slice none 0 0, .int .i64 0] (n * 11)) 54) = w1 at *
  have hb1 : Below w.heap.size w w1 := by rw [← hW]; exact bel1
  have hs1 : w.heap.size < w1.heap.size := by rw [← hW]; simp
  clear hW hmk
  have rel0 : ∃ cur, w1.heap[w.heap.size]? = some (.cells cur 54 (0, 0)) ∧ cur.size = n * 11 ∧ Hid (RowR HeadR 11 w1 (w.heap.size + 1) w1.heap.size cur 0 xs) := by
    obtain ⟨cur, h1, h2⟩ := hrow
    exact ⟨cur, h1, h2, Lib.hid (fun j x hj => absurd hj (by omega))⟩
  clear hrow
  go_loopw [4] (fun i wr => ∃ k : Nat, k ≤ n ∧ i = .int .i64 k ∧ Below w.heap.size w wr ∧ w.heap.size < wr.heap.size ∧ ∃ cur, wr.heap[w.heap.size]? = some (.cells cur 54 (0, 0)) ∧ cur.size = n * 11 ∧ Hid (RowR HeadR 11 wr (w.heap.size + 1) wr.heap.size cur k xs)) (fun i _ => n - (intOf i).toNat)
  case atStart => exact ⟨0, Nat.zero_le _, rfl, hb1, hs1, rel0⟩
  case round =>
    clear rel0 hb1 hs1
    obtain ⟨k, hk, rfl, hB, hS, cur, hg, hcs, HR⟩ := hrel
    by_cases hlt : k < n
    · obtain ⟨x, hx⟩ : ∃ x, xs[k]? = some x := ⟨xs[k]'(by rw [hl.out]; exact hlt), List.getElem?_eq_getElem _⟩
      obtain ⟨b, off, rfl, _, _, bl, hc⟩ := (SliceR.below H.out hB (HeadR.below hB H.out.lo_le)).at_ (by omega)
      obtain ⟨cs, hcl, hcc, hr⟩ := hc k x hx
      clear hc
      have hhi : hi ≤ wr.heap.size := Nat.le_trans H.out.lo_le hB.size
      obtain ⟨name_, prev_, ⟨⟨tree_root_at_, tree_root_birth_, tree_root_size_, tree_root_sum_, tree_root_level_⟩, tree_depth_, tree_many_⟩, dead_, quota_⟩ := x
      have hr0 := hr
      obtain ⟨Aa0, na0, ca0, rfl, ha0, ha1⟩ := hr0
      have G := Lib.hid hr
      have q0 := hcc 0 _ rfl
      have q1 := hcc 1 _ rfl
      have q2 := hcc 2 _ rfl
      have q3 := hcc 3 _ rfl
      have q4 := hcc 4 _ rfl
      have q5 := hcc 5 _ rfl
      have q6 := hcc 6 _ rfl
      have q7 := hcc 7 _ rfl
      have q8 := hcc 8 _ rfl
      have q9 := hcc 9 _ rfl
      have q10 := hcc 10 _ rfl
      simp only [Nat.add_zero] at q0
      clear hcc hcl hr ha0 ha1
      have k0 : (0 : Int) ≤ (k : Int) := by omega
      have k1 : (k : Int) < (n : Int) := by omega
      have HX := Lib.hid hx
      clear hx
      have HG := Lib.hid hg
      have hkn : k * 11 + 11 ≤ cur.size := by rw [hcs]; omega
      have HC := Lib.hid hcs
      clear hg hcs
      go_wp2_with fail
      refine (toHead_any [.string name_, .int .i64 prev_, .int .i64 tree_root_at_, .int .i64 tree_root_birth_, .int .i64 tree_root_size_, .int .i64 tree_root_sum_, .int .i64 tree_root_level_, .int .i64 tree_depth_, .int .i64 tree_many_, .slice Aa0 na0 ca0, .int .i64 quota_] _ _ _ _ G.out (by have := HZ.out; have := sum_le sizeHead HX.out; omega)).mono ?_
      rintro e w2 ⟨cs2, rfl, hr2, hb2⟩
      have hr3 := hr2
      obtain ⟨Ar0, nr0, cr0, rfl, hr0, hr1⟩ := hr3
      have G2 := Lib.hid hr2
      clear hr2 hr0 hr1
      have hg2 := (hb2.block _ hS).trans HG.out
      have hs2 : w.heap.size < w2.heap.size := Nat.lt_of_lt_of_le hS hb2.size
      have hB2 : Below w.heap.size w w2 := hB.trans (hb2.mono hB.size)
      have HK := Lib.hid hb2
      clear hb2 bl q0 q1 q2 q3 q4 q5 q6 q7 q8 q9 q10
      have t0 : w2.cell? ⟨w.heap.size, k * 11, none⟩ = some _ := block_cell hg2 (by omega)
      have f0 : w2.frozen? ⟨w.heap.size, k * 11, none⟩ = false := block_free hg2 _
      have t1 : w2.cell? ⟨w.heap.size, k * 11 + 1, none⟩ = some _ := block_cell hg2 (by omega)
      have f1 : w2.frozen? ⟨w.heap.size, k * 11 + 1, none⟩ = false := block_free hg2 _
      have t2 : w2.cell? ⟨w.heap.size, k * 11 + 2, none⟩ = some _ := block_cell hg2 (by omega)
      have f2 : w2.frozen? ⟨w.heap.size, k * 11 + 2, none⟩ = false := block_free hg2 _
      have t3 : w2.cell? ⟨w.heap.size, k * 11 + 3, none⟩ = some _ := block_cell hg2 (by omega)
      have f3 : w2.frozen? ⟨w.heap.size, k * 11 + 3, none⟩ = false := block_free hg2 _
      have t4 : w2.cell? ⟨w.heap.size, k * 11 + 4, none⟩ = some _ := block_cell hg2 (by omega)
      have f4 : w2.frozen? ⟨w.heap.size, k * 11 + 4, none⟩ = false := block_free hg2 _
      have t5 : w2.cell? ⟨w.heap.size, k * 11 + 5, none⟩ = some _ := block_cell hg2 (by omega)
      have f5 : w2.frozen? ⟨w.heap.size, k * 11 + 5, none⟩ = false := block_free hg2 _
      have t6 : w2.cell? ⟨w.heap.size, k * 11 + 6, none⟩ = some _ := block_cell hg2 (by omega)
      have f6 : w2.frozen? ⟨w.heap.size, k * 11 + 6, none⟩ = false := block_free hg2 _
      have t7 : w2.cell? ⟨w.heap.size, k * 11 + 7, none⟩ = some _ := block_cell hg2 (by omega)
      have f7 : w2.frozen? ⟨w.heap.size, k * 11 + 7, none⟩ = false := block_free hg2 _
      have t8 : w2.cell? ⟨w.heap.size, k * 11 + 8, none⟩ = some _ := block_cell hg2 (by omega)
      have f8 : w2.frozen? ⟨w.heap.size, k * 11 + 8, none⟩ = false := block_free hg2 _
      have t9 : w2.cell? ⟨w.heap.size, k * 11 + 9, none⟩ = some _ := block_cell hg2 (by omega)
      have f9 : w2.frozen? ⟨w.heap.size, k * 11 + 9, none⟩ = false := block_free hg2 _
      have t10 : w2.cell? ⟨w.heap.size, k * 11 + 10, none⟩ = some _ := block_cell hg2 (by omega)
      have f10 : w2.frozen? ⟨w.heap.size, k * 11 + 10, none⟩ = false := block_free hg2 _
      have HG2 := Lib.hid hg2
      clear hg2
      generalize cur[k * 11]'_ = z0 at t0
      generalize cur[k * 11 + 1]'_ = z1 at t1
      generalize cur[k * 11 + 2]'_ = z2 at t2
      generalize cur[k * 11 + 3]'_ = z3 at t3
      generalize cur[k * 11 + 4]'_ = z4 at t4
      generalize cur[k * 11 + 5]'_ = z5 at t5
      generalize cur[k * 11 + 6]'_ = z6 at t6
      generalize cur[k * 11 + 7]'_ = z7 at t7
      generalize cur[k * 11 + 8]'_ = z8 at t8
      generalize cur[k * 11 + 9]'_ = z9 at t9
      generalize cur[k * 11 + 10]'_ = z10 at t10
      go_wp2_with fail
      go_roundw
      case rel =>
        have hput : putAt cur (k * 11) [.string name_, .int .i64 prev_, .int .i64 tree_root_at_, .int .i64 tree_root_birth_, .int .i64 tree_root_size_, .int .i64 tree_root_sum_, .int .i64 tree_root_level_, .int .i64 tree_depth_, .int .i64 tree_many_, .slice Ar0 nr0 cr0, .int .i64 quota_] = (((((((((((cur.setIfInBounds (k * 11) (.string name_)).setIfInBounds (k * 11 + 1) (.int .i64 prev_)).setIfInBounds (k * 11 + 2) (.int .i64 tree_root_at_)).setIfInBounds (k * 11 + 3) (.int .i64 tree_root_birth_)).setIfInBounds (k * 11 + 4) (.int .i64 tree_root_size_)).setIfInBounds (k * 11 + 5) (.int .i64 tree_root_sum_)).setIfInBounds (k * 11 + 6) (.int .i64 tree_root_level_)).setIfInBounds (k * 11 + 7) (.int .i64 tree_depth_)).setIfInBounds (k * 11 + 8) (.int .i64 tree_many_)).setIfInBounds (k * 11 + 9) (.slice Ar0 nr0 cr0)).setIfInBounds (k * 11 + 10) (.int .i64 quota_)) := by simp only [putAt, Nat.add_assoc, Nat.reduceAdd]
        refine ⟨k + 1, by omega, by go_num, Below.setCell (p := ⟨w.heap.size, _, none⟩) (Below.setCell (p := ⟨w.heap.size, _, none⟩) (Below.setCell (p := ⟨w.heap.size, _, none⟩) (Below.setCell (p := ⟨w.heap.size, _, none⟩) (Below.setCell (p := ⟨w.heap.size, _, none⟩) (Below.setCell (p := ⟨w.heap.size, _, none⟩) (Below.setCell (p := ⟨w.heap.size, _, none⟩) (Below.setCell (p := ⟨w.heap.size, _, none⟩) (Below.setCell (p := ⟨w.heap.size, _, none⟩) (Below.setCell (p := ⟨w.heap.size, _, none⟩) (Below.setCell (p := ⟨w.heap.size, _, none⟩) (hB2) (Nat.le_refl _) _) (Nat.le_refl _) _) (Nat.le_refl _) _) (Nat.le_refl _) _) (Nat.le_refl _) _) (Nat.le_refl _) _) (Nat.le_refl _) _) (Nat.le_refl _) _) (Nat.le_refl _) _) (Nat.le_refl _) _) (Nat.le_refl _) _, by simpa using hs2, (((((((((((cur.setIfInBounds (k * 11) (.string name_)).setIfInBounds (k * 11 + 1) (.int .i64 prev_)).setIfInBounds (k * 11 + 2) (.int .i64 tree_root_at_)).setIfInBounds (k * 11 + 3) (.int .i64 tree_root_birth_)).setIfInBounds (k * 11 + 4) (.int .i64 tree_root_size_)).setIfInBounds (k * 11 + 5) (.int .i64 tree_root_sum_)).setIfInBounds (k * 11 + 6) (.int .i64 tree_root_level_)).setIfInBounds (k * 11 + 7) (.int .i64 tree_depth_)).setIfInBounds (k * 11 + 8) (.int .i64 tree_many_)).setIfInBounds (k * 11 + 9) (.slice Ar0 nr0 cr0)).setIfInBounds (k * 11 + 10) (.int .i64 quota_)), block_set (block_set (block_set (block_set (block_set (block_set (block_set (block_set (block_set (block_set (block_set (HG2.out))))))))))), (by rw [← hput, putAt_size]; exact HC.out), Lib.hid ?_⟩
        rw [← hput]
        refine RowR.step (n := n) HR.out HX.out rfl HC.out hlt ?_ ?_
        · exact HeadR.new (Step.setCell (p := ⟨w.heap.size, k * 11 + 10, none⟩) (Step.setCell (p := ⟨w.heap.size, k * 11 + 9, none⟩) (Step.setCell (p := ⟨w.heap.size, k * 11 + 8, none⟩) (Step.setCell (p := ⟨w.heap.size, k * 11 + 7, none⟩) (Step.setCell (p := ⟨w.heap.size, k * 11 + 6, none⟩) (Step.setCell (p := ⟨w.heap.size, k * 11 + 5, none⟩) (Step.setCell (p := ⟨w.heap.size, k * 11 + 4, none⟩) (Step.setCell (p := ⟨w.heap.size, k * 11 + 3, none⟩) (Step.setCell (p := ⟨w.heap.size, k * 11 + 2, none⟩) (Step.setCell (p := ⟨w.heap.size, k * 11 + 1, none⟩) (Step.setCell (p := ⟨w.heap.size, k * 11, none⟩) (Step.refl _ _) (Nat.lt_succ_self _) _) (Nat.lt_succ_self _) _) (Nat.lt_succ_self _) _) (Nat.lt_succ_self _) _) (Nat.lt_succ_self _) _) (Nat.lt_succ_self _) _) (Nat.lt_succ_self _) _) (Nat.lt_succ_self _) _) (Nat.lt_succ_self _) _) (Nat.lt_succ_self _) _) (Nat.lt_succ_self _) _) (Nat.succ_le_of_lt hS) G2.out
        · exact fun _ _ h => HeadR.old HK.out (Step.setCell (p := ⟨w.heap.size, k * 11 + 10, none⟩) (Step.setCell (p := ⟨w.heap.size, k * 11 + 9, none⟩) (Step.setCell (p := ⟨w.heap.size, k * 11 + 8, none⟩) (Step.setCell (p := ⟨w.heap.size, k * 11 + 7, none⟩) (Step.setCell (p := ⟨w.heap.size, k * 11 + 6, none⟩) (Step.setCell (p := ⟨w.heap.size, k * 11 + 5, none⟩) (Step.setCell (p := ⟨w.heap.size, k * 11 + 4, none⟩) (Step.setCell (p := ⟨w.heap.size, k * 11 + 3, none⟩) (Step.setCell (p := ⟨w.heap.size, k * 11 + 2, none⟩) (Step.setCell (p := ⟨w.heap.size, k * 11 + 1, none⟩) (Step.setCell (p := ⟨w.heap.size, k * 11, none⟩) (Step.refl _ _) (Nat.lt_succ_self _) _) (Nat.lt_succ_self _) _) (Nat.lt_succ_self _) _) (Nat.lt_succ_self _) _) (Nat.lt_succ_self _) _) (Nat.lt_succ_self _) _) (Nat.lt_succ_self _) _) (Nat.lt_succ_self _) _) (Nat.lt_succ_self _) _) (Nat.lt_succ_self _) _) (Nat.lt_succ_self _) _) h
      case measure => simp [intOf]; omega
    · obtain rfl : k = n := by omega
      have hfin := RowR.slice (lo := w.heap.size) (hi := wr.heap.size) (c := k) (fun j x hj hx => (HR.out j x hj hx).imp fun cs h => ⟨h.1, h.2.1, HeadR.wide (Nat.le_succ _) (Nat.le_refl _) (Nat.le_refl _) _ _ h.2.2⟩) hl.out (by unfold maxLen; omega) (Nat.le_refl _) hg (Nat.le_refl _) hS (Nat.le_refl _)
      have HF := Lib.hid hfin
      clear hfin HR hg hcs
      go_wp2_with fail
      go_ret
      exact ⟨_, _, rfl, HF.out, hB⟩

set_option maxRecDepth 100000 in
set_option maxHeartbeats 2000000 in
theorem toSnap_any (cs : List Value) (x : SnapD) (w : World) (lo hi : Nat) (h : SnapR w lo hi cs x) (hz : sizeSnap x ≤ 1048576) :
    Calls Tryd.prog 35 #[.agg cs.toArray] w (NewR SnapR w x) := by
  obtain ⟨id_, name_, txg_, prev_, ⟨⟨tree_root_at_, tree_root_birth_, tree_root_size_, tree_root_sum_, tree_root_level_⟩, tree_depth_, tree_many_⟩, dead_⟩ := x
  obtain ⟨Aa0, na0, ca0, rfl, ha0, ha1⟩ := h
  show Calls Tryd.prog 35 #[.agg #[.int .i64 id_, .string name_, .int .i64 txg_, .int .i64 prev_, .int .i64 tree_root_at_, .int .i64 tree_root_birth_, .int .i64 tree_root_size_, .int .i64 tree_root_sum_, .int .i64 tree_root_level_, .int .i64 tree_depth_, .int .i64 tree_many_, .slice Aa0 na0 ca0]] w _
  have Hha0 := Lib.hid ha0
  clear ha0
  have Hha1 := Lib.hid ha1
  clear ha1
  have hz : name_.size + dead_.length ≤ 1048576 := hz
  have HZ := Lib.hid hz
  have hl0 := Hha1.out.len
  go_enter Tryd.func35, Tryd.ntmps35
  go_wp2_with fail
  have l1 : w.heap.size ≤ w.heap.size + 1 := Nat.le_add_right _ _
  have l2 : w.heap.size ≤ w.heap.size + 1 + 1 := by omega
  have m1 : w.heap.size + 1 < w.heap.size + 3 := by omega
  have m2 : w.heap.size + 1 + 1 < w.heap.size + 3 := by omega
  have n02 : w.heap.size ≠ w.heap.size + 1 + 1 := by omega
  have n12 : w.heap.size + 1 ≠ w.heap.size + 1 + 1 := by omega
  refine (toTreeF_any [.int .i64 tree_root_at_, .int .i64 tree_root_birth_, .int .i64 tree_root_size_, .int .i64 tree_root_sum_, .int .i64 tree_root_level_, .int .i64 tree_depth_, .int .i64 tree_many_] ((tree_root_at_, tree_root_birth_, tree_root_size_, tree_root_sum_, tree_root_level_), tree_depth_, tree_many_) _ w 0 0 rfl).mono ?_
  rintro e w1 ⟨rfl, hb1⟩
  have X1 : Below w.heap.size w w1 := Below.trans (bel3) (hb1.mono (by simp <;> omega))
  have b1_0 : w1.heap[w.heap.size]? = some (.cells #[.int .i64 id_, .string name_, .int .i64 txg_, .int .i64 prev_, .int .i64 tree_root_at_, .int .i64 tree_root_birth_, .int .i64 tree_root_size_, .int .i64 tree_root_sum_, .int .i64 tree_root_level_, .int .i64 tree_depth_, .int .i64 tree_many_, .slice Aa0 na0 ca0] 69 (0, 0)) := (hb1.block _ (by simp <;> omega)).trans al3_0
  have b1_1 : w1.heap[w.heap.size + 1]? = some (.cells #[.int .i64 0, .string ⟨#[]⟩, .int .i64 0, .int .i64 0, .int .i64 0, .int .i64 0, .int .i64 0, .int .i64 0, .int .i64 0, .int .i64 0, .int .i64 0, .slice none 0 0] 48 (0, 0)) := (hb1.block _ (by simp <;> omega)).trans al3_1
  have b1_2 : w1.heap[w.heap.size + 1 + 1]? = some (.cells #[.int .i64 id_, .string name_, .int .i64 txg_, .int .i64 prev_, .int .i64 0, .int .i64 0, .int .i64 0, .int .i64 0, .int .i64 0, .int .i64 0, .int .i64 0, .slice none 0 0] 48 (0, 0)) := (hb1.block _ (by simp <;> omega)).trans al3_2
  have z1 : w.heap.size + 3 ≤ w1.heap.size := by have := hb1.size; simp at this; omega
  have c1_0_0 : w1.cell? ⟨w.heap.size, 0, none⟩ = some (.int .i64 id_) := cell_of_row _ _ 0 _ _ (0, 0) b1_0
  have c1_0_1 : w1.cell? ⟨w.heap.size, 1, none⟩ = some (.string name_) := cell_of_row _ _ 1 _ _ (0, 0) b1_0
  have c1_0_2 : w1.cell? ⟨w.heap.size, 2, none⟩ = some (.int .i64 txg_) := cell_of_row _ _ 2 _ _ (0, 0) b1_0
  have c1_0_3 : w1.cell? ⟨w.heap.size, 3, none⟩ = some (.int .i64 prev_) := cell_of_row _ _ 3 _ _ (0, 0) b1_0
  have c1_0_4 : w1.cell? ⟨w.heap.size, 4, none⟩ = some (.int .i64 tree_root_at_) := cell_of_row _ _ 4 _ _ (0, 0) b1_0
  have c1_0_5 : w1.cell? ⟨w.heap.size, 5, none⟩ = some (.int .i64 tree_root_birth_) := cell_of_row _ _ 5 _ _ (0, 0) b1_0
  have c1_0_6 : w1.cell? ⟨w.heap.size, 6, none⟩ = some (.int .i64 tree_root_size_) := cell_of_row _ _ 6 _ _ (0, 0) b1_0
  have c1_0_7 : w1.cell? ⟨w.heap.size, 7, none⟩ = some (.int .i64 tree_root_sum_) := cell_of_row _ _ 7 _ _ (0, 0) b1_0
  have c1_0_8 : w1.cell? ⟨w.heap.size, 8, none⟩ = some (.int .i64 tree_root_level_) := cell_of_row _ _ 8 _ _ (0, 0) b1_0
  have c1_0_9 : w1.cell? ⟨w.heap.size, 9, none⟩ = some (.int .i64 tree_depth_) := cell_of_row _ _ 9 _ _ (0, 0) b1_0
  have c1_0_10 : w1.cell? ⟨w.heap.size, 10, none⟩ = some (.int .i64 tree_many_) := cell_of_row _ _ 10 _ _ (0, 0) b1_0
  have c1_0_11 : w1.cell? ⟨w.heap.size, 11, none⟩ = some (.slice Aa0 na0 ca0) := cell_of_row _ _ 11 _ _ (0, 0) b1_0
  have c1_1_0 : w1.cell? ⟨w.heap.size + 1, 0, none⟩ = some (.int .i64 0) := cell_of_row _ _ 0 _ _ (0, 0) b1_1
  have c1_1_1 : w1.cell? ⟨w.heap.size + 1, 1, none⟩ = some (.string ⟨#[]⟩) := cell_of_row _ _ 1 _ _ (0, 0) b1_1
  have c1_1_2 : w1.cell? ⟨w.heap.size + 1, 2, none⟩ = some (.int .i64 0) := cell_of_row _ _ 2 _ _ (0, 0) b1_1
  have c1_1_3 : w1.cell? ⟨w.heap.size + 1, 3, none⟩ = some (.int .i64 0) := cell_of_row _ _ 3 _ _ (0, 0) b1_1
  have c1_1_4 : w1.cell? ⟨w.heap.size + 1, 4, none⟩ = some (.int .i64 0) := cell_of_row _ _ 4 _ _ (0, 0) b1_1
  have c1_1_5 : w1.cell? ⟨w.heap.size + 1, 5, none⟩ = some (.int .i64 0) := cell_of_row _ _ 5 _ _ (0, 0) b1_1
  have c1_1_6 : w1.cell? ⟨w.heap.size + 1, 6, none⟩ = some (.int .i64 0) := cell_of_row _ _ 6 _ _ (0, 0) b1_1
  have c1_1_7 : w1.cell? ⟨w.heap.size + 1, 7, none⟩ = some (.int .i64 0) := cell_of_row _ _ 7 _ _ (0, 0) b1_1
  have c1_1_8 : w1.cell? ⟨w.heap.size + 1, 8, none⟩ = some (.int .i64 0) := cell_of_row _ _ 8 _ _ (0, 0) b1_1
  have c1_1_9 : w1.cell? ⟨w.heap.size + 1, 9, none⟩ = some (.int .i64 0) := cell_of_row _ _ 9 _ _ (0, 0) b1_1
  have c1_1_10 : w1.cell? ⟨w.heap.size + 1, 10, none⟩ = some (.int .i64 0) := cell_of_row _ _ 10 _ _ (0, 0) b1_1
  have c1_1_11 : w1.cell? ⟨w.heap.size + 1, 11, none⟩ = some (.slice none 0 0) := cell_of_row _ _ 11 _ _ (0, 0) b1_1
  have f1_1_0 := block_free b1_1 0
  have f1_1_1 := block_free b1_1 1
  have f1_1_2 := block_free b1_1 2
  have f1_1_3 := block_free b1_1 3
  have f1_1_4 := block_free b1_1 4
  have f1_1_5 := block_free b1_1 5
  have f1_1_6 := block_free b1_1 6
  have f1_1_7 := block_free b1_1 7
  have f1_1_8 := block_free b1_1 8
  have f1_1_9 := block_free b1_1 9
  have f1_1_10 := block_free b1_1 10
  have f1_1_11 := block_free b1_1 11
  have c1_2_0 : w1.cell? ⟨w.heap.size + 1 + 1, 0, none⟩ = some (.int .i64 id_) := cell_of_row _ _ 0 _ _ (0, 0) b1_2
  have c1_2_1 : w1.cell? ⟨w.heap.size + 1 + 1, 1, none⟩ = some (.string name_) := cell_of_row _ _ 1 _ _ (0, 0) b1_2
  have c1_2_2 : w1.cell? ⟨w.heap.size + 1 + 1, 2, none⟩ = some (.int .i64 txg_) := cell_of_row _ _ 2 _ _ (0, 0) b1_2
  have c1_2_3 : w1.cell? ⟨w.heap.size + 1 + 1, 3, none⟩ = some (.int .i64 prev_) := cell_of_row _ _ 3 _ _ (0, 0) b1_2
  have c1_2_4 : w1.cell? ⟨w.heap.size + 1 + 1, 4, none⟩ = some (.int .i64 0) := cell_of_row _ _ 4 _ _ (0, 0) b1_2
  have c1_2_5 : w1.cell? ⟨w.heap.size + 1 + 1, 5, none⟩ = some (.int .i64 0) := cell_of_row _ _ 5 _ _ (0, 0) b1_2
  have c1_2_6 : w1.cell? ⟨w.heap.size + 1 + 1, 6, none⟩ = some (.int .i64 0) := cell_of_row _ _ 6 _ _ (0, 0) b1_2
  have c1_2_7 : w1.cell? ⟨w.heap.size + 1 + 1, 7, none⟩ = some (.int .i64 0) := cell_of_row _ _ 7 _ _ (0, 0) b1_2
  have c1_2_8 : w1.cell? ⟨w.heap.size + 1 + 1, 8, none⟩ = some (.int .i64 0) := cell_of_row _ _ 8 _ _ (0, 0) b1_2
  have c1_2_9 : w1.cell? ⟨w.heap.size + 1 + 1, 9, none⟩ = some (.int .i64 0) := cell_of_row _ _ 9 _ _ (0, 0) b1_2
  have c1_2_10 : w1.cell? ⟨w.heap.size + 1 + 1, 10, none⟩ = some (.int .i64 0) := cell_of_row _ _ 10 _ _ (0, 0) b1_2
  have c1_2_11 : w1.cell? ⟨w.heap.size + 1 + 1, 11, none⟩ = some (.slice none 0 0) := cell_of_row _ _ 11 _ _ (0, 0) b1_2
  have f1_2_0 := block_free b1_2 0
  have f1_2_1 := block_free b1_2 1
  have f1_2_2 := block_free b1_2 2
  have f1_2_3 := block_free b1_2 3
  have f1_2_4 := block_free b1_2 4
  have f1_2_5 := block_free b1_2 5
  have f1_2_6 := block_free b1_2 6
  have f1_2_7 := block_free b1_2 7
  have f1_2_8 := block_free b1_2 8
  have f1_2_9 := block_free b1_2 9
  have f1_2_10 := block_free b1_2 10
  have f1_2_11 := block_free b1_2 11
  have HB1_0 := Lib.hid b1_0
  have HB1_1 := Lib.hid b1_1
  have HB1_2 := Lib.hid b1_2
  clear b1_0 b1_1 b1_2 hb1
  go_wp2_with fail
  have b1_0 := HB1_0.out
  have b1_1 := HB1_1.out
  have b1_2 := HB1_2.out
  have Y2 : ∀ W, Below w.heap.size w W → SliceR PtrR 5 W lo hi Aa0 na0 ca0 dead_ := fun W hb => SliceR.below Hha1.out hb (PtrR.below hb Hha1.out.lo_le)
  refine ((toPtrS_any _ _ _ dead_ _ lo hi (Y2 _ ((Below.setCell (p := ⟨w.heap.size + 1 + 1, 10, none⟩) (Below.setCell (p := ⟨w.heap.size + 1 + 1, 9, none⟩) (Below.setCell (p := ⟨w.heap.size + 1 + 1, 8, none⟩) (Below.setCell (p := ⟨w.heap.size + 1 + 1, 7, none⟩) (Below.setCell (p := ⟨w.heap.size + 1 + 1, 6, none⟩) (Below.setCell (p := ⟨w.heap.size + 1 + 1, 5, none⟩) (Below.setCell (p := ⟨w.heap.size + 1 + 1, 4, none⟩) X1 l2 _) l2 _) l2 _) l2 _) l2 _) l2 _) l2 _))) (by have := HZ.out; have := Hha1.out.len; clear HZ; omega)).mono ?_)
  rintro e w2 ⟨B2, d2, rfl, S2, hb2⟩
  clear Y2
  have X2 : Below w.heap.size w w2 := Below.trans ((Below.setCell (p := ⟨w.heap.size + 1 + 1, 10, none⟩) (Below.setCell (p := ⟨w.heap.size + 1 + 1, 9, none⟩) (Below.setCell (p := ⟨w.heap.size + 1 + 1, 8, none⟩) (Below.setCell (p := ⟨w.heap.size + 1 + 1, 7, none⟩) (Below.setCell (p := ⟨w.heap.size + 1 + 1, 6, none⟩) (Below.setCell (p := ⟨w.heap.size + 1 + 1, 5, none⟩) (Below.setCell (p := ⟨w.heap.size + 1 + 1, 4, none⟩) X1 l2 _) l2 _) l2 _) l2 _) l2 _) l2 _) l2 _)) (hb2.mono (by simp <;> omega))
  have b2_0 : w2.heap[w.heap.size]? = some (.cells #[.int .i64 id_, .string name_, .int .i64 txg_, .int .i64 prev_, .int .i64 tree_root_at_, .int .i64 tree_root_birth_, .int .i64 tree_root_size_, .int .i64 tree_root_sum_, .int .i64 tree_root_level_, .int .i64 tree_depth_, .int .i64 tree_many_, .slice Aa0 na0 ca0] 69 (0, 0)) := (hb2.block _ (by simp <;> omega)).trans ((heap_far n02).trans ((heap_far n02).trans ((heap_far n02).trans ((heap_far n02).trans ((heap_far n02).trans ((heap_far n02).trans ((heap_far n02).trans (b1_0))))))))
  have b2_1 : w2.heap[w.heap.size + 1]? = some (.cells #[.int .i64 0, .string ⟨#[]⟩, .int .i64 0, .int .i64 0, .int .i64 0, .int .i64 0, .int .i64 0, .int .i64 0, .int .i64 0, .int .i64 0, .int .i64 0, .slice none 0 0] 48 (0, 0)) := (hb2.block _ (by simp <;> omega)).trans ((heap_far n12).trans ((heap_far n12).trans ((heap_far n12).trans ((heap_far n12).trans ((heap_far n12).trans ((heap_far n12).trans ((heap_far n12).trans (b1_1))))))))
  have b2_2 : w2.heap[w.heap.size + 1 + 1]? = some (.cells #[.int .i64 id_, .string name_, .int .i64 txg_, .int .i64 prev_, .int .i64 tree_root_at_, .int .i64 tree_root_birth_, .int .i64 tree_root_size_, .int .i64 tree_root_sum_, .int .i64 tree_root_level_, .int .i64 tree_depth_, .int .i64 tree_many_, .slice none 0 0] 48 (0, 0)) := (hb2.block _ (by simp <;> omega)).trans ((block_set (block_set (block_set (block_set (block_set (block_set (block_set (b1_2)))))))).trans (by rfl))
  have z2 : w.heap.size + 3 ≤ w2.heap.size := by have := hb2.size; simp [World.setCell] at this; omega
  have S2 := SliceR.wide (lo' := w.heap.size + 3) (hi' := w2.heap.size) S2 (by simp [World.setCell] <;> omega) (Nat.le_refl _) (Nat.le_refl _) (PtrR.wide (by simp [World.setCell] <;> omega) (Nat.le_refl _) (Nat.le_refl _))
  clear c1_0_0 c1_0_1 c1_0_2 c1_0_3 c1_0_4 c1_0_5 c1_0_6 c1_0_7 c1_0_8 c1_0_9 c1_0_10 c1_0_11 c1_1_0 c1_1_1 c1_1_2 c1_1_3 c1_1_4 c1_1_5 c1_1_6 c1_1_7 c1_1_8 c1_1_9 c1_1_10 c1_1_11 f1_1_0 f1_1_1 f1_1_2 f1_1_3 f1_1_4 f1_1_5 f1_1_6 f1_1_7 f1_1_8 f1_1_9 f1_1_10 f1_1_11 c1_2_0 c1_2_1 c1_2_2 c1_2_3 c1_2_4 c1_2_5 c1_2_6 c1_2_7 c1_2_8 c1_2_9 c1_2_10 c1_2_11 f1_2_0 f1_2_1 f1_2_2 f1_2_3 f1_2_4 f1_2_5 f1_2_6 f1_2_7 f1_2_8 f1_2_9 f1_2_10 f1_2_11
  have c2_0_0 : w2.cell? ⟨w.heap.size, 0, none⟩ = some (.int .i64 id_) := cell_of_row _ _ 0 _ _ (0, 0) b2_0
  have c2_0_1 : w2.cell? ⟨w.heap.size, 1, none⟩ = some (.string name_) := cell_of_row _ _ 1 _ _ (0, 0) b2_0
  have c2_0_2 : w2.cell? ⟨w.heap.size, 2, none⟩ = some (.int .i64 txg_) := cell_of_row _ _ 2 _ _ (0, 0) b2_0
  have c2_0_3 : w2.cell? ⟨w.heap.size, 3, none⟩ = some (.int .i64 prev_) := cell_of_row _ _ 3 _ _ (0, 0) b2_0
  have c2_0_4 : w2.cell? ⟨w.heap.size, 4, none⟩ = some (.int .i64 tree_root_at_) := cell_of_row _ _ 4 _ _ (0, 0) b2_0
  have c2_0_5 : w2.cell? ⟨w.heap.size, 5, none⟩ = some (.int .i64 tree_root_birth_) := cell_of_row _ _ 5 _ _ (0, 0) b2_0
  have c2_0_6 : w2.cell? ⟨w.heap.size, 6, none⟩ = some (.int .i64 tree_root_size_) := cell_of_row _ _ 6 _ _ (0, 0) b2_0
  have c2_0_7 : w2.cell? ⟨w.heap.size, 7, none⟩ = some (.int .i64 tree_root_sum_) := cell_of_row _ _ 7 _ _ (0, 0) b2_0
  have c2_0_8 : w2.cell? ⟨w.heap.size, 8, none⟩ = some (.int .i64 tree_root_level_) := cell_of_row _ _ 8 _ _ (0, 0) b2_0
  have c2_0_9 : w2.cell? ⟨w.heap.size, 9, none⟩ = some (.int .i64 tree_depth_) := cell_of_row _ _ 9 _ _ (0, 0) b2_0
  have c2_0_10 : w2.cell? ⟨w.heap.size, 10, none⟩ = some (.int .i64 tree_many_) := cell_of_row _ _ 10 _ _ (0, 0) b2_0
  have c2_0_11 : w2.cell? ⟨w.heap.size, 11, none⟩ = some (.slice Aa0 na0 ca0) := cell_of_row _ _ 11 _ _ (0, 0) b2_0
  have c2_1_0 : w2.cell? ⟨w.heap.size + 1, 0, none⟩ = some (.int .i64 0) := cell_of_row _ _ 0 _ _ (0, 0) b2_1
  have c2_1_1 : w2.cell? ⟨w.heap.size + 1, 1, none⟩ = some (.string ⟨#[]⟩) := cell_of_row _ _ 1 _ _ (0, 0) b2_1
  have c2_1_2 : w2.cell? ⟨w.heap.size + 1, 2, none⟩ = some (.int .i64 0) := cell_of_row _ _ 2 _ _ (0, 0) b2_1
  have c2_1_3 : w2.cell? ⟨w.heap.size + 1, 3, none⟩ = some (.int .i64 0) := cell_of_row _ _ 3 _ _ (0, 0) b2_1
  have c2_1_4 : w2.cell? ⟨w.heap.size + 1, 4, none⟩ = some (.int .i64 0) := cell_of_row _ _ 4 _ _ (0, 0) b2_1
  have c2_1_5 : w2.cell? ⟨w.heap.size + 1, 5, none⟩ = some (.int .i64 0) := cell_of_row _ _ 5 _ _ (0, 0) b2_1
  have c2_1_6 : w2.cell? ⟨w.heap.size + 1, 6, none⟩ = some (.int .i64 0) := cell_of_row _ _ 6 _ _ (0, 0) b2_1
  have c2_1_7 : w2.cell? ⟨w.heap.size + 1, 7, none⟩ = some (.int .i64 0) := cell_of_row _ _ 7 _ _ (0, 0) b2_1
  have c2_1_8 : w2.cell? ⟨w.heap.size + 1, 8, none⟩ = some (.int .i64 0) := cell_of_row _ _ 8 _ _ (0, 0) b2_1
  have c2_1_9 : w2.cell? ⟨w.heap.size + 1, 9, none⟩ = some (.int .i64 0) := cell_of_row _ _ 9 _ _ (0, 0) b2_1
  have c2_1_10 : w2.cell? ⟨w.heap.size + 1, 10, none⟩ = some (.int .i64 0) := cell_of_row _ _ 10 _ _ (0, 0) b2_1
  have c2_1_11 : w2.cell? ⟨w.heap.size + 1, 11, none⟩ = some (.slice none 0 0) := cell_of_row _ _ 11 _ _ (0, 0) b2_1
  have f2_1_0 := block_free b2_1 0
  have f2_1_1 := block_free b2_1 1
  have f2_1_2 := block_free b2_1 2
  have f2_1_3 := block_free b2_1 3
  have f2_1_4 := block_free b2_1 4
  have f2_1_5 := block_free b2_1 5
  have f2_1_6 := block_free b2_1 6
  have f2_1_7 := block_free b2_1 7
  have f2_1_8 := block_free b2_1 8
  have f2_1_9 := block_free b2_1 9
  have f2_1_10 := block_free b2_1 10
  have f2_1_11 := block_free b2_1 11
  have c2_2_0 : w2.cell? ⟨w.heap.size + 1 + 1, 0, none⟩ = some (.int .i64 id_) := cell_of_row _ _ 0 _ _ (0, 0) b2_2
  have c2_2_1 : w2.cell? ⟨w.heap.size + 1 + 1, 1, none⟩ = some (.string name_) := cell_of_row _ _ 1 _ _ (0, 0) b2_2
  have c2_2_2 : w2.cell? ⟨w.heap.size + 1 + 1, 2, none⟩ = some (.int .i64 txg_) := cell_of_row _ _ 2 _ _ (0, 0) b2_2
  have c2_2_3 : w2.cell? ⟨w.heap.size + 1 + 1, 3, none⟩ = some (.int .i64 prev_) := cell_of_row _ _ 3 _ _ (0, 0) b2_2
  have c2_2_4 : w2.cell? ⟨w.heap.size + 1 + 1, 4, none⟩ = some (.int .i64 tree_root_at_) := cell_of_row _ _ 4 _ _ (0, 0) b2_2
  have c2_2_5 : w2.cell? ⟨w.heap.size + 1 + 1, 5, none⟩ = some (.int .i64 tree_root_birth_) := cell_of_row _ _ 5 _ _ (0, 0) b2_2
  have c2_2_6 : w2.cell? ⟨w.heap.size + 1 + 1, 6, none⟩ = some (.int .i64 tree_root_size_) := cell_of_row _ _ 6 _ _ (0, 0) b2_2
  have c2_2_7 : w2.cell? ⟨w.heap.size + 1 + 1, 7, none⟩ = some (.int .i64 tree_root_sum_) := cell_of_row _ _ 7 _ _ (0, 0) b2_2
  have c2_2_8 : w2.cell? ⟨w.heap.size + 1 + 1, 8, none⟩ = some (.int .i64 tree_root_level_) := cell_of_row _ _ 8 _ _ (0, 0) b2_2
  have c2_2_9 : w2.cell? ⟨w.heap.size + 1 + 1, 9, none⟩ = some (.int .i64 tree_depth_) := cell_of_row _ _ 9 _ _ (0, 0) b2_2
  have c2_2_10 : w2.cell? ⟨w.heap.size + 1 + 1, 10, none⟩ = some (.int .i64 tree_many_) := cell_of_row _ _ 10 _ _ (0, 0) b2_2
  have c2_2_11 : w2.cell? ⟨w.heap.size + 1 + 1, 11, none⟩ = some (.slice none 0 0) := cell_of_row _ _ 11 _ _ (0, 0) b2_2
  have f2_2_0 := block_free b2_2 0
  have f2_2_1 := block_free b2_2 1
  have f2_2_2 := block_free b2_2 2
  have f2_2_3 := block_free b2_2 3
  have f2_2_4 := block_free b2_2 4
  have f2_2_5 := block_free b2_2 5
  have f2_2_6 := block_free b2_2 6
  have f2_2_7 := block_free b2_2 7
  have f2_2_8 := block_free b2_2 8
  have f2_2_9 := block_free b2_2 9
  have f2_2_10 := block_free b2_2 10
  have f2_2_11 := block_free b2_2 11
  have HB2_0 := Lib.hid b2_0
  have HB2_1 := Lib.hid b2_1
  have HB2_2 := Lib.hid b2_2
  clear b2_0 b2_1 b2_2 HB1_0 HB1_1 HB1_2 hb2 X1 z1
  have T2 := Lib.hid S2; clear S2
  go_wp2_with fail
  have b2_0 := HB2_0.out
  have b2_1 := HB2_1.out
  have b2_2 := HB2_2.out
  have S2 := T2.out; clear T2
  exact bodyPost_ret (v := .agg #[.int .i64 id_, .string name_, .int .i64 txg_, .int .i64 prev_, .int .i64 tree_root_at_, .int .i64 tree_root_birth_, .int .i64 tree_root_size_, .int .i64 tree_root_sum_, .int .i64 tree_root_level_, .int .i64 tree_depth_, .int .i64 tree_many_, .slice B2 na0 d2]) (by simp [results, Tryd.results35, go_sem, c2_1_0, f2_1_0, c2_1_1, f2_1_1, c2_1_2, f2_1_2, c2_1_3, f2_1_3, c2_1_4, f2_1_4, c2_1_5, f2_1_5, c2_1_6, f2_1_6, c2_1_7, f2_1_7, c2_1_8, f2_1_8, c2_1_9, f2_1_9, c2_1_10, f2_1_10, c2_1_11, f2_1_11]) rfl ⟨[.int .i64 id_, .string name_, .int .i64 txg_, .int .i64 prev_, .int .i64 tree_root_at_, .int .i64 tree_root_birth_, .int .i64 tree_root_size_, .int .i64 tree_root_sum_, .int .i64 tree_root_level_, .int .i64 tree_depth_, .int .i64 tree_many_, .slice B2 na0 d2], rfl, ⟨_, _, _, rfl, Hha0.out, (SliceR.far S2 (Step.setCell (p := ⟨w.heap.size + 1, 11, none⟩) (Step.setCell (p := ⟨w.heap.size + 1, 10, none⟩) (Step.setCell (p := ⟨w.heap.size + 1, 9, none⟩) (Step.setCell (p := ⟨w.heap.size + 1, 8, none⟩) (Step.setCell (p := ⟨w.heap.size + 1, 7, none⟩) (Step.setCell (p := ⟨w.heap.size + 1, 6, none⟩) (Step.setCell (p := ⟨w.heap.size + 1, 5, none⟩) (Step.setCell (p := ⟨w.heap.size + 1, 4, none⟩) (Step.setCell (p := ⟨w.heap.size + 1, 3, none⟩) (Step.setCell (p := ⟨w.heap.size + 1, 2, none⟩) (Step.setCell (p := ⟨w.heap.size + 1, 1, none⟩) (Step.setCell (p := ⟨w.heap.size + 1, 0, none⟩) (Step.setCell (p := ⟨w.heap.size + 1 + 1, 11, none⟩) (Step.refl _ _) m2 _) m1 _) m1 _) m1 _) m1 _) m1 _) m1 _) m1 _) m1 _) m1 _) m1 _) m1 _) m1 _) (Below.refl _ _) (fun a b => PtrR.keep a b) (fun a b c => PtrR.wide a b c)).wide (by omega) (Nat.le_refl _) (Nat.le_refl _) (PtrR.wide (by omega) (Nat.le_refl _) (Nat.le_refl _))⟩, (Below.setCell (p := ⟨w.heap.size + 1, 11, none⟩) (Below.setCell (p := ⟨w.heap.size + 1, 10, none⟩) (Below.setCell (p := ⟨w.heap.size + 1, 9, none⟩) (Below.setCell (p := ⟨w.heap.size + 1, 8, none⟩) (Below.setCell (p := ⟨w.heap.size + 1, 7, none⟩) (Below.setCell (p := ⟨w.heap.size + 1, 6, none⟩) (Below.setCell (p := ⟨w.heap.size + 1, 5, none⟩) (Below.setCell (p := ⟨w.heap.size + 1, 4, none⟩) (Below.setCell (p := ⟨w.heap.size + 1, 3, none⟩) (Below.setCell (p := ⟨w.heap.size + 1, 2, none⟩) (Below.setCell (p := ⟨w.heap.size + 1, 1, none⟩) (Below.setCell (p := ⟨w.heap.size + 1, 0, none⟩) (Below.setCell (p := ⟨w.heap.size + 1 + 1, 11, none⟩) X2 l2 _) l1 _) l1 _) l1 _) l1 _) l1 _) l1 _) l1 _) l1 _) l1 _) l1 _) l1 _) l1 _)⟩

theorem info_SnapS : (Tryd.prog.info? 48).map (fun i => (i.zero, i.size, i.bytes)) = some (some (.agg #[.int .i64 0, .string ⟨#[]⟩, .int .i64 0, .int .i64 0, .int .i64 0, .int .i64 0, .int .i64 0, .int .i64 0, .int .i64 0, .int .i64 0, .int .i64 0, .slice none 0 0]), 12, 120) := by kernel_rfl
theorem make_SnapS (n : Nat) (hn : n ≤ 1048576) (w : World) :
    (Instr.makeSlice 30 (.int .i64 (n : Int)) (.int .i64 (n : Int))).run Tryd.prog w = .ok (.slice (some ⟨w.heap.size, 0, none⟩) n n) (w.alloc (.cells (madeCells #[.int .i64 0, .string ⟨#[]⟩, .int .i64 0, .int .i64 0, .int .i64 0, .int .i64 0, .int .i64 0, .int .i64 0, .int .i64 0, .int .i64 0, .int .i64 0, .slice none 0 0] (n * 12)) 48)) := by
  obtain ⟨i, hi, hz, hs, hb⟩ := info_parts info_SnapS
  have hr := run_make (P := Tryd.prog) w 30 48 i (.agg #[.int .i64 0, .string ⟨#[]⟩, .int .i64 0, .int .i64 0, .int .i64 0, .int .i64 0, .int .i64 0, .int .i64 0, .int .i64 0, .int .i64 0, .int .i64 0, .slice none 0 0]) Tryd.underlying30 hi hz .i64 .i64 n n (by omega) (by omega) (by rw [hb]; omega) (by omega)
  simp only [Int.toNat_natCast, hs] at hr
  exact hr

set_option maxRecDepth 100000 in
set_option maxHeartbeats 2000000 in
theorem toSnapS_any (A : Option Addr) (n c : Nat) (xs : List SnapD) (w : World) (lo hi : Nat) (h : SliceR SnapR 12 w lo hi A n c xs) (hz : xs.length + (xs.map sizeSnap).sum ≤ 1048576) :
    Calls Tryd.prog 19 #[.slice A n c] w (NewSl SnapR 12 w n xs) := by
  have hl := Lib.hid h.len
  have hn : n ≤ 1048576 := by have := h.len; omega
  have HZ := Lib.hid hz
  clear hz
  have hmk := make_SnapS n hn w
  have H := Lib.hid h
  clear h
  go_enter Tryd.func19, Tryd.ntmps19
  go_wp2_with fail
  have hrow : ∃ cur, (w.alloc (.cells (madeCells #[.int .i64 0, .string ⟨#[]⟩, .int .i64 0, .int .i64 0, .int .i64 0, .int .i64 0, .int .i64 0, .int .i64 0, .int .i64 0, .int .i64 0, .int .i64 0, .slice none 0 0] (n * 12)) 48)).heap[w.heap.size]? = some (.cells cur 48 (0, 0)) ∧ cur.size = n * 12 := ⟨_, heap_alloc_new w _, size_madeCells _ _⟩
  generalize hW : w.alloc (.cells (madeCells #[.int .i64 0, .string ⟨#[]⟩, .int .i64 0, .int .i64 0, .int .i64 0, .int .i64 0, .int .i64 0, .int .i64 0, .int .i64 0, .int .i64 0, .int .i64 0, .slice none 0 0] (n * 12)) 48) = w1 at *
  have hb1 : Below w.heap.size w w1 := by rw [← hW]; exact bel1
  have hs1 : w.heap.size < w1.heap.size := by rw [← hW]; simp
  clear hW hmk
  have rel0 : ∃ cur, w1.heap[w.heap.size]? = some (.cells cur 48 (0, 0)) ∧ cur.size = n * 12 ∧ Hid (RowR SnapR 12 w1 (w.heap.size + 1) w1.heap.size cur 0 xs) := by
    obtain ⟨cur, h1, h2⟩ := hrow
    exact ⟨cur, h1, h2, Lib.hid (fun j x hj => absurd hj (by omega))⟩
  clear hrow
  go_loopw [4] (fun i wr => ∃ k : Nat, k ≤ n ∧ i = .int .i64 k ∧ Below w.heap.size w wr ∧ w.heap.size < wr.heap.size ∧ ∃ cur, wr.heap[w.heap.size]? = some (.cells cur 48 (0, 0)) ∧ cur.size = n * 12 ∧ Hid (RowR SnapR 12 wr (w.heap.size + 1) wr.heap.size cur k xs)) (fun i _ => n - (intOf i).toNat)
  case atStart => exact ⟨0, Nat.zero_le _, rfl, hb1, hs1, rel0⟩
  case round =>
    clear rel0 hb1 hs1
    obtain ⟨k, hk, rfl, hB, hS, cur, hg, hcs, HR⟩ := hrel
    by_cases hlt : k < n
    · obtain ⟨x, hx⟩ : ∃ x, xs[k]? = some x := ⟨xs[k]'(by rw [hl.out]; exact hlt), List.getElem?_eq_getElem _⟩
      obtain ⟨b, off, rfl, _, _, bl, hc⟩ := (SliceR.below H.out hB (SnapR.below hB H.out.lo_le)).at_ (by omega)
      obtain ⟨cs, hcl, hcc, hr⟩ := hc k x hx
      clear hc
      have hhi : hi ≤ wr.heap.size := Nat.le_trans H.out.lo_le hB.size
      obtain ⟨id_, name_, txg_, prev_, ⟨⟨tree_root_at_, tree_root_birth_, tree_root_size_, tree_root_sum_, tree_root_level_⟩, tree_depth_, tree_many_⟩, dead_⟩ := x
      have hr0 := hr
      obtain ⟨Aa0, na0, ca0, rfl, ha0, ha1⟩ := hr0
      have G := Lib.hid hr
      have q0 := hcc 0 _ rfl
      have q1 := hcc 1 _ rfl
      have q2 := hcc 2 _ rfl
      have q3 := hcc 3 _ rfl
      have q4 := hcc 4 _ rfl
      have q5 := hcc 5 _ rfl
      have q6 := hcc 6 _ rfl
      have q7 := hcc 7 _ rfl
      have q8 := hcc 8 _ rfl
      have q9 := hcc 9 _ rfl
      have q10 := hcc 10 _ rfl
      have q11 := hcc 11 _ rfl
      simp only [Nat.add_zero] at q0
      clear hcc hcl hr ha0 ha1
      have k0 : (0 : Int) ≤ (k : Int) := by omega
      have k1 : (k : Int) < (n : Int) := by omega
      have HX := Lib.hid hx
      clear hx
      have HG := Lib.hid hg
      have hkn : k * 12 + 12 ≤ cur.size := by rw [hcs]; omega
      have HC := Lib.hid hcs
      clear hg hcs
      go_wp2_with fail
      refine (toSnap_any [.int .i64 id_, .string name_, .int .i64 txg_, .int .i64 prev_, .int .i64 tree_root_at_, .int .i64 tree_root_birth_, .int .i64 tree_root_size_, .int .i64 tree_root_sum_, .int .i64 tree_root_level_, .int .i64 tree_depth_, .int .i64 tree_many_, .slice Aa0 na0 ca0] _ _ _ _ G.out (by have := HZ.out; have := sum_le sizeSnap HX.out; omega)).mono ?_
      rintro e w2 ⟨cs2, rfl, hr2, hb2⟩
      have hr3 := hr2
      obtain ⟨Ar0, nr0, cr0, rfl, hr0, hr1⟩ := hr3
      have G2 := Lib.hid hr2
      clear hr2 hr0 hr1
      have hg2 := (hb2.block _ hS).trans HG.out
      have hs2 : w.heap.size < w2.heap.size := Nat.lt_of_lt_of_le hS hb2.size
      have hB2 : Below w.heap.size w w2 := hB.trans (hb2.mono hB.size)
      have HK := Lib.hid hb2
      clear hb2 bl q0 q1 q2 q3 q4 q5 q6 q7 q8 q9 q10 q11
      have t0 : w2.cell? ⟨w.heap.size, k * 12, none⟩ = some _ := block_cell hg2 (by omega)
      have f0 : w2.frozen? ⟨w.heap.size, k * 12, none⟩ = false := block_free hg2 _
      have t1 : w2.cell? ⟨w.heap.size, k * 12 + 1, none⟩ = some _ := block_cell hg2 (by omega)
      have f1 : w2.frozen? ⟨w.heap.size, k * 12 + 1, none⟩ = false := block_free hg2 _
      have t2 : w2.cell? ⟨w.heap.size, k * 12 + 2, none⟩ = some _ := block_cell hg2 (by omega)
      have f2 : w2.frozen? ⟨w.heap.size, k * 12 + 2, none⟩ = false := block_free hg2 _
      have t3 : w2.cell? ⟨w.heap.size, k * 12 + 3, none⟩ = some _ := block_cell hg2 (by omega)
      have f3 : w2.frozen? ⟨w.heap.size, k * 12 + 3, none⟩ = false := block_free hg2 _
      have t4 : w2.cell? ⟨w.heap.size, k * 12 + 4, none⟩ = some _ := block_cell hg2 (by omega)
      have f4 : w2.frozen? ⟨w.heap.size, k * 12 + 4, none⟩ = false := block_free hg2 _
      have t5 : w2.cell? ⟨w.heap.size, k * 12 + 5, none⟩ = some _ := block_cell hg2 (by omega)
      have f5 : w2.frozen? ⟨w.heap.size, k * 12 + 5, none⟩ = false := block_free hg2 _
      have t6 : w2.cell? ⟨w.heap.size, k * 12 + 6, none⟩ = some _ := block_cell hg2 (by omega)
      have f6 : w2.frozen? ⟨w.heap.size, k * 12 + 6, none⟩ = false := block_free hg2 _
      have t7 : w2.cell? ⟨w.heap.size, k * 12 + 7, none⟩ = some _ := block_cell hg2 (by omega)
      have f7 : w2.frozen? ⟨w.heap.size, k * 12 + 7, none⟩ = false := block_free hg2 _
      have t8 : w2.cell? ⟨w.heap.size, k * 12 + 8, none⟩ = some _ := block_cell hg2 (by omega)
      have f8 : w2.frozen? ⟨w.heap.size, k * 12 + 8, none⟩ = false := block_free hg2 _
      have t9 : w2.cell? ⟨w.heap.size, k * 12 + 9, none⟩ = some _ := block_cell hg2 (by omega)
      have f9 : w2.frozen? ⟨w.heap.size, k * 12 + 9, none⟩ = false := block_free hg2 _
      have t10 : w2.cell? ⟨w.heap.size, k * 12 + 10, none⟩ = some _ := block_cell hg2 (by omega)
      have f10 : w2.frozen? ⟨w.heap.size, k * 12 + 10, none⟩ = false := block_free hg2 _
      have t11 : w2.cell? ⟨w.heap.size, k * 12 + 11, none⟩ = some _ := block_cell hg2 (by omega)
      have f11 : w2.frozen? ⟨w.heap.size, k * 12 + 11, none⟩ = false := block_free hg2 _
      have HG2 := Lib.hid hg2
      clear hg2
      generalize cur[k * 12]'_ = z0 at t0
      generalize cur[k * 12 + 1]'_ = z1 at t1
      generalize cur[k * 12 + 2]'_ = z2 at t2
      generalize cur[k * 12 + 3]'_ = z3 at t3
      generalize cur[k * 12 + 4]'_ = z4 at t4
      generalize cur[k * 12 + 5]'_ = z5 at t5
      generalize cur[k * 12 + 6]'_ = z6 at t6
      generalize cur[k * 12 + 7]'_ = z7 at t7
      generalize cur[k * 12 + 8]'_ = z8 at t8
      generalize cur[k * 12 + 9]'_ = z9 at t9
      generalize cur[k * 12 + 10]'_ = z10 at t10
      generalize cur[k * 12 + 11]'_ = z11 at t11
      go_wp2_with fail
      go_roundw
      case rel =>
        have hput : putAt cur (k * 12) [.int .i64 id_, .string name_, .int .i64 txg_, .int .i64 prev_, .int .i64 tree_root_at_, .int .i64 tree_root_birth_, .int .i64 tree_root_size_, .int .i64 tree_root_sum_, .int .i64 tree_root_level_, .int .i64 tree_depth_, .int .i64 tree_many_, .slice Ar0 nr0 cr0] = ((((((((((((cur.setIfInBounds (k * 12) (.int .i64 id_)).setIfInBounds (k * 12 + 1) (.string name_)).setIfInBounds (k * 12 + 2) (.int .i64 txg_)).setIfInBounds (k * 12 + 3) (.int .i64 prev_)).setIfInBounds (k * 12 + 4) (.int .i64 tree_root_at_)).setIfInBounds (k * 12 + 5) (.int .i64 tree_root_birth_)).setIfInBounds (k * 12 + 6) (.int .i64 tree_root_size_)).setIfInBounds (k * 12 + 7) (.int .i64 tree_root_sum_)).setIfInBounds (k * 12 + 8) (.int .i64 tree_root_level_)).setIfInBounds (k * 12 + 9) (.int .i64 tree_depth_)).setIfInBounds (k * 12 + 10) (.int .i64 tree_many_)).setIfInBounds (k * 12 + 11) (.slice Ar0 nr0 cr0)) := by simp only [putAt, Nat.add_assoc, Nat.reduceAdd]
        refine ⟨k + 1, by omega, by go_num, Below.setCell (p := ⟨w.heap.size, _, none⟩) (Below.setCell (p := ⟨w.heap.size, _, none⟩) (Below.setCell (p := ⟨w.heap.size, _, none⟩) (Below.setCell (p := ⟨w.heap.size, _, none⟩) (Below.setCell (p := ⟨w.heap.size, _, none⟩) (Below.setCell (p := ⟨w.heap.size, _, none⟩) (Below.setCell (p := ⟨w.heap.size, _, none⟩) (Below.setCell (p := ⟨w.heap.size, _, none⟩) (Below.setCell (p := ⟨w.heap.size, _, none⟩) (Below.setCell (p := ⟨w.heap.size, _, none⟩) (Below.setCell (p := ⟨w.heap.size, _, none⟩) (Below.setCell (p := ⟨w.heap.size, _, none⟩) (hB2) (Nat.le_refl _) _) (Nat.le_refl _) _) (Nat.le_refl _) _) (Nat.le_refl _) _) (Nat.le_refl _) _) (Nat.le_refl _) _) (Nat.le_refl _) _) (Nat.le_refl _) _) (Nat.le_refl _) _) (Nat.le_refl _) _) (Nat.le_refl _) _) (Nat.le_refl _) _, by simpa using hs2, ((((((((((((cur.setIfInBounds (k * 12) (.int .i64 id_)).setIfInBounds (k * 12 + 1) (.string name_)).setIfInBounds (k * 12 + 2) (.int .i64 txg_)).setIfInBounds (k * 12 + 3) (.int .i64 prev_)).setIfInBounds (k * 12 + 4) (.int .i64 tree_root_at_)).setIfInBounds (k * 12 + 5) (.int .i64 tree_root_birth_)).setIfInBounds (k * 12 + 6) (.int .i64 tree_root_size_)).setIfInBounds (k * 12 + 7) (.int .i64 tree_root_sum_)).setIfInBounds (k * 12 + 8) (.int .i64 tree_root_level_)).setIfInBounds (k * 12 + 9) (.int .i64 tree_depth_)).setIfInBounds (k * 12 + 10) (.int .i64 tree_many_)).setIfInBounds (k * 12 + 11) (.slice Ar0 nr0 cr0)), block_set (block_set (block_set (block_set (block_set (block_set (block_set (block_set (block_set (block_set (block_set (block_set (HG2.out)))))))))))), (by rw [← hput, putAt_size]; exact HC.out), Lib.hid ?_⟩
        rw [← hput]
        refine RowR.step (n := n) HR.out HX.out rfl HC.out hlt ?_ ?_
        · exact SnapR.new (Step.setCell (p := ⟨w.heap.size, k * 12 + 11, none⟩) (Step.setCell (p := ⟨w.heap.size, k * 12 + 10, none⟩) (Step.setCell (p := ⟨w.heap.size, k * 12 + 9, none⟩) (Step.setCell (p := ⟨w.heap.size, k * 12 + 8, none⟩) (Step.setCell (p := ⟨w.heap.size, k * 12 + 7, none⟩) (Step.setCell (p := ⟨w.heap.size, k * 12 + 6, none⟩) (Step.setCell (p := ⟨w.heap.size, k * 12 + 5, none⟩) (Step.setCell (p := ⟨w.heap.size, k * 12 + 4, none⟩) (Step.setCell (p := ⟨w.heap.size, k * 12 + 3, none⟩) (Step.setCell (p := ⟨w.heap.size, k * 12 + 2, none⟩) (Step.setCell (p := ⟨w.heap.size, k * 12 + 1, none⟩) (Step.setCell (p := ⟨w.heap.size, k * 12, none⟩) (Step.refl _ _) (Nat.lt_succ_self _) _) (Nat.lt_succ_self _) _) (Nat.lt_succ_self _) _) (Nat.lt_succ_self _) _) (Nat.lt_succ_self _) _) (Nat.lt_succ_self _) _) (Nat.lt_succ_self _) _) (Nat.lt_succ_self _) _) (Nat.lt_succ_self _) _) (Nat.lt_succ_self _) _) (Nat.lt_succ_self _) _) (Nat.lt_succ_self _) _) (Nat.succ_le_of_lt hS) G2.out
        · exact fun _ _ h => SnapR.old HK.out (Step.setCell (p := ⟨w.heap.size, k * 12 + 11, none⟩) (Step.setCell (p := ⟨w.heap.size, k * 12 + 10, none⟩) (Step.setCell (p := ⟨w.heap.size, k * 12 + 9, none⟩) (Step.setCell (p := ⟨w.heap.size, k * 12 + 8, none⟩) (Step.setCell (p := ⟨w.heap.size, k * 12 + 7, none⟩) (Step.setCell (p := ⟨w.heap.size, k * 12 + 6, none⟩) (Step.setCell (p := ⟨w.heap.size, k * 12 + 5, none⟩) (Step.setCell (p := ⟨w.heap.size, k * 12 + 4, none⟩) (Step.setCell (p := ⟨w.heap.size, k * 12 + 3, none⟩) (Step.setCell (p := ⟨w.heap.size, k * 12 + 2, none⟩) (Step.setCell (p := ⟨w.heap.size, k * 12 + 1, none⟩) (Step.setCell (p := ⟨w.heap.size, k * 12, none⟩) (Step.refl _ _) (Nat.lt_succ_self _) _) (Nat.lt_succ_self _) _) (Nat.lt_succ_self _) _) (Nat.lt_succ_self _) _) (Nat.lt_succ_self _) _) (Nat.lt_succ_self _) _) (Nat.lt_succ_self _) _) (Nat.lt_succ_self _) _) (Nat.lt_succ_self _) _) (Nat.lt_succ_self _) _) (Nat.lt_succ_self _) _) (Nat.lt_succ_self _) _) h
      case measure => simp [intOf]; omega
    · obtain rfl : k = n := by omega
      have hfin := RowR.slice (lo := w.heap.size) (hi := wr.heap.size) (c := k) (fun j x hj hx => (HR.out j x hj hx).imp fun cs h => ⟨h.1, h.2.1, SnapR.wide (Nat.le_succ _) (Nat.le_refl _) (Nat.le_refl _) _ _ h.2.2⟩) hl.out (by unfold maxLen; omega) (Nat.le_refl _) hg (Nat.le_refl _) hS (Nat.le_refl _)
      have HF := Lib.hid hfin
      clear hfin HR hg hcs
      go_wp2_with fail
      go_ret
      exact ⟨_, _, rfl, HF.out, hB⟩


set_option maxRecDepth 100000 in
set_option maxHeartbeats 2000000 in
theorem toMeta_any (cs : List Value) (x : MetaD) (w : World) (lo hi : Nat) (h : MetaR w lo hi cs x) (hz : sizeMeta x ≤ 1048576) :
    Calls Tryd.prog 6 #[.agg cs.toArray] w (NewR MetaR w x) := by
  obtain ⟨heads_, snaps_, next_, same_⟩ := x
  obtain ⟨Aa0, na0, ca0, Aa1, na1, ca1, rfl, ha0, ha1⟩ := h
  show Calls Tryd.prog 6 #[.agg #[.slice Aa0 na0 ca0, .slice Aa1 na1 ca1, .int .i64 next_, .bool same_]] w _
  have Hha0 := Lib.hid ha0
  clear ha0
  have Hha1 := Lib.hid ha1
  clear ha1
  have hz : heads_.length + (heads_.map sizeHead).sum + snaps_.length + (snaps_.map sizeSnap).sum ≤ 1048576 := hz
  have HZ := Lib.hid hz
  have hl0 := Hha0.out.len
  have hl1 := Hha1.out.len
  go_enter Tryd.func6, Tryd.ntmps6
  go_wp2_with fail
  have l1 : w.heap.size ≤ w.heap.size + 1 := Nat.le_add_right _ _
  have l2 : w.heap.size ≤ w.heap.size + 1 + 1 := by omega
  have m1 : w.heap.size + 1 < w.heap.size + 3 := by omega
  have m2 : w.heap.size + 1 + 1 < w.heap.size + 3 := by omega
  have n02 : w.heap.size ≠ w.heap.size + 1 + 1 := by omega
  have n12 : w.heap.size + 1 ≠ w.heap.size + 1 + 1 := by omega
  have Y1 : ∀ W, Below w.heap.size w W → SliceR HeadR 11 W lo hi Aa0 na0 ca0 heads_ := fun W hb => SliceR.below Hha0.out hb (HeadR.below hb Hha0.out.lo_le)
  refine ((toHeadS_any _ _ _ heads_ _ lo hi (Y1 _ (bel3)) (by have := HZ.out; have := Hha0.out.len; clear HZ; omega)).mono ?_)
  rintro e w1 ⟨B1, d1, rfl, S1, hb1⟩
  clear Y1
  have X1 : Below w.heap.size w w1 := Below.trans (bel3) (hb1.mono (by simp <;> omega))
  have b1_0 : w1.heap[w.heap.size]? = some (.cells #[.slice Aa0 na0 ca0, .slice Aa1 na1 ca1, .int .i64 next_, .bool same_] 25 (0, 0)) := (hb1.block _ (by simp <;> omega)).trans al3_0
  have b1_1 : w1.heap[w.heap.size + 1]? = some (.cells #[.slice none 0 0, .slice none 0 0, .int .i64 0, .bool false] 32 (0, 0)) := (hb1.block _ (by simp <;> omega)).trans al3_1
  have b1_2 : w1.heap[w.heap.size + 1 + 1]? = some (.cells #[.slice none 0 0, .slice none 0 0, .int .i64 0, .bool false] 32 (0, 0)) := (hb1.block _ (by simp <;> omega)).trans al3_2
  have z1 : w.heap.size + 3 ≤ w1.heap.size := by have := hb1.size; simp at this; omega
  have S1 := SliceR.wide (lo' := w.heap.size + 3) (hi' := w1.heap.size) S1 (by simp [World.setCell] <;> omega) (Nat.le_refl _) (Nat.le_refl _) (HeadR.wide (by simp [World.setCell] <;> omega) (Nat.le_refl _) (Nat.le_refl _))
  have c1_0_0 : w1.cell? ⟨w.heap.size, 0, none⟩ = some (.slice Aa0 na0 ca0) := cell_of_row _ _ 0 _ _ (0, 0) b1_0
  have c1_0_1 : w1.cell? ⟨w.heap.size, 1, none⟩ = some (.slice Aa1 na1 ca1) := cell_of_row _ _ 1 _ _ (0, 0) b1_0
  have c1_0_2 : w1.cell? ⟨w.heap.size, 2, none⟩ = some (.int .i64 next_) := cell_of_row _ _ 2 _ _ (0, 0) b1_0
  have c1_0_3 : w1.cell? ⟨w.heap.size, 3, none⟩ = some (.bool same_) := cell_of_row _ _ 3 _ _ (0, 0) b1_0
  have c1_1_0 : w1.cell? ⟨w.heap.size + 1, 0, none⟩ = some (.slice none 0 0) := cell_of_row _ _ 0 _ _ (0, 0) b1_1
  have c1_1_1 : w1.cell? ⟨w.heap.size + 1, 1, none⟩ = some (.slice none 0 0) := cell_of_row _ _ 1 _ _ (0, 0) b1_1
  have c1_1_2 : w1.cell? ⟨w.heap.size + 1, 2, none⟩ = some (.int .i64 0) := cell_of_row _ _ 2 _ _ (0, 0) b1_1
  have c1_1_3 : w1.cell? ⟨w.heap.size + 1, 3, none⟩ = some (.bool false) := cell_of_row _ _ 3 _ _ (0, 0) b1_1
  have f1_1_0 := block_free b1_1 0
  have f1_1_1 := block_free b1_1 1
  have f1_1_2 := block_free b1_1 2
  have f1_1_3 := block_free b1_1 3
  have c1_2_0 : w1.cell? ⟨w.heap.size + 1 + 1, 0, none⟩ = some (.slice none 0 0) := cell_of_row _ _ 0 _ _ (0, 0) b1_2
  have c1_2_1 : w1.cell? ⟨w.heap.size + 1 + 1, 1, none⟩ = some (.slice none 0 0) := cell_of_row _ _ 1 _ _ (0, 0) b1_2
  have c1_2_2 : w1.cell? ⟨w.heap.size + 1 + 1, 2, none⟩ = some (.int .i64 0) := cell_of_row _ _ 2 _ _ (0, 0) b1_2
  have c1_2_3 : w1.cell? ⟨w.heap.size + 1 + 1, 3, none⟩ = some (.bool false) := cell_of_row _ _ 3 _ _ (0, 0) b1_2
  have f1_2_0 := block_free b1_2 0
  have f1_2_1 := block_free b1_2 1
  have f1_2_2 := block_free b1_2 2
  have f1_2_3 := block_free b1_2 3
  have HB1_0 := Lib.hid b1_0
  have HB1_1 := Lib.hid b1_1
  have HB1_2 := Lib.hid b1_2
  clear b1_0 b1_1 b1_2 hb1
  have T1 := Lib.hid S1; clear S1
  go_wp2_with fail
  have b1_0 := HB1_0.out
  have b1_1 := HB1_1.out
  have b1_2 := HB1_2.out
  have S1 := T1.out; clear T1
  have Y2 : ∀ W, Below w.heap.size w W → SliceR SnapR 12 W lo hi Aa1 na1 ca1 snaps_ := fun W hb => SliceR.below Hha1.out hb (SnapR.below hb Hha1.out.lo_le)
  refine ((toSnapS_any _ _ _ snaps_ _ lo hi (Y2 _ ((Below.setCell (p := ⟨w.heap.size + 1 + 1, 0, none⟩) X1 l2 _))) (by have := HZ.out; have := Hha1.out.len; clear HZ; omega)).mono ?_)
  rintro e w2 ⟨B2, d2, rfl, S2, hb2⟩
  clear Y2
  have X2 : Below w.heap.size w w2 := Below.trans ((Below.setCell (p := ⟨w.heap.size + 1 + 1, 0, none⟩) X1 l2 _)) (hb2.mono (by simp <;> omega))
  have b2_0 : w2.heap[w.heap.size]? = some (.cells #[.slice Aa0 na0 ca0, .slice Aa1 na1 ca1, .int .i64 next_, .bool same_] 25 (0, 0)) := (hb2.block _ (by simp <;> omega)).trans ((heap_far n02).trans (b1_0))
  have b2_1 : w2.heap[w.heap.size + 1]? = some (.cells #[.slice none 0 0, .slice none 0 0, .int .i64 0, .bool false] 32 (0, 0)) := (hb2.block _ (by simp <;> omega)).trans ((heap_far n12).trans (b1_1))
  have b2_2 : w2.heap[w.heap.size + 1 + 1]? = some (.cells #[.slice B1 na0 d1, .slice none 0 0, .int .i64 0, .bool false] 32 (0, 0)) := (hb2.block _ (by simp <;> omega)).trans ((block_set (b1_2)).trans (by rfl))
  have z2 : w.heap.size + 3 ≤ w2.heap.size := by have := hb2.size; simp [World.setCell] at this; omega
  have S1 := SliceR.far S1 (Step.setCell (p := ⟨w.heap.size + 1 + 1, 0, none⟩) (Step.refl _ _) m2 _) hb2 (fun a b => HeadR.keep a b) (fun a b c => HeadR.wide a b c)
  have S2 := SliceR.wide (lo' := w.heap.size + 3) (hi' := w2.heap.size) S2 (by simp [World.setCell] <;> omega) (Nat.le_refl _) (Nat.le_refl _) (SnapR.wide (by simp [World.setCell] <;> omega) (Nat.le_refl _) (Nat.le_refl _))
  clear c1_0_0 c1_0_1 c1_0_2 c1_0_3 c1_1_0 c1_1_1 c1_1_2 c1_1_3 f1_1_0 f1_1_1 f1_1_2 f1_1_3 c1_2_0 c1_2_1 c1_2_2 c1_2_3 f1_2_0 f1_2_1 f1_2_2 f1_2_3
  have c2_0_0 : w2.cell? ⟨w.heap.size, 0, none⟩ = some (.slice Aa0 na0 ca0) := cell_of_row _ _ 0 _ _ (0, 0) b2_0
  have c2_0_1 : w2.cell? ⟨w.heap.size, 1, none⟩ = some (.slice Aa1 na1 ca1) := cell_of_row _ _ 1 _ _ (0, 0) b2_0
  have c2_0_2 : w2.cell? ⟨w.heap.size, 2, none⟩ = some (.int .i64 next_) := cell_of_row _ _ 2 _ _ (0, 0) b2_0
  have c2_0_3 : w2.cell? ⟨w.heap.size, 3, none⟩ = some (.bool same_) := cell_of_row _ _ 3 _ _ (0, 0) b2_0
  have c2_1_0 : w2.cell? ⟨w.heap.size + 1, 0, none⟩ = some (.slice none 0 0) := cell_of_row _ _ 0 _ _ (0, 0) b2_1
  have c2_1_1 : w2.cell? ⟨w.heap.size + 1, 1, none⟩ = some (.slice none 0 0) := cell_of_row _ _ 1 _ _ (0, 0) b2_1
  have c2_1_2 : w2.cell? ⟨w.heap.size + 1, 2, none⟩ = some (.int .i64 0) := cell_of_row _ _ 2 _ _ (0, 0) b2_1
  have c2_1_3 : w2.cell? ⟨w.heap.size + 1, 3, none⟩ = some (.bool false) := cell_of_row _ _ 3 _ _ (0, 0) b2_1
  have f2_1_0 := block_free b2_1 0
  have f2_1_1 := block_free b2_1 1
  have f2_1_2 := block_free b2_1 2
  have f2_1_3 := block_free b2_1 3
  have c2_2_0 : w2.cell? ⟨w.heap.size + 1 + 1, 0, none⟩ = some (.slice B1 na0 d1) := cell_of_row _ _ 0 _ _ (0, 0) b2_2
  have c2_2_1 : w2.cell? ⟨w.heap.size + 1 + 1, 1, none⟩ = some (.slice none 0 0) := cell_of_row _ _ 1 _ _ (0, 0) b2_2
  have c2_2_2 : w2.cell? ⟨w.heap.size + 1 + 1, 2, none⟩ = some (.int .i64 0) := cell_of_row _ _ 2 _ _ (0, 0) b2_2
  have c2_2_3 : w2.cell? ⟨w.heap.size + 1 + 1, 3, none⟩ = some (.bool false) := cell_of_row _ _ 3 _ _ (0, 0) b2_2
  have f2_2_0 := block_free b2_2 0
  have f2_2_1 := block_free b2_2 1
  have f2_2_2 := block_free b2_2 2
  have f2_2_3 := block_free b2_2 3
  have HB2_0 := Lib.hid b2_0
  have HB2_1 := Lib.hid b2_1
  have HB2_2 := Lib.hid b2_2
  clear b2_0 b2_1 b2_2 HB1_0 HB1_1 HB1_2 hb2 X1 z1
  have T1 := Lib.hid S1; clear S1 ; have T2 := Lib.hid S2; clear S2
  go_wp2_with fail
  have b2_0 := HB2_0.out
  have b2_1 := HB2_1.out
  have b2_2 := HB2_2.out
  have S1 := T1.out; clear T1
  have S2 := T2.out; clear T2
  exact bodyPost_ret (v := .agg #[.slice B1 na0 d1, .slice B2 na1 d2, .int .i64 next_, .bool same_]) (by simp [results, Tryd.results6, go_sem, c2_1_0, f2_1_0, c2_1_1, f2_1_1, c2_1_2, f2_1_2, c2_1_3, f2_1_3]) rfl ⟨[.slice B1 na0 d1, .slice B2 na1 d2, .int .i64 next_, .bool same_], rfl, ⟨_, _, _, _, _, _, rfl, (SliceR.far S1 (Step.setCell (p := ⟨w.heap.size + 1, 3, none⟩) (Step.setCell (p := ⟨w.heap.size + 1, 2, none⟩) (Step.setCell (p := ⟨w.heap.size + 1, 1, none⟩) (Step.setCell (p := ⟨w.heap.size + 1, 0, none⟩) (Step.setCell (p := ⟨w.heap.size + 1 + 1, 3, none⟩) (Step.setCell (p := ⟨w.heap.size + 1 + 1, 2, none⟩) (Step.setCell (p := ⟨w.heap.size + 1 + 1, 1, none⟩) (Step.refl _ _) m2 _) m2 _) m2 _) m1 _) m1 _) m1 _) m1 _) (Below.refl _ _) (fun a b => HeadR.keep a b) (fun a b c => HeadR.wide a b c)).wide (by omega) (Nat.le_refl _) (Nat.le_refl _) (HeadR.wide (by omega) (Nat.le_refl _) (Nat.le_refl _)), (SliceR.far S2 (Step.setCell (p := ⟨w.heap.size + 1, 3, none⟩) (Step.setCell (p := ⟨w.heap.size + 1, 2, none⟩) (Step.setCell (p := ⟨w.heap.size + 1, 1, none⟩) (Step.setCell (p := ⟨w.heap.size + 1, 0, none⟩) (Step.setCell (p := ⟨w.heap.size + 1 + 1, 3, none⟩) (Step.setCell (p := ⟨w.heap.size + 1 + 1, 2, none⟩) (Step.setCell (p := ⟨w.heap.size + 1 + 1, 1, none⟩) (Step.refl _ _) m2 _) m2 _) m2 _) m1 _) m1 _) m1 _) m1 _) (Below.refl _ _) (fun a b => SnapR.keep a b) (fun a b c => SnapR.wide a b c)).wide (by omega) (Nat.le_refl _) (Nat.le_refl _) (SnapR.wide (by omega) (Nat.le_refl _) (Nat.le_refl _))⟩, (Below.setCell (p := ⟨w.heap.size + 1, 3, none⟩) (Below.setCell (p := ⟨w.heap.size + 1, 2, none⟩) (Below.setCell (p := ⟨w.heap.size + 1, 1, none⟩) (Below.setCell (p := ⟨w.heap.size + 1, 0, none⟩) (Below.setCell (p := ⟨w.heap.size + 1 + 1, 3, none⟩) (Below.setCell (p := ⟨w.heap.size + 1 + 1, 2, none⟩) (Below.setCell (p := ⟨w.heap.size + 1 + 1, 1, none⟩) X2 l2 _) l2 _) l2 _) l1 _) l1 _) l1 _) l1 _)⟩


end Go.Proofs.YtlacpcdbgimnmaaDoor
