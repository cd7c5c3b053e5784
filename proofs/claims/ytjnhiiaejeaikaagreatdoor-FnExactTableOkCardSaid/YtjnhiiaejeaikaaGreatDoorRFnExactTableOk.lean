/- FnExactTableOk: the walk. Condition: the library's variables lie as the row says. -/
import Derived.Test.YtjnhiiaejeaikaaGreatDoorRFamSt
import Derived.Test.YtjnhiiaejeaikaaGreatDoorRTableOkS
set_option linter.unnecessarySimpa false
set_option linter.unusedSimpArgs false
set_option linter.unusedVariables false
namespace Go.Proofs.YtjnhiiaejeaikaaGreatDoor
open Go.RowKit
def HoldsR {α : Type} (R : Reads α) (x : α) (v : Value) (w : World) : Prop := ∃ cs lo hi, v = .agg (List.toArray cs) ∧ hi ≤ w.heap.size ∧ R w lo hi cs x
def StoreR.stp (x : StoreD) : StP := ⟨HoldsR StoreR x, fun v w w' he h => by
 obtain ⟨cs, lo, hi, e, h1, h2⟩ := h
 exact ⟨cs, lo, hi, e, Nat.le_trans h1 (Below.size he), StoreR.below he h1 _ _ h2⟩⟩
set_option maxRecDepth 100000 in
set_option maxHeartbeats 8000000 in
theorem fnExactTableOk_walk (l0 : List Value) (x0 : StoreD) (l1 : List Value) (x1 : TreeD) (w : World) (he : Env w) (h0 : StoreR w 0 w.heap.size l0 x0) (h1 : TreeR w 0 w.heap.size l1 x1) :
 Calls Tryz.prog 4 #[.agg l0.toArray, .agg l1.toArray] w fun e w' => e = .returned (.bool true) ∧ Below w.heap.size w w' := by
 have PA0 := Lib.hid h0
 obtain ⟨v0_rows_, ⟨v0_space_refs_, v0_space_last_⟩, v0_txg_, v0_gone_, v0_keep_, v0_dead_, v0_same_⟩ := x0
 obtain ⟨Ap00, np00, cp00, Ap01, np01, cp01, Ap02, np02, cp02, Ap03, np03, cp03, Ap04, np04, cp04, rfl, hp00, hp01, hp02, hp03, hp04⟩ := h0
 clear hp00 hp01 hp02 hp03 hp04
 obtain ⟨⟨v1_root_at_, v1_root_birth_, v1_root_size_, v1_root_sum_, v1_root_level_⟩, v1_depth_, v1_many_⟩ := x1
 obtain rfl := h1
 show Calls Tryz.prog 4 #[.agg #[.slice Ap00 np00 cp00, .slice Ap01 np01 cp01, .slice Ap02 np02 cp02, .int .i64 v0_txg_, .slice Ap03 np03 cp03, .int .i64 v0_keep_, .slice Ap04 np04 cp04, .bool v0_same_], .agg #[.int .i64 v1_root_at_, .int .i64 v1_root_birth_, .int .i64 v1_root_size_, .int .i64 v1_root_sum_, .int .i64 v1_root_level_, .int .i64 v1_depth_, .int .i64 v1_many_]] w _
 generalize hres : (tableG (v0_rows_, (v0_space_refs_, v0_space_last_), v0_txg_, v0_gone_, v0_keep_, v0_dead_, v0_same_) ((v1_root_at_, v1_root_birth_, v1_root_size_, v1_root_sum_, v1_root_level_), v1_depth_, v1_many_)).isSome = res
 have HRES := Lib.hid hres; clear hres
 go_enter Tryz.func4, Tryz.ntmps4
 go_wp2_with fail
 have HE := Lib.hid he; clear he
 refine (szStore_any _ _ _ 0 w.heap.size (1048576) (StoreR.below bel2 (Nat.le_refl _) _ _ PA0.out) (by omega) (by omega)).mono ?_
 rintro e w1 ⟨s0, rfl, p0_, o0_, z0, hb1⟩
 have ZZ0 := Lib.hid z0; clear z0
 have S1 : Below w.heap.size w w1 := bel2.trans (hb1.mono (by simp <;> omega))
 have c1_0 : w1.cell? ⟨w.heap.size, 0, none⟩ = some (.slice Ap00 np00 cp00) := (hb1.cell (by simp <;> omega)).trans (by simp [go_sem])
 have c1_1 : w1.cell? ⟨w.heap.size, 1, none⟩ = some (.slice Ap01 np01 cp01) := (hb1.cell (by simp <;> omega)).trans (by simp [go_sem])
 have c1_2 : w1.cell? ⟨w.heap.size, 2, none⟩ = some (.slice Ap02 np02 cp02) := (hb1.cell (by simp <;> omega)).trans (by simp [go_sem])
 have c1_3 : w1.cell? ⟨w.heap.size, 3, none⟩ = some (.int .i64 v0_txg_) := (hb1.cell (by simp <;> omega)).trans (by simp [go_sem])
 have c1_4 : w1.cell? ⟨w.heap.size, 4, none⟩ = some (.slice Ap03 np03 cp03) := (hb1.cell (by simp <;> omega)).trans (by simp [go_sem])
 have c1_5 : w1.cell? ⟨w.heap.size, 5, none⟩ = some (.int .i64 v0_keep_) := (hb1.cell (by simp <;> omega)).trans (by simp [go_sem])
 have c1_6 : w1.cell? ⟨w.heap.size, 6, none⟩ = some (.slice Ap04 np04 cp04) := (hb1.cell (by simp <;> omega)).trans (by simp [go_sem])
 have c1_7 : w1.cell? ⟨w.heap.size, 7, none⟩ = some (.bool v0_same_) := (hb1.cell (by simp <;> omega)).trans (by simp [go_sem])
 have c1_8 : w1.cell? ⟨w.heap.size + 1, 0, none⟩ = some (.int .i64 v1_root_at_) := (hb1.cell (by simp <;> omega)).trans (by simp [go_sem])
 have c1_9 : w1.cell? ⟨w.heap.size + 1, 1, none⟩ = some (.int .i64 v1_root_birth_) := (hb1.cell (by simp <;> omega)).trans (by simp [go_sem])
 have c1_10 : w1.cell? ⟨w.heap.size + 1, 2, none⟩ = some (.int .i64 v1_root_size_) := (hb1.cell (by simp <;> omega)).trans (by simp [go_sem])
 have c1_11 : w1.cell? ⟨w.heap.size + 1, 3, none⟩ = some (.int .i64 v1_root_sum_) := (hb1.cell (by simp <;> omega)).trans (by simp [go_sem])
 have c1_12 : w1.cell? ⟨w.heap.size + 1, 4, none⟩ = some (.int .i64 v1_root_level_) := (hb1.cell (by simp <;> omega)).trans (by simp [go_sem])
 have c1_13 : w1.cell? ⟨w.heap.size + 1, 5, none⟩ = some (.int .i64 v1_depth_) := (hb1.cell (by simp <;> omega)).trans (by simp [go_sem])
 have c1_14 : w1.cell? ⟨w.heap.size + 1, 6, none⟩ = some (.int .i64 v1_many_) := (hb1.cell (by simp <;> omega)).trans (by simp [go_sem])
 have l1_0 : w.heap.size < w1.heap.size := World.block_lt_of_cell? _ _ c1_0
 have l1_1 : w.heap.size + 1 < w1.heap.size := World.block_lt_of_cell? _ _ c1_8
 have X1 : Below w.heap.size w w1 := S1
 clear hb1
 clear S1
 by_cases q0_ : s0 < 0
 · go_wp2_with fail
   go_ret
   exact ⟨rfl, X1⟩
 have dq0 : decide (s0 < 0) = false := by simpa using q0_
 have Z0 : sizeStore (v0_rows_, (v0_space_refs_, v0_space_last_), v0_txg_, v0_gone_, v0_keep_, v0_dead_, v0_same_) ≤ 1048576 := by have := ZZ0.out (by omega); omega
 clear ZZ0
 have HZ0 := Lib.hid Z0; clear Z0
 go_wp2_with fail
 apply wp_region_rg (by kernel_rfl) (false :: false :: false :: false :: false :: false :: true :: false :: false :: false :: false :: false :: false :: false :: true :: true :: true :: true :: true :: false :: false :: false :: false :: false :: false :: false :: false :: false :: false :: false :: false :: false :: false :: []) [some 14, some 15, some 16, some 17, some 18, some 6] [[], [0], [], [2], [1, 3], [4]] [StP.is _, (StoreR.stp (v0_rows_, (v0_space_refs_, v0_space_last_), v0_txg_, v0_gone_, v0_keep_, v0_dead_, v0_same_)), StP.is _, StP.is _, StP.is _, StP.is _] (by kernel_rfl)
 case hobs =>
  refine ⟨fun y w' hS hF K hK => ?_, ?_⟩
  · skip
    simp only [fillL, cond_true, cond_false, zG0, zG1, StP.is, Act.put, zS2, zS0, zS1, Nat.reduceAdd] at hK ⊢
    refine rg_yes (by kernel_rfl) ?_
    have qx0_ := (Below.cell hS l1_0).trans c1_0
    have qx1_ := (Below.cell hS l1_0).trans c1_1
    have qx2_ := (Below.cell hS l1_0).trans c1_2
    have qx3_ := (Below.cell hS l1_0).trans c1_3
    have qx4_ := (Below.cell hS l1_0).trans c1_4
    have qx5_ := (Below.cell hS l1_0).trans c1_5
    have qx6_ := (Below.cell hS l1_0).trans c1_6
    have qx7_ := (Below.cell hS l1_0).trans c1_7
    have qx8_ := (Below.cell hS l1_1).trans c1_8
    have qx9_ := (Below.cell hS l1_1).trans c1_9
    have qx10_ := (Below.cell hS l1_1).trans c1_10
    have qx11_ := (Below.cell hS l1_1).trans c1_11
    have qx12_ := (Below.cell hS l1_1).trans c1_12
    have qx13_ := (Below.cell hS l1_1).trans c1_13
    have qx14_ := (Below.cell hS l1_1).trans c1_14
    clear hF
    go_simp
    exact hK _ _ (Ext.refl _) rfl
  refine ⟨fun y w' hS hF K hK => ?_, ?_⟩
  · skip
    have e14 : y 14 = _ := hF.1
    simp only [fillL, cond_true, cond_false, zG0, zG1, StP.is, Act.put, zS2, zS0, zS1, Nat.reduceAdd, e14] at hK ⊢
    refine rg_yes (by kernel_rfl) ?_
    clear e14
    clear hF
    go_simp
    go_at_call 9
    refine (toStore_any _ _ _ 0 w.heap.size (StoreR.below (X1.trans (Below.mono hS X1.size)) (Nat.le_refl _) _ _ PA0.out) HZ0.out).mono ?_
    rintro e w'' ⟨cs, rfl, hr, hb⟩
    exact hK _ _ hb ⟨cs, _, _, rfl, Nat.le_refl _, hr⟩
  refine ⟨fun y w' hS hF K hK => ?_, ?_⟩
  · skip
    simp only [fillL, cond_true, cond_false, zG0, zG1, StP.is, Act.put, zS2, zS0, zS1, Nat.reduceAdd] at hK ⊢
    refine rg_yes (by kernel_rfl) ?_
    have qx0_ := (Below.cell hS l1_0).trans c1_0
    have qx1_ := (Below.cell hS l1_0).trans c1_1
    have qx2_ := (Below.cell hS l1_0).trans c1_2
    have qx3_ := (Below.cell hS l1_0).trans c1_3
    have qx4_ := (Below.cell hS l1_0).trans c1_4
    have qx5_ := (Below.cell hS l1_0).trans c1_5
    have qx6_ := (Below.cell hS l1_0).trans c1_6
    have qx7_ := (Below.cell hS l1_0).trans c1_7
    have qx8_ := (Below.cell hS l1_1).trans c1_8
    have qx9_ := (Below.cell hS l1_1).trans c1_9
    have qx10_ := (Below.cell hS l1_1).trans c1_10
    have qx11_ := (Below.cell hS l1_1).trans c1_11
    have qx12_ := (Below.cell hS l1_1).trans c1_12
    have qx13_ := (Below.cell hS l1_1).trans c1_13
    have qx14_ := (Below.cell hS l1_1).trans c1_14
    clear hF
    go_simp
    exact hK _ _ (Ext.refl _) rfl
  refine ⟨fun y w' hS hF K hK => ?_, ?_⟩
  · skip
    have e16 : y 16 = _ := hF.1
    simp only [fillL, cond_true, cond_false, zG0, zG1, StP.is, Act.put, zS2, zS0, zS1, Nat.reduceAdd, e16] at hK ⊢
    refine rg_yes (by kernel_rfl) ?_
    clear e16
    clear hF
    go_simp
    go_at_call 10
    refine (toTreeF_any [.int .i64 v1_root_at_, .int .i64 v1_root_birth_, .int .i64 v1_root_size_, .int .i64 v1_root_sum_, .int .i64 v1_root_level_, .int .i64 v1_depth_, .int .i64 v1_many_] ((v1_root_at_, v1_root_birth_, v1_root_size_, v1_root_sum_, v1_root_level_), v1_depth_, v1_many_) _ w 0 0 rfl).mono ?_
    rintro e w'' ⟨rfl, hb⟩
    exact hK _ _ hb rfl
  refine ⟨fun y w' hS hF K hK => ?_, ?_⟩
  · skip
    obtain ⟨cs15_, lo15_, hi15_, e15, hh15_, R15_⟩ := hF.1
    have e17 : y 17 = _ := hF.2.1
    simp only [fillL, cond_true, cond_false, zG0, zG1, StP.is, Act.put, zS2, zS0, zS1, Nat.reduceAdd, e15, e17] at hK ⊢
    refine rg_yes (by kernel_rfl) ?_
    clear e15 e17
    clear hF
    go_simp
    go_at_call 17
    refine (spTableOk_any _ (v0_rows_, (v0_space_refs_, v0_space_last_), v0_txg_, v0_gone_, v0_keep_, v0_dead_, v0_same_) v1_root_at_ v1_root_birth_ v1_root_size_ v1_root_sum_ v1_root_level_ v1_depth_ v1_many_ _ _ _ R15_ hh15_ (by have := HZ0.out; unfold sizeStore at this; unfold SmallS; simp only at this ⊢; constructor <;> omega)).mono ?_
    rw [HRES.out]
    rintro e w'' ⟨rfl, hb⟩
    exact hK _ _ hb rfl
  refine ⟨fun y w' hS hF K hK => ?_, ?_⟩
  · skip
    have e18 : y 18 = _ := hF.1
    simp only [fillL, cond_true, cond_false, zG0, zG1, StP.is, Act.put, zS2, zS0, zS1, Nat.reduceAdd, e18] at hK ⊢
    refine rg_yes (by kernel_rfl) ?_
    clear e18
    clear hF
    go_simp
    exact hK _ _ (Ext.refl _) rfl
  trivial
 intro y w2 hX hF
 have e6 : y 6 = _ := hF.2.2.2.2.2.1
 clear hF
 simp only [fillL, cond_true, cond_false, Nat.reduceAdd, e6]
 clear e6
 have S2 : Below w1.heap.size w1 w2 := hX
 have c2_0 := (S2.cell l1_0).trans c1_0
 have c2_1 := (S2.cell l1_0).trans c1_1
 have c2_2 := (S2.cell l1_0).trans c1_2
 have c2_3 := (S2.cell l1_0).trans c1_3
 have c2_4 := (S2.cell l1_0).trans c1_4
 have c2_5 := (S2.cell l1_0).trans c1_5
 have c2_6 := (S2.cell l1_0).trans c1_6
 have c2_7 := (S2.cell l1_0).trans c1_7
 have c2_8 := (S2.cell l1_1).trans c1_8
 have c2_9 := (S2.cell l1_1).trans c1_9
 have c2_10 := (S2.cell l1_1).trans c1_10
 have c2_11 := (S2.cell l1_1).trans c1_11
 have c2_12 := (S2.cell l1_1).trans c1_12
 have c2_13 := (S2.cell l1_1).trans c1_13
 have c2_14 := (S2.cell l1_1).trans c1_14
 have l2_0 : w.heap.size < w2.heap.size := World.block_lt_of_cell? _ _ c2_0
 have l2_1 : w.heap.size + 1 < w2.heap.size := World.block_lt_of_cell? _ _ c2_8
 have X2 : Below w.heap.size w w2 := X1.trans (S2.mono X1.size)
 clear c1_0 c1_1 c1_2 c1_3 c1_4 c1_5 c1_6 c1_7 c1_8 c1_9 c1_10 c1_11 c1_12 c1_13 c1_14 l1_0 l1_1 X1 hX
 clear S2
 go_wp2_with fail
 refine (toStore_any _ _ _ 0 w.heap.size (StoreR.below X2 (Nat.le_refl _) _ _ PA0.out) HZ0.out).mono ?_
 rintro e w3 ⟨cs, rfl, hr, hb⟩
 obtain ⟨lo0, hlo0⟩ : ∃ x, x = w2.heap.size := ⟨_, rfl⟩
 have hr : StoreR w3 lo0 w3.heap.size cs (v0_rows_, (v0_space_refs_, v0_space_last_), v0_txg_, v0_gone_, v0_keep_, v0_dead_, v0_same_) := by rw [hlo0]; simpa using hr
 clear hlo0
 have S3 : Below w2.heap.size w2 w3 := hb
 have c3_0 := (S3.cell l2_0).trans c2_0
 have c3_1 := (S3.cell l2_0).trans c2_1
 have c3_2 := (S3.cell l2_0).trans c2_2
 have c3_3 := (S3.cell l2_0).trans c2_3
 have c3_4 := (S3.cell l2_0).trans c2_4
 have c3_5 := (S3.cell l2_0).trans c2_5
 have c3_6 := (S3.cell l2_0).trans c2_6
 have c3_7 := (S3.cell l2_0).trans c2_7
 have c3_8 := (S3.cell l2_1).trans c2_8
 have c3_9 := (S3.cell l2_1).trans c2_9
 have c3_10 := (S3.cell l2_1).trans c2_10
 have c3_11 := (S3.cell l2_1).trans c2_11
 have c3_12 := (S3.cell l2_1).trans c2_12
 have c3_13 := (S3.cell l2_1).trans c2_13
 have c3_14 := (S3.cell l2_1).trans c2_14
 have l3_0 : w.heap.size < w3.heap.size := World.block_lt_of_cell? _ _ c3_0
 have l3_1 : w.heap.size + 1 < w3.heap.size := World.block_lt_of_cell? _ _ c3_8
 have X3 : Below w.heap.size w w3 := X2.trans (S3.mono X2.size)
 clear c2_0 c2_1 c2_2 c2_3 c2_4 c2_5 c2_6 c2_7 c2_8 c2_9 c2_10 c2_11 c2_12 c2_13 c2_14 l2_0 l2_1 X2 hb
 clear S3
 obtain ⟨hi0, hhi0⟩ : ∃ x, x = w3.heap.size := ⟨_, rfl⟩
 rw [← hhi0] at hr
 have hhl0 : hi0 ≤ w3.heap.size := Nat.le_of_eq hhi0; clear hhi0
 have hr2 := hr
 obtain ⟨Ar00, nr00, cr00, Ar01, nr01, cr01, Ar02, nr02, cr02, Ar03, nr03, cr03, Ar04, nr04, cr04, rfl, hr00, hr01, hr02, hr03, hr04⟩ := hr2
 clear hr00 hr01 hr02 hr03 hr04
 have RA0_3 := Lib.hid (And.intro hhl0 hr); clear hr hhl0
 go_wp2_with fail
 generalize hwg : w3.alloc (.cells #[.slice Ar00 nr00 cr00, .slice Ar01 nr01 cr01, .slice Ar02 nr02 cr02, .int .i64 v0_txg_, .slice Ar03 nr03 cr03, .int .i64 v0_keep_, .slice Ar04 nr04 cr04, .bool v0_same_] 39) = w4
 have hb : Below (w3.alloc (.cells #[.slice Ar00 nr00 cr00, .slice Ar01 nr01 cr01, .slice Ar02 nr02 cr02, .int .i64 v0_txg_, .slice Ar03 nr03 cr03, .int .i64 v0_keep_, .slice Ar04 nr04 cr04, .bool v0_same_] 39)).heap.size (w3.alloc (.cells #[.slice Ar00 nr00 cr00, .slice Ar01 nr01 cr01, .slice Ar02 nr02 cr02, .int .i64 v0_txg_, .slice Ar03 nr03 cr03, .int .i64 v0_keep_, .slice Ar04 nr04 cr04, .bool v0_same_] 39)) w4 := by rw [← hwg]; exact Below.refl _ _
 clear hwg
 have S4 : Below w3.heap.size w3 w4 := bel1.trans (hb.mono (by simp <;> omega))
 have c4_0 := (S4.cell l3_0).trans c3_0
 have c4_1 := (S4.cell l3_0).trans c3_1
 have c4_2 := (S4.cell l3_0).trans c3_2
 have c4_3 := (S4.cell l3_0).trans c3_3
 have c4_4 := (S4.cell l3_0).trans c3_4
 have c4_5 := (S4.cell l3_0).trans c3_5
 have c4_6 := (S4.cell l3_0).trans c3_6
 have c4_7 := (S4.cell l3_0).trans c3_7
 have c4_8 := (S4.cell l3_1).trans c3_8
 have c4_9 := (S4.cell l3_1).trans c3_9
 have c4_10 := (S4.cell l3_1).trans c3_10
 have c4_11 := (S4.cell l3_1).trans c3_11
 have c4_12 := (S4.cell l3_1).trans c3_12
 have c4_13 := (S4.cell l3_1).trans c3_13
 have c4_14 := (S4.cell l3_1).trans c3_14
 have c4_15 : w4.cell? ⟨w3.heap.size, 0, none⟩ = some (.slice Ar00 nr00 cr00) := (hb.cell (by simp <;> omega)).trans (by simp [go_sem])
 have c4_16 : w4.cell? ⟨w3.heap.size, 1, none⟩ = some (.slice Ar01 nr01 cr01) := (hb.cell (by simp <;> omega)).trans (by simp [go_sem])
 have c4_17 : w4.cell? ⟨w3.heap.size, 2, none⟩ = some (.slice Ar02 nr02 cr02) := (hb.cell (by simp <;> omega)).trans (by simp [go_sem])
 have c4_18 : w4.cell? ⟨w3.heap.size, 3, none⟩ = some (.int .i64 v0_txg_) := (hb.cell (by simp <;> omega)).trans (by simp [go_sem])
 have c4_19 : w4.cell? ⟨w3.heap.size, 4, none⟩ = some (.slice Ar03 nr03 cr03) := (hb.cell (by simp <;> omega)).trans (by simp [go_sem])
 have c4_20 : w4.cell? ⟨w3.heap.size, 5, none⟩ = some (.int .i64 v0_keep_) := (hb.cell (by simp <;> omega)).trans (by simp [go_sem])
 have c4_21 : w4.cell? ⟨w3.heap.size, 6, none⟩ = some (.slice Ar04 nr04 cr04) := (hb.cell (by simp <;> omega)).trans (by simp [go_sem])
 have c4_22 : w4.cell? ⟨w3.heap.size, 7, none⟩ = some (.bool v0_same_) := (hb.cell (by simp <;> omega)).trans (by simp [go_sem])
 have l4_0 : w.heap.size < w4.heap.size := World.block_lt_of_cell? _ _ c4_0
 have l4_1 : w.heap.size + 1 < w4.heap.size := World.block_lt_of_cell? _ _ c4_8
 have l4_2 : w3.heap.size < w4.heap.size := World.block_lt_of_cell? _ _ c4_15
 have X4 : Below w.heap.size w w4 := X3.trans (S4.mono X3.size)
 have RA0_4 : Hid (hi0 ≤ w4.heap.size ∧ StoreR w4 lo0 hi0 [.slice Ar00 nr00 cr00, .slice Ar01 nr01 cr01, .slice Ar02 nr02 cr02, .int .i64 v0_txg_, .slice Ar03 nr03 cr03, .int .i64 v0_keep_, .slice Ar04 nr04 cr04, .bool v0_same_] (v0_rows_, (v0_space_refs_, v0_space_last_), v0_txg_, v0_gone_, v0_keep_, v0_dead_, v0_same_)) := Lib.hid ⟨Nat.le_trans RA0_3.out.1 S4.size, StoreR.below S4 RA0_3.out.1 _ _ RA0_3.out.2⟩
 clear c3_0 c3_1 c3_2 c3_3 c3_4 c3_5 c3_6 c3_7 c3_8 c3_9 c3_10 c3_11 c3_12 c3_13 c3_14 l3_0 l3_1 RA0_3 X3 hb
 clear S4
 apply wp_region_rg (by kernel_rfl) (false :: false :: false :: false :: false :: false :: false :: false :: true :: false :: false :: false :: false :: false :: false :: false :: false :: false :: false :: false :: false :: true :: true :: true :: true :: false :: false :: false :: false :: false :: false :: false :: false :: []) [some 21, some 22, some 23, some 24, some 8] [[], [], [1], [0, 2], [3]] [StP.is _, StP.is _, StP.is _, StP.is _, StP.is _] (by kernel_rfl)
 case hobs =>
  refine ⟨fun y w' hS hF K hK => ?_, ?_⟩
  · skip
    simp only [fillL, cond_true, cond_false, zG0, zG1, StP.is, Act.put, zS2, zS0, zS1, Nat.reduceAdd] at hK ⊢
    refine rg_yes (by kernel_rfl) ?_
    have qx0_ := (Below.cell hS l4_0).trans c4_0
    have qx1_ := (Below.cell hS l4_0).trans c4_1
    have qx2_ := (Below.cell hS l4_0).trans c4_2
    have qx3_ := (Below.cell hS l4_0).trans c4_3
    have qx4_ := (Below.cell hS l4_0).trans c4_4
    have qx5_ := (Below.cell hS l4_0).trans c4_5
    have qx6_ := (Below.cell hS l4_0).trans c4_6
    have qx7_ := (Below.cell hS l4_0).trans c4_7
    have qx8_ := (Below.cell hS l4_1).trans c4_8
    have qx9_ := (Below.cell hS l4_1).trans c4_9
    have qx10_ := (Below.cell hS l4_1).trans c4_10
    have qx11_ := (Below.cell hS l4_1).trans c4_11
    have qx12_ := (Below.cell hS l4_1).trans c4_12
    have qx13_ := (Below.cell hS l4_1).trans c4_13
    have qx14_ := (Below.cell hS l4_1).trans c4_14
    have qx15_ := (Below.cell hS l4_2).trans c4_15
    have qx16_ := (Below.cell hS l4_2).trans c4_16
    have qx17_ := (Below.cell hS l4_2).trans c4_17
    have qx18_ := (Below.cell hS l4_2).trans c4_18
    have qx19_ := (Below.cell hS l4_2).trans c4_19
    have qx20_ := (Below.cell hS l4_2).trans c4_20
    have qx21_ := (Below.cell hS l4_2).trans c4_21
    have qx22_ := (Below.cell hS l4_2).trans c4_22
    clear hF
    go_simp
    exact hK _ _ (Ext.refl _) rfl
  refine ⟨fun y w' hS hF K hK => ?_, ?_⟩
  · skip
    simp only [fillL, cond_true, cond_false, zG0, zG1, StP.is, Act.put, zS2, zS0, zS1, Nat.reduceAdd] at hK ⊢
    refine rg_yes (by kernel_rfl) ?_
    have qx0_ := (Below.cell hS l4_0).trans c4_0
    have qx1_ := (Below.cell hS l4_0).trans c4_1
    have qx2_ := (Below.cell hS l4_0).trans c4_2
    have qx3_ := (Below.cell hS l4_0).trans c4_3
    have qx4_ := (Below.cell hS l4_0).trans c4_4
    have qx5_ := (Below.cell hS l4_0).trans c4_5
    have qx6_ := (Below.cell hS l4_0).trans c4_6
    have qx7_ := (Below.cell hS l4_0).trans c4_7
    have qx8_ := (Below.cell hS l4_1).trans c4_8
    have qx9_ := (Below.cell hS l4_1).trans c4_9
    have qx10_ := (Below.cell hS l4_1).trans c4_10
    have qx11_ := (Below.cell hS l4_1).trans c4_11
    have qx12_ := (Below.cell hS l4_1).trans c4_12
    have qx13_ := (Below.cell hS l4_1).trans c4_13
    have qx14_ := (Below.cell hS l4_1).trans c4_14
    have qx15_ := (Below.cell hS l4_2).trans c4_15
    have qx16_ := (Below.cell hS l4_2).trans c4_16
    have qx17_ := (Below.cell hS l4_2).trans c4_17
    have qx18_ := (Below.cell hS l4_2).trans c4_18
    have qx19_ := (Below.cell hS l4_2).trans c4_19
    have qx20_ := (Below.cell hS l4_2).trans c4_20
    have qx21_ := (Below.cell hS l4_2).trans c4_21
    have qx22_ := (Below.cell hS l4_2).trans c4_22
    clear hF
    go_simp
    exact hK _ _ (Ext.refl _) rfl
  refine ⟨fun y w' hS hF K hK => ?_, ?_⟩
  · skip
    have e22 : y 22 = _ := hF.1
    simp only [fillL, cond_true, cond_false, zG0, zG1, StP.is, Act.put, zS2, zS0, zS1, Nat.reduceAdd, e22] at hK ⊢
    refine rg_yes (by kernel_rfl) ?_
    clear e22
    clear hF
    go_simp
    go_at_call 10
    refine (toTreeF_any [.int .i64 v1_root_at_, .int .i64 v1_root_birth_, .int .i64 v1_root_size_, .int .i64 v1_root_sum_, .int .i64 v1_root_level_, .int .i64 v1_depth_, .int .i64 v1_many_] ((v1_root_at_, v1_root_birth_, v1_root_size_, v1_root_sum_, v1_root_level_), v1_depth_, v1_many_) _ w 0 0 rfl).mono ?_
    rintro e w'' ⟨rfl, hb⟩
    exact hK _ _ hb rfl
  refine ⟨fun y w' hS hF K hK => ?_, ?_⟩
  · skip
    have e21 : y 21 = _ := hF.1
    have e23 : y 23 = _ := hF.2.1
    simp only [fillL, cond_true, cond_false, zG0, zG1, StP.is, Act.put, zS2, zS0, zS1, Nat.reduceAdd, e21, e23] at hK ⊢
    refine rg_yes (by kernel_rfl) ?_
    clear e21 e23
    clear hF
    go_simp
    go_at_call 18
    refine (tableOk_any _ (v0_rows_, (v0_space_refs_, v0_space_last_), v0_txg_, v0_gone_, v0_keep_, v0_dead_, v0_same_) v1_root_at_ v1_root_birth_ v1_root_size_ v1_root_sum_ v1_root_level_ v1_depth_ v1_many_ _ (HE.out.below (X4.trans (Below.mono hS X4.size))) _ _ (StoreR.below hS RA0_4.out.1 _ _ RA0_4.out.2) (Nat.le_trans RA0_4.out.1 hS.size) (by have := HZ0.out; unfold sizeStore at this; unfold SmallS; simp only at this ⊢; constructor <;> omega)).mono ?_
    rw [HRES.out]
    rintro e w'' ⟨rfl, hb⟩
    exact hK _ _ hb rfl
  refine ⟨fun y w' hS hF K hK => ?_, ?_⟩
  · skip
    have e24 : y 24 = _ := hF.1
    simp only [fillL, cond_true, cond_false, zG0, zG1, StP.is, Act.put, zS2, zS0, zS1, Nat.reduceAdd, e24] at hK ⊢
    refine rg_yes (by kernel_rfl) ?_
    clear e24
    clear hF
    go_simp
    exact hK _ _ (Ext.refl _) rfl
  trivial
 intro y w5 hX hF
 have e8 : y 8 = _ := hF.2.2.2.2.1
 clear hF
 simp only [fillL, cond_true, cond_false, Nat.reduceAdd, e8]
 clear e8
 have S5 : Below w4.heap.size w4 w5 := hX
 have c5_0 := (S5.cell l4_0).trans c4_0
 have c5_1 := (S5.cell l4_0).trans c4_1
 have c5_2 := (S5.cell l4_0).trans c4_2
 have c5_3 := (S5.cell l4_0).trans c4_3
 have c5_4 := (S5.cell l4_0).trans c4_4
 have c5_5 := (S5.cell l4_0).trans c4_5
 have c5_6 := (S5.cell l4_0).trans c4_6
 have c5_7 := (S5.cell l4_0).trans c4_7
 have c5_8 := (S5.cell l4_1).trans c4_8
 have c5_9 := (S5.cell l4_1).trans c4_9
 have c5_10 := (S5.cell l4_1).trans c4_10
 have c5_11 := (S5.cell l4_1).trans c4_11
 have c5_12 := (S5.cell l4_1).trans c4_12
 have c5_13 := (S5.cell l4_1).trans c4_13
 have c5_14 := (S5.cell l4_1).trans c4_14
 have c5_15 := (S5.cell l4_2).trans c4_15
 have c5_16 := (S5.cell l4_2).trans c4_16
 have c5_17 := (S5.cell l4_2).trans c4_17
 have c5_18 := (S5.cell l4_2).trans c4_18
 have c5_19 := (S5.cell l4_2).trans c4_19
 have c5_20 := (S5.cell l4_2).trans c4_20
 have c5_21 := (S5.cell l4_2).trans c4_21
 have c5_22 := (S5.cell l4_2).trans c4_22
 have l5_0 : w.heap.size < w5.heap.size := World.block_lt_of_cell? _ _ c5_0
 have l5_1 : w.heap.size + 1 < w5.heap.size := World.block_lt_of_cell? _ _ c5_8
 have l5_2 : w3.heap.size < w5.heap.size := World.block_lt_of_cell? _ _ c5_15
 have X5 : Below w.heap.size w w5 := X4.trans (S5.mono X4.size)
 have RA0_5 : Hid (hi0 ≤ w5.heap.size ∧ StoreR w5 lo0 hi0 [.slice Ar00 nr00 cr00, .slice Ar01 nr01 cr01, .slice Ar02 nr02 cr02, .int .i64 v0_txg_, .slice Ar03 nr03 cr03, .int .i64 v0_keep_, .slice Ar04 nr04 cr04, .bool v0_same_] (v0_rows_, (v0_space_refs_, v0_space_last_), v0_txg_, v0_gone_, v0_keep_, v0_dead_, v0_same_)) := Lib.hid ⟨Nat.le_trans RA0_4.out.1 S5.size, StoreR.below S5 RA0_4.out.1 _ _ RA0_4.out.2⟩
 clear c4_0 c4_1 c4_2 c4_3 c4_4 c4_5 c4_6 c4_7 c4_8 c4_9 c4_10 c4_11 c4_12 c4_13 c4_14 c4_15 c4_16 c4_17 c4_18 c4_19 c4_20 c4_21 c4_22 l4_0 l4_1 l4_2 RA0_4 X4 hX
 clear S5
 have hrr : (res != res) = false := by simp
 go_wp2_with fail
 apply wp_region_rg (by kernel_rfl) (false :: false :: false :: false :: false :: false :: false :: false :: false :: false :: false :: false :: false :: false :: false :: false :: false :: false :: false :: false :: false :: false :: false :: false :: false :: false :: false :: false :: true :: true :: true :: true :: true :: []) [some 28, some 29, some 30, some 31, some 32] [[], [], [1], [0, 2], [3]] [StP.is _, StP.is _, (StoreR.stp (v0_rows_, (v0_space_refs_, v0_space_last_), v0_txg_, v0_gone_, v0_keep_, v0_dead_, v0_same_)), StP.is _, StP.is _] (by kernel_rfl)
 case hobs =>
  refine ⟨fun y w' hS hF K hK => ?_, ?_⟩
  · skip
    simp only [fillL, cond_true, cond_false, zG0, zG1, StP.is, Act.put, zS2, zS0, zS1, Nat.reduceAdd] at hK ⊢
    refine rg_yes (by kernel_rfl) ?_
    have qx0_ := (Below.cell hS l5_0).trans c5_0
    have qx1_ := (Below.cell hS l5_0).trans c5_1
    have qx2_ := (Below.cell hS l5_0).trans c5_2
    have qx3_ := (Below.cell hS l5_0).trans c5_3
    have qx4_ := (Below.cell hS l5_0).trans c5_4
    have qx5_ := (Below.cell hS l5_0).trans c5_5
    have qx6_ := (Below.cell hS l5_0).trans c5_6
    have qx7_ := (Below.cell hS l5_0).trans c5_7
    have qx8_ := (Below.cell hS l5_1).trans c5_8
    have qx9_ := (Below.cell hS l5_1).trans c5_9
    have qx10_ := (Below.cell hS l5_1).trans c5_10
    have qx11_ := (Below.cell hS l5_1).trans c5_11
    have qx12_ := (Below.cell hS l5_1).trans c5_12
    have qx13_ := (Below.cell hS l5_1).trans c5_13
    have qx14_ := (Below.cell hS l5_1).trans c5_14
    have qx15_ := (Below.cell hS l5_2).trans c5_15
    have qx16_ := (Below.cell hS l5_2).trans c5_16
    have qx17_ := (Below.cell hS l5_2).trans c5_17
    have qx18_ := (Below.cell hS l5_2).trans c5_18
    have qx19_ := (Below.cell hS l5_2).trans c5_19
    have qx20_ := (Below.cell hS l5_2).trans c5_20
    have qx21_ := (Below.cell hS l5_2).trans c5_21
    have qx22_ := (Below.cell hS l5_2).trans c5_22
    clear hF
    go_simp
    exact hK _ _ (Ext.refl _) rfl
  refine ⟨fun y w' hS hF K hK => ?_, ?_⟩
  · skip
    simp only [fillL, cond_true, cond_false, zG0, zG1, StP.is, Act.put, zS2, zS0, zS1, Nat.reduceAdd] at hK ⊢
    refine rg_yes (by kernel_rfl) ?_
    have qx0_ := (Below.cell hS l5_0).trans c5_0
    have qx1_ := (Below.cell hS l5_0).trans c5_1
    have qx2_ := (Below.cell hS l5_0).trans c5_2
    have qx3_ := (Below.cell hS l5_0).trans c5_3
    have qx4_ := (Below.cell hS l5_0).trans c5_4
    have qx5_ := (Below.cell hS l5_0).trans c5_5
    have qx6_ := (Below.cell hS l5_0).trans c5_6
    have qx7_ := (Below.cell hS l5_0).trans c5_7
    have qx8_ := (Below.cell hS l5_1).trans c5_8
    have qx9_ := (Below.cell hS l5_1).trans c5_9
    have qx10_ := (Below.cell hS l5_1).trans c5_10
    have qx11_ := (Below.cell hS l5_1).trans c5_11
    have qx12_ := (Below.cell hS l5_1).trans c5_12
    have qx13_ := (Below.cell hS l5_1).trans c5_13
    have qx14_ := (Below.cell hS l5_1).trans c5_14
    have qx15_ := (Below.cell hS l5_2).trans c5_15
    have qx16_ := (Below.cell hS l5_2).trans c5_16
    have qx17_ := (Below.cell hS l5_2).trans c5_17
    have qx18_ := (Below.cell hS l5_2).trans c5_18
    have qx19_ := (Below.cell hS l5_2).trans c5_19
    have qx20_ := (Below.cell hS l5_2).trans c5_20
    have qx21_ := (Below.cell hS l5_2).trans c5_21
    have qx22_ := (Below.cell hS l5_2).trans c5_22
    clear hF
    go_simp
    exact hK _ _ (Ext.refl _) rfl
  refine ⟨fun y w' hS hF K hK => ?_, ?_⟩
  · skip
    have e29 : y 29 = _ := hF.1
    simp only [fillL, cond_true, cond_false, zG0, zG1, StP.is, Act.put, zS2, zS0, zS1, Nat.reduceAdd, e29] at hK ⊢
    refine rg_yes (by kernel_rfl) ?_
    clear e29
    clear hF
    go_simp
    go_at_call 9
    refine (toStore_any _ _ _ 0 w.heap.size (StoreR.below (X5.trans (Below.mono hS X5.size)) (Nat.le_refl _) _ _ PA0.out) HZ0.out).mono ?_
    rintro e w'' ⟨cs, rfl, hr, hb⟩
    exact hK _ _ hb ⟨cs, _, _, rfl, Nat.le_refl _, hr⟩
  refine ⟨fun y w' hS hF K hK => ?_, ?_⟩
  · skip
    have e28 : y 28 = _ := hF.1
    obtain ⟨cs30_, lo30_, hi30_, e30, hh30_, R30_⟩ := hF.2.1
    simp only [fillL, cond_true, cond_false, zG0, zG1, StP.is, Act.put, zS2, zS0, zS1, Nat.reduceAdd, e28, e30] at hK ⊢
    refine rg_yes (by kernel_rfl) ?_
    clear e28 e30
    clear hF
    go_simp
    go_at_call 13
    refine (eqStore_yes _ _ (v0_rows_, (v0_space_refs_, v0_space_last_), v0_txg_, v0_gone_, v0_keep_, v0_dead_, v0_same_) _ _ _ _ _ (StoreR.below hS RA0_5.out.1 _ _ RA0_5.out.2) R30_).mono ?_
    rintro e w'' ⟨rfl, hb⟩
    exact hK _ _ hb rfl
  refine ⟨fun y w' hS hF K hK => ?_, ?_⟩
  · skip
    have e31 : y 31 = _ := hF.1
    simp only [fillL, cond_true, cond_false, zG0, zG1, StP.is, Act.put, zS2, zS0, zS1, Nat.reduceAdd, e31] at hK ⊢
    refine rg_yes (by kernel_rfl) ?_
    clear e31
    clear hF
    go_simp
    exact hK _ _ (Ext.refl _) rfl
  trivial
 intro y w6 hX hF
 have e32 : y 32 = _ := hF.2.2.2.2.1
 clear hF
 simp only [fillL, cond_true, cond_false, Nat.reduceAdd, e32]
 clear e32
 have S6 : Below w5.heap.size w5 w6 := hX
 have c6_0 := (S6.cell l5_0).trans c5_0
 have c6_1 := (S6.cell l5_0).trans c5_1
 have c6_2 := (S6.cell l5_0).trans c5_2
 have c6_3 := (S6.cell l5_0).trans c5_3
 have c6_4 := (S6.cell l5_0).trans c5_4
 have c6_5 := (S6.cell l5_0).trans c5_5
 have c6_6 := (S6.cell l5_0).trans c5_6
 have c6_7 := (S6.cell l5_0).trans c5_7
 have c6_8 := (S6.cell l5_1).trans c5_8
 have c6_9 := (S6.cell l5_1).trans c5_9
 have c6_10 := (S6.cell l5_1).trans c5_10
 have c6_11 := (S6.cell l5_1).trans c5_11
 have c6_12 := (S6.cell l5_1).trans c5_12
 have c6_13 := (S6.cell l5_1).trans c5_13
 have c6_14 := (S6.cell l5_1).trans c5_14
 have c6_15 := (S6.cell l5_2).trans c5_15
 have c6_16 := (S6.cell l5_2).trans c5_16
 have c6_17 := (S6.cell l5_2).trans c5_17
 have c6_18 := (S6.cell l5_2).trans c5_18
 have c6_19 := (S6.cell l5_2).trans c5_19
 have c6_20 := (S6.cell l5_2).trans c5_20
 have c6_21 := (S6.cell l5_2).trans c5_21
 have c6_22 := (S6.cell l5_2).trans c5_22
 have l6_0 : w.heap.size < w6.heap.size := World.block_lt_of_cell? _ _ c6_0
 have l6_1 : w.heap.size + 1 < w6.heap.size := World.block_lt_of_cell? _ _ c6_8
 have l6_2 : w3.heap.size < w6.heap.size := World.block_lt_of_cell? _ _ c6_15
 have X6 : Below w.heap.size w w6 := X5.trans (S6.mono X5.size)
 have RA0_6 : Hid (hi0 ≤ w6.heap.size ∧ StoreR w6 lo0 hi0 [.slice Ar00 nr00 cr00, .slice Ar01 nr01 cr01, .slice Ar02 nr02 cr02, .int .i64 v0_txg_, .slice Ar03 nr03 cr03, .int .i64 v0_keep_, .slice Ar04 nr04 cr04, .bool v0_same_] (v0_rows_, (v0_space_refs_, v0_space_last_), v0_txg_, v0_gone_, v0_keep_, v0_dead_, v0_same_)) := Lib.hid ⟨Nat.le_trans RA0_5.out.1 S6.size, StoreR.below S6 RA0_5.out.1 _ _ RA0_5.out.2⟩
 clear c5_0 c5_1 c5_2 c5_3 c5_4 c5_5 c5_6 c5_7 c5_8 c5_9 c5_10 c5_11 c5_12 c5_13 c5_14 c5_15 c5_16 c5_17 c5_18 c5_19 c5_20 c5_21 c5_22 l5_0 l5_1 l5_2 RA0_5 X5 hX
 clear S6
 go_wp2_with fail
 go_ret
 exact ⟨rfl, X6⟩
end Go.Proofs.YtjnhiiaejeaikaaGreatDoor
