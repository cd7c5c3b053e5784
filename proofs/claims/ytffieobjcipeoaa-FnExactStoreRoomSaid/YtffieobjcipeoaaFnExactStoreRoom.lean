/- FnExactStoreRoom: the walk. No condition. -/
import Derived.Test.YtffieobjcipeoaaFamSt
import Derived.Test.YtffieobjcipeoaaStoreRoomS
namespace Go.Proofs.Ytffieobjcipeoaa
set_option linter.unnecessarySimpa false
open Go.RowKit
set_option linter.unusedVariables false
set_option linter.unusedSimpArgs false
/-- A value reads as a datum, in some blocks. -/
def HoldsR {α : Type} (R : Reads α) (x : α) (v : Value) (w : World) : Prop := ∃ cs lo hi, v = .agg (List.toArray cs) ∧ hi ≤ w.heap.size ∧ R w lo hi cs x
def StoreR.stp (x : StoreD) : StP := ⟨HoldsR StoreR x, fun v w w' he h => by
  obtain ⟨cs, lo, hi, e, h1, h2⟩ := h
  exact ⟨cs, lo, hi, e, Nat.le_trans h1 (Below.size he), StoreR.below he h1 _ _ h2⟩⟩
set_option maxRecDepth 100000 in
set_option maxHeartbeats 8000000 in
theorem fnExactStoreRoom_walk (l0 : List Value) (x0 : StoreD) (w : World) (h0 : StoreR w 0 w.heap.size l0 x0) :
    Calls Try.prog 5 #[.agg l0.toArray] w fun e w' => e = .returned (.bool true) ∧ Below w.heap.size w w' := by
  have PA0 := Lib.hid h0
  obtain ⟨v0_rows_, ⟨v0_space_refs_, v0_space_last_⟩, v0_txg_, v0_gone_, v0_keep_, v0_dead_, v0_same_⟩ := x0
  obtain ⟨Ap00, np00, cp00, Ap01, np01, cp01, Ap02, np02, cp02, Ap03, np03, cp03, Ap04, np04, cp04, rfl, hp00, hp01, hp02, hp03, hp04⟩ := h0
  clear hp00 hp01 hp02 hp03 hp04
  show Calls Try.prog 5 #[.agg #[.slice Ap00 np00 cp00, .slice Ap01 np01 cp01, .slice Ap02 np02 cp02, .int .i64 v0_txg_, .slice Ap03 np03 cp03, .int .i64 v0_keep_, .slice Ap04 np04 cp04, .bool v0_same_]] w _
  generalize hres : roomS (v0_rows_, (v0_space_refs_, v0_space_last_), v0_txg_, v0_gone_, v0_keep_, v0_dead_, v0_same_) = res
  obtain ⟨P1, P2⟩ := res
  have HRES := Lib.hid hres; clear hres
  go_enter Try.func5, Try.ntmps5
  go_wp2_with fail
  refine (szStore_any _ _ _ 0 w.heap.size (1048576) (StoreR.below bel1 (Nat.le_refl _) _ _ PA0.out) (by omega) (by omega)).mono ?_
  rintro e w1 ⟨s0, rfl, p0_, o0_, z0, hb1⟩
  have ZZ0 := Lib.hid z0; clear z0
  have S1 : Below w.heap.size w w1 := bel1.trans (hb1.mono (by simp <;> omega))
  have c1_0 : w1.cell? ⟨w.heap.size, 0, none⟩ = some (.slice Ap00 np00 cp00) := (hb1.cell (by simp <;> omega)).trans (by simp [go_sem])
  have c1_1 : w1.cell? ⟨w.heap.size, 1, none⟩ = some (.slice Ap01 np01 cp01) := (hb1.cell (by simp <;> omega)).trans (by simp [go_sem])
  have c1_2 : w1.cell? ⟨w.heap.size, 2, none⟩ = some (.slice Ap02 np02 cp02) := (hb1.cell (by simp <;> omega)).trans (by simp [go_sem])
  have c1_3 : w1.cell? ⟨w.heap.size, 3, none⟩ = some (.int .i64 v0_txg_) := (hb1.cell (by simp <;> omega)).trans (by simp [go_sem])
  have c1_4 : w1.cell? ⟨w.heap.size, 4, none⟩ = some (.slice Ap03 np03 cp03) := (hb1.cell (by simp <;> omega)).trans (by simp [go_sem])
  have c1_5 : w1.cell? ⟨w.heap.size, 5, none⟩ = some (.int .i64 v0_keep_) := (hb1.cell (by simp <;> omega)).trans (by simp [go_sem])
  have c1_6 : w1.cell? ⟨w.heap.size, 6, none⟩ = some (.slice Ap04 np04 cp04) := (hb1.cell (by simp <;> omega)).trans (by simp [go_sem])
  have c1_7 : w1.cell? ⟨w.heap.size, 7, none⟩ = some (.bool v0_same_) := (hb1.cell (by simp <;> omega)).trans (by simp [go_sem])
  have l1_0 : w.heap.size < w1.heap.size := World.block_lt_of_cell? _ _ c1_0
  have X1 : Below w.heap.size w w1 := S1
  clear hb1
  clear S1
  by_cases q0_ : s0 < 0
  · go_wp2_with fail
    go_ret
    exact ⟨rfl, X1⟩
  have dq0 : decide (s0 < 0) = false := by simpa using q0_
  have Z0 : sizeStore (v0_rows_, (v0_space_refs_, v0_space_last_), v0_txg_, v0_gone_, v0_keep_, v0_dead_, v0_same_) ≤ 1048576 := by have := ZZ0.out (by omega); omega
  clear ZZ0
  have HZ0 := Lib.hid Z0; clear Z0
  go_wp2_with fail
  refine (toStore_any _ _ _ 0 w.heap.size (StoreR.below X1 (Nat.le_refl _) _ _ PA0.out) HZ0.out).mono ?_
  rintro e w2 ⟨cs, rfl, hr, hb⟩
  have RS := Lib.hid hr; clear hr
  have S2 : Below w1.heap.size w1 w2 := hb
  have c2_0 : w2.cell? ⟨w.heap.size, 0, none⟩ = some (.slice Ap00 np00 cp00) := (S2.cell l1_0).trans c1_0
  have c2_1 : w2.cell? ⟨w.heap.size, 1, none⟩ = some (.slice Ap01 np01 cp01) := (S2.cell l1_0).trans c1_1
  have c2_2 : w2.cell? ⟨w.heap.size, 2, none⟩ = some (.slice Ap02 np02 cp02) := (S2.cell l1_0).trans c1_2
  have c2_3 : w2.cell? ⟨w.heap.size, 3, none⟩ = some (.int .i64 v0_txg_) := (S2.cell l1_0).trans c1_3
  have c2_4 : w2.cell? ⟨w.heap.size, 4, none⟩ = some (.slice Ap03 np03 cp03) := (S2.cell l1_0).trans c1_4
  have c2_5 : w2.cell? ⟨w.heap.size, 5, none⟩ = some (.int .i64 v0_keep_) := (S2.cell l1_0).trans c1_5
  have c2_6 : w2.cell? ⟨w.heap.size, 6, none⟩ = some (.slice Ap04 np04 cp04) := (S2.cell l1_0).trans c1_6
  have c2_7 : w2.cell? ⟨w.heap.size, 7, none⟩ = some (.bool v0_same_) := (S2.cell l1_0).trans c1_7
  have l2_0 : w.heap.size < w2.heap.size := World.block_lt_of_cell? _ _ c2_0
  have X2 : Below w.heap.size w w2 := X1.trans (S2.mono X1.size)
  clear c1_0 c1_1 c1_2 c1_3 c1_4 c1_5 c1_6 c1_7 l1_0 X1 hb
  clear S2
  go_wp2_with fail
  refine (spStoreRoom_any _ (v0_rows_, (v0_space_refs_, v0_space_last_), v0_txg_, v0_gone_, v0_keep_, v0_dead_, v0_same_) _ _ _ RS.out (by have := HZ0.out; unfold sizeStore at this; simp only at this ⊢; omega)).mono ?_
  rw [HRES.out]
  dsimp only
  rintro e w3 ⟨rfl, hb⟩
  clear RS
  have S3 : Below w2.heap.size w2 w3 := hb
  have c3_0 : w3.cell? ⟨w.heap.size, 0, none⟩ = some (.slice Ap00 np00 cp00) := (S3.cell l2_0).trans c2_0
  have c3_1 : w3.cell? ⟨w.heap.size, 1, none⟩ = some (.slice Ap01 np01 cp01) := (S3.cell l2_0).trans c2_1
  have c3_2 : w3.cell? ⟨w.heap.size, 2, none⟩ = some (.slice Ap02 np02 cp02) := (S3.cell l2_0).trans c2_2
  have c3_3 : w3.cell? ⟨w.heap.size, 3, none⟩ = some (.int .i64 v0_txg_) := (S3.cell l2_0).trans c2_3
  have c3_4 : w3.cell? ⟨w.heap.size, 4, none⟩ = some (.slice Ap03 np03 cp03) := (S3.cell l2_0).trans c2_4
  have c3_5 : w3.cell? ⟨w.heap.size, 5, none⟩ = some (.int .i64 v0_keep_) := (S3.cell l2_0).trans c2_5
  have c3_6 : w3.cell? ⟨w.heap.size, 6, none⟩ = some (.slice Ap04 np04 cp04) := (S3.cell l2_0).trans c2_6
  have c3_7 : w3.cell? ⟨w.heap.size, 7, none⟩ = some (.bool v0_same_) := (S3.cell l2_0).trans c2_7
  have l3_0 : w.heap.size < w3.heap.size := World.block_lt_of_cell? _ _ c3_0
  have X3 : Below w.heap.size w w3 := X2.trans (S3.mono X2.size)
  clear c2_0 c2_1 c2_2 c2_3 c2_4 c2_5 c2_6 c2_7 l2_0 X2 hb
  clear S3
  go_wp2_with fail
  refine (toStore_any _ _ _ 0 w.heap.size (StoreR.below X3 (Nat.le_refl _) _ _ PA0.out) HZ0.out).mono ?_
  rintro e w4 ⟨cs, rfl, hr, hb⟩
  obtain ⟨lo0, hlo0⟩ : ∃ x, x = w3.heap.size := ⟨_, rfl⟩
  have hr : StoreR w4 lo0 w4.heap.size cs (v0_rows_, (v0_space_refs_, v0_space_last_), v0_txg_, v0_gone_, v0_keep_, v0_dead_, v0_same_) := by rw [hlo0]; simpa using hr
  clear hlo0
  have S4 : Below w3.heap.size w3 w4 := hb
  have c4_0 : w4.cell? ⟨w.heap.size, 0, none⟩ = some (.slice Ap00 np00 cp00) := (S4.cell l3_0).trans c3_0
  have c4_1 : w4.cell? ⟨w.heap.size, 1, none⟩ = some (.slice Ap01 np01 cp01) := (S4.cell l3_0).trans c3_1
  have c4_2 : w4.cell? ⟨w.heap.size, 2, none⟩ = some (.slice Ap02 np02 cp02) := (S4.cell l3_0).trans c3_2
  have c4_3 : w4.cell? ⟨w.heap.size, 3, none⟩ = some (.int .i64 v0_txg_) := (S4.cell l3_0).trans c3_3
  have c4_4 : w4.cell? ⟨w.heap.size, 4, none⟩ = some (.slice Ap03 np03 cp03) := (S4.cell l3_0).trans c3_4
  have c4_5 : w4.cell? ⟨w.heap.size, 5, none⟩ = some (.int .i64 v0_keep_) := (S4.cell l3_0).trans c3_5
  have c4_6 : w4.cell? ⟨w.heap.size, 6, none⟩ = some (.slice Ap04 np04 cp04) := (S4.cell l3_0).trans c3_6
  have c4_7 : w4.cell? ⟨w.heap.size, 7, none⟩ = some (.bool v0_same_) := (S4.cell l3_0).trans c3_7
  have l4_0 : w.heap.size < w4.heap.size := World.block_lt_of_cell? _ _ c4_0
  have X4 : Below w.heap.size w w4 := X3.trans (S4.mono X3.size)
  clear c3_0 c3_1 c3_2 c3_3 c3_4 c3_5 c3_6 c3_7 l3_0 X3 hb
  clear S4
  obtain ⟨hi0, hhi0⟩ : ∃ x, x = w4.heap.size := ⟨_, rfl⟩
  rw [← hhi0] at hr
  have hhl0 : hi0 ≤ w4.heap.size := Nat.le_of_eq hhi0; clear hhi0
  have hr2 := hr
  obtain ⟨Ar00, nr00, cr00, Ar01, nr01, cr01, Ar02, nr02, cr02, Ar03, nr03, cr03, Ar04, nr04, cr04, rfl, hr00, hr01, hr02, hr03, hr04⟩ := hr2
  clear hr00 hr01 hr02 hr03 hr04
  have RA0_4 := Lib.hid (And.intro hhl0 hr); clear hr hhl0
  go_wp2_with fail
  refine (storeRoom_any _ (v0_rows_, (v0_space_refs_, v0_space_last_), v0_txg_, v0_gone_, v0_keep_, v0_dead_, v0_same_) _ _ _ (StoreR.below bel1 RA0_4.out.1 _ _ RA0_4.out.2) (by have := HZ0.out; unfold sizeStore at this; simp only at this ⊢; omega)).mono ?_
  rw [HRES.out]
  dsimp only
  rintro e w5 ⟨rfl, hb⟩
  have S5 : Below w4.heap.size w4 w5 := bel1.trans (hb.mono (by simp <;> omega))
  have c5_0 : w5.cell? ⟨w.heap.size, 0, none⟩ = some (.slice Ap00 np00 cp00) := (S5.cell l4_0).trans c4_0
  have c5_1 : w5.cell? ⟨w.heap.size, 1, none⟩ = some (.slice Ap01 np01 cp01) := (S5.cell l4_0).trans c4_1
  have c5_2 : w5.cell? ⟨w.heap.size, 2, none⟩ = some (.slice Ap02 np02 cp02) := (S5.cell l4_0).trans c4_2
  have c5_3 : w5.cell? ⟨w.heap.size, 3, none⟩ = some (.int .i64 v0_txg_) := (S5.cell l4_0).trans c4_3
  have c5_4 : w5.cell? ⟨w.heap.size, 4, none⟩ = some (.slice Ap03 np03 cp03) := (S5.cell l4_0).trans c4_4
  have c5_5 : w5.cell? ⟨w.heap.size, 5, none⟩ = some (.int .i64 v0_keep_) := (S5.cell l4_0).trans c4_5
  have c5_6 : w5.cell? ⟨w.heap.size, 6, none⟩ = some (.slice Ap04 np04 cp04) := (S5.cell l4_0).trans c4_6
  have c5_7 : w5.cell? ⟨w.heap.size, 7, none⟩ = some (.bool v0_same_) := (S5.cell l4_0).trans c4_7
  have c5_8 : w5.cell? ⟨w4.heap.size, 0, none⟩ = some (.slice Ar00 nr00 cr00) := (hb.cell (by simp <;> omega)).trans (by simp [go_sem])
  have c5_9 : w5.cell? ⟨w4.heap.size, 1, none⟩ = some (.slice Ar01 nr01 cr01) := (hb.cell (by simp <;> omega)).trans (by simp [go_sem])
  have c5_10 : w5.cell? ⟨w4.heap.size, 2, none⟩ = some (.slice Ar02 nr02 cr02) := (hb.cell (by simp <;> omega)).trans (by simp [go_sem])
  have c5_11 : w5.cell? ⟨w4.heap.size, 3, none⟩ = some (.int .i64 v0_txg_) := (hb.cell (by simp <;> omega)).trans (by simp [go_sem])
  have c5_12 : w5.cell? ⟨w4.heap.size, 4, none⟩ = some (.slice Ar03 nr03 cr03) := (hb.cell (by simp <;> omega)).trans (by simp [go_sem])
  have c5_13 : w5.cell? ⟨w4.heap.size, 5, none⟩ = some (.int .i64 v0_keep_) := (hb.cell (by simp <;> omega)).trans (by simp [go_sem])
  have c5_14 : w5.cell? ⟨w4.heap.size, 6, none⟩ = some (.slice Ar04 nr04 cr04) := (hb.cell (by simp <;> omega)).trans (by simp [go_sem])
  have c5_15 : w5.cell? ⟨w4.heap.size, 7, none⟩ = some (.bool v0_same_) := (hb.cell (by simp <;> omega)).trans (by simp [go_sem])
  have l5_0 : w.heap.size < w5.heap.size := World.block_lt_of_cell? _ _ c5_0
  have l5_1 : w4.heap.size < w5.heap.size := World.block_lt_of_cell? _ _ c5_8
  have X5 : Below w.heap.size w w5 := X4.trans (S5.mono X4.size)
  have RA0_5 : Hid (hi0 ≤ w5.heap.size ∧ StoreR w5 lo0 hi0 [.slice Ar00 nr00 cr00, .slice Ar01 nr01 cr01, .slice Ar02 nr02 cr02, .int .i64 v0_txg_, .slice Ar03 nr03 cr03, .int .i64 v0_keep_, .slice Ar04 nr04 cr04, .bool v0_same_] (v0_rows_, (v0_space_refs_, v0_space_last_), v0_txg_, v0_gone_, v0_keep_, v0_dead_, v0_same_)) := Lib.hid ⟨Nat.le_trans RA0_4.out.1 S5.size, StoreR.below S5 RA0_4.out.1 _ _ RA0_4.out.2⟩
  clear c4_0 c4_1 c4_2 c4_3 c4_4 c4_5 c4_6 c4_7 l4_0 RA0_4 X4 hb
  clear S5
  have hr1 : (P1 != P1) = false := by simp
  have hr2 : (P2 != P2) = false := by simp
  go_wp2_with fail
  apply wp_region_rg (by kernel_rfl) (false :: false :: false :: false :: false :: false :: false :: false :: false :: false :: false :: false :: false :: false :: false :: false :: false :: false :: false :: false :: false :: false :: false :: false :: false :: false :: false :: false :: false :: false :: false :: false :: false :: false :: false :: true :: true :: true :: true :: true :: []) [some 35, some 36, some 37, some 38, some 39] [[], [], [1], [0, 2], [3]] [StP.is _, StP.is _, (StoreR.stp (v0_rows_, (v0_space_refs_, v0_space_last_), v0_txg_, v0_gone_, v0_keep_, v0_dead_, v0_same_)), StP.is _, StP.is _] (by kernel_rfl)
  case hobs =>
    refine ⟨fun y w' hS hF K hK => ?_, ?_⟩
    · skip -- 0: load
      simp only [fillL, cond_true, cond_false, List.getD_cons_zero, List.getD_cons_succ, StP.is, Act.put, List.setIfInBounds_toArray, List.set_cons_zero, List.set_cons_succ, Nat.reduceAdd] at hK ⊢
      refine rg_yes (by kernel_rfl) ?_
      have qx0_ := (Below.cell hS l5_0).trans c5_0
      have qx1_ := (Below.cell hS l5_0).trans c5_1
      have qx2_ := (Below.cell hS l5_0).trans c5_2
      have qx3_ := (Below.cell hS l5_0).trans c5_3
      have qx4_ := (Below.cell hS l5_0).trans c5_4
      have qx5_ := (Below.cell hS l5_0).trans c5_5
      have qx6_ := (Below.cell hS l5_0).trans c5_6
      have qx7_ := (Below.cell hS l5_0).trans c5_7
      have qx8_ := (Below.cell hS l5_1).trans c5_8
      have qx9_ := (Below.cell hS l5_1).trans c5_9
      have qx10_ := (Below.cell hS l5_1).trans c5_10
      have qx11_ := (Below.cell hS l5_1).trans c5_11
      have qx12_ := (Below.cell hS l5_1).trans c5_12
      have qx13_ := (Below.cell hS l5_1).trans c5_13
      have qx14_ := (Below.cell hS l5_1).trans c5_14
      have qx15_ := (Below.cell hS l5_1).trans c5_15
      clear hF
      go_simp
      exact hK _ _ (Ext.refl _) rfl
    refine ⟨fun y w' hS hF K hK => ?_, ?_⟩
    · skip -- 1: load
      simp only [fillL, cond_true, cond_false, List.getD_cons_zero, List.getD_cons_succ, StP.is, Act.put, List.setIfInBounds_toArray, List.set_cons_zero, List.set_cons_succ, Nat.reduceAdd] at hK ⊢
      refine rg_yes (by kernel_rfl) ?_
      have qx0_ := (Below.cell hS l5_0).trans c5_0
      have qx1_ := (Below.cell hS l5_0).trans c5_1
      have qx2_ := (Below.cell hS l5_0).trans c5_2
      have qx3_ := (Below.cell hS l5_0).trans c5_3
      have qx4_ := (Below.cell hS l5_0).trans c5_4
      have qx5_ := (Below.cell hS l5_0).trans c5_5
      have qx6_ := (Below.cell hS l5_0).trans c5_6
      have qx7_ := (Below.cell hS l5_0).trans c5_7
      have qx8_ := (Below.cell hS l5_1).trans c5_8
      have qx9_ := (Below.cell hS l5_1).trans c5_9
      have qx10_ := (Below.cell hS l5_1).trans c5_10
      have qx11_ := (Below.cell hS l5_1).trans c5_11
      have qx12_ := (Below.cell hS l5_1).trans c5_12
      have qx13_ := (Below.cell hS l5_1).trans c5_13
      have qx14_ := (Below.cell hS l5_1).trans c5_14
      have qx15_ := (Below.cell hS l5_1).trans c5_15
      clear hF
      go_simp
      exact hK _ _ (Ext.refl _) rfl
    refine ⟨fun y w' hS hF K hK => ?_, ?_⟩
    · skip -- 2: call
      have e36 : y 36 = _ := hF.1
      simp only [fillL, cond_true, cond_false, List.getD_cons_zero, List.getD_cons_succ, StP.is, Act.put, List.setIfInBounds_toArray, List.set_cons_zero, List.set_cons_succ, Nat.reduceAdd, e36] at hK ⊢
      refine rg_yes (by kernel_rfl) ?_
      clear e36
      clear hF
      go_simp
      go_at_call 23
      refine (toStore_any _ _ _ 0 w.heap.size (StoreR.below (X5.trans (Below.mono hS X5.size)) (Nat.le_refl _) _ _ PA0.out) HZ0.out).mono ?_
      rintro e w'' ⟨cs, rfl, hr, hb⟩
      exact hK _ _ hb ⟨cs, _, _, rfl, Nat.le_refl _, hr⟩
    refine ⟨fun y w' hS hF K hK => ?_, ?_⟩
    · skip -- 3: call
      have e35 : y 35 = _ := hF.1
      obtain ⟨cs37_, lo37_, hi37_, e37, hh37_, R37_⟩ := hF.2.1
      simp only [fillL, cond_true, cond_false, List.getD_cons_zero, List.getD_cons_succ, StP.is, Act.put, List.setIfInBounds_toArray, List.set_cons_zero, List.set_cons_succ, Nat.reduceAdd, e35, e37] at hK ⊢
      refine rg_yes (by kernel_rfl) ?_
      clear e35 e37
      clear hF
      go_simp
      go_at_call 24
      refine (eqStore_yes _ _ (v0_rows_, (v0_space_refs_, v0_space_last_), v0_txg_, v0_gone_, v0_keep_, v0_dead_, v0_same_) _ _ _ _ _ (StoreR.below hS RA0_5.out.1 _ _ RA0_5.out.2) R37_).mono ?_
      rintro e w'' ⟨rfl, hb⟩
      exact hK _ _ hb rfl
    refine ⟨fun y w' hS hF K hK => ?_, ?_⟩
    · skip -- 4: unOp
      have e38 : y 38 = _ := hF.1
      simp only [fillL, cond_true, cond_false, List.getD_cons_zero, List.getD_cons_succ, StP.is, Act.put, List.setIfInBounds_toArray, List.set_cons_zero, List.set_cons_succ, Nat.reduceAdd, e38] at hK ⊢
      refine rg_yes (by kernel_rfl) ?_
      clear e38
      clear hF
      go_simp
      exact hK _ _ (Ext.refl _) rfl
    trivial
  case hend =>
    intro y w6 hX hF
    have e39 : y 39 = _ := hF.2.2.2.2.1
    clear hF
    simp only [fillL, cond_true, cond_false, Nat.reduceAdd, e39]
    clear e39
    have S6 : Below w5.heap.size w5 w6 := hX
    have c6_0 : w6.cell? ⟨w.heap.size, 0, none⟩ = some (.slice Ap00 np00 cp00) := (S6.cell l5_0).trans c5_0
    have c6_1 : w6.cell? ⟨w.heap.size, 1, none⟩ = some (.slice Ap01 np01 cp01) := (S6.cell l5_0).trans c5_1
    have c6_2 : w6.cell? ⟨w.heap.size, 2, none⟩ = some (.slice Ap02 np02 cp02) := (S6.cell l5_0).trans c5_2
    have c6_3 : w6.cell? ⟨w.heap.size, 3, none⟩ = some (.int .i64 v0_txg_) := (S6.cell l5_0).trans c5_3
    have c6_4 : w6.cell? ⟨w.heap.size, 4, none⟩ = some (.slice Ap03 np03 cp03) := (S6.cell l5_0).trans c5_4
    have c6_5 : w6.cell? ⟨w.heap.size, 5, none⟩ = some (.int .i64 v0_keep_) := (S6.cell l5_0).trans c5_5
    have c6_6 : w6.cell? ⟨w.heap.size, 6, none⟩ = some (.slice Ap04 np04 cp04) := (S6.cell l5_0).trans c5_6
    have c6_7 : w6.cell? ⟨w.heap.size, 7, none⟩ = some (.bool v0_same_) := (S6.cell l5_0).trans c5_7
    have c6_8 : w6.cell? ⟨w4.heap.size, 0, none⟩ = some (.slice Ar00 nr00 cr00) := (S6.cell l5_1).trans c5_8
    have c6_9 : w6.cell? ⟨w4.heap.size, 1, none⟩ = some (.slice Ar01 nr01 cr01) := (S6.cell l5_1).trans c5_9
    have c6_10 : w6.cell? ⟨w4.heap.size, 2, none⟩ = some (.slice Ar02 nr02 cr02) := (S6.cell l5_1).trans c5_10
    have c6_11 : w6.cell? ⟨w4.heap.size, 3, none⟩ = some (.int .i64 v0_txg_) := (S6.cell l5_1).trans c5_11
    have c6_12 : w6.cell? ⟨w4.heap.size, 4, none⟩ = some (.slice Ar03 nr03 cr03) := (S6.cell l5_1).trans c5_12
    have c6_13 : w6.cell? ⟨w4.heap.size, 5, none⟩ = some (.int .i64 v0_keep_) := (S6.cell l5_1).trans c5_13
    have c6_14 : w6.cell? ⟨w4.heap.size, 6, none⟩ = some (.slice Ar04 nr04 cr04) := (S6.cell l5_1).trans c5_14
    have c6_15 : w6.cell? ⟨w4.heap.size, 7, none⟩ = some (.bool v0_same_) := (S6.cell l5_1).trans c5_15
    have l6_0 : w.heap.size < w6.heap.size := World.block_lt_of_cell? _ _ c6_0
    have l6_1 : w4.heap.size < w6.heap.size := World.block_lt_of_cell? _ _ c6_8
    have X6 : Below w.heap.size w w6 := X5.trans (S6.mono X5.size)
    have RA0_6 : Hid (hi0 ≤ w6.heap.size ∧ StoreR w6 lo0 hi0 [.slice Ar00 nr00 cr00, .slice Ar01 nr01 cr01, .slice Ar02 nr02 cr02, .int .i64 v0_txg_, .slice Ar03 nr03 cr03, .int .i64 v0_keep_, .slice Ar04 nr04 cr04, .bool v0_same_] (v0_rows_, (v0_space_refs_, v0_space_last_), v0_txg_, v0_gone_, v0_keep_, v0_dead_, v0_same_)) := Lib.hid ⟨Nat.le_trans RA0_5.out.1 S6.size, StoreR.below S6 RA0_5.out.1 _ _ RA0_5.out.2⟩
    clear c5_0 c5_1 c5_2 c5_3 c5_4 c5_5 c5_6 c5_7 c5_8 c5_9 c5_10 c5_11 c5_12 c5_13 c5_14 c5_15 l5_0 l5_1 RA0_5 X5 hX
    clear S6
    go_wp2_with fail
    go_ret
    exact ⟨rfl, X6⟩

end Go.Proofs.Ytffieobjcipeoaa
