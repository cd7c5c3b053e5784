/- FnExactMetaSame: the walk. No condition. -/
import Derived.Test.YtodibogijnjlaaaMetaSame
import Derived.Test.YtodibogijnjlaaaSpMetaSame
import Derived.Test.YtodibogijnjlaaaFamSz
import Derived.Test.YtodibogijnjlaaaFamTo2
import Derived.Test.YtodibogijnjlaaaFamEq
namespace Go.Proofs.Ytodibogijnjlaaa
set_option linter.unusedVariables false
set_option linter.unusedSimpArgs false
set_option linter.unnecessarySimpa false
open Go.RowKit

/-- A value reads as a datum, in some blocks. -/
def HoldsR {α : Type} (R : Reads α) (x : α) (v : Value) (w : World) : Prop := ∃ cs lo hi, v = .agg (List.toArray cs) ∧ hi ≤ w.heap.size ∧ R w lo hi cs x
def MetaR.stp (x : MetaD) : StP := ⟨HoldsR MetaR x, fun v w w' he h => by
  obtain ⟨cs, lo, hi, e, h1, h2⟩ := h
  exact ⟨cs, lo, hi, e, Nat.le_trans h1 (Below.size he), MetaR.below he h1 _ _ h2⟩⟩
set_option maxRecDepth 100000 in
set_option maxHeartbeats 8000000 in
theorem fnExactMetaSame_walk (l0 : List Value) (x0 : MetaD) (l1 : List Value) (x1 : MetaD) (w : World) (h0 : MetaR w 0 w.heap.size l0 x0) (h1 : MetaR w 0 w.heap.size l1 x1) :
    Calls Try.prog 12 #[.agg l0.toArray, .agg l1.toArray] w fun e w' => e = .returned (.bool true) ∧ Below w.heap.size w w' := by
  have PA0 := Lib.hid h0
  obtain ⟨v0_heads_, v0_snaps_, v0_next_, v0_same_⟩ := x0
  obtain ⟨Ap00, np00, cp00, Ap01, np01, cp01, rfl, hp00, hp01⟩ := h0
  clear hp00 hp01
  have PA1 := Lib.hid h1
  obtain ⟨v1_heads_, v1_snaps_, v1_next_, v1_same_⟩ := x1
  obtain ⟨Ap10, np10, cp10, Ap11, np11, cp11, rfl, hp10, hp11⟩ := h1
  clear hp10 hp11
  show Calls Try.prog 12 #[.agg #[.slice Ap00 np00 cp00, .slice Ap01 np01 cp01, .int .i64 v0_next_, .bool v0_same_], .agg #[.slice Ap10 np10 cp10, .slice Ap11 np11 cp11, .int .i64 v1_next_, .bool v1_same_]] w _
  generalize hres : eqD ((v0_heads_, v0_snaps_, v0_next_, v0_same_) : MetaD) (v1_heads_, v1_snaps_, v1_next_, v1_same_) = res
  have HRES := Lib.hid hres; clear hres
  go_enter Try.func12, Try.ntmps12
  go_wp2_with fail
  refine (szMeta_any _ _ _ 0 w.heap.size (1048576) (MetaR.below bel2 (Nat.le_refl _) _ _ PA0.out) (by omega) (by omega)).mono ?_
  rintro e w1 ⟨s0, rfl, p0_, o0_, z0, hb1⟩
  have ZZ0 := Lib.hid z0; clear z0
  have S1 : Below w.heap.size w w1 := bel2.trans (hb1.mono (by simp <;> omega))
  have c1_0 : w1.cell? ⟨w.heap.size, 0, none⟩ = some (.slice Ap00 np00 cp00) := (hb1.cell (by simp <;> omega)).trans (by simp [go_sem])
  have c1_1 : w1.cell? ⟨w.heap.size, 1, none⟩ = some (.slice Ap01 np01 cp01) := (hb1.cell (by simp <;> omega)).trans (by simp [go_sem])
  have c1_2 : w1.cell? ⟨w.heap.size, 2, none⟩ = some (.int .i64 v0_next_) := (hb1.cell (by simp <;> omega)).trans (by simp [go_sem])
  have c1_3 : w1.cell? ⟨w.heap.size, 3, none⟩ = some (.bool v0_same_) := (hb1.cell (by simp <;> omega)).trans (by simp [go_sem])
  have c1_4 : w1.cell? ⟨w.heap.size + 1, 0, none⟩ = some (.slice Ap10 np10 cp10) := (hb1.cell (by simp <;> omega)).trans (by simp [go_sem])
  have c1_5 : w1.cell? ⟨w.heap.size + 1, 1, none⟩ = some (.slice Ap11 np11 cp11) := (hb1.cell (by simp <;> omega)).trans (by simp [go_sem])
  have c1_6 : w1.cell? ⟨w.heap.size + 1, 2, none⟩ = some (.int .i64 v1_next_) := (hb1.cell (by simp <;> omega)).trans (by simp [go_sem])
  have c1_7 : w1.cell? ⟨w.heap.size + 1, 3, none⟩ = some (.bool v1_same_) := (hb1.cell (by simp <;> omega)).trans (by simp [go_sem])
  have l1_0 : w.heap.size < w1.heap.size := World.block_lt_of_cell? _ _ c1_0
  have l1_1 : w.heap.size + 1 < w1.heap.size := World.block_lt_of_cell? _ _ c1_4
  have X1 : Below w.heap.size w w1 := S1
  clear hb1
  clear S1
  by_cases q0_ : s0 < 0
  · go_wp2_with fail
    go_ret
    exact ⟨rfl, X1⟩
  have dq0 : decide (s0 < 0) = false := by simpa using q0_
  have Z0 : sizeMeta (v0_heads_, v0_snaps_, v0_next_, v0_same_) ≤ 1048576 := by have := ZZ0.out (by omega); omega
  clear ZZ0
  have HZ0 := Lib.hid Z0; clear Z0
  go_wp2_with fail
  refine (szMeta_any _ _ _ 0 w.heap.size (s0) (MetaR.below X1 (Nat.le_refl _) _ _ PA1.out) (by omega) (by omega)).mono ?_
  rintro e w2 ⟨s1, rfl, p1_, o1_, z1, hb2⟩
  have ZZ1 := Lib.hid z1; clear z1
  have S2 : Below w1.heap.size w1 w2 := hb2
  have c2_0 : w2.cell? ⟨w.heap.size, 0, none⟩ = some (.slice Ap00 np00 cp00) := (S2.cell l1_0).trans c1_0
  have c2_1 : w2.cell? ⟨w.heap.size, 1, none⟩ = some (.slice Ap01 np01 cp01) := (S2.cell l1_0).trans c1_1
  have c2_2 : w2.cell? ⟨w.heap.size, 2, none⟩ = some (.int .i64 v0_next_) := (S2.cell l1_0).trans c1_2
  have c2_3 : w2.cell? ⟨w.heap.size, 3, none⟩ = some (.bool v0_same_) := (S2.cell l1_0).trans c1_3
  have c2_4 : w2.cell? ⟨w.heap.size + 1, 0, none⟩ = some (.slice Ap10 np10 cp10) := (S2.cell l1_1).trans c1_4
  have c2_5 : w2.cell? ⟨w.heap.size + 1, 1, none⟩ = some (.slice Ap11 np11 cp11) := (S2.cell l1_1).trans c1_5
  have c2_6 : w2.cell? ⟨w.heap.size + 1, 2, none⟩ = some (.int .i64 v1_next_) := (S2.cell l1_1).trans c1_6
  have c2_7 : w2.cell? ⟨w.heap.size + 1, 3, none⟩ = some (.bool v1_same_) := (S2.cell l1_1).trans c1_7
  have l2_0 : w.heap.size < w2.heap.size := World.block_lt_of_cell? _ _ c2_0
  have l2_1 : w.heap.size + 1 < w2.heap.size := World.block_lt_of_cell? _ _ c2_4
  have X2 : Below w.heap.size w w2 := X1.trans (S2.mono X1.size)
  clear c1_0 c1_1 c1_2 c1_3 c1_4 c1_5 c1_6 c1_7 l1_0 l1_1 X1 hb2
  clear S2
  by_cases q1_ : s1 < 0
  · go_wp2_with fail
    go_ret
    exact ⟨rfl, X2⟩
  have dq1 : decide (s1 < 0) = false := by simpa using q1_
  have Z1 : sizeMeta (v1_heads_, v1_snaps_, v1_next_, v1_same_) ≤ 1048576 := by have := ZZ1.out (by omega); omega
  clear ZZ1
  have HZ1 := Lib.hid Z1; clear Z1
  go_wp2_with fail
  apply wp_region_rg (by kernel_rfl) (false :: false :: false :: false :: false :: false :: true :: false :: false :: false :: false :: false :: false :: false :: false :: false :: false :: false :: false :: false :: true :: true :: true :: true :: true :: false :: false :: false :: false :: false :: false :: false :: false :: false :: false :: false :: false :: false :: false :: false :: false :: false :: false :: false :: false :: []) [some 20, some 21, some 22, some 23, some 24, some 6] [[], [0], [], [2], [1, 3], [4]] [StP.is _, (MetaR.stp (v0_heads_, v0_snaps_, v0_next_, v0_same_)), StP.is _, (MetaR.stp (v1_heads_, v1_snaps_, v1_next_, v1_same_)), StP.is _, StP.is _] (by kernel_rfl)
  case hobs =>
    refine ⟨fun y w' hS hF K hK => ?_, ?_⟩
    · skip -- 0: load
      simp only [fillL, cond_true, cond_false, List.getD_cons_zero, List.getD_cons_succ, StP.is, Act.put, List.setIfInBounds_toArray, List.set_cons_zero, List.set_cons_succ, Nat.reduceAdd] at hK ⊢
      refine rg_yes (by kernel_rfl) ?_
      have qx0_ := (Below.cell hS l2_0).trans c2_0
      have qx1_ := (Below.cell hS l2_0).trans c2_1
      have qx2_ := (Below.cell hS l2_0).trans c2_2
      have qx3_ := (Below.cell hS l2_0).trans c2_3
      have qx4_ := (Below.cell hS l2_1).trans c2_4
      have qx5_ := (Below.cell hS l2_1).trans c2_5
      have qx6_ := (Below.cell hS l2_1).trans c2_6
      have qx7_ := (Below.cell hS l2_1).trans c2_7
      clear hF
      go_simp
      exact hK _ _ (Ext.refl _) rfl
    refine ⟨fun y w' hS hF K hK => ?_, ?_⟩
    · skip -- 1: call
      have e20 : y 20 = _ := hF.1
      simp only [fillL, cond_true, cond_false, List.getD_cons_zero, List.getD_cons_succ, StP.is, Act.put, List.setIfInBounds_toArray, List.set_cons_zero, List.set_cons_succ, Nat.reduceAdd, e20] at hK ⊢
      refine rg_yes (by kernel_rfl) ?_
      clear e20
      clear hF
      go_simp
      go_at_call 39
      refine (toMeta_any _ _ _ 0 w.heap.size (MetaR.below (X2.trans (Below.mono hS X2.size)) (Nat.le_refl _) _ _ PA0.out) HZ0.out).mono ?_
      rintro e w'' ⟨cs, rfl, hr, hb⟩
      exact hK _ _ hb ⟨cs, _, _, rfl, Nat.le_refl _, hr⟩
    refine ⟨fun y w' hS hF K hK => ?_, ?_⟩
    · skip -- 2: load
      simp only [fillL, cond_true, cond_false, List.getD_cons_zero, List.getD_cons_succ, StP.is, Act.put, List.setIfInBounds_toArray, List.set_cons_zero, List.set_cons_succ, Nat.reduceAdd] at hK ⊢
      refine rg_yes (by kernel_rfl) ?_
      have qx0_ := (Below.cell hS l2_0).trans c2_0
      have qx1_ := (Below.cell hS l2_0).trans c2_1
      have qx2_ := (Below.cell hS l2_0).trans c2_2
      have qx3_ := (Below.cell hS l2_0).trans c2_3
      have qx4_ := (Below.cell hS l2_1).trans c2_4
      have qx5_ := (Below.cell hS l2_1).trans c2_5
      have qx6_ := (Below.cell hS l2_1).trans c2_6
      have qx7_ := (Below.cell hS l2_1).trans c2_7
      clear hF
      go_simp
      exact hK _ _ (Ext.refl _) rfl
    refine ⟨fun y w' hS hF K hK => ?_, ?_⟩
    · skip -- 3: call
      have e22 : y 22 = _ := hF.1
      simp only [fillL, cond_true, cond_false, List.getD_cons_zero, List.getD_cons_succ, StP.is, Act.put, List.setIfInBounds_toArray, List.set_cons_zero, List.set_cons_succ, Nat.reduceAdd, e22] at hK ⊢
      refine rg_yes (by kernel_rfl) ?_
      clear e22
      clear hF
      go_simp
      go_at_call 39
      refine (toMeta_any _ _ _ 0 w.heap.size (MetaR.below (X2.trans (Below.mono hS X2.size)) (Nat.le_refl _) _ _ PA1.out) HZ1.out).mono ?_
      rintro e w'' ⟨cs, rfl, hr, hb⟩
      exact hK _ _ hb ⟨cs, _, _, rfl, Nat.le_refl _, hr⟩
    refine ⟨fun y w' hS hF K hK => ?_, ?_⟩
    · skip -- 4: call
      obtain ⟨cs21_, lo21_, hi21_, e21, hh21_, R21_⟩ := hF.1
      obtain ⟨cs23_, lo23_, hi23_, e23, hh23_, R23_⟩ := hF.2.1
      simp only [fillL, cond_true, cond_false, List.getD_cons_zero, List.getD_cons_succ, StP.is, Act.put, List.setIfInBounds_toArray, List.set_cons_zero, List.set_cons_succ, Nat.reduceAdd, e21, e23] at hK ⊢
      refine rg_yes (by kernel_rfl) ?_
      clear e21 e23
      clear hF
      go_simp
      go_at_call 38
      refine (spMetaSame_any _ _ (v0_heads_, v0_snaps_, v0_next_, v0_same_) (v1_heads_, v1_snaps_, v1_next_, v1_same_) _ _ _ _ _ R21_ R23_).mono ?_
      rw [HRES.out]
      rintro e w'' ⟨rfl, hb⟩
      exact hK _ _ hb rfl
    refine ⟨fun y w' hS hF K hK => ?_, ?_⟩
    · skip -- 5: assign
      have e24 : y 24 = _ := hF.1
      simp only [fillL, cond_true, cond_false, List.getD_cons_zero, List.getD_cons_succ, StP.is, Act.put, List.setIfInBounds_toArray, List.set_cons_zero, List.set_cons_succ, Nat.reduceAdd, e24] at hK ⊢
      refine rg_yes (by kernel_rfl) ?_
      clear e24
      clear hF
      go_simp
      exact hK _ _ (Ext.refl _) rfl
    trivial
  case hend =>
    intro y w3 hX hF
    have e6 : y 6 = _ := hF.2.2.2.2.2.1
    clear hF
    simp only [fillL, cond_true, cond_false, Nat.reduceAdd, e6]
    clear e6
    have S3 : Below w2.heap.size w2 w3 := hX
    have c3_0 : w3.cell? ⟨w.heap.size, 0, none⟩ = some (.slice Ap00 np00 cp00) := (S3.cell l2_0).trans c2_0
    have c3_1 : w3.cell? ⟨w.heap.size, 1, none⟩ = some (.slice Ap01 np01 cp01) := (S3.cell l2_0).trans c2_1
    have c3_2 : w3.cell? ⟨w.heap.size, 2, none⟩ = some (.int .i64 v0_next_) := (S3.cell l2_0).trans c2_2
    have c3_3 : w3.cell? ⟨w.heap.size, 3, none⟩ = some (.bool v0_same_) := (S3.cell l2_0).trans c2_3
    have c3_4 : w3.cell? ⟨w.heap.size + 1, 0, none⟩ = some (.slice Ap10 np10 cp10) := (S3.cell l2_1).trans c2_4
    have c3_5 : w3.cell? ⟨w.heap.size + 1, 1, none⟩ = some (.slice Ap11 np11 cp11) := (S3.cell l2_1).trans c2_5
    have c3_6 : w3.cell? ⟨w.heap.size + 1, 2, none⟩ = some (.int .i64 v1_next_) := (S3.cell l2_1).trans c2_6
    have c3_7 : w3.cell? ⟨w.heap.size + 1, 3, none⟩ = some (.bool v1_same_) := (S3.cell l2_1).trans c2_7
    have l3_0 : w.heap.size < w3.heap.size := World.block_lt_of_cell? _ _ c3_0
    have l3_1 : w.heap.size + 1 < w3.heap.size := World.block_lt_of_cell? _ _ c3_4
    have X3 : Below w.heap.size w w3 := X2.trans (S3.mono X2.size)
    clear c2_0 c2_1 c2_2 c2_3 c2_4 c2_5 c2_6 c2_7 l2_0 l2_1 X2 hX
    clear S3
    go_wp2_with fail
    refine (toMeta_any _ _ _ 0 w.heap.size (MetaR.below X3 (Nat.le_refl _) _ _ PA0.out) HZ0.out).mono ?_
    rintro e w4 ⟨cs, rfl, hr, hb⟩
    obtain ⟨lo0, hlo0⟩ : ∃ x, x = w3.heap.size := ⟨_, rfl⟩
    have hr : MetaR w4 lo0 w4.heap.size cs (v0_heads_, v0_snaps_, v0_next_, v0_same_) := by rw [hlo0]; simpa using hr
    clear hlo0
    have S4 : Below w3.heap.size w3 w4 := hb
    have c4_0 : w4.cell? ⟨w.heap.size, 0, none⟩ = some (.slice Ap00 np00 cp00) := (S4.cell l3_0).trans c3_0
    have c4_1 : w4.cell? ⟨w.heap.size, 1, none⟩ = some (.slice Ap01 np01 cp01) := (S4.cell l3_0).trans c3_1
    have c4_2 : w4.cell? ⟨w.heap.size, 2, none⟩ = some (.int .i64 v0_next_) := (S4.cell l3_0).trans c3_2
    have c4_3 : w4.cell? ⟨w.heap.size, 3, none⟩ = some (.bool v0_same_) := (S4.cell l3_0).trans c3_3
    have c4_4 : w4.cell? ⟨w.heap.size + 1, 0, none⟩ = some (.slice Ap10 np10 cp10) := (S4.cell l3_1).trans c3_4
    have c4_5 : w4.cell? ⟨w.heap.size + 1, 1, none⟩ = some (.slice Ap11 np11 cp11) := (S4.cell l3_1).trans c3_5
    have c4_6 : w4.cell? ⟨w.heap.size + 1, 2, none⟩ = some (.int .i64 v1_next_) := (S4.cell l3_1).trans c3_6
    have c4_7 : w4.cell? ⟨w.heap.size + 1, 3, none⟩ = some (.bool v1_same_) := (S4.cell l3_1).trans c3_7
    have l4_0 : w.heap.size < w4.heap.size := World.block_lt_of_cell? _ _ c4_0
    have l4_1 : w.heap.size + 1 < w4.heap.size := World.block_lt_of_cell? _ _ c4_4
    have X4 : Below w.heap.size w w4 := X3.trans (S4.mono X3.size)
    clear c3_0 c3_1 c3_2 c3_3 c3_4 c3_5 c3_6 c3_7 l3_0 l3_1 X3 hb
    clear S4
    obtain ⟨hi0, hhi0⟩ : ∃ x, x = w4.heap.size := ⟨_, rfl⟩
    rw [← hhi0] at hr
    have hhl0 : hi0 ≤ w4.heap.size := Nat.le_of_eq hhi0; clear hhi0
    have hr2 := hr
    obtain ⟨Ar00, nr00, cr00, Ar01, nr01, cr01, rfl, hr00, hr01⟩ := hr2
    clear hr00 hr01
    have RA0_4 := Lib.hid (And.intro hhl0 hr); clear hr hhl0
    go_wp2_with fail
    refine (toMeta_any _ _ _ 0 w.heap.size (MetaR.below (X4.alloc (by first | exact X4.size | (have := X4.size; simp <;> omega)) _) (Nat.le_refl _) _ _ PA1.out) HZ1.out).mono ?_
    rintro e w5 ⟨cs, rfl, hr, hb⟩
    obtain ⟨lo1, hlo1⟩ : ∃ x, x = w4.heap.size + 1 := ⟨_, rfl⟩
    have hr : MetaR w5 lo1 w5.heap.size cs (v1_heads_, v1_snaps_, v1_next_, v1_same_) := by rw [hlo1]; simpa using hr
    clear hlo1
    have S5 : Below w4.heap.size w4 w5 := bel1.trans (hb.mono (by simp <;> omega))
    have c5_0 : w5.cell? ⟨w.heap.size, 0, none⟩ = some (.slice Ap00 np00 cp00) := (S5.cell l4_0).trans c4_0
    have c5_1 : w5.cell? ⟨w.heap.size, 1, none⟩ = some (.slice Ap01 np01 cp01) := (S5.cell l4_0).trans c4_1
    have c5_2 : w5.cell? ⟨w.heap.size, 2, none⟩ = some (.int .i64 v0_next_) := (S5.cell l4_0).trans c4_2
    have c5_3 : w5.cell? ⟨w.heap.size, 3, none⟩ = some (.bool v0_same_) := (S5.cell l4_0).trans c4_3
    have c5_4 : w5.cell? ⟨w.heap.size + 1, 0, none⟩ = some (.slice Ap10 np10 cp10) := (S5.cell l4_1).trans c4_4
    have c5_5 : w5.cell? ⟨w.heap.size + 1, 1, none⟩ = some (.slice Ap11 np11 cp11) := (S5.cell l4_1).trans c4_5
    have c5_6 : w5.cell? ⟨w.heap.size + 1, 2, none⟩ = some (.int .i64 v1_next_) := (S5.cell l4_1).trans c4_6
    have c5_7 : w5.cell? ⟨w.heap.size + 1, 3, none⟩ = some (.bool v1_same_) := (S5.cell l4_1).trans c4_7
    have c5_8 : w5.cell? ⟨w4.heap.size, 0, none⟩ = some (.slice Ar00 nr00 cr00) := (hb.cell (by simp <;> omega)).trans (by simp [go_sem])
    have c5_9 : w5.cell? ⟨w4.heap.size, 1, none⟩ = some (.slice Ar01 nr01 cr01) := (hb.cell (by simp <;> omega)).trans (by simp [go_sem])
    have c5_10 : w5.cell? ⟨w4.heap.size, 2, none⟩ = some (.int .i64 v0_next_) := (hb.cell (by simp <;> omega)).trans (by simp [go_sem])
    have c5_11 : w5.cell? ⟨w4.heap.size, 3, none⟩ = some (.bool v0_same_) := (hb.cell (by simp <;> omega)).trans (by simp [go_sem])
    have l5_0 : w.heap.size < w5.heap.size := World.block_lt_of_cell? _ _ c5_0
    have l5_1 : w.heap.size + 1 < w5.heap.size := World.block_lt_of_cell? _ _ c5_4
    have l5_2 : w4.heap.size < w5.heap.size := World.block_lt_of_cell? _ _ c5_8
    have X5 : Below w.heap.size w w5 := X4.trans (S5.mono X4.size)
    have RA0_5 : Hid (hi0 ≤ w5.heap.size ∧ MetaR w5 lo0 hi0 [.slice Ar00 nr00 cr00, .slice Ar01 nr01 cr01, .int .i64 v0_next_, .bool v0_same_] (v0_heads_, v0_snaps_, v0_next_, v0_same_)) := Lib.hid ⟨Nat.le_trans RA0_4.out.1 S5.size, MetaR.below S5 RA0_4.out.1 _ _ RA0_4.out.2⟩
    clear c4_0 c4_1 c4_2 c4_3 c4_4 c4_5 c4_6 c4_7 l4_0 l4_1 RA0_4 X4 hb
    clear S5
    obtain ⟨hi1, hhi1⟩ : ∃ x, x = w5.heap.size := ⟨_, rfl⟩
    rw [← hhi1] at hr
    have hhl1 : hi1 ≤ w5.heap.size := Nat.le_of_eq hhi1; clear hhi1
    have hr2 := hr
    obtain ⟨Ar10, nr10, cr10, Ar11, nr11, cr11, rfl, hr10, hr11⟩ := hr2
    clear hr10 hr11
    have RA1_5 := Lib.hid (And.intro hhl1 hr); clear hr hhl1
    go_wp2_with fail
    refine (metaSame_any _ _ (v0_heads_, v0_snaps_, v0_next_, v0_same_) (v1_heads_, v1_snaps_, v1_next_, v1_same_) _ _ _ _ _ (MetaR.below bel1 RA0_5.out.1 _ _ RA0_5.out.2) (MetaR.below bel1 RA1_5.out.1 _ _ RA1_5.out.2)).mono ?_
    rw [HRES.out]
    rintro e w6 ⟨rfl, hb⟩
    have S6 : Below w5.heap.size w5 w6 := bel1.trans (hb.mono (by simp <;> omega))
    have c6_0 : w6.cell? ⟨w.heap.size, 0, none⟩ = some (.slice Ap00 np00 cp00) := (S6.cell l5_0).trans c5_0
    have c6_1 : w6.cell? ⟨w.heap.size, 1, none⟩ = some (.slice Ap01 np01 cp01) := (S6.cell l5_0).trans c5_1
    have c6_2 : w6.cell? ⟨w.heap.size, 2, none⟩ = some (.int .i64 v0_next_) := (S6.cell l5_0).trans c5_2
    have c6_3 : w6.cell? ⟨w.heap.size, 3, none⟩ = some (.bool v0_same_) := (S6.cell l5_0).trans c5_3
    have c6_4 : w6.cell? ⟨w.heap.size + 1, 0, none⟩ = some (.slice Ap10 np10 cp10) := (S6.cell l5_1).trans c5_4
    have c6_5 : w6.cell? ⟨w.heap.size + 1, 1, none⟩ = some (.slice Ap11 np11 cp11) := (S6.cell l5_1).trans c5_5
    have c6_6 : w6.cell? ⟨w.heap.size + 1, 2, none⟩ = some (.int .i64 v1_next_) := (S6.cell l5_1).trans c5_6
    have c6_7 : w6.cell? ⟨w.heap.size + 1, 3, none⟩ = some (.bool v1_same_) := (S6.cell l5_1).trans c5_7
    have c6_8 : w6.cell? ⟨w4.heap.size, 0, none⟩ = some (.slice Ar00 nr00 cr00) := (S6.cell l5_2).trans c5_8
    have c6_9 : w6.cell? ⟨w4.heap.size, 1, none⟩ = some (.slice Ar01 nr01 cr01) := (S6.cell l5_2).trans c5_9
    have c6_10 : w6.cell? ⟨w4.heap.size, 2, none⟩ = some (.int .i64 v0_next_) := (S6.cell l5_2).trans c5_10
    have c6_11 : w6.cell? ⟨w4.heap.size, 3, none⟩ = some (.bool v0_same_) := (S6.cell l5_2).trans c5_11
    have c6_12 : w6.cell? ⟨w5.heap.size, 0, none⟩ = some (.slice Ar10 nr10 cr10) := (hb.cell (by simp <;> omega)).trans (by simp [go_sem])
    have c6_13 : w6.cell? ⟨w5.heap.size, 1, none⟩ = some (.slice Ar11 nr11 cr11) := (hb.cell (by simp <;> omega)).trans (by simp [go_sem])
    have c6_14 : w6.cell? ⟨w5.heap.size, 2, none⟩ = some (.int .i64 v1_next_) := (hb.cell (by simp <;> omega)).trans (by simp [go_sem])
    have c6_15 : w6.cell? ⟨w5.heap.size, 3, none⟩ = some (.bool v1_same_) := (hb.cell (by simp <;> omega)).trans (by simp [go_sem])
    have l6_0 : w.heap.size < w6.heap.size := World.block_lt_of_cell? _ _ c6_0
    have l6_1 : w.heap.size + 1 < w6.heap.size := World.block_lt_of_cell? _ _ c6_4
    have l6_2 : w4.heap.size < w6.heap.size := World.block_lt_of_cell? _ _ c6_8
    have l6_3 : w5.heap.size < w6.heap.size := World.block_lt_of_cell? _ _ c6_12
    have X6 : Below w.heap.size w w6 := X5.trans (S6.mono X5.size)
    have RA0_6 : Hid (hi0 ≤ w6.heap.size ∧ MetaR w6 lo0 hi0 [.slice Ar00 nr00 cr00, .slice Ar01 nr01 cr01, .int .i64 v0_next_, .bool v0_same_] (v0_heads_, v0_snaps_, v0_next_, v0_same_)) := Lib.hid ⟨Nat.le_trans RA0_5.out.1 S6.size, MetaR.below S6 RA0_5.out.1 _ _ RA0_5.out.2⟩
    have RA1_6 : Hid (hi1 ≤ w6.heap.size ∧ MetaR w6 lo1 hi1 [.slice Ar10 nr10 cr10, .slice Ar11 nr11 cr11, .int .i64 v1_next_, .bool v1_same_] (v1_heads_, v1_snaps_, v1_next_, v1_same_)) := Lib.hid ⟨Nat.le_trans RA1_5.out.1 S6.size, MetaR.below S6 RA1_5.out.1 _ _ RA1_5.out.2⟩
    clear c5_0 c5_1 c5_2 c5_3 c5_4 c5_5 c5_6 c5_7 c5_8 c5_9 c5_10 c5_11 l5_0 l5_1 l5_2 RA0_5 RA1_5 X5 hb
    clear S6
    have hrr : (res != res) = false := by simp
    go_wp2_with fail
    apply wp_region_rg (by kernel_rfl) (false :: false :: false :: false :: false :: false :: false :: false :: false :: false :: false :: false :: false :: false :: false :: false :: false :: false :: false :: false :: false :: false :: false :: false :: false :: false :: false :: false :: false :: false :: false :: false :: false :: false :: false :: true :: true :: true :: true :: true :: false :: false :: false :: false :: false :: []) [some 35, some 36, some 37, some 38, some 39] [[], [], [1], [0, 2], [3]] [StP.is _, StP.is _, (MetaR.stp (v0_heads_, v0_snaps_, v0_next_, v0_same_)), StP.is _, StP.is _] (by kernel_rfl)
    case hobs =>
      refine ⟨fun y w' hS hF K hK => ?_, ?_⟩
      · skip -- 0: load
        simp only [fillL, cond_true, cond_false, List.getD_cons_zero, List.getD_cons_succ, StP.is, Act.put, List.setIfInBounds_toArray, List.set_cons_zero, List.set_cons_succ, Nat.reduceAdd] at hK ⊢
        refine rg_yes (by kernel_rfl) ?_
        have qx0_ := (Below.cell hS l6_0).trans c6_0
        have qx1_ := (Below.cell hS l6_0).trans c6_1
        have qx2_ := (Below.cell hS l6_0).trans c6_2
        have qx3_ := (Below.cell hS l6_0).trans c6_3
        have qx4_ := (Below.cell hS l6_1).trans c6_4
        have qx5_ := (Below.cell hS l6_1).trans c6_5
        have qx6_ := (Below.cell hS l6_1).trans c6_6
        have qx7_ := (Below.cell hS l6_1).trans c6_7
        have qx8_ := (Below.cell hS l6_2).trans c6_8
        have qx9_ := (Below.cell hS l6_2).trans c6_9
        have qx10_ := (Below.cell hS l6_2).trans c6_10
        have qx11_ := (Below.cell hS l6_2).trans c6_11
        have qx12_ := (Below.cell hS l6_3).trans c6_12
        have qx13_ := (Below.cell hS l6_3).trans c6_13
        have qx14_ := (Below.cell hS l6_3).trans c6_14
        have qx15_ := (Below.cell hS l6_3).trans c6_15
        clear hF
        go_simp
        exact hK _ _ (Ext.refl _) rfl
      refine ⟨fun y w' hS hF K hK => ?_, ?_⟩
      · skip -- 1: load
        simp only [fillL, cond_true, cond_false, List.getD_cons_zero, List.getD_cons_succ, StP.is, Act.put, List.setIfInBounds_toArray, List.set_cons_zero, List.set_cons_succ, Nat.reduceAdd] at hK ⊢
        refine rg_yes (by kernel_rfl) ?_
        have qx0_ := (Below.cell hS l6_0).trans c6_0
        have qx1_ := (Below.cell hS l6_0).trans c6_1
        have qx2_ := (Below.cell hS l6_0).trans c6_2
        have qx3_ := (Below.cell hS l6_0).trans c6_3
        have qx4_ := (Below.cell hS l6_1).trans c6_4
        have qx5_ := (Below.cell hS l6_1).trans c6_5
        have qx6_ := (Below.cell hS l6_1).trans c6_6
        have qx7_ := (Below.cell hS l6_1).trans c6_7
        have qx8_ := (Below.cell hS l6_2).trans c6_8
        have qx9_ := (Below.cell hS l6_2).trans c6_9
        have qx10_ := (Below.cell hS l6_2).trans c6_10
        have qx11_ := (Below.cell hS l6_2).trans c6_11
        have qx12_ := (Below.cell hS l6_3).trans c6_12
        have qx13_ := (Below.cell hS l6_3).trans c6_13
        have qx14_ := (Below.cell hS l6_3).trans c6_14
        have qx15_ := (Below.cell hS l6_3).trans c6_15
        clear hF
        go_simp
        exact hK _ _ (Ext.refl _) rfl
      refine ⟨fun y w' hS hF K hK => ?_, ?_⟩
      · skip -- 2: call
        have e36 : y 36 = _ := hF.1
        simp only [fillL, cond_true, cond_false, List.getD_cons_zero, List.getD_cons_succ, StP.is, Act.put, List.setIfInBounds_toArray, List.set_cons_zero, List.set_cons_succ, Nat.reduceAdd, e36] at hK ⊢
        refine rg_yes (by kernel_rfl) ?_
        clear e36
        clear hF
        go_simp
        go_at_call 39
        refine (toMeta_any _ _ _ 0 w.heap.size (MetaR.below (X6.trans (Below.mono hS X6.size)) (Nat.le_refl _) _ _ PA0.out) HZ0.out).mono ?_
        rintro e w'' ⟨cs, rfl, hr, hb⟩
        exact hK _ _ hb ⟨cs, _, _, rfl, Nat.le_refl _, hr⟩
      refine ⟨fun y w' hS hF K hK => ?_, ?_⟩
      · skip -- 3: call
        have e35 : y 35 = _ := hF.1
        obtain ⟨cs37_, lo37_, hi37_, e37, hh37_, R37_⟩ := hF.2.1
        simp only [fillL, cond_true, cond_false, List.getD_cons_zero, List.getD_cons_succ, StP.is, Act.put, List.setIfInBounds_toArray, List.set_cons_zero, List.set_cons_succ, Nat.reduceAdd, e35, e37] at hK ⊢
        refine rg_yes (by kernel_rfl) ?_
        clear e35 e37
        clear hF
        go_simp
        go_at_call 41
        refine (eqMeta_yes _ _ (v0_heads_, v0_snaps_, v0_next_, v0_same_) _ _ _ _ _ (MetaR.below hS RA0_6.out.1 _ _ RA0_6.out.2) R37_).mono ?_
        rintro e w'' ⟨rfl, hb⟩
        exact hK _ _ hb rfl
      refine ⟨fun y w' hS hF K hK => ?_, ?_⟩
      · skip -- 4: unOp
        have e38 : y 38 = _ := hF.1
        simp only [fillL, cond_true, cond_false, List.getD_cons_zero, List.getD_cons_succ, StP.is, Act.put, List.setIfInBounds_toArray, List.set_cons_zero, List.set_cons_succ, Nat.reduceAdd, e38] at hK ⊢
        refine rg_yes (by kernel_rfl) ?_
        clear e38
        clear hF
        go_simp
        exact hK _ _ (Ext.refl _) rfl
      trivial
    case hend =>
      intro y w7 hX hF
      have e39 : y 39 = _ := hF.2.2.2.2.1
      clear hF
      simp only [fillL, cond_true, cond_false, Nat.reduceAdd, e39]
      clear e39
      have S7 : Below w6.heap.size w6 w7 := hX
      have c7_0 : w7.cell? ⟨w.heap.size, 0, none⟩ = some (.slice Ap00 np00 cp00) := (S7.cell l6_0).trans c6_0
      have c7_1 : w7.cell? ⟨w.heap.size, 1, none⟩ = some (.slice Ap01 np01 cp01) := (S7.cell l6_0).trans c6_1
      have c7_2 : w7.cell? ⟨w.heap.size, 2, none⟩ = some (.int .i64 v0_next_) := (S7.cell l6_0).trans c6_2
      have c7_3 : w7.cell? ⟨w.heap.size, 3, none⟩ = some (.bool v0_same_) := (S7.cell l6_0).trans c6_3
      have c7_4 : w7.cell? ⟨w.heap.size + 1, 0, none⟩ = some (.slice Ap10 np10 cp10) := (S7.cell l6_1).trans c6_4
      have c7_5 : w7.cell? ⟨w.heap.size + 1, 1, none⟩ = some (.slice Ap11 np11 cp11) := (S7.cell l6_1).trans c6_5
      have c7_6 : w7.cell? ⟨w.heap.size + 1, 2, none⟩ = some (.int .i64 v1_next_) := (S7.cell l6_1).trans c6_6
      have c7_7 : w7.cell? ⟨w.heap.size + 1, 3, none⟩ = some (.bool v1_same_) := (S7.cell l6_1).trans c6_7
      have c7_8 : w7.cell? ⟨w4.heap.size, 0, none⟩ = some (.slice Ar00 nr00 cr00) := (S7.cell l6_2).trans c6_8
      have c7_9 : w7.cell? ⟨w4.heap.size, 1, none⟩ = some (.slice Ar01 nr01 cr01) := (S7.cell l6_2).trans c6_9
      have c7_10 : w7.cell? ⟨w4.heap.size, 2, none⟩ = some (.int .i64 v0_next_) := (S7.cell l6_2).trans c6_10
      have c7_11 : w7.cell? ⟨w4.heap.size, 3, none⟩ = some (.bool v0_same_) := (S7.cell l6_2).trans c6_11
      have c7_12 : w7.cell? ⟨w5.heap.size, 0, none⟩ = some (.slice Ar10 nr10 cr10) := (S7.cell l6_3).trans c6_12
      have c7_13 : w7.cell? ⟨w5.heap.size, 1, none⟩ = some (.slice Ar11 nr11 cr11) := (S7.cell l6_3).trans c6_13
      have c7_14 : w7.cell? ⟨w5.heap.size, 2, none⟩ = some (.int .i64 v1_next_) := (S7.cell l6_3).trans c6_14
      have c7_15 : w7.cell? ⟨w5.heap.size, 3, none⟩ = some (.bool v1_same_) := (S7.cell l6_3).trans c6_15
      have l7_0 : w.heap.size < w7.heap.size := World.block_lt_of_cell? _ _ c7_0
      have l7_1 : w.heap.size + 1 < w7.heap.size := World.block_lt_of_cell? _ _ c7_4
      have l7_2 : w4.heap.size < w7.heap.size := World.block_lt_of_cell? _ _ c7_8
      have l7_3 : w5.heap.size < w7.heap.size := World.block_lt_of_cell? _ _ c7_12
      have X7 : Below w.heap.size w w7 := X6.trans (S7.mono X6.size)
      have RA0_7 : Hid (hi0 ≤ w7.heap.size ∧ MetaR w7 lo0 hi0 [.slice Ar00 nr00 cr00, .slice Ar01 nr01 cr01, .int .i64 v0_next_, .bool v0_same_] (v0_heads_, v0_snaps_, v0_next_, v0_same_)) := Lib.hid ⟨Nat.le_trans RA0_6.out.1 S7.size, MetaR.below S7 RA0_6.out.1 _ _ RA0_6.out.2⟩
      have RA1_7 : Hid (hi1 ≤ w7.heap.size ∧ MetaR w7 lo1 hi1 [.slice Ar10 nr10 cr10, .slice Ar11 nr11 cr11, .int .i64 v1_next_, .bool v1_same_] (v1_heads_, v1_snaps_, v1_next_, v1_same_)) := Lib.hid ⟨Nat.le_trans RA1_6.out.1 S7.size, MetaR.below S7 RA1_6.out.1 _ _ RA1_6.out.2⟩
      clear c6_0 c6_1 c6_2 c6_3 c6_4 c6_5 c6_6 c6_7 c6_8 c6_9 c6_10 c6_11 c6_12 c6_13 c6_14 c6_15 l6_0 l6_1 l6_2 l6_3 RA0_6 RA1_6 X6 hX
      clear S7
      go_wp2_with fail
      apply wp_region_rg (by kernel_rfl) (false :: false :: false :: false :: false :: false :: false :: false :: false :: false :: false :: false :: false :: false :: false :: false :: false :: false :: false :: false :: false :: false :: false :: false :: false :: false :: false :: false :: false :: false :: false :: false :: false :: false :: false :: false :: false :: false :: false :: false :: true :: true :: true :: true :: true :: []) [some 40, some 41, some 42, some 43, some 44] [[], [], [1], [0, 2], [3]] [StP.is _, StP.is _, (MetaR.stp (v1_heads_, v1_snaps_, v1_next_, v1_same_)), StP.is _, StP.is _] (by kernel_rfl)
      case hobs =>
        refine ⟨fun y w' hS hF K hK => ?_, ?_⟩
        · skip -- 0: load
          simp only [fillL, cond_true, cond_false, List.getD_cons_zero, List.getD_cons_succ, StP.is, Act.put, List.setIfInBounds_toArray, List.set_cons_zero, List.set_cons_succ, Nat.reduceAdd] at hK ⊢
          refine rg_yes (by kernel_rfl) ?_
          have qx0_ := (Below.cell hS l7_0).trans c7_0
          have qx1_ := (Below.cell hS l7_0).trans c7_1
          have qx2_ := (Below.cell hS l7_0).trans c7_2
          have qx3_ := (Below.cell hS l7_0).trans c7_3
          have qx4_ := (Below.cell hS l7_1).trans c7_4
          have qx5_ := (Below.cell hS l7_1).trans c7_5
          have qx6_ := (Below.cell hS l7_1).trans c7_6
          have qx7_ := (Below.cell hS l7_1).trans c7_7
          have qx8_ := (Below.cell hS l7_2).trans c7_8
          have qx9_ := (Below.cell hS l7_2).trans c7_9
          have qx10_ := (Below.cell hS l7_2).trans c7_10
          have qx11_ := (Below.cell hS l7_2).trans c7_11
          have qx12_ := (Below.cell hS l7_3).trans c7_12
          have qx13_ := (Below.cell hS l7_3).trans c7_13
          have qx14_ := (Below.cell hS l7_3).trans c7_14
          have qx15_ := (Below.cell hS l7_3).trans c7_15
          clear hF
          go_simp
          exact hK _ _ (Ext.refl _) rfl
        refine ⟨fun y w' hS hF K hK => ?_, ?_⟩
        · skip -- 1: load
          simp only [fillL, cond_true, cond_false, List.getD_cons_zero, List.getD_cons_succ, StP.is, Act.put, List.setIfInBounds_toArray, List.set_cons_zero, List.set_cons_succ, Nat.reduceAdd] at hK ⊢
          refine rg_yes (by kernel_rfl) ?_
          have qx0_ := (Below.cell hS l7_0).trans c7_0
          have qx1_ := (Below.cell hS l7_0).trans c7_1
          have qx2_ := (Below.cell hS l7_0).trans c7_2
          have qx3_ := (Below.cell hS l7_0).trans c7_3
          have qx4_ := (Below.cell hS l7_1).trans c7_4
          have qx5_ := (Below.cell hS l7_1).trans c7_5
          have qx6_ := (Below.cell hS l7_1).trans c7_6
          have qx7_ := (Below.cell hS l7_1).trans c7_7
          have qx8_ := (Below.cell hS l7_2).trans c7_8
          have qx9_ := (Below.cell hS l7_2).trans c7_9
          have qx10_ := (Below.cell hS l7_2).trans c7_10
          have qx11_ := (Below.cell hS l7_2).trans c7_11
          have qx12_ := (Below.cell hS l7_3).trans c7_12
          have qx13_ := (Below.cell hS l7_3).trans c7_13
          have qx14_ := (Below.cell hS l7_3).trans c7_14
          have qx15_ := (Below.cell hS l7_3).trans c7_15
          clear hF
          go_simp
          exact hK _ _ (Ext.refl _) rfl
        refine ⟨fun y w' hS hF K hK => ?_, ?_⟩
        · skip -- 2: call
          have e41 : y 41 = _ := hF.1
          simp only [fillL, cond_true, cond_false, List.getD_cons_zero, List.getD_cons_succ, StP.is, Act.put, List.setIfInBounds_toArray, List.set_cons_zero, List.set_cons_succ, Nat.reduceAdd, e41] at hK ⊢
          refine rg_yes (by kernel_rfl) ?_
          clear e41
          clear hF
          go_simp
          go_at_call 39
          refine (toMeta_any _ _ _ 0 w.heap.size (MetaR.below (X7.trans (Below.mono hS X7.size)) (Nat.le_refl _) _ _ PA1.out) HZ1.out).mono ?_
          rintro e w'' ⟨cs, rfl, hr, hb⟩
          exact hK _ _ hb ⟨cs, _, _, rfl, Nat.le_refl _, hr⟩
        refine ⟨fun y w' hS hF K hK => ?_, ?_⟩
        · skip -- 3: call
          have e40 : y 40 = _ := hF.1
          obtain ⟨cs42_, lo42_, hi42_, e42, hh42_, R42_⟩ := hF.2.1
          simp only [fillL, cond_true, cond_false, List.getD_cons_zero, List.getD_cons_succ, StP.is, Act.put, List.setIfInBounds_toArray, List.set_cons_zero, List.set_cons_succ, Nat.reduceAdd, e40, e42] at hK ⊢
          refine rg_yes (by kernel_rfl) ?_
          clear e40 e42
          clear hF
          go_simp
          go_at_call 41
          refine (eqMeta_yes _ _ (v1_heads_, v1_snaps_, v1_next_, v1_same_) _ _ _ _ _ (MetaR.below hS RA1_7.out.1 _ _ RA1_7.out.2) R42_).mono ?_
          rintro e w'' ⟨rfl, hb⟩
          exact hK _ _ hb rfl
        refine ⟨fun y w' hS hF K hK => ?_, ?_⟩
        · skip -- 4: unOp
          have e43 : y 43 = _ := hF.1
          simp only [fillL, cond_true, cond_false, List.getD_cons_zero, List.getD_cons_succ, StP.is, Act.put, List.setIfInBounds_toArray, List.set_cons_zero, List.set_cons_succ, Nat.reduceAdd, e43] at hK ⊢
          refine rg_yes (by kernel_rfl) ?_
          clear e43
          clear hF
          go_simp
          exact hK _ _ (Ext.refl _) rfl
        trivial
      case hend =>
        intro y w8 hX hF
        have e44 : y 44 = _ := hF.2.2.2.2.1
        clear hF
        simp only [fillL, cond_true, cond_false, Nat.reduceAdd, e44]
        clear e44
        have S8 : Below w7.heap.size w7 w8 := hX
        have c8_0 : w8.cell? ⟨w.heap.size, 0, none⟩ = some (.slice Ap00 np00 cp00) := (S8.cell l7_0).trans c7_0
        have c8_1 : w8.cell? ⟨w.heap.size, 1, none⟩ = some (.slice Ap01 np01 cp01) := (S8.cell l7_0).trans c7_1
        have c8_2 : w8.cell? ⟨w.heap.size, 2, none⟩ = some (.int .i64 v0_next_) := (S8.cell l7_0).trans c7_2
        have c8_3 : w8.cell? ⟨w.heap.size, 3, none⟩ = some (.bool v0_same_) := (S8.cell l7_0).trans c7_3
        have c8_4 : w8.cell? ⟨w.heap.size + 1, 0, none⟩ = some (.slice Ap10 np10 cp10) := (S8.cell l7_1).trans c7_4
        have c8_5 : w8.cell? ⟨w.heap.size + 1, 1, none⟩ = some (.slice Ap11 np11 cp11) := (S8.cell l7_1).trans c7_5
        have c8_6 : w8.cell? ⟨w.heap.size + 1, 2, none⟩ = some (.int .i64 v1_next_) := (S8.cell l7_1).trans c7_6
        have c8_7 : w8.cell? ⟨w.heap.size + 1, 3, none⟩ = some (.bool v1_same_) := (S8.cell l7_1).trans c7_7
        have c8_8 : w8.cell? ⟨w4.heap.size, 0, none⟩ = some (.slice Ar00 nr00 cr00) := (S8.cell l7_2).trans c7_8
        have c8_9 : w8.cell? ⟨w4.heap.size, 1, none⟩ = some (.slice Ar01 nr01 cr01) := (S8.cell l7_2).trans c7_9
        have c8_10 : w8.cell? ⟨w4.heap.size, 2, none⟩ = some (.int .i64 v0_next_) := (S8.cell l7_2).trans c7_10
        have c8_11 : w8.cell? ⟨w4.heap.size, 3, none⟩ = some (.bool v0_same_) := (S8.cell l7_2).trans c7_11
        have c8_12 : w8.cell? ⟨w5.heap.size, 0, none⟩ = some (.slice Ar10 nr10 cr10) := (S8.cell l7_3).trans c7_12
        have c8_13 : w8.cell? ⟨w5.heap.size, 1, none⟩ = some (.slice Ar11 nr11 cr11) := (S8.cell l7_3).trans c7_13
        have c8_14 : w8.cell? ⟨w5.heap.size, 2, none⟩ = some (.int .i64 v1_next_) := (S8.cell l7_3).trans c7_14
        have c8_15 : w8.cell? ⟨w5.heap.size, 3, none⟩ = some (.bool v1_same_) := (S8.cell l7_3).trans c7_15
        have l8_0 : w.heap.size < w8.heap.size := World.block_lt_of_cell? _ _ c8_0
        have l8_1 : w.heap.size + 1 < w8.heap.size := World.block_lt_of_cell? _ _ c8_4
        have l8_2 : w4.heap.size < w8.heap.size := World.block_lt_of_cell? _ _ c8_8
        have l8_3 : w5.heap.size < w8.heap.size := World.block_lt_of_cell? _ _ c8_12
        have X8 : Below w.heap.size w w8 := X7.trans (S8.mono X7.size)
        have RA0_8 : Hid (hi0 ≤ w8.heap.size ∧ MetaR w8 lo0 hi0 [.slice Ar00 nr00 cr00, .slice Ar01 nr01 cr01, .int .i64 v0_next_, .bool v0_same_] (v0_heads_, v0_snaps_, v0_next_, v0_same_)) := Lib.hid ⟨Nat.le_trans RA0_7.out.1 S8.size, MetaR.below S8 RA0_7.out.1 _ _ RA0_7.out.2⟩
        have RA1_8 : Hid (hi1 ≤ w8.heap.size ∧ MetaR w8 lo1 hi1 [.slice Ar10 nr10 cr10, .slice Ar11 nr11 cr11, .int .i64 v1_next_, .bool v1_same_] (v1_heads_, v1_snaps_, v1_next_, v1_same_)) := Lib.hid ⟨Nat.le_trans RA1_7.out.1 S8.size, MetaR.below S8 RA1_7.out.1 _ _ RA1_7.out.2⟩
        clear c7_0 c7_1 c7_2 c7_3 c7_4 c7_5 c7_6 c7_7 c7_8 c7_9 c7_10 c7_11 c7_12 c7_13 c7_14 c7_15 l7_0 l7_1 l7_2 l7_3 RA0_7 RA1_7 X7 hX
        clear S8
        go_wp2_with fail
        go_ret
        exact ⟨rfl, X8⟩

end Go.Proofs.Ytodibogijnjlaaa
