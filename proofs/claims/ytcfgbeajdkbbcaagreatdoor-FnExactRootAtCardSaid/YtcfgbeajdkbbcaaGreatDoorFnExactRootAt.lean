/- FnExactRootAt: the walk. Condition: the tables that strconv's functions read lie as their initialisers lay them. -/
import Derived.Test.YtcfgbeajdkbbcaaGreatDoorRootAt
import Derived.Test.YtcfgbeajdkbbcaaGreatDoorRaidN
import Derived.Test.YtcfgbeajdkbbcaaGreatDoorFamDTo
import Derived.Test.YtcfgbeajdkbbcaaGreatDoorFamRootEq
import Derived.Test.YtcfgbeajdkbbcaaGreatDoorLib
namespace Go.Proofs.YtcfgbeajdkbbcaaGreatDoor
set_option linter.unusedSimpArgs false
set_option linter.unnecessarySimpa false
open Go Go.Lib Go.RowKit
set_option linter.unusedVariables false

/-- A value reads as a datum, in some blocks. -/
def HoldsR {α : Type} (R : Reads α) (x : α) (v : Value) (w : World) : Prop := ∃ cs lo hi, v = .agg (List.toArray cs) ∧ hi ≤ w.heap.size ∧ R w lo hi cs x
def RaidR.stp (x : RaidD) : StP := ⟨HoldsR RaidR x, fun v w w' he h => by
  obtain ⟨cs, lo, hi, e, h1, h2⟩ := h
  exact ⟨cs, lo, hi, e, Nat.le_trans h1 (Below.size he), RaidR.below he h1 _ _ h2⟩⟩
set_option maxRecDepth 100000 in
set_option maxHeartbeats 8000000 in
theorem fnExactRootAt_walk (l0 : List Value) (x0 : RaidD) (row_ : Int) (w : World) (he : Env w) (h0 : RaidR w 0 w.heap.size l0 x0) :
    Calls Tryz.prog 3 #[.agg l0.toArray, .int .i64 row_] w fun e w' => e = .returned (.bool true) ∧ Below w.heap.size w w' := by
  have PA := Lib.hid h0
  obtain ⟨Ap0, np0, cp0, rfl, _⟩ := h0
  show Calls Tryz.prog 3 #[.agg #[.slice Ap0 np0 cp0], .int .i64 row_] w _
  obtain ⟨rd, hrd⟩ : ∃ r, r = rootAtR x0 row_ := ⟨_, rfl⟩
  obtain ⟨rb, hrb⟩ : ∃ r, r = rootAtB x0 row_ := ⟨_, rfl⟩
  have HRD := Lib.hid hrd; have HRB := Lib.hid hrb; clear hrd hrb
  obtain ⟨t, ⟨a, b_, s_, m_, l_⟩, d_, n_⟩ := rd
  have hrr : (rb != rb) = false := by simp
  go_enter Tryz.func3, Tryz.ntmps3
  go_wp2_with fail
  refine (szRaid_any _ _ _ 0 w.heap.size 1048576 (RaidR.below bel1 (Nat.le_refl _) _ _ PA.out) (by omega) (by omega)).mono ?_
  rintro e w1 ⟨s0, rfl, p0_, o0_, z0, hb1⟩
  have ZZ := Lib.hid z0; clear z0
  have S1 : Below w.heap.size w w1 := bel1.trans (hb1.mono (by simp <;> omega))
  have c1_0 : w1.cell? ⟨w.heap.size, 0, none⟩ = some (.slice Ap0 np0 cp0) := (hb1.cell (by simp <;> omega)).trans (by simp [go_sem])
  have l1_0 : w.heap.size < w1.heap.size := World.block_lt_of_cell? _ _ c1_0
  have X1 : Below w.heap.size w w1 := S1
  clear hb1
  clear S1
  by_cases q0_ : s0 < 0
  · go_wp2_with fail
    go_ret
    exact ⟨rfl, X1⟩
  have dq0 : decide (s0 < 0) = false := by simpa using q0_
  have HZ : Hid (sizeRaid x0 ≤ 1048576) := Lib.hid (by have := ZZ.out (by omega); omega)
  clear ZZ
  go_wp2_with fail
  refine (toRaid_any _ x0 _ 0 w.heap.size (RaidR.below X1 (Nat.le_refl _) _ _ PA.out) HZ.out).mono ?_
  rintro e w2 ⟨cs, rfl, hr, hb⟩
  have RS := Lib.hid hr.r; obtain ⟨As0, ns0, cs0, rfl, _⟩ := hr.r; clear hr
  have S2 : Below w1.heap.size w1 w2 := hb
  have c2_0 : w2.cell? ⟨w.heap.size, 0, none⟩ = some (.slice Ap0 np0 cp0) := (S2.cell l1_0).trans c1_0
  have l2_0 : w.heap.size < w2.heap.size := World.block_lt_of_cell? _ _ c2_0
  have X2 : Below w.heap.size w w2 := X1.trans (S2.mono X1.size)
  clear c1_0 l1_0 X1 hb
  clear S2
  go_wp2_with fail
  refine (spRootAtW_any _ x0 row_ _ _ _ RS.out).mono ?_
  rw [← HRD.out, ← HRB.out]
  rintro e w3 ⟨rfl, hb⟩
  clear RS
  have S3 : Below w2.heap.size w2 w3 := hb
  have c3_0 : w3.cell? ⟨w.heap.size, 0, none⟩ = some (.slice Ap0 np0 cp0) := (S3.cell l2_0).trans c2_0
  have l3_0 : w.heap.size < w3.heap.size := World.block_lt_of_cell? _ _ c3_0
  have X3 : Below w.heap.size w w3 := X2.trans (S3.mono X2.size)
  clear c2_0 l2_0 X2 hb
  clear S3
  unfold rcA
  go_wp2_with fail
  refine (toRaid_any _ x0 _ 0 w.heap.size (RaidR.below (X3.alloc (by first | exact X3.size | (have := X3.size; simp <;> omega)) _) (Nat.le_refl _) _ _ PA.out) HZ.out).mono ?_
  rintro e w4 ⟨cs, rfl, hr, hb⟩
  obtain ⟨lo0, hlo0⟩ : ∃ x, x = w3.heap.size + 1 := ⟨_, rfl⟩
  have hr : RaidR w4 lo0 w4.heap.size cs x0 := by rw [hlo0]; simpa using hr.r
  clear hlo0
  have S4 : Below w3.heap.size w3 w4 := bel1.trans (hb.mono (by simp <;> omega))
  have c4_0 : w4.cell? ⟨w.heap.size, 0, none⟩ = some (.slice Ap0 np0 cp0) := (S4.cell l3_0).trans c3_0
  have c4_1 : w4.cell? ⟨w3.heap.size, 0, none⟩ = some (.int .i64 t) := (hb.cell (by simp <;> omega)).trans (by simp [go_sem])
  have c4_2 : w4.cell? ⟨w3.heap.size, 1, none⟩ = some (.int .i64 a) := (hb.cell (by simp <;> omega)).trans (by simp [go_sem])
  have c4_3 : w4.cell? ⟨w3.heap.size, 2, none⟩ = some (.int .i64 b_) := (hb.cell (by simp <;> omega)).trans (by simp [go_sem])
  have c4_4 : w4.cell? ⟨w3.heap.size, 3, none⟩ = some (.int .i64 s_) := (hb.cell (by simp <;> omega)).trans (by simp [go_sem])
  have c4_5 : w4.cell? ⟨w3.heap.size, 4, none⟩ = some (.int .i64 m_) := (hb.cell (by simp <;> omega)).trans (by simp [go_sem])
  have c4_6 : w4.cell? ⟨w3.heap.size, 5, none⟩ = some (.int .i64 l_) := (hb.cell (by simp <;> omega)).trans (by simp [go_sem])
  have c4_7 : w4.cell? ⟨w3.heap.size, 6, none⟩ = some (.int .i64 d_) := (hb.cell (by simp <;> omega)).trans (by simp [go_sem])
  have c4_8 : w4.cell? ⟨w3.heap.size, 7, none⟩ = some (.int .i64 n_) := (hb.cell (by simp <;> omega)).trans (by simp [go_sem])
  have l4_0 : w.heap.size < w4.heap.size := World.block_lt_of_cell? _ _ c4_0
  have l4_1 : w3.heap.size < w4.heap.size := World.block_lt_of_cell? _ _ c4_1
  have X4 : Below w.heap.size w w4 := X3.trans (S4.mono X3.size)
  clear c3_0 l3_0 X3 hb
  clear S4
  obtain ⟨hi0, hhi0⟩ : ∃ x, x = w4.heap.size := ⟨_, rfl⟩
  rw [← hhi0] at hr
  have hhl0 : hi0 ≤ w4.heap.size := Nat.le_of_eq hhi0; clear hhi0
  have hr2 := hr
  obtain ⟨Ar0, nr0, cr0, rfl, _⟩ := hr2
  have RA0_4 := Lib.hid (And.intro hhl0 hr); clear hr hhl0
  go_wp2_with fail
  refine (rootAtW_any _ x0 row_ _ _ _ (he.below (X4.alloc (by first | exact X4.size | (have := X4.size; simp <;> omega)) _)) (RaidR.below bel1 RA0_4.out.1 _ _ RA0_4.out.2)).mono ?_
  rw [← HRD.out, ← HRB.out]
  rintro e w5 ⟨rfl, hb⟩
  have S5 : Below w4.heap.size w4 w5 := bel1.trans (hb.mono (by simp <;> omega))
  have c5_0 : w5.cell? ⟨w.heap.size, 0, none⟩ = some (.slice Ap0 np0 cp0) := (S5.cell l4_0).trans c4_0
  have c5_1 : w5.cell? ⟨w3.heap.size, 0, none⟩ = some (.int .i64 t) := (S5.cell l4_1).trans c4_1
  have c5_2 : w5.cell? ⟨w3.heap.size, 1, none⟩ = some (.int .i64 a) := (S5.cell l4_1).trans c4_2
  have c5_3 : w5.cell? ⟨w3.heap.size, 2, none⟩ = some (.int .i64 b_) := (S5.cell l4_1).trans c4_3
  have c5_4 : w5.cell? ⟨w3.heap.size, 3, none⟩ = some (.int .i64 s_) := (S5.cell l4_1).trans c4_4
  have c5_5 : w5.cell? ⟨w3.heap.size, 4, none⟩ = some (.int .i64 m_) := (S5.cell l4_1).trans c4_5
  have c5_6 : w5.cell? ⟨w3.heap.size, 5, none⟩ = some (.int .i64 l_) := (S5.cell l4_1).trans c4_6
  have c5_7 : w5.cell? ⟨w3.heap.size, 6, none⟩ = some (.int .i64 d_) := (S5.cell l4_1).trans c4_7
  have c5_8 : w5.cell? ⟨w3.heap.size, 7, none⟩ = some (.int .i64 n_) := (S5.cell l4_1).trans c4_8
  have c5_9 : w5.cell? ⟨w4.heap.size, 0, none⟩ = some (.slice Ar0 nr0 cr0) := (hb.cell (by simp <;> omega)).trans (by simp [go_sem])
  have l5_0 : w.heap.size < w5.heap.size := World.block_lt_of_cell? _ _ c5_0
  have l5_1 : w3.heap.size < w5.heap.size := World.block_lt_of_cell? _ _ c5_1
  have l5_2 : w4.heap.size < w5.heap.size := World.block_lt_of_cell? _ _ c5_9
  have X5 : Below w.heap.size w w5 := X4.trans (S5.mono X4.size)
  have RA0_5 : Hid (hi0 ≤ w5.heap.size ∧ RaidR w5 lo0 hi0 [.slice Ar0 nr0 cr0] x0) := Lib.hid ⟨Nat.le_trans RA0_4.out.1 S5.size, RaidR.below S5 RA0_4.out.1 _ _ RA0_4.out.2⟩
  clear c4_0 c4_1 c4_2 c4_3 c4_4 c4_5 c4_6 c4_7 c4_8 l4_0 l4_1 RA0_4 X4 hb
  clear S5
  unfold rcA
  go_wp2_with fail
  have RR : ∀ ww : World, RootR ww 0 0 [.int .i64 t, .int .i64 a, .int .i64 b_, .int .i64 s_, .int .i64 m_, .int .i64 l_, .int .i64 d_, .int .i64 n_] (t, (a, b_, s_, m_, l_), d_, n_) := fun _ => rfl
  refine (eqRoot_yes _ _ _ _ _ _ _ _ (RR _) (RR _)).mono ?_
  rintro e w6 ⟨rfl, hb⟩
  clear RR
  have S6 : Below w5.heap.size w5 w6 := bel1.trans (hb.mono (by simp <;> omega))
  have c6_0 : w6.cell? ⟨w.heap.size, 0, none⟩ = some (.slice Ap0 np0 cp0) := (S6.cell l5_0).trans c5_0
  have c6_1 : w6.cell? ⟨w3.heap.size, 0, none⟩ = some (.int .i64 t) := (S6.cell l5_1).trans c5_1
  have c6_2 : w6.cell? ⟨w3.heap.size, 1, none⟩ = some (.int .i64 a) := (S6.cell l5_1).trans c5_2
  have c6_3 : w6.cell? ⟨w3.heap.size, 2, none⟩ = some (.int .i64 b_) := (S6.cell l5_1).trans c5_3
  have c6_4 : w6.cell? ⟨w3.heap.size, 3, none⟩ = some (.int .i64 s_) := (S6.cell l5_1).trans c5_4
  have c6_5 : w6.cell? ⟨w3.heap.size, 4, none⟩ = some (.int .i64 m_) := (S6.cell l5_1).trans c5_5
  have c6_6 : w6.cell? ⟨w3.heap.size, 5, none⟩ = some (.int .i64 l_) := (S6.cell l5_1).trans c5_6
  have c6_7 : w6.cell? ⟨w3.heap.size, 6, none⟩ = some (.int .i64 d_) := (S6.cell l5_1).trans c5_7
  have c6_8 : w6.cell? ⟨w3.heap.size, 7, none⟩ = some (.int .i64 n_) := (S6.cell l5_1).trans c5_8
  have c6_9 : w6.cell? ⟨w4.heap.size, 0, none⟩ = some (.slice Ar0 nr0 cr0) := (S6.cell l5_2).trans c5_9
  have c6_10 : w6.cell? ⟨w5.heap.size, 0, none⟩ = some (.int .i64 t) := (hb.cell (by simp <;> omega)).trans (by simp [go_sem])
  have c6_11 : w6.cell? ⟨w5.heap.size, 1, none⟩ = some (.int .i64 a) := (hb.cell (by simp <;> omega)).trans (by simp [go_sem])
  have c6_12 : w6.cell? ⟨w5.heap.size, 2, none⟩ = some (.int .i64 b_) := (hb.cell (by simp <;> omega)).trans (by simp [go_sem])
  have c6_13 : w6.cell? ⟨w5.heap.size, 3, none⟩ = some (.int .i64 s_) := (hb.cell (by simp <;> omega)).trans (by simp [go_sem])
  have c6_14 : w6.cell? ⟨w5.heap.size, 4, none⟩ = some (.int .i64 m_) := (hb.cell (by simp <;> omega)).trans (by simp [go_sem])
  have c6_15 : w6.cell? ⟨w5.heap.size, 5, none⟩ = some (.int .i64 l_) := (hb.cell (by simp <;> omega)).trans (by simp [go_sem])
  have c6_16 : w6.cell? ⟨w5.heap.size, 6, none⟩ = some (.int .i64 d_) := (hb.cell (by simp <;> omega)).trans (by simp [go_sem])
  have c6_17 : w6.cell? ⟨w5.heap.size, 7, none⟩ = some (.int .i64 n_) := (hb.cell (by simp <;> omega)).trans (by simp [go_sem])
  have l6_0 : w.heap.size < w6.heap.size := World.block_lt_of_cell? _ _ c6_0
  have l6_1 : w3.heap.size < w6.heap.size := World.block_lt_of_cell? _ _ c6_1
  have l6_2 : w4.heap.size < w6.heap.size := World.block_lt_of_cell? _ _ c6_9
  have l6_3 : w5.heap.size < w6.heap.size := World.block_lt_of_cell? _ _ c6_10
  have X6 : Below w.heap.size w w6 := X5.trans (S6.mono X5.size)
  have RA0_6 : Hid (hi0 ≤ w6.heap.size ∧ RaidR w6 lo0 hi0 [.slice Ar0 nr0 cr0] x0) := Lib.hid ⟨Nat.le_trans RA0_5.out.1 S6.size, RaidR.below S6 RA0_5.out.1 _ _ RA0_5.out.2⟩
  clear c5_0 c5_1 c5_2 c5_3 c5_4 c5_5 c5_6 c5_7 c5_8 c5_9 l5_0 l5_1 l5_2 RA0_5 X5 hb
  clear S6
  go_wp2_with fail
  apply wp_region_rg (by kernel_rfl) (false :: false :: false :: false :: false :: false :: false :: false :: false :: false :: false :: false :: false :: false :: false :: false :: false :: false :: false :: false :: false :: false :: false :: false :: false :: false :: false :: false :: false :: false :: false :: false :: false :: false :: false :: false :: false :: false :: false :: false :: true :: true :: true :: true :: true :: []) [some 40, some 41, some 42, some 43, some 44] [[], [], [1], [0, 2], [3]] [StP.is _, StP.is _, (RaidR.stp x0), StP.is _, StP.is _] (by kernel_rfl)
  case hobs =>
    refine ⟨fun y w' hS hF K hK => ?_, ?_⟩
    · skip -- 0: load
      simp only [fillL, cond_true, cond_false, List.getD_cons_zero, List.getD_cons_succ, StP.is, Act.put, List.setIfInBounds_toArray, List.set_cons_zero, List.set_cons_succ, Nat.reduceAdd] at hK ⊢
      refine rg_yes (by kernel_rfl) ?_
      have qx0_ := (Below.cell hS l6_0).trans c6_0
      have qx1_ := (Below.cell hS l6_1).trans c6_1
      have qx2_ := (Below.cell hS l6_1).trans c6_2
      have qx3_ := (Below.cell hS l6_1).trans c6_3
      have qx4_ := (Below.cell hS l6_1).trans c6_4
      have qx5_ := (Below.cell hS l6_1).trans c6_5
      have qx6_ := (Below.cell hS l6_1).trans c6_6
      have qx7_ := (Below.cell hS l6_1).trans c6_7
      have qx8_ := (Below.cell hS l6_1).trans c6_8
      have qx9_ := (Below.cell hS l6_2).trans c6_9
      have qx10_ := (Below.cell hS l6_3).trans c6_10
      have qx11_ := (Below.cell hS l6_3).trans c6_11
      have qx12_ := (Below.cell hS l6_3).trans c6_12
      have qx13_ := (Below.cell hS l6_3).trans c6_13
      have qx14_ := (Below.cell hS l6_3).trans c6_14
      have qx15_ := (Below.cell hS l6_3).trans c6_15
      have qx16_ := (Below.cell hS l6_3).trans c6_16
      have qx17_ := (Below.cell hS l6_3).trans c6_17
      clear hF
      go_simp
      exact hK _ _ (Ext.refl _) rfl
    refine ⟨fun y w' hS hF K hK => ?_, ?_⟩
    · skip -- 1: load
      simp only [fillL, cond_true, cond_false, List.getD_cons_zero, List.getD_cons_succ, StP.is, Act.put, List.setIfInBounds_toArray, List.set_cons_zero, List.set_cons_succ, Nat.reduceAdd] at hK ⊢
      refine rg_yes (by kernel_rfl) ?_
      have qx0_ := (Below.cell hS l6_0).trans c6_0
      have qx1_ := (Below.cell hS l6_1).trans c6_1
      have qx2_ := (Below.cell hS l6_1).trans c6_2
      have qx3_ := (Below.cell hS l6_1).trans c6_3
      have qx4_ := (Below.cell hS l6_1).trans c6_4
      have qx5_ := (Below.cell hS l6_1).trans c6_5
      have qx6_ := (Below.cell hS l6_1).trans c6_6
      have qx7_ := (Below.cell hS l6_1).trans c6_7
      have qx8_ := (Below.cell hS l6_1).trans c6_8
      have qx9_ := (Below.cell hS l6_2).trans c6_9
      have qx10_ := (Below.cell hS l6_3).trans c6_10
      have qx11_ := (Below.cell hS l6_3).trans c6_11
      have qx12_ := (Below.cell hS l6_3).trans c6_12
      have qx13_ := (Below.cell hS l6_3).trans c6_13
      have qx14_ := (Below.cell hS l6_3).trans c6_14
      have qx15_ := (Below.cell hS l6_3).trans c6_15
      have qx16_ := (Below.cell hS l6_3).trans c6_16
      have qx17_ := (Below.cell hS l6_3).trans c6_17
      clear hF
      go_simp
      exact hK _ _ (Ext.refl _) rfl
    refine ⟨fun y w' hS hF K hK => ?_, ?_⟩
    · skip -- 2: call
      have e41 : y 41 = _ := hF.1
      simp only [fillL, cond_true, cond_false, List.getD_cons_zero, List.getD_cons_succ, StP.is, Act.put, List.setIfInBounds_toArray, List.set_cons_zero, List.set_cons_succ, Nat.reduceAdd, e41] at hK ⊢
      refine rg_yes (by kernel_rfl) ?_
      clear e41
      clear hF
      go_simp
      go_at_call 9
      refine (toRaid_any _ x0 _ 0 w.heap.size (RaidR.below (X6.trans (Below.mono hS X6.size)) (Nat.le_refl _) _ _ PA.out) HZ.out).mono ?_
      rintro e w'' ⟨cs, rfl, hr, hb⟩
      exact hK _ _ hb ⟨cs, _, _, rfl, Nat.le_refl _, hr.r⟩
    refine ⟨fun y w' hS hF K hK => ?_, ?_⟩
    · skip -- 3: call
      have e40 : y 40 = _ := hF.1
      obtain ⟨cs42_, lo42_, hi42_, e42, hh42_, R42_⟩ := hF.2.1
      simp only [fillL, cond_true, cond_false, List.getD_cons_zero, List.getD_cons_succ, StP.is, Act.put, List.setIfInBounds_toArray, List.set_cons_zero, List.set_cons_succ, Nat.reduceAdd, e40, e42] at hK ⊢
      refine rg_yes (by kernel_rfl) ?_
      clear e40 e42
      clear hF
      go_simp
      go_at_call 12
      refine (eqRaid_yes _ _ x0 _ _ _ _ _ (RaidR.below hS RA0_6.out.1 _ _ RA0_6.out.2) R42_).mono ?_
      rintro e w'' ⟨rfl, hb⟩
      exact hK _ _ hb rfl
    refine ⟨fun y w' hS hF K hK => ?_, ?_⟩
    · skip -- 4: unOp
      have e43 : y 43 = _ := hF.1
      simp only [fillL, cond_true, cond_false, List.getD_cons_zero, List.getD_cons_succ, StP.is, Act.put, List.setIfInBounds_toArray, List.set_cons_zero, List.set_cons_succ, Nat.reduceAdd, e43] at hK ⊢
      refine rg_yes (by kernel_rfl) ?_
      clear e43
      clear hF
      go_simp
      exact hK _ _ (Ext.refl _) rfl
    trivial
  case hend =>
    intro y w7 hX hF
    have e44 : y 44 = _ := hF.2.2.2.2.1
    clear hF
    simp only [fillL, cond_true, cond_false, Nat.reduceAdd, e44]
    clear e44
    have S7 : Below w6.heap.size w6 w7 := hX
    have c7_0 : w7.cell? ⟨w.heap.size, 0, none⟩ = some (.slice Ap0 np0 cp0) := (S7.cell l6_0).trans c6_0
    have c7_1 : w7.cell? ⟨w3.heap.size, 0, none⟩ = some (.int .i64 t) := (S7.cell l6_1).trans c6_1
    have c7_2 : w7.cell? ⟨w3.heap.size, 1, none⟩ = some (.int .i64 a) := (S7.cell l6_1).trans c6_2
    have c7_3 : w7.cell? ⟨w3.heap.size, 2, none⟩ = some (.int .i64 b_) := (S7.cell l6_1).trans c6_3
    have c7_4 : w7.cell? ⟨w3.heap.size, 3, none⟩ = some (.int .i64 s_) := (S7.cell l6_1).trans c6_4
    have c7_5 : w7.cell? ⟨w3.heap.size, 4, none⟩ = some (.int .i64 m_) := (S7.cell l6_1).trans c6_5
    have c7_6 : w7.cell? ⟨w3.heap.size, 5, none⟩ = some (.int .i64 l_) := (S7.cell l6_1).trans c6_6
    have c7_7 : w7.cell? ⟨w3.heap.size, 6, none⟩ = some (.int .i64 d_) := (S7.cell l6_1).trans c6_7
    have c7_8 : w7.cell? ⟨w3.heap.size, 7, none⟩ = some (.int .i64 n_) := (S7.cell l6_1).trans c6_8
    have c7_9 : w7.cell? ⟨w4.heap.size, 0, none⟩ = some (.slice Ar0 nr0 cr0) := (S7.cell l6_2).trans c6_9
    have c7_10 : w7.cell? ⟨w5.heap.size, 0, none⟩ = some (.int .i64 t) := (S7.cell l6_3).trans c6_10
    have c7_11 : w7.cell? ⟨w5.heap.size, 1, none⟩ = some (.int .i64 a) := (S7.cell l6_3).trans c6_11
    have c7_12 : w7.cell? ⟨w5.heap.size, 2, none⟩ = some (.int .i64 b_) := (S7.cell l6_3).trans c6_12
    have c7_13 : w7.cell? ⟨w5.heap.size, 3, none⟩ = some (.int .i64 s_) := (S7.cell l6_3).trans c6_13
    have c7_14 : w7.cell? ⟨w5.heap.size, 4, none⟩ = some (.int .i64 m_) := (S7.cell l6_3).trans c6_14
    have c7_15 : w7.cell? ⟨w5.heap.size, 5, none⟩ = some (.int .i64 l_) := (S7.cell l6_3).trans c6_15
    have c7_16 : w7.cell? ⟨w5.heap.size, 6, none⟩ = some (.int .i64 d_) := (S7.cell l6_3).trans c6_16
    have c7_17 : w7.cell? ⟨w5.heap.size, 7, none⟩ = some (.int .i64 n_) := (S7.cell l6_3).trans c6_17
    have l7_0 : w.heap.size < w7.heap.size := World.block_lt_of_cell? _ _ c7_0
    have l7_1 : w3.heap.size < w7.heap.size := World.block_lt_of_cell? _ _ c7_1
    have l7_2 : w4.heap.size < w7.heap.size := World.block_lt_of_cell? _ _ c7_9
    have l7_3 : w5.heap.size < w7.heap.size := World.block_lt_of_cell? _ _ c7_10
    have X7 : Below w.heap.size w w7 := X6.trans (S7.mono X6.size)
    have RA0_7 : Hid (hi0 ≤ w7.heap.size ∧ RaidR w7 lo0 hi0 [.slice Ar0 nr0 cr0] x0) := Lib.hid ⟨Nat.le_trans RA0_6.out.1 S7.size, RaidR.below S7 RA0_6.out.1 _ _ RA0_6.out.2⟩
    clear c6_0 c6_1 c6_2 c6_3 c6_4 c6_5 c6_6 c6_7 c6_8 c6_9 c6_10 c6_11 c6_12 c6_13 c6_14 c6_15 c6_16 c6_17 l6_0 l6_1 l6_2 l6_3 RA0_6 X6 hX
    clear S7
    go_wp2_with fail
    go_ret
    exact ⟨rfl, X7⟩
end Go.Proofs.YtcfgbeajdkbbcaaGreatDoor
