/- One step of a cache that has room: way and ask of the program. No condition. -/
import Derived.Test.YtfokpjoeankobaaCacheStep
namespace Go.Proofs.Ytfokpjoeankobaa
set_option linter.unnecessarySimpa false
open Go Go.Lib Go.RowKit
set_option linter.unusedVariables false
set_option linter.unusedSimpArgs false
set_option maxRecDepth 100000 in
set_option maxHeartbeats 2000000 in
theorem wayNo_any (X : Nat) (ro go : Int) (A0 : Option Addr) (n0 c0 : Nat) (A1 : Option Addr) (n1 c1 : Nat) (v4 v5 : Value) (b : Bool) (w : World) (hq : w.heap[X]? = some (.cells #[.int .i64 ro, .int .i64 go, .slice A0 n0 c0, .slice A1 n1 c1, v4, v5] 26 (0, 0))) (hlt : (n0 : Int) + n1 < ro) (h0 : n0 ≤ 100) (h1 : n1 ≤ 100) :
    Calls Try.prog 40 #[.pointer (some ⟨X, 0, none⟩), .bool b] w fun e w' => e = .returned (.tuple #[]) ∧ Below w.heap.size w w' := by
  have lX := (Array.getElem?_eq_some_iff.1 hq).1
  have uc0 := cell_of_row _ _ 0 _ _ (0, 0) hq; have uf0 := block_free hq 0; have uc1 := cell_of_row _ _ 1 _ _ (0, 0) hq; have uf1 := block_free hq 1; have uc2 := cell_of_row _ _ 2 _ _ (0, 0) hq; have uf2 := block_free hq 2; have uc3 := cell_of_row _ _ 3 _ _ (0, 0) hq; have uf3 := block_free hq 3; have uc4 := cell_of_row _ _ 4 _ _ (0, 0) hq; have uf4 := block_free hq 4; have uc5 := cell_of_row _ _ 5 _ _ (0, 0) hq; have uf5 := block_free hq 5
  have nu1 : IntKind.i64.wrap ((n0 : Int) + (n1 : Int)) = (n0 : Int) + n1 := IntWalk.i64_in _ (by omega)
  clear hq
  go_enter Try.func40, Try.ntmps40
  go_wp2_with fail
  apply wp_region_rg (by kernel_rfl) (false :: false :: false :: false :: false :: true :: true :: true :: true :: true :: true :: true :: true :: true :: true :: true :: true :: true :: true :: true :: true :: false :: false :: false :: false :: false :: false :: false :: false :: false :: false :: false :: false :: false :: false :: false :: false :: false :: false :: false :: false :: false :: false :: false :: false :: false :: false :: false :: false :: false :: false :: false :: false :: false :: false :: false :: false :: false :: false :: false :: false :: false :: false :: false :: false :: false :: false :: false :: false :: false :: false :: []) (some 5 :: some 6 :: some 7 :: some 8 :: some 9 :: some 10 :: some 11 :: some 12 :: some 13 :: some 14 :: some 15 :: some 16 :: some 17 :: some 18 :: some 19 :: some 20 :: []) ([] :: [0] :: [1] :: [2] :: [3] :: [] :: [5] :: [6] :: [7] :: [8] :: [4, 9] :: [] :: [11] :: [12] :: [13] :: [10, 14] :: []) (StP.is _ :: StP.is _ :: StP.is _ :: StP.is _ :: StP.is _ :: StP.is _ :: StP.is _ :: StP.is _ :: StP.is _ :: StP.is _ :: StP.is _ :: StP.is _ :: StP.is _ :: StP.is _ :: StP.is _ :: StP.is _ :: []) (by kernel_rfl)
  case hobs =>
    refine ⟨fun y w' hS hF K hK => ?_, ?_⟩
    · skip -- 0: move
      simp only [fillL, cond_true, cond_false, List.getD_cons_zero, List.getD_cons_succ, StP.is, Act.put, List.setIfInBounds_toArray, List.set_cons_zero, List.set_cons_succ, Nat.reduceAdd] at hK ⊢
      refine rg_yes (by kernel_rfl) ?_
      clear hF
      go_simp
      exact hK _ _ (Ext.refl _) rfl
    refine ⟨fun y w' hS hF K hK => ?_, ?_⟩
    · skip -- 1: nilCheck
      have e5 : y 5 = _ := hF.1
      simp only [fillL, cond_true, cond_false, List.getD_cons_zero, List.getD_cons_succ, StP.is, Act.put, List.setIfInBounds_toArray, List.set_cons_zero, List.set_cons_succ, Nat.reduceAdd, e5] at hK ⊢
      refine rg_yes (by kernel_rfl) ?_
      clear e5
      clear hF
      go_simp
      exact hK _ _ (Ext.refl _) rfl
    refine ⟨fun y w' hS hF K hK => ?_, ?_⟩
    · skip -- 2: fieldAddr
      have e6 : y 6 = _ := hF.1
      simp only [fillL, cond_true, cond_false, List.getD_cons_zero, List.getD_cons_succ, StP.is, Act.put, List.setIfInBounds_toArray, List.set_cons_zero, List.set_cons_succ, Nat.reduceAdd, e6] at hK ⊢
      refine rg_yes (by kernel_rfl) ?_
      clear e6
      clear hF
      go_simp
      exact hK _ _ (Ext.refl _) rfl
    refine ⟨fun y w' hS hF K hK => ?_, ?_⟩
    · skip -- 3: load
      have e7 : y 7 = _ := hF.1
      simp only [fillL, cond_true, cond_false, List.getD_cons_zero, List.getD_cons_succ, StP.is, Act.put, List.setIfInBounds_toArray, List.set_cons_zero, List.set_cons_succ, Nat.reduceAdd, e7] at hK ⊢
      refine rg_yes (by kernel_rfl) ?_
      have qx0_ := (Below.cell hS lX).trans uc0
      have qx1_ := (Below.cell hS lX).trans uc1
      have qx2_ := (Below.cell hS lX).trans uc2
      have qx3_ := (Below.cell hS lX).trans uc3
      have qx4_ := (Below.cell hS lX).trans uc4
      have qx5_ := (Below.cell hS lX).trans uc5
      clear e7
      clear hF
      go_simp
      exact hK _ _ (Ext.refl _) rfl
    refine ⟨fun y w' hS hF K hK => ?_, ?_⟩
    · skip -- 4: call
      have e8 : y 8 = _ := hF.1
      simp only [fillL, cond_true, cond_false, List.getD_cons_zero, List.getD_cons_succ, StP.is, Act.put, List.setIfInBounds_toArray, List.set_cons_zero, List.set_cons_succ, Nat.reduceAdd, e8] at hK ⊢
      refine rg_yes (by kernel_rfl) ?_
      have qx0_ := (Below.cell hS lX).trans uc0
      have qx1_ := (Below.cell hS lX).trans uc1
      have qx2_ := (Below.cell hS lX).trans uc2
      have qx3_ := (Below.cell hS lX).trans uc3
      have qx4_ := (Below.cell hS lX).trans uc4
      have qx5_ := (Below.cell hS lX).trans uc5
      clear e8
      clear hF
      go_simp
      exact hK _ _ (Ext.refl _) rfl
    refine ⟨fun y w' hS hF K hK => ?_, ?_⟩
    · skip -- 5: move
      simp only [fillL, cond_true, cond_false, List.getD_cons_zero, List.getD_cons_succ, StP.is, Act.put, List.setIfInBounds_toArray, List.set_cons_zero, List.set_cons_succ, Nat.reduceAdd] at hK ⊢
      refine rg_yes (by kernel_rfl) ?_
      clear hF
      go_simp
      exact hK _ _ (Ext.refl _) rfl
    refine ⟨fun y w' hS hF K hK => ?_, ?_⟩
    · skip -- 6: nilCheck
      have e10 : y 10 = _ := hF.1
      simp only [fillL, cond_true, cond_false, List.getD_cons_zero, List.getD_cons_succ, StP.is, Act.put, List.setIfInBounds_toArray, List.set_cons_zero, List.set_cons_succ, Nat.reduceAdd, e10] at hK ⊢
      refine rg_yes (by kernel_rfl) ?_
      clear e10
      clear hF
      go_simp
      exact hK _ _ (Ext.refl _) rfl
    refine ⟨fun y w' hS hF K hK => ?_, ?_⟩
    · skip -- 7: fieldAddr
      have e11 : y 11 = _ := hF.1
      simp only [fillL, cond_true, cond_false, List.getD_cons_zero, List.getD_cons_succ, StP.is, Act.put, List.setIfInBounds_toArray, List.set_cons_zero, List.set_cons_succ, Nat.reduceAdd, e11] at hK ⊢
      refine rg_yes (by kernel_rfl) ?_
      clear e11
      clear hF
      go_simp
      exact hK _ _ (Ext.refl _) rfl
    refine ⟨fun y w' hS hF K hK => ?_, ?_⟩
    · skip -- 8: load
      have e12 : y 12 = _ := hF.1
      simp only [fillL, cond_true, cond_false, List.getD_cons_zero, List.getD_cons_succ, StP.is, Act.put, List.setIfInBounds_toArray, List.set_cons_zero, List.set_cons_succ, Nat.reduceAdd, e12] at hK ⊢
      refine rg_yes (by kernel_rfl) ?_
      have qx0_ := (Below.cell hS lX).trans uc0
      have qx1_ := (Below.cell hS lX).trans uc1
      have qx2_ := (Below.cell hS lX).trans uc2
      have qx3_ := (Below.cell hS lX).trans uc3
      have qx4_ := (Below.cell hS lX).trans uc4
      have qx5_ := (Below.cell hS lX).trans uc5
      clear e12
      clear hF
      go_simp
      exact hK _ _ (Ext.refl _) rfl
    refine ⟨fun y w' hS hF K hK => ?_, ?_⟩
    · skip -- 9: call
      have e13 : y 13 = _ := hF.1
      simp only [fillL, cond_true, cond_false, List.getD_cons_zero, List.getD_cons_succ, StP.is, Act.put, List.setIfInBounds_toArray, List.set_cons_zero, List.set_cons_succ, Nat.reduceAdd, e13] at hK ⊢
      refine rg_yes (by kernel_rfl) ?_
      have qx0_ := (Below.cell hS lX).trans uc0
      have qx1_ := (Below.cell hS lX).trans uc1
      have qx2_ := (Below.cell hS lX).trans uc2
      have qx3_ := (Below.cell hS lX).trans uc3
      have qx4_ := (Below.cell hS lX).trans uc4
      have qx5_ := (Below.cell hS lX).trans uc5
      clear e13
      clear hF
      go_simp
      exact hK _ _ (Ext.refl _) rfl
    refine ⟨fun y w' hS hF K hK => ?_, ?_⟩
    · skip -- 10: binOp
      have e9 : y 9 = _ := hF.1
      have e14 : y 14 = _ := hF.2.1
      simp only [fillL, cond_true, cond_false, List.getD_cons_zero, List.getD_cons_succ, StP.is, Act.put, List.setIfInBounds_toArray, List.set_cons_zero, List.set_cons_succ, Nat.reduceAdd, e9, e14] at hK ⊢
      refine rg_yes (by kernel_rfl) ?_
      clear e9 e14
      clear hF
      go_simp
      exact hK _ _ (Ext.refl _) rfl
    refine ⟨fun y w' hS hF K hK => ?_, ?_⟩
    · skip -- 11: move
      simp only [fillL, cond_true, cond_false, List.getD_cons_zero, List.getD_cons_succ, StP.is, Act.put, List.setIfInBounds_toArray, List.set_cons_zero, List.set_cons_succ, Nat.reduceAdd] at hK ⊢
      refine rg_yes (by kernel_rfl) ?_
      clear hF
      go_simp
      exact hK _ _ (Ext.refl _) rfl
    refine ⟨fun y w' hS hF K hK => ?_, ?_⟩
    · skip -- 12: nilCheck
      have e16 : y 16 = _ := hF.1
      simp only [fillL, cond_true, cond_false, List.getD_cons_zero, List.getD_cons_succ, StP.is, Act.put, List.setIfInBounds_toArray, List.set_cons_zero, List.set_cons_succ, Nat.reduceAdd, e16] at hK ⊢
      refine rg_yes (by kernel_rfl) ?_
      clear e16
      clear hF
      go_simp
      exact hK _ _ (Ext.refl _) rfl
    refine ⟨fun y w' hS hF K hK => ?_, ?_⟩
    · skip -- 13: fieldAddr
      have e17 : y 17 = _ := hF.1
      simp only [fillL, cond_true, cond_false, List.getD_cons_zero, List.getD_cons_succ, StP.is, Act.put, List.setIfInBounds_toArray, List.set_cons_zero, List.set_cons_succ, Nat.reduceAdd, e17] at hK ⊢
      refine rg_yes (by kernel_rfl) ?_
      clear e17
      clear hF
      go_simp
      exact hK _ _ (Ext.refl _) rfl
    refine ⟨fun y w' hS hF K hK => ?_, ?_⟩
    · skip -- 14: load
      have e18 : y 18 = _ := hF.1
      simp only [fillL, cond_true, cond_false, List.getD_cons_zero, List.getD_cons_succ, StP.is, Act.put, List.setIfInBounds_toArray, List.set_cons_zero, List.set_cons_succ, Nat.reduceAdd, e18] at hK ⊢
      refine rg_yes (by kernel_rfl) ?_
      have qx0_ := (Below.cell hS lX).trans uc0
      have qx1_ := (Below.cell hS lX).trans uc1
      have qx2_ := (Below.cell hS lX).trans uc2
      have qx3_ := (Below.cell hS lX).trans uc3
      have qx4_ := (Below.cell hS lX).trans uc4
      have qx5_ := (Below.cell hS lX).trans uc5
      clear e18
      clear hF
      go_simp
      exact hK _ _ (Ext.refl _) rfl
    refine ⟨fun y w' hS hF K hK => ?_, ?_⟩
    · skip -- 15: binOp
      have e15 : y 15 = _ := hF.1
      have e19 : y 19 = _ := hF.2.1
      simp only [fillL, cond_true, cond_false, List.getD_cons_zero, List.getD_cons_succ, StP.is, Act.put, List.setIfInBounds_toArray, List.set_cons_zero, List.set_cons_succ, Nat.reduceAdd, e15, e19] at hK ⊢
      refine rg_yes (by kernel_rfl) ?_
      clear e15 e19
      clear hF
      go_simp
      exact hK _ _ (Ext.refl _) rfl
    trivial
  case hend =>
    intro y w9 hS9 hF
    have e20 : y 20 = _ := hF.2.2.2.2.2.2.2.2.2.2.2.2.2.2.2.1
    clear hF
    simp only [fillL, cond_true, cond_false, Nat.reduceAdd, e20]
    clear e20
    have HB : Hid (Below w.heap.size w w9) := Lib.hid hS9
    clear hS9
    go_wp2_with fail
    exact bodyPost_ret (v := .tuple #[]) (by simp [results, Try.results40, go_sem]) rfl ⟨rfl, HB.out⟩
set_option maxRecDepth 100000 in
set_option maxHeartbeats 4000000 in
theorem askOnce_any (X : Nat) (ro go : Int) (S0 : List Nat) (A0 : Option Addr) (c0 : Nat) (ys : List Int) (S1 : List Nat) (A1 : Option Addr) (n1 c1 : Nat) (T : List Int) (A2 : Option Addr) (c2 : Nat) (A3 : Option Addr) (c3 : Nat) (row : Int) (w : World) (hq : w.heap[X]? = some (.cells #[.int .i64 ro, .int .i64 go, .slice A0 (ys.length + 1) c0, .slice A1 n1 c1, .slice A2 0 c2, .slice A3 0 c3] 26 (0, 0))) (h0 : OwnA w 3 1 S0 A0 (ys.length + 1) c0 ((ys ++ [row]).map (Value.int .i64))) (h1 : OwnA w 3 1 S1 A1 n1 c1 (T.map (Value.int .i64))) (hl : T.length = n1) (hy : ys.length ≤ 50) (hn : n1 ≤ 50) (hX0 : X ∉ S0) (hX1 : X ∉ S1) (hd : ∀ g ∈ S1, g ∉ S0) (hr : row ∉ ys) :
    Calls Try.prog 24 #[.pointer (some ⟨X, 0, none⟩), .int .i64 row] w fun e w' => e = .returned (.bool true) ∧ ∃ A' c' S', w'.heap[X]? = some (.cells #[.int .i64 ro, .int .i64 go, .slice A0 ys.length c0, .slice A' (n1 + 1) c', .slice A2 0 c2, .slice A3 0 c3] 26 (0, 0)) ∧ OwnA w' 3 1 S0 A0 ys.length c0 (ys.map (Value.int .i64)) ∧ OwnA w' 3 1 S' A' (n1 + 1) c' ((row :: T).map (Value.int .i64)) ∧ (∀ g ∈ S', g ∈ S1 ∨ w.heap.size ≤ g) ∧ Chg (fun k => k = X ∨ k ∈ S0 ∨ k ∈ S1) w w' := by
  have lX := (Array.getElem?_eq_some_iff.1 hq).1
  have HQ := Lib.hid hq
  have uc0 := cell_of_row _ _ 0 _ _ (0, 0) hq; have uf0 := block_free hq 0; have uc1 := cell_of_row _ _ 1 _ _ (0, 0) hq; have uf1 := block_free hq 1; have uc2 := cell_of_row _ _ 2 _ _ (0, 0) hq; have uf2 := block_free hq 2; have uc3 := cell_of_row _ _ 3 _ _ (0, 0) hq; have uf3 := block_free hq 3; have uc4 := cell_of_row _ _ 4 _ _ (0, 0) hq; have uf4 := block_free hq 4; have uc5 := cell_of_row _ _ 5 _ _ (0, 0) hq; have uf5 := block_free hq 5
  clear hq
  have H0 := Lib.hid h0; have H1 := Lib.hid h1; have HD := Lib.hid hd; have HX0 := Lib.hid hX0; have HX1 := Lib.hid hX1; have HRW := Lib.hid hr
  clear h0 h1 hd hX0 hX1 hr
  go_enter Try.func24, Try.ntmps24
  go_wp2_with fail
  apply wp_region_rg (by kernel_rfl) (false :: false :: false :: false :: false :: true :: true :: true :: true :: true :: true :: true :: true :: true :: true :: true :: true :: false :: false :: false :: false :: false :: false :: false :: false :: false :: false :: false :: false :: false :: false :: false :: false :: false :: false :: false :: false :: false :: false :: false :: false :: false :: false :: false :: false :: false :: false :: false :: false :: false :: false :: false :: false :: false :: false :: false :: false :: false :: false :: false :: false :: false :: false :: false :: false :: false :: false :: false :: false :: false :: false :: false :: false :: false :: false :: false :: false :: false :: false :: false :: false :: false :: false :: false :: false :: false :: false :: false :: false :: false :: false :: false :: false :: false :: false :: false :: false :: false :: false :: false :: false :: false :: false :: false :: false :: false :: false :: false :: false :: false :: false :: false :: false :: false :: false :: false :: false :: false :: false :: false :: false :: false :: false :: false :: false :: false :: false :: false :: false :: false :: false :: false :: false :: false :: false :: false :: false :: false :: false :: false :: false :: false :: false :: false :: false :: false :: false :: false :: false :: []) [some 7, some 8, some 9, some 10, some 11, some 12, some 13, some 14, some 15, some 16, some 5, some 6] [[], [0], [1], [2], [3], [], [5], [6], [7], [8], [4], [9]] [StP.is _, StP.is _, StP.is _, StP.is _, StP.is _, StP.is _, StP.is _, StP.is _, StP.is _, StP.is _, StP.is _, StP.is _] (by kernel_rfl)
  case hobs =>
    refine ⟨fun y w' hS hF K hK => ?_, ?_⟩
    · skip -- 0: move
      simp only [fillL, cond_true, cond_false, List.getD_cons_zero, List.getD_cons_succ, StP.is, Act.put, List.setIfInBounds_toArray, List.set_cons_zero, List.set_cons_succ, Nat.reduceAdd] at hK ⊢
      refine rg_yes (by kernel_rfl) ?_
      clear hF
      go_simp
      exact hK _ _ (Ext.refl _) rfl
    refine ⟨fun y w' hS hF K hK => ?_, ?_⟩
    · skip -- 1: nilCheck
      have e7 : y 7 = _ := hF.1
      simp only [fillL, cond_true, cond_false, List.getD_cons_zero, List.getD_cons_succ, StP.is, Act.put, List.setIfInBounds_toArray, List.set_cons_zero, List.set_cons_succ, Nat.reduceAdd, e7] at hK ⊢
      refine rg_yes (by kernel_rfl) ?_
      clear e7
      clear hF
      go_simp
      exact hK _ _ (Ext.refl _) rfl
    refine ⟨fun y w' hS hF K hK => ?_, ?_⟩
    · skip -- 2: fieldAddr
      have e8 : y 8 = _ := hF.1
      simp only [fillL, cond_true, cond_false, List.getD_cons_zero, List.getD_cons_succ, StP.is, Act.put, List.setIfInBounds_toArray, List.set_cons_zero, List.set_cons_succ, Nat.reduceAdd, e8] at hK ⊢
      refine rg_yes (by kernel_rfl) ?_
      clear e8
      clear hF
      go_simp
      exact hK _ _ (Ext.refl _) rfl
    refine ⟨fun y w' hS hF K hK => ?_, ?_⟩
    · skip -- 3: load
      have e9 : y 9 = _ := hF.1
      simp only [fillL, cond_true, cond_false, List.getD_cons_zero, List.getD_cons_succ, StP.is, Act.put, List.setIfInBounds_toArray, List.set_cons_zero, List.set_cons_succ, Nat.reduceAdd, e9] at hK ⊢
      refine rg_yes (by kernel_rfl) ?_
      have qx0_ := (Below.cell hS lX).trans uc0
      have qx1_ := (Below.cell hS lX).trans uc1
      have qx2_ := (Below.cell hS lX).trans uc2
      have qx3_ := (Below.cell hS lX).trans uc3
      have qx4_ := (Below.cell hS lX).trans uc4
      have qx5_ := (Below.cell hS lX).trans uc5
      clear e9
      clear hF
      go_simp
      exact hK _ _ (Ext.refl _) rfl
    refine ⟨fun y w' hS hF K hK => ?_, ?_⟩
    · skip -- 4: call
      have e10 : y 10 = _ := hF.1
      simp only [fillL, cond_true, cond_false, List.getD_cons_zero, List.getD_cons_succ, StP.is, Act.put, List.setIfInBounds_toArray, List.set_cons_zero, List.set_cons_succ, Nat.reduceAdd, e10] at hK ⊢
      refine rg_yes (by kernel_rfl) ?_
      have qx0_ := (Below.cell hS lX).trans uc0
      have qx1_ := (Below.cell hS lX).trans uc1
      have qx2_ := (Below.cell hS lX).trans uc2
      have qx3_ := (Below.cell hS lX).trans uc3
      have qx4_ := (Below.cell hS lX).trans uc4
      have qx5_ := (Below.cell hS lX).trans uc5
      clear e10
      clear hF
      go_simp
      exact hK _ _ (Ext.refl _) rfl
    refine ⟨fun y w' hS hF K hK => ?_, ?_⟩
    · skip -- 5: move
      simp only [fillL, cond_true, cond_false, List.getD_cons_zero, List.getD_cons_succ, StP.is, Act.put, List.setIfInBounds_toArray, List.set_cons_zero, List.set_cons_succ, Nat.reduceAdd] at hK ⊢
      refine rg_yes (by kernel_rfl) ?_
      clear hF
      go_simp
      exact hK _ _ (Ext.refl _) rfl
    refine ⟨fun y w' hS hF K hK => ?_, ?_⟩
    · skip -- 6: nilCheck
      have e12 : y 12 = _ := hF.1
      simp only [fillL, cond_true, cond_false, List.getD_cons_zero, List.getD_cons_succ, StP.is, Act.put, List.setIfInBounds_toArray, List.set_cons_zero, List.set_cons_succ, Nat.reduceAdd, e12] at hK ⊢
      refine rg_yes (by kernel_rfl) ?_
      clear e12
      clear hF
      go_simp
      exact hK _ _ (Ext.refl _) rfl
    refine ⟨fun y w' hS hF K hK => ?_, ?_⟩
    · skip -- 7: fieldAddr
      have e13 : y 13 = _ := hF.1
      simp only [fillL, cond_true, cond_false, List.getD_cons_zero, List.getD_cons_succ, StP.is, Act.put, List.setIfInBounds_toArray, List.set_cons_zero, List.set_cons_succ, Nat.reduceAdd, e13] at hK ⊢
      refine rg_yes (by kernel_rfl) ?_
      clear e13
      clear hF
      go_simp
      exact hK _ _ (Ext.refl _) rfl
    refine ⟨fun y w' hS hF K hK => ?_, ?_⟩
    · skip -- 8: load
      have e14 : y 14 = _ := hF.1
      simp only [fillL, cond_true, cond_false, List.getD_cons_zero, List.getD_cons_succ, StP.is, Act.put, List.setIfInBounds_toArray, List.set_cons_zero, List.set_cons_succ, Nat.reduceAdd, e14] at hK ⊢
      refine rg_yes (by kernel_rfl) ?_
      have qx0_ := (Below.cell hS lX).trans uc0
      have qx1_ := (Below.cell hS lX).trans uc1
      have qx2_ := (Below.cell hS lX).trans uc2
      have qx3_ := (Below.cell hS lX).trans uc3
      have qx4_ := (Below.cell hS lX).trans uc4
      have qx5_ := (Below.cell hS lX).trans uc5
      clear e14
      clear hF
      go_simp
      exact hK _ _ (Ext.refl _) rfl
    refine ⟨fun y w' hS hF K hK => ?_, ?_⟩
    · skip -- 9: call
      have e15 : y 15 = _ := hF.1
      simp only [fillL, cond_true, cond_false, List.getD_cons_zero, List.getD_cons_succ, StP.is, Act.put, List.setIfInBounds_toArray, List.set_cons_zero, List.set_cons_succ, Nat.reduceAdd, e15] at hK ⊢
      refine rg_yes (by kernel_rfl) ?_
      have qx0_ := (Below.cell hS lX).trans uc0
      have qx1_ := (Below.cell hS lX).trans uc1
      have qx2_ := (Below.cell hS lX).trans uc2
      have qx3_ := (Below.cell hS lX).trans uc3
      have qx4_ := (Below.cell hS lX).trans uc4
      have qx5_ := (Below.cell hS lX).trans uc5
      clear e15
      clear hF
      go_simp
      exact hK _ _ (Ext.refl _) rfl
    refine ⟨fun y w' hS hF K hK => ?_, ?_⟩
    · skip -- 10: assign
      have e11 : y 11 = _ := hF.1
      simp only [fillL, cond_true, cond_false, List.getD_cons_zero, List.getD_cons_succ, StP.is, Act.put, List.setIfInBounds_toArray, List.set_cons_zero, List.set_cons_succ, Nat.reduceAdd, e11] at hK ⊢
      refine rg_yes (by kernel_rfl) ?_
      clear e11
      clear hF
      go_simp
      exact hK _ _ (Ext.refl _) rfl
    refine ⟨fun y w' hS hF K hK => ?_, ?_⟩
    · skip -- 11: assign
      have e16 : y 16 = _ := hF.1
      simp only [fillL, cond_true, cond_false, List.getD_cons_zero, List.getD_cons_succ, StP.is, Act.put, List.setIfInBounds_toArray, List.set_cons_zero, List.set_cons_succ, Nat.reduceAdd, e16] at hK ⊢
      refine rg_yes (by kernel_rfl) ?_
      clear e16
      clear hF
      go_simp
      exact hK _ _ (Ext.refl _) rfl
    trivial
  case hend =>
    intro y w9 hS9 hF
    have e5 : y 5 = _ := hF.2.2.2.2.2.2.2.2.2.2.1
    have e6 : y 6 = _ := hF.2.2.2.2.2.2.2.2.2.2.2.1
    clear hF
    simp only [fillL, cond_true, cond_false, Nat.reduceAdd, e5, e6]
    clear e5 e6
    have HB1 := Lib.hid (show Below w.heap.size w w9 from hS9)
    have HQ1 := Lib.hid ((HB1.out.block X lX).trans HQ.out)
    clear hS9 uc0 uf0 uc1 uf1 uc2 uf2 uc3 uf3 uc4 uf4 uc5 uf5
    go_wp2_with fail
    refine (take2_any X ro go S0 A0 c0 ys (.slice A1 n1 c1) (.slice A2 0 c2) (.slice A3 0 c3) row w9 HQ1.out (H0.out.below HB1.out) (by omega) HX0.out HRW.out).mono ?_
    rintro e w2 ⟨rfl, hq2, hO2, hC2⟩
    have HQ2 := Lib.hid hq2; have HO2 := Lib.hid hO2; have HC2 := Lib.hid hC2
    have HP2 : Hid (OwnA w2 3 1 S1 A1 n1 c1 (T.map (Value.int .i64))) := Lib.hid ((H1.out.below HB1.out).keep (fun g hg => hC2.block g (by have := H1.out.lt g hg; have := HB1.out.size; omega) (fun h => by
      rcases h with h | h
      · exact HX1.out (h ▸ hg)
      · exact HD.out g hg h)))
    clear hq2 hO2 hC2
    go_wp2_with fail
    refine (front3_any X ro go S1 A1 n1 c1 T (.slice A0 ys.length c0) (.slice A2 0 c2) (.slice A3 0 c3) row w2 HQ2.out HP2.out hl (by omega) HX1.out).mono ?_
    rintro e w3 ⟨rfl, A', c', S', hq3, hO3, hS3, hC3⟩
    have HPOST : Hid (∃ A' c' S', w3.heap[X]? = some (.cells #[.int .i64 ro, .int .i64 go, .slice A0 ys.length c0, .slice A' (n1 + 1) c', .slice A2 0 c2, .slice A3 0 c3] 26 (0, 0)) ∧ OwnA w3 3 1 S0 A0 ys.length c0 (ys.map (Value.int .i64)) ∧ OwnA w3 3 1 S' A' (n1 + 1) c' ((row :: T).map (Value.int .i64)) ∧ (∀ g ∈ S', g ∈ S1 ∨ w.heap.size ≤ g) ∧ Chg (fun k => k = X ∨ k ∈ S0 ∨ k ∈ S1) w w3) := Lib.hid ⟨A', c', S', hq3, HO2.out.keep (fun g hg => hC3.block g (HO2.out.lt g hg) (fun h => by
        rcases h with h | h
        · exact HX0.out (h ▸ hg)
        · exact HD.out g h hg)), hO3, fun g hg => (hS3 g hg).imp id (fun h => by have := HC2.out.size; have := HB1.out.size; omega),
      ⟨hC3.os.trans (HC2.out.os.trans HB1.out.os), hC3.tape.trans (HC2.out.tape.trans HB1.out.tape), hC3.output.trans (HC2.out.output.trans HB1.out.output), by have := hC3.size; have := HC2.out.size; have := HB1.out.size; omega, fun k hk hs => (hC3.block k (by have := HC2.out.size; have := HB1.out.size; omega) (fun h => hs (h.imp id .inr))).trans ((HC2.out.block k (by have := HB1.out.size; omega) (fun h => hs (h.imp id .inl))).trans (HB1.out.block k hk))⟩⟩
    clear hq3 hO3 hS3 hC3
    go_wp2_with fail
    go_ret
    exact ⟨rfl, HPOST.out⟩
set_option maxRecDepth 100000 in
set_option maxHeartbeats 4000000 in
theorem askOften_any (X : Nat) (ro go : Int) (A0 : Option Addr) (c0 : Nat) (S1 : List Nat) (A1 : Option Addr) (c1 : Nat) (ys : List Int) (A2 : Option Addr) (c2 : Nat) (A3 : Option Addr) (c3 : Nat) (row : Int) (w : World) (hq : w.heap[X]? = some (.cells #[.int .i64 ro, .int .i64 go, .slice A0 0 c0, .slice A1 (ys.length + 1) c1, .slice A2 0 c2, .slice A3 0 c3] 26 (0, 0))) (h1 : OwnA w 3 1 S1 A1 (ys.length + 1) c1 ((ys ++ [row]).map (Value.int .i64))) (hy : ys.length ≤ 50) (hX1 : X ∉ S1) (hr : row ∉ ys) :
    Calls Try.prog 24 #[.pointer (some ⟨X, 0, none⟩), .int .i64 row] w fun e w' => e = .returned (.bool true) ∧ ∃ A' c' S', w'.heap[X]? = some (.cells #[.int .i64 ro, .int .i64 go, .slice A0 0 c0, .slice A' (ys.length + 1) c', .slice A2 0 c2, .slice A3 0 c3] 26 (0, 0)) ∧ OwnA w' 3 1 S' A' (ys.length + 1) c' ((row :: ys).map (Value.int .i64)) ∧ (∀ g ∈ S', g ∈ S1 ∨ w.heap.size ≤ g) ∧ Chg (fun k => k = X ∨ k ∈ S1) w w' := by
  have lX := (Array.getElem?_eq_some_iff.1 hq).1
  have HQ := Lib.hid hq
  have uc0 := cell_of_row _ _ 0 _ _ (0, 0) hq; have uf0 := block_free hq 0; have uc1 := cell_of_row _ _ 1 _ _ (0, 0) hq; have uf1 := block_free hq 1; have uc2 := cell_of_row _ _ 2 _ _ (0, 0) hq; have uf2 := block_free hq 2; have uc3 := cell_of_row _ _ 3 _ _ (0, 0) hq; have uf3 := block_free hq 3; have uc4 := cell_of_row _ _ 4 _ _ (0, 0) hq; have uf4 := block_free hq 4; have uc5 := cell_of_row _ _ 5 _ _ (0, 0) hq; have uf5 := block_free hq 5
  clear hq
  have H1 := Lib.hid h1; have HX1 := Lib.hid hX1; have HRW := Lib.hid hr
  clear h1 hX1 hr
  go_enter Try.func24, Try.ntmps24
  go_wp2_with fail
  apply wp_region_rg (by kernel_rfl) (false :: false :: false :: false :: false :: true :: true :: true :: true :: true :: true :: true :: true :: true :: true :: true :: true :: false :: false :: false :: false :: false :: false :: false :: false :: false :: false :: false :: false :: false :: false :: false :: false :: false :: false :: false :: false :: false :: false :: false :: false :: false :: false :: false :: false :: false :: false :: false :: false :: false :: false :: false :: false :: false :: false :: false :: false :: false :: false :: false :: false :: false :: false :: false :: false :: false :: false :: false :: false :: false :: false :: false :: false :: false :: false :: false :: false :: false :: false :: false :: false :: false :: false :: false :: false :: false :: false :: false :: false :: false :: false :: false :: false :: false :: false :: false :: false :: false :: false :: false :: false :: false :: false :: false :: false :: false :: false :: false :: false :: false :: false :: false :: false :: false :: false :: false :: false :: false :: false :: false :: false :: false :: false :: false :: false :: false :: false :: false :: false :: false :: false :: false :: false :: false :: false :: false :: false :: false :: false :: false :: false :: false :: false :: false :: false :: false :: false :: false :: false :: []) [some 7, some 8, some 9, some 10, some 11, some 12, some 13, some 14, some 15, some 16, some 5, some 6] [[], [0], [1], [2], [3], [], [5], [6], [7], [8], [4], [9]] [StP.is _, StP.is _, StP.is _, StP.is _, StP.is _, StP.is _, StP.is _, StP.is _, StP.is _, StP.is _, StP.is _, StP.is _] (by kernel_rfl)
  case hobs =>
    refine ⟨fun y w' hS hF K hK => ?_, ?_⟩
    · skip -- 0: move
      simp only [fillL, cond_true, cond_false, List.getD_cons_zero, List.getD_cons_succ, StP.is, Act.put, List.setIfInBounds_toArray, List.set_cons_zero, List.set_cons_succ, Nat.reduceAdd] at hK ⊢
      refine rg_yes (by kernel_rfl) ?_
      clear hF
      go_simp
      exact hK _ _ (Ext.refl _) rfl
    refine ⟨fun y w' hS hF K hK => ?_, ?_⟩
    · skip -- 1: nilCheck
      have e7 : y 7 = _ := hF.1
      simp only [fillL, cond_true, cond_false, List.getD_cons_zero, List.getD_cons_succ, StP.is, Act.put, List.setIfInBounds_toArray, List.set_cons_zero, List.set_cons_succ, Nat.reduceAdd, e7] at hK ⊢
      refine rg_yes (by kernel_rfl) ?_
      clear e7
      clear hF
      go_simp
      exact hK _ _ (Ext.refl _) rfl
    refine ⟨fun y w' hS hF K hK => ?_, ?_⟩
    · skip -- 2: fieldAddr
      have e8 : y 8 = _ := hF.1
      simp only [fillL, cond_true, cond_false, List.getD_cons_zero, List.getD_cons_succ, StP.is, Act.put, List.setIfInBounds_toArray, List.set_cons_zero, List.set_cons_succ, Nat.reduceAdd, e8] at hK ⊢
      refine rg_yes (by kernel_rfl) ?_
      clear e8
      clear hF
      go_simp
      exact hK _ _ (Ext.refl _) rfl
    refine ⟨fun y w' hS hF K hK => ?_, ?_⟩
    · skip -- 3: load
      have e9 : y 9 = _ := hF.1
      simp only [fillL, cond_true, cond_false, List.getD_cons_zero, List.getD_cons_succ, StP.is, Act.put, List.setIfInBounds_toArray, List.set_cons_zero, List.set_cons_succ, Nat.reduceAdd, e9] at hK ⊢
      refine rg_yes (by kernel_rfl) ?_
      have qx0_ := (Below.cell hS lX).trans uc0
      have qx1_ := (Below.cell hS lX).trans uc1
      have qx2_ := (Below.cell hS lX).trans uc2
      have qx3_ := (Below.cell hS lX).trans uc3
      have qx4_ := (Below.cell hS lX).trans uc4
      have qx5_ := (Below.cell hS lX).trans uc5
      clear e9
      clear hF
      go_simp
      exact hK _ _ (Ext.refl _) rfl
    refine ⟨fun y w' hS hF K hK => ?_, ?_⟩
    · skip -- 4: call
      have e10 : y 10 = _ := hF.1
      simp only [fillL, cond_true, cond_false, List.getD_cons_zero, List.getD_cons_succ, StP.is, Act.put, List.setIfInBounds_toArray, List.set_cons_zero, List.set_cons_succ, Nat.reduceAdd, e10] at hK ⊢
      refine rg_yes (by kernel_rfl) ?_
      have qx0_ := (Below.cell hS lX).trans uc0
      have qx1_ := (Below.cell hS lX).trans uc1
      have qx2_ := (Below.cell hS lX).trans uc2
      have qx3_ := (Below.cell hS lX).trans uc3
      have qx4_ := (Below.cell hS lX).trans uc4
      have qx5_ := (Below.cell hS lX).trans uc5
      clear e10
      clear hF
      go_simp
      exact hK _ _ (Ext.refl _) rfl
    refine ⟨fun y w' hS hF K hK => ?_, ?_⟩
    · skip -- 5: move
      simp only [fillL, cond_true, cond_false, List.getD_cons_zero, List.getD_cons_succ, StP.is, Act.put, List.setIfInBounds_toArray, List.set_cons_zero, List.set_cons_succ, Nat.reduceAdd] at hK ⊢
      refine rg_yes (by kernel_rfl) ?_
      clear hF
      go_simp
      exact hK _ _ (Ext.refl _) rfl
    refine ⟨fun y w' hS hF K hK => ?_, ?_⟩
    · skip -- 6: nilCheck
      have e12 : y 12 = _ := hF.1
      simp only [fillL, cond_true, cond_false, List.getD_cons_zero, List.getD_cons_succ, StP.is, Act.put, List.setIfInBounds_toArray, List.set_cons_zero, List.set_cons_succ, Nat.reduceAdd, e12] at hK ⊢
      refine rg_yes (by kernel_rfl) ?_
      clear e12
      clear hF
      go_simp
      exact hK _ _ (Ext.refl _) rfl
    refine ⟨fun y w' hS hF K hK => ?_, ?_⟩
    · skip -- 7: fieldAddr
      have e13 : y 13 = _ := hF.1
      simp only [fillL, cond_true, cond_false, List.getD_cons_zero, List.getD_cons_succ, StP.is, Act.put, List.setIfInBounds_toArray, List.set_cons_zero, List.set_cons_succ, Nat.reduceAdd, e13] at hK ⊢
      refine rg_yes (by kernel_rfl) ?_
      clear e13
      clear hF
      go_simp
      exact hK _ _ (Ext.refl _) rfl
    refine ⟨fun y w' hS hF K hK => ?_, ?_⟩
    · skip -- 8: load
      have e14 : y 14 = _ := hF.1
      simp only [fillL, cond_true, cond_false, List.getD_cons_zero, List.getD_cons_succ, StP.is, Act.put, List.setIfInBounds_toArray, List.set_cons_zero, List.set_cons_succ, Nat.reduceAdd, e14] at hK ⊢
      refine rg_yes (by kernel_rfl) ?_
      have qx0_ := (Below.cell hS lX).trans uc0
      have qx1_ := (Below.cell hS lX).trans uc1
      have qx2_ := (Below.cell hS lX).trans uc2
      have qx3_ := (Below.cell hS lX).trans uc3
      have qx4_ := (Below.cell hS lX).trans uc4
      have qx5_ := (Below.cell hS lX).trans uc5
      clear e14
      clear hF
      go_simp
      exact hK _ _ (Ext.refl _) rfl
    refine ⟨fun y w' hS hF K hK => ?_, ?_⟩
    · skip -- 9: call
      have e15 : y 15 = _ := hF.1
      simp only [fillL, cond_true, cond_false, List.getD_cons_zero, List.getD_cons_succ, StP.is, Act.put, List.setIfInBounds_toArray, List.set_cons_zero, List.set_cons_succ, Nat.reduceAdd, e15] at hK ⊢
      refine rg_yes (by kernel_rfl) ?_
      have qx0_ := (Below.cell hS lX).trans uc0
      have qx1_ := (Below.cell hS lX).trans uc1
      have qx2_ := (Below.cell hS lX).trans uc2
      have qx3_ := (Below.cell hS lX).trans uc3
      have qx4_ := (Below.cell hS lX).trans uc4
      have qx5_ := (Below.cell hS lX).trans uc5
      clear e15
      clear hF
      go_simp
      exact hK _ _ (Ext.refl _) rfl
    refine ⟨fun y w' hS hF K hK => ?_, ?_⟩
    · skip -- 10: assign
      have e11 : y 11 = _ := hF.1
      simp only [fillL, cond_true, cond_false, List.getD_cons_zero, List.getD_cons_succ, StP.is, Act.put, List.setIfInBounds_toArray, List.set_cons_zero, List.set_cons_succ, Nat.reduceAdd, e11] at hK ⊢
      refine rg_yes (by kernel_rfl) ?_
      clear e11
      clear hF
      go_simp
      exact hK _ _ (Ext.refl _) rfl
    refine ⟨fun y w' hS hF K hK => ?_, ?_⟩
    · skip -- 11: assign
      have e16 : y 16 = _ := hF.1
      simp only [fillL, cond_true, cond_false, List.getD_cons_zero, List.getD_cons_succ, StP.is, Act.put, List.setIfInBounds_toArray, List.set_cons_zero, List.set_cons_succ, Nat.reduceAdd, e16] at hK ⊢
      refine rg_yes (by kernel_rfl) ?_
      clear e16
      clear hF
      go_simp
      exact hK _ _ (Ext.refl _) rfl
    trivial
  case hend =>
    intro y w9 hS9 hF
    have e5 : y 5 = _ := hF.2.2.2.2.2.2.2.2.2.2.1
    have e6 : y 6 = _ := hF.2.2.2.2.2.2.2.2.2.2.2.1
    clear hF
    simp only [fillL, cond_true, cond_false, Nat.reduceAdd, e5, e6]
    clear e5 e6
    have HB1 := Lib.hid (show Below w.heap.size w w9 from hS9)
    have HQ1 := Lib.hid ((HB1.out.block X lX).trans HQ.out)
    clear hS9 uc0 uf0 uc1 uf1 uc2 uf2 uc3 uf3 uc4 uf4 uc5 uf5
    go_wp2_with fail
    refine (miss2_any X ro go A0 0 c0 (.slice A1 (ys.length + 1) c1) (.slice A2 0 c2) (.slice A3 0 c3) row w9 HQ1.out (noIdx_empty A0 c0 row w9)).mono ?_
    rintro e w1' ⟨rfl, rfl⟩
    go_wp2_with fail
    refine (take3_any X ro go S1 A1 c1 ys (.slice A0 0 c0) (.slice A2 0 c2) (.slice A3 0 c3) row w1' HQ1.out (H1.out.below HB1.out) (by omega) HX1.out HRW.out).mono ?_
    rintro e w2 ⟨rfl, hq2, hO2, hC2⟩
    have HQ2 := Lib.hid hq2; have HO2 := Lib.hid hO2; have HC2 := Lib.hid hC2
    clear hq2 hO2 hC2
    go_wp2_with fail
    refine (front3_any X ro go S1 A1 ys.length c1 ys (.slice A0 0 c0) (.slice A2 0 c2) (.slice A3 0 c3) row w2 HQ2.out HO2.out rfl (by omega) HX1.out).mono ?_
    rintro e w3 ⟨rfl, A', c', S', hq3, hO3, hS3, hC3⟩
    have HPOST : Hid (∃ A' c' S', w3.heap[X]? = some (.cells #[.int .i64 ro, .int .i64 go, .slice A0 0 c0, .slice A' (ys.length + 1) c', .slice A2 0 c2, .slice A3 0 c3] 26 (0, 0)) ∧ OwnA w3 3 1 S' A' (ys.length + 1) c' ((row :: ys).map (Value.int .i64)) ∧ (∀ g ∈ S', g ∈ S1 ∨ w.heap.size ≤ g) ∧ Chg (fun k => k = X ∨ k ∈ S1) w w3) := Lib.hid ⟨A', c', S', hq3, hO3, fun g hg => (hS3 g hg).imp id (fun h => by have := HC2.out.size; have := HB1.out.size; omega),
      ⟨hC3.os.trans (HC2.out.os.trans HB1.out.os), hC3.tape.trans (HC2.out.tape.trans HB1.out.tape), hC3.output.trans (HC2.out.output.trans HB1.out.output), by have := hC3.size; have := HC2.out.size; have := HB1.out.size; omega, fun k hk hs => (hC3.block k (by have := HC2.out.size; have := HB1.out.size; omega) hs).trans ((HC2.out.block k (by have := HB1.out.size; omega) hs).trans (HB1.out.block k hk))⟩⟩
    clear hq3 hO3 hS3 hC3
    go_wp2_with fail
    go_ret
    exact ⟨rfl, HPOST.out⟩
set_option maxRecDepth 100000 in
set_option maxHeartbeats 4000000 in
theorem askMiss_any (X : Nat) (ro go : Int) (S0 : List Nat) (A0 : Option Addr) (n0 c0 : Nat) (O : List Int) (A1 : Option Addr) (c1 : Nat) (A2 : Option Addr) (c2 : Nat) (A3 : Option Addr) (c3 : Nat) (row : Int) (w : World) (hq : w.heap[X]? = some (.cells #[.int .i64 ro, .int .i64 go, .slice A0 n0 c0, .slice A1 0 c1, .slice A2 0 c2, .slice A3 0 c3] 26 (0, 0))) (h0 : OwnA w 3 1 S0 A0 n0 c0 (O.map (Value.int .i64))) (hl : O.length = n0) (hn : (n0 : Int) < ro) (hro : ro ≤ 8) (hX0 : X ∉ S0) (hr : row ∉ O) :
    Calls Try.prog 24 #[.pointer (some ⟨X, 0, none⟩), .int .i64 row] w fun e w' => e = .returned (.bool false) ∧ ∃ A' c' S', w'.heap[X]? = some (.cells #[.int .i64 ro, .int .i64 go, .slice A' (n0 + 1) c', .slice A1 0 c1, .slice A2 0 c2, .slice A3 0 c3] 26 (0, 0)) ∧ OwnA w' 3 1 S' A' (n0 + 1) c' ((row :: O).map (Value.int .i64)) ∧ (∀ g ∈ S', g ∈ S0 ∨ w.heap.size ≤ g) ∧ Chg (fun k => k = X ∨ k ∈ S0) w w' := by
  have lX := (Array.getElem?_eq_some_iff.1 hq).1
  have HQ := Lib.hid hq
  have uc0 := cell_of_row _ _ 0 _ _ (0, 0) hq; have uf0 := block_free hq 0; have uc1 := cell_of_row _ _ 1 _ _ (0, 0) hq; have uf1 := block_free hq 1; have uc2 := cell_of_row _ _ 2 _ _ (0, 0) hq; have uf2 := block_free hq 2; have uc3 := cell_of_row _ _ 3 _ _ (0, 0) hq; have uf3 := block_free hq 3; have uc4 := cell_of_row _ _ 4 _ _ (0, 0) hq; have uf4 := block_free hq 4; have uc5 := cell_of_row _ _ 5 _ _ (0, 0) hq; have uf5 := block_free hq 5
  clear hq
  have H0 := Lib.hid h0; have HX0 := Lib.hid hX0; have HRW := Lib.hid hr
  clear h0 hX0 hr
  have h8 : n0 ≤ 7 := by omega
  have nu0 : IntKind.i64.wrap (n0 : Int) = (n0 : Int) := IntWalk.i64_in _ (by omega)
  have nu1 : IntKind.i64.wrap ((n0 : Int) + 0) = (n0 : Int) := by rw [Int.add_zero]; exact nu0
  have nu2 : IntKind.i64.wrap (2 * ro) = 2 * ro := IntWalk.i64_in _ (by omega)
  have nu3 : ((n0 : Int) == 2 * ro) = false := by simp; omega
  have nu4 : ¬ ((n0 : Int) = 2 * ro) := by omega
  go_enter Try.func24, Try.ntmps24
  go_wp2_with fail
  apply wp_region_rg (by kernel_rfl) (false :: false :: false :: false :: false :: true :: true :: true :: true :: true :: true :: true :: true :: true :: true :: true :: true :: false :: false :: false :: false :: false :: false :: false :: false :: false :: false :: false :: false :: false :: false :: false :: false :: false :: false :: false :: false :: false :: false :: false :: false :: false :: false :: false :: false :: false :: false :: false :: false :: false :: false :: false :: false :: false :: false :: false :: false :: false :: false :: false :: false :: false :: false :: false :: false :: false :: false :: false :: false :: false :: false :: false :: false :: false :: false :: false :: false :: false :: false :: false :: false :: false :: false :: false :: false :: false :: false :: false :: false :: false :: false :: false :: false :: false :: false :: false :: false :: false :: false :: false :: false :: false :: false :: false :: false :: false :: false :: false :: false :: false :: false :: false :: false :: false :: false :: false :: false :: false :: false :: false :: false :: false :: false :: false :: false :: false :: false :: false :: false :: false :: false :: false :: false :: false :: false :: false :: false :: false :: false :: false :: false :: false :: false :: false :: false :: false :: false :: false :: false :: []) [some 7, some 8, some 9, some 10, some 11, some 12, some 13, some 14, some 15, some 16, some 5, some 6] [[], [0], [1], [2], [3], [], [5], [6], [7], [8], [4], [9]] [StP.is _, StP.is _, StP.is _, StP.is _, StP.is _, StP.is _, StP.is _, StP.is _, StP.is _, StP.is _, StP.is _, StP.is _] (by kernel_rfl)
  case hobs =>
    refine ⟨fun y w' hS hF K hK => ?_, ?_⟩
    · skip -- 0: move
      simp only [fillL, cond_true, cond_false, List.getD_cons_zero, List.getD_cons_succ, StP.is, Act.put, List.setIfInBounds_toArray, List.set_cons_zero, List.set_cons_succ, Nat.reduceAdd] at hK ⊢
      refine rg_yes (by kernel_rfl) ?_
      clear hF
      go_simp
      exact hK _ _ (Ext.refl _) rfl
    refine ⟨fun y w' hS hF K hK => ?_, ?_⟩
    · skip -- 1: nilCheck
      have e7 : y 7 = _ := hF.1
      simp only [fillL, cond_true, cond_false, List.getD_cons_zero, List.getD_cons_succ, StP.is, Act.put, List.setIfInBounds_toArray, List.set_cons_zero, List.set_cons_succ, Nat.reduceAdd, e7] at hK ⊢
      refine rg_yes (by kernel_rfl) ?_
      clear e7
      clear hF
      go_simp
      exact hK _ _ (Ext.refl _) rfl
    refine ⟨fun y w' hS hF K hK => ?_, ?_⟩
    · skip -- 2: fieldAddr
      have e8 : y 8 = _ := hF.1
      simp only [fillL, cond_true, cond_false, List.getD_cons_zero, List.getD_cons_succ, StP.is, Act.put, List.setIfInBounds_toArray, List.set_cons_zero, List.set_cons_succ, Nat.reduceAdd, e8] at hK ⊢
      refine rg_yes (by kernel_rfl) ?_
      clear e8
      clear hF
      go_simp
      exact hK _ _ (Ext.refl _) rfl
    refine ⟨fun y w' hS hF K hK => ?_, ?_⟩
    · skip -- 3: load
      have e9 : y 9 = _ := hF.1
      simp only [fillL, cond_true, cond_false, List.getD_cons_zero, List.getD_cons_succ, StP.is, Act.put, List.setIfInBounds_toArray, List.set_cons_zero, List.set_cons_succ, Nat.reduceAdd, e9] at hK ⊢
      refine rg_yes (by kernel_rfl) ?_
      have qx0_ := (Below.cell hS lX).trans uc0
      have qx1_ := (Below.cell hS lX).trans uc1
      have qx2_ := (Below.cell hS lX).trans uc2
      have qx3_ := (Below.cell hS lX).trans uc3
      have qx4_ := (Below.cell hS lX).trans uc4
      have qx5_ := (Below.cell hS lX).trans uc5
      clear e9
      clear hF
      go_simp
      exact hK _ _ (Ext.refl _) rfl
    refine ⟨fun y w' hS hF K hK => ?_, ?_⟩
    · skip -- 4: call
      have e10 : y 10 = _ := hF.1
      simp only [fillL, cond_true, cond_false, List.getD_cons_zero, List.getD_cons_succ, StP.is, Act.put, List.setIfInBounds_toArray, List.set_cons_zero, List.set_cons_succ, Nat.reduceAdd, e10] at hK ⊢
      refine rg_yes (by kernel_rfl) ?_
      have qx0_ := (Below.cell hS lX).trans uc0
      have qx1_ := (Below.cell hS lX).trans uc1
      have qx2_ := (Below.cell hS lX).trans uc2
      have qx3_ := (Below.cell hS lX).trans uc3
      have qx4_ := (Below.cell hS lX).trans uc4
      have qx5_ := (Below.cell hS lX).trans uc5
      clear e10
      clear hF
      go_simp
      exact hK _ _ (Ext.refl _) rfl
    refine ⟨fun y w' hS hF K hK => ?_, ?_⟩
    · skip -- 5: move
      simp only [fillL, cond_true, cond_false, List.getD_cons_zero, List.getD_cons_succ, StP.is, Act.put, List.setIfInBounds_toArray, List.set_cons_zero, List.set_cons_succ, Nat.reduceAdd] at hK ⊢
      refine rg_yes (by kernel_rfl) ?_
      clear hF
      go_simp
      exact hK _ _ (Ext.refl _) rfl
    refine ⟨fun y w' hS hF K hK => ?_, ?_⟩
    · skip -- 6: nilCheck
      have e12 : y 12 = _ := hF.1
      simp only [fillL, cond_true, cond_false, List.getD_cons_zero, List.getD_cons_succ, StP.is, Act.put, List.setIfInBounds_toArray, List.set_cons_zero, List.set_cons_succ, Nat.reduceAdd, e12] at hK ⊢
      refine rg_yes (by kernel_rfl) ?_
      clear e12
      clear hF
      go_simp
      exact hK _ _ (Ext.refl _) rfl
    refine ⟨fun y w' hS hF K hK => ?_, ?_⟩
    · skip -- 7: fieldAddr
      have e13 : y 13 = _ := hF.1
      simp only [fillL, cond_true, cond_false, List.getD_cons_zero, List.getD_cons_succ, StP.is, Act.put, List.setIfInBounds_toArray, List.set_cons_zero, List.set_cons_succ, Nat.reduceAdd, e13] at hK ⊢
      refine rg_yes (by kernel_rfl) ?_
      clear e13
      clear hF
      go_simp
      exact hK _ _ (Ext.refl _) rfl
    refine ⟨fun y w' hS hF K hK => ?_, ?_⟩
    · skip -- 8: load
      have e14 : y 14 = _ := hF.1
      simp only [fillL, cond_true, cond_false, List.getD_cons_zero, List.getD_cons_succ, StP.is, Act.put, List.setIfInBounds_toArray, List.set_cons_zero, List.set_cons_succ, Nat.reduceAdd, e14] at hK ⊢
      refine rg_yes (by kernel_rfl) ?_
      have qx0_ := (Below.cell hS lX).trans uc0
      have qx1_ := (Below.cell hS lX).trans uc1
      have qx2_ := (Below.cell hS lX).trans uc2
      have qx3_ := (Below.cell hS lX).trans uc3
      have qx4_ := (Below.cell hS lX).trans uc4
      have qx5_ := (Below.cell hS lX).trans uc5
      clear e14
      clear hF
      go_simp
      exact hK _ _ (Ext.refl _) rfl
    refine ⟨fun y w' hS hF K hK => ?_, ?_⟩
    · skip -- 9: call
      have e15 : y 15 = _ := hF.1
      simp only [fillL, cond_true, cond_false, List.getD_cons_zero, List.getD_cons_succ, StP.is, Act.put, List.setIfInBounds_toArray, List.set_cons_zero, List.set_cons_succ, Nat.reduceAdd, e15] at hK ⊢
      refine rg_yes (by kernel_rfl) ?_
      have qx0_ := (Below.cell hS lX).trans uc0
      have qx1_ := (Below.cell hS lX).trans uc1
      have qx2_ := (Below.cell hS lX).trans uc2
      have qx3_ := (Below.cell hS lX).trans uc3
      have qx4_ := (Below.cell hS lX).trans uc4
      have qx5_ := (Below.cell hS lX).trans uc5
      clear e15
      clear hF
      go_simp
      exact hK _ _ (Ext.refl _) rfl
    refine ⟨fun y w' hS hF K hK => ?_, ?_⟩
    · skip -- 10: assign
      have e11 : y 11 = _ := hF.1
      simp only [fillL, cond_true, cond_false, List.getD_cons_zero, List.getD_cons_succ, StP.is, Act.put, List.setIfInBounds_toArray, List.set_cons_zero, List.set_cons_succ, Nat.reduceAdd, e11] at hK ⊢
      refine rg_yes (by kernel_rfl) ?_
      clear e11
      clear hF
      go_simp
      exact hK _ _ (Ext.refl _) rfl
    refine ⟨fun y w' hS hF K hK => ?_, ?_⟩
    · skip -- 11: assign
      have e16 : y 16 = _ := hF.1
      simp only [fillL, cond_true, cond_false, List.getD_cons_zero, List.getD_cons_succ, StP.is, Act.put, List.setIfInBounds_toArray, List.set_cons_zero, List.set_cons_succ, Nat.reduceAdd, e16] at hK ⊢
      refine rg_yes (by kernel_rfl) ?_
      clear e16
      clear hF
      go_simp
      exact hK _ _ (Ext.refl _) rfl
    trivial
  case hend =>
    intro y w9 hS9 hF
    have e5 : y 5 = _ := hF.2.2.2.2.2.2.2.2.2.2.1
    have e6 : y 6 = _ := hF.2.2.2.2.2.2.2.2.2.2.2.1
    clear hF
    simp only [fillL, cond_true, cond_false, Nat.reduceAdd, e5, e6]
    clear e5 e6
    have HB1 := Lib.hid (show Below w.heap.size w w9 from hS9)
    have HQ1 := Lib.hid ((HB1.out.block X lX).trans HQ.out)
    clear hS9 uc0 uf0 uc1 uf1 uc2 uf2 uc3 uf3 uc4 uf4 uc5 uf5
    go_wp2_with fail
    refine (miss2_any X ro go A0 n0 c0 (.slice A1 0 c1) (.slice A2 0 c2) (.slice A3 0 c3) row w9 HQ1.out (noIdx_own (H0.out.below HB1.out) hl (by omega) HRW.out)).mono ?_
    rintro e w1' ⟨rfl, rfl⟩
    go_wp2_with fail
    refine (miss3_any X ro go A1 0 c1 (.slice A0 n0 c0) (.slice A2 0 c2) (.slice A3 0 c3) row w1' HQ1.out (noIdx_empty A1 c1 row w1')).mono ?_
    rintro e w2' ⟨rfl, rfl⟩
    go_wp2_with fail
    refine (miss4_any X ro go A2 0 c2 (.slice A0 n0 c0) (.slice A1 0 c1) (.slice A3 0 c3) row w2' HQ1.out (noIdx_empty A2 c2 row w2')).mono ?_
    rintro e w3' ⟨rfl, rfl⟩
    go_wp2_with fail
    refine (miss5_any X ro go A3 0 c3 (.slice A0 n0 c0) (.slice A1 0 c1) (.slice A2 0 c2) row w3' HQ1.out (noIdx_empty A3 c3 row w3')).mono ?_
    rintro e wa ⟨rfl, rfl⟩
    have hqa := HQ1.out
    have lA := (Array.getElem?_eq_some_iff.1 hqa).1
    have ac0 := cell_of_row _ _ 0 _ _ (0, 0) hqa; have af0 := block_free hqa 0; have ac1 := cell_of_row _ _ 1 _ _ (0, 0) hqa; have af1 := block_free hqa 1; have ac2 := cell_of_row _ _ 2 _ _ (0, 0) hqa; have af2 := block_free hqa 2; have ac3 := cell_of_row _ _ 3 _ _ (0, 0) hqa; have af3 := block_free hqa 3; have ac4 := cell_of_row _ _ 4 _ _ (0, 0) hqa; have af4 := block_free hqa 4; have ac5 := cell_of_row _ _ 5 _ _ (0, 0) hqa; have af5 := block_free hqa 5
    clear hqa
    go_wp2_with fail
    apply wp_region_rg (by kernel_rfl) (false :: false :: false :: false :: false :: false :: false :: false :: false :: false :: false :: false :: false :: false :: false :: false :: false :: false :: false :: false :: false :: false :: false :: false :: false :: false :: false :: false :: false :: false :: false :: false :: false :: false :: false :: false :: false :: false :: false :: false :: false :: false :: false :: false :: false :: false :: false :: false :: false :: false :: false :: false :: false :: false :: false :: false :: false :: false :: false :: false :: false :: false :: false :: false :: false :: false :: false :: false :: false :: false :: false :: false :: false :: false :: false :: false :: false :: false :: false :: false :: false :: false :: false :: false :: false :: false :: false :: false :: false :: false :: false :: false :: false :: false :: false :: true :: true :: true :: true :: true :: true :: true :: true :: true :: true :: true :: true :: true :: false :: false :: false :: false :: false :: false :: false :: false :: false :: false :: false :: false :: false :: false :: false :: false :: false :: false :: false :: false :: false :: false :: false :: false :: false :: false :: false :: false :: false :: false :: false :: false :: false :: false :: false :: false :: false :: false :: false :: false :: false :: []) (some 96 :: some 97 :: some 98 :: some 99 :: some 100 :: some 101 :: some 102 :: some 103 :: some 104 :: some 105 :: some 106 :: some 107 :: some 95 :: []) ([] :: [0] :: [1] :: [2] :: [3] :: [] :: [4, 5] :: [] :: [7] :: [8] :: [9] :: [6, 10] :: [11] :: []) (StP.is _ :: StP.is _ :: StP.is _ :: StP.is _ :: StP.is _ :: StP.is _ :: StP.is _ :: StP.is _ :: StP.is _ :: StP.is _ :: StP.is _ :: StP.is _ :: StP.is _ :: []) (by kernel_rfl)
    case hobs =>
      refine ⟨fun y w' hS hF K hK => ?_, ?_⟩
      · skip -- 0: move
        simp only [fillL, cond_true, cond_false, List.getD_cons_zero, List.getD_cons_succ, StP.is, Act.put, List.setIfInBounds_toArray, List.set_cons_zero, List.set_cons_succ, Nat.reduceAdd] at hK ⊢
        refine rg_yes (by kernel_rfl) ?_
        clear hF
        go_simp
        exact hK _ _ (Ext.refl _) rfl
      refine ⟨fun y w' hS hF K hK => ?_, ?_⟩
      · skip -- 1: nilCheck
        have e96 : y 96 = _ := hF.1
        simp only [fillL, cond_true, cond_false, List.getD_cons_zero, List.getD_cons_succ, StP.is, Act.put, List.setIfInBounds_toArray, List.set_cons_zero, List.set_cons_succ, Nat.reduceAdd, e96] at hK ⊢
        refine rg_yes (by kernel_rfl) ?_
        clear e96
        clear hF
        go_simp
        exact hK _ _ (Ext.refl _) rfl
      refine ⟨fun y w' hS hF K hK => ?_, ?_⟩
      · skip -- 2: fieldAddr
        have e97 : y 97 = _ := hF.1
        simp only [fillL, cond_true, cond_false, List.getD_cons_zero, List.getD_cons_succ, StP.is, Act.put, List.setIfInBounds_toArray, List.set_cons_zero, List.set_cons_succ, Nat.reduceAdd, e97] at hK ⊢
        refine rg_yes (by kernel_rfl) ?_
        clear e97
        clear hF
        go_simp
        exact hK _ _ (Ext.refl _) rfl
      refine ⟨fun y w' hS hF K hK => ?_, ?_⟩
      · skip -- 3: load
        have e98 : y 98 = _ := hF.1
        simp only [fillL, cond_true, cond_false, List.getD_cons_zero, List.getD_cons_succ, StP.is, Act.put, List.setIfInBounds_toArray, List.set_cons_zero, List.set_cons_succ, Nat.reduceAdd, e98] at hK ⊢
        refine rg_yes (by kernel_rfl) ?_
        have qx0_ := (Below.cell hS lA).trans ac0
        have qx1_ := (Below.cell hS lA).trans ac1
        have qx2_ := (Below.cell hS lA).trans ac2
        have qx3_ := (Below.cell hS lA).trans ac3
        have qx4_ := (Below.cell hS lA).trans ac4
        have qx5_ := (Below.cell hS lA).trans ac5
        clear e98
        clear hF
        go_simp
        exact hK _ _ (Ext.refl _) rfl
      refine ⟨fun y w' hS hF K hK => ?_, ?_⟩
      · skip -- 4: call
        have e99 : y 99 = _ := hF.1
        simp only [fillL, cond_true, cond_false, List.getD_cons_zero, List.getD_cons_succ, StP.is, Act.put, List.setIfInBounds_toArray, List.set_cons_zero, List.set_cons_succ, Nat.reduceAdd, e99] at hK ⊢
        refine rg_yes (by kernel_rfl) ?_
        have qx0_ := (Below.cell hS lA).trans ac0
        have qx1_ := (Below.cell hS lA).trans ac1
        have qx2_ := (Below.cell hS lA).trans ac2
        have qx3_ := (Below.cell hS lA).trans ac3
        have qx4_ := (Below.cell hS lA).trans ac4
        have qx5_ := (Below.cell hS lA).trans ac5
        clear e99
        clear hF
        go_simp
        exact hK _ _ (Ext.refl _) rfl
      refine ⟨fun y w' hS hF K hK => ?_, ?_⟩
      · skip -- 5: move
        simp only [fillL, cond_true, cond_false, List.getD_cons_zero, List.getD_cons_succ, StP.is, Act.put, List.setIfInBounds_toArray, List.set_cons_zero, List.set_cons_succ, Nat.reduceAdd] at hK ⊢
        refine rg_yes (by kernel_rfl) ?_
        clear hF
        go_simp
        exact hK _ _ (Ext.refl _) rfl
      refine ⟨fun y w' hS hF K hK => ?_, ?_⟩
      · skip -- 6: binOp
        have e100 : y 100 = _ := hF.1
        have e101 : y 101 = _ := hF.2.1
        simp only [fillL, cond_true, cond_false, List.getD_cons_zero, List.getD_cons_succ, StP.is, Act.put, List.setIfInBounds_toArray, List.set_cons_zero, List.set_cons_succ, Nat.reduceAdd, e100, e101] at hK ⊢
        refine rg_yes (by kernel_rfl) ?_
        clear e100 e101
        clear hF
        go_simp
        exact hK _ _ (Ext.refl _) rfl
      refine ⟨fun y w' hS hF K hK => ?_, ?_⟩
      · skip -- 7: move
        simp only [fillL, cond_true, cond_false, List.getD_cons_zero, List.getD_cons_succ, StP.is, Act.put, List.setIfInBounds_toArray, List.set_cons_zero, List.set_cons_succ, Nat.reduceAdd] at hK ⊢
        refine rg_yes (by kernel_rfl) ?_
        clear hF
        go_simp
        exact hK _ _ (Ext.refl _) rfl
      refine ⟨fun y w' hS hF K hK => ?_, ?_⟩
      · skip -- 8: nilCheck
        have e103 : y 103 = _ := hF.1
        simp only [fillL, cond_true, cond_false, List.getD_cons_zero, List.getD_cons_succ, StP.is, Act.put, List.setIfInBounds_toArray, List.set_cons_zero, List.set_cons_succ, Nat.reduceAdd, e103] at hK ⊢
        refine rg_yes (by kernel_rfl) ?_
        clear e103
        clear hF
        go_simp
        exact hK _ _ (Ext.refl _) rfl
      refine ⟨fun y w' hS hF K hK => ?_, ?_⟩
      · skip -- 9: fieldAddr
        have e104 : y 104 = _ := hF.1
        simp only [fillL, cond_true, cond_false, List.getD_cons_zero, List.getD_cons_succ, StP.is, Act.put, List.setIfInBounds_toArray, List.set_cons_zero, List.set_cons_succ, Nat.reduceAdd, e104] at hK ⊢
        refine rg_yes (by kernel_rfl) ?_
        clear e104
        clear hF
        go_simp
        exact hK _ _ (Ext.refl _) rfl
      refine ⟨fun y w' hS hF K hK => ?_, ?_⟩
      · skip -- 10: load
        have e105 : y 105 = _ := hF.1
        simp only [fillL, cond_true, cond_false, List.getD_cons_zero, List.getD_cons_succ, StP.is, Act.put, List.setIfInBounds_toArray, List.set_cons_zero, List.set_cons_succ, Nat.reduceAdd, e105] at hK ⊢
        refine rg_yes (by kernel_rfl) ?_
        have qx0_ := (Below.cell hS lA).trans ac0
        have qx1_ := (Below.cell hS lA).trans ac1
        have qx2_ := (Below.cell hS lA).trans ac2
        have qx3_ := (Below.cell hS lA).trans ac3
        have qx4_ := (Below.cell hS lA).trans ac4
        have qx5_ := (Below.cell hS lA).trans ac5
        clear e105
        clear hF
        go_simp
        exact hK _ _ (Ext.refl _) rfl
      refine ⟨fun y w' hS hF K hK => ?_, ?_⟩
      · skip -- 11: binOp
        have e102 : y 102 = _ := hF.1
        have e106 : y 106 = _ := hF.2.1
        simp only [fillL, cond_true, cond_false, List.getD_cons_zero, List.getD_cons_succ, StP.is, Act.put, List.setIfInBounds_toArray, List.set_cons_zero, List.set_cons_succ, Nat.reduceAdd, e102, e106] at hK ⊢
        refine rg_yes (by kernel_rfl) ?_
        clear e102 e106
        clear hF
        go_simp
        exact hK _ _ (Ext.refl _) rfl
      refine ⟨fun y w' hS hF K hK => ?_, ?_⟩
      · skip -- 12: assign
        have e107 : y 107 = _ := hF.1
        simp only [fillL, cond_true, cond_false, List.getD_cons_zero, List.getD_cons_succ, StP.is, Act.put, List.setIfInBounds_toArray, List.set_cons_zero, List.set_cons_succ, Nat.reduceAdd, e107] at hK ⊢
        refine rg_yes (by kernel_rfl) ?_
        clear e107
        clear hF
        go_simp
        exact hK _ _ (Ext.refl _) rfl
      trivial
    case hend =>
      intro y w9 hS9 hF
      have e95 : y 95 = _ := hF.2.2.2.2.2.2.2.2.2.2.2.2.1
      clear hF
      simp only [fillL, cond_true, cond_false, Nat.reduceAdd, e95]
      clear e95
      have HBb := Lib.hid (HB1.out.trans (Below.mono (show Below wa.heap.size wa w9 from hS9) HB1.out.size))
      have hqb := (HBb.out.block X lX).trans HQ.out
      have lB := (Array.getElem?_eq_some_iff.1 hqb).1
      have bc0 := cell_of_row _ _ 0 _ _ (0, 0) hqb; have bf0 := block_free hqb 0; have bc1 := cell_of_row _ _ 1 _ _ (0, 0) hqb; have bf1 := block_free hqb 1; have bc2 := cell_of_row _ _ 2 _ _ (0, 0) hqb; have bf2 := block_free hqb 2; have bc3 := cell_of_row _ _ 3 _ _ (0, 0) hqb; have bf3 := block_free hqb 3; have bc4 := cell_of_row _ _ 4 _ _ (0, 0) hqb; have bf4 := block_free hqb 4; have bc5 := cell_of_row _ _ 5 _ _ (0, 0) hqb; have bf5 := block_free hqb 5
      have HQb := Lib.hid hqb
      clear hqb hS9 ac0 af0 ac1 af1 ac2 af2 ac3 af3 ac4 af4 ac5 af5
      go_wp2_with fail
      rename World => wb
      apply wp_region_rg (by kernel_rfl) (false :: false :: false :: false :: false :: false :: false :: false :: false :: false :: false :: false :: false :: false :: false :: false :: false :: false :: false :: false :: false :: false :: false :: false :: false :: false :: false :: false :: false :: false :: false :: false :: false :: false :: false :: false :: false :: false :: false :: false :: false :: false :: false :: false :: false :: false :: false :: false :: false :: false :: false :: false :: false :: false :: false :: false :: false :: false :: false :: false :: false :: false :: false :: false :: false :: false :: false :: false :: false :: false :: false :: false :: false :: false :: false :: false :: false :: false :: false :: false :: false :: false :: false :: false :: false :: false :: false :: false :: false :: false :: false :: false :: false :: false :: false :: false :: false :: false :: false :: false :: false :: false :: false :: false :: false :: false :: false :: false :: true :: true :: true :: true :: true :: true :: true :: true :: true :: true :: true :: true :: true :: true :: true :: true :: true :: true :: true :: true :: true :: false :: false :: false :: false :: false :: false :: false :: false :: false :: false :: false :: false :: false :: false :: false :: false :: false :: false :: false :: false :: []) (some 108 :: some 109 :: some 110 :: some 111 :: some 112 :: some 113 :: some 114 :: some 115 :: some 116 :: some 117 :: some 118 :: some 119 :: some 120 :: some 121 :: some 122 :: some 123 :: some 124 :: some 125 :: some 126 :: some 127 :: some 128 :: []) ([] :: [0] :: [1] :: [2] :: [3] :: [] :: [5] :: [6] :: [7] :: [8] :: [4, 9] :: [] :: [10, 11] :: [] :: [12, 13] :: [] :: [15] :: [16] :: [17] :: [18] :: [14, 19] :: []) (StP.is _ :: StP.is _ :: StP.is _ :: StP.is _ :: StP.is _ :: StP.is _ :: StP.is _ :: StP.is _ :: StP.is _ :: StP.is _ :: StP.is _ :: StP.is _ :: StP.is _ :: StP.is _ :: StP.is _ :: StP.is _ :: StP.is _ :: StP.is _ :: StP.is _ :: StP.is _ :: StP.is _ :: []) (by kernel_rfl)
      case hobs =>
        refine ⟨fun y w' hS hF K hK => ?_, ?_⟩
        · skip -- 0: move
          simp only [fillL, cond_true, cond_false, List.getD_cons_zero, List.getD_cons_succ, StP.is, Act.put, List.setIfInBounds_toArray, List.set_cons_zero, List.set_cons_succ, Nat.reduceAdd] at hK ⊢
          refine rg_yes (by kernel_rfl) ?_
          clear hF
          go_simp
          exact hK _ _ (Ext.refl _) rfl
        refine ⟨fun y w' hS hF K hK => ?_, ?_⟩
        · skip -- 1: nilCheck
          have e108 : y 108 = _ := hF.1
          simp only [fillL, cond_true, cond_false, List.getD_cons_zero, List.getD_cons_succ, StP.is, Act.put, List.setIfInBounds_toArray, List.set_cons_zero, List.set_cons_succ, Nat.reduceAdd, e108] at hK ⊢
          refine rg_yes (by kernel_rfl) ?_
          clear e108
          clear hF
          go_simp
          exact hK _ _ (Ext.refl _) rfl
        refine ⟨fun y w' hS hF K hK => ?_, ?_⟩
        · skip -- 2: fieldAddr
          have e109 : y 109 = _ := hF.1
          simp only [fillL, cond_true, cond_false, List.getD_cons_zero, List.getD_cons_succ, StP.is, Act.put, List.setIfInBounds_toArray, List.set_cons_zero, List.set_cons_succ, Nat.reduceAdd, e109] at hK ⊢
          refine rg_yes (by kernel_rfl) ?_
          clear e109
          clear hF
          go_simp
          exact hK _ _ (Ext.refl _) rfl
        refine ⟨fun y w' hS hF K hK => ?_, ?_⟩
        · skip -- 3: load
          have e110 : y 110 = _ := hF.1
          simp only [fillL, cond_true, cond_false, List.getD_cons_zero, List.getD_cons_succ, StP.is, Act.put, List.setIfInBounds_toArray, List.set_cons_zero, List.set_cons_succ, Nat.reduceAdd, e110] at hK ⊢
          refine rg_yes (by kernel_rfl) ?_
          have qx0_ := (Below.cell hS lB).trans bc0
          have qx1_ := (Below.cell hS lB).trans bc1
          have qx2_ := (Below.cell hS lB).trans bc2
          have qx3_ := (Below.cell hS lB).trans bc3
          have qx4_ := (Below.cell hS lB).trans bc4
          have qx5_ := (Below.cell hS lB).trans bc5
          clear e110
          clear hF
          go_simp
          exact hK _ _ (Ext.refl _) rfl
        refine ⟨fun y w' hS hF K hK => ?_, ?_⟩
        · skip -- 4: call
          have e111 : y 111 = _ := hF.1
          simp only [fillL, cond_true, cond_false, List.getD_cons_zero, List.getD_cons_succ, StP.is, Act.put, List.setIfInBounds_toArray, List.set_cons_zero, List.set_cons_succ, Nat.reduceAdd, e111] at hK ⊢
          refine rg_yes (by kernel_rfl) ?_
          have qx0_ := (Below.cell hS lB).trans bc0
          have qx1_ := (Below.cell hS lB).trans bc1
          have qx2_ := (Below.cell hS lB).trans bc2
          have qx3_ := (Below.cell hS lB).trans bc3
          have qx4_ := (Below.cell hS lB).trans bc4
          have qx5_ := (Below.cell hS lB).trans bc5
          clear e111
          clear hF
          go_simp
          exact hK _ _ (Ext.refl _) rfl
        refine ⟨fun y w' hS hF K hK => ?_, ?_⟩
        · skip -- 5: move
          simp only [fillL, cond_true, cond_false, List.getD_cons_zero, List.getD_cons_succ, StP.is, Act.put, List.setIfInBounds_toArray, List.set_cons_zero, List.set_cons_succ, Nat.reduceAdd] at hK ⊢
          refine rg_yes (by kernel_rfl) ?_
          clear hF
          go_simp
          exact hK _ _ (Ext.refl _) rfl
        refine ⟨fun y w' hS hF K hK => ?_, ?_⟩
        · skip -- 6: nilCheck
          have e113 : y 113 = _ := hF.1
          simp only [fillL, cond_true, cond_false, List.getD_cons_zero, List.getD_cons_succ, StP.is, Act.put, List.setIfInBounds_toArray, List.set_cons_zero, List.set_cons_succ, Nat.reduceAdd, e113] at hK ⊢
          refine rg_yes (by kernel_rfl) ?_
          clear e113
          clear hF
          go_simp
          exact hK _ _ (Ext.refl _) rfl
        refine ⟨fun y w' hS hF K hK => ?_, ?_⟩
        · skip -- 7: fieldAddr
          have e114 : y 114 = _ := hF.1
          simp only [fillL, cond_true, cond_false, List.getD_cons_zero, List.getD_cons_succ, StP.is, Act.put, List.setIfInBounds_toArray, List.set_cons_zero, List.set_cons_succ, Nat.reduceAdd, e114] at hK ⊢
          refine rg_yes (by kernel_rfl) ?_
          clear e114
          clear hF
          go_simp
          exact hK _ _ (Ext.refl _) rfl
        refine ⟨fun y w' hS hF K hK => ?_, ?_⟩
        · skip -- 8: load
          have e115 : y 115 = _ := hF.1
          simp only [fillL, cond_true, cond_false, List.getD_cons_zero, List.getD_cons_succ, StP.is, Act.put, List.setIfInBounds_toArray, List.set_cons_zero, List.set_cons_succ, Nat.reduceAdd, e115] at hK ⊢
          refine rg_yes (by kernel_rfl) ?_
          have qx0_ := (Below.cell hS lB).trans bc0
          have qx1_ := (Below.cell hS lB).trans bc1
          have qx2_ := (Below.cell hS lB).trans bc2
          have qx3_ := (Below.cell hS lB).trans bc3
          have qx4_ := (Below.cell hS lB).trans bc4
          have qx5_ := (Below.cell hS lB).trans bc5
          clear e115
          clear hF
          go_simp
          exact hK _ _ (Ext.refl _) rfl
        refine ⟨fun y w' hS hF K hK => ?_, ?_⟩
        · skip -- 9: call
          have e116 : y 116 = _ := hF.1
          simp only [fillL, cond_true, cond_false, List.getD_cons_zero, List.getD_cons_succ, StP.is, Act.put, List.setIfInBounds_toArray, List.set_cons_zero, List.set_cons_succ, Nat.reduceAdd, e116] at hK ⊢
          refine rg_yes (by kernel_rfl) ?_
          have qx0_ := (Below.cell hS lB).trans bc0
          have qx1_ := (Below.cell hS lB).trans bc1
          have qx2_ := (Below.cell hS lB).trans bc2
          have qx3_ := (Below.cell hS lB).trans bc3
          have qx4_ := (Below.cell hS lB).trans bc4
          have qx5_ := (Below.cell hS lB).trans bc5
          clear e116
          clear hF
          go_simp
          exact hK _ _ (Ext.refl _) rfl
        refine ⟨fun y w' hS hF K hK => ?_, ?_⟩
        · skip -- 10: binOp
          have e112 : y 112 = _ := hF.1
          have e117 : y 117 = _ := hF.2.1
          simp only [fillL, cond_true, cond_false, List.getD_cons_zero, List.getD_cons_succ, StP.is, Act.put, List.setIfInBounds_toArray, List.set_cons_zero, List.set_cons_succ, Nat.reduceAdd, e112, e117] at hK ⊢
          refine rg_yes (by kernel_rfl) ?_
          clear e112 e117
          clear hF
          go_simp
          exact hK _ _ (Ext.refl _) rfl
        refine ⟨fun y w' hS hF K hK => ?_, ?_⟩
        · skip -- 11: move
          simp only [fillL, cond_true, cond_false, List.getD_cons_zero, List.getD_cons_succ, StP.is, Act.put, List.setIfInBounds_toArray, List.set_cons_zero, List.set_cons_succ, Nat.reduceAdd] at hK ⊢
          refine rg_yes (by kernel_rfl) ?_
          clear hF
          go_simp
          exact hK _ _ (Ext.refl _) rfl
        refine ⟨fun y w' hS hF K hK => ?_, ?_⟩
        · skip -- 12: binOp
          have e118 : y 118 = _ := hF.1
          have e119 : y 119 = _ := hF.2.1
          simp only [fillL, cond_true, cond_false, List.getD_cons_zero, List.getD_cons_succ, StP.is, Act.put, List.setIfInBounds_toArray, List.set_cons_zero, List.set_cons_succ, Nat.reduceAdd, e118, e119] at hK ⊢
          refine rg_yes (by kernel_rfl) ?_
          clear e118 e119
          clear hF
          go_simp
          exact hK _ _ (Ext.refl _) rfl
        refine ⟨fun y w' hS hF K hK => ?_, ?_⟩
        · skip -- 13: move
          simp only [fillL, cond_true, cond_false, List.getD_cons_zero, List.getD_cons_succ, StP.is, Act.put, List.setIfInBounds_toArray, List.set_cons_zero, List.set_cons_succ, Nat.reduceAdd] at hK ⊢
          refine rg_yes (by kernel_rfl) ?_
          clear hF
          go_simp
          exact hK _ _ (Ext.refl _) rfl
        refine ⟨fun y w' hS hF K hK => ?_, ?_⟩
        · skip -- 14: binOp
          have e120 : y 120 = _ := hF.1
          have e121 : y 121 = _ := hF.2.1
          simp only [fillL, cond_true, cond_false, List.getD_cons_zero, List.getD_cons_succ, StP.is, Act.put, List.setIfInBounds_toArray, List.set_cons_zero, List.set_cons_succ, Nat.reduceAdd, e120, e121] at hK ⊢
          refine rg_yes (by kernel_rfl) ?_
          clear e120 e121
          clear hF
          go_simp
          exact hK _ _ (Ext.refl _) rfl
        refine ⟨fun y w' hS hF K hK => ?_, ?_⟩
        · skip -- 15: move
          simp only [fillL, cond_true, cond_false, List.getD_cons_zero, List.getD_cons_succ, StP.is, Act.put, List.setIfInBounds_toArray, List.set_cons_zero, List.set_cons_succ, Nat.reduceAdd] at hK ⊢
          refine rg_yes (by kernel_rfl) ?_
          clear hF
          go_simp
          exact hK _ _ (Ext.refl _) rfl
        refine ⟨fun y w' hS hF K hK => ?_, ?_⟩
        · skip -- 16: nilCheck
          have e123 : y 123 = _ := hF.1
          simp only [fillL, cond_true, cond_false, List.getD_cons_zero, List.getD_cons_succ, StP.is, Act.put, List.setIfInBounds_toArray, List.set_cons_zero, List.set_cons_succ, Nat.reduceAdd, e123] at hK ⊢
          refine rg_yes (by kernel_rfl) ?_
          clear e123
          clear hF
          go_simp
          exact hK _ _ (Ext.refl _) rfl
        refine ⟨fun y w' hS hF K hK => ?_, ?_⟩
        · skip -- 17: fieldAddr
          have e124 : y 124 = _ := hF.1
          simp only [fillL, cond_true, cond_false, List.getD_cons_zero, List.getD_cons_succ, StP.is, Act.put, List.setIfInBounds_toArray, List.set_cons_zero, List.set_cons_succ, Nat.reduceAdd, e124] at hK ⊢
          refine rg_yes (by kernel_rfl) ?_
          clear e124
          clear hF
          go_simp
          exact hK _ _ (Ext.refl _) rfl
        refine ⟨fun y w' hS hF K hK => ?_, ?_⟩
        · skip -- 18: load
          have e125 : y 125 = _ := hF.1
          simp only [fillL, cond_true, cond_false, List.getD_cons_zero, List.getD_cons_succ, StP.is, Act.put, List.setIfInBounds_toArray, List.set_cons_zero, List.set_cons_succ, Nat.reduceAdd, e125] at hK ⊢
          refine rg_yes (by kernel_rfl) ?_
          have qx0_ := (Below.cell hS lB).trans bc0
          have qx1_ := (Below.cell hS lB).trans bc1
          have qx2_ := (Below.cell hS lB).trans bc2
          have qx3_ := (Below.cell hS lB).trans bc3
          have qx4_ := (Below.cell hS lB).trans bc4
          have qx5_ := (Below.cell hS lB).trans bc5
          clear e125
          clear hF
          go_simp
          exact hK _ _ (Ext.refl _) rfl
        refine ⟨fun y w' hS hF K hK => ?_, ?_⟩
        · skip -- 19: binOp
          have e126 : y 126 = _ := hF.1
          simp only [fillL, cond_true, cond_false, List.getD_cons_zero, List.getD_cons_succ, StP.is, Act.put, List.setIfInBounds_toArray, List.set_cons_zero, List.set_cons_succ, Nat.reduceAdd, e126] at hK ⊢
          refine rg_yes (by kernel_rfl) ?_
          clear e126
          clear hF
          go_simp
          exact hK _ _ (Ext.refl _) rfl
        refine ⟨fun y w' hS hF K hK => ?_, ?_⟩
        · skip -- 20: binOp
          have e122 : y 122 = _ := hF.1
          have e127 : y 127 = _ := hF.2.1
          simp only [fillL, cond_true, cond_false, List.getD_cons_zero, List.getD_cons_succ, StP.is, Act.put, List.setIfInBounds_toArray, List.set_cons_zero, List.set_cons_succ, Nat.reduceAdd, e122, e127] at hK ⊢
          refine rg_yes (by kernel_rfl) ?_
          clear e122 e127
          clear hF
          go_simp
          exact hK _ _ (Ext.refl _) rfl
        trivial
      case hend =>
        intro y w9 hS9 hF
        have e128 : y 128 = _ := hF.2.2.2.2.2.2.2.2.2.2.2.2.2.2.2.2.2.2.2.2.1
        clear hF
        simp only [fillL, cond_true, cond_false, Nat.reduceAdd, e128]
        clear e128
        have HBc := Lib.hid (HBb.out.trans (Below.mono (show Below wb.heap.size wb w9 from hS9) HBb.out.size))
        have HQc := Lib.hid ((HBc.out.block X lX).trans HQ.out)
        clear hS9 bc0 bf0 bc1 bf1 bc2 bf2 bc3 bf3 bc4 bf4 bc5 bf5
        go_wp2_with fail
        rename World => wc
        refine (wayNo_any X ro go A0 n0 c0 A1 0 c1 (.slice A2 0 c2) (.slice A3 0 c3) false wc HQc.out (by omega) (by omega) (by omega)).mono ?_
        rintro e wd ⟨rfl, hbd⟩
        have HBd := Lib.hid (HBc.out.trans (hbd.mono HBc.out.size))
        have HQd := Lib.hid ((HBd.out.block X lX).trans HQ.out)
        clear hbd
        go_wp2_with fail
        refine (front2_any X ro go S0 A0 n0 c0 O (.slice A1 0 c1) (.slice A2 0 c2) (.slice A3 0 c3) row wd HQd.out (H0.out.below HBd.out) hl (by omega) HX0.out).mono ?_
        rintro e w3 ⟨rfl, A', c', S', hq3, hO3, hS3, hC3⟩
        have HPOST : Hid (∃ A' c' S', w3.heap[X]? = some (.cells #[.int .i64 ro, .int .i64 go, .slice A' (n0 + 1) c', .slice A1 0 c1, .slice A2 0 c2, .slice A3 0 c3] 26 (0, 0)) ∧ OwnA w3 3 1 S' A' (n0 + 1) c' ((row :: O).map (Value.int .i64)) ∧ (∀ g ∈ S', g ∈ S0 ∨ w.heap.size ≤ g) ∧ Chg (fun k => k = X ∨ k ∈ S0) w w3) := Lib.hid ⟨A', c', S', hq3, hO3, fun g hg => (hS3 g hg).imp id (fun h => by have := HBd.out.size; omega),
          ⟨hC3.os.trans HBd.out.os, hC3.tape.trans HBd.out.tape, hC3.output.trans HBd.out.output, by have := hC3.size; have := HBd.out.size; omega, fun k hk hs => (hC3.block k (by have := HBd.out.size; omega) hs).trans (HBd.out.block k hk)⟩⟩
        clear hq3 hO3 hS3 hC3
        go_wp2_with fail
        go_ret
        exact ⟨rfl, HPOST.out⟩
end Go.Proofs.Ytfokpjoeankobaa
