/- NodeOk of the program. No condition. -/
import Derived.Test.YtjnhiiaejeaikaaGreatDoorRNodeOkA
set_option linter.unnecessarySimpa false
set_option linter.unusedSimpArgs false
set_option linter.unusedVariables false
namespace Go.Proofs.YtjnhiiaejeaikaaGreatDoor
open Go Go.Lib Go.RowKit
abbrev rl0NodeOkB : List Bool := (false :: false :: true :: false :: false :: false :: false :: false :: false :: false :: false :: false :: false :: true :: true :: true :: true :: true :: true :: true :: true :: true :: true :: true :: true :: true :: true :: true :: true :: true :: true :: true :: true :: true :: true :: true :: true :: true :: true :: true :: true :: true :: true :: true :: true :: true :: true :: true :: true :: true :: true :: true :: true :: true :: true :: true :: true :: true :: [])
abbrev rl1NodeOkB : List (Option Nat) := (some 13 :: some 14 :: some 15 :: some 16 :: some 17 :: some 18 :: some 19 :: some 20 :: some 21 :: some 22 :: some 23 :: some 24 :: some 25 :: some 26 :: some 27 :: some 28 :: some 29 :: some 30 :: some 31 :: some 32 :: some 33 :: some 34 :: some 35 :: some 36 :: some 37 :: some 38 :: some 39 :: some 40 :: some 41 :: some 42 :: some 43 :: some 44 :: some 45 :: some 46 :: some 47 :: some 48 :: some 49 :: some 50 :: some 51 :: some 52 :: some 53 :: some 54 :: some 55 :: some 56 :: some 57 :: some 2 :: [])
abbrev rl2NodeOkB : List (List Nat) := ([] :: [0] :: [1] :: [2] :: [2, 3] :: [2] :: [2, 4, 5] :: [2, 6] :: [7] :: [8] :: [8, 9] :: [8, 10] :: [8] :: [8, 11, 12] :: [8, 13] :: [14] :: [15] :: [15, 16] :: [15, 17] :: [15] :: [15, 19] :: [15, 18, 20] :: [15, 21] :: [22] :: [23] :: [23, 24] :: [23, 25] :: [23, 26] :: [23, 27] :: [28] :: [29] :: [29, 30] :: [29, 31] :: [29, 32] :: [29, 33] :: [34] :: [34, 35] :: [34, 36] :: [34, 37] :: [34] :: [34, 39] :: [34, 40] :: [34, 38, 41] :: [29, 34, 42] :: [29, 43] :: [44] :: [])
set_option maxRecDepth 100000 in
set_option maxHeartbeats 8000000 in
theorem nodeOk_B (i j z a b s m l d n : Int) (w : World) (hk : ¬ i = 2) :
 Calls Tryz.prog 106 #[.agg #[.int .i64 i, .int .i64 j, .int .i64 z, .int .i64 a, .int .i64 b, .int .i64 s, .int .i64 m, .int .i64 l, .int .i64 d, .int .i64 n]] w fun e w' => e = .returned (.bool (nodeOkB (i, j, z, (a, b, s, m, l), d, n))) ∧ Below w.heap.size w w' := by
 have HKI := Lib.hid hk; clear hk
 obtain ⟨r, hr⟩ : ∃ r, r = nodeOkB (i, j, z, (a, b, s, m, l), d, n) := ⟨_, rfl⟩
 rw [← hr]
 rw [nodeOkB_eq] at hr
 obtain ⟨pc, hpc⟩ : ∃ pc, pc = piecesF i z := ⟨_, rfl⟩
 obtain ⟨df, hdf⟩ : ∃ df, df = depthF pc := ⟨_, rfl⟩
 obtain ⟨lk, hlk⟩ : ∃ lk, lk = linkTop i := ⟨_, rfl⟩
 rw [← hpc, ← hdf, ← hlk] at hr
 have HR := Lib.hid hr; have EPC := Lib.hid hpc.symm; have EDF := Lib.hid hdf.symm; have ELK := Lib.hid hlk
 clear hr hpc hdf hlk
 go_enter Tryz.func106, Tryz.ntmps106
 go_wp2_with fail
 refine (nodePieces_any i z _).mono ?_
 rw [EPC.out]
 rintro e w1' ⟨rfl, rfl⟩
 obtain ⟨w1, hW⟩ : ∃ W, W = w.alloc (.cells #[.int .i64 i, .int .i64 j, .int .i64 z, .int .i64 a, .int .i64 b, .int .i64 s, .int .i64 m, .int .i64 l, .int .i64 d, .int .i64 n] 53) := ⟨_, rfl⟩
 have HB1 : Hid (Below w.heap.size w w1) := Lib.hid (by rw [hW]; exact bel1)
 have HBX : Hid (w1.heap[w.heap.size]? = some (.cells #[.int .i64 i, .int .i64 j, .int .i64 z, .int .i64 a, .int .i64 b, .int .i64 s, .int .i64 m, .int .i64 l, .int .i64 d, .int .i64 n] 53 (0, 0))) := Lib.hid (by rw [hW]; exact heap_alloc_new _ _)
 rw [← hW]; clear hW
 have l1 : w.heap.size < w1.heap.size := (Array.getElem?_eq_some_iff.1 HBX.out).1
 have b0 := celR 0 HBX.out; have b1 := celR 1 HBX.out; have b2 := celR 2 HBX.out; have b3 := celR 3 HBX.out; have b4 := celR 4 HBX.out; have b5 := celR 5 HBX.out; have b6 := celR 6 HBX.out; have b7 := celR 7 HBX.out; have b8 := celR 8 HBX.out; have b9 := celR 9 HBX.out
 have hk := HKI.out; clear HKI
 obtain rfl : lk = 9 := by rw [ELK.out]; unfold linkTop; rw [if_neg hk]
 have dk : (i == 2) = false := by simpa using hk
 clear hk ELK
 by_cases h0 : 0 ≤ pc
 rotate_left
 · have E0 : Hid (decide (0 ≤ pc) = false) := Lib.hid (decide_eq_false h0)
   have t0 := E0.out
   clear h0
   have HN : Hid (false = r) := Lib.hid (by rw [HR.out]; rw [E0.out]; rfl)
   go_wp2_with fail
   apply wp_region_rg (by kernel_rfl) rl0NodeOkB rl1NodeOkB rl2NodeOkB (StP.is _ :: StP.is _ :: StP.is _ :: StP.is _ :: StP.is _ :: StP.is _ :: StP.is _ :: StP.is _ :: StP.is _ :: StP.is _ :: StP.is _ :: StP.is _ :: StP.is _ :: StP.is _ :: StP.is _ :: StP.is _ :: StP.is _ :: StP.is _ :: StP.is _ :: StP.is _ :: StP.is _ :: StP.is _ :: StP.is _ :: StP.is _ :: StP.is _ :: StP.is _ :: StP.is _ :: StP.is _ :: StP.is _ :: StP.is _ :: StP.is _ :: StP.is _ :: StP.is _ :: StP.is _ :: StP.is _ :: StP.is _ :: StP.is _ :: StP.is _ :: StP.is _ :: StP.is _ :: StP.is _ :: StP.is _ :: StP.is _ :: StP.is _ :: StP.is _ :: StP.is _ :: []) (rgCheck_of (by kernel_rfl))
   case hobs =>
    iterate 3 (constructor; rotate_left)
    iterate 4 (constructor; have skip_ := trivial; rotate_left)
    iterate 2 (constructor; rotate_left)
    iterate 5 (constructor; have skip_ := trivial; rotate_left)
    iterate 2 (constructor; rotate_left)
    iterate 6 (constructor; have skip_ := trivial; rotate_left)
    iterate 2 (constructor; rotate_left)
    iterate 4 (constructor; have skip_ := trivial; rotate_left)
    iterate 2 (constructor; rotate_left)
    iterate 14 (constructor; have skip_ := trivial; rotate_left)
    iterate 2 (constructor; rotate_left)
    · trivial
    all_goals (
     intro y w' hS hF K hK
     have eF := trivial
     repeat (obtain ⟨f1, hF⟩ := hF; replace eF := And.intro (show y _ = _ from f1) eF; clear f1)
     first
      | simp only [fillL, rl0NodeOkB, rl1NodeOkB, rl2NodeOkB, cond_true, cond_false, zG0, zG1, StP.is, Act.put, zS2, zS0, zS1, Nat.reduceAdd, eF] at hK ⊢
      | simp only [fillL, rl0NodeOkB, rl1NodeOkB, rl2NodeOkB, cond_true, cond_false, zG0, zG1, StP.is, Act.put, zS2, zS0, zS1, Nat.reduceAdd] at hK ⊢
     clear eF hF
     first
      | (clear skip_; refine rg_no (by kernel_rfl) ?_; exact hK _ _ (Ext.refl _) rfl)
      | (refine rg_yes (by kernel_rfl) ?_
         try (clear ld_; have qx0_ := (Below.cell hS l1).trans b0; have qx1_ := (Below.cell hS l1).trans b1; have qx2_ := (Below.cell hS l1).trans b2; have qx3_ := (Below.cell hS l1).trans b3; have qx4_ := (Below.cell hS l1).trans b4; have qx5_ := (Below.cell hS l1).trans b5; have qx6_ := (Below.cell hS l1).trans b6; have qx7_ := (Below.cell hS l1).trans b7; have qx8_ := (Below.cell hS l1).trans b8; have qx9_ := (Below.cell hS l1).trans b9)
         go_simp
         first
          | (go_at_call 61
             refine (within_any _ _ _ _).mono ?_
             rw [EL.out]
             rintro e w'' ⟨rfl, rfl⟩
             exact hK _ _ (Ext.refl _) rfl)
          | (go_at_call 83
             refine (depthOf_any _ _).mono ?_
             rw [EDF.out]
             rintro e w'' ⟨rfl, rfl⟩
             exact hK _ _ (Ext.refl _) rfl)
          | (go_at_call 68
             refine (ptrOk_any a b s m l _).mono ?_
             rw [EO.out]
             rintro e w'' ⟨rfl, hb⟩
             exact hK _ _ hb rfl)
          | (go_at_call 69
             refine (ptrHole_any a b s m l _).mono ?_
             rw [EH.out]
             rintro e w'' ⟨rfl, hb⟩
             exact hK _ _ hb rfl)
          | exact hK _ _ (Ext.refl _) rfl))
   intro y w2 hX hF
   have e_ : y 2 = _ := hF.2.2.2.2.2.2.2.2.2.2.2.2.2.2.2.2.2.2.2.2.2.2.2.2.2.2.2.2.2.2.2.2.2.2.2.2.2.2.2.2.2.2.2.2.2.1
   clear hF
   simp only [fillL, rl0NodeOkB, rl1NodeOkB, rl2NodeOkB, cond_true, cond_false, Nat.reduceAdd, e_]
   have HB3 : Hid (Below w.heap.size w w2) := Lib.hid (HB1.out.trans (Below.mono hX HB1.out.size))
   clear hX e_ b0 b1 b2 b3 b4 b5 b6 b7 b8 b9
   go_wp2_with fail
   go_ret
   exact ⟨ret_bool HN.out, HB3.out⟩
 have E0 : Hid (decide (0 ≤ pc) = true) := Lib.hid (decide_eq_true h0)
 cases e1 : inB j 1 9
 · have EL := Lib.hid e1; clear e1
   have HN : Hid (false = r) := Lib.hid (by rw [HR.out]; rw [E0.out, EL.out]; rfl)
   go_wp2_with fail
   apply wp_region_rg (by kernel_rfl) rl0NodeOkB rl1NodeOkB rl2NodeOkB (StP.is _ :: StP.is _ :: StP.is _ :: StP.is _ :: StP.is _ :: StP.is _ :: StP.is _ :: StP.is _ :: StP.is _ :: StP.is _ :: StP.is _ :: StP.is _ :: StP.is _ :: StP.is _ :: StP.is _ :: StP.is _ :: StP.is _ :: StP.is _ :: StP.is _ :: StP.is _ :: StP.is _ :: StP.is _ :: StP.is _ :: StP.is _ :: StP.is _ :: StP.is _ :: StP.is _ :: StP.is _ :: StP.is _ :: StP.is _ :: StP.is _ :: StP.is _ :: StP.is _ :: StP.is _ :: StP.is _ :: StP.is _ :: StP.is _ :: StP.is _ :: StP.is _ :: StP.is _ :: StP.is _ :: StP.is _ :: StP.is _ :: StP.is _ :: StP.is _ :: StP.is _ :: []) (rgCheck_of (by kernel_rfl))
   case hobs =>
    iterate 4 (constructor; rotate_left)
    constructor; have ld_ := trivial; rotate_left
    iterate 4 (constructor; rotate_left)
    iterate 5 (constructor; have skip_ := trivial; rotate_left)
    iterate 2 (constructor; rotate_left)
    iterate 6 (constructor; have skip_ := trivial; rotate_left)
    iterate 2 (constructor; rotate_left)
    iterate 4 (constructor; have skip_ := trivial; rotate_left)
    iterate 2 (constructor; rotate_left)
    iterate 14 (constructor; have skip_ := trivial; rotate_left)
    iterate 2 (constructor; rotate_left)
    · trivial
    all_goals (
     intro y w' hS hF K hK
     have eF := trivial
     repeat (obtain ⟨f1, hF⟩ := hF; replace eF := And.intro (show y _ = _ from f1) eF; clear f1)
     first
      | simp only [fillL, rl0NodeOkB, rl1NodeOkB, rl2NodeOkB, cond_true, cond_false, zG0, zG1, StP.is, Act.put, zS2, zS0, zS1, Nat.reduceAdd, eF] at hK ⊢
      | simp only [fillL, rl0NodeOkB, rl1NodeOkB, rl2NodeOkB, cond_true, cond_false, zG0, zG1, StP.is, Act.put, zS2, zS0, zS1, Nat.reduceAdd] at hK ⊢
     clear eF hF
     first
      | (clear skip_; refine rg_no (by kernel_rfl) ?_; exact hK _ _ (Ext.refl _) rfl)
      | (refine rg_yes (by kernel_rfl) ?_
         try (clear ld_; have qx0_ := (Below.cell hS l1).trans b0; have qx1_ := (Below.cell hS l1).trans b1; have qx2_ := (Below.cell hS l1).trans b2; have qx3_ := (Below.cell hS l1).trans b3; have qx4_ := (Below.cell hS l1).trans b4; have qx5_ := (Below.cell hS l1).trans b5; have qx6_ := (Below.cell hS l1).trans b6; have qx7_ := (Below.cell hS l1).trans b7; have qx8_ := (Below.cell hS l1).trans b8; have qx9_ := (Below.cell hS l1).trans b9)
         go_simp
         first
          | (go_at_call 61
             refine (within_any _ _ _ _).mono ?_
             rw [EL.out]
             rintro e w'' ⟨rfl, rfl⟩
             exact hK _ _ (Ext.refl _) rfl)
          | (go_at_call 83
             refine (depthOf_any _ _).mono ?_
             rw [EDF.out]
             rintro e w'' ⟨rfl, rfl⟩
             exact hK _ _ (Ext.refl _) rfl)
          | (go_at_call 68
             refine (ptrOk_any a b s m l _).mono ?_
             rw [EO.out]
             rintro e w'' ⟨rfl, hb⟩
             exact hK _ _ hb rfl)
          | (go_at_call 69
             refine (ptrHole_any a b s m l _).mono ?_
             rw [EH.out]
             rintro e w'' ⟨rfl, hb⟩
             exact hK _ _ hb rfl)
          | exact hK _ _ (Ext.refl _) rfl))
   intro y w2 hX hF
   have e_ : y 2 = _ := hF.2.2.2.2.2.2.2.2.2.2.2.2.2.2.2.2.2.2.2.2.2.2.2.2.2.2.2.2.2.2.2.2.2.2.2.2.2.2.2.2.2.2.2.2.2.1
   clear hF
   simp only [fillL, rl0NodeOkB, rl1NodeOkB, rl2NodeOkB, cond_true, cond_false, Nat.reduceAdd, e_]
   have HB3 : Hid (Below w.heap.size w w2) := Lib.hid (HB1.out.trans (Below.mono hX HB1.out.size))
   clear hX e_ b0 b1 b2 b3 b4 b5 b6 b7 b8 b9
   go_wp2_with fail
   go_ret
   exact ⟨ret_bool HN.out, HB3.out⟩
 have EL := Lib.hid e1; clear e1
 by_cases h2 : n = pc
 rotate_left
 · have E2 : Hid (decide (n = pc) = false) := Lib.hid (decide_eq_false h2)
   have d2 : (n == pc) = false := by simpa using h2
   have HN : Hid (false = r) := Lib.hid (by rw [HR.out]; rw [E0.out, EL.out, E2.out]; rfl)
   go_wp2_with fail
   apply wp_region_rg (by kernel_rfl) rl0NodeOkB rl1NodeOkB rl2NodeOkB (StP.is _ :: StP.is _ :: StP.is _ :: StP.is _ :: StP.is _ :: StP.is _ :: StP.is _ :: StP.is _ :: StP.is _ :: StP.is _ :: StP.is _ :: StP.is _ :: StP.is _ :: StP.is _ :: StP.is _ :: StP.is _ :: StP.is _ :: StP.is _ :: StP.is _ :: StP.is _ :: StP.is _ :: StP.is _ :: StP.is _ :: StP.is _ :: StP.is _ :: StP.is _ :: StP.is _ :: StP.is _ :: StP.is _ :: StP.is _ :: StP.is _ :: StP.is _ :: StP.is _ :: StP.is _ :: StP.is _ :: StP.is _ :: StP.is _ :: StP.is _ :: StP.is _ :: StP.is _ :: StP.is _ :: StP.is _ :: StP.is _ :: StP.is _ :: StP.is _ :: StP.is _ :: []) (rgCheck_of (by kernel_rfl))
   case hobs =>
    iterate 4 (constructor; rotate_left)
    constructor; have ld_ := trivial; rotate_left
    iterate 6 (constructor; rotate_left)
    constructor; have ld_ := trivial; rotate_left
    iterate 4 (constructor; rotate_left)
    iterate 6 (constructor; have skip_ := trivial; rotate_left)
    iterate 2 (constructor; rotate_left)
    iterate 4 (constructor; have skip_ := trivial; rotate_left)
    iterate 2 (constructor; rotate_left)
    iterate 14 (constructor; have skip_ := trivial; rotate_left)
    iterate 2 (constructor; rotate_left)
    · trivial
    all_goals (
     intro y w' hS hF K hK
     have eF := trivial
     repeat (obtain ⟨f1, hF⟩ := hF; replace eF := And.intro (show y _ = _ from f1) eF; clear f1)
     first
      | simp only [fillL, rl0NodeOkB, rl1NodeOkB, rl2NodeOkB, cond_true, cond_false, zG0, zG1, StP.is, Act.put, zS2, zS0, zS1, Nat.reduceAdd, eF] at hK ⊢
      | simp only [fillL, rl0NodeOkB, rl1NodeOkB, rl2NodeOkB, cond_true, cond_false, zG0, zG1, StP.is, Act.put, zS2, zS0, zS1, Nat.reduceAdd] at hK ⊢
     clear eF hF
     first
      | (clear skip_; refine rg_no (by kernel_rfl) ?_; exact hK _ _ (Ext.refl _) rfl)
      | (refine rg_yes (by kernel_rfl) ?_
         try (clear ld_; have qx0_ := (Below.cell hS l1).trans b0; have qx1_ := (Below.cell hS l1).trans b1; have qx2_ := (Below.cell hS l1).trans b2; have qx3_ := (Below.cell hS l1).trans b3; have qx4_ := (Below.cell hS l1).trans b4; have qx5_ := (Below.cell hS l1).trans b5; have qx6_ := (Below.cell hS l1).trans b6; have qx7_ := (Below.cell hS l1).trans b7; have qx8_ := (Below.cell hS l1).trans b8; have qx9_ := (Below.cell hS l1).trans b9)
         go_simp
         first
          | (go_at_call 61
             refine (within_any _ _ _ _).mono ?_
             rw [EL.out]
             rintro e w'' ⟨rfl, rfl⟩
             exact hK _ _ (Ext.refl _) rfl)
          | (go_at_call 83
             refine (depthOf_any _ _).mono ?_
             rw [EDF.out]
             rintro e w'' ⟨rfl, rfl⟩
             exact hK _ _ (Ext.refl _) rfl)
          | (go_at_call 68
             refine (ptrOk_any a b s m l _).mono ?_
             rw [EO.out]
             rintro e w'' ⟨rfl, hb⟩
             exact hK _ _ hb rfl)
          | (go_at_call 69
             refine (ptrHole_any a b s m l _).mono ?_
             rw [EH.out]
             rintro e w'' ⟨rfl, hb⟩
             exact hK _ _ hb rfl)
          | exact hK _ _ (Ext.refl _) rfl))
   intro y w2 hX hF
   have e_ : y 2 = _ := hF.2.2.2.2.2.2.2.2.2.2.2.2.2.2.2.2.2.2.2.2.2.2.2.2.2.2.2.2.2.2.2.2.2.2.2.2.2.2.2.2.2.2.2.2.2.1
   clear hF
   simp only [fillL, rl0NodeOkB, rl1NodeOkB, rl2NodeOkB, cond_true, cond_false, Nat.reduceAdd, e_]
   have HB3 : Hid (Below w.heap.size w w2) := Lib.hid (HB1.out.trans (Below.mono hX HB1.out.size))
   clear hX e_ b0 b1 b2 b3 b4 b5 b6 b7 b8 b9
   go_wp2_with fail
   go_ret
   exact ⟨ret_bool HN.out, HB3.out⟩
 have E2 : Hid (decide (n = pc) = true) := Lib.hid (decide_eq_true h2)
 have d2 : (n == pc) = true := by simpa using h2
 clear h2
 by_cases h3 : d = df
 rotate_left
 · have E3 : Hid (decide (d = df) = false) := Lib.hid (decide_eq_false h3)
   have d3 : (d == df) = false := by simpa using h3
   have HN : Hid (false = r) := Lib.hid (by rw [HR.out]; rw [E0.out, EL.out, E2.out, E3.out]; rfl)
   go_wp2_with fail
   apply wp_region_rg (by kernel_rfl) rl0NodeOkB rl1NodeOkB rl2NodeOkB (StP.is _ :: StP.is _ :: StP.is _ :: StP.is _ :: StP.is _ :: StP.is _ :: StP.is _ :: StP.is _ :: StP.is _ :: StP.is _ :: StP.is _ :: StP.is _ :: StP.is _ :: StP.is _ :: StP.is _ :: StP.is _ :: StP.is _ :: StP.is _ :: StP.is _ :: StP.is _ :: StP.is _ :: StP.is _ :: StP.is _ :: StP.is _ :: StP.is _ :: StP.is _ :: StP.is _ :: StP.is _ :: StP.is _ :: StP.is _ :: StP.is _ :: StP.is _ :: StP.is _ :: StP.is _ :: StP.is _ :: StP.is _ :: StP.is _ :: StP.is _ :: StP.is _ :: StP.is _ :: StP.is _ :: StP.is _ :: StP.is _ :: StP.is _ :: StP.is _ :: StP.is _ :: []) (rgCheck_of (by kernel_rfl))
   case hobs =>
    iterate 4 (constructor; rotate_left)
    constructor; have ld_ := trivial; rotate_left
    iterate 6 (constructor; rotate_left)
    constructor; have ld_ := trivial; rotate_left
    iterate 6 (constructor; rotate_left)
    constructor; have ld_ := trivial; rotate_left
    iterate 5 (constructor; rotate_left)
    iterate 4 (constructor; have skip_ := trivial; rotate_left)
    iterate 2 (constructor; rotate_left)
    iterate 14 (constructor; have skip_ := trivial; rotate_left)
    iterate 2 (constructor; rotate_left)
    · trivial
    all_goals (
     intro y w' hS hF K hK
     have eF := trivial
     repeat (obtain ⟨f1, hF⟩ := hF; replace eF := And.intro (show y _ = _ from f1) eF; clear f1)
     first
      | simp only [fillL, rl0NodeOkB, rl1NodeOkB, rl2NodeOkB, cond_true, cond_false, zG0, zG1, StP.is, Act.put, zS2, zS0, zS1, Nat.reduceAdd, eF] at hK ⊢
      | simp only [fillL, rl0NodeOkB, rl1NodeOkB, rl2NodeOkB, cond_true, cond_false, zG0, zG1, StP.is, Act.put, zS2, zS0, zS1, Nat.reduceAdd] at hK ⊢
     clear eF hF
     first
      | (clear skip_; refine rg_no (by kernel_rfl) ?_; exact hK _ _ (Ext.refl _) rfl)
      | (refine rg_yes (by kernel_rfl) ?_
         try (clear ld_; have qx0_ := (Below.cell hS l1).trans b0; have qx1_ := (Below.cell hS l1).trans b1; have qx2_ := (Below.cell hS l1).trans b2; have qx3_ := (Below.cell hS l1).trans b3; have qx4_ := (Below.cell hS l1).trans b4; have qx5_ := (Below.cell hS l1).trans b5; have qx6_ := (Below.cell hS l1).trans b6; have qx7_ := (Below.cell hS l1).trans b7; have qx8_ := (Below.cell hS l1).trans b8; have qx9_ := (Below.cell hS l1).trans b9)
         go_simp
         first
          | (go_at_call 61
             refine (within_any _ _ _ _).mono ?_
             rw [EL.out]
             rintro e w'' ⟨rfl, rfl⟩
             exact hK _ _ (Ext.refl _) rfl)
          | (go_at_call 83
             refine (depthOf_any _ _).mono ?_
             rw [EDF.out]
             rintro e w'' ⟨rfl, rfl⟩
             exact hK _ _ (Ext.refl _) rfl)
          | (go_at_call 68
             refine (ptrOk_any a b s m l _).mono ?_
             rw [EO.out]
             rintro e w'' ⟨rfl, hb⟩
             exact hK _ _ hb rfl)
          | (go_at_call 69
             refine (ptrHole_any a b s m l _).mono ?_
             rw [EH.out]
             rintro e w'' ⟨rfl, hb⟩
             exact hK _ _ hb rfl)
          | exact hK _ _ (Ext.refl _) rfl))
   intro y w2 hX hF
   have e_ : y 2 = _ := hF.2.2.2.2.2.2.2.2.2.2.2.2.2.2.2.2.2.2.2.2.2.2.2.2.2.2.2.2.2.2.2.2.2.2.2.2.2.2.2.2.2.2.2.2.2.1
   clear hF
   simp only [fillL, rl0NodeOkB, rl1NodeOkB, rl2NodeOkB, cond_true, cond_false, Nat.reduceAdd, e_]
   have HB3 : Hid (Below w.heap.size w w2) := Lib.hid (HB1.out.trans (Below.mono hX HB1.out.size))
   clear hX e_ b0 b1 b2 b3 b4 b5 b6 b7 b8 b9
   go_wp2_with fail
   go_ret
   exact ⟨ret_bool HN.out, HB3.out⟩
 have E3 : Hid (decide (d = df) = true) := Lib.hid (decide_eq_true h3)
 have d3 : (d == df) = true := by simpa using h3
 clear h3
 cases e4 : ptrOkB a b s m l
 · have EO := Lib.hid e4; clear e4
   have HN : Hid (false = r) := Lib.hid (by rw [HR.out]; rw [E0.out, EL.out, E2.out, E3.out, EO.out]; rfl)
   go_wp2_with fail
   apply wp_region_rg (by kernel_rfl) rl0NodeOkB rl1NodeOkB rl2NodeOkB (StP.is _ :: StP.is _ :: StP.is _ :: StP.is _ :: StP.is _ :: StP.is _ :: StP.is _ :: StP.is _ :: StP.is _ :: StP.is _ :: StP.is _ :: StP.is _ :: StP.is _ :: StP.is _ :: StP.is _ :: StP.is _ :: StP.is _ :: StP.is _ :: StP.is _ :: StP.is _ :: StP.is _ :: StP.is _ :: StP.is _ :: StP.is _ :: StP.is _ :: StP.is _ :: StP.is _ :: StP.is _ :: StP.is _ :: StP.is _ :: StP.is _ :: StP.is _ :: StP.is _ :: StP.is _ :: StP.is _ :: StP.is _ :: StP.is _ :: StP.is _ :: StP.is _ :: StP.is _ :: StP.is _ :: StP.is _ :: StP.is _ :: StP.is _ :: StP.is _ :: StP.is _ :: []) (rgCheck_of (by kernel_rfl))
   case hobs =>
    iterate 4 (constructor; rotate_left)
    constructor; have ld_ := trivial; rotate_left
    iterate 6 (constructor; rotate_left)
    constructor; have ld_ := trivial; rotate_left
    iterate 6 (constructor; rotate_left)
    constructor; have ld_ := trivial; rotate_left
    iterate 7 (constructor; rotate_left)
    constructor; have ld_ := trivial; rotate_left
    iterate 3 (constructor; rotate_left)
    iterate 14 (constructor; have skip_ := trivial; rotate_left)
    iterate 2 (constructor; rotate_left)
    · trivial
    all_goals (
     intro y w' hS hF K hK
     have eF := trivial
     repeat (obtain ⟨f1, hF⟩ := hF; replace eF := And.intro (show y _ = _ from f1) eF; clear f1)
     first
      | simp only [fillL, rl0NodeOkB, rl1NodeOkB, rl2NodeOkB, cond_true, cond_false, zG0, zG1, StP.is, Act.put, zS2, zS0, zS1, Nat.reduceAdd, eF] at hK ⊢
      | simp only [fillL, rl0NodeOkB, rl1NodeOkB, rl2NodeOkB, cond_true, cond_false, zG0, zG1, StP.is, Act.put, zS2, zS0, zS1, Nat.reduceAdd] at hK ⊢
     clear eF hF
     first
      | (clear skip_; refine rg_no (by kernel_rfl) ?_; exact hK _ _ (Ext.refl _) rfl)
      | (refine rg_yes (by kernel_rfl) ?_
         try (clear ld_; have qx0_ := (Below.cell hS l1).trans b0; have qx1_ := (Below.cell hS l1).trans b1; have qx2_ := (Below.cell hS l1).trans b2; have qx3_ := (Below.cell hS l1).trans b3; have qx4_ := (Below.cell hS l1).trans b4; have qx5_ := (Below.cell hS l1).trans b5; have qx6_ := (Below.cell hS l1).trans b6; have qx7_ := (Below.cell hS l1).trans b7; have qx8_ := (Below.cell hS l1).trans b8; have qx9_ := (Below.cell hS l1).trans b9)
         go_simp
         first
          | (go_at_call 61
             refine (within_any _ _ _ _).mono ?_
             rw [EL.out]
             rintro e w'' ⟨rfl, rfl⟩
             exact hK _ _ (Ext.refl _) rfl)
          | (go_at_call 83
             refine (depthOf_any _ _).mono ?_
             rw [EDF.out]
             rintro e w'' ⟨rfl, rfl⟩
             exact hK _ _ (Ext.refl _) rfl)
          | (go_at_call 68
             refine (ptrOk_any a b s m l _).mono ?_
             rw [EO.out]
             rintro e w'' ⟨rfl, hb⟩
             exact hK _ _ hb rfl)
          | (go_at_call 69
             refine (ptrHole_any a b s m l _).mono ?_
             rw [EH.out]
             rintro e w'' ⟨rfl, hb⟩
             exact hK _ _ hb rfl)
          | exact hK _ _ (Ext.refl _) rfl))
   intro y w2 hX hF
   have e_ : y 2 = _ := hF.2.2.2.2.2.2.2.2.2.2.2.2.2.2.2.2.2.2.2.2.2.2.2.2.2.2.2.2.2.2.2.2.2.2.2.2.2.2.2.2.2.2.2.2.2.1
   clear hF
   simp only [fillL, rl0NodeOkB, rl1NodeOkB, rl2NodeOkB, cond_true, cond_false, Nat.reduceAdd, e_]
   have HB3 : Hid (Below w.heap.size w w2) := Lib.hid (HB1.out.trans (Below.mono hX HB1.out.size))
   clear hX e_ b0 b1 b2 b3 b4 b5 b6 b7 b8 b9
   go_wp2_with fail
   go_ret
   exact ⟨ret_bool HN.out, HB3.out⟩
 have EO := Lib.hid e4; clear e4
 cases e5 : ptrHole a b s m l
 rotate_left
 · have EH := Lib.hid e5; clear e5
   have HN : Hid (true = r) := Lib.hid (by rw [HR.out]; rw [E0.out, EL.out, E2.out, E3.out, EO.out, EH.out]; rfl)
   go_wp2_with fail
   apply wp_region_rg (by kernel_rfl) rl0NodeOkB rl1NodeOkB rl2NodeOkB (StP.is _ :: StP.is _ :: StP.is _ :: StP.is _ :: StP.is _ :: StP.is _ :: StP.is _ :: StP.is _ :: StP.is _ :: StP.is _ :: StP.is _ :: StP.is _ :: StP.is _ :: StP.is _ :: StP.is _ :: StP.is _ :: StP.is _ :: StP.is _ :: StP.is _ :: StP.is _ :: StP.is _ :: StP.is _ :: StP.is _ :: StP.is _ :: StP.is _ :: StP.is _ :: StP.is _ :: StP.is _ :: StP.is _ :: StP.is _ :: StP.is _ :: StP.is _ :: StP.is _ :: StP.is _ :: StP.is _ :: StP.is _ :: StP.is _ :: StP.is _ :: StP.is _ :: StP.is _ :: StP.is _ :: StP.is _ :: StP.is _ :: StP.is _ :: StP.is _ :: StP.is _ :: []) (rgCheck_of (by kernel_rfl))
   case hobs =>
    iterate 4 (constructor; rotate_left)
    constructor; have ld_ := trivial; rotate_left
    iterate 6 (constructor; rotate_left)
    constructor; have ld_ := trivial; rotate_left
    iterate 6 (constructor; rotate_left)
    constructor; have ld_ := trivial; rotate_left
    iterate 7 (constructor; rotate_left)
    constructor; have ld_ := trivial; rotate_left
    iterate 5 (constructor; rotate_left)
    constructor; have ld_ := trivial; rotate_left
    iterate 2 (constructor; rotate_left)
    iterate 8 (constructor; have skip_ := trivial; rotate_left)
    iterate 3 (constructor; rotate_left)
    · trivial
    all_goals (
     intro y w' hS hF K hK
     have eF := trivial
     repeat (obtain ⟨f1, hF⟩ := hF; replace eF := And.intro (show y _ = _ from f1) eF; clear f1)
     first
      | simp only [fillL, rl0NodeOkB, rl1NodeOkB, rl2NodeOkB, cond_true, cond_false, zG0, zG1, StP.is, Act.put, zS2, zS0, zS1, Nat.reduceAdd, eF] at hK ⊢
      | simp only [fillL, rl0NodeOkB, rl1NodeOkB, rl2NodeOkB, cond_true, cond_false, zG0, zG1, StP.is, Act.put, zS2, zS0, zS1, Nat.reduceAdd] at hK ⊢
     clear eF hF
     first
      | (clear skip_; refine rg_no (by kernel_rfl) ?_; exact hK _ _ (Ext.refl _) rfl)
      | (refine rg_yes (by kernel_rfl) ?_
         try (clear ld_; have qx0_ := (Below.cell hS l1).trans b0; have qx1_ := (Below.cell hS l1).trans b1; have qx2_ := (Below.cell hS l1).trans b2; have qx3_ := (Below.cell hS l1).trans b3; have qx4_ := (Below.cell hS l1).trans b4; have qx5_ := (Below.cell hS l1).trans b5; have qx6_ := (Below.cell hS l1).trans b6; have qx7_ := (Below.cell hS l1).trans b7; have qx8_ := (Below.cell hS l1).trans b8; have qx9_ := (Below.cell hS l1).trans b9)
         go_simp
         first
          | (go_at_call 61
             refine (within_any _ _ _ _).mono ?_
             rw [EL.out]
             rintro e w'' ⟨rfl, rfl⟩
             exact hK _ _ (Ext.refl _) rfl)
          | (go_at_call 83
             refine (depthOf_any _ _).mono ?_
             rw [EDF.out]
             rintro e w'' ⟨rfl, rfl⟩
             exact hK _ _ (Ext.refl _) rfl)
          | (go_at_call 68
             refine (ptrOk_any a b s m l _).mono ?_
             rw [EO.out]
             rintro e w'' ⟨rfl, hb⟩
             exact hK _ _ hb rfl)
          | (go_at_call 69
             refine (ptrHole_any a b s m l _).mono ?_
             rw [EH.out]
             rintro e w'' ⟨rfl, hb⟩
             exact hK _ _ hb rfl)
          | exact hK _ _ (Ext.refl _) rfl))
   intro y w2 hX hF
   have e_ : y 2 = _ := hF.2.2.2.2.2.2.2.2.2.2.2.2.2.2.2.2.2.2.2.2.2.2.2.2.2.2.2.2.2.2.2.2.2.2.2.2.2.2.2.2.2.2.2.2.2.1
   clear hF
   simp only [fillL, rl0NodeOkB, rl1NodeOkB, rl2NodeOkB, cond_true, cond_false, Nat.reduceAdd, e_]
   have HB3 : Hid (Below w.heap.size w w2) := Lib.hid (HB1.out.trans (Below.mono hX HB1.out.size))
   clear hX e_ b0 b1 b2 b3 b4 b5 b6 b7 b8 b9
   go_wp2_with fail
   go_ret
   exact ⟨ret_bool HN.out, HB3.out⟩
 have EH := Lib.hid e5; clear e5
 by_cases h6 : l = d
 · have E6 : Hid (decide (l = d) = true) := Lib.hid (decide_eq_true h6)
   have d6 : (l == d) = true := by simpa using h6
   clear h6
   have HN : Hid (true = r) := Lib.hid (by rw [HR.out]; rw [E0.out, EL.out, E2.out, E3.out, EO.out, EH.out, E6.out]; rfl)
   go_wp2_with fail
   apply wp_region_rg (by kernel_rfl) rl0NodeOkB rl1NodeOkB rl2NodeOkB (StP.is _ :: StP.is _ :: StP.is _ :: StP.is _ :: StP.is _ :: StP.is _ :: StP.is _ :: StP.is _ :: StP.is _ :: StP.is _ :: StP.is _ :: StP.is _ :: StP.is _ :: StP.is _ :: StP.is _ :: StP.is _ :: StP.is _ :: StP.is _ :: StP.is _ :: StP.is _ :: StP.is _ :: StP.is _ :: StP.is _ :: StP.is _ :: StP.is _ :: StP.is _ :: StP.is _ :: StP.is _ :: StP.is _ :: StP.is _ :: StP.is _ :: StP.is _ :: StP.is _ :: StP.is _ :: StP.is _ :: StP.is _ :: StP.is _ :: StP.is _ :: StP.is _ :: StP.is _ :: StP.is _ :: StP.is _ :: StP.is _ :: StP.is _ :: StP.is _ :: StP.is _ :: []) (rgCheck_of (by kernel_rfl))
   case hobs =>
    iterate 4 (constructor; rotate_left)
    constructor; have ld_ := trivial; rotate_left
    iterate 6 (constructor; rotate_left)
    constructor; have ld_ := trivial; rotate_left
    iterate 6 (constructor; rotate_left)
    constructor; have ld_ := trivial; rotate_left
    iterate 7 (constructor; rotate_left)
    constructor; have ld_ := trivial; rotate_left
    iterate 5 (constructor; rotate_left)
    constructor; have ld_ := trivial; rotate_left
    iterate 5 (constructor; rotate_left)
    constructor; have ld_ := trivial; rotate_left
    iterate 2 (constructor; rotate_left)
    constructor; have ld_ := trivial; rotate_left
    iterate 4 (constructor; rotate_left)
    · trivial
    all_goals (
     intro y w' hS hF K hK
     have eF := trivial
     repeat (obtain ⟨f1, hF⟩ := hF; replace eF := And.intro (show y _ = _ from f1) eF; clear f1)
     first
      | simp only [fillL, rl0NodeOkB, rl1NodeOkB, rl2NodeOkB, cond_true, cond_false, zG0, zG1, StP.is, Act.put, zS2, zS0, zS1, Nat.reduceAdd, eF] at hK ⊢
      | simp only [fillL, rl0NodeOkB, rl1NodeOkB, rl2NodeOkB, cond_true, cond_false, zG0, zG1, StP.is, Act.put, zS2, zS0, zS1, Nat.reduceAdd] at hK ⊢
     clear eF hF
     first
      | (refine rg_yes (by kernel_rfl) ?_
         try (clear ld_; have qx0_ := (Below.cell hS l1).trans b0; have qx1_ := (Below.cell hS l1).trans b1; have qx2_ := (Below.cell hS l1).trans b2; have qx3_ := (Below.cell hS l1).trans b3; have qx4_ := (Below.cell hS l1).trans b4; have qx5_ := (Below.cell hS l1).trans b5; have qx6_ := (Below.cell hS l1).trans b6; have qx7_ := (Below.cell hS l1).trans b7; have qx8_ := (Below.cell hS l1).trans b8; have qx9_ := (Below.cell hS l1).trans b9)
         go_simp
         first
          | (go_at_call 61
             refine (within_any _ _ _ _).mono ?_
             rw [EL.out]
             rintro e w'' ⟨rfl, rfl⟩
             exact hK _ _ (Ext.refl _) rfl)
          | (go_at_call 83
             refine (depthOf_any _ _).mono ?_
             rw [EDF.out]
             rintro e w'' ⟨rfl, rfl⟩
             exact hK _ _ (Ext.refl _) rfl)
          | (go_at_call 68
             refine (ptrOk_any a b s m l _).mono ?_
             rw [EO.out]
             rintro e w'' ⟨rfl, hb⟩
             exact hK _ _ hb rfl)
          | (go_at_call 69
             refine (ptrHole_any a b s m l _).mono ?_
             rw [EH.out]
             rintro e w'' ⟨rfl, hb⟩
             exact hK _ _ hb rfl)
          | exact hK _ _ (Ext.refl _) rfl))
   intro y w2 hX hF
   have e_ : y 2 = _ := hF.2.2.2.2.2.2.2.2.2.2.2.2.2.2.2.2.2.2.2.2.2.2.2.2.2.2.2.2.2.2.2.2.2.2.2.2.2.2.2.2.2.2.2.2.2.1
   clear hF
   simp only [fillL, rl0NodeOkB, rl1NodeOkB, rl2NodeOkB, cond_true, cond_false, Nat.reduceAdd, e_]
   have HB3 : Hid (Below w.heap.size w w2) := Lib.hid (HB1.out.trans (Below.mono hX HB1.out.size))
   clear hX e_ b0 b1 b2 b3 b4 b5 b6 b7 b8 b9
   go_wp2_with fail
   go_ret
   exact ⟨ret_bool HN.out, HB3.out⟩
 have E6 : Hid (decide (l = d) = false) := Lib.hid (decide_eq_false h6)
 have d6 : (l == d) = false := by simpa using h6
 clear h6
 have HN : Hid (false = r) := Lib.hid (by rw [HR.out]; rw [E0.out, EL.out, E2.out, E3.out, EO.out, EH.out, E6.out]; rfl)
 go_wp2_with fail
 apply wp_region_rg (by kernel_rfl) rl0NodeOkB rl1NodeOkB rl2NodeOkB (StP.is _ :: StP.is _ :: StP.is _ :: StP.is _ :: StP.is _ :: StP.is _ :: StP.is _ :: StP.is _ :: StP.is _ :: StP.is _ :: StP.is _ :: StP.is _ :: StP.is _ :: StP.is _ :: StP.is _ :: StP.is _ :: StP.is _ :: StP.is _ :: StP.is _ :: StP.is _ :: StP.is _ :: StP.is _ :: StP.is _ :: StP.is _ :: StP.is _ :: StP.is _ :: StP.is _ :: StP.is _ :: StP.is _ :: StP.is _ :: StP.is _ :: StP.is _ :: StP.is _ :: StP.is _ :: StP.is _ :: StP.is _ :: StP.is _ :: StP.is _ :: StP.is _ :: StP.is _ :: StP.is _ :: StP.is _ :: StP.is _ :: StP.is _ :: StP.is _ :: StP.is _ :: []) (rgCheck_of (by kernel_rfl))
 case hobs =>
  iterate 4 (constructor; rotate_left)
  constructor; have ld_ := trivial; rotate_left
  iterate 6 (constructor; rotate_left)
  constructor; have ld_ := trivial; rotate_left
  iterate 6 (constructor; rotate_left)
  constructor; have ld_ := trivial; rotate_left
  iterate 7 (constructor; rotate_left)
  constructor; have ld_ := trivial; rotate_left
  iterate 5 (constructor; rotate_left)
  constructor; have ld_ := trivial; rotate_left
  iterate 5 (constructor; rotate_left)
  constructor; have ld_ := trivial; rotate_left
  iterate 2 (constructor; rotate_left)
  constructor; have ld_ := trivial; rotate_left
  iterate 4 (constructor; rotate_left)
  · trivial
  all_goals (
   intro y w' hS hF K hK
   have eF := trivial
   repeat (obtain ⟨f1, hF⟩ := hF; replace eF := And.intro (show y _ = _ from f1) eF; clear f1)
   first
    | simp only [fillL, rl0NodeOkB, rl1NodeOkB, rl2NodeOkB, cond_true, cond_false, zG0, zG1, StP.is, Act.put, zS2, zS0, zS1, Nat.reduceAdd, eF] at hK ⊢
    | simp only [fillL, rl0NodeOkB, rl1NodeOkB, rl2NodeOkB, cond_true, cond_false, zG0, zG1, StP.is, Act.put, zS2, zS0, zS1, Nat.reduceAdd] at hK ⊢
   clear eF hF
   first
    | (refine rg_yes (by kernel_rfl) ?_
       try (clear ld_; have qx0_ := (Below.cell hS l1).trans b0; have qx1_ := (Below.cell hS l1).trans b1; have qx2_ := (Below.cell hS l1).trans b2; have qx3_ := (Below.cell hS l1).trans b3; have qx4_ := (Below.cell hS l1).trans b4; have qx5_ := (Below.cell hS l1).trans b5; have qx6_ := (Below.cell hS l1).trans b6; have qx7_ := (Below.cell hS l1).trans b7; have qx8_ := (Below.cell hS l1).trans b8; have qx9_ := (Below.cell hS l1).trans b9)
       go_simp
       first
        | (go_at_call 61
           refine (within_any _ _ _ _).mono ?_
           rw [EL.out]
           rintro e w'' ⟨rfl, rfl⟩
           exact hK _ _ (Ext.refl _) rfl)
        | (go_at_call 83
           refine (depthOf_any _ _).mono ?_
           rw [EDF.out]
           rintro e w'' ⟨rfl, rfl⟩
           exact hK _ _ (Ext.refl _) rfl)
        | (go_at_call 68
           refine (ptrOk_any a b s m l _).mono ?_
           rw [EO.out]
           rintro e w'' ⟨rfl, hb⟩
           exact hK _ _ hb rfl)
        | (go_at_call 69
           refine (ptrHole_any a b s m l _).mono ?_
           rw [EH.out]
           rintro e w'' ⟨rfl, hb⟩
           exact hK _ _ hb rfl)
        | exact hK _ _ (Ext.refl _) rfl))
 intro y w2 hX hF
 have e_ : y 2 = _ := hF.2.2.2.2.2.2.2.2.2.2.2.2.2.2.2.2.2.2.2.2.2.2.2.2.2.2.2.2.2.2.2.2.2.2.2.2.2.2.2.2.2.2.2.2.2.1
 clear hF
 simp only [fillL, rl0NodeOkB, rl1NodeOkB, rl2NodeOkB, cond_true, cond_false, Nat.reduceAdd, e_]
 have HB3 : Hid (Below w.heap.size w w2) := Lib.hid (HB1.out.trans (Below.mono hX HB1.out.size))
 clear hX e_ b0 b1 b2 b3 b4 b5 b6 b7 b8 b9
 go_wp2_with fail
 go_ret
 exact ⟨ret_bool HN.out, HB3.out⟩
theorem nodeOk_any (i j z a b s m l d n : Int) (w : World) :
 Calls Tryz.prog 106 #[.agg #[.int .i64 i, .int .i64 j, .int .i64 z, .int .i64 a, .int .i64 b, .int .i64 s, .int .i64 m, .int .i64 l, .int .i64 d, .int .i64 n]] w fun e w' => e = .returned (.bool (nodeOkB (i, j, z, (a, b, s, m, l), d, n))) ∧ Below w.heap.size w w' := by
 by_cases hk : i = 2
 · exact nodeOk_A i j z a b s m l d n w hk
 exact nodeOk_B i j z a b s m l d n w hk
end Go.Proofs.YtjnhiiaejeaikaaGreatDoor
