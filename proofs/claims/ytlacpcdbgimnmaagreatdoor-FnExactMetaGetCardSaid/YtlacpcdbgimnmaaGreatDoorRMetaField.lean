/- The fields of a snapshot and of a head. Condition: the table of powers of ten lies as its initialiser lays it. -/
import Derived.Test.YtlacpcdbgimnmaaGreatDoorRMetaPlain
import Derived.Test.YtlacpcdbgimnmaaGreatDoorRPtrGet
set_option linter.unnecessarySimpa false
set_option linter.unusedSimpArgs false
set_option linter.unusedVariables false
namespace Go.Proofs.YtlacpcdbgimnmaaGreatDoor
open Go Go.Lib Go.RowKit
theorem DeadR_def (ps : List PtrD) (w : World) : DeadR ps w = fun e w' => e = .returned (.tuple #[.string (strB (deadF ps).1), .bool (deadF ps).2]) ∧ Below w.heap.size w w' := rfl
theorem RecR_def (fs : List Str) (e : Int) (w : World) : RecR fs e w = fun en w' => en = .returned (.tuple #[.string (strB (recF fs e).1), .bool (recF fs e).2]) ∧ Below w.heap.size w w' := rfl
def FieldR (X : Str) (ok : Bool) (w : World) (e : Ending) (w' : World) : Prop := e = .returned (.tuple #[.string (strB X), .bool ok]) ∧ Below w.heap.size w w'
set_option maxRecDepth 100000 in
set_option maxHeartbeats 4000000 in
theorem fieldSnap_any (i : Int) (nm : Str) (g v : Int) (a b s m l d kk : Int) (A : Option Addr) (n c : Nat) (ps : List PtrD) (w : World) (lo hi : Nat) (ht : Tab w) (h : SliceR PtrR 5 w lo hi A n c ps) (hn : n ≤ 2000000) (hnm : nm.length ≤ 3000000) :
 Calls Tryz.prog 43 #[.agg #[.int .i64 i, .string (strB nm), .int .i64 g, .int .i64 v, .int .i64 a, .int .i64 b, .int .i64 s, .int .i64 m, .int .i64 l, .int .i64 d, .int .i64 kk, .slice A n c]] w (FieldR (snapT (i, strB nm, g, v, ((a, b, s, m, l), d, kk), ps)) (snapB (i, strB nm, g, v, ((a, b, s, m, l), d, kk), ps)) w) := by
 obtain ⟨i0, hi0, hz0, hz1, hz2⟩ := info_parts info_strs
 have HLE : Hid (∀ f ∈ snapL (i, strB nm, g, v, ((a, b, s, m, l), d, kk), ps), f.length ≤ 1099511627776) := Lib.hid (snapL_le (by show nm.length ≤ _; omega) (by show ps.length ≤ _; rw [h.len]; omega))
 have H := Lib.hid h; have HT := Lib.hid ht
 clear h ht
 go_enter Tryz.func43, Tryz.ntmps43
 go_wp2_with fail
 refine (deadText_any A n c ps _ lo hi (HT.out.below bel1) (SliceR.below H.out bel1 (PtrR.below bel1 H.out.lo_le)) hn).mono ?_
 obtain ⟨dt, hdt⟩ : ∃ X, X = (deadF ps).1 := ⟨_, rfl⟩
 obtain ⟨okd, hokd⟩ : ∃ X, X = (deadF ps).2 := ⟨_, rfl⟩
 rw [DeadR_def, ← hdt, ← hokd]
 have HLF : Hid (snapL (i, strB nm, g, v, ((a, b, s, m, l), d, kk), ps) = [numS i, nm, numS g, numS v] ++ treeS a b s m l d kk ++ [dt]) := Lib.hid (by rw [hdt]; rfl)
 have HB0 : Hid (snapB (i, strB nm, g, v, ((a, b, s, m, l), d, kk), ps) = (okd && ((recF (snapL (i, strB nm, g, v, ((a, b, s, m, l), d, kk), ps)) 7).2 && namB nm))) := Lib.hid (by rw [hokd]; rfl)
 have HT0 : Hid (snapT (i, strB nm, g, v, ((a, b, s, m, l), d, kk), ps) = (recF (snapL (i, strB nm, g, v, ((a, b, s, m, l), d, kk), ps)) 7).1) := Lib.hid rfl
 generalize snapB (i, strB nm, g, v, ((a, b, s, m, l), d, kk), ps) = resb at *
 generalize snapT (i, strB nm, g, v, ((a, b, s, m, l), d, kk), ps) = rest at *
 generalize snapL (i, strB nm, g, v, ((a, b, s, m, l), d, kk), ps) = fs at *
 clear hdt hokd H
 rintro e w1 ⟨rfl, hb1⟩
 have HB1 := Lib.hid (bel1.trans (hb1.mono (by simp)))
 have c1_0 : w1.cell? ⟨w.heap.size, 0, none⟩ = some (.int .i64 i) := (hb1.cell (by simp)).trans (by simp [go_sem])
 have c1_1 : w1.cell? ⟨w.heap.size, 1, none⟩ = some (.string (strB nm)) := (hb1.cell (by simp)).trans (by simp [go_sem])
 have c1_2 : w1.cell? ⟨w.heap.size, 2, none⟩ = some (.int .i64 g) := (hb1.cell (by simp)).trans (by simp [go_sem])
 have c1_3 : w1.cell? ⟨w.heap.size, 3, none⟩ = some (.int .i64 v) := (hb1.cell (by simp)).trans (by simp [go_sem])
 have c1_4 : w1.cell? ⟨w.heap.size, 4, none⟩ = some (.int .i64 a) := (hb1.cell (by simp)).trans (by simp [go_sem])
 have c1_5 : w1.cell? ⟨w.heap.size, 5, none⟩ = some (.int .i64 b) := (hb1.cell (by simp)).trans (by simp [go_sem])
 have c1_6 : w1.cell? ⟨w.heap.size, 6, none⟩ = some (.int .i64 s) := (hb1.cell (by simp)).trans (by simp [go_sem])
 have c1_7 : w1.cell? ⟨w.heap.size, 7, none⟩ = some (.int .i64 m) := (hb1.cell (by simp)).trans (by simp [go_sem])
 have c1_8 : w1.cell? ⟨w.heap.size, 8, none⟩ = some (.int .i64 l) := (hb1.cell (by simp)).trans (by simp [go_sem])
 have c1_9 : w1.cell? ⟨w.heap.size, 9, none⟩ = some (.int .i64 d) := (hb1.cell (by simp)).trans (by simp [go_sem])
 have c1_10 : w1.cell? ⟨w.heap.size, 10, none⟩ = some (.int .i64 kk) := (hb1.cell (by simp)).trans (by simp [go_sem])
 have c1_11 : w1.cell? ⟨w.heap.size, 11, none⟩ = some (.slice A n c) := (hb1.cell (by simp)).trans (by simp [go_sem])
 have l1 : w.heap.size < w1.heap.size := World.block_lt_of_cell? w1 _ c1_0
 have HT1 := Lib.hid (HT.out.below HB1.out)
 clear hb1 HT
 go_wp2_with fail
 apply wp_region_rgm (Own (w1.heap.size)) (Ext) (fun _ _ => True) (0 :: 0 :: 0 :: 0 :: 0 :: 0 :: 0 :: 0 :: 0 :: 0 :: 0 :: 0 :: 0 :: 0 :: 0 :: 0 :: 0 :: []) (by kernel_rfl) (false :: false :: false :: false :: false :: false :: true :: false :: false :: false :: false :: false :: false :: false :: false :: true :: true :: true :: true :: true :: true :: true :: true :: true :: true :: true :: true :: true :: true :: true :: true :: false :: false :: false :: false :: false :: false :: false :: false :: false :: false :: false :: false :: false :: false :: false :: false :: false :: false :: []) (some 15 :: some 16 :: some 17 :: some 18 :: some 19 :: some 20 :: some 21 :: some 22 :: some 23 :: some 24 :: some 25 :: some 26 :: some 27 :: some 28 :: some 29 :: some 30 :: some 6 :: []) ([] :: [0] :: [1] :: [] :: [3] :: [] :: [5] :: [6] :: [] :: [8] :: [9] :: [2, 4, 7, 10] :: [] :: [12] :: [13] :: [11, 14] :: [15] :: []) (false :: false :: false :: false :: false :: false :: false :: false :: false :: false :: false :: false :: false :: false :: false :: true :: false :: []) (true :: true :: true :: true :: true :: true :: true :: true :: true :: true :: true :: false :: true :: true :: false :: false :: false :: []) [16] (MStP.is _ :: MStP.is _ :: MStP.is _ :: MStP.is _ :: MStP.is _ :: MStP.is _ :: MStP.is _ :: MStP.is _ :: MStP.is _ :: MStP.is _ :: MStP.is _ :: softStrs (w1.heap.size) ([numS i, nm, numS g, numS v]) :: MStP.is _ :: MStP.is _ :: softStrs (w1.heap.size) (treeS a b s m l d kk) :: softStrs (w1.heap.size) ([numS i, nm, numS g, numS v] ++ treeS a b s m l d kk) :: softStrs (w1.heap.size) ([numS i, nm, numS g, numS v] ++ treeS a b s m l d kk) :: []) (by kernel_rfl) (by kernel_rfl) (by kernel_rfl)
 case hobs =>
  refine ⟨fun y w' k hS hj hk hF K hK => ?_, ?_⟩
  · skip
    simp only [fillL, cond_true, cond_false, zG0, zG1, StP.is, Act.put, zS2, zS0, zS1, Nat.reduceAdd, MStP.is, Option.isSome_some, Option.isSome_none] at hK ⊢
    refine rg_yes (by kernel_rfl) ?_
    clear hF
    go_simp
    exact hK _ _ (Ext.refl _) trivial rfl
  refine ⟨fun y w' k hS hj hk hF K hK => ?_, ?_⟩
  · skip
    have e15 : y 15 = _ := hF.1
    simp only [fillL, cond_true, cond_false, zG0, zG1, StP.is, Act.put, zS2, zS0, zS1, Nat.reduceAdd, e15, MStP.is, Option.isSome_some, Option.isSome_none] at hK ⊢
    refine rg_yes (by kernel_rfl) ?_
    have hSb := hS.below
    have hBw := hSb.size
    have q0_ := (hSb.cell l1).trans c1_0
    have q1_ := (hSb.cell l1).trans c1_1
    have q2_ := (hSb.cell l1).trans c1_2
    have q3_ := (hSb.cell l1).trans c1_3
    have q4_ := (hSb.cell l1).trans c1_4
    have q5_ := (hSb.cell l1).trans c1_5
    have q6_ := (hSb.cell l1).trans c1_6
    have q7_ := (hSb.cell l1).trans c1_7
    have q8_ := (hSb.cell l1).trans c1_8
    have q9_ := (hSb.cell l1).trans c1_9
    have q10_ := (hSb.cell l1).trans c1_10
    have q11_ := (hSb.cell l1).trans c1_11
    clear e15
    clear hF
    go_simp
    exact hK _ _ (Ext.refl _) trivial rfl
  refine ⟨fun y w' k hS hj hk hF K hK => ?_, ?_⟩
  · skip
    have e16 : y 16 = _ := hF.1
    simp only [fillL, cond_true, cond_false, zG0, zG1, StP.is, Act.put, zS2, zS0, zS1, Nat.reduceAdd, e16, MStP.is, Option.isSome_some, Option.isSome_none] at hK ⊢
    refine rg_yes (by kernel_rfl) ?_
    have hSb := hS.below
    have hBw := hSb.size
    have q0_ := (hSb.cell l1).trans c1_0
    have q1_ := (hSb.cell l1).trans c1_1
    have q2_ := (hSb.cell l1).trans c1_2
    have q3_ := (hSb.cell l1).trans c1_3
    have q4_ := (hSb.cell l1).trans c1_4
    have q5_ := (hSb.cell l1).trans c1_5
    have q6_ := (hSb.cell l1).trans c1_6
    have q7_ := (hSb.cell l1).trans c1_7
    have q8_ := (hSb.cell l1).trans c1_8
    have q9_ := (hSb.cell l1).trans c1_9
    have q10_ := (hSb.cell l1).trans c1_10
    have q11_ := (hSb.cell l1).trans c1_11
    clear e16
    clear hF
    go_simp
    go_at_call 42
    refine (numPut_any i w' (HT1.out.below hSb)).mono ?_
    rintro e w'' ⟨rfl, hb9⟩
    exact hK _ _ hb9 trivial rfl
  refine ⟨fun y w' k hS hj hk hF K hK => ?_, ?_⟩
  · skip
    simp only [fillL, cond_true, cond_false, zG0, zG1, StP.is, Act.put, zS2, zS0, zS1, Nat.reduceAdd, MStP.is, Option.isSome_some, Option.isSome_none] at hK ⊢
    refine rg_yes (by kernel_rfl) ?_
    clear hF
    go_simp
    exact hK _ _ (Ext.refl _) trivial rfl
  refine ⟨fun y w' k hS hj hk hF K hK => ?_, ?_⟩
  · skip
    have e18 : y 18 = _ := hF.1
    simp only [fillL, cond_true, cond_false, zG0, zG1, StP.is, Act.put, zS2, zS0, zS1, Nat.reduceAdd, e18, MStP.is, Option.isSome_some, Option.isSome_none] at hK ⊢
    refine rg_yes (by kernel_rfl) ?_
    have hSb := hS.below
    have hBw := hSb.size
    have q0_ := (hSb.cell l1).trans c1_0
    have q1_ := (hSb.cell l1).trans c1_1
    have q2_ := (hSb.cell l1).trans c1_2
    have q3_ := (hSb.cell l1).trans c1_3
    have q4_ := (hSb.cell l1).trans c1_4
    have q5_ := (hSb.cell l1).trans c1_5
    have q6_ := (hSb.cell l1).trans c1_6
    have q7_ := (hSb.cell l1).trans c1_7
    have q8_ := (hSb.cell l1).trans c1_8
    have q9_ := (hSb.cell l1).trans c1_9
    have q10_ := (hSb.cell l1).trans c1_10
    have q11_ := (hSb.cell l1).trans c1_11
    clear e18
    clear hF
    go_simp
    exact hK _ _ (Ext.refl _) trivial rfl
  refine ⟨fun y w' k hS hj hk hF K hK => ?_, ?_⟩
  · skip
    simp only [fillL, cond_true, cond_false, zG0, zG1, StP.is, Act.put, zS2, zS0, zS1, Nat.reduceAdd, MStP.is, Option.isSome_some, Option.isSome_none] at hK ⊢
    refine rg_yes (by kernel_rfl) ?_
    clear hF
    go_simp
    exact hK _ _ (Ext.refl _) trivial rfl
  refine ⟨fun y w' k hS hj hk hF K hK => ?_, ?_⟩
  · skip
    have e20 : y 20 = _ := hF.1
    simp only [fillL, cond_true, cond_false, zG0, zG1, StP.is, Act.put, zS2, zS0, zS1, Nat.reduceAdd, e20, MStP.is, Option.isSome_some, Option.isSome_none] at hK ⊢
    refine rg_yes (by kernel_rfl) ?_
    have hSb := hS.below
    have hBw := hSb.size
    have q0_ := (hSb.cell l1).trans c1_0
    have q1_ := (hSb.cell l1).trans c1_1
    have q2_ := (hSb.cell l1).trans c1_2
    have q3_ := (hSb.cell l1).trans c1_3
    have q4_ := (hSb.cell l1).trans c1_4
    have q5_ := (hSb.cell l1).trans c1_5
    have q6_ := (hSb.cell l1).trans c1_6
    have q7_ := (hSb.cell l1).trans c1_7
    have q8_ := (hSb.cell l1).trans c1_8
    have q9_ := (hSb.cell l1).trans c1_9
    have q10_ := (hSb.cell l1).trans c1_10
    have q11_ := (hSb.cell l1).trans c1_11
    clear e20
    clear hF
    go_simp
    exact hK _ _ (Ext.refl _) trivial rfl
  refine ⟨fun y w' k hS hj hk hF K hK => ?_, ?_⟩
  · skip
    have e21 : y 21 = _ := hF.1
    simp only [fillL, cond_true, cond_false, zG0, zG1, StP.is, Act.put, zS2, zS0, zS1, Nat.reduceAdd, e21, MStP.is, Option.isSome_some, Option.isSome_none] at hK ⊢
    refine rg_yes (by kernel_rfl) ?_
    have hSb := hS.below
    have hBw := hSb.size
    have q0_ := (hSb.cell l1).trans c1_0
    have q1_ := (hSb.cell l1).trans c1_1
    have q2_ := (hSb.cell l1).trans c1_2
    have q3_ := (hSb.cell l1).trans c1_3
    have q4_ := (hSb.cell l1).trans c1_4
    have q5_ := (hSb.cell l1).trans c1_5
    have q6_ := (hSb.cell l1).trans c1_6
    have q7_ := (hSb.cell l1).trans c1_7
    have q8_ := (hSb.cell l1).trans c1_8
    have q9_ := (hSb.cell l1).trans c1_9
    have q10_ := (hSb.cell l1).trans c1_10
    have q11_ := (hSb.cell l1).trans c1_11
    clear e21
    clear hF
    go_simp
    go_at_call 42
    refine (numPut_any g w' (HT1.out.below hSb)).mono ?_
    rintro e w'' ⟨rfl, hb9⟩
    exact hK _ _ hb9 trivial rfl
  refine ⟨fun y w' k hS hj hk hF K hK => ?_, ?_⟩
  · skip
    simp only [fillL, cond_true, cond_false, zG0, zG1, StP.is, Act.put, zS2, zS0, zS1, Nat.reduceAdd, MStP.is, Option.isSome_some, Option.isSome_none] at hK ⊢
    refine rg_yes (by kernel_rfl) ?_
    clear hF
    go_simp
    exact hK _ _ (Ext.refl _) trivial rfl
  refine ⟨fun y w' k hS hj hk hF K hK => ?_, ?_⟩
  · skip
    have e23 : y 23 = _ := hF.1
    simp only [fillL, cond_true, cond_false, zG0, zG1, StP.is, Act.put, zS2, zS0, zS1, Nat.reduceAdd, e23, MStP.is, Option.isSome_some, Option.isSome_none] at hK ⊢
    refine rg_yes (by kernel_rfl) ?_
    have hSb := hS.below
    have hBw := hSb.size
    have q0_ := (hSb.cell l1).trans c1_0
    have q1_ := (hSb.cell l1).trans c1_1
    have q2_ := (hSb.cell l1).trans c1_2
    have q3_ := (hSb.cell l1).trans c1_3
    have q4_ := (hSb.cell l1).trans c1_4
    have q5_ := (hSb.cell l1).trans c1_5
    have q6_ := (hSb.cell l1).trans c1_6
    have q7_ := (hSb.cell l1).trans c1_7
    have q8_ := (hSb.cell l1).trans c1_8
    have q9_ := (hSb.cell l1).trans c1_9
    have q10_ := (hSb.cell l1).trans c1_10
    have q11_ := (hSb.cell l1).trans c1_11
    clear e23
    clear hF
    go_simp
    exact hK _ _ (Ext.refl _) trivial rfl
  refine ⟨fun y w' k hS hj hk hF K hK => ?_, ?_⟩
  · skip
    have e24 : y 24 = _ := hF.1
    simp only [fillL, cond_true, cond_false, zG0, zG1, StP.is, Act.put, zS2, zS0, zS1, Nat.reduceAdd, e24, MStP.is, Option.isSome_some, Option.isSome_none] at hK ⊢
    refine rg_yes (by kernel_rfl) ?_
    have hSb := hS.below
    have hBw := hSb.size
    have q0_ := (hSb.cell l1).trans c1_0
    have q1_ := (hSb.cell l1).trans c1_1
    have q2_ := (hSb.cell l1).trans c1_2
    have q3_ := (hSb.cell l1).trans c1_3
    have q4_ := (hSb.cell l1).trans c1_4
    have q5_ := (hSb.cell l1).trans c1_5
    have q6_ := (hSb.cell l1).trans c1_6
    have q7_ := (hSb.cell l1).trans c1_7
    have q8_ := (hSb.cell l1).trans c1_8
    have q9_ := (hSb.cell l1).trans c1_9
    have q10_ := (hSb.cell l1).trans c1_10
    have q11_ := (hSb.cell l1).trans c1_11
    clear e24
    clear hF
    go_simp
    go_at_call 42
    refine (numPut_any v w' (HT1.out.below hSb)).mono ?_
    rintro e w'' ⟨rfl, hb9⟩
    exact hK _ _ hb9 trivial rfl
  refine ⟨fun y w' k hS hj hk hF K hK => ?_, ?_⟩
  · skip
    have e17 : y 17 = _ := hF.1
    have e19 : y 19 = _ := hF.2.1
    have e22 : y 22 = _ := hF.2.2.1
    have e25 : y 25 = _ := hF.2.2.2.1
    simp only [fillL, cond_true, cond_false, zG0, zG1, StP.is, Act.put, zS2, zS0, zS1, Nat.reduceAdd, e17, e19, e22, e25, MStP.is, Option.isSome_some, Option.isSome_none] at hK ⊢
    refine rg_yes (by kernel_rfl) ?_
    have hSb := hS.below
    have hBw := hSb.size
    have q0_ := (hSb.cell l1).trans c1_0
    have q1_ := (hSb.cell l1).trans c1_1
    have q2_ := (hSb.cell l1).trans c1_2
    have q3_ := (hSb.cell l1).trans c1_3
    have q4_ := (hSb.cell l1).trans c1_4
    have q5_ := (hSb.cell l1).trans c1_5
    have q6_ := (hSb.cell l1).trans c1_6
    have q7_ := (hSb.cell l1).trans c1_7
    have q8_ := (hSb.cell l1).trans c1_8
    have q9_ := (hSb.cell l1).trans c1_9
    have q10_ := (hSb.cell l1).trans c1_10
    have q11_ := (hSb.cell l1).trans c1_11
    clear e17 e19 e22 e25
    clear hF
    go_simp
    exact hK _ _ (Ext.alloc _ _) trivial ⟨_, _, _, rfl, rfl, StrsIn.lit (fs := [numS i, nm, numS g, numS v]) hBw (heap_alloc_new _ _) rfl (by unfold maxLen; simp)⟩
  refine ⟨fun y w' k hS hj hk hF K hK => ?_, ?_⟩
  · skip
    simp only [fillL, cond_true, cond_false, zG0, zG1, StP.is, Act.put, zS2, zS0, zS1, Nat.reduceAdd, MStP.is, Option.isSome_some, Option.isSome_none] at hK ⊢
    refine rg_yes (by kernel_rfl) ?_
    clear hF
    go_simp
    exact hK _ _ (Ext.refl _) trivial rfl
  refine ⟨fun y w' k hS hj hk hF K hK => ?_, ?_⟩
  · skip
    have e27 : y 27 = _ := hF.1
    simp only [fillL, cond_true, cond_false, zG0, zG1, StP.is, Act.put, zS2, zS0, zS1, Nat.reduceAdd, e27, MStP.is, Option.isSome_some, Option.isSome_none] at hK ⊢
    refine rg_yes (by kernel_rfl) ?_
    have hSb := hS.below
    have hBw := hSb.size
    have q0_ := (hSb.cell l1).trans c1_0
    have q1_ := (hSb.cell l1).trans c1_1
    have q2_ := (hSb.cell l1).trans c1_2
    have q3_ := (hSb.cell l1).trans c1_3
    have q4_ := (hSb.cell l1).trans c1_4
    have q5_ := (hSb.cell l1).trans c1_5
    have q6_ := (hSb.cell l1).trans c1_6
    have q7_ := (hSb.cell l1).trans c1_7
    have q8_ := (hSb.cell l1).trans c1_8
    have q9_ := (hSb.cell l1).trans c1_9
    have q10_ := (hSb.cell l1).trans c1_10
    have q11_ := (hSb.cell l1).trans c1_11
    clear e27
    clear hF
    go_simp
    exact hK _ _ (Ext.refl _) trivial rfl
  refine ⟨fun y w' k hS hj hk hF K hK => ?_, ?_⟩
  · skip
    have e28 : y 28 = _ := hF.1
    simp only [fillL, cond_true, cond_false, zG0, zG1, StP.is, Act.put, zS2, zS0, zS1, Nat.reduceAdd, e28, MStP.is, Option.isSome_some, Option.isSome_none] at hK ⊢
    refine rg_yes (by kernel_rfl) ?_
    have hSb := hS.below
    have hBw := hSb.size
    have q0_ := (hSb.cell l1).trans c1_0
    have q1_ := (hSb.cell l1).trans c1_1
    have q2_ := (hSb.cell l1).trans c1_2
    have q3_ := (hSb.cell l1).trans c1_3
    have q4_ := (hSb.cell l1).trans c1_4
    have q5_ := (hSb.cell l1).trans c1_5
    have q6_ := (hSb.cell l1).trans c1_6
    have q7_ := (hSb.cell l1).trans c1_7
    have q8_ := (hSb.cell l1).trans c1_8
    have q9_ := (hSb.cell l1).trans c1_9
    have q10_ := (hSb.cell l1).trans c1_10
    have q11_ := (hSb.cell l1).trans c1_11
    clear e28
    clear hF
    go_simp
    go_at_call 63
    refine (treeFields_any a b s m l d kk w' (HT1.out.below hSb)).mono ?_
    rintro e w'' ⟨A2, c2, rfl, hI, hb9⟩
    exact hK _ _ hb9 trivial ⟨A2, c2, _, rfl, rfl, hI.mono hBw⟩
  refine ⟨fun y w' k hS hj hk hF K hK => ?_, ?_⟩
  · skip
    obtain ⟨Ae26, ce26, ne26, e26, hxe26, hIe26⟩ := hF.1
    have hne26 := Lib.hid hxe26; clear hxe26
    obtain ⟨Ae29, ce29, ne29, e29, hxe29, hIe29⟩ := hF.2.1
    have hne29 := Lib.hid hxe29; clear hxe29
    simp only [fillL, cond_true, cond_false, zG0, zG1, StP.is, Act.put, zS2, zS0, zS1, Nat.reduceAdd, e26, e29, MStP.is, Option.isSome_some, Option.isSome_none] at hK ⊢
    refine rg_yes (by kernel_rfl) ?_
    have hSb := hS.below
    have hBw := hSb.size
    have q0_ := (hSb.cell l1).trans c1_0
    have q1_ := (hSb.cell l1).trans c1_1
    have q2_ := (hSb.cell l1).trans c1_2
    have q3_ := (hSb.cell l1).trans c1_3
    have q4_ := (hSb.cell l1).trans c1_4
    have q5_ := (hSb.cell l1).trans c1_5
    have q6_ := (hSb.cell l1).trans c1_6
    have q7_ := (hSb.cell l1).trans c1_7
    have q8_ := (hSb.cell l1).trans c1_8
    have q9_ := (hSb.cell l1).trans c1_9
    have q10_ := (hSb.cell l1).trans c1_10
    have q11_ := (hSb.cell l1).trans c1_11
    clear e26 e29
    clear hF
    have hlr := (Nat.le_of_eq rfl : 0 ≤ 0)
    obtain ⟨Se26, hOS, hSB⟩ := hIe26
    have hne26 := hne26.out; have hne29 := hne29.out
    rw [← hne26] at hOS
    have hle1 : ne26 ≤ 4 := by rw [hne26]; exact Nat.le_refl 4
    have hle2 : ne29 ≤ 3 := by rw [hne29]; exact Nat.le_refl 3
    refine wp_append_row (.tmp 26) (.tmp 29) 31 rfl 9 i0 (.string ByteArray.empty) 1 16 Tryz.underlying31 hi0 hz0 hz1 hz2 rfl (by decide) Se26 Ae26 Ae29 ne26 ce26 ne29 ce29 (([numS i, nm, numS g, numS v]).map strV) ((treeS a b s m l d kk).map strV) rfl rfl hOS (by rw [hne29, Nat.mul_one]; exact hIe29.row) (strs_one _) (by unfold maxLen; omega) (by omega) ?_
    intro A' c' S' w'' hO' hS' hC'
    obtain ⟨hI9, hb9⟩ := app_strs (fs := [numS i, nm, numS g, numS v]) (gs := treeS a b s m l d kk) hSB hBw (by rw [List.length_append, hne26, hne29]) hO' hS' hC'
    exact hK _ _ (fun _ => hb9) trivial ⟨A', c', _, rfl, by rw [hne26, hne29, ← List.length_append], hI9⟩
  refine ⟨fun y w' k hS hj hk hF K hK => ?_, ?_⟩
  · skip
    obtain ⟨Ae30, ce30, ne30, e30, hxe30, hIe30⟩ := hF.1
    have hne30 := Lib.hid hxe30; clear hxe30
    simp only [fillL, cond_true, cond_false, zG0, zG1, StP.is, Act.put, zS2, zS0, zS1, Nat.reduceAdd, e30, MStP.is, Option.isSome_some, Option.isSome_none] at hK ⊢
    refine rg_yes (by kernel_rfl) ?_
    have hSb := hS.below
    have hBw := hSb.size
    have q0_ := (hSb.cell l1).trans c1_0
    have q1_ := (hSb.cell l1).trans c1_1
    have q2_ := (hSb.cell l1).trans c1_2
    have q3_ := (hSb.cell l1).trans c1_3
    have q4_ := (hSb.cell l1).trans c1_4
    have q5_ := (hSb.cell l1).trans c1_5
    have q6_ := (hSb.cell l1).trans c1_6
    have q7_ := (hSb.cell l1).trans c1_7
    have q8_ := (hSb.cell l1).trans c1_8
    have q9_ := (hSb.cell l1).trans c1_9
    have q10_ := (hSb.cell l1).trans c1_10
    have q11_ := (hSb.cell l1).trans c1_11
    clear e30
    clear hF
    go_simp
    exact hK _ _ (Ext.refl _) trivial ⟨_, _, _, rfl, hne30.out, hIe30⟩
  trivial
 case hH => rfl
 case hNS => exact Own.of_ext _
 case hSt => exact fun a b => Own.trans a b
 case hJ => exact fun _ _ _ _ h => h
 case hdrew => exact Own.drew _ _
 case hj0 => trivial
 intro y w9 hS _ hF
 obtain ⟨A9, c9, n9, e2, hn9, hI9⟩ := hF.1
 clear hF
 simp only [fillL, cond_true, cond_false, Nat.reduceAdd, e2]
 clear e2
 have HBW := Lib.hid hS.below
 obtain ⟨fs1, hfs1⟩ : ∃ z, z = [numS i, nm, numS g, numS v] ++ treeS a b s m l d kk := ⟨_, rfl⟩
 rw [← hfs1] at hI9 hn9
 have HF1 := Lib.hid hfs1
 have HLL := Lib.hid (show fs1.length = 7 by rw [hfs1]; rfl)
 have HI := Lib.hid hI9
 subst hn9
 clear hI9 hS hfs1
 have c_w9_0 : w9.cell? ⟨w.heap.size, 0, none⟩ = some (.int .i64 i) := (HBW.out.cell l1).trans c1_0
 have c_w9_1 : w9.cell? ⟨w.heap.size, 1, none⟩ = some (.string (strB nm)) := (HBW.out.cell l1).trans c1_1
 have c_w9_2 : w9.cell? ⟨w.heap.size, 2, none⟩ = some (.int .i64 g) := (HBW.out.cell l1).trans c1_2
 have c_w9_3 : w9.cell? ⟨w.heap.size, 3, none⟩ = some (.int .i64 v) := (HBW.out.cell l1).trans c1_3
 have c_w9_4 : w9.cell? ⟨w.heap.size, 4, none⟩ = some (.int .i64 a) := (HBW.out.cell l1).trans c1_4
 have c_w9_5 : w9.cell? ⟨w.heap.size, 5, none⟩ = some (.int .i64 b) := (HBW.out.cell l1).trans c1_5
 have c_w9_6 : w9.cell? ⟨w.heap.size, 6, none⟩ = some (.int .i64 s) := (HBW.out.cell l1).trans c1_6
 have c_w9_7 : w9.cell? ⟨w.heap.size, 7, none⟩ = some (.int .i64 m) := (HBW.out.cell l1).trans c1_7
 have c_w9_8 : w9.cell? ⟨w.heap.size, 8, none⟩ = some (.int .i64 l) := (HBW.out.cell l1).trans c1_8
 have c_w9_9 : w9.cell? ⟨w.heap.size, 9, none⟩ = some (.int .i64 d) := (HBW.out.cell l1).trans c1_9
 have c_w9_10 : w9.cell? ⟨w.heap.size, 10, none⟩ = some (.int .i64 kk) := (HBW.out.cell l1).trans c1_10
 have c_w9_11 : w9.cell? ⟨w.heap.size, 11, none⟩ = some (.slice A n c) := (HBW.out.cell l1).trans c1_11
 have hBW : w1.heap.size ≤ w9.heap.size := HBW.out.size
 have hlen1 : fs1.length + 1 ≤ 100 := by have := HLL.out; omega
 obtain ⟨S, hOS, hSB⟩ := HI.out
 have HOA := Lib.hid (hOS.below (bel1 (o := .cells #[.string (strB dt)] 9)))
 have HLIT := Lib.hid (fun (W : World) => RowAt.lit (w := W) (e := 9) (cur := #[.string (strB dt)]) (m := 1) rfl)
 have HONE : Hid (∀ z_ ∈ ([dt]).map strV, z_.oneCell' = true) := Lib.hid (strs_one _)
 have HSB := Lib.hid hSB
 clear hOS hSB HI
 go_wp2_with (at_builtin; go_must (refine wpList_append_row rfl _ _ 31 rfl 9 i0 (.string ByteArray.empty) 1 16 Tryz.underlying31 hi0 hz0 hz1 hz2 rfl (by decide) S A9 _ fs1.length c9 1 _ (fs1.map strV) (([dt]).map strV) rfl rfl HOA.out (HLIT.out _) HONE.out (by unfold maxLen; omega) (by omega) ?_))
 intro A' c' S' w5 hO' hS' hC'
 obtain ⟨hI5, hb5⟩ := app_strs (B := w1.heap.size) HSB.out (w1 := w9.alloc (.cells #[.string (strB dt)] 9)) (fs := fs1) (gs := [dt]) (by simp; omega) (by rw [List.length_append]; rfl) hO' (fun g hg => (hS' g hg).imp id (fun h => by simpa using h)) hC'
 have HB5 := Lib.hid (HBW.out.trans (((Below.refl _ _).alloc hBW _).trans hb5))
 have HFS : Hid (fs1 ++ [dt] = fs) := Lib.hid (by rw [HLF.out, HF1.out])
 rw [HFS.out] at hI5
 have HLEN : Hid (fs1.length + 1 = fs.length) := Lib.hid (by rw [← HFS.out, List.length_append]; rfl)
 have HI5 := Lib.hid hI5
 have HT5 := Lib.hid (HT1.out.below HB5.out)
 have hl5 : fs.length ≤ 1000 := by rw [← HLEN.out]; omega
 clear hO' hS' hC' HOA HLIT HONE HSB hI5 hb5 hBW HBW c_w9_0 c_w9_1 c_w9_2 c_w9_3 c_w9_4 c_w9_5 c_w9_6 c_w9_7 c_w9_8 c_w9_9 c_w9_10 c_w9_11
 have P5 := record_any A' c' fs 7 w5 HT5.out HI5.out.row HLE.out (by omega)
 rw [← HLEN.out, RecR_def] at P5
 have HP5 := Lib.hid P5; clear P5
 go_wp2_with fail
 refine HP5.out.mono ?_
 obtain ⟨okr, hokr⟩ : ∃ X, X = (recF fs 7).2 := ⟨_, rfl⟩
 rw [← HT0.out, ← hokr]
 rw [← hokr] at HB0
 have HRB := Lib.hid HB0.out
 clear HB0 HP5 hokr
 rintro e w6 ⟨rfl, hb6⟩
 have HB6 := Lib.hid (HB5.out.trans (hb6.mono HB5.out.size))
 clear hb6
 have cn : w6.cell? ⟨w.heap.size, 1, none⟩ = some (.string (strB nm)) := (HB6.out.cell l1).trans c1_1
 have HZ := Lib.hid (HB1.out.trans (HB6.out.mono HB1.out.size))
 clear c1_0 c1_2 c1_3 c1_4 c1_5 c1_6 c1_7 c1_8 c1_9 c1_10 c1_11
 cases okd
 · have HX : Hid (resb = false) := Lib.hid (by rw [HRB.out]; rfl)
   go_wp2_with fail
   exact bodyPost_ret (v := .tuple #[.string (strB rest), .bool false]) (by simp [results, Tryz.results43, go_sem]) rfl ⟨by rw [HX.out], HZ.out⟩
 cases okr
 · have HX : Hid (resb = false) := Lib.hid (by rw [HRB.out]; rfl)
   go_wp2_with fail
   exact bodyPost_ret (v := .tuple #[.string (strB rest), .bool false]) (by simp [results, Tryz.results43, go_sem]) rfl ⟨by rw [HX.out], HZ.out⟩
 have HX : Hid (resb = namB nm) := Lib.hid (by rw [HRB.out]; rfl)
 go_wp2_with fail
 refine (nameOk_any nm w6).mono ?_
 rintro e w7 ⟨rfl, hb7⟩
 have HZ7 := Lib.hid (HZ.out.trans (hb7.mono HZ.out.size))
 rw [← HX.out]
 clear hb7 cn HX HRB
 cases resb <;> go_wp2_with fail
 · exact bodyPost_ret (v := .tuple #[.string (strB rest), .bool false]) (by simp [results, Tryz.results43, go_sem]) rfl ⟨rfl, HZ7.out⟩
 exact bodyPost_ret (v := .tuple #[.string (strB rest), .bool true]) (by simp [results, Tryz.results43, go_sem]) rfl ⟨rfl, HZ7.out⟩
set_option maxRecDepth 100000 in
set_option maxHeartbeats 4000000 in
theorem fieldHead_any (nm : Str) (g : Int) (a b s m l d kk : Int) (u : Int) (A : Option Addr) (n c : Nat) (ps : List PtrD) (w : World) (lo hi : Nat) (ht : Tab w) (h : SliceR PtrR 5 w lo hi A n c ps) (hn : n ≤ 2000000) (hnm : nm.length ≤ 3000000) :
 Calls Tryz.prog 44 #[.agg #[.string (strB nm), .int .i64 g, .int .i64 a, .int .i64 b, .int .i64 s, .int .i64 m, .int .i64 l, .int .i64 d, .int .i64 kk, .slice A n c, .int .i64 u]] w (FieldR (headT (strB nm, g, ((a, b, s, m, l), d, kk), ps, u)) (headB (strB nm, g, ((a, b, s, m, l), d, kk), ps, u)) w) := by
 obtain ⟨i0, hi0, hz0, hz1, hz2⟩ := info_parts info_strs
 have HLE : Hid (∀ f ∈ headL (strB nm, g, ((a, b, s, m, l), d, kk), ps, u), f.length ≤ 1099511627776) := Lib.hid (headL_le (by show nm.length ≤ _; omega) (by show ps.length ≤ _; rw [h.len]; omega))
 have H := Lib.hid h; have HT := Lib.hid ht
 clear h ht
 go_enter Tryz.func44, Tryz.ntmps44
 go_wp2_with fail
 refine (deadText_any A n c ps _ lo hi (HT.out.below bel1) (SliceR.below H.out bel1 (PtrR.below bel1 H.out.lo_le)) hn).mono ?_
 obtain ⟨dt, hdt⟩ : ∃ X, X = (deadF ps).1 := ⟨_, rfl⟩
 obtain ⟨okd, hokd⟩ : ∃ X, X = (deadF ps).2 := ⟨_, rfl⟩
 rw [DeadR_def, ← hdt, ← hokd]
 have HLF : Hid (headL (strB nm, g, ((a, b, s, m, l), d, kk), ps, u) = [nm, numS g] ++ treeS a b s m l d kk ++ [dt, numS u]) := Lib.hid (by rw [hdt]; rfl)
 have HB0 : Hid (headB (strB nm, g, ((a, b, s, m, l), d, kk), ps, u) = (okd && ((recF (headL (strB nm, g, ((a, b, s, m, l), d, kk), ps, u)) 5).2 && namB nm))) := Lib.hid (by rw [hokd]; rfl)
 have HT0 : Hid (headT (strB nm, g, ((a, b, s, m, l), d, kk), ps, u) = (recF (headL (strB nm, g, ((a, b, s, m, l), d, kk), ps, u)) 5).1) := Lib.hid rfl
 generalize headB (strB nm, g, ((a, b, s, m, l), d, kk), ps, u) = resb at *
 generalize headT (strB nm, g, ((a, b, s, m, l), d, kk), ps, u) = rest at *
 generalize headL (strB nm, g, ((a, b, s, m, l), d, kk), ps, u) = fs at *
 clear hdt hokd H
 rintro e w1 ⟨rfl, hb1⟩
 have HB1 := Lib.hid (bel1.trans (hb1.mono (by simp)))
 have c1_0 : w1.cell? ⟨w.heap.size, 0, none⟩ = some (.string (strB nm)) := (hb1.cell (by simp)).trans (by simp [go_sem])
 have c1_1 : w1.cell? ⟨w.heap.size, 1, none⟩ = some (.int .i64 g) := (hb1.cell (by simp)).trans (by simp [go_sem])
 have c1_2 : w1.cell? ⟨w.heap.size, 2, none⟩ = some (.int .i64 a) := (hb1.cell (by simp)).trans (by simp [go_sem])
 have c1_3 : w1.cell? ⟨w.heap.size, 3, none⟩ = some (.int .i64 b) := (hb1.cell (by simp)).trans (by simp [go_sem])
 have c1_4 : w1.cell? ⟨w.heap.size, 4, none⟩ = some (.int .i64 s) := (hb1.cell (by simp)).trans (by simp [go_sem])
 have c1_5 : w1.cell? ⟨w.heap.size, 5, none⟩ = some (.int .i64 m) := (hb1.cell (by simp)).trans (by simp [go_sem])
 have c1_6 : w1.cell? ⟨w.heap.size, 6, none⟩ = some (.int .i64 l) := (hb1.cell (by simp)).trans (by simp [go_sem])
 have c1_7 : w1.cell? ⟨w.heap.size, 7, none⟩ = some (.int .i64 d) := (hb1.cell (by simp)).trans (by simp [go_sem])
 have c1_8 : w1.cell? ⟨w.heap.size, 8, none⟩ = some (.int .i64 kk) := (hb1.cell (by simp)).trans (by simp [go_sem])
 have c1_9 : w1.cell? ⟨w.heap.size, 9, none⟩ = some (.slice A n c) := (hb1.cell (by simp)).trans (by simp [go_sem])
 have c1_10 : w1.cell? ⟨w.heap.size, 10, none⟩ = some (.int .i64 u) := (hb1.cell (by simp)).trans (by simp [go_sem])
 have l1 : w.heap.size < w1.heap.size := World.block_lt_of_cell? w1 _ c1_0
 have HT1 := Lib.hid (HT.out.below HB1.out)
 clear hb1 HT
 go_wp2_with fail
 apply wp_region_rgm (Own (w1.heap.size)) (Ext) (fun _ _ => True) [0, 0, 0, 0, 0, 0, 0, 0, 0, 0, 0] (by kernel_rfl) (false :: false :: false :: false :: false :: false :: true :: false :: false :: false :: false :: false :: false :: false :: false :: true :: true :: true :: true :: true :: true :: true :: true :: true :: true :: false :: false :: false :: false :: false :: false :: false :: false :: false :: false :: false :: false :: false :: false :: false :: false :: false :: false :: false :: false :: false :: []) [some 15, some 16, some 17, some 18, some 19, some 20, some 21, some 22, some 23, some 24, some 6] [[], [0], [], [2], [3], [1, 4], [], [6], [7], [5, 8], [9]] [false, false, false, false, false, false, false, false, false, true, false] [true, true, true, true, true, false, true, true, false, false, false] [10] [MStP.is _, MStP.is _, MStP.is _, MStP.is _, MStP.is _, softStrs (w1.heap.size) ([nm, numS g]), MStP.is _, MStP.is _, softStrs (w1.heap.size) (treeS a b s m l d kk), softStrs (w1.heap.size) ([nm, numS g] ++ treeS a b s m l d kk), softStrs (w1.heap.size) ([nm, numS g] ++ treeS a b s m l d kk)] (by kernel_rfl) (by kernel_rfl) (by kernel_rfl)
 case hobs =>
  refine ⟨fun y w' k hS hj hk hF K hK => ?_, ?_⟩
  · skip
    simp only [fillL, cond_true, cond_false, zG0, zG1, StP.is, Act.put, zS2, zS0, zS1, Nat.reduceAdd, MStP.is, Option.isSome_some, Option.isSome_none] at hK ⊢
    refine rg_yes (by kernel_rfl) ?_
    clear hF
    go_simp
    exact hK _ _ (Ext.refl _) trivial rfl
  refine ⟨fun y w' k hS hj hk hF K hK => ?_, ?_⟩
  · skip
    have e15 : y 15 = _ := hF.1
    simp only [fillL, cond_true, cond_false, zG0, zG1, StP.is, Act.put, zS2, zS0, zS1, Nat.reduceAdd, e15, MStP.is, Option.isSome_some, Option.isSome_none] at hK ⊢
    refine rg_yes (by kernel_rfl) ?_
    have hSb := hS.below
    have hBw := hSb.size
    have q0_ := (hSb.cell l1).trans c1_0
    have q1_ := (hSb.cell l1).trans c1_1
    have q2_ := (hSb.cell l1).trans c1_2
    have q3_ := (hSb.cell l1).trans c1_3
    have q4_ := (hSb.cell l1).trans c1_4
    have q5_ := (hSb.cell l1).trans c1_5
    have q6_ := (hSb.cell l1).trans c1_6
    have q7_ := (hSb.cell l1).trans c1_7
    have q8_ := (hSb.cell l1).trans c1_8
    have q9_ := (hSb.cell l1).trans c1_9
    have q10_ := (hSb.cell l1).trans c1_10
    clear e15
    clear hF
    go_simp
    exact hK _ _ (Ext.refl _) trivial rfl
  refine ⟨fun y w' k hS hj hk hF K hK => ?_, ?_⟩
  · skip
    simp only [fillL, cond_true, cond_false, zG0, zG1, StP.is, Act.put, zS2, zS0, zS1, Nat.reduceAdd, MStP.is, Option.isSome_some, Option.isSome_none] at hK ⊢
    refine rg_yes (by kernel_rfl) ?_
    clear hF
    go_simp
    exact hK _ _ (Ext.refl _) trivial rfl
  refine ⟨fun y w' k hS hj hk hF K hK => ?_, ?_⟩
  · skip
    have e17 : y 17 = _ := hF.1
    simp only [fillL, cond_true, cond_false, zG0, zG1, StP.is, Act.put, zS2, zS0, zS1, Nat.reduceAdd, e17, MStP.is, Option.isSome_some, Option.isSome_none] at hK ⊢
    refine rg_yes (by kernel_rfl) ?_
    have hSb := hS.below
    have hBw := hSb.size
    have q0_ := (hSb.cell l1).trans c1_0
    have q1_ := (hSb.cell l1).trans c1_1
    have q2_ := (hSb.cell l1).trans c1_2
    have q3_ := (hSb.cell l1).trans c1_3
    have q4_ := (hSb.cell l1).trans c1_4
    have q5_ := (hSb.cell l1).trans c1_5
    have q6_ := (hSb.cell l1).trans c1_6
    have q7_ := (hSb.cell l1).trans c1_7
    have q8_ := (hSb.cell l1).trans c1_8
    have q9_ := (hSb.cell l1).trans c1_9
    have q10_ := (hSb.cell l1).trans c1_10
    clear e17
    clear hF
    go_simp
    exact hK _ _ (Ext.refl _) trivial rfl
  refine ⟨fun y w' k hS hj hk hF K hK => ?_, ?_⟩
  · skip
    have e18 : y 18 = _ := hF.1
    simp only [fillL, cond_true, cond_false, zG0, zG1, StP.is, Act.put, zS2, zS0, zS1, Nat.reduceAdd, e18, MStP.is, Option.isSome_some, Option.isSome_none] at hK ⊢
    refine rg_yes (by kernel_rfl) ?_
    have hSb := hS.below
    have hBw := hSb.size
    have q0_ := (hSb.cell l1).trans c1_0
    have q1_ := (hSb.cell l1).trans c1_1
    have q2_ := (hSb.cell l1).trans c1_2
    have q3_ := (hSb.cell l1).trans c1_3
    have q4_ := (hSb.cell l1).trans c1_4
    have q5_ := (hSb.cell l1).trans c1_5
    have q6_ := (hSb.cell l1).trans c1_6
    have q7_ := (hSb.cell l1).trans c1_7
    have q8_ := (hSb.cell l1).trans c1_8
    have q9_ := (hSb.cell l1).trans c1_9
    have q10_ := (hSb.cell l1).trans c1_10
    clear e18
    clear hF
    go_simp
    go_at_call 42
    refine (numPut_any g w' (HT1.out.below hSb)).mono ?_
    rintro e w'' ⟨rfl, hb9⟩
    exact hK _ _ hb9 trivial rfl
  refine ⟨fun y w' k hS hj hk hF K hK => ?_, ?_⟩
  · skip
    have e16 : y 16 = _ := hF.1
    have e19 : y 19 = _ := hF.2.1
    simp only [fillL, cond_true, cond_false, zG0, zG1, StP.is, Act.put, zS2, zS0, zS1, Nat.reduceAdd, e16, e19, MStP.is, Option.isSome_some, Option.isSome_none] at hK ⊢
    refine rg_yes (by kernel_rfl) ?_
    have hSb := hS.below
    have hBw := hSb.size
    have q0_ := (hSb.cell l1).trans c1_0
    have q1_ := (hSb.cell l1).trans c1_1
    have q2_ := (hSb.cell l1).trans c1_2
    have q3_ := (hSb.cell l1).trans c1_3
    have q4_ := (hSb.cell l1).trans c1_4
    have q5_ := (hSb.cell l1).trans c1_5
    have q6_ := (hSb.cell l1).trans c1_6
    have q7_ := (hSb.cell l1).trans c1_7
    have q8_ := (hSb.cell l1).trans c1_8
    have q9_ := (hSb.cell l1).trans c1_9
    have q10_ := (hSb.cell l1).trans c1_10
    clear e16 e19
    clear hF
    go_simp
    exact hK _ _ (Ext.alloc _ _) trivial ⟨_, _, _, rfl, rfl, StrsIn.lit (fs := [nm, numS g]) hBw (heap_alloc_new _ _) rfl (by unfold maxLen; simp)⟩
  refine ⟨fun y w' k hS hj hk hF K hK => ?_, ?_⟩
  · skip
    simp only [fillL, cond_true, cond_false, zG0, zG1, StP.is, Act.put, zS2, zS0, zS1, Nat.reduceAdd, MStP.is, Option.isSome_some, Option.isSome_none] at hK ⊢
    refine rg_yes (by kernel_rfl) ?_
    clear hF
    go_simp
    exact hK _ _ (Ext.refl _) trivial rfl
  refine ⟨fun y w' k hS hj hk hF K hK => ?_, ?_⟩
  · skip
    have e21 : y 21 = _ := hF.1
    simp only [fillL, cond_true, cond_false, zG0, zG1, StP.is, Act.put, zS2, zS0, zS1, Nat.reduceAdd, e21, MStP.is, Option.isSome_some, Option.isSome_none] at hK ⊢
    refine rg_yes (by kernel_rfl) ?_
    have hSb := hS.below
    have hBw := hSb.size
    have q0_ := (hSb.cell l1).trans c1_0
    have q1_ := (hSb.cell l1).trans c1_1
    have q2_ := (hSb.cell l1).trans c1_2
    have q3_ := (hSb.cell l1).trans c1_3
    have q4_ := (hSb.cell l1).trans c1_4
    have q5_ := (hSb.cell l1).trans c1_5
    have q6_ := (hSb.cell l1).trans c1_6
    have q7_ := (hSb.cell l1).trans c1_7
    have q8_ := (hSb.cell l1).trans c1_8
    have q9_ := (hSb.cell l1).trans c1_9
    have q10_ := (hSb.cell l1).trans c1_10
    clear e21
    clear hF
    go_simp
    exact hK _ _ (Ext.refl _) trivial rfl
  refine ⟨fun y w' k hS hj hk hF K hK => ?_, ?_⟩
  · skip
    have e22 : y 22 = _ := hF.1
    simp only [fillL, cond_true, cond_false, zG0, zG1, StP.is, Act.put, zS2, zS0, zS1, Nat.reduceAdd, e22, MStP.is, Option.isSome_some, Option.isSome_none] at hK ⊢
    refine rg_yes (by kernel_rfl) ?_
    have hSb := hS.below
    have hBw := hSb.size
    have q0_ := (hSb.cell l1).trans c1_0
    have q1_ := (hSb.cell l1).trans c1_1
    have q2_ := (hSb.cell l1).trans c1_2
    have q3_ := (hSb.cell l1).trans c1_3
    have q4_ := (hSb.cell l1).trans c1_4
    have q5_ := (hSb.cell l1).trans c1_5
    have q6_ := (hSb.cell l1).trans c1_6
    have q7_ := (hSb.cell l1).trans c1_7
    have q8_ := (hSb.cell l1).trans c1_8
    have q9_ := (hSb.cell l1).trans c1_9
    have q10_ := (hSb.cell l1).trans c1_10
    clear e22
    clear hF
    go_simp
    go_at_call 63
    refine (treeFields_any a b s m l d kk w' (HT1.out.below hSb)).mono ?_
    rintro e w'' ⟨A2, c2, rfl, hI, hb9⟩
    exact hK _ _ hb9 trivial ⟨A2, c2, _, rfl, rfl, hI.mono hBw⟩
  refine ⟨fun y w' k hS hj hk hF K hK => ?_, ?_⟩
  · skip
    obtain ⟨Ae20, ce20, ne20, e20, hxe20, hIe20⟩ := hF.1
    have hne20 := Lib.hid hxe20; clear hxe20
    obtain ⟨Ae23, ce23, ne23, e23, hxe23, hIe23⟩ := hF.2.1
    have hne23 := Lib.hid hxe23; clear hxe23
    simp only [fillL, cond_true, cond_false, zG0, zG1, StP.is, Act.put, zS2, zS0, zS1, Nat.reduceAdd, e20, e23, MStP.is, Option.isSome_some, Option.isSome_none] at hK ⊢
    refine rg_yes (by kernel_rfl) ?_
    have hSb := hS.below
    have hBw := hSb.size
    have q0_ := (hSb.cell l1).trans c1_0
    have q1_ := (hSb.cell l1).trans c1_1
    have q2_ := (hSb.cell l1).trans c1_2
    have q3_ := (hSb.cell l1).trans c1_3
    have q4_ := (hSb.cell l1).trans c1_4
    have q5_ := (hSb.cell l1).trans c1_5
    have q6_ := (hSb.cell l1).trans c1_6
    have q7_ := (hSb.cell l1).trans c1_7
    have q8_ := (hSb.cell l1).trans c1_8
    have q9_ := (hSb.cell l1).trans c1_9
    have q10_ := (hSb.cell l1).trans c1_10
    clear e20 e23
    clear hF
    have hlr := (Nat.le_of_eq rfl : 0 ≤ 0)
    obtain ⟨Se20, hOS, hSB⟩ := hIe20
    have hne20 := hne20.out; have hne23 := hne23.out
    rw [← hne20] at hOS
    have hle1 : ne20 ≤ 2 := by rw [hne20]; exact Nat.le_refl 2
    have hle2 : ne23 ≤ 3 := by rw [hne23]; exact Nat.le_refl 3
    refine wp_append_row (.tmp 20) (.tmp 23) 31 rfl 9 i0 (.string ByteArray.empty) 1 16 Tryz.underlying31 hi0 hz0 hz1 hz2 rfl (by decide) Se20 Ae20 Ae23 ne20 ce20 ne23 ce23 (([nm, numS g]).map strV) ((treeS a b s m l d kk).map strV) rfl rfl hOS (by rw [hne23, Nat.mul_one]; exact hIe23.row) (strs_one _) (by unfold maxLen; omega) (by omega) ?_
    intro A' c' S' w'' hO' hS' hC'
    obtain ⟨hI9, hb9⟩ := app_strs (fs := [nm, numS g]) (gs := treeS a b s m l d kk) hSB hBw (by rw [List.length_append, hne20, hne23]) hO' hS' hC'
    exact hK _ _ (fun _ => hb9) trivial ⟨A', c', _, rfl, by rw [hne20, hne23, ← List.length_append], hI9⟩
  refine ⟨fun y w' k hS hj hk hF K hK => ?_, ?_⟩
  · skip
    obtain ⟨Ae24, ce24, ne24, e24, hxe24, hIe24⟩ := hF.1
    have hne24 := Lib.hid hxe24; clear hxe24
    simp only [fillL, cond_true, cond_false, zG0, zG1, StP.is, Act.put, zS2, zS0, zS1, Nat.reduceAdd, e24, MStP.is, Option.isSome_some, Option.isSome_none] at hK ⊢
    refine rg_yes (by kernel_rfl) ?_
    have hSb := hS.below
    have hBw := hSb.size
    have q0_ := (hSb.cell l1).trans c1_0
    have q1_ := (hSb.cell l1).trans c1_1
    have q2_ := (hSb.cell l1).trans c1_2
    have q3_ := (hSb.cell l1).trans c1_3
    have q4_ := (hSb.cell l1).trans c1_4
    have q5_ := (hSb.cell l1).trans c1_5
    have q6_ := (hSb.cell l1).trans c1_6
    have q7_ := (hSb.cell l1).trans c1_7
    have q8_ := (hSb.cell l1).trans c1_8
    have q9_ := (hSb.cell l1).trans c1_9
    have q10_ := (hSb.cell l1).trans c1_10
    clear e24
    clear hF
    go_simp
    exact hK _ _ (Ext.refl _) trivial ⟨_, _, _, rfl, hne24.out, hIe24⟩
  trivial
 case hH => rfl
 case hNS => exact Own.of_ext _
 case hSt => exact fun a b => Own.trans a b
 case hJ => exact fun _ _ _ _ h => h
 case hdrew => exact Own.drew _ _
 case hj0 => trivial
 intro y w9 hS _ hF
 obtain ⟨A9, c9, n9, e2, hn9, hI9⟩ := hF.1
 clear hF
 simp only [fillL, cond_true, cond_false, Nat.reduceAdd, e2]
 clear e2
 have HBW := Lib.hid hS.below
 obtain ⟨fs1, hfs1⟩ : ∃ z, z = [nm, numS g] ++ treeS a b s m l d kk := ⟨_, rfl⟩
 rw [← hfs1] at hI9 hn9
 have HF1 := Lib.hid hfs1
 have HLL := Lib.hid (show fs1.length = 5 by rw [hfs1]; rfl)
 have HI := Lib.hid hI9
 subst hn9
 clear hI9 hS hfs1
 have c_w9_0 : w9.cell? ⟨w.heap.size, 0, none⟩ = some (.string (strB nm)) := (HBW.out.cell l1).trans c1_0
 have c_w9_1 : w9.cell? ⟨w.heap.size, 1, none⟩ = some (.int .i64 g) := (HBW.out.cell l1).trans c1_1
 have c_w9_2 : w9.cell? ⟨w.heap.size, 2, none⟩ = some (.int .i64 a) := (HBW.out.cell l1).trans c1_2
 have c_w9_3 : w9.cell? ⟨w.heap.size, 3, none⟩ = some (.int .i64 b) := (HBW.out.cell l1).trans c1_3
 have c_w9_4 : w9.cell? ⟨w.heap.size, 4, none⟩ = some (.int .i64 s) := (HBW.out.cell l1).trans c1_4
 have c_w9_5 : w9.cell? ⟨w.heap.size, 5, none⟩ = some (.int .i64 m) := (HBW.out.cell l1).trans c1_5
 have c_w9_6 : w9.cell? ⟨w.heap.size, 6, none⟩ = some (.int .i64 l) := (HBW.out.cell l1).trans c1_6
 have c_w9_7 : w9.cell? ⟨w.heap.size, 7, none⟩ = some (.int .i64 d) := (HBW.out.cell l1).trans c1_7
 have c_w9_8 : w9.cell? ⟨w.heap.size, 8, none⟩ = some (.int .i64 kk) := (HBW.out.cell l1).trans c1_8
 have c_w9_9 : w9.cell? ⟨w.heap.size, 9, none⟩ = some (.slice A n c) := (HBW.out.cell l1).trans c1_9
 have c_w9_10 : w9.cell? ⟨w.heap.size, 10, none⟩ = some (.int .i64 u) := (HBW.out.cell l1).trans c1_10
 go_wp2_with fail
 refine (numPut_any u w9 (HT1.out.below HBW.out)).mono ?_
 rintro e w3 ⟨rfl, hb3⟩
 have HI := Lib.hid (HI.out.below hb3)
 have HBW := Lib.hid (HBW.out.trans (hb3.mono HBW.out.size))
 clear hb3 c_w9_0 c_w9_1 c_w9_2 c_w9_3 c_w9_4 c_w9_5 c_w9_6 c_w9_7 c_w9_8 c_w9_9 c_w9_10
 have c_w3_0 : w3.cell? ⟨w.heap.size, 0, none⟩ = some (.string (strB nm)) := (HBW.out.cell l1).trans c1_0
 have c_w3_1 : w3.cell? ⟨w.heap.size, 1, none⟩ = some (.int .i64 g) := (HBW.out.cell l1).trans c1_1
 have c_w3_2 : w3.cell? ⟨w.heap.size, 2, none⟩ = some (.int .i64 a) := (HBW.out.cell l1).trans c1_2
 have c_w3_3 : w3.cell? ⟨w.heap.size, 3, none⟩ = some (.int .i64 b) := (HBW.out.cell l1).trans c1_3
 have c_w3_4 : w3.cell? ⟨w.heap.size, 4, none⟩ = some (.int .i64 s) := (HBW.out.cell l1).trans c1_4
 have c_w3_5 : w3.cell? ⟨w.heap.size, 5, none⟩ = some (.int .i64 m) := (HBW.out.cell l1).trans c1_5
 have c_w3_6 : w3.cell? ⟨w.heap.size, 6, none⟩ = some (.int .i64 l) := (HBW.out.cell l1).trans c1_6
 have c_w3_7 : w3.cell? ⟨w.heap.size, 7, none⟩ = some (.int .i64 d) := (HBW.out.cell l1).trans c1_7
 have c_w3_8 : w3.cell? ⟨w.heap.size, 8, none⟩ = some (.int .i64 kk) := (HBW.out.cell l1).trans c1_8
 have c_w3_9 : w3.cell? ⟨w.heap.size, 9, none⟩ = some (.slice A n c) := (HBW.out.cell l1).trans c1_9
 have c_w3_10 : w3.cell? ⟨w.heap.size, 10, none⟩ = some (.int .i64 u) := (HBW.out.cell l1).trans c1_10
 have hBW : w1.heap.size ≤ w3.heap.size := HBW.out.size
 have hlen1 : fs1.length + 2 ≤ 100 := by have := HLL.out; omega
 obtain ⟨S, hOS, hSB⟩ := HI.out
 have HOA := Lib.hid (hOS.below (bel1 (o := .cells #[.string (strB dt), .string (strB (numS u))] 9)))
 have HLIT := Lib.hid (fun (W : World) => RowAt.lit (w := W) (e := 9) (cur := #[.string (strB dt), .string (strB (numS u))]) (m := 2) rfl)
 have HONE : Hid (∀ z_ ∈ ([dt, numS u]).map strV, z_.oneCell' = true) := Lib.hid (strs_one _)
 have HSB := Lib.hid hSB
 clear hOS hSB HI
 go_wp2_with (at_builtin; go_must (refine wpList_append_row rfl _ _ 31 rfl 9 i0 (.string ByteArray.empty) 1 16 Tryz.underlying31 hi0 hz0 hz1 hz2 rfl (by decide) S A9 _ fs1.length c9 2 _ (fs1.map strV) (([dt, numS u]).map strV) rfl rfl HOA.out (HLIT.out _) HONE.out (by unfold maxLen; omega) (by omega) ?_))
 intro A' c' S' w5 hO' hS' hC'
 obtain ⟨hI5, hb5⟩ := app_strs (B := w1.heap.size) HSB.out (w1 := w3.alloc (.cells #[.string (strB dt), .string (strB (numS u))] 9)) (fs := fs1) (gs := [dt, numS u]) (by simp; omega) (by rw [List.length_append]; rfl) hO' (fun g hg => (hS' g hg).imp id (fun h => by simpa using h)) hC'
 have HB5 := Lib.hid (HBW.out.trans (((Below.refl _ _).alloc hBW _).trans hb5))
 have HFS : Hid (fs1 ++ [dt, numS u] = fs) := Lib.hid (by rw [HLF.out, HF1.out])
 rw [HFS.out] at hI5
 have HLEN : Hid (fs1.length + 2 = fs.length) := Lib.hid (by rw [← HFS.out, List.length_append]; rfl)
 have HI5 := Lib.hid hI5
 have HT5 := Lib.hid (HT1.out.below HB5.out)
 have hl5 : fs.length ≤ 1000 := by rw [← HLEN.out]; omega
 clear hO' hS' hC' HOA HLIT HONE HSB hI5 hb5 hBW HBW c_w3_0 c_w3_1 c_w3_2 c_w3_3 c_w3_4 c_w3_5 c_w3_6 c_w3_7 c_w3_8 c_w3_9 c_w3_10
 have P5 := record_any A' c' fs 5 w5 HT5.out HI5.out.row HLE.out (by omega)
 rw [← HLEN.out, RecR_def] at P5
 have HP5 := Lib.hid P5; clear P5
 go_wp2_with fail
 refine HP5.out.mono ?_
 obtain ⟨okr, hokr⟩ : ∃ X, X = (recF fs 5).2 := ⟨_, rfl⟩
 rw [← HT0.out, ← hokr]
 rw [← hokr] at HB0
 have HRB := Lib.hid HB0.out
 clear HB0 HP5 hokr
 rintro e w6 ⟨rfl, hb6⟩
 have HB6 := Lib.hid (HB5.out.trans (hb6.mono HB5.out.size))
 clear hb6
 have cn : w6.cell? ⟨w.heap.size, 0, none⟩ = some (.string (strB nm)) := (HB6.out.cell l1).trans c1_0
 have HZ := Lib.hid (HB1.out.trans (HB6.out.mono HB1.out.size))
 clear c1_1 c1_2 c1_3 c1_4 c1_5 c1_6 c1_7 c1_8 c1_9 c1_10
 cases okd
 · have HX : Hid (resb = false) := Lib.hid (by rw [HRB.out]; rfl)
   go_wp2_with fail
   exact bodyPost_ret (v := .tuple #[.string (strB rest), .bool false]) (by simp [results, Tryz.results44, go_sem]) rfl ⟨by rw [HX.out], HZ.out⟩
 cases okr
 · have HX : Hid (resb = false) := Lib.hid (by rw [HRB.out]; rfl)
   go_wp2_with fail
   exact bodyPost_ret (v := .tuple #[.string (strB rest), .bool false]) (by simp [results, Tryz.results44, go_sem]) rfl ⟨by rw [HX.out], HZ.out⟩
 have HX : Hid (resb = namB nm) := Lib.hid (by rw [HRB.out]; rfl)
 go_wp2_with fail
 refine (nameOk_any nm w6).mono ?_
 rintro e w7 ⟨rfl, hb7⟩
 have HZ7 := Lib.hid (HZ.out.trans (hb7.mono HZ.out.size))
 rw [← HX.out]
 clear hb7 cn HX HRB
 cases resb <;> go_wp2_with fail
 · exact bodyPost_ret (v := .tuple #[.string (strB rest), .bool false]) (by simp [results, Tryz.results44, go_sem]) rfl ⟨rfl, HZ7.out⟩
 exact bodyPost_ret (v := .tuple #[.string (strB rest), .bool true]) (by simp [results, Tryz.results44, go_sem]) rfl ⟨rfl, HZ7.out⟩
end Go.Proofs.YtlacpcdbgimnmaaGreatDoor
