/- Whether a pointer fits a text, and what it leads to: the program and the reference. Condition: the text has at most 1000000 bytes; the store has 64 rows, of at most 1000000 bytes each; the pointer is formed. -/
import Derived.Test.YtjnhiiaejeaikaaGreatDoorRTreePlain
import Derived.Test.YtjnhiiaejeaikaaGreatDoorRNum
set_option linter.unnecessarySimpa false
set_option linter.unusedSimpArgs false
set_option linter.unusedVariables false
namespace Go.Proofs.YtjnhiiaejeaikaaGreatDoor
open Go Go.Lib Go.RowKit
abbrev rl0Fits : List Bool := (false :: false :: false :: false :: true :: true :: true :: true :: true :: true :: true :: true :: true :: true :: true :: true :: true :: true :: true :: true :: true :: true :: true :: true :: true :: true :: [])
abbrev rl1Fits : List (Option Nat) := (some 5 :: some 6 :: some 7 :: some 8 :: some 9 :: some 10 :: some 11 :: some 12 :: some 13 :: some 14 :: some 15 :: some 16 :: some 17 :: some 18 :: some 19 :: some 20 :: some 21 :: some 22 :: some 23 :: some 24 :: some 25 :: some 4 :: [])
abbrev rl2Fits : List (List Nat) := ([] :: [0] :: [1] :: [2] :: [2, 3] :: [2, 4] :: [2, 5] :: [6] :: [7] :: [7, 8] :: [7] :: [7, 10] :: [7, 9, 11] :: [7, 12] :: [13] :: [14] :: [14, 15] :: [14] :: [14, 17] :: [14, 16, 18] :: [14, 19] :: [20] :: [])
theorem rows_at {w : World} {lo hi : Nat} {A : Option Addr} {n c k : Nat} {rows : List ByteArray} (h : SliceR StrR 1 w lo hi A n c rows) (hk : k < n) :
 ∃ b off, A = some ⟨b, off, none⟩ ∧ b < w.heap.size ∧ w.cell? ⟨b, off + k, none⟩ = some (.string (rows.getD k ByteArray.empty)) := by
 obtain ⟨s, hs⟩ : ∃ s, rows[k]? = some s := ⟨rows[k]'(by rw [h.len]; exact hk), List.getElem?_eq_getElem _⟩
 obtain ⟨b, off, hA, _, _, bl, hc⟩ := h.at_ (by omega)
 obtain ⟨cs, hcl, hcc, rfl, _⟩ := hc k s hs
 have v0 := hcc 0 _ rfl
 simp only [Nat.add_zero, Nat.mul_one] at v0
 refine ⟨b, off, hA, bl, ?_⟩
 rw [v0, List.getD_eq_getElem?_getD, hs]; rfl
set_option maxRecDepth 100000 in
set_option maxHeartbeats 4000000 in
theorem ptrFits_any (a b s m l : Int) (t : ByteArray) (w : World) (ht : t.size ≤ 1000000) :
 Calls Tryz.prog 85 #[.agg #[.int .i64 a, .int .i64 b, .int .i64 s, .int .i64 m, .int .i64 l], .string t] w fun e w' => e = .returned (.bool (fitsP (a, b, s, m, l) t)) ∧ Below w.heap.size w w' := by
 obtain ⟨r, hr⟩ : ∃ r, r = fitsP (a, b, s, m, l) t := ⟨_, rfl⟩
 rw [← hr]
 have HR := Lib.hid hr; clear hr
 obtain ⟨sm, hsm⟩ : ∃ sm : Int, sm = ((sumL t.data.toList : Nat) : Int) := ⟨_, rfl⟩
 have HSM := Lib.hid hsm; clear hsm
 obtain ⟨sz, hsz⟩ : ∃ sz : Nat, sz = t.size := ⟨_, rfl⟩
 go_enter Tryz.func85, Tryz.ntmps85
 go_wp2_with fail
 obtain ⟨w1, hW⟩ : ∃ W, W = w.alloc (.cells #[.int .i64 a, .int .i64 b, .int .i64 s, .int .i64 m, .int .i64 l] 41) := ⟨_, rfl⟩
 have HB1 : Hid (Below w.heap.size w w1) := Lib.hid (by rw [hW]; exact bel1)
 have HBX : Hid (w1.heap[w.heap.size]? = some (.cells #[.int .i64 a, .int .i64 b, .int .i64 s, .int .i64 m, .int .i64 l] 41 (0, 0))) := Lib.hid (by rw [hW]; exact heap_alloc_new _ _)
 rw [← hW]; clear hW
 have l1 : w.heap.size < w1.heap.size := (Array.getElem?_eq_some_iff.1 HBX.out).1
 cases e1 : ptrOkB a b s m l
 · have E1 := Lib.hid e1
   have HN : Hid (false = r) := Lib.hid (by rw [HR.out]; unfold fitsP okP; dsimp only; rw [E1.out]; rfl)
   clear e1
   have b0 := celR 0 HBX.out; have b1 := celR 1 HBX.out; have b2 := celR 2 HBX.out; have b3 := celR 3 HBX.out; have b4 := celR 4 HBX.out
   go_wp2_with fail
   apply wp_region_rg (by kernel_rfl) rl0Fits rl1Fits rl2Fits (StP.is _ :: StP.is _ :: StP.is _ :: StP.is _ :: StP.is _ :: StP.is _ :: StP.is _ :: StP.is _ :: StP.is _ :: StP.is _ :: StP.is _ :: StP.is _ :: StP.is _ :: StP.is _ :: StP.is _ :: StP.is _ :: StP.is _ :: StP.is _ :: StP.is _ :: StP.is _ :: StP.is _ :: StP.is _ :: []) (by kernel_rfl)
   case hobs =>
    constructor; have ld_ := trivial; rotate_left
    iterate 2 (constructor; rotate_left)
    iterate 3 (constructor; have skip_ := trivial; rotate_left)
    iterate 2 (constructor; rotate_left)
    iterate 5 (constructor; have skip_ := trivial; rotate_left)
    iterate 2 (constructor; rotate_left)
    iterate 5 (constructor; have skip_ := trivial; rotate_left)
    iterate 2 (constructor; rotate_left)
    · trivial
    all_goals (
     intro y w' hS hF K hK
     have eF := trivial
     repeat (obtain ⟨f1, hF⟩ := hF; replace eF := And.intro (show y _ = _ from f1) eF; clear f1)
     first
      | simp only [fillL, rl0Fits, rl1Fits, rl2Fits, cond_true, cond_false, zG0, zG1, StP.is, Act.put, zS2, zS0, zS1, Nat.reduceAdd, eF] at hK ⊢
      | simp only [fillL, rl0Fits, rl1Fits, rl2Fits, cond_true, cond_false, zG0, zG1, StP.is, Act.put, zS2, zS0, zS1, Nat.reduceAdd] at hK ⊢
     clear eF hF
     first
      | (clear skip_; refine rg_no (by kernel_rfl) ?_; exact hK _ _ (Ext.refl _) rfl)
      | (refine rg_yes (by kernel_rfl) ?_
         try (clear ld_; have qx0_ := (Below.cell hS l1).trans b0; have qx1_ := (Below.cell hS l1).trans b1; have qx2_ := (Below.cell hS l1).trans b2; have qx3_ := (Below.cell hS l1).trans b3; have qx4_ := (Below.cell hS l1).trans b4)
         go_simp
         first
          | (go_at_call 68
             refine (ptrOk_any a b s m l _).mono ?_
             rw [E1.out]
             rintro e w'' ⟨rfl, hb⟩
             exact hK _ _ hb rfl)
          | exact hK _ _ (Ext.refl _) rfl))
   intro y w2 hX hF
   have e4 : y 4 = _ := hF.2.2.2.2.2.2.2.2.2.2.2.2.2.2.2.2.2.2.2.2.2.1
   clear hF
   simp only [fillL, rl0Fits, rl1Fits, rl2Fits, cond_true, cond_false, Nat.reduceAdd, e4]
   clear e4 b0 b1 b2 b3 b4
   have HB3 : Hid (Below w.heap.size w w2) := Lib.hid (HB1.out.trans (Below.mono hX HB1.out.size))
   clear hX
   go_wp2_with fail
   go_ret
   exact ⟨ret_bool HN.out, HB3.out⟩
 have E1 := Lib.hid e1; clear e1
 cases e2 : ptrHole a b s m l
 rotate_left
 · have E2 := Lib.hid e2
   have HN : Hid (false = r) := Lib.hid (by rw [HR.out]; unfold fitsP okP holeP; dsimp only; rw [E1.out, E2.out]; rfl)
   clear e2
   have b0 := celR 0 HBX.out; have b1 := celR 1 HBX.out; have b2 := celR 2 HBX.out; have b3 := celR 3 HBX.out; have b4 := celR 4 HBX.out
   go_wp2_with fail
   apply wp_region_rg (by kernel_rfl) rl0Fits rl1Fits rl2Fits (StP.is _ :: StP.is _ :: StP.is _ :: StP.is _ :: StP.is _ :: StP.is _ :: StP.is _ :: StP.is _ :: StP.is _ :: StP.is _ :: StP.is _ :: StP.is _ :: StP.is _ :: StP.is _ :: StP.is _ :: StP.is _ :: StP.is _ :: StP.is _ :: StP.is _ :: StP.is _ :: StP.is _ :: StP.is _ :: []) (by kernel_rfl)
   case hobs =>
    constructor; have ld_ := trivial; rotate_left
    iterate 2 (constructor; rotate_left)
    constructor; have ld_ := trivial; rotate_left
    iterate 4 (constructor; rotate_left)
    iterate 5 (constructor; have skip_ := trivial; rotate_left)
    iterate 2 (constructor; rotate_left)
    iterate 5 (constructor; have skip_ := trivial; rotate_left)
    iterate 2 (constructor; rotate_left)
    · trivial
    all_goals (
     intro y w' hS hF K hK
     have eF := trivial
     repeat (obtain ⟨f1, hF⟩ := hF; replace eF := And.intro (show y _ = _ from f1) eF; clear f1)
     first
      | simp only [fillL, rl0Fits, rl1Fits, rl2Fits, cond_true, cond_false, zG0, zG1, StP.is, Act.put, zS2, zS0, zS1, Nat.reduceAdd, eF] at hK ⊢
      | simp only [fillL, rl0Fits, rl1Fits, rl2Fits, cond_true, cond_false, zG0, zG1, StP.is, Act.put, zS2, zS0, zS1, Nat.reduceAdd] at hK ⊢
     clear eF hF
     first
      | (clear skip_; refine rg_no (by kernel_rfl) ?_; exact hK _ _ (Ext.refl _) rfl)
      | (refine rg_yes (by kernel_rfl) ?_
         try (clear ld_; have qx0_ := (Below.cell hS l1).trans b0; have qx1_ := (Below.cell hS l1).trans b1; have qx2_ := (Below.cell hS l1).trans b2; have qx3_ := (Below.cell hS l1).trans b3; have qx4_ := (Below.cell hS l1).trans b4)
         go_simp
         first
          | (go_at_call 68
             refine (ptrOk_any a b s m l _).mono ?_
             rw [E1.out]
             rintro e w'' ⟨rfl, hb⟩
             exact hK _ _ hb rfl)
          | (go_at_call 69
             refine (ptrHole_any a b s m l _).mono ?_
             rw [E2.out]
             rintro e w'' ⟨rfl, hb⟩
             exact hK _ _ hb rfl)
          | exact hK _ _ (Ext.refl _) rfl))
   intro y w2 hX hF
   have e4 : y 4 = _ := hF.2.2.2.2.2.2.2.2.2.2.2.2.2.2.2.2.2.2.2.2.2.1
   clear hF
   simp only [fillL, rl0Fits, rl1Fits, rl2Fits, cond_true, cond_false, Nat.reduceAdd, e4]
   clear e4 b0 b1 b2 b3 b4
   have HB3 : Hid (Below w.heap.size w w2) := Lib.hid (HB1.out.trans (Below.mono hX HB1.out.size))
   clear hX
   go_wp2_with fail
   go_ret
   exact ⟨ret_bool HN.out, HB3.out⟩
 have E2 := Lib.hid e2; clear e2
 by_cases e3 : s = (t.size : Int)
 rotate_left
 · have d3 : (s == (t.size : Int)) = false := by simpa using e3
   have HN : Hid (false = r) := Lib.hid (by rw [HR.out]; unfold fitsP okP holeP; dsimp only; rw [E1.out, E2.out, decide_eq_false e3]; rfl)
   clear e3
   have b0 := celR 0 HBX.out; have b1 := celR 1 HBX.out; have b2 := celR 2 HBX.out; have b3 := celR 3 HBX.out; have b4 := celR 4 HBX.out
   go_wp2_with fail
   apply wp_region_rg (by kernel_rfl) rl0Fits rl1Fits rl2Fits (StP.is _ :: StP.is _ :: StP.is _ :: StP.is _ :: StP.is _ :: StP.is _ :: StP.is _ :: StP.is _ :: StP.is _ :: StP.is _ :: StP.is _ :: StP.is _ :: StP.is _ :: StP.is _ :: StP.is _ :: StP.is _ :: StP.is _ :: StP.is _ :: StP.is _ :: StP.is _ :: StP.is _ :: StP.is _ :: []) (by kernel_rfl)
   case hobs =>
    constructor; have ld_ := trivial; rotate_left
    iterate 2 (constructor; rotate_left)
    constructor; have ld_ := trivial; rotate_left
    iterate 5 (constructor; rotate_left)
    constructor; have ld_ := trivial; rotate_left
    constructor; rotate_left
    constructor; have ld_ := trivial; rotate_left
    iterate 3 (constructor; rotate_left)
    iterate 5 (constructor; have skip_ := trivial; rotate_left)
    iterate 2 (constructor; rotate_left)
    · trivial
    all_goals (
     intro y w' hS hF K hK
     have eF := trivial
     repeat (obtain ⟨f1, hF⟩ := hF; replace eF := And.intro (show y _ = _ from f1) eF; clear f1)
     first
      | simp only [fillL, rl0Fits, rl1Fits, rl2Fits, cond_true, cond_false, zG0, zG1, StP.is, Act.put, zS2, zS0, zS1, Nat.reduceAdd, eF] at hK ⊢
      | simp only [fillL, rl0Fits, rl1Fits, rl2Fits, cond_true, cond_false, zG0, zG1, StP.is, Act.put, zS2, zS0, zS1, Nat.reduceAdd] at hK ⊢
     clear eF hF
     first
      | (clear skip_; refine rg_no (by kernel_rfl) ?_; exact hK _ _ (Ext.refl _) rfl)
      | (refine rg_yes (by kernel_rfl) ?_
         try (clear ld_; have qx0_ := (Below.cell hS l1).trans b0; have qx1_ := (Below.cell hS l1).trans b1; have qx2_ := (Below.cell hS l1).trans b2; have qx3_ := (Below.cell hS l1).trans b3; have qx4_ := (Below.cell hS l1).trans b4)
         go_simp
         first
          | (go_at_call 68
             refine (ptrOk_any a b s m l _).mono ?_
             rw [E1.out]
             rintro e w'' ⟨rfl, hb⟩
             exact hK _ _ hb rfl)
          | (go_at_call 69
             refine (ptrHole_any a b s m l _).mono ?_
             rw [E2.out]
             rintro e w'' ⟨rfl, hb⟩
             exact hK _ _ hb rfl)
          | exact hK _ _ (Ext.refl _) rfl))
   intro y w2 hX hF
   have e4 : y 4 = _ := hF.2.2.2.2.2.2.2.2.2.2.2.2.2.2.2.2.2.2.2.2.2.1
   clear hF
   simp only [fillL, rl0Fits, rl1Fits, rl2Fits, cond_true, cond_false, Nat.reduceAdd, e4]
   clear e4 b0 b1 b2 b3 b4
   have HB3 : Hid (Below w.heap.size w w2) := Lib.hid (HB1.out.trans (Below.mono hX HB1.out.size))
   clear hX
   go_wp2_with fail
   go_ret
   exact ⟨ret_bool HN.out, HB3.out⟩
 have d3 : (s == (t.size : Int)) = true := by simpa using e3
 have E3 := Lib.hid e3; clear e3
 by_cases e4 : m = sm
 · have d4 : (m == sm) = true := by simpa using e4
   have HN : Hid (true = r) := Lib.hid (by rw [HR.out]; unfold fitsP okP holeP; dsimp only; rw [E1.out, E2.out, decide_eq_true E3.out, decide_eq_true (e4.trans HSM.out)]; rfl)
   clear e4
   have b0 := celR 0 HBX.out; have b1 := celR 1 HBX.out; have b2 := celR 2 HBX.out; have b3 := celR 3 HBX.out; have b4 := celR 4 HBX.out
   go_wp2_with fail
   apply wp_region_rg (by kernel_rfl) rl0Fits rl1Fits rl2Fits (StP.is _ :: StP.is _ :: StP.is _ :: StP.is _ :: StP.is _ :: StP.is _ :: StP.is _ :: StP.is _ :: StP.is _ :: StP.is _ :: StP.is _ :: StP.is _ :: StP.is _ :: StP.is _ :: StP.is _ :: StP.is _ :: StP.is _ :: StP.is _ :: StP.is _ :: StP.is _ :: StP.is _ :: StP.is _ :: []) (by kernel_rfl)
   case hobs =>
    constructor; have ld_ := trivial; rotate_left
    iterate 2 (constructor; rotate_left)
    constructor; have ld_ := trivial; rotate_left
    iterate 5 (constructor; rotate_left)
    constructor; have ld_ := trivial; rotate_left
    constructor; rotate_left
    constructor; have ld_ := trivial; rotate_left
    iterate 4 (constructor; rotate_left)
    constructor; have ld_ := trivial; rotate_left
    iterate 5 (constructor; rotate_left)
    · trivial
    all_goals (
     intro y w' hS hF K hK
     have eF := trivial
     repeat (obtain ⟨f1, hF⟩ := hF; replace eF := And.intro (show y _ = _ from f1) eF; clear f1)
     first
      | simp only [fillL, rl0Fits, rl1Fits, rl2Fits, cond_true, cond_false, zG0, zG1, StP.is, Act.put, zS2, zS0, zS1, Nat.reduceAdd, eF] at hK ⊢
      | simp only [fillL, rl0Fits, rl1Fits, rl2Fits, cond_true, cond_false, zG0, zG1, StP.is, Act.put, zS2, zS0, zS1, Nat.reduceAdd] at hK ⊢
     clear eF hF
     first
      | (refine rg_yes (by kernel_rfl) ?_
         try (clear ld_; have qx0_ := (Below.cell hS l1).trans b0; have qx1_ := (Below.cell hS l1).trans b1; have qx2_ := (Below.cell hS l1).trans b2; have qx3_ := (Below.cell hS l1).trans b3; have qx4_ := (Below.cell hS l1).trans b4)
         go_simp
         first
          | (go_at_call 68
             refine (ptrOk_any a b s m l _).mono ?_
             rw [E1.out]
             rintro e w'' ⟨rfl, hb⟩
             exact hK _ _ hb rfl)
          | (go_at_call 69
             refine (ptrHole_any a b s m l _).mono ?_
             rw [E2.out]
             rintro e w'' ⟨rfl, hb⟩
             exact hK _ _ hb rfl)
          | (go_at_call 100
             refine (sumOf_any t (by omega) _).mono ?_
             rw [← HSM.out]
             rintro e w'' ⟨rfl, rfl⟩
             exact hK _ _ (Ext.refl _) rfl)
          | exact hK _ _ (Ext.refl _) rfl))
   intro y w2 hX hF
   have e4 : y 4 = _ := hF.2.2.2.2.2.2.2.2.2.2.2.2.2.2.2.2.2.2.2.2.2.1
   clear hF
   simp only [fillL, rl0Fits, rl1Fits, rl2Fits, cond_true, cond_false, Nat.reduceAdd, e4]
   clear e4 b0 b1 b2 b3 b4
   have HB3 : Hid (Below w.heap.size w w2) := Lib.hid (HB1.out.trans (Below.mono hX HB1.out.size))
   clear hX
   go_wp2_with fail
   go_ret
   exact ⟨ret_bool HN.out, HB3.out⟩
 have d4 : (m == sm) = false := by simpa using e4
 have HN : Hid (false = r) := Lib.hid (by rw [HR.out]; unfold fitsP okP holeP; dsimp only; rw [E1.out, E2.out, decide_eq_true E3.out, decide_eq_false (fun h => e4 (h.trans HSM.out.symm))]; rfl)
 clear e4
 have b0 := celR 0 HBX.out; have b1 := celR 1 HBX.out; have b2 := celR 2 HBX.out; have b3 := celR 3 HBX.out; have b4 := celR 4 HBX.out
 go_wp2_with fail
 apply wp_region_rg (by kernel_rfl) rl0Fits rl1Fits rl2Fits (StP.is _ :: StP.is _ :: StP.is _ :: StP.is _ :: StP.is _ :: StP.is _ :: StP.is _ :: StP.is _ :: StP.is _ :: StP.is _ :: StP.is _ :: StP.is _ :: StP.is _ :: StP.is _ :: StP.is _ :: StP.is _ :: StP.is _ :: StP.is _ :: StP.is _ :: StP.is _ :: StP.is _ :: StP.is _ :: []) (by kernel_rfl)
 case hobs =>
  constructor; have ld_ := trivial; rotate_left
  iterate 2 (constructor; rotate_left)
  constructor; have ld_ := trivial; rotate_left
  iterate 5 (constructor; rotate_left)
  constructor; have ld_ := trivial; rotate_left
  constructor; rotate_left
  constructor; have ld_ := trivial; rotate_left
  iterate 4 (constructor; rotate_left)
  constructor; have ld_ := trivial; rotate_left
  iterate 5 (constructor; rotate_left)
  · trivial
  all_goals (
   intro y w' hS hF K hK
   have eF := trivial
   repeat (obtain ⟨f1, hF⟩ := hF; replace eF := And.intro (show y _ = _ from f1) eF; clear f1)
   first
    | simp only [fillL, rl0Fits, rl1Fits, rl2Fits, cond_true, cond_false, zG0, zG1, StP.is, Act.put, zS2, zS0, zS1, Nat.reduceAdd, eF] at hK ⊢
    | simp only [fillL, rl0Fits, rl1Fits, rl2Fits, cond_true, cond_false, zG0, zG1, StP.is, Act.put, zS2, zS0, zS1, Nat.reduceAdd] at hK ⊢
   clear eF hF
   first
    | (refine rg_yes (by kernel_rfl) ?_
       try (clear ld_; have qx0_ := (Below.cell hS l1).trans b0; have qx1_ := (Below.cell hS l1).trans b1; have qx2_ := (Below.cell hS l1).trans b2; have qx3_ := (Below.cell hS l1).trans b3; have qx4_ := (Below.cell hS l1).trans b4)
       go_simp
       first
        | (go_at_call 68
           refine (ptrOk_any a b s m l _).mono ?_
           rw [E1.out]
           rintro e w'' ⟨rfl, hb⟩
           exact hK _ _ hb rfl)
        | (go_at_call 69
           refine (ptrHole_any a b s m l _).mono ?_
           rw [E2.out]
           rintro e w'' ⟨rfl, hb⟩
           exact hK _ _ hb rfl)
        | (go_at_call 100
           refine (sumOf_any t (by omega) _).mono ?_
           rw [← HSM.out]
           rintro e w'' ⟨rfl, rfl⟩
           exact hK _ _ (Ext.refl _) rfl)
        | exact hK _ _ (Ext.refl _) rfl))
 intro y w2 hX hF
 have e4 : y 4 = _ := hF.2.2.2.2.2.2.2.2.2.2.2.2.2.2.2.2.2.2.2.2.2.1
 clear hF
 simp only [fillL, rl0Fits, rl1Fits, rl2Fits, cond_true, cond_false, Nat.reduceAdd, e4]
 clear e4 b0 b1 b2 b3 b4
 have HB3 : Hid (Below w.heap.size w w2) := Lib.hid (HB1.out.trans (Below.mono hX HB1.out.size))
 clear hX
 go_wp2_with fail
 go_ret
 exact ⟨ret_bool HN.out, HB3.out⟩
set_option maxRecDepth 100000 in
set_option maxHeartbeats 4000000 in
theorem spPtrFits_any (a b s m l : Int) (t : ByteArray) (w : World) (ht : t.size ≤ 1000000) :
 Calls Tryz.prog 64 #[.agg #[.int .i64 a, .int .i64 b, .int .i64 s, .int .i64 m, .int .i64 l], .string t] w fun e w' => e = .returned (.bool (fitsP (a, b, s, m, l) t)) ∧ Below w.heap.size w w' := by
 obtain ⟨r, hr⟩ : ∃ r, r = fitsP (a, b, s, m, l) t := ⟨_, rfl⟩
 rw [← hr]
 have HR := Lib.hid hr; clear hr
 obtain ⟨sm, hsm⟩ : ∃ sm : Int, sm = ((sumL t.data.toList : Nat) : Int) := ⟨_, rfl⟩
 have HSM := Lib.hid hsm; clear hsm
 obtain ⟨sz, hsz⟩ : ∃ sz : Nat, sz = t.size := ⟨_, rfl⟩
 go_enter Tryz.func64, Tryz.ntmps64
 go_wp2_with fail
 obtain ⟨w1, hW⟩ : ∃ W, W = w.alloc (.cells #[.int .i64 a, .int .i64 b, .int .i64 s, .int .i64 m, .int .i64 l] 41) := ⟨_, rfl⟩
 have HB1 : Hid (Below w.heap.size w w1) := Lib.hid (by rw [hW]; exact bel1)
 have HBX : Hid (w1.heap[w.heap.size]? = some (.cells #[.int .i64 a, .int .i64 b, .int .i64 s, .int .i64 m, .int .i64 l] 41 (0, 0))) := Lib.hid (by rw [hW]; exact heap_alloc_new _ _)
 rw [← hW]; clear hW
 have l1 : w.heap.size < w1.heap.size := (Array.getElem?_eq_some_iff.1 HBX.out).1
 cases e1 : ptrOkB a b s m l
 · have E1 := Lib.hid e1
   have HN : Hid (false = r) := Lib.hid (by rw [HR.out]; unfold fitsP okP; dsimp only; rw [E1.out]; rfl)
   clear e1
   have b0 := celR 0 HBX.out; have b1 := celR 1 HBX.out; have b2 := celR 2 HBX.out; have b3 := celR 3 HBX.out; have b4 := celR 4 HBX.out
   go_wp2_with fail
   apply wp_region_rg (by kernel_rfl) rl0Fits rl1Fits rl2Fits (StP.is _ :: StP.is _ :: StP.is _ :: StP.is _ :: StP.is _ :: StP.is _ :: StP.is _ :: StP.is _ :: StP.is _ :: StP.is _ :: StP.is _ :: StP.is _ :: StP.is _ :: StP.is _ :: StP.is _ :: StP.is _ :: StP.is _ :: StP.is _ :: StP.is _ :: StP.is _ :: StP.is _ :: StP.is _ :: []) (by kernel_rfl)
   case hobs =>
    constructor; have ld_ := trivial; rotate_left
    iterate 2 (constructor; rotate_left)
    iterate 3 (constructor; have skip_ := trivial; rotate_left)
    iterate 2 (constructor; rotate_left)
    iterate 5 (constructor; have skip_ := trivial; rotate_left)
    iterate 2 (constructor; rotate_left)
    iterate 5 (constructor; have skip_ := trivial; rotate_left)
    iterate 2 (constructor; rotate_left)
    · trivial
    all_goals (
     intro y w' hS hF K hK
     have eF := trivial
     repeat (obtain ⟨f1, hF⟩ := hF; replace eF := And.intro (show y _ = _ from f1) eF; clear f1)
     first
      | simp only [fillL, rl0Fits, rl1Fits, rl2Fits, cond_true, cond_false, zG0, zG1, StP.is, Act.put, zS2, zS0, zS1, Nat.reduceAdd, eF] at hK ⊢
      | simp only [fillL, rl0Fits, rl1Fits, rl2Fits, cond_true, cond_false, zG0, zG1, StP.is, Act.put, zS2, zS0, zS1, Nat.reduceAdd] at hK ⊢
     clear eF hF
     first
      | (clear skip_; refine rg_no (by kernel_rfl) ?_; exact hK _ _ (Ext.refl _) rfl)
      | (refine rg_yes (by kernel_rfl) ?_
         try (clear ld_; have qx0_ := (Below.cell hS l1).trans b0; have qx1_ := (Below.cell hS l1).trans b1; have qx2_ := (Below.cell hS l1).trans b2; have qx3_ := (Below.cell hS l1).trans b3; have qx4_ := (Below.cell hS l1).trans b4)
         go_simp
         first
          | (go_at_call 56
             refine (spPtrOk_any a b s m l _).mono ?_
             rw [E1.out]
             rintro e w'' ⟨rfl, hb⟩
             exact hK _ _ hb rfl)
          | exact hK _ _ (Ext.refl _) rfl))
   intro y w2 hX hF
   have e4 : y 4 = _ := hF.2.2.2.2.2.2.2.2.2.2.2.2.2.2.2.2.2.2.2.2.2.1
   clear hF
   simp only [fillL, rl0Fits, rl1Fits, rl2Fits, cond_true, cond_false, Nat.reduceAdd, e4]
   clear e4 b0 b1 b2 b3 b4
   have HB3 : Hid (Below w.heap.size w w2) := Lib.hid (HB1.out.trans (Below.mono hX HB1.out.size))
   clear hX
   go_wp2_with fail
   go_ret
   exact ⟨ret_bool HN.out, HB3.out⟩
 have E1 := Lib.hid e1; clear e1
 cases e2 : ptrHole a b s m l
 rotate_left
 · have E2 := Lib.hid e2
   have HN : Hid (false = r) := Lib.hid (by rw [HR.out]; unfold fitsP okP holeP; dsimp only; rw [E1.out, E2.out]; rfl)
   clear e2
   have b0 := celR 0 HBX.out; have b1 := celR 1 HBX.out; have b2 := celR 2 HBX.out; have b3 := celR 3 HBX.out; have b4 := celR 4 HBX.out
   go_wp2_with fail
   apply wp_region_rg (by kernel_rfl) rl0Fits rl1Fits rl2Fits (StP.is _ :: StP.is _ :: StP.is _ :: StP.is _ :: StP.is _ :: StP.is _ :: StP.is _ :: StP.is _ :: StP.is _ :: StP.is _ :: StP.is _ :: StP.is _ :: StP.is _ :: StP.is _ :: StP.is _ :: StP.is _ :: StP.is _ :: StP.is _ :: StP.is _ :: StP.is _ :: StP.is _ :: StP.is _ :: []) (by kernel_rfl)
   case hobs =>
    constructor; have ld_ := trivial; rotate_left
    iterate 2 (constructor; rotate_left)
    constructor; have ld_ := trivial; rotate_left
    iterate 4 (constructor; rotate_left)
    iterate 5 (constructor; have skip_ := trivial; rotate_left)
    iterate 2 (constructor; rotate_left)
    iterate 5 (constructor; have skip_ := trivial; rotate_left)
    iterate 2 (constructor; rotate_left)
    · trivial
    all_goals (
     intro y w' hS hF K hK
     have eF := trivial
     repeat (obtain ⟨f1, hF⟩ := hF; replace eF := And.intro (show y _ = _ from f1) eF; clear f1)
     first
      | simp only [fillL, rl0Fits, rl1Fits, rl2Fits, cond_true, cond_false, zG0, zG1, StP.is, Act.put, zS2, zS0, zS1, Nat.reduceAdd, eF] at hK ⊢
      | simp only [fillL, rl0Fits, rl1Fits, rl2Fits, cond_true, cond_false, zG0, zG1, StP.is, Act.put, zS2, zS0, zS1, Nat.reduceAdd] at hK ⊢
     clear eF hF
     first
      | (clear skip_; refine rg_no (by kernel_rfl) ?_; exact hK _ _ (Ext.refl _) rfl)
      | (refine rg_yes (by kernel_rfl) ?_
         try (clear ld_; have qx0_ := (Below.cell hS l1).trans b0; have qx1_ := (Below.cell hS l1).trans b1; have qx2_ := (Below.cell hS l1).trans b2; have qx3_ := (Below.cell hS l1).trans b3; have qx4_ := (Below.cell hS l1).trans b4)
         go_simp
         first
          | (go_at_call 56
             refine (spPtrOk_any a b s m l _).mono ?_
             rw [E1.out]
             rintro e w'' ⟨rfl, hb⟩
             exact hK _ _ hb rfl)
          | (go_at_call 57
             refine (spPtrHole_any a b s m l _).mono ?_
             rw [E2.out]
             rintro e w'' ⟨rfl, hb⟩
             exact hK _ _ hb rfl)
          | exact hK _ _ (Ext.refl _) rfl))
   intro y w2 hX hF
   have e4 : y 4 = _ := hF.2.2.2.2.2.2.2.2.2.2.2.2.2.2.2.2.2.2.2.2.2.1
   clear hF
   simp only [fillL, rl0Fits, rl1Fits, rl2Fits, cond_true, cond_false, Nat.reduceAdd, e4]
   clear e4 b0 b1 b2 b3 b4
   have HB3 : Hid (Below w.heap.size w w2) := Lib.hid (HB1.out.trans (Below.mono hX HB1.out.size))
   clear hX
   go_wp2_with fail
   go_ret
   exact ⟨ret_bool HN.out, HB3.out⟩
 have E2 := Lib.hid e2; clear e2
 by_cases e3 : s = (t.size : Int)
 rotate_left
 · have d3 : (s == (t.size : Int)) = false := by simpa using e3
   have HN : Hid (false = r) := Lib.hid (by rw [HR.out]; unfold fitsP okP holeP; dsimp only; rw [E1.out, E2.out, decide_eq_false e3]; rfl)
   clear e3
   have b0 := celR 0 HBX.out; have b1 := celR 1 HBX.out; have b2 := celR 2 HBX.out; have b3 := celR 3 HBX.out; have b4 := celR 4 HBX.out
   go_wp2_with fail
   apply wp_region_rg (by kernel_rfl) rl0Fits rl1Fits rl2Fits (StP.is _ :: StP.is _ :: StP.is _ :: StP.is _ :: StP.is _ :: StP.is _ :: StP.is _ :: StP.is _ :: StP.is _ :: StP.is _ :: StP.is _ :: StP.is _ :: StP.is _ :: StP.is _ :: StP.is _ :: StP.is _ :: StP.is _ :: StP.is _ :: StP.is _ :: StP.is _ :: StP.is _ :: StP.is _ :: []) (by kernel_rfl)
   case hobs =>
    constructor; have ld_ := trivial; rotate_left
    iterate 2 (constructor; rotate_left)
    constructor; have ld_ := trivial; rotate_left
    iterate 5 (constructor; rotate_left)
    constructor; have ld_ := trivial; rotate_left
    constructor; rotate_left
    constructor; have ld_ := trivial; rotate_left
    iterate 3 (constructor; rotate_left)
    iterate 5 (constructor; have skip_ := trivial; rotate_left)
    iterate 2 (constructor; rotate_left)
    · trivial
    all_goals (
     intro y w' hS hF K hK
     have eF := trivial
     repeat (obtain ⟨f1, hF⟩ := hF; replace eF := And.intro (show y _ = _ from f1) eF; clear f1)
     first
      | simp only [fillL, rl0Fits, rl1Fits, rl2Fits, cond_true, cond_false, zG0, zG1, StP.is, Act.put, zS2, zS0, zS1, Nat.reduceAdd, eF] at hK ⊢
      | simp only [fillL, rl0Fits, rl1Fits, rl2Fits, cond_true, cond_false, zG0, zG1, StP.is, Act.put, zS2, zS0, zS1, Nat.reduceAdd] at hK ⊢
     clear eF hF
     first
      | (clear skip_; refine rg_no (by kernel_rfl) ?_; exact hK _ _ (Ext.refl _) rfl)
      | (refine rg_yes (by kernel_rfl) ?_
         try (clear ld_; have qx0_ := (Below.cell hS l1).trans b0; have qx1_ := (Below.cell hS l1).trans b1; have qx2_ := (Below.cell hS l1).trans b2; have qx3_ := (Below.cell hS l1).trans b3; have qx4_ := (Below.cell hS l1).trans b4)
         go_simp
         first
          | (go_at_call 56
             refine (spPtrOk_any a b s m l _).mono ?_
             rw [E1.out]
             rintro e w'' ⟨rfl, hb⟩
             exact hK _ _ hb rfl)
          | (go_at_call 57
             refine (spPtrHole_any a b s m l _).mono ?_
             rw [E2.out]
             rintro e w'' ⟨rfl, hb⟩
             exact hK _ _ hb rfl)
          | exact hK _ _ (Ext.refl _) rfl))
   intro y w2 hX hF
   have e4 : y 4 = _ := hF.2.2.2.2.2.2.2.2.2.2.2.2.2.2.2.2.2.2.2.2.2.1
   clear hF
   simp only [fillL, rl0Fits, rl1Fits, rl2Fits, cond_true, cond_false, Nat.reduceAdd, e4]
   clear e4 b0 b1 b2 b3 b4
   have HB3 : Hid (Below w.heap.size w w2) := Lib.hid (HB1.out.trans (Below.mono hX HB1.out.size))
   clear hX
   go_wp2_with fail
   go_ret
   exact ⟨ret_bool HN.out, HB3.out⟩
 have d3 : (s == (t.size : Int)) = true := by simpa using e3
 have E3 := Lib.hid e3; clear e3
 by_cases e4 : m = sm
 · have d4 : (m == sm) = true := by simpa using e4
   have HN : Hid (true = r) := Lib.hid (by rw [HR.out]; unfold fitsP okP holeP; dsimp only; rw [E1.out, E2.out, decide_eq_true E3.out, decide_eq_true (e4.trans HSM.out)]; rfl)
   clear e4
   have b0 := celR 0 HBX.out; have b1 := celR 1 HBX.out; have b2 := celR 2 HBX.out; have b3 := celR 3 HBX.out; have b4 := celR 4 HBX.out
   go_wp2_with fail
   apply wp_region_rg (by kernel_rfl) rl0Fits rl1Fits rl2Fits (StP.is _ :: StP.is _ :: StP.is _ :: StP.is _ :: StP.is _ :: StP.is _ :: StP.is _ :: StP.is _ :: StP.is _ :: StP.is _ :: StP.is _ :: StP.is _ :: StP.is _ :: StP.is _ :: StP.is _ :: StP.is _ :: StP.is _ :: StP.is _ :: StP.is _ :: StP.is _ :: StP.is _ :: StP.is _ :: []) (by kernel_rfl)
   case hobs =>
    constructor; have ld_ := trivial; rotate_left
    iterate 2 (constructor; rotate_left)
    constructor; have ld_ := trivial; rotate_left
    iterate 5 (constructor; rotate_left)
    constructor; have ld_ := trivial; rotate_left
    constructor; rotate_left
    constructor; have ld_ := trivial; rotate_left
    iterate 4 (constructor; rotate_left)
    constructor; have ld_ := trivial; rotate_left
    iterate 5 (constructor; rotate_left)
    · trivial
    all_goals (
     intro y w' hS hF K hK
     have eF := trivial
     repeat (obtain ⟨f1, hF⟩ := hF; replace eF := And.intro (show y _ = _ from f1) eF; clear f1)
     first
      | simp only [fillL, rl0Fits, rl1Fits, rl2Fits, cond_true, cond_false, zG0, zG1, StP.is, Act.put, zS2, zS0, zS1, Nat.reduceAdd, eF] at hK ⊢
      | simp only [fillL, rl0Fits, rl1Fits, rl2Fits, cond_true, cond_false, zG0, zG1, StP.is, Act.put, zS2, zS0, zS1, Nat.reduceAdd] at hK ⊢
     clear eF hF
     first
      | (refine rg_yes (by kernel_rfl) ?_
         try (clear ld_; have qx0_ := (Below.cell hS l1).trans b0; have qx1_ := (Below.cell hS l1).trans b1; have qx2_ := (Below.cell hS l1).trans b2; have qx3_ := (Below.cell hS l1).trans b3; have qx4_ := (Below.cell hS l1).trans b4)
         go_simp
         first
          | (go_at_call 56
             refine (spPtrOk_any a b s m l _).mono ?_
             rw [E1.out]
             rintro e w'' ⟨rfl, hb⟩
             exact hK _ _ hb rfl)
          | (go_at_call 57
             refine (spPtrHole_any a b s m l _).mono ?_
             rw [E2.out]
             rintro e w'' ⟨rfl, hb⟩
             exact hK _ _ hb rfl)
          | (go_at_call 81
             refine (spSumOf_any t (by omega) _).mono ?_
             rw [← HSM.out]
             rintro e w'' ⟨rfl, rfl⟩
             exact hK _ _ (Ext.refl _) rfl)
          | exact hK _ _ (Ext.refl _) rfl))
   intro y w2 hX hF
   have e4 : y 4 = _ := hF.2.2.2.2.2.2.2.2.2.2.2.2.2.2.2.2.2.2.2.2.2.1
   clear hF
   simp only [fillL, rl0Fits, rl1Fits, rl2Fits, cond_true, cond_false, Nat.reduceAdd, e4]
   clear e4 b0 b1 b2 b3 b4
   have HB3 : Hid (Below w.heap.size w w2) := Lib.hid (HB1.out.trans (Below.mono hX HB1.out.size))
   clear hX
   go_wp2_with fail
   go_ret
   exact ⟨ret_bool HN.out, HB3.out⟩
 have d4 : (m == sm) = false := by simpa using e4
 have HN : Hid (false = r) := Lib.hid (by rw [HR.out]; unfold fitsP okP holeP; dsimp only; rw [E1.out, E2.out, decide_eq_true E3.out, decide_eq_false (fun h => e4 (h.trans HSM.out.symm))]; rfl)
 clear e4
 have b0 := celR 0 HBX.out; have b1 := celR 1 HBX.out; have b2 := celR 2 HBX.out; have b3 := celR 3 HBX.out; have b4 := celR 4 HBX.out
 go_wp2_with fail
 apply wp_region_rg (by kernel_rfl) rl0Fits rl1Fits rl2Fits (StP.is _ :: StP.is _ :: StP.is _ :: StP.is _ :: StP.is _ :: StP.is _ :: StP.is _ :: StP.is _ :: StP.is _ :: StP.is _ :: StP.is _ :: StP.is _ :: StP.is _ :: StP.is _ :: StP.is _ :: StP.is _ :: StP.is _ :: StP.is _ :: StP.is _ :: StP.is _ :: StP.is _ :: StP.is _ :: []) (by kernel_rfl)
 case hobs =>
  constructor; have ld_ := trivial; rotate_left
  iterate 2 (constructor; rotate_left)
  constructor; have ld_ := trivial; rotate_left
  iterate 5 (constructor; rotate_left)
  constructor; have ld_ := trivial; rotate_left
  constructor; rotate_left
  constructor; have ld_ := trivial; rotate_left
  iterate 4 (constructor; rotate_left)
  constructor; have ld_ := trivial; rotate_left
  iterate 5 (constructor; rotate_left)
  · trivial
  all_goals (
   intro y w' hS hF K hK
   have eF := trivial
   repeat (obtain ⟨f1, hF⟩ := hF; replace eF := And.intro (show y _ = _ from f1) eF; clear f1)
   first
    | simp only [fillL, rl0Fits, rl1Fits, rl2Fits, cond_true, cond_false, zG0, zG1, StP.is, Act.put, zS2, zS0, zS1, Nat.reduceAdd, eF] at hK ⊢
    | simp only [fillL, rl0Fits, rl1Fits, rl2Fits, cond_true, cond_false, zG0, zG1, StP.is, Act.put, zS2, zS0, zS1, Nat.reduceAdd] at hK ⊢
   clear eF hF
   first
    | (refine rg_yes (by kernel_rfl) ?_
       try (clear ld_; have qx0_ := (Below.cell hS l1).trans b0; have qx1_ := (Below.cell hS l1).trans b1; have qx2_ := (Below.cell hS l1).trans b2; have qx3_ := (Below.cell hS l1).trans b3; have qx4_ := (Below.cell hS l1).trans b4)
       go_simp
       first
        | (go_at_call 56
           refine (spPtrOk_any a b s m l _).mono ?_
           rw [E1.out]
           rintro e w'' ⟨rfl, hb⟩
           exact hK _ _ hb rfl)
        | (go_at_call 57
           refine (spPtrHole_any a b s m l _).mono ?_
           rw [E2.out]
           rintro e w'' ⟨rfl, hb⟩
           exact hK _ _ hb rfl)
        | (go_at_call 81
           refine (spSumOf_any t (by omega) _).mono ?_
           rw [← HSM.out]
           rintro e w'' ⟨rfl, rfl⟩
           exact hK _ _ (Ext.refl _) rfl)
        | exact hK _ _ (Ext.refl _) rfl))
 intro y w2 hX hF
 have e4 : y 4 = _ := hF.2.2.2.2.2.2.2.2.2.2.2.2.2.2.2.2.2.2.2.2.2.1
 clear hF
 simp only [fillL, rl0Fits, rl1Fits, rl2Fits, cond_true, cond_false, Nat.reduceAdd, e4]
 clear e4 b0 b1 b2 b3 b4
 have HB3 : Hid (Below w.heap.size w w2) := Lib.hid (HB1.out.trans (Below.mono hX HB1.out.size))
 clear hX
 go_wp2_with fail
 go_ret
 exact ⟨ret_bool HN.out, HB3.out⟩
end Go.Proofs.YtjnhiiaejeaikaaGreatDoor
