/- Trees of the reference: whether one is valid, its places, their texts. Condition: the store has 64 rows of at most 128 bytes, and its group's number is not negative; the tree is valid (but for l8Ok). -/
import Derived.Test.YtjnhiiaejeaikaaGreatDoorRLeavesS
import Derived.Test.YtjnhiiaejeaikaaGreatDoorRNodePlain
set_option linter.unnecessarySimpa false
set_option linter.unusedSimpArgs false
set_option linter.unusedVariables false
namespace Go.Proofs.YtjnhiiaejeaikaaGreatDoor
open Go Go.Lib Go.RowKit
abbrev rl0Texts : List Bool := (false :: false :: false :: false :: false :: false :: false :: false :: false :: false :: false :: true :: true :: true :: true :: true :: true :: true :: true :: true :: true :: true :: true :: true :: true :: true :: true :: true :: true :: false :: false :: false :: false :: false :: false :: false :: false :: false :: false :: false :: false :: false :: false :: false :: false :: false :: false :: false :: false :: false :: false :: false :: false :: false :: false :: false :: false :: false :: false :: false :: false :: false :: false :: false :: false :: false :: false :: false :: false :: false :: false :: false :: false :: false :: false :: [])
abbrev rl1Texts : List (Option Nat) := (some 11 :: some 12 :: some 13 :: some 14 :: some 15 :: some 16 :: some 17 :: some 18 :: some 19 :: some 20 :: some 21 :: some 22 :: some 23 :: some 24 :: some 25 :: some 26 :: some 27 :: some 28 :: [])
abbrev rl2Texts : List (List Nat) := ([] :: [0] :: [1] :: [2] :: [3] :: [4] :: [4, 5] :: [4] :: [4, 7] :: [4, 8] :: [4, 6, 9] :: [4, 10] :: [11] :: [12] :: [12, 13] :: [12, 14] :: [12, 15] :: [12, 16] :: [])
theorem leavesG_ok {x : StoreD} : ∀ (d : Nat) {l next : List PtrD}, (∀ p ∈ l, okP p = true) → leavesG (belowS x) d l = some next → ∀ q ∈ next, okP q = true
 | 0, l, next, h, e => by injection e with e; subst e; exact h
 | d + 1, l, next, h, e => by
   cases hl : lvlG (belowS x ((d + 1 : Nat) : Int)) l with
   | none => rw [leavesG_none hl] at e; cases e
   | some m =>
     rw [leavesG_some hl] at e
     exact leavesG_ok d (lvlG_parts (Q := fun q => okP q = true) hl (fun p hp qs hq => belowS_parts hq)).2 e
set_option maxRecDepth 100000 in
set_option maxHeartbeats 16000000 in
theorem l8Ok_any (cs : List Value) (x : StoreD) (a b s m l d n : Int) (w : World) (lo hi : Nat) (h : StoreR w lo hi cs x) (hhi : hi ≤ w.heap.size) (h64 : x.1.length = 64) (hz : ∀ r ∈ x.1, r.size ≤ 128) (htx : 0 ≤ x.2.2.1) :
 Calls Tryz.prog 58 #[.agg cs.toArray, .agg #[.int .i64 a, .int .i64 b, .int .i64 s, .int .i64 m, .int .i64 l, .int .i64 d, .int .i64 n]] w fun e w' => e = .returned (.bool (treeF x ((a, b, s, m, l), d, n)).isSome) ∧ Below w.heap.size w w' := by
 have H64 := Lib.hid h64
 have HLF := Lib.hid (fun (W : World) (hb : Below w.heap.size w W) (a b s m l n : Int) (dn : Nat) (hd2 : dn ≤ 2) => l8Leaves_any cs x a b s m l n dn W lo hi (StoreR.below hb hhi cs x h) (Nat.le_trans hhi hb.size) h64 hz hd2)
 have HRD := Lib.hid (fun (W : World) (hb : Below w.heap.size w W) (a b s m l : Int) (hok : okP (a, b, s, m, l) = true) => l7Read_any cs x a b s m l W lo hi (StoreR.below hb hhi cs x h) h64 hz hok)
 clear hhi h64 hz
 obtain ⟨rows, ⟨refs, last⟩, txg, gone, keep, dead, same⟩ := x
 obtain ⟨A0, n0, c0, A1, n1, c1, A2, n2, c2, A3, n3, c3, A4, n4, c4, rfl, h0, h1, h2, h3, h4⟩ := h
 obtain rfl : n0 = 64 := by rw [← h0.len]; exact H64.out
 clear h0 h1 h2 h3 h4
 have HLF : Hid (∀ (W : World), Below w.heap.size w W → ∀ (a b s m l n : Int) (dn : Nat), dn ≤ 2 → Calls Tryz.prog 62 #[.agg #[.slice A0 64 c0, .slice A1 n1 c1, .slice A2 n2 c2, .int .i64 txg, .slice A3 n3 c3, .int .i64 keep, .slice A4 n4 c4, .bool same], .agg #[.int .i64 a, .int .i64 b, .int .i64 s, .int .i64 m, .int .i64 l, .int .i64 (dn : Int), .int .i64 n]] W (GotPs (leavesG (belowS (rows, (refs, last), txg, gone, keep, dead, same)) dn [((a, b, s, m, l) : PtrD)]) W)) := Lib.hid (fun W hb a b s m l n dn hd2 => HLF.out W hb a b s m l n dn hd2)
 have HRD : Hid (∀ (W : World), Below w.heap.size w W → ∀ (a b s m l : Int), okP (a, b, s, m, l) = true → Calls Tryz.prog 48 #[.agg #[.slice A0 64 c0, .slice A1 n1 c1, .slice A2 n2 c2, .int .i64 txg, .slice A3 n3 c3, .int .i64 keep, .slice A4 n4 c4, .bool same], .agg #[.int .i64 a, .int .i64 b, .int .i64 s, .int .i64 m, .int .i64 l]] W (l7Read_any_post (rows, (refs, last), txg, gone, keep, dead, same) (a, b, s, m, l) W)) := Lib.hid (fun W hb a b s m l hok => HRD.out W hb a b s m l hok)
 have HTX : Hid (((rows, (refs, last), txg, gone, keep, dead, same) : StoreD).2.2.1 = txg) := Lib.hid rfl
 show Calls Tryz.prog 58 #[.agg #[.slice A0 64 c0, .slice A1 n1 c1, .slice A2 n2 c2, .int .i64 txg, .slice A3 n3 c3, .int .i64 keep, .slice A4 n4 c4, .bool same], .agg #[.int .i64 a, .int .i64 b, .int .i64 s, .int .i64 m, .int .i64 l, .int .i64 d, .int .i64 n]] w _
 generalize hX : ((rows, (refs, last), txg, gone, keep, dead, same) : StoreD) = X at *
 clear hX H64
 obtain ⟨R, hR⟩ : ∃ R, R = (treeF X ((a, b, s, m, l), d, n)).isSome := ⟨_, rfl⟩
 rw [← hR]
 have HR := Lib.hid hR.symm; clear hR
 have HTX0 := Lib.hid htx; clear htx
 go_enter Tryz.func58, Tryz.ntmps58
 obtain ⟨w2, hw2⟩ : ∃ W, W = (w.alloc (.cells #[.slice A0 64 c0, .slice A1 n1 c1, .slice A2 n2 c2, .int .i64 txg, .slice A3 n3 c3, .int .i64 keep, .slice A4 n4 c4, .bool same] 39)).alloc (.cells #[.int .i64 a, .int .i64 b, .int .i64 s, .int .i64 m, .int .i64 l, .int .i64 d, .int .i64 n] 43) := ⟨_, rfl⟩
 have HB2 : Hid (Below w.heap.size w w2) := Lib.hid (by rw [hw2]; exact bel2)
 have HSX : Hid (w2.heap[w.heap.size]? = some (.cells #[.slice A0 64 c0, .slice A1 n1 c1, .slice A2 n2 c2, .int .i64 txg, .slice A3 n3 c3, .int .i64 keep, .slice A4 n4 c4, .bool same] 39 (0, 0))) := Lib.hid (by rw [hw2]; exact (Below.heap_alloc _ _ _ (by simp)).trans (heap_alloc_new _ _))
 have HTR : Hid (w2.heap[w.heap.size + 1]? = some (.cells #[.int .i64 a, .int .i64 b, .int .i64 s, .int .i64 m, .int .i64 l, .int .i64 d, .int .i64 n] 43 (0, 0))) := Lib.hid (by rw [hw2]; have := heap_alloc_new (w.alloc (.cells #[.slice A0 64 c0, .slice A1 n1 c1, .slice A2 n2 c2, .int .i64 txg, .slice A3 n3 c3, .int .i64 keep, .slice A4 n4 c4, .bool same] 39)) (.cells #[.int .i64 a, .int .i64 b, .int .i64 s, .int .i64 m, .int .i64 l, .int .i64 d, .int .i64 n] 43); simpa using this)
 have l2 : w.heap.size < w2.heap.size := (Array.getElem?_eq_some_iff.1 HSX.out).1
 have l2x : w.heap.size + 1 < w2.heap.size := (Array.getElem?_eq_some_iff.1 HTR.out).1
 go_wp2_with fail
 rw [← hw2]; clear hw2
 obtain ⟨df, hdf⟩ : ∃ df, df = depthF n := ⟨_, rfl⟩
 have EDF := Lib.hid hdf.symm; clear hdf
 cases e1 : inB n 0 16
 · have EL := Lib.hid e1
   have HN : Hid (false = R) := Lib.hid (by rw [← HR.out, spTree_head (by rw [headS_eq]; rw [EL.out]; rfl)])
   clear e1
   have b0 := celR 0 HTR.out; have b1 := celR 1 HTR.out; have b2 := celR 2 HTR.out; have b3 := celR 3 HTR.out; have b4 := celR 4 HTR.out; have b5 := celR 5 HTR.out; have b6 := celR 6 HTR.out
   go_wp2_with fail
   apply wp_region_rg (by kernel_rfl) rl0Texts rl1Texts rl2Texts (StP.is _ :: StP.is _ :: StP.is _ :: StP.is _ :: StP.is _ :: StP.is _ :: StP.is _ :: StP.is _ :: StP.is _ :: StP.is _ :: StP.is _ :: StP.is _ :: StP.is _ :: StP.is _ :: StP.is _ :: StP.is _ :: StP.is _ :: StP.is _ :: []) (by kernel_rfl)
   case hobs =>
    constructor; rotate_left
    constructor; have ld_ := trivial; rotate_left
    iterate 3 (constructor; rotate_left)
    iterate 6 (constructor; have skip_ := trivial; rotate_left)
    iterate 2 (constructor; rotate_left)
    iterate 4 (constructor; have skip_ := trivial; rotate_left)
    constructor; rotate_left
    · trivial
    all_goals (
     intro y w' hS hF K hK
     have eF := trivial
     repeat (obtain ⟨f1, hF⟩ := hF; replace eF := And.intro (show y _ = _ from f1) eF; clear f1)
     first
      | simp only [fillL, rl0Texts, rl1Texts, rl2Texts, cond_true, cond_false, zG0, zG1, StP.is, Act.put, zS2, zS0, zS1, Nat.reduceAdd, eF] at hK ⊢
      | simp only [fillL, rl0Texts, rl1Texts, rl2Texts, cond_true, cond_false, zG0, zG1, StP.is, Act.put, zS2, zS0, zS1, Nat.reduceAdd] at hK ⊢
     clear eF hF
     first
      | (clear skip_; refine rg_no (by kernel_rfl) ?_; exact hK _ _ (Ext.refl _) rfl)
      | (refine rg_yes (by kernel_rfl) ?_
         try (clear ld_; have qx0_ := (Below.cell hS l2x).trans b0; have qx1_ := (Below.cell hS l2x).trans b1; have qx2_ := (Below.cell hS l2x).trans b2; have qx3_ := (Below.cell hS l2x).trans b3; have qx4_ := (Below.cell hS l2x).trans b4; have qx5_ := (Below.cell hS l2x).trans b5; have qx6_ := (Below.cell hS l2x).trans b6)
         go_simp
         first
          | (go_at_call 55
             refine (l6In_any _ _ _ _).mono ?_
             rw [EL.out]
             rintro e w'' ⟨rfl, rfl⟩
             exact hK _ _ (Ext.refl _) rfl)
          | (go_at_call 74
             refine (l8Depth_any _ _).mono ?_
             rw [EDF.out]
             rintro e w'' ⟨rfl, rfl⟩
             exact hK _ _ (Ext.refl _) rfl)
          | (go_at_call 56
             refine (spPtrOk_any a b s m l _).mono ?_
             rw [EO.out]
             rintro e w'' ⟨rfl, hb⟩
             exact hK _ _ hb rfl)
          | exact hK _ _ (Ext.refl _) rfl))
   intro y w3 hX3 hF
   have e_ : y 28 = _ := hF.2.2.2.2.2.2.2.2.2.2.2.2.2.2.2.2.2.1
   clear hF
   simp only [fillL, rl0Texts, rl1Texts, rl2Texts, cond_true, cond_false, Nat.reduceAdd, e_]
   have HB3 : Hid (Below w.heap.size w w3) := Lib.hid (HB2.out.trans (Below.mono hX3 HB2.out.size))
   have HSX3 := Lib.hid ((Below.block hX3 _ l2).trans HSX.out)
   have HTR3 := Lib.hid ((Below.block hX3 _ l2x).trans HTR.out)
   have l3 := (Array.getElem?_eq_some_iff.1 HSX3.out).1
   have l3x := (Array.getElem?_eq_some_iff.1 HTR3.out).1
   clear hX3 e_ b0 b1 b2 b3 b4 b5 b6
   go_wp2_with fail
   go_ret
   exact ⟨ret_bool HN.out, HB3.out⟩
 have EL := Lib.hid e1; clear e1
 by_cases e2 : d = df
 rotate_left
 · have d2 : (d != df) = true := by simpa using e2
   have HN : Hid (false = R) := Lib.hid (by rw [← HR.out, spTree_head (by rw [headS_eq]; rw [EL.out, EDF.out, decide_eq_false e2]; rfl)])
   clear e2
   have b0 := celR 0 HTR.out; have b1 := celR 1 HTR.out; have b2 := celR 2 HTR.out; have b3 := celR 3 HTR.out; have b4 := celR 4 HTR.out; have b5 := celR 5 HTR.out; have b6 := celR 6 HTR.out
   go_wp2_with fail
   apply wp_region_rg (by kernel_rfl) rl0Texts rl1Texts rl2Texts (StP.is _ :: StP.is _ :: StP.is _ :: StP.is _ :: StP.is _ :: StP.is _ :: StP.is _ :: StP.is _ :: StP.is _ :: StP.is _ :: StP.is _ :: StP.is _ :: StP.is _ :: StP.is _ :: StP.is _ :: StP.is _ :: StP.is _ :: StP.is _ :: []) (by kernel_rfl)
   case hobs =>
    constructor; rotate_left
    constructor; have ld_ := trivial; rotate_left
    iterate 4 (constructor; rotate_left)
    constructor; have ld_ := trivial; rotate_left
    constructor; rotate_left
    constructor; have ld_ := trivial; rotate_left
    iterate 4 (constructor; rotate_left)
    iterate 4 (constructor; have skip_ := trivial; rotate_left)
    constructor; rotate_left
    · trivial
    all_goals (
     intro y w' hS hF K hK
     have eF := trivial
     repeat (obtain ⟨f1, hF⟩ := hF; replace eF := And.intro (show y _ = _ from f1) eF; clear f1)
     first
      | simp only [fillL, rl0Texts, rl1Texts, rl2Texts, cond_true, cond_false, zG0, zG1, StP.is, Act.put, zS2, zS0, zS1, Nat.reduceAdd, eF] at hK ⊢
      | simp only [fillL, rl0Texts, rl1Texts, rl2Texts, cond_true, cond_false, zG0, zG1, StP.is, Act.put, zS2, zS0, zS1, Nat.reduceAdd] at hK ⊢
     clear eF hF
     first
      | (clear skip_; refine rg_no (by kernel_rfl) ?_; exact hK _ _ (Ext.refl _) rfl)
      | (refine rg_yes (by kernel_rfl) ?_
         try (clear ld_; have qx0_ := (Below.cell hS l2x).trans b0; have qx1_ := (Below.cell hS l2x).trans b1; have qx2_ := (Below.cell hS l2x).trans b2; have qx3_ := (Below.cell hS l2x).trans b3; have qx4_ := (Below.cell hS l2x).trans b4; have qx5_ := (Below.cell hS l2x).trans b5; have qx6_ := (Below.cell hS l2x).trans b6)
         go_simp
         first
          | (go_at_call 55
             refine (l6In_any _ _ _ _).mono ?_
             rw [EL.out]
             rintro e w'' ⟨rfl, rfl⟩
             exact hK _ _ (Ext.refl _) rfl)
          | (go_at_call 74
             refine (l8Depth_any _ _).mono ?_
             rw [EDF.out]
             rintro e w'' ⟨rfl, rfl⟩
             exact hK _ _ (Ext.refl _) rfl)
          | (go_at_call 56
             refine (spPtrOk_any a b s m l _).mono ?_
             rw [EO.out]
             rintro e w'' ⟨rfl, hb⟩
             exact hK _ _ hb rfl)
          | exact hK _ _ (Ext.refl _) rfl))
   intro y w3 hX3 hF
   have e_ : y 28 = _ := hF.2.2.2.2.2.2.2.2.2.2.2.2.2.2.2.2.2.1
   clear hF
   simp only [fillL, rl0Texts, rl1Texts, rl2Texts, cond_true, cond_false, Nat.reduceAdd, e_]
   have HB3 : Hid (Below w.heap.size w w3) := Lib.hid (HB2.out.trans (Below.mono hX3 HB2.out.size))
   have HSX3 := Lib.hid ((Below.block hX3 _ l2).trans HSX.out)
   have HTR3 := Lib.hid ((Below.block hX3 _ l2x).trans HTR.out)
   have l3 := (Array.getElem?_eq_some_iff.1 HSX3.out).1
   have l3x := (Array.getElem?_eq_some_iff.1 HTR3.out).1
   clear hX3 e_ b0 b1 b2 b3 b4 b5 b6
   go_wp2_with fail
   go_ret
   exact ⟨ret_bool HN.out, HB3.out⟩
 have d2 : (d != df) = false := by simpa using e2
 have E2 : Hid (decide (d = df) = true) := Lib.hid (decide_eq_true e2)
 have E2' := Lib.hid e2; clear e2
 cases e3 : ptrOkB a b s m l
 · have EO := Lib.hid e3
   have HN : Hid (false = R) := Lib.hid (by rw [← HR.out, spTree_head (by rw [headS_eq]; rw [EL.out, EDF.out, E2.out, EO.out]; rfl)])
   clear e3
   have b0 := celR 0 HTR.out; have b1 := celR 1 HTR.out; have b2 := celR 2 HTR.out; have b3 := celR 3 HTR.out; have b4 := celR 4 HTR.out; have b5 := celR 5 HTR.out; have b6 := celR 6 HTR.out
   go_wp2_with fail
   apply wp_region_rg (by kernel_rfl) rl0Texts rl1Texts rl2Texts (StP.is _ :: StP.is _ :: StP.is _ :: StP.is _ :: StP.is _ :: StP.is _ :: StP.is _ :: StP.is _ :: StP.is _ :: StP.is _ :: StP.is _ :: StP.is _ :: StP.is _ :: StP.is _ :: StP.is _ :: StP.is _ :: StP.is _ :: StP.is _ :: []) (by kernel_rfl)
   case hobs =>
    constructor; rotate_left
    constructor; have ld_ := trivial; rotate_left
    iterate 4 (constructor; rotate_left)
    constructor; have ld_ := trivial; rotate_left
    constructor; rotate_left
    constructor; have ld_ := trivial; rotate_left
    iterate 5 (constructor; rotate_left)
    constructor; have ld_ := trivial; rotate_left
    iterate 3 (constructor; rotate_left)
    · trivial
    all_goals (
     intro y w' hS hF K hK
     have eF := trivial
     repeat (obtain ⟨f1, hF⟩ := hF; replace eF := And.intro (show y _ = _ from f1) eF; clear f1)
     first
      | simp only [fillL, rl0Texts, rl1Texts, rl2Texts, cond_true, cond_false, zG0, zG1, StP.is, Act.put, zS2, zS0, zS1, Nat.reduceAdd, eF] at hK ⊢
      | simp only [fillL, rl0Texts, rl1Texts, rl2Texts, cond_true, cond_false, zG0, zG1, StP.is, Act.put, zS2, zS0, zS1, Nat.reduceAdd] at hK ⊢
     clear eF hF
     first
      | (refine rg_yes (by kernel_rfl) ?_
         try (clear ld_; have qx0_ := (Below.cell hS l2x).trans b0; have qx1_ := (Below.cell hS l2x).trans b1; have qx2_ := (Below.cell hS l2x).trans b2; have qx3_ := (Below.cell hS l2x).trans b3; have qx4_ := (Below.cell hS l2x).trans b4; have qx5_ := (Below.cell hS l2x).trans b5; have qx6_ := (Below.cell hS l2x).trans b6)
         go_simp
         first
          | (go_at_call 55
             refine (l6In_any _ _ _ _).mono ?_
             rw [EL.out]
             rintro e w'' ⟨rfl, rfl⟩
             exact hK _ _ (Ext.refl _) rfl)
          | (go_at_call 74
             refine (l8Depth_any _ _).mono ?_
             rw [EDF.out]
             rintro e w'' ⟨rfl, rfl⟩
             exact hK _ _ (Ext.refl _) rfl)
          | (go_at_call 56
             refine (spPtrOk_any a b s m l _).mono ?_
             rw [EO.out]
             rintro e w'' ⟨rfl, hb⟩
             exact hK _ _ hb rfl)
          | exact hK _ _ (Ext.refl _) rfl))
   intro y w3 hX3 hF
   have e_ : y 28 = _ := hF.2.2.2.2.2.2.2.2.2.2.2.2.2.2.2.2.2.1
   clear hF
   simp only [fillL, rl0Texts, rl1Texts, rl2Texts, cond_true, cond_false, Nat.reduceAdd, e_]
   have HB3 : Hid (Below w.heap.size w w3) := Lib.hid (HB2.out.trans (Below.mono hX3 HB2.out.size))
   have HSX3 := Lib.hid ((Below.block hX3 _ l2).trans HSX.out)
   have HTR3 := Lib.hid ((Below.block hX3 _ l2x).trans HTR.out)
   have l3 := (Array.getElem?_eq_some_iff.1 HSX3.out).1
   have l3x := (Array.getElem?_eq_some_iff.1 HTR3.out).1
   clear hX3 e_ b0 b1 b2 b3 b4 b5 b6
   go_wp2_with fail
   go_ret
   exact ⟨ret_bool HN.out, HB3.out⟩
 have EO := Lib.hid e3; clear e3
 have HHS : Hid (headS ((a, b, s, m, l), d, n) = true) := Lib.hid (by rw [headS_eq, EL.out, EDF.out, E2.out, EO.out]; rfl)
 have b0 := celR 0 HTR.out; have b1 := celR 1 HTR.out; have b2 := celR 2 HTR.out; have b3 := celR 3 HTR.out; have b4 := celR 4 HTR.out; have b5 := celR 5 HTR.out; have b6 := celR 6 HTR.out
 go_wp2_with fail
 apply wp_region_rg (by kernel_rfl) rl0Texts rl1Texts rl2Texts (StP.is _ :: StP.is _ :: StP.is _ :: StP.is _ :: StP.is _ :: StP.is _ :: StP.is _ :: StP.is _ :: StP.is _ :: StP.is _ :: StP.is _ :: StP.is _ :: StP.is _ :: StP.is _ :: StP.is _ :: StP.is _ :: StP.is _ :: StP.is _ :: []) (by kernel_rfl)
 case hobs =>
  constructor; rotate_left
  constructor; have ld_ := trivial; rotate_left
  iterate 4 (constructor; rotate_left)
  constructor; have ld_ := trivial; rotate_left
  constructor; rotate_left
  constructor; have ld_ := trivial; rotate_left
  iterate 5 (constructor; rotate_left)
  constructor; have ld_ := trivial; rotate_left
  iterate 3 (constructor; rotate_left)
  · trivial
  all_goals (
   intro y w' hS hF K hK
   have eF := trivial
   repeat (obtain ⟨f1, hF⟩ := hF; replace eF := And.intro (show y _ = _ from f1) eF; clear f1)
   first
    | simp only [fillL, rl0Texts, rl1Texts, rl2Texts, cond_true, cond_false, zG0, zG1, StP.is, Act.put, zS2, zS0, zS1, Nat.reduceAdd, eF] at hK ⊢
    | simp only [fillL, rl0Texts, rl1Texts, rl2Texts, cond_true, cond_false, zG0, zG1, StP.is, Act.put, zS2, zS0, zS1, Nat.reduceAdd] at hK ⊢
   clear eF hF
   first
    | (refine rg_yes (by kernel_rfl) ?_
       try (clear ld_; have qx0_ := (Below.cell hS l2x).trans b0; have qx1_ := (Below.cell hS l2x).trans b1; have qx2_ := (Below.cell hS l2x).trans b2; have qx3_ := (Below.cell hS l2x).trans b3; have qx4_ := (Below.cell hS l2x).trans b4; have qx5_ := (Below.cell hS l2x).trans b5; have qx6_ := (Below.cell hS l2x).trans b6)
       go_simp
       first
        | (go_at_call 55
           refine (l6In_any _ _ _ _).mono ?_
           rw [EL.out]
           rintro e w'' ⟨rfl, rfl⟩
           exact hK _ _ (Ext.refl _) rfl)
        | (go_at_call 74
           refine (l8Depth_any _ _).mono ?_
           rw [EDF.out]
           rintro e w'' ⟨rfl, rfl⟩
           exact hK _ _ (Ext.refl _) rfl)
        | (go_at_call 56
           refine (spPtrOk_any a b s m l _).mono ?_
           rw [EO.out]
           rintro e w'' ⟨rfl, hb⟩
           exact hK _ _ hb rfl)
        | exact hK _ _ (Ext.refl _) rfl))
 intro y w3 hX3 hF
 have e_ : y 28 = _ := hF.2.2.2.2.2.2.2.2.2.2.2.2.2.2.2.2.2.1
 clear hF
 simp only [fillL, rl0Texts, rl1Texts, rl2Texts, cond_true, cond_false, Nat.reduceAdd, e_]
 have HB3 : Hid (Below w.heap.size w w3) := Lib.hid (HB2.out.trans (Below.mono hX3 HB2.out.size))
 have HSX3 := Lib.hid ((Below.block hX3 _ l2).trans HSX.out)
 have HTR3 := Lib.hid ((Below.block hX3 _ l2x).trans HTR.out)
 have l3 := (Array.getElem?_eq_some_iff.1 HSX3.out).1
 have l3x := (Array.getElem?_eq_some_iff.1 HTR3.out).1
 clear hX3 e_ b0 b1 b2 b3 b4 b5 b6
 clear d2
 obtain ⟨dn, hdn, hd2⟩ := depthF_nat n
 obtain rfl : d = (dn : Int) := by rw [E2'.out, ← EDF.out]; exact hdn
 clear hdn E2 E2' EDF
 have hn16 : 0 ≤ n ∧ n ≤ 16 := by have := EL.out; unfold inB at this; simpa using this
 have s0 := celR 0 HSX3.out; have s1 := celR 1 HSX3.out; have s2 := celR 2 HSX3.out; have s3 := celR 3 HSX3.out; have s4 := celR 4 HSX3.out; have s5 := celR 5 HSX3.out; have s6 := celR 6 HSX3.out; have s7 := celR 7 HSX3.out
 have t0 := celR 0 HTR3.out; have t1 := celR 1 HTR3.out; have t2 := celR 2 HTR3.out; have t3 := celR 3 HTR3.out; have t4 := celR 4 HTR3.out; have t5 := celR 5 HTR3.out; have t6 := celR 6 HTR3.out
 go_wp2_with fail
 refine (HLF.out w3 HB3.out a b s m l n dn hd2).mono ?_
 obtain ⟨o, ho⟩ : ∃ o, o = leavesG (belowS X) dn [((a, b, s, m, l) : PtrD)] := ⟨_, rfl⟩
 rw [← ho]
 have HO := Lib.hid ho.symm; clear ho
 rintro e w4 ⟨A, len, c, ls, ok, rfl, rfl, hps, hsl, hb4⟩
 have HB4 := Lib.hid (HB3.out.trans (hb4.mono HB3.out.size))
 have HSX4 := Lib.hid ((hb4.block _ l3).trans HSX3.out)
 have HTR4 := Lib.hid ((hb4.block _ l3x).trans HTR3.out)
 have l4 := (Array.getElem?_eq_some_iff.1 HSX4.out).1
 have l4x := (Array.getElem?_eq_some_iff.1 HTR4.out).1
 have HSL := Lib.hid hsl
 clear hb4 hsl s0 s1 s2 s3 s4 s5 s6 s7 t0 t1 t2 t3 t4 t5 t6
 cases o
 · have HN : Hid (false = R) := Lib.hid (by rw [← HR.out, spTree_leaves (by dsimp only; rw [Int.toNat_natCast]; exact HO.out)])
   clear hps
   go_wp2_with fail
   go_ret
   exact ⟨ret_bool HN.out, HB4.out⟩
 obtain rfl := hps _ rfl
 clear hps
 have HOKL := Lib.hid (leavesG_ok dn (fun q hq => by rw [List.mem_singleton] at hq; subst hq; exact EO.out) HO.out)
 have HBAD : Hid (∀ j q, ls[j]? = some q → endS X n j q = false → false = R) := Lib.hid (fun j q hq he => by rw [← HR.out, spTree_end (by dsimp only; rw [Int.toNat_natCast]; exact HO.out) hq he])
 have hlm := HSL.out.max
 go_wp2_with fail
 go_loopw [7] (fun i wr => ∃ k : Nat, k ≤ len ∧ i = .int .i64 (k : Int) ∧ Hid (∀ j q, j < k → ls[j]? = some q → endS X n j q = true) ∧ Hid (Below w4.heap.size w4 wr)) (fun i _ => len - (RowKit.intOf i).toNat)
 case atStart => exact ⟨0, Nat.zero_le _, rfl, Lib.hid (fun j q hj => absurd hj (by omega)), Lib.hid (Below.refl _ _)⟩
 obtain ⟨k, hk, rfl, HEN, HB5⟩ := hrel
 have HBW := Lib.hid (HB4.out.trans (HB5.out.mono HB4.out.size))
 have k0 : (0 : Int) ≤ (k : Int) := by omega
 by_cases hlt : k < len
 case neg =>
  obtain rfl : k = len := by omega
  have HN : Hid (true = R) := Lib.hid (by
   rw [← HR.out, spTree_yes HTX0.out HHS.out (by dsimp only; rw [Int.toNat_natCast]; exact HO.out) (fun j q hq => HEN.out j q (by have := (List.getElem?_eq_some_iff.1 hq).1; rw [← HSL.out.len]; exact this) hq)]
   rfl)
  go_wp2_with fail
  go_ret
  exact ⟨ret_bool HN.out, HBW.out⟩
 have k1 : (k : Int) < (len : Int) := by omega
 obtain ⟨pp, hp⟩ : ∃ q, ls[k]? = some q := ⟨ls[k]'(by rw [HSL.out.len]; exact hlt), List.getElem?_eq_getElem _⟩
 obtain ⟨b_, off, rfl, _, _, bl, hc⟩ := (HSL.out.newer HB5.out).at_ (by omega)
 obtain ⟨cs_, hcl, hcc, hr⟩ := hc k pp hp
 have HX := Lib.hid hp
 have HOP := Lib.hid (HOKL.out pp (List.mem_of_getElem? hp))
 clear hp hc
 obtain ⟨a', b', s', m', l'⟩ := pp
 obtain rfl := hr
 have q0 := hcc 0 _ rfl; have q1 := hcc 1 _ rfl; have q2 := hcc 2 _ rfl; have q3 := hcc 3 _ rfl; have q4 := hcc 4 _ rfl
 simp only [Nat.add_zero] at q0
 clear hcc hcl
 obtain ⟨w5, hw5⟩ : ∃ W, W = wr.alloc (.cells #[.int .i64 a', .int .i64 b', .int .i64 s', .int .i64 m', .int .i64 l'] 41) := ⟨_, rfl⟩
 have HB6 : Hid (Below w4.heap.size w4 w5) := Lib.hid (by rw [hw5]; exact Below.alloc HB5.out HB5.out.size _)
 have hbx : Hid (w5.heap[wr.heap.size]? = some (.cells #[.int .i64 a', .int .i64 b', .int .i64 s', .int .i64 m', .int .i64 l'] 41 (0, 0))) := Lib.hid (by rw [hw5]; exact heap_alloc_new _ _)
 go_wp2_with fail
 rw [← hw5]
 clear hw5 q0 q1 q2 q3 q4
 have x0 := celR 0 hbx.out; have x1 := celR 1 hbx.out; have x2 := celR 2 hbx.out; have x3 := celR 3 hbx.out; have x4 := celR 4 hbx.out
 have l5 := (Array.getElem?_eq_some_iff.1 hbx.out).1
 go_wp2_with fail
 refine (spPtrHole_any a' b' s' m' l' _).mono ?_
 rintro e w6 ⟨rfl, hb6⟩
 have HB7 := Lib.hid (HB6.out.trans (hb6.mono HB6.out.size))
 have HBW6 := Lib.hid (HB4.out.trans (HB7.out.mono HB4.out.size))
 have hbx6 := Lib.hid ((hb6.block _ l5).trans hbx.out)
 have l6 := (Array.getElem?_eq_some_iff.1 hbx6.out).1
 clear hb6 hbx x0 x1 x2 x3 x4
 cases hh : ptrHole a' b' s' m' l'
 rotate_left
 · have HEN' := Lib.hid (upto_stepI (Q := fun j q => endS X n j q = true) HEN.out HX.out (by rw [endS_eq, hh]; rfl))
   clear hh
   go_wp2_with fail
   go_roundw
   case rel => exact ⟨k + 1, by omega, by go_num, HEN', HB7⟩
   simp [RowKit.intOf]; omega
 have HH := Lib.hid hh; clear hh
 have HSX6 := Lib.hid ((HB7.out.block _ l4).trans HSX4.out)
 have HTR6 := Lib.hid ((HB7.out.block _ l4x).trans HTR4.out)
 have x0 := celR 0 hbx6.out; have x1 := celR 1 hbx6.out; have x2 := celR 2 hbx6.out; have x3 := celR 3 hbx6.out; have x4 := celR 4 hbx6.out
 have s0 := celR 0 HSX6.out; have s1 := celR 1 HSX6.out; have s2 := celR 2 HSX6.out; have s3 := celR 3 HSX6.out; have s4 := celR 4 HSX6.out; have s5 := celR 5 HSX6.out; have s6 := celR 6 HSX6.out; have s7 := celR 7 HSX6.out
 obtain ⟨o, ho⟩ : ∃ o, o = readF X (a', b', s', m', l') := ⟨_, rfl⟩
 have HOO := Lib.hid ho.symm
 go_wp2_with fail
 refine (HRD.out w6 HBW6.out a' b' s' m' l' HOP.out).mono ?_
 unfold l7Read_any_post
 rw [← ho]
 clear ho
 cases o
 · simp only [Option.getD_none, Option.isSome_none]
   obtain ⟨tx, htx⟩ : ∃ tx, tx = ByteArray.empty := ⟨_, rfl⟩
   rw [← htx]
   rintro e w7 ⟨rfl, hb7⟩
   have HBW7 := Lib.hid (HBW6.out.trans (hb7.mono HBW6.out.size))
   have HN := Lib.hid (HBAD.out k _ HX.out (by rw [endS_eq, HH.out, HOO.out]; rfl))
   clear hb7 htx x0 x1 x2 x3 x4 s0 s1 s2 s3 s4 s5 s6 s7
   go_wp2_with fail
   go_ret
   exact ⟨ret_bool HN.out, HBW7.out⟩
 rename_i t
 simp only [Option.getD_some, Option.isSome_some]
 rintro e w7 ⟨rfl, hb7⟩
 have HBW7 := Lib.hid (HBW6.out.trans (hb7.mono HBW6.out.size))
 have HB8 := Lib.hid (HB7.out.trans (hb7.mono HB7.out.size))
 have hbx7 := Lib.hid ((hb7.block _ l6).trans hbx6.out)
 have HSX7 := Lib.hid ((HB8.out.block _ l4).trans HSX4.out)
 have HTR7 := Lib.hid ((HB8.out.block _ l4x).trans HTR4.out)
 clear hb7 x0 x1 x2 x3 x4 s0 s1 s2 s3 s4 s5 s6 s7
 have x1 := celR 1 hbx7.out; have x4 := celR 4 hbx7.out
 have s3 := celR 3 HSX7.out
 have t6 := celR 6 HTR7.out
 by_cases hl0 : l' = 0
 rotate_left
 · have dl : (l' != 0) = true := by simpa using hl0
   have HN := Lib.hid (HBAD.out k _ HX.out (by rw [endS_eq, HH.out, HOO.out, decide_eq_false hl0]; rfl))
   clear hl0
   go_wp2_with fail
   go_ret
   exact ⟨ret_bool HN.out, HBW7.out⟩
 have dl : (l' != 0) = false := by simpa using hl0
 have HL0 := Lib.hid hl0; clear hl0
 by_cases hbt : txg < b'
 · have HN := Lib.hid (HBAD.out k _ HX.out (by rw [endS_eq, HH.out, HOO.out, decide_eq_true HL0.out, decide_eq_false (by rw [HTX.out]; omega)]; rfl))
   go_wp2_with fail
   go_ret
   exact ⟨ret_bool HN.out, HBW7.out⟩
 have dbt : decide (txg < b') = false := decide_eq_false hbt
 have HBT : Hid (decide (b' ≤ X.2.2.1) = true) := Lib.hid (decide_eq_true (by rw [HTX.out]; omega))
 clear hbt
 by_cases hkn : n ≤ (k : Int)
 · have HN := Lib.hid (HBAD.out k _ HX.out (by rw [endS_eq, HH.out, HOO.out, decide_eq_true HL0.out, HBT.out, decide_eq_false (by omega)]; rfl))
   go_wp2_with fail
   go_ret
   exact ⟨ret_bool HN.out, HBW7.out⟩
 have HEN' := Lib.hid (upto_stepI (Q := fun j q => endS X n j q = true) HEN.out HX.out (by rw [endS_eq, HH.out, HOO.out, decide_eq_true HL0.out, HBT.out, decide_eq_true (by omega)]; rfl))
 go_wp2_with fail
 go_roundw
 case rel => exact ⟨k + 1, by omega, by go_num, HEN', HB8⟩
 simp [RowKit.intOf]; omega
end Go.Proofs.YtjnhiiaejeaikaaGreatDoor
