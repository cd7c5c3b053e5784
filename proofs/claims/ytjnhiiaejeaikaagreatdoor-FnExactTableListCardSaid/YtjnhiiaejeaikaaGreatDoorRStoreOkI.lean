/- StoreOk of the program. No condition. -/
import Derived.Test.YtjnhiiaejeaikaaGreatDoorRStoreOk
import Derived.Test.YtjnhiiaejeaikaaGreatDoorRStorePlain
set_option linter.unnecessarySimpa false
set_option linter.unusedSimpArgs false
set_option linter.unusedVariables false
namespace Go.Proofs.YtjnhiiaejeaikaaGreatDoor
open Go.RowKit
abbrev rl0StoreOkI : List Bool := (false :: false :: false :: false :: false :: false :: false :: false :: false :: true :: true :: true :: true :: true :: true :: true :: true :: true :: true :: true :: true :: true :: true :: true :: true :: true :: true :: true :: true :: true :: true :: true :: true :: true :: true :: true :: true :: true :: true :: true :: true :: true :: true :: false :: false :: false :: false :: false :: false :: false :: false :: false :: false :: false :: false :: false :: false :: false :: false :: false :: false :: false :: false :: false :: false :: false :: false :: false :: false :: false :: false :: false :: false :: false :: false :: false :: false :: false :: false :: false :: false :: false :: false :: false :: false :: false :: false :: false :: false :: false :: false :: false :: false :: false :: false :: false :: false :: false :: false :: false :: false :: false :: [])
abbrev rl1StoreOkI : List (Option Nat) := (some 9 :: some 10 :: some 11 :: some 12 :: some 13 :: some 14 :: some 15 :: some 16 :: some 17 :: some 18 :: some 19 :: some 20 :: some 21 :: some 22 :: some 23 :: some 24 :: some 25 :: some 26 :: some 27 :: some 28 :: some 29 :: some 30 :: some 31 :: some 32 :: some 33 :: some 34 :: some 35 :: some 36 :: some 37 :: some 38 :: some 39 :: some 40 :: some 41 :: some 42 :: [])
abbrev rl2StoreOkI : List (List Nat) := ([] :: [0] :: [1] :: [2] :: [3] :: [4] :: [4, 5] :: [4, 6] :: [4, 7] :: [4, 8] :: [9] :: [10] :: [10, 11] :: [10, 12] :: [10, 13] :: [10, 14] :: [15] :: [16] :: [16, 17] :: [16] :: [16, 19] :: [16, 20] :: [16, 18, 21] :: [16, 22] :: [16, 23] :: [24] :: [25] :: [25, 26] :: [25, 27] :: [25, 28] :: [25] :: [25, 30] :: [25, 29, 31] :: [25, 32] :: [])
theorem SliceR.upP {w W : World} {lo hi : Nat} {A : Option Addr} {n c : Nat} {xs : List PtrD} (h : SliceR PtrR 5 w lo hi A n c xs) (hb : Below w.heap.size w W) : SliceR PtrR 5 W lo hi A n c xs := h.below hb (PtrR.below hb h.lo_le)
theorem z64_get (i : Nat) : z64.getD i 0 = 0 := by
 unfold z64
 rw [List.getD_eq_getElem?_getD, List.getElem?_replicate]
 split <;> rfl
theorem owed_get {xs ys : List PtrD} (h1 : ∀ p ∈ xs, 8 ≤ p.1 ∧ p.1 ≤ 63) (h2 : ∀ p ∈ ys, 8 ≤ p.1 ∧ p.1 ≤ 63) : (owe (owe z64 xs) ys).length = 64 ∧ ∀ i : Nat, (owe (owe z64 xs) ys).getD i 0 = ((cntP xs i + cntP ys i : Nat) : Int) := by
 obtain ⟨a1, a2⟩ := owe_get (o := z64) (by simp [z64]) h1
 obtain ⟨b1, b2⟩ := owe_get a1 h2
 refine ⟨b1, fun i => ?_⟩
 rw [b2, a2, z64_get]; push_cast; omega
theorem countB_good {top : Int} {refs : List Int} {ps : List PtrD} (h : countB top refs ps = true) : ∀ p ∈ ps, goodP top p = true := by
 unfold countB at h
 rw [List.all_eq_true] at h
 exact fun p hp => ((Bool.and_eq_true _ _).mp (h p hp)).1
theorem countB_row {top : Int} {refs : List Int} {ps : List PtrD} (h : countB top refs ps = true) : ∀ p ∈ ps, 8 ≤ p.1 ∧ p.1 ≤ 63 := fun p hp => (goodP_parts (countB_good h p hp)).2.2.2
theorem countB_of {top : Int} {refs : List Int} {ps qs : List PtrD} (h : ∀ p ∈ ps, goodP top p = true) (ho : ∀ i, i < 64 → ((cntP ps i + cntP qs i : Nat) : Int) ≤ refs.getD i 0) : countB top refs ps = true := by
 unfold countB
 rw [List.all_eq_true]
 intro p hp
 have hg := h p hp
 obtain ⟨-, -, -, h8, h63⟩ := goodP_parts hg
 rw [hg, Bool.true_and]
 have h1 := ho p.1.toNat (by omega)
 have h2 : 0 < cntP ps p.1.toNat := by unfold cntP; rw [List.countP_pos_iff]; exact ⟨p, hp, by simp; omega⟩
 have h3 : ¬ refs.getD p.1.toNat 0 = 0 := by omega
 simp only [decide_eq_false h3, Bool.not_false]
set_option maxRecDepth 100000 in
set_option maxHeartbeats 8000000 in
theorem storeOk_any (cs : List Value) (x : StoreD) (w : World) (lo hi : Nat) (h : StoreR w lo hi cs x) (hsz : x.2.2.2.1.length ≤ 2000000 ∧ x.2.2.2.2.2.1.length ≤ 2000000) :
 Calls Tryz.prog 50 #[.agg cs.toArray] w fun e w' => e = .returned (.bool (storeOk x)) ∧ Below w.heap.size w w' := by
 obtain ⟨rows, ⟨refs, last⟩, txg, gone, keep, dead, same⟩ := x
 obtain ⟨A0, n0, c0, A1, n1, c1, A2, n2, c2, A3, n3, c3, A4, n4, c4, rfl, h0, h1, h2, h3, h4⟩ := h
 obtain ⟨res, hres⟩ : ∃ r, r = storeOk (rows, (refs, last), txg, gone, keep, dead, same) := ⟨_, rfl⟩
 rw [← hres]
 have HBAD : Hid (¬ StoreOk (rows, (refs, last), txg, gone, keep, dead, same) → false = res) := Lib.hid (fun h => by rw [hres, storeOk_no h])
 have HYES : Hid (StoreOk (rows, (refs, last), txg, gone, keep, dead, same) → true = res) := Lib.hid (fun h => by rw [hres, storeOk_yes h])
 clear hres
 show Calls Tryz.prog 50 #[.agg #[.slice A0 n0 c0, .slice A1 n1 c1, .slice A2 n2 c2, .int .i64 txg, .slice A3 n3 c3, .int .i64 keep, .slice A4 n4 c4, .bool same]] w _
 have m0 := h0.max
 have L0 := Lib.hid h0.len; have L1 := Lib.hid h1.len; have L2 := Lib.hid h2.len; have L3 := Lib.hid h3.len; have L4 := Lib.hid h4.len
 have s3 : n3 ≤ 2000000 := by have := h3.len; have := hsz.1; simp at this; omega
 have s4 : n4 ≤ 2000000 := by have := h4.len; have := hsz.2; simp at this; omega
 have H0 := Lib.hid h0; have H1 := Lib.hid h1; have H2 := Lib.hid h2; have H3 := Lib.hid h3; have H4 := Lib.hid h4
 clear h0 h1 h2 h3 h4 hsz
 go_enter Tryz.func50, Tryz.ntmps50
 go_wp2_with fail
 obtain ⟨w1, hW⟩ : ∃ W, W = w.alloc (.cells #[.slice A0 n0 c0, .slice A1 n1 c1, .slice A2 n2 c2, .int .i64 txg, .slice A3 n3 c3, .int .i64 keep, .slice A4 n4 c4, .bool same] 39) := ⟨_, rfl⟩
 have HB1 : Hid (Below w.heap.size w w1) := Lib.hid (by rw [hW]; exact bel1)
 have HBX : Hid (w1.heap[w.heap.size]? = some (.cells #[.slice A0 n0 c0, .slice A1 n1 c1, .slice A2 n2 c2, .int .i64 txg, .slice A3 n3 c3, .int .i64 keep, .slice A4 n4 c4, .bool same] 39 (0, 0))) := Lib.hid (by rw [hW]; exact heap_alloc_new _ _)
 rw [← hW]; clear hW
 have l1 : w.heap.size < w1.heap.size := (Array.getElem?_eq_some_iff.1 HBX.out).1
 have hWI : ∀ W, Below w1.heap.size w1 W → IntsAt W A1 n1 refs ∧ IntsAt W A2 n2 last := fun W hb => by
  have hw : Below w.heap.size w W := HB1.out.trans (hb.mono HB1.out.size)
  exact ⟨(H1.out.below hw (IntR.below hw H1.out.lo_le)).ints, (H2.out.below hw (IntR.below hw H2.out.lo_le)).ints⟩
 have HWI := Lib.hid hWI; clear hWI
 by_cases q0 : n0 = 64
 rotate_left
 · have d0 : ((n0 : Int) != 64) = true := by simp; omega
   have b0 := celR 0 HBX.out; have b1 := celR 1 HBX.out; have b2 := celR 2 HBX.out; have b3 := celR 3 HBX.out; have b4 := celR 4 HBX.out; have b5 := celR 5 HBX.out; have b6 := celR 6 HBX.out; have b7 := celR 7 HBX.out
   go_wp2_with fail
   apply wp_region_rg (by kernel_rfl) rl0StoreOkI rl1StoreOkI rl2StoreOkI (StP.is _ :: StP.is _ :: StP.is _ :: StP.is _ :: StP.is _ :: StP.is _ :: StP.is _ :: StP.is _ :: StP.is _ :: StP.is _ :: StP.is _ :: StP.is _ :: StP.is _ :: StP.is _ :: StP.is _ :: StP.is _ :: StP.is _ :: StP.is _ :: StP.is _ :: StP.is _ :: StP.is _ :: StP.is _ :: StP.is _ :: StP.is _ :: StP.is _ :: StP.is _ :: StP.is _ :: StP.is _ :: StP.is _ :: StP.is _ :: StP.is _ :: StP.is _ :: StP.is _ :: StP.is _ :: []) (by kernel_rfl)
   case hobs =>
    constructor; rotate_left
    iterate 2 (constructor; have ld_ := trivial; rotate_left)
    iterate 2 (constructor; rotate_left)
    iterate 4 (constructor; have skip_ := trivial; rotate_left)
    iterate 2 (constructor; rotate_left)
    iterate 4 (constructor; have skip_ := trivial; rotate_left)
    iterate 2 (constructor; rotate_left)
    iterate 7 (constructor; have skip_ := trivial; rotate_left)
    iterate 2 (constructor; rotate_left)
    iterate 7 (constructor; have skip_ := trivial; rotate_left)
    constructor; rotate_left
    · trivial
    all_goals (
     intro y w' hS hF K hK
     have eF := trivial
     repeat (obtain ⟨f1, hF⟩ := hF; replace eF := And.intro (show y _ = _ from f1) eF; clear f1)
     first
      | simp only [fillL, rl0StoreOkI, rl1StoreOkI, rl2StoreOkI, cond_true, cond_false, zG0, zG1, StP.is, Act.put, zS2, zS0, zS1, Nat.reduceAdd, eF] at hK ⊢
      | simp only [fillL, rl0StoreOkI, rl1StoreOkI, rl2StoreOkI, cond_true, cond_false, zG0, zG1, StP.is, Act.put, zS2, zS0, zS1, Nat.reduceAdd] at hK ⊢
     clear eF hF
     first
      | (clear skip_; refine rg_no (by kernel_rfl) ?_; exact hK _ _ (Ext.refl _) rfl)
      | (refine rg_yes (by kernel_rfl) ?_
         try (clear ld_; have qx0_ := (Below.cell hS l1).trans b0; have qx1_ := (Below.cell hS l1).trans b1; have qx2_ := (Below.cell hS l1).trans b2; have qx3_ := (Below.cell hS l1).trans b3; have qx4_ := (Below.cell hS l1).trans b4; have qx5_ := (Below.cell hS l1).trans b5; have qx6_ := (Below.cell hS l1).trans b6; have qx7_ := (Below.cell hS l1).trans b7)
         go_simp
         first
          | (go_at_call 65
             refine (spaceOk_any _ _ _ _ _ _ refs last _ (HWI.out w' hS).1 (HWI.out w' hS).2).mono ?_
             rw [E1.out]
             rintro e w'' ⟨rfl, hb⟩
             exact hK _ _ hb rfl)
          | (go_at_call 61
             refine (within_any _ _ _ _).mono ?_
             rw [E2.out]
             rintro e w'' ⟨rfl, rfl⟩
             exact hK _ _ (Ext.refl _) rfl)
          | (go_at_call 61
             refine (within_any _ _ _ _).mono ?_
             rw [E3.out]
             rintro e w'' ⟨rfl, rfl⟩
             exact hK _ _ (Ext.refl _) rfl)
          | (go_at_call 66
             refine (maxI_any _ _ _ last _ (HWI.out w' hS).2 (by omega)).mono ?_
             rw [E4.out]
             rintro e w'' ⟨rfl, rfl⟩
             exact hK _ _ (Ext.refl _) rfl)
          | exact hK _ _ (Ext.refl _) rfl))
   intro y w2 hX hF
   have e42 : y 42 = _ := hF.2.2.2.2.2.2.2.2.2.2.2.2.2.2.2.2.2.2.2.2.2.2.2.2.2.2.2.2.2.2.2.2.2.1
   clear hF
   simp only [fillL, rl0StoreOkI, rl1StoreOkI, rl2StoreOkI, cond_true, cond_false, Nat.reduceAdd, e42]
   clear e42 b0 b1 b2 b3 b4 b5 b6 b7
   have HB2 : Hid (Below w1.heap.size w1 w2) := Lib.hid hX
   have HB3 : Hid (Below w.heap.size w w2) := Lib.hid (HB1.out.trans (Below.mono hX HB1.out.size))
   clear hX
   go_wp2_with fail
   go_ret
   exact ⟨ret_bool (HBAD.out (fun h => q0 (by rw [← L0.out]; exact h.len))), HB3.out⟩
 subst q0
 cases e1 : spOk refs last
 · have E1 := Lib.hid e1
   have b0 := celR 0 HBX.out; have b1 := celR 1 HBX.out; have b2 := celR 2 HBX.out; have b3 := celR 3 HBX.out; have b4 := celR 4 HBX.out; have b5 := celR 5 HBX.out; have b6 := celR 6 HBX.out; have b7 := celR 7 HBX.out
   go_wp2_with fail
   apply wp_region_rg (by kernel_rfl) rl0StoreOkI rl1StoreOkI rl2StoreOkI (StP.is _ :: StP.is _ :: StP.is _ :: StP.is _ :: StP.is _ :: StP.is _ :: StP.is _ :: StP.is _ :: StP.is _ :: StP.is _ :: StP.is _ :: StP.is _ :: StP.is _ :: StP.is _ :: StP.is _ :: StP.is _ :: StP.is _ :: StP.is _ :: StP.is _ :: StP.is _ :: StP.is _ :: StP.is _ :: StP.is _ :: StP.is _ :: StP.is _ :: StP.is _ :: StP.is _ :: StP.is _ :: StP.is _ :: StP.is _ :: StP.is _ :: StP.is _ :: StP.is _ :: StP.is _ :: []) (by kernel_rfl)
   case hobs =>
    constructor; rotate_left
    iterate 2 (constructor; have ld_ := trivial; rotate_left)
    iterate 3 (constructor; rotate_left)
    constructor; have ld_ := trivial; rotate_left
    iterate 4 (constructor; rotate_left)
    iterate 4 (constructor; have skip_ := trivial; rotate_left)
    iterate 2 (constructor; rotate_left)
    iterate 7 (constructor; have skip_ := trivial; rotate_left)
    iterate 2 (constructor; rotate_left)
    iterate 7 (constructor; have skip_ := trivial; rotate_left)
    constructor; rotate_left
    · trivial
    all_goals (
     intro y w' hS hF K hK
     have eF := trivial
     repeat (obtain ⟨f1, hF⟩ := hF; replace eF := And.intro (show y _ = _ from f1) eF; clear f1)
     first
      | simp only [fillL, rl0StoreOkI, rl1StoreOkI, rl2StoreOkI, cond_true, cond_false, zG0, zG1, StP.is, Act.put, zS2, zS0, zS1, Nat.reduceAdd, eF] at hK ⊢
      | simp only [fillL, rl0StoreOkI, rl1StoreOkI, rl2StoreOkI, cond_true, cond_false, zG0, zG1, StP.is, Act.put, zS2, zS0, zS1, Nat.reduceAdd] at hK ⊢
     clear eF hF
     first
      | (clear skip_; refine rg_no (by kernel_rfl) ?_; exact hK _ _ (Ext.refl _) rfl)
      | (refine rg_yes (by kernel_rfl) ?_
         try (clear ld_; have qx0_ := (Below.cell hS l1).trans b0; have qx1_ := (Below.cell hS l1).trans b1; have qx2_ := (Below.cell hS l1).trans b2; have qx3_ := (Below.cell hS l1).trans b3; have qx4_ := (Below.cell hS l1).trans b4; have qx5_ := (Below.cell hS l1).trans b5; have qx6_ := (Below.cell hS l1).trans b6; have qx7_ := (Below.cell hS l1).trans b7)
         go_simp
         first
          | (go_at_call 65
             refine (spaceOk_any _ _ _ _ _ _ refs last _ (HWI.out w' hS).1 (HWI.out w' hS).2).mono ?_
             rw [E1.out]
             rintro e w'' ⟨rfl, hb⟩
             exact hK _ _ hb rfl)
          | (go_at_call 61
             refine (within_any _ _ _ _).mono ?_
             rw [E2.out]
             rintro e w'' ⟨rfl, rfl⟩
             exact hK _ _ (Ext.refl _) rfl)
          | (go_at_call 61
             refine (within_any _ _ _ _).mono ?_
             rw [E3.out]
             rintro e w'' ⟨rfl, rfl⟩
             exact hK _ _ (Ext.refl _) rfl)
          | (go_at_call 66
             refine (maxI_any _ _ _ last _ (HWI.out w' hS).2 (by omega)).mono ?_
             rw [E4.out]
             rintro e w'' ⟨rfl, rfl⟩
             exact hK _ _ (Ext.refl _) rfl)
          | exact hK _ _ (Ext.refl _) rfl))
   intro y w2 hX hF
   have e42 : y 42 = _ := hF.2.2.2.2.2.2.2.2.2.2.2.2.2.2.2.2.2.2.2.2.2.2.2.2.2.2.2.2.2.2.2.2.2.1
   clear hF
   simp only [fillL, rl0StoreOkI, rl1StoreOkI, rl2StoreOkI, cond_true, cond_false, Nat.reduceAdd, e42]
   clear e42 b0 b1 b2 b3 b4 b5 b6 b7
   have HB2 : Hid (Below w1.heap.size w1 w2) := Lib.hid hX
   have HB3 : Hid (Below w.heap.size w w2) := Lib.hid (HB1.out.trans (Below.mono hX HB1.out.size))
   clear hX
   go_wp2_with fail
   go_ret
   exact ⟨ret_bool (HBAD.out (fun h => by have h_ : spOk refs last = true := h.sp; rw [E1.out] at h_; cases h_)), HB3.out⟩
 have E1 := Lib.hid e1; clear e1
 obtain ⟨p1, p2, p3⟩ := spOk_iff.1 E1.out
 have HP3 := Lib.hid p3; clear p3
 obtain rfl : n1 = 64 := by rw [← L1.out]; exact p1
 obtain rfl : n2 = 64 := by rw [← L2.out]; exact p2
 clear p1 p2
 cases e2 : inB txg 1 900
 · have E2 := Lib.hid e2
   have b0 := celR 0 HBX.out; have b1 := celR 1 HBX.out; have b2 := celR 2 HBX.out; have b3 := celR 3 HBX.out; have b4 := celR 4 HBX.out; have b5 := celR 5 HBX.out; have b6 := celR 6 HBX.out; have b7 := celR 7 HBX.out
   go_wp2_with fail
   apply wp_region_rg (by kernel_rfl) rl0StoreOkI rl1StoreOkI rl2StoreOkI (StP.is _ :: StP.is _ :: StP.is _ :: StP.is _ :: StP.is _ :: StP.is _ :: StP.is _ :: StP.is _ :: StP.is _ :: StP.is _ :: StP.is _ :: StP.is _ :: StP.is _ :: StP.is _ :: StP.is _ :: StP.is _ :: StP.is _ :: StP.is _ :: StP.is _ :: StP.is _ :: StP.is _ :: StP.is _ :: StP.is _ :: StP.is _ :: StP.is _ :: StP.is _ :: StP.is _ :: StP.is _ :: StP.is _ :: StP.is _ :: StP.is _ :: StP.is _ :: StP.is _ :: StP.is _ :: []) (by kernel_rfl)
   case hobs =>
    constructor; rotate_left
    iterate 2 (constructor; have ld_ := trivial; rotate_left)
    iterate 3 (constructor; rotate_left)
    constructor; have ld_ := trivial; rotate_left
    iterate 5 (constructor; rotate_left)
    constructor; have ld_ := trivial; rotate_left
    iterate 4 (constructor; rotate_left)
    iterate 7 (constructor; have skip_ := trivial; rotate_left)
    iterate 2 (constructor; rotate_left)
    iterate 7 (constructor; have skip_ := trivial; rotate_left)
    constructor; rotate_left
    · trivial
    all_goals (
     intro y w' hS hF K hK
     have eF := trivial
     repeat (obtain ⟨f1, hF⟩ := hF; replace eF := And.intro (show y _ = _ from f1) eF; clear f1)
     first
      | simp only [fillL, rl0StoreOkI, rl1StoreOkI, rl2StoreOkI, cond_true, cond_false, zG0, zG1, StP.is, Act.put, zS2, zS0, zS1, Nat.reduceAdd, eF] at hK ⊢
      | simp only [fillL, rl0StoreOkI, rl1StoreOkI, rl2StoreOkI, cond_true, cond_false, zG0, zG1, StP.is, Act.put, zS2, zS0, zS1, Nat.reduceAdd] at hK ⊢
     clear eF hF
     first
      | (clear skip_; refine rg_no (by kernel_rfl) ?_; exact hK _ _ (Ext.refl _) rfl)
      | (refine rg_yes (by kernel_rfl) ?_
         try (clear ld_; have qx0_ := (Below.cell hS l1).trans b0; have qx1_ := (Below.cell hS l1).trans b1; have qx2_ := (Below.cell hS l1).trans b2; have qx3_ := (Below.cell hS l1).trans b3; have qx4_ := (Below.cell hS l1).trans b4; have qx5_ := (Below.cell hS l1).trans b5; have qx6_ := (Below.cell hS l1).trans b6; have qx7_ := (Below.cell hS l1).trans b7)
         go_simp
         first
          | (go_at_call 65
             refine (spaceOk_any _ _ _ _ _ _ refs last _ (HWI.out w' hS).1 (HWI.out w' hS).2).mono ?_
             rw [E1.out]
             rintro e w'' ⟨rfl, hb⟩
             exact hK _ _ hb rfl)
          | (go_at_call 61
             refine (within_any _ _ _ _).mono ?_
             rw [E2.out]
             rintro e w'' ⟨rfl, rfl⟩
             exact hK _ _ (Ext.refl _) rfl)
          | (go_at_call 61
             refine (within_any _ _ _ _).mono ?_
             rw [E3.out]
             rintro e w'' ⟨rfl, rfl⟩
             exact hK _ _ (Ext.refl _) rfl)
          | (go_at_call 66
             refine (maxI_any _ _ _ last _ (HWI.out w' hS).2 (by omega)).mono ?_
             rw [E4.out]
             rintro e w'' ⟨rfl, rfl⟩
             exact hK _ _ (Ext.refl _) rfl)
          | exact hK _ _ (Ext.refl _) rfl))
   intro y w2 hX hF
   have e42 : y 42 = _ := hF.2.2.2.2.2.2.2.2.2.2.2.2.2.2.2.2.2.2.2.2.2.2.2.2.2.2.2.2.2.2.2.2.2.1
   clear hF
   simp only [fillL, rl0StoreOkI, rl1StoreOkI, rl2StoreOkI, cond_true, cond_false, Nat.reduceAdd, e42]
   clear e42 b0 b1 b2 b3 b4 b5 b6 b7
   have HB2 : Hid (Below w1.heap.size w1 w2) := Lib.hid hX
   have HB3 : Hid (Below w.heap.size w w2) := Lib.hid (HB1.out.trans (Below.mono hX HB1.out.size))
   clear hX
   go_wp2_with fail
   go_ret
   exact ⟨ret_bool (HBAD.out (fun h => by have h_ : inB txg 1 900 = true := h.txg; rw [E2.out] at h_; cases h_)), HB3.out⟩
 have E2 := Lib.hid e2; clear e2
 have ht : 1 ≤ txg ∧ txg ≤ 900 := by have := E2.out; unfold inB at this; simpa using this
 have nt : IntKind.i64.wrap (txg - 1) = txg - 1 := IntWalk.i64_in _ (by omega)
 cases e3 : inB keep 0 (txg - 1)
 · have E3 := Lib.hid e3
   have b0 := celR 0 HBX.out; have b1 := celR 1 HBX.out; have b2 := celR 2 HBX.out; have b3 := celR 3 HBX.out; have b4 := celR 4 HBX.out; have b5 := celR 5 HBX.out; have b6 := celR 6 HBX.out; have b7 := celR 7 HBX.out
   go_wp2_with fail
   apply wp_region_rg (by kernel_rfl) rl0StoreOkI rl1StoreOkI rl2StoreOkI (StP.is _ :: StP.is _ :: StP.is _ :: StP.is _ :: StP.is _ :: StP.is _ :: StP.is _ :: StP.is _ :: StP.is _ :: StP.is _ :: StP.is _ :: StP.is _ :: StP.is _ :: StP.is _ :: StP.is _ :: StP.is _ :: StP.is _ :: StP.is _ :: StP.is _ :: StP.is _ :: StP.is _ :: StP.is _ :: StP.is _ :: StP.is _ :: StP.is _ :: StP.is _ :: StP.is _ :: StP.is _ :: StP.is _ :: StP.is _ :: StP.is _ :: StP.is _ :: StP.is _ :: StP.is _ :: []) (by kernel_rfl)
   case hobs =>
    constructor; rotate_left
    iterate 2 (constructor; have ld_ := trivial; rotate_left)
    iterate 3 (constructor; rotate_left)
    constructor; have ld_ := trivial; rotate_left
    iterate 5 (constructor; rotate_left)
    constructor; have ld_ := trivial; rotate_left
    iterate 5 (constructor; rotate_left)
    constructor; have ld_ := trivial; rotate_left
    constructor; rotate_left
    constructor; have ld_ := trivial; rotate_left
    iterate 5 (constructor; rotate_left)
    iterate 7 (constructor; have skip_ := trivial; rotate_left)
    constructor; rotate_left
    · trivial
    all_goals (
     intro y w' hS hF K hK
     have eF := trivial
     repeat (obtain ⟨f1, hF⟩ := hF; replace eF := And.intro (show y _ = _ from f1) eF; clear f1)
     first
      | simp only [fillL, rl0StoreOkI, rl1StoreOkI, rl2StoreOkI, cond_true, cond_false, zG0, zG1, StP.is, Act.put, zS2, zS0, zS1, Nat.reduceAdd, eF] at hK ⊢
      | simp only [fillL, rl0StoreOkI, rl1StoreOkI, rl2StoreOkI, cond_true, cond_false, zG0, zG1, StP.is, Act.put, zS2, zS0, zS1, Nat.reduceAdd] at hK ⊢
     clear eF hF
     first
      | (clear skip_; refine rg_no (by kernel_rfl) ?_; exact hK _ _ (Ext.refl _) rfl)
      | (refine rg_yes (by kernel_rfl) ?_
         try (clear ld_; have qx0_ := (Below.cell hS l1).trans b0; have qx1_ := (Below.cell hS l1).trans b1; have qx2_ := (Below.cell hS l1).trans b2; have qx3_ := (Below.cell hS l1).trans b3; have qx4_ := (Below.cell hS l1).trans b4; have qx5_ := (Below.cell hS l1).trans b5; have qx6_ := (Below.cell hS l1).trans b6; have qx7_ := (Below.cell hS l1).trans b7)
         go_simp
         first
          | (go_at_call 65
             refine (spaceOk_any _ _ _ _ _ _ refs last _ (HWI.out w' hS).1 (HWI.out w' hS).2).mono ?_
             rw [E1.out]
             rintro e w'' ⟨rfl, hb⟩
             exact hK _ _ hb rfl)
          | (go_at_call 61
             refine (within_any _ _ _ _).mono ?_
             rw [E2.out]
             rintro e w'' ⟨rfl, rfl⟩
             exact hK _ _ (Ext.refl _) rfl)
          | (go_at_call 61
             refine (within_any _ _ _ _).mono ?_
             rw [E3.out]
             rintro e w'' ⟨rfl, rfl⟩
             exact hK _ _ (Ext.refl _) rfl)
          | (go_at_call 66
             refine (maxI_any _ _ _ last _ (HWI.out w' hS).2 (by omega)).mono ?_
             rw [E4.out]
             rintro e w'' ⟨rfl, rfl⟩
             exact hK _ _ (Ext.refl _) rfl)
          | exact hK _ _ (Ext.refl _) rfl))
   intro y w2 hX hF
   have e42 : y 42 = _ := hF.2.2.2.2.2.2.2.2.2.2.2.2.2.2.2.2.2.2.2.2.2.2.2.2.2.2.2.2.2.2.2.2.2.1
   clear hF
   simp only [fillL, rl0StoreOkI, rl1StoreOkI, rl2StoreOkI, cond_true, cond_false, Nat.reduceAdd, e42]
   clear e42 b0 b1 b2 b3 b4 b5 b6 b7
   have HB2 : Hid (Below w1.heap.size w1 w2) := Lib.hid hX
   have HB3 : Hid (Below w.heap.size w w2) := Lib.hid (HB1.out.trans (Below.mono hX HB1.out.size))
   clear hX
   go_wp2_with fail
   go_ret
   exact ⟨ret_bool (HBAD.out (fun h => by have h_ : inB keep 0 (txg - 1) = true := h.keep; rw [E3.out] at h_; cases h_)), HB3.out⟩
 have E3 := Lib.hid e3; clear e3
 have hkp : 0 ≤ keep ∧ keep ≤ txg - 1 := by have := E3.out; unfold inB at this; simpa using this
 obtain ⟨M, hM⟩ : ∃ M, maxI last = M := ⟨_, rfl⟩
 have E4 := Lib.hid hM; clear hM
 by_cases h5 : txg < M
 · have d5 : decide (txg < M) = true := by simp [h5]
   have b0 := celR 0 HBX.out; have b1 := celR 1 HBX.out; have b2 := celR 2 HBX.out; have b3 := celR 3 HBX.out; have b4 := celR 4 HBX.out; have b5 := celR 5 HBX.out; have b6 := celR 6 HBX.out; have b7 := celR 7 HBX.out
   go_wp2_with fail
   apply wp_region_rg (by kernel_rfl) rl0StoreOkI rl1StoreOkI rl2StoreOkI (StP.is _ :: StP.is _ :: StP.is _ :: StP.is _ :: StP.is _ :: StP.is _ :: StP.is _ :: StP.is _ :: StP.is _ :: StP.is _ :: StP.is _ :: StP.is _ :: StP.is _ :: StP.is _ :: StP.is _ :: StP.is _ :: StP.is _ :: StP.is _ :: StP.is _ :: StP.is _ :: StP.is _ :: StP.is _ :: StP.is _ :: StP.is _ :: StP.is _ :: StP.is _ :: StP.is _ :: StP.is _ :: StP.is _ :: StP.is _ :: StP.is _ :: StP.is _ :: StP.is _ :: StP.is _ :: []) (by kernel_rfl)
   case hobs =>
    constructor; rotate_left
    iterate 2 (constructor; have ld_ := trivial; rotate_left)
    iterate 3 (constructor; rotate_left)
    constructor; have ld_ := trivial; rotate_left
    iterate 5 (constructor; rotate_left)
    constructor; have ld_ := trivial; rotate_left
    iterate 5 (constructor; rotate_left)
    constructor; have ld_ := trivial; rotate_left
    constructor; rotate_left
    constructor; have ld_ := trivial; rotate_left
    iterate 7 (constructor; rotate_left)
    constructor; have ld_ := trivial; rotate_left
    iterate 2 (constructor; rotate_left)
    constructor; have ld_ := trivial; rotate_left
    iterate 2 (constructor; rotate_left)
    · trivial
    all_goals (
     intro y w' hS hF K hK
     have eF := trivial
     repeat (obtain ⟨f1, hF⟩ := hF; replace eF := And.intro (show y _ = _ from f1) eF; clear f1)
     first
      | simp only [fillL, rl0StoreOkI, rl1StoreOkI, rl2StoreOkI, cond_true, cond_false, zG0, zG1, StP.is, Act.put, zS2, zS0, zS1, Nat.reduceAdd, eF] at hK ⊢
      | simp only [fillL, rl0StoreOkI, rl1StoreOkI, rl2StoreOkI, cond_true, cond_false, zG0, zG1, StP.is, Act.put, zS2, zS0, zS1, Nat.reduceAdd] at hK ⊢
     clear eF hF
     first
      | (refine rg_yes (by kernel_rfl) ?_
         try (clear ld_; have qx0_ := (Below.cell hS l1).trans b0; have qx1_ := (Below.cell hS l1).trans b1; have qx2_ := (Below.cell hS l1).trans b2; have qx3_ := (Below.cell hS l1).trans b3; have qx4_ := (Below.cell hS l1).trans b4; have qx5_ := (Below.cell hS l1).trans b5; have qx6_ := (Below.cell hS l1).trans b6; have qx7_ := (Below.cell hS l1).trans b7)
         go_simp
         first
          | (go_at_call 65
             refine (spaceOk_any _ _ _ _ _ _ refs last _ (HWI.out w' hS).1 (HWI.out w' hS).2).mono ?_
             rw [E1.out]
             rintro e w'' ⟨rfl, hb⟩
             exact hK _ _ hb rfl)
          | (go_at_call 61
             refine (within_any _ _ _ _).mono ?_
             rw [E2.out]
             rintro e w'' ⟨rfl, rfl⟩
             exact hK _ _ (Ext.refl _) rfl)
          | (go_at_call 61
             refine (within_any _ _ _ _).mono ?_
             rw [E3.out]
             rintro e w'' ⟨rfl, rfl⟩
             exact hK _ _ (Ext.refl _) rfl)
          | (go_at_call 66
             refine (maxI_any _ _ _ last _ (HWI.out w' hS).2 (by omega)).mono ?_
             rw [E4.out]
             rintro e w'' ⟨rfl, rfl⟩
             exact hK _ _ (Ext.refl _) rfl)
          | exact hK _ _ (Ext.refl _) rfl))
   intro y w2 hX hF
   have e42 : y 42 = _ := hF.2.2.2.2.2.2.2.2.2.2.2.2.2.2.2.2.2.2.2.2.2.2.2.2.2.2.2.2.2.2.2.2.2.1
   clear hF
   simp only [fillL, rl0StoreOkI, rl1StoreOkI, rl2StoreOkI, cond_true, cond_false, Nat.reduceAdd, e42]
   clear e42 b0 b1 b2 b3 b4 b5 b6 b7
   have HB2 : Hid (Below w1.heap.size w1 w2) := Lib.hid hX
   have HB3 : Hid (Below w.heap.size w w2) := Lib.hid (HB1.out.trans (Below.mono hX HB1.out.size))
   clear hX
   go_wp2_with fail
   go_ret
   exact ⟨ret_bool (HBAD.out (fun h => by have h_ : ∀ i, i < 64 → last.getD i 0 ≤ txg := h.last; have := (maxI_le (xs := last) (by rw [L2.out]; omega) txg).2 (fun i hi => h_ i (by rw [L2.out] at hi; exact hi)); rw [E4.out] at this; omega)), HB3.out⟩
 have HLAST : Hid (∀ i, i < 64 → last.getD i 0 ≤ txg) := Lib.hid (fun i hi => (maxI_le (xs := last) (by rw [L2.out]; omega) txg).1 (by rw [E4.out]; omega) i (by rw [L2.out]; exact hi))
 have b0 := celR 0 HBX.out; have b1 := celR 1 HBX.out; have b2 := celR 2 HBX.out; have b3 := celR 3 HBX.out; have b4 := celR 4 HBX.out; have b5 := celR 5 HBX.out; have b6 := celR 6 HBX.out; have b7 := celR 7 HBX.out
 go_wp2_with fail
 apply wp_region_rg (by kernel_rfl) rl0StoreOkI rl1StoreOkI rl2StoreOkI (StP.is _ :: StP.is _ :: StP.is _ :: StP.is _ :: StP.is _ :: StP.is _ :: StP.is _ :: StP.is _ :: StP.is _ :: StP.is _ :: StP.is _ :: StP.is _ :: StP.is _ :: StP.is _ :: StP.is _ :: StP.is _ :: StP.is _ :: StP.is _ :: StP.is _ :: StP.is _ :: StP.is _ :: StP.is _ :: StP.is _ :: StP.is _ :: StP.is _ :: StP.is _ :: StP.is _ :: StP.is _ :: StP.is _ :: StP.is _ :: StP.is _ :: StP.is _ :: StP.is _ :: StP.is _ :: []) (by kernel_rfl)
 case hobs =>
  constructor; rotate_left
  iterate 2 (constructor; have ld_ := trivial; rotate_left)
  iterate 3 (constructor; rotate_left)
  constructor; have ld_ := trivial; rotate_left
  iterate 5 (constructor; rotate_left)
  constructor; have ld_ := trivial; rotate_left
  iterate 5 (constructor; rotate_left)
  constructor; have ld_ := trivial; rotate_left
  constructor; rotate_left
  constructor; have ld_ := trivial; rotate_left
  iterate 7 (constructor; rotate_left)
  constructor; have ld_ := trivial; rotate_left
  iterate 2 (constructor; rotate_left)
  constructor; have ld_ := trivial; rotate_left
  iterate 2 (constructor; rotate_left)
  · trivial
  all_goals (
   intro y w' hS hF K hK
   have eF := trivial
   repeat (obtain ⟨f1, hF⟩ := hF; replace eF := And.intro (show y _ = _ from f1) eF; clear f1)
   first
    | simp only [fillL, rl0StoreOkI, rl1StoreOkI, rl2StoreOkI, cond_true, cond_false, zG0, zG1, StP.is, Act.put, zS2, zS0, zS1, Nat.reduceAdd, eF] at hK ⊢
    | simp only [fillL, rl0StoreOkI, rl1StoreOkI, rl2StoreOkI, cond_true, cond_false, zG0, zG1, StP.is, Act.put, zS2, zS0, zS1, Nat.reduceAdd] at hK ⊢
   clear eF hF
   first
    | (refine rg_yes (by kernel_rfl) ?_
       try (clear ld_; have qx0_ := (Below.cell hS l1).trans b0; have qx1_ := (Below.cell hS l1).trans b1; have qx2_ := (Below.cell hS l1).trans b2; have qx3_ := (Below.cell hS l1).trans b3; have qx4_ := (Below.cell hS l1).trans b4; have qx5_ := (Below.cell hS l1).trans b5; have qx6_ := (Below.cell hS l1).trans b6; have qx7_ := (Below.cell hS l1).trans b7)
       go_simp
       first
        | (go_at_call 65
           refine (spaceOk_any _ _ _ _ _ _ refs last _ (HWI.out w' hS).1 (HWI.out w' hS).2).mono ?_
           rw [E1.out]
           rintro e w'' ⟨rfl, hb⟩
           exact hK _ _ hb rfl)
        | (go_at_call 61
           refine (within_any _ _ _ _).mono ?_
           rw [E2.out]
           rintro e w'' ⟨rfl, rfl⟩
           exact hK _ _ (Ext.refl _) rfl)
        | (go_at_call 61
           refine (within_any _ _ _ _).mono ?_
           rw [E3.out]
           rintro e w'' ⟨rfl, rfl⟩
           exact hK _ _ (Ext.refl _) rfl)
        | (go_at_call 66
           refine (maxI_any _ _ _ last _ (HWI.out w' hS).2 (by omega)).mono ?_
           rw [E4.out]
           rintro e w'' ⟨rfl, rfl⟩
           exact hK _ _ (Ext.refl _) rfl)
        | exact hK _ _ (Ext.refl _) rfl))
 intro y w2 hX hF
 have e42 : y 42 = _ := hF.2.2.2.2.2.2.2.2.2.2.2.2.2.2.2.2.2.2.2.2.2.2.2.2.2.2.2.2.2.2.2.2.2.1
 clear hF
 simp only [fillL, rl0StoreOkI, rl1StoreOkI, rl2StoreOkI, cond_true, cond_false, Nat.reduceAdd, e42]
 clear e42 b0 b1 b2 b3 b4 b5 b6 b7
 have HB2 : Hid (Below w1.heap.size w1 w2) := Lib.hid hX
 have HB3 : Hid (Below w.heap.size w w2) := Lib.hid (HB1.out.trans (Below.mono hX HB1.out.size))
 clear hX
 have HBX2 : Hid (w2.heap[w.heap.size]? = some (.cells #[.slice A0 64 c0, .slice A1 64 c1, .slice A2 64 c2, .int .i64 txg, .slice A3 n3 c3, .int .i64 keep, .slice A4 n4 c4, .bool same] 39 (0, 0))) := Lib.hid ((HB2.out.block _ l1).trans HBX.out)
 have b0 := celR 0 HBX2.out
 have l2 : w.heap.size < w2.heap.size := (Array.getElem?_eq_some_iff.1 HBX2.out).1
 have HI1 := Lib.hid (HWI.out w2 HB2.out).1
 have HR0 := Lib.hid (H0.out.below HB3.out (StrR.below HB3.out H0.out.lo_le))
 go_wp2_with fail
 go_loopw [46] (fun i wr => ∃ k : Nat, k ≤ 64 ∧ i = .int .i64 (k : Int) ∧ Hid (∀ j, j < k → rowT (refs.getD j 0) (rows.getD j ByteArray.empty)) ∧ SameW wr w2) (fun i _ => 64 - (intOf i).toNat)
 case atStart => exact ⟨0, Nat.zero_le _, rfl, Lib.hid (fun j hj => absurd hj (by omega)), SameW.refl _⟩
 obtain ⟨k, hk, rfl, HT, HW⟩ := hrel
 obtain rfl := HW.out
 clear HW
 by_cases hlt : k < 64
 · obtain ⟨s, hs⟩ : ∃ s, rows[k]? = some s := ⟨rows[k]'(by rw [L0.out]; exact hlt), List.getElem?_eq_getElem _⟩
   obtain ⟨b, off, rfl, _, _, bl, hc⟩ := HR0.out.at_ (show 0 < 64 by omega)
   obtain ⟨cs, hcl, hcc, hr⟩ := hc k s hs
   obtain ⟨rfl, hm⟩ := hr
   have v0 := hcc 0 _ rfl
   simp only [Nat.add_zero, Nat.mul_one] at v0
   unfold maxLen at hm
   obtain ⟨g1, o1, rfl, lg1, hcr⟩ := HI1.out.at_ (show 0 < 64 by omega)
   have r0 := hcr k hlt
   have hsd : rows.getD k ByteArray.empty = s := by rw [List.getD_eq_getElem?_getD, hs]; rfl
   have HSD := Lib.hid hsd
   obtain ⟨rv, hrv⟩ : ∃ r, r = refs.getD k 0 := ⟨_, rfl⟩
   rw [← hrv] at r0
   have b1 := celR 1 HBX2.out
   have k0 : (0 : Int) ≤ (k : Int) := by omega
   have k1 : (k : Int) < 64 := by omega
   have hbad : ¬ rowT rv s → false = res := fun hn => HBAD.out (fun h => hn (by have h_ := h.rows k hlt; rw [hrv]; have e_ : rows.getD k ByteArray.empty = s := hsd; rw [← e_]; exact h_))
   have hok : rowT rv s → Hid (∀ j, j < k + 1 → rowT (refs.getD j 0) (rows.getD j ByteArray.empty)) := fun hn => Lib.hid (fun j hj => by
    rcases Nat.lt_or_ge j k with hjk | hjk
    · exact HT.out j hjk
    · obtain rfl : j = k := by omega
      rw [hsd, ← hrv]; exact hn)
   have HBD := Lib.hid hbad; have HOK := Lib.hid hok
   clear hbad hok hrv hsd hcr hcc hcl hc hs
   by_cases z1 : 128 < s.size
   · have z2 : (128 : Int) < (s.size : Int) := by omega
     go_wp2_with fail
     go_ret
     exact ⟨ret_bool (HBD.out (fun h => by unfold rowT at h; omega)), HB3.out⟩
   have z2 : ¬ (128 : Int) < (s.size : Int) := by omega
   by_cases z3 : s.size = 0
   · obtain rfl := str_nil z3
     by_cases z4 : rv = 0
     · subst z4
       have HN := HOK.out ⟨by show (0 : Nat) ≤ 128; omega, ⟨fun _ => rfl, fun _ => rfl⟩⟩
       clear HBD HOK z3
       go_wp2_with fail
       go_roundw
       case rel => exact ⟨k + 1, by omega, by go_num, HN, SameW.refl _⟩
       simp [intOf]; omega
     have z5 : (rv == 0) = false := by simpa using z4
     have HN := Lib.hid (HBD.out (fun h => z4 (h.2.1 rfl)))
     clear HBD HOK z3
     go_wp2_with fail
     go_ret
     exact ⟨ret_bool HN.out, HB3.out⟩
   have z6 := str_isE z3
   have z7 : (s.toList == []) = false := by cases hl : s.toList with
    | nil => exact absurd hl (str_ne0 z3)
    | cons _ _ => rfl
   by_cases z4 : rv = 0
   · subst z4
     have HN := Lib.hid (HBD.out (fun h => z3 (h.2.2 rfl)))
     clear HBD HOK
     go_wp2_with fail
     go_ret
     exact ⟨ret_bool HN.out, HB3.out⟩
   have z5 : (rv == 0) = false := by simpa using z4
   have HN := HOK.out ⟨by omega, ⟨fun h => absurd h z3, fun h => absurd h z4⟩⟩
   clear HBD HOK
   go_wp2_with fail
   go_roundw
   case rel => exact ⟨k + 1, by omega, by go_num, HN, SameW.refl _⟩
   simp [intOf]; omega
 obtain rfl : k = 64 := by omega
 have hmk := makeZ
 have H3w := Lib.hid (H3.out.upP HB3.out); have H4w := Lib.hid (H4.out.upP HB3.out)
 clear b0
 have b0 := celR 0 HBX2.out; have b1 := celR 1 HBX2.out; have b2 := celR 2 HBX2.out; have b3 := celR 3 HBX2.out; have b4 := celR 4 HBX2.out; have b5 := celR 5 HBX2.out; have b6 := celR 6 HBX2.out; have b7 := celR 7 HBX2.out
 obtain ⟨w5, hw5⟩ : ∃ W, W = (wr.alloc (.cells Z64 3)).alloc (.cells #[.slice (some ⟨wr.heap.size, 0, none⟩) 64 64] 23) := ⟨_, rfl⟩
 have HO5 : Hid (OwnI w5 wr.heap.size 64 64 z64) := Lib.hid (by rw [hw5]; exact (OwnI.new Z64_list Z64_max rfl Z64_size.symm).alloc _)
 have HB5 : Hid (Below wr.heap.size wr w5) := Lib.hid (by rw [hw5]; exact bel2)
 have HC5 : Hid (w5.heap[wr.heap.size + 1]? = some (.cells #[.slice (some ⟨wr.heap.size, 0, none⟩) 64 64] 23 (0, 0))) := Lib.hid (by rw [hw5]; have := heap_alloc_new (wr.alloc (.cells Z64 3)) (.cells #[.slice (some ⟨wr.heap.size, 0, none⟩) 64 64] 23); simpa using this)
 have HX5 : Hid (w5.heap[w.heap.size]? = some (.cells #[.slice A0 64 c0, .slice A1 64 c1, .slice A2 64 c2, .int .i64 txg, .slice A3 n3 c3, .int .i64 keep, .slice A4 n4 c4, .bool same] 39 (0, 0))) := Lib.hid ((HB5.out.block _ l2).trans HBX2.out)
 have HBw5 : Hid (Below w.heap.size w w5) := Lib.hid (HB3.out.trans (HB5.out.mono HB3.out.size))
 have hL3 : ∀ W, Chg (· ∈ [wr.heap.size]) w5 W → SliceR PtrR 5 W lo hi A3 n3 c3 gone := fun W hc => (H3.out.upP (HBw5.out.trans (hc.below (fun k _ hk => by simp at hk; subst hk; exact HB3.out.size) HBw5.out.size)))
 have hL4 : ∀ W, Chg (· ∈ [wr.heap.size]) w5 W → SliceR PtrR 5 W lo hi A4 n4 c4 dead := fun W hc => (H4.out.upP (HBw5.out.trans (hc.below (fun k _ hk => by simp at hk; subst hk; exact HB3.out.size) HBw5.out.size)))
 have hI5 : ∀ W, Chg (· ∈ [wr.heap.size]) w5 W → IntsAt W A1 64 refs := fun W hc => (H1.out.below (HBw5.out.trans (hc.below (fun k _ hk => by simp at hk; subst hk; exact HB3.out.size) HBw5.out.size)) (IntR.below (HBw5.out.trans (hc.below (fun k _ hk => by simp at hk; subst hk; exact HB3.out.size) HBw5.out.size)) H1.out.lo_le)).ints
 have HL3 := Lib.hid hL3; have HL4 := Lib.hid hL4; have HI5 := Lib.hid hI5
 clear hL3 hL4 hI5
 have nt2 := nt
 go_wp2_with fail
 rw [← hw5]
 clear hw5 b0 b1 b2 b3 b4 b5 b6 b7
 have b0 := celR 0 HX5.out; have b1 := celR 1 HX5.out; have b2 := celR 2 HX5.out; have b3 := celR 3 HX5.out; have b4 := celR 4 HX5.out; have b5 := celR 5 HX5.out; have b6 := celR 6 HX5.out; have b7 := celR 7 HX5.out; have l5 := (Array.getElem?_eq_some_iff.1 HX5.out).1; have l5b := (Array.getElem?_eq_some_iff.1 HC5.out).1
 go_wp2_with fail
 have hne1 : w.heap.size ≠ wr.heap.size := by omega
 have hne2 : wr.heap.size + 1 ≠ wr.heap.size := by omega
 refine (count_any w.heap.size (wr.heap.size + 1) wr.heap.size 64 A3 n3 c3 gone (txg - 1) A1 c1 refs z64 w5 lo hi HL3.out HI5.out (celR 1 HX5.out) (celR 0 HC5.out) HO5.out hne1 hne2 (fun i => by rw [z64_get]; omega) (by omega)).mono ?_
 rintro e w6 ⟨rfl, ho6, hc6⟩
 have HX6 := Lib.hid ((hc6.block w.heap.size l5 (by simpa using hne1)).trans HX5.out)
 have HC6 := Lib.hid ((hc6.block (wr.heap.size + 1) l5b (by simp)).trans HC5.out)
 have HBw6 := Lib.hid (HBw5.out.trans (hc6.below (fun k _ hk => by simp at hk; subst hk; exact HB3.out.size) HBw5.out.size))
 have HG6 := Lib.hid hc6; have HO6 := Lib.hid ho6
 clear hc6 ho6 b0 b1 b2 b3 b4 b5 b6 b7 l5 l5b
 cases ec : countB (txg - 1) refs gone
 · have EC := Lib.hid ec; clear ec
   go_wp2_with fail
   go_ret
   refine ⟨ret_bool (HBAD.out (fun h => ?_)), HBw6.out⟩
   have h_ := countB_of (top := txg - 1) (refs := refs) (ps := gone) (qs := dead) h.gone h.owed
   have h2_ := EC.out
   exact absurd (h_.symm.trans h2_) (by simp)
 have EC := Lib.hid ec; clear ec
 have HO6 := Lib.hid (HO6.out EC.out)
 have hrow := countB_row EC.out
 have hgo : ∀ i : Nat, (owe z64 gone).getD i 0 ≤ 2000000 ∧ -2000000 ≤ (owe z64 gone).getD i 0 := fun i => by
  rw [(owe_get (o := z64) (by simp [z64]) hrow).2, z64_get]
  have := cntP_len gone i
  rw [L3.out] at this
  omega
 have HGO := Lib.hid hgo; have HROW := Lib.hid hrow; clear hgo hrow
 have b0 := celR 0 HX6.out; have b1 := celR 1 HX6.out; have b2 := celR 2 HX6.out; have b3 := celR 3 HX6.out; have b4 := celR 4 HX6.out; have b5 := celR 5 HX6.out; have b6 := celR 6 HX6.out; have b7 := celR 7 HX6.out; have l5 := (Array.getElem?_eq_some_iff.1 HX6.out).1; have l5b := (Array.getElem?_eq_some_iff.1 HC6.out).1
 go_wp2_with fail
 refine (count_any w.heap.size (wr.heap.size + 1) wr.heap.size 64 A4 n4 c4 dead keep A1 c1 refs (owe z64 gone) w6 lo hi (fun W hc => HL4.out W (HG6.out.trans hc)) (fun W hc => HI5.out W (HG6.out.trans hc)) (celR 1 HX6.out) (celR 0 HC6.out) HO6.out hne1 hne2 HGO.out (by omega)).mono ?_
 rintro e w7 ⟨rfl, ho7, hc7⟩
 have HX7 := Lib.hid ((hc7.block w.heap.size l5 (by simpa using hne1)).trans HX6.out)
 have HC7 := Lib.hid ((hc7.block (wr.heap.size + 1) l5b (by simp)).trans HC6.out)
 have HBw7 := Lib.hid (HBw6.out.trans (hc7.below (fun k _ hk => by simp at hk; subst hk; exact HB3.out.size) HBw6.out.size))
 have HG7 := Lib.hid (HG6.out.trans hc7); have HO7 := Lib.hid ho7
 clear hc7 ho7 b0 b1 b2 b3 b4 b5 b6 b7 l5 l5b
 cases ed : countB keep refs dead
 · have ED := Lib.hid ed; clear ed
   go_wp2_with fail
   go_ret
   refine ⟨ret_bool (HBAD.out (fun h => ?_)), HBw7.out⟩
   have h0_ : ∀ i, i < 64 → ((cntP gone i + cntP dead i : Nat) : Int) ≤ refs.getD i 0 := h.owed
   have h_ := countB_of (top := keep) (refs := refs) (ps := dead) (qs := gone) h.dead (fun i hi => by have := h0_ i hi; omega)
   have h2_ := ED.out
   exact absurd (h_.symm.trans h2_) (by simp)
 have ED := Lib.hid ed; clear ed
 have HO7 := Lib.hid (HO7.out ED.out)
 have HOG := Lib.hid (owed_get HROW.out (countB_row ED.out))
 have HI7 := Lib.hid (HI5.out w7 HG7.out)
 have b0 := celR 0 HX7.out; have b1 := celR 1 HX7.out; have b2 := celR 2 HX7.out; have b3 := celR 3 HX7.out; have b4 := celR 4 HX7.out; have b5 := celR 5 HX7.out; have b6 := celR 6 HX7.out; have b7 := celR 7 HX7.out; have l5 := (Array.getElem?_eq_some_iff.1 HX7.out).1; have l5b := (Array.getElem?_eq_some_iff.1 HC7.out).1
 have d0 := celR 0 HC7.out
 go_wp2_with fail
 clear b0 b1 b2 b3 b4 b5 b6 b7 d0
 go_loopw [88] (fun i wz => ∃ k : Nat, k ≤ 64 ∧ i = .int .i64 (k : Int) ∧ Hid (∀ j, j < k → ((cntP gone j + cntP dead j : Nat) : Int) ≤ refs.getD j 0) ∧ SameW wz w7) (fun i _ => 64 - (intOf i).toNat)
 case atStart => exact ⟨0, Nat.zero_le _, rfl, Lib.hid (fun j hj => absurd hj (by omega)), SameW.refl _⟩
 obtain ⟨k, hk, rfl, HQ, HW⟩ := hrel
 obtain rfl := HW.out
 clear HW
 by_cases hlt : k < 64
 · have o0 := HO7.out.cell (j := k) hlt
   rw [HOG.out.2 k] at o0
   obtain ⟨ov, hov⟩ : ∃ v, v = ((cntP gone k + cntP dead k : Nat) : Int) := ⟨_, rfl⟩
   rw [← hov] at o0
   obtain ⟨g1, o1, rfl, lg1, hcr⟩ := HI7.out.at_ (show 0 < 64 by omega)
   have r0 := hcr k hlt
   obtain ⟨rv, hrv⟩ : ∃ r, r = refs.getD k 0 := ⟨_, rfl⟩
   rw [← hrv] at r0
   have b1 := celR 1 HX7.out
   have lg0 := HO7.out.lt
   have k0 : (0 : Int) ≤ (k : Int) := by omega
   have k1 : (k : Int) < 64 := by omega
   have HOV := Lib.hid hov; have HRV := Lib.hid hrv
   clear hov hrv hcr
   by_cases z1 : rv < ov
   · go_wp2_with fail
     go_ret
     refine ⟨ret_bool (HBAD.out (fun h => ?_)), HBw7.out⟩
     have h_ : ((cntP gone k + cntP dead k : Nat) : Int) ≤ refs.getD k 0 := h.owed k hlt
     rw [← HOV.out, ← HRV.out] at h_
     omega
   have HN : Hid (∀ j, j < k + 1 → ((cntP gone j + cntP dead j : Nat) : Int) ≤ refs.getD j 0) := Lib.hid (fun j hj => by
    rcases Nat.lt_or_ge j k with hjk | hjk
    · exact HQ.out j hjk
    · obtain rfl : j = k := by omega
      rw [← HOV.out, ← HRV.out]; omega)
   go_wp2_with fail
   go_roundw
   case rel => exact ⟨k + 1, by omega, by go_num, HN, SameW.refl _⟩
   simp [intOf]; omega
 obtain rfl : k = 64 := by omega
 go_wp2_with fail
 go_ret
 exact ⟨ret_bool (HYES.out ⟨L0.out, E1.out, E2.out, E3.out, HLAST.out, HT.out, countB_good EC.out, countB_good ED.out, HQ.out⟩), HBw7.out⟩
end Go.Proofs.YtjnhiiaejeaikaaGreatDoor
