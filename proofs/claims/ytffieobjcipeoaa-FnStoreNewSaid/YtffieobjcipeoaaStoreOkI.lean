/- StoreOk of the program. No condition. -/
import Derived.Test.YtffieobjcipeoaaStoreOk
import Derived.Test.YtffieobjcipeoaaSpaceNew
namespace Go.Proofs.Ytffieobjcipeoaa
set_option linter.unnecessarySimpa false
open Go.RowKit
set_option linter.unusedVariables false
set_option linter.unusedSimpArgs false
theorem SliceR.upP {w W : World} {lo hi : Nat} {A : Option Addr} {n c : Nat} {xs : List PtrD} (h : SliceR PtrR 5 w lo hi A n c xs) (hb : Below w.heap.size w W) : SliceR PtrR 5 W lo hi A n c xs := h.below hb (PtrR.below hb h.lo_le)
theorem z64_get (i : Nat) : z64.getD i 0 = 0 := by
  unfold z64
  rw [List.getD_eq_getElem?_getD, List.getElem?_replicate]
  split <;> rfl
/-- What is owed at the end of the counting. -/
theorem owed_get {xs ys : List PtrD} (h1 : ∀ p ∈ xs, 8 ≤ p.1 ∧ p.1 ≤ 63) (h2 : ∀ p ∈ ys, 8 ≤ p.1 ∧ p.1 ≤ 63) : (owe (owe z64 xs) ys).length = 64 ∧ ∀ i : Nat, (owe (owe z64 xs) ys).getD i 0 = ((cntP xs i + cntP ys i : Nat) : Int) := by
  obtain ⟨a1, a2⟩ := owe_get (o := z64) (by simp [z64]) h1
  obtain ⟨b1, b2⟩ := owe_get a1 h2
  refine ⟨b1, fun i => ?_⟩
  rw [b2, a2, z64_get]; push_cast; omega
theorem countB_good {top : Int} {refs : List Int} {ps : List PtrD} (h : countB top refs ps = true) : ∀ p ∈ ps, goodP top p = true := by
  unfold countB at h
  rw [List.all_eq_true] at h
  exact fun p hp => ((Bool.and_eq_true _ _).mp (h p hp)).1
theorem countB_row {top : Int} {refs : List Int} {ps : List PtrD} (h : countB top refs ps = true) : ∀ p ∈ ps, 8 ≤ p.1 ∧ p.1 ≤ 63 := fun p hp => (goodP_parts (countB_good h p hp)).2.2.2
theorem countB_of {top : Int} {refs : List Int} {ps qs : List PtrD} (h : ∀ p ∈ ps, goodP top p = true) (ho : ∀ i, i < 64 → ((cntP ps i + cntP qs i : Nat) : Int) ≤ refs.getD i 0) : countB top refs ps = true := by
  unfold countB
  rw [List.all_eq_true]
  intro p hp
  have hg := h p hp
  obtain ⟨-, -, -, h8, h63⟩ := goodP_parts hg
  rw [hg, Bool.true_and]
  have h1 := ho p.1.toNat (by omega)
  have h2 : 0 < cntP ps p.1.toNat := by unfold cntP; rw [List.countP_pos_iff]; exact ⟨p, hp, by simp; omega⟩
  have h3 : ¬ refs.getD p.1.toNat 0 = 0 := by omega
  simp only [decide_eq_false h3, Bool.not_false]
set_option maxRecDepth 100000 in
set_option maxHeartbeats 8000000 in
theorem storeOk_any (cs : List Value) (x : StoreD) (w : World) (lo hi : Nat) (h : StoreR w lo hi cs x) (hsz : x.2.2.2.1.length ≤ 2000000 ∧ x.2.2.2.2.2.1.length ≤ 2000000) :
    Calls Try.prog 14 #[.agg cs.toArray] w fun e w' => e = .returned (.bool (storeOk x)) ∧ Below w.heap.size w w' := by
  obtain ⟨rows, ⟨refs, last⟩, txg, gone, keep, dead, same⟩ := x
  obtain ⟨A0, n0, c0, A1, n1, c1, A2, n2, c2, A3, n3, c3, A4, n4, c4, rfl, h0, h1, h2, h3, h4⟩ := h
  obtain ⟨res, hres⟩ : ∃ r, r = storeOk (rows, (refs, last), txg, gone, keep, dead, same) := ⟨_, rfl⟩
  rw [← hres]
  have HBAD : Hid (¬ StoreOk (rows, (refs, last), txg, gone, keep, dead, same) → false = res) := Lib.hid (fun h => by rw [hres, storeOk_no h])
  have HYES : Hid (StoreOk (rows, (refs, last), txg, gone, keep, dead, same) → true = res) := Lib.hid (fun h => by rw [hres, storeOk_yes h])
  clear hres
  show Calls Try.prog 14 #[.agg #[.slice A0 n0 c0, .slice A1 n1 c1, .slice A2 n2 c2, .int .i64 txg, .slice A3 n3 c3, .int .i64 keep, .slice A4 n4 c4, .bool same]] w _
  have m0 := h0.max
  have L0 := Lib.hid h0.len; have L1 := Lib.hid h1.len; have L2 := Lib.hid h2.len; have L3 := Lib.hid h3.len; have L4 := Lib.hid h4.len
  have s3 : n3 ≤ 2000000 := by have := h3.len; have := hsz.1; simp at this; omega
  have s4 : n4 ≤ 2000000 := by have := h4.len; have := hsz.2; simp at this; omega
  have H0 := Lib.hid h0; have H1 := Lib.hid h1; have H2 := Lib.hid h2; have H3 := Lib.hid h3; have H4 := Lib.hid h4
  clear h0 h1 h2 h3 h4 hsz
  go_enter Try.func14, Try.ntmps14
  go_wp2_with fail
  obtain ⟨w1, hW⟩ : ∃ W, W = w.alloc (.cells #[.slice A0 n0 c0, .slice A1 n1 c1, .slice A2 n2 c2, .int .i64 txg, .slice A3 n3 c3, .int .i64 keep, .slice A4 n4 c4, .bool same] 30) := ⟨_, rfl⟩
  have HB1 : Hid (Below w.heap.size w w1) := Lib.hid (by rw [hW]; exact bel1)
  have HBX : Hid (w1.heap[w.heap.size]? = some (.cells #[.slice A0 n0 c0, .slice A1 n1 c1, .slice A2 n2 c2, .int .i64 txg, .slice A3 n3 c3, .int .i64 keep, .slice A4 n4 c4, .bool same] 30 (0, 0))) := Lib.hid (by rw [hW]; exact heap_alloc_new _ _)
  rw [← hW]; clear hW
  have l1 : w.heap.size < w1.heap.size := (Array.getElem?_eq_some_iff.1 HBX.out).1
  have hWI : ∀ W, Below w1.heap.size w1 W → IntsAt W A1 n1 refs ∧ IntsAt W A2 n2 last := fun W hb => by
    have hw : Below w.heap.size w W := HB1.out.trans (hb.mono HB1.out.size)
    exact ⟨(H1.out.below hw (IntR.below hw H1.out.lo_le)).ints, (H2.out.below hw (IntR.below hw H2.out.lo_le)).ints⟩
  have HWI := Lib.hid hWI; clear hWI
  by_cases q0 : n0 = 64
  rotate_left
  · have d0 : ((n0 : Int) != 64) = true := by simp; omega
    have b0 := cell_of_row _ _ 0 _ _ (0, 0) HBX.out; have b1 := cell_of_row _ _ 1 _ _ (0, 0) HBX.out; have b2 := cell_of_row _ _ 2 _ _ (0, 0) HBX.out; have b3 := cell_of_row _ _ 3 _ _ (0, 0) HBX.out; have b4 := cell_of_row _ _ 4 _ _ (0, 0) HBX.out; have b5 := cell_of_row _ _ 5 _ _ (0, 0) HBX.out; have b6 := cell_of_row _ _ 6 _ _ (0, 0) HBX.out; have b7 := cell_of_row _ _ 7 _ _ (0, 0) HBX.out
    go_wp2_with fail
    apply wp_region_rg (by kernel_rfl) (false :: false :: false :: false :: false :: false :: false :: false :: false :: true :: true :: true :: true :: true :: true :: true :: true :: true :: true :: true :: true :: true :: true :: true :: true :: true :: true :: true :: true :: true :: true :: true :: true :: true :: true :: true :: true :: true :: true :: true :: true :: true :: true :: false :: false :: false :: false :: false :: false :: false :: false :: false :: false :: false :: false :: false :: false :: false :: false :: false :: false :: false :: false :: false :: false :: false :: false :: false :: false :: false :: false :: false :: false :: false :: false :: false :: false :: false :: false :: false :: false :: false :: false :: false :: false :: false :: false :: false :: false :: false :: false :: false :: false :: false :: false :: false :: false :: false :: false :: false :: false :: false :: []) (some 9 :: some 10 :: some 11 :: some 12 :: some 13 :: some 14 :: some 15 :: some 16 :: some 17 :: some 18 :: some 19 :: some 20 :: some 21 :: some 22 :: some 23 :: some 24 :: some 25 :: some 26 :: some 27 :: some 28 :: some 29 :: some 30 :: some 31 :: some 32 :: some 33 :: some 34 :: some 35 :: some 36 :: some 37 :: some 38 :: some 39 :: some 40 :: some 41 :: some 42 :: []) ([] :: [0] :: [1] :: [2] :: [3] :: [4] :: [4, 5] :: [4, 6] :: [4, 7] :: [4, 8] :: [9] :: [10] :: [10, 11] :: [10, 12] :: [10, 13] :: [10, 14] :: [15] :: [16] :: [16, 17] :: [16] :: [16, 19] :: [16, 20] :: [16, 18, 21] :: [16, 22] :: [16, 23] :: [24] :: [25] :: [25, 26] :: [25, 27] :: [25, 28] :: [25] :: [25, 30] :: [25, 29, 31] :: [25, 32] :: []) (StP.is _ :: StP.is _ :: StP.is _ :: StP.is _ :: StP.is _ :: StP.is _ :: StP.is _ :: StP.is _ :: StP.is _ :: StP.is _ :: StP.is _ :: StP.is _ :: StP.is _ :: StP.is _ :: StP.is _ :: StP.is _ :: StP.is _ :: StP.is _ :: StP.is _ :: StP.is _ :: StP.is _ :: StP.is _ :: StP.is _ :: StP.is _ :: StP.is _ :: StP.is _ :: StP.is _ :: StP.is _ :: StP.is _ :: StP.is _ :: StP.is _ :: StP.is _ :: StP.is _ :: StP.is _ :: []) (by kernel_rfl)
    case hobs =>
      refine ⟨fun y w' hS hF K hK => ?_, ?_⟩
      · skip -- 0: fieldAddr
        simp only [fillL, cond_true, cond_false, List.getD_cons_zero, List.getD_cons_succ, StP.is, Act.put, List.setIfInBounds_toArray, List.set_cons_zero, List.set_cons_succ, Nat.reduceAdd] at hK ⊢
        refine rg_yes (by kernel_rfl) ?_
        clear hF
        go_simp
        exact hK _ _ (Ext.refl _) rfl
      refine ⟨fun y w' hS hF K hK => ?_, ?_⟩
      · skip -- 1: load
        have e9 : y 9 = _ := hF.1
        simp only [fillL, cond_true, cond_false, List.getD_cons_zero, List.getD_cons_succ, StP.is, Act.put, List.setIfInBounds_toArray, List.set_cons_zero, List.set_cons_succ, Nat.reduceAdd, e9] at hK ⊢
        refine rg_yes (by kernel_rfl) ?_
        have qx0_ := (Below.cell hS l1).trans b0
        have qx1_ := (Below.cell hS l1).trans b1
        have qx2_ := (Below.cell hS l1).trans b2
        have qx3_ := (Below.cell hS l1).trans b3
        have qx4_ := (Below.cell hS l1).trans b4
        have qx5_ := (Below.cell hS l1).trans b5
        have qx6_ := (Below.cell hS l1).trans b6
        have qx7_ := (Below.cell hS l1).trans b7
        clear e9
        clear hF
        go_simp
        exact hK _ _ (Ext.refl _) rfl
      refine ⟨fun y w' hS hF K hK => ?_, ?_⟩
      · skip -- 2: call
        have e10 : y 10 = _ := hF.1
        simp only [fillL, cond_true, cond_false, List.getD_cons_zero, List.getD_cons_succ, StP.is, Act.put, List.setIfInBounds_toArray, List.set_cons_zero, List.set_cons_succ, Nat.reduceAdd, e10] at hK ⊢
        refine rg_yes (by kernel_rfl) ?_
        have qx0_ := (Below.cell hS l1).trans b0
        have qx1_ := (Below.cell hS l1).trans b1
        have qx2_ := (Below.cell hS l1).trans b2
        have qx3_ := (Below.cell hS l1).trans b3
        have qx4_ := (Below.cell hS l1).trans b4
        have qx5_ := (Below.cell hS l1).trans b5
        have qx6_ := (Below.cell hS l1).trans b6
        have qx7_ := (Below.cell hS l1).trans b7
        clear e10
        clear hF
        go_simp
        exact hK _ _ (Ext.refl _) rfl
      refine ⟨fun y w' hS hF K hK => ?_, ?_⟩
      · skip -- 3: binOp
        have e11 : y 11 = _ := hF.1
        simp only [fillL, cond_true, cond_false, List.getD_cons_zero, List.getD_cons_succ, StP.is, Act.put, List.setIfInBounds_toArray, List.set_cons_zero, List.set_cons_succ, Nat.reduceAdd, e11] at hK ⊢
        refine rg_yes (by kernel_rfl) ?_
        clear e11
        clear hF
        go_simp
        exact hK _ _ (Ext.refl _) rfl
      refine ⟨fun y w' hS hF K hK => ?_, ?_⟩
      · skip -- 4: move
        have e12 : y 12 = _ := hF.1
        simp only [fillL, cond_true, cond_false, List.getD_cons_zero, List.getD_cons_succ, StP.is, Act.put, List.setIfInBounds_toArray, List.set_cons_zero, List.set_cons_succ, Nat.reduceAdd, e12] at hK ⊢
        refine rg_yes (by kernel_rfl) ?_
        clear e12
        clear hF
        go_simp
        exact hK _ _ (Ext.refl _) rfl
      refine ⟨fun y w' hS hF K hK => ?_, ?_⟩
      · skip -- 5: fieldAddr
        have e13 : y 13 = _ := hF.1
        simp only [fillL, cond_true, cond_false, List.getD_cons_zero, List.getD_cons_succ, StP.is, Act.put, List.setIfInBounds_toArray, List.set_cons_zero, List.set_cons_succ, Nat.reduceAdd, e13] at hK ⊢
        refine rg_no (by kernel_rfl) ?_
        exact hK _ _ (Ext.refl _) rfl
      refine ⟨fun y w' hS hF K hK => ?_, ?_⟩
      · skip -- 6: load
        have e13 : y 13 = _ := hF.1
        have e14 : y 14 = _ := hF.2.1
        simp only [fillL, cond_true, cond_false, List.getD_cons_zero, List.getD_cons_succ, StP.is, Act.put, List.setIfInBounds_toArray, List.set_cons_zero, List.set_cons_succ, Nat.reduceAdd, e13, e14] at hK ⊢
        refine rg_no (by kernel_rfl) ?_
        exact hK _ _ (Ext.refl _) rfl
      refine ⟨fun y w' hS hF K hK => ?_, ?_⟩
      · skip -- 7: call
        have e13 : y 13 = _ := hF.1
        have e15 : y 15 = _ := hF.2.1
        simp only [fillL, cond_true, cond_false, List.getD_cons_zero, List.getD_cons_succ, StP.is, Act.put, List.setIfInBounds_toArray, List.set_cons_zero, List.set_cons_succ, Nat.reduceAdd, e13, e15] at hK ⊢
        refine rg_no (by kernel_rfl) ?_
        exact hK _ _ (Ext.refl _) rfl
      refine ⟨fun y w' hS hF K hK => ?_, ?_⟩
      · skip -- 8: unOp
        have e13 : y 13 = _ := hF.1
        have e16 : y 16 = _ := hF.2.1
        simp only [fillL, cond_true, cond_false, List.getD_cons_zero, List.getD_cons_succ, StP.is, Act.put, List.setIfInBounds_toArray, List.set_cons_zero, List.set_cons_succ, Nat.reduceAdd, e13, e16] at hK ⊢
        refine rg_no (by kernel_rfl) ?_
        exact hK _ _ (Ext.refl _) rfl
      refine ⟨fun y w' hS hF K hK => ?_, ?_⟩
      · skip -- 9: pick
        have e13 : y 13 = _ := hF.1
        have e17 : y 17 = _ := hF.2.1
        simp only [fillL, cond_true, cond_false, List.getD_cons_zero, List.getD_cons_succ, StP.is, Act.put, List.setIfInBounds_toArray, List.set_cons_zero, List.set_cons_succ, Nat.reduceAdd, e13, e17] at hK ⊢
        refine rg_yes (by kernel_rfl) ?_
        clear e13 e17
        clear hF
        go_simp
        exact hK _ _ (Ext.refl _) rfl
      refine ⟨fun y w' hS hF K hK => ?_, ?_⟩
      · skip -- 10: move
        have e18 : y 18 = _ := hF.1
        simp only [fillL, cond_true, cond_false, List.getD_cons_zero, List.getD_cons_succ, StP.is, Act.put, List.setIfInBounds_toArray, List.set_cons_zero, List.set_cons_succ, Nat.reduceAdd, e18] at hK ⊢
        refine rg_yes (by kernel_rfl) ?_
        clear e18
        clear hF
        go_simp
        exact hK _ _ (Ext.refl _) rfl
      refine ⟨fun y w' hS hF K hK => ?_, ?_⟩
      · skip -- 11: fieldAddr
        have e19 : y 19 = _ := hF.1
        simp only [fillL, cond_true, cond_false, List.getD_cons_zero, List.getD_cons_succ, StP.is, Act.put, List.setIfInBounds_toArray, List.set_cons_zero, List.set_cons_succ, Nat.reduceAdd, e19] at hK ⊢
        refine rg_no (by kernel_rfl) ?_
        exact hK _ _ (Ext.refl _) rfl
      refine ⟨fun y w' hS hF K hK => ?_, ?_⟩
      · skip -- 12: load
        have e19 : y 19 = _ := hF.1
        have e20 : y 20 = _ := hF.2.1
        simp only [fillL, cond_true, cond_false, List.getD_cons_zero, List.getD_cons_succ, StP.is, Act.put, List.setIfInBounds_toArray, List.set_cons_zero, List.set_cons_succ, Nat.reduceAdd, e19, e20] at hK ⊢
        refine rg_no (by kernel_rfl) ?_
        exact hK _ _ (Ext.refl _) rfl
      refine ⟨fun y w' hS hF K hK => ?_, ?_⟩
      · skip -- 13: call
        have e19 : y 19 = _ := hF.1
        have e21 : y 21 = _ := hF.2.1
        simp only [fillL, cond_true, cond_false, List.getD_cons_zero, List.getD_cons_succ, StP.is, Act.put, List.setIfInBounds_toArray, List.set_cons_zero, List.set_cons_succ, Nat.reduceAdd, e19, e21] at hK ⊢
        refine rg_no (by kernel_rfl) ?_
        exact hK _ _ (Ext.refl _) rfl
      refine ⟨fun y w' hS hF K hK => ?_, ?_⟩
      · skip -- 14: unOp
        have e19 : y 19 = _ := hF.1
        have e22 : y 22 = _ := hF.2.1
        simp only [fillL, cond_true, cond_false, List.getD_cons_zero, List.getD_cons_succ, StP.is, Act.put, List.setIfInBounds_toArray, List.set_cons_zero, List.set_cons_succ, Nat.reduceAdd, e19, e22] at hK ⊢
        refine rg_no (by kernel_rfl) ?_
        exact hK _ _ (Ext.refl _) rfl
      refine ⟨fun y w' hS hF K hK => ?_, ?_⟩
      · skip -- 15: pick
        have e19 : y 19 = _ := hF.1
        have e23 : y 23 = _ := hF.2.1
        simp only [fillL, cond_true, cond_false, List.getD_cons_zero, List.getD_cons_succ, StP.is, Act.put, List.setIfInBounds_toArray, List.set_cons_zero, List.set_cons_succ, Nat.reduceAdd, e19, e23] at hK ⊢
        refine rg_yes (by kernel_rfl) ?_
        clear e19 e23
        clear hF
        go_simp
        exact hK _ _ (Ext.refl _) rfl
      refine ⟨fun y w' hS hF K hK => ?_, ?_⟩
      · skip -- 16: move
        have e24 : y 24 = _ := hF.1
        simp only [fillL, cond_true, cond_false, List.getD_cons_zero, List.getD_cons_succ, StP.is, Act.put, List.setIfInBounds_toArray, List.set_cons_zero, List.set_cons_succ, Nat.reduceAdd, e24] at hK ⊢
        refine rg_yes (by kernel_rfl) ?_
        clear e24
        clear hF
        go_simp
        exact hK _ _ (Ext.refl _) rfl
      refine ⟨fun y w' hS hF K hK => ?_, ?_⟩
      · skip -- 17: fieldAddr
        have e25 : y 25 = _ := hF.1
        simp only [fillL, cond_true, cond_false, List.getD_cons_zero, List.getD_cons_succ, StP.is, Act.put, List.setIfInBounds_toArray, List.set_cons_zero, List.set_cons_succ, Nat.reduceAdd, e25] at hK ⊢
        refine rg_no (by kernel_rfl) ?_
        exact hK _ _ (Ext.refl _) rfl
      refine ⟨fun y w' hS hF K hK => ?_, ?_⟩
      · skip -- 18: load
        have e25 : y 25 = _ := hF.1
        have e26 : y 26 = _ := hF.2.1
        simp only [fillL, cond_true, cond_false, List.getD_cons_zero, List.getD_cons_succ, StP.is, Act.put, List.setIfInBounds_toArray, List.set_cons_zero, List.set_cons_succ, Nat.reduceAdd, e25, e26] at hK ⊢
        refine rg_no (by kernel_rfl) ?_
        exact hK _ _ (Ext.refl _) rfl
      refine ⟨fun y w' hS hF K hK => ?_, ?_⟩
      · skip -- 19: fieldAddr
        have e25 : y 25 = _ := hF.1
        simp only [fillL, cond_true, cond_false, List.getD_cons_zero, List.getD_cons_succ, StP.is, Act.put, List.setIfInBounds_toArray, List.set_cons_zero, List.set_cons_succ, Nat.reduceAdd, e25] at hK ⊢
        refine rg_no (by kernel_rfl) ?_
        exact hK _ _ (Ext.refl _) rfl
      refine ⟨fun y w' hS hF K hK => ?_, ?_⟩
      · skip -- 20: load
        have e25 : y 25 = _ := hF.1
        have e28 : y 28 = _ := hF.2.1
        simp only [fillL, cond_true, cond_false, List.getD_cons_zero, List.getD_cons_succ, StP.is, Act.put, List.setIfInBounds_toArray, List.set_cons_zero, List.set_cons_succ, Nat.reduceAdd, e25, e28] at hK ⊢
        refine rg_no (by kernel_rfl) ?_
        exact hK _ _ (Ext.refl _) rfl
      refine ⟨fun y w' hS hF K hK => ?_, ?_⟩
      · skip -- 21: binOp
        have e25 : y 25 = _ := hF.1
        have e29 : y 29 = _ := hF.2.1
        simp only [fillL, cond_true, cond_false, List.getD_cons_zero, List.getD_cons_succ, StP.is, Act.put, List.setIfInBounds_toArray, List.set_cons_zero, List.set_cons_succ, Nat.reduceAdd, e25, e29] at hK ⊢
        refine rg_no (by kernel_rfl) ?_
        exact hK _ _ (Ext.refl _) rfl
      refine ⟨fun y w' hS hF K hK => ?_, ?_⟩
      · skip -- 22: call
        have e25 : y 25 = _ := hF.1
        have e27 : y 27 = _ := hF.2.1
        have e30 : y 30 = _ := hF.2.2.1
        simp only [fillL, cond_true, cond_false, List.getD_cons_zero, List.getD_cons_succ, StP.is, Act.put, List.setIfInBounds_toArray, List.set_cons_zero, List.set_cons_succ, Nat.reduceAdd, e25, e27, e30] at hK ⊢
        refine rg_no (by kernel_rfl) ?_
        exact hK _ _ (Ext.refl _) rfl
      refine ⟨fun y w' hS hF K hK => ?_, ?_⟩
      · skip -- 23: unOp
        have e25 : y 25 = _ := hF.1
        have e31 : y 31 = _ := hF.2.1
        simp only [fillL, cond_true, cond_false, List.getD_cons_zero, List.getD_cons_succ, StP.is, Act.put, List.setIfInBounds_toArray, List.set_cons_zero, List.set_cons_succ, Nat.reduceAdd, e25, e31] at hK ⊢
        refine rg_no (by kernel_rfl) ?_
        exact hK _ _ (Ext.refl _) rfl
      refine ⟨fun y w' hS hF K hK => ?_, ?_⟩
      · skip -- 24: pick
        have e25 : y 25 = _ := hF.1
        have e32 : y 32 = _ := hF.2.1
        simp only [fillL, cond_true, cond_false, List.getD_cons_zero, List.getD_cons_succ, StP.is, Act.put, List.setIfInBounds_toArray, List.set_cons_zero, List.set_cons_succ, Nat.reduceAdd, e25, e32] at hK ⊢
        refine rg_yes (by kernel_rfl) ?_
        clear e25 e32
        clear hF
        go_simp
        exact hK _ _ (Ext.refl _) rfl
      refine ⟨fun y w' hS hF K hK => ?_, ?_⟩
      · skip -- 25: move
        have e33 : y 33 = _ := hF.1
        simp only [fillL, cond_true, cond_false, List.getD_cons_zero, List.getD_cons_succ, StP.is, Act.put, List.setIfInBounds_toArray, List.set_cons_zero, List.set_cons_succ, Nat.reduceAdd, e33] at hK ⊢
        refine rg_yes (by kernel_rfl) ?_
        clear e33
        clear hF
        go_simp
        exact hK _ _ (Ext.refl _) rfl
      refine ⟨fun y w' hS hF K hK => ?_, ?_⟩
      · skip -- 26: fieldAddr
        have e34 : y 34 = _ := hF.1
        simp only [fillL, cond_true, cond_false, List.getD_cons_zero, List.getD_cons_succ, StP.is, Act.put, List.setIfInBounds_toArray, List.set_cons_zero, List.set_cons_succ, Nat.reduceAdd, e34] at hK ⊢
        refine rg_no (by kernel_rfl) ?_
        exact hK _ _ (Ext.refl _) rfl
      refine ⟨fun y w' hS hF K hK => ?_, ?_⟩
      · skip -- 27: fieldAddr
        have e34 : y 34 = _ := hF.1
        have e35 : y 35 = _ := hF.2.1
        simp only [fillL, cond_true, cond_false, List.getD_cons_zero, List.getD_cons_succ, StP.is, Act.put, List.setIfInBounds_toArray, List.set_cons_zero, List.set_cons_succ, Nat.reduceAdd, e34, e35] at hK ⊢
        refine rg_no (by kernel_rfl) ?_
        exact hK _ _ (Ext.refl _) rfl
      refine ⟨fun y w' hS hF K hK => ?_, ?_⟩
      · skip -- 28: load
        have e34 : y 34 = _ := hF.1
        have e36 : y 36 = _ := hF.2.1
        simp only [fillL, cond_true, cond_false, List.getD_cons_zero, List.getD_cons_succ, StP.is, Act.put, List.setIfInBounds_toArray, List.set_cons_zero, List.set_cons_succ, Nat.reduceAdd, e34, e36] at hK ⊢
        refine rg_no (by kernel_rfl) ?_
        exact hK _ _ (Ext.refl _) rfl
      refine ⟨fun y w' hS hF K hK => ?_, ?_⟩
      · skip -- 29: call
        have e34 : y 34 = _ := hF.1
        have e37 : y 37 = _ := hF.2.1
        simp only [fillL, cond_true, cond_false, List.getD_cons_zero, List.getD_cons_succ, StP.is, Act.put, List.setIfInBounds_toArray, List.set_cons_zero, List.set_cons_succ, Nat.reduceAdd, e34, e37] at hK ⊢
        refine rg_no (by kernel_rfl) ?_
        exact hK _ _ (Ext.refl _) rfl
      refine ⟨fun y w' hS hF K hK => ?_, ?_⟩
      · skip -- 30: fieldAddr
        have e34 : y 34 = _ := hF.1
        simp only [fillL, cond_true, cond_false, List.getD_cons_zero, List.getD_cons_succ, StP.is, Act.put, List.setIfInBounds_toArray, List.set_cons_zero, List.set_cons_succ, Nat.reduceAdd, e34] at hK ⊢
        refine rg_no (by kernel_rfl) ?_
        exact hK _ _ (Ext.refl _) rfl
      refine ⟨fun y w' hS hF K hK => ?_, ?_⟩
      · skip -- 31: load
        have e34 : y 34 = _ := hF.1
        have e39 : y 39 = _ := hF.2.1
        simp only [fillL, cond_true, cond_false, List.getD_cons_zero, List.getD_cons_succ, StP.is, Act.put, List.setIfInBounds_toArray, List.set_cons_zero, List.set_cons_succ, Nat.reduceAdd, e34, e39] at hK ⊢
        refine rg_no (by kernel_rfl) ?_
        exact hK _ _ (Ext.refl _) rfl
      refine ⟨fun y w' hS hF K hK => ?_, ?_⟩
      · skip -- 32: binOp
        have e34 : y 34 = _ := hF.1
        have e38 : y 38 = _ := hF.2.1
        have e40 : y 40 = _ := hF.2.2.1
        simp only [fillL, cond_true, cond_false, List.getD_cons_zero, List.getD_cons_succ, StP.is, Act.put, List.setIfInBounds_toArray, List.set_cons_zero, List.set_cons_succ, Nat.reduceAdd, e34, e38, e40] at hK ⊢
        refine rg_no (by kernel_rfl) ?_
        exact hK _ _ (Ext.refl _) rfl
      refine ⟨fun y w' hS hF K hK => ?_, ?_⟩
      · skip -- 33: pick
        have e34 : y 34 = _ := hF.1
        have e41 : y 41 = _ := hF.2.1
        simp only [fillL, cond_true, cond_false, List.getD_cons_zero, List.getD_cons_succ, StP.is, Act.put, List.setIfInBounds_toArray, List.set_cons_zero, List.set_cons_succ, Nat.reduceAdd, e34, e41] at hK ⊢
        refine rg_yes (by kernel_rfl) ?_
        clear e34 e41
        clear hF
        go_simp
        exact hK _ _ (Ext.refl _) rfl
      trivial
    case hend =>
      intro y w2 hX hF
      have e42 : y 42 = _ := hF.2.2.2.2.2.2.2.2.2.2.2.2.2.2.2.2.2.2.2.2.2.2.2.2.2.2.2.2.2.2.2.2.2.1
      clear hF
      simp only [fillL, cond_true, cond_false, Nat.reduceAdd, e42]
      clear e42 b0 b1 b2 b3 b4 b5 b6 b7
      have HB2 : Hid (Below w1.heap.size w1 w2) := Lib.hid hX
      have HB3 : Hid (Below w.heap.size w w2) := Lib.hid (HB1.out.trans (Below.mono hX HB1.out.size))
      clear hX
      go_wp2_with fail
      go_ret
      exact ⟨ret_bool (HBAD.out (fun h => q0 (by rw [← L0.out]; exact h.len))), HB3.out⟩
  subst q0
  cases e1 : spOk refs last
  · have E1 := Lib.hid e1
    have b0 := cell_of_row _ _ 0 _ _ (0, 0) HBX.out; have b1 := cell_of_row _ _ 1 _ _ (0, 0) HBX.out; have b2 := cell_of_row _ _ 2 _ _ (0, 0) HBX.out; have b3 := cell_of_row _ _ 3 _ _ (0, 0) HBX.out; have b4 := cell_of_row _ _ 4 _ _ (0, 0) HBX.out; have b5 := cell_of_row _ _ 5 _ _ (0, 0) HBX.out; have b6 := cell_of_row _ _ 6 _ _ (0, 0) HBX.out; have b7 := cell_of_row _ _ 7 _ _ (0, 0) HBX.out
    go_wp2_with fail
    apply wp_region_rg (by kernel_rfl) (false :: false :: false :: false :: false :: false :: false :: false :: false :: true :: true :: true :: true :: true :: true :: true :: true :: true :: true :: true :: true :: true :: true :: true :: true :: true :: true :: true :: true :: true :: true :: true :: true :: true :: true :: true :: true :: true :: true :: true :: true :: true :: true :: false :: false :: false :: false :: false :: false :: false :: false :: false :: false :: false :: false :: false :: false :: false :: false :: false :: false :: false :: false :: false :: false :: false :: false :: false :: false :: false :: false :: false :: false :: false :: false :: false :: false :: false :: false :: false :: false :: false :: false :: false :: false :: false :: false :: false :: false :: false :: false :: false :: false :: false :: false :: false :: false :: false :: false :: false :: false :: false :: []) (some 9 :: some 10 :: some 11 :: some 12 :: some 13 :: some 14 :: some 15 :: some 16 :: some 17 :: some 18 :: some 19 :: some 20 :: some 21 :: some 22 :: some 23 :: some 24 :: some 25 :: some 26 :: some 27 :: some 28 :: some 29 :: some 30 :: some 31 :: some 32 :: some 33 :: some 34 :: some 35 :: some 36 :: some 37 :: some 38 :: some 39 :: some 40 :: some 41 :: some 42 :: []) ([] :: [0] :: [1] :: [2] :: [3] :: [4] :: [4, 5] :: [4, 6] :: [4, 7] :: [4, 8] :: [9] :: [10] :: [10, 11] :: [10, 12] :: [10, 13] :: [10, 14] :: [15] :: [16] :: [16, 17] :: [16] :: [16, 19] :: [16, 20] :: [16, 18, 21] :: [16, 22] :: [16, 23] :: [24] :: [25] :: [25, 26] :: [25, 27] :: [25, 28] :: [25] :: [25, 30] :: [25, 29, 31] :: [25, 32] :: []) (StP.is _ :: StP.is _ :: StP.is _ :: StP.is _ :: StP.is _ :: StP.is _ :: StP.is _ :: StP.is _ :: StP.is _ :: StP.is _ :: StP.is _ :: StP.is _ :: StP.is _ :: StP.is _ :: StP.is _ :: StP.is _ :: StP.is _ :: StP.is _ :: StP.is _ :: StP.is _ :: StP.is _ :: StP.is _ :: StP.is _ :: StP.is _ :: StP.is _ :: StP.is _ :: StP.is _ :: StP.is _ :: StP.is _ :: StP.is _ :: StP.is _ :: StP.is _ :: StP.is _ :: StP.is _ :: []) (by kernel_rfl)
    case hobs =>
      refine ⟨fun y w' hS hF K hK => ?_, ?_⟩
      · skip -- 0: fieldAddr
        simp only [fillL, cond_true, cond_false, List.getD_cons_zero, List.getD_cons_succ, StP.is, Act.put, List.setIfInBounds_toArray, List.set_cons_zero, List.set_cons_succ, Nat.reduceAdd] at hK ⊢
        refine rg_yes (by kernel_rfl) ?_
        clear hF
        go_simp
        exact hK _ _ (Ext.refl _) rfl
      refine ⟨fun y w' hS hF K hK => ?_, ?_⟩
      · skip -- 1: load
        have e9 : y 9 = _ := hF.1
        simp only [fillL, cond_true, cond_false, List.getD_cons_zero, List.getD_cons_succ, StP.is, Act.put, List.setIfInBounds_toArray, List.set_cons_zero, List.set_cons_succ, Nat.reduceAdd, e9] at hK ⊢
        refine rg_yes (by kernel_rfl) ?_
        have qx0_ := (Below.cell hS l1).trans b0
        have qx1_ := (Below.cell hS l1).trans b1
        have qx2_ := (Below.cell hS l1).trans b2
        have qx3_ := (Below.cell hS l1).trans b3
        have qx4_ := (Below.cell hS l1).trans b4
        have qx5_ := (Below.cell hS l1).trans b5
        have qx6_ := (Below.cell hS l1).trans b6
        have qx7_ := (Below.cell hS l1).trans b7
        clear e9
        clear hF
        go_simp
        exact hK _ _ (Ext.refl _) rfl
      refine ⟨fun y w' hS hF K hK => ?_, ?_⟩
      · skip -- 2: call
        have e10 : y 10 = _ := hF.1
        simp only [fillL, cond_true, cond_false, List.getD_cons_zero, List.getD_cons_succ, StP.is, Act.put, List.setIfInBounds_toArray, List.set_cons_zero, List.set_cons_succ, Nat.reduceAdd, e10] at hK ⊢
        refine rg_yes (by kernel_rfl) ?_
        have qx0_ := (Below.cell hS l1).trans b0
        have qx1_ := (Below.cell hS l1).trans b1
        have qx2_ := (Below.cell hS l1).trans b2
        have qx3_ := (Below.cell hS l1).trans b3
        have qx4_ := (Below.cell hS l1).trans b4
        have qx5_ := (Below.cell hS l1).trans b5
        have qx6_ := (Below.cell hS l1).trans b6
        have qx7_ := (Below.cell hS l1).trans b7
        clear e10
        clear hF
        go_simp
        exact hK _ _ (Ext.refl _) rfl
      refine ⟨fun y w' hS hF K hK => ?_, ?_⟩
      · skip -- 3: binOp
        have e11 : y 11 = _ := hF.1
        simp only [fillL, cond_true, cond_false, List.getD_cons_zero, List.getD_cons_succ, StP.is, Act.put, List.setIfInBounds_toArray, List.set_cons_zero, List.set_cons_succ, Nat.reduceAdd, e11] at hK ⊢
        refine rg_yes (by kernel_rfl) ?_
        clear e11
        clear hF
        go_simp
        exact hK _ _ (Ext.refl _) rfl
      refine ⟨fun y w' hS hF K hK => ?_, ?_⟩
      · skip -- 4: move
        have e12 : y 12 = _ := hF.1
        simp only [fillL, cond_true, cond_false, List.getD_cons_zero, List.getD_cons_succ, StP.is, Act.put, List.setIfInBounds_toArray, List.set_cons_zero, List.set_cons_succ, Nat.reduceAdd, e12] at hK ⊢
        refine rg_yes (by kernel_rfl) ?_
        clear e12
        clear hF
        go_simp
        exact hK _ _ (Ext.refl _) rfl
      refine ⟨fun y w' hS hF K hK => ?_, ?_⟩
      · skip -- 5: fieldAddr
        have e13 : y 13 = _ := hF.1
        simp only [fillL, cond_true, cond_false, List.getD_cons_zero, List.getD_cons_succ, StP.is, Act.put, List.setIfInBounds_toArray, List.set_cons_zero, List.set_cons_succ, Nat.reduceAdd, e13] at hK ⊢
        refine rg_yes (by kernel_rfl) ?_
        clear e13
        clear hF
        go_simp
        exact hK _ _ (Ext.refl _) rfl
      refine ⟨fun y w' hS hF K hK => ?_, ?_⟩
      · skip -- 6: load
        have e13 : y 13 = _ := hF.1
        have e14 : y 14 = _ := hF.2.1
        simp only [fillL, cond_true, cond_false, List.getD_cons_zero, List.getD_cons_succ, StP.is, Act.put, List.setIfInBounds_toArray, List.set_cons_zero, List.set_cons_succ, Nat.reduceAdd, e13, e14] at hK ⊢
        refine rg_yes (by kernel_rfl) ?_
        have qx0_ := (Below.cell hS l1).trans b0
        have qx1_ := (Below.cell hS l1).trans b1
        have qx2_ := (Below.cell hS l1).trans b2
        have qx3_ := (Below.cell hS l1).trans b3
        have qx4_ := (Below.cell hS l1).trans b4
        have qx5_ := (Below.cell hS l1).trans b5
        have qx6_ := (Below.cell hS l1).trans b6
        have qx7_ := (Below.cell hS l1).trans b7
        clear e13 e14
        clear hF
        go_simp
        exact hK _ _ (Ext.refl _) rfl
      refine ⟨fun y w' hS hF K hK => ?_, ?_⟩
      · skip -- 7: call
        have e13 : y 13 = _ := hF.1
        have e15 : y 15 = _ := hF.2.1
        simp only [fillL, cond_true, cond_false, List.getD_cons_zero, List.getD_cons_succ, StP.is, Act.put, List.setIfInBounds_toArray, List.set_cons_zero, List.set_cons_succ, Nat.reduceAdd, e13, e15] at hK ⊢
        refine rg_yes (by kernel_rfl) ?_
        clear e13 e15
        clear hF
        go_simp
        go_at_call 46
        refine (spaceOk_any _ _ _ _ _ _ refs last _ (HWI.out w' hS).1 (HWI.out w' hS).2).mono ?_
        rw [E1.out]
        rintro e w'' ⟨rfl, hb⟩
        exact hK _ _ hb rfl
      refine ⟨fun y w' hS hF K hK => ?_, ?_⟩
      · skip -- 8: unOp
        have e13 : y 13 = _ := hF.1
        have e16 : y 16 = _ := hF.2.1
        simp only [fillL, cond_true, cond_false, List.getD_cons_zero, List.getD_cons_succ, StP.is, Act.put, List.setIfInBounds_toArray, List.set_cons_zero, List.set_cons_succ, Nat.reduceAdd, e13, e16] at hK ⊢
        refine rg_yes (by kernel_rfl) ?_
        clear e13 e16
        clear hF
        go_simp
        exact hK _ _ (Ext.refl _) rfl
      refine ⟨fun y w' hS hF K hK => ?_, ?_⟩
      · skip -- 9: pick
        have e13 : y 13 = _ := hF.1
        have e17 : y 17 = _ := hF.2.1
        simp only [fillL, cond_true, cond_false, List.getD_cons_zero, List.getD_cons_succ, StP.is, Act.put, List.setIfInBounds_toArray, List.set_cons_zero, List.set_cons_succ, Nat.reduceAdd, e13, e17] at hK ⊢
        refine rg_yes (by kernel_rfl) ?_
        clear e13 e17
        clear hF
        go_simp
        exact hK _ _ (Ext.refl _) rfl
      refine ⟨fun y w' hS hF K hK => ?_, ?_⟩
      · skip -- 10: move
        have e18 : y 18 = _ := hF.1
        simp only [fillL, cond_true, cond_false, List.getD_cons_zero, List.getD_cons_succ, StP.is, Act.put, List.setIfInBounds_toArray, List.set_cons_zero, List.set_cons_succ, Nat.reduceAdd, e18] at hK ⊢
        refine rg_yes (by kernel_rfl) ?_
        clear e18
        clear hF
        go_simp
        exact hK _ _ (Ext.refl _) rfl
      refine ⟨fun y w' hS hF K hK => ?_, ?_⟩
      · skip -- 11: fieldAddr
        have e19 : y 19 = _ := hF.1
        simp only [fillL, cond_true, cond_false, List.getD_cons_zero, List.getD_cons_succ, StP.is, Act.put, List.setIfInBounds_toArray, List.set_cons_zero, List.set_cons_succ, Nat.reduceAdd, e19] at hK ⊢
        refine rg_no (by kernel_rfl) ?_
        exact hK _ _ (Ext.refl _) rfl
      refine ⟨fun y w' hS hF K hK => ?_, ?_⟩
      · skip -- 12: load
        have e19 : y 19 = _ := hF.1
        have e20 : y 20 = _ := hF.2.1
        simp only [fillL, cond_true, cond_false, List.getD_cons_zero, List.getD_cons_succ, StP.is, Act.put, List.setIfInBounds_toArray, List.set_cons_zero, List.set_cons_succ, Nat.reduceAdd, e19, e20] at hK ⊢
        refine rg_no (by kernel_rfl) ?_
        exact hK _ _ (Ext.refl _) rfl
      refine ⟨fun y w' hS hF K hK => ?_, ?_⟩
      · skip -- 13: call
        have e19 : y 19 = _ := hF.1
        have e21 : y 21 = _ := hF.2.1
        simp only [fillL, cond_true, cond_false, List.getD_cons_zero, List.getD_cons_succ, StP.is, Act.put, List.setIfInBounds_toArray, List.set_cons_zero, List.set_cons_succ, Nat.reduceAdd, e19, e21] at hK ⊢
        refine rg_no (by kernel_rfl) ?_
        exact hK _ _ (Ext.refl _) rfl
      refine ⟨fun y w' hS hF K hK => ?_, ?_⟩
      · skip -- 14: unOp
        have e19 : y 19 = _ := hF.1
        have e22 : y 22 = _ := hF.2.1
        simp only [fillL, cond_true, cond_false, List.getD_cons_zero, List.getD_cons_succ, StP.is, Act.put, List.setIfInBounds_toArray, List.set_cons_zero, List.set_cons_succ, Nat.reduceAdd, e19, e22] at hK ⊢
        refine rg_no (by kernel_rfl) ?_
        exact hK _ _ (Ext.refl _) rfl
      refine ⟨fun y w' hS hF K hK => ?_, ?_⟩
      · skip -- 15: pick
        have e19 : y 19 = _ := hF.1
        have e23 : y 23 = _ := hF.2.1
        simp only [fillL, cond_true, cond_false, List.getD_cons_zero, List.getD_cons_succ, StP.is, Act.put, List.setIfInBounds_toArray, List.set_cons_zero, List.set_cons_succ, Nat.reduceAdd, e19, e23] at hK ⊢
        refine rg_yes (by kernel_rfl) ?_
        clear e19 e23
        clear hF
        go_simp
        exact hK _ _ (Ext.refl _) rfl
      refine ⟨fun y w' hS hF K hK => ?_, ?_⟩
      · skip -- 16: move
        have e24 : y 24 = _ := hF.1
        simp only [fillL, cond_true, cond_false, List.getD_cons_zero, List.getD_cons_succ, StP.is, Act.put, List.setIfInBounds_toArray, List.set_cons_zero, List.set_cons_succ, Nat.reduceAdd, e24] at hK ⊢
        refine rg_yes (by kernel_rfl) ?_
        clear e24
        clear hF
        go_simp
        exact hK _ _ (Ext.refl _) rfl
      refine ⟨fun y w' hS hF K hK => ?_, ?_⟩
      · skip -- 17: fieldAddr
        have e25 : y 25 = _ := hF.1
        simp only [fillL, cond_true, cond_false, List.getD_cons_zero, List.getD_cons_succ, StP.is, Act.put, List.setIfInBounds_toArray, List.set_cons_zero, List.set_cons_succ, Nat.reduceAdd, e25] at hK ⊢
        refine rg_no (by kernel_rfl) ?_
        exact hK _ _ (Ext.refl _) rfl
      refine ⟨fun y w' hS hF K hK => ?_, ?_⟩
      · skip -- 18: load
        have e25 : y 25 = _ := hF.1
        have e26 : y 26 = _ := hF.2.1
        simp only [fillL, cond_true, cond_false, List.getD_cons_zero, List.getD_cons_succ, StP.is, Act.put, List.setIfInBounds_toArray, List.set_cons_zero, List.set_cons_succ, Nat.reduceAdd, e25, e26] at hK ⊢
        refine rg_no (by kernel_rfl) ?_
        exact hK _ _ (Ext.refl _) rfl
      refine ⟨fun y w' hS hF K hK => ?_, ?_⟩
      · skip -- 19: fieldAddr
        have e25 : y 25 = _ := hF.1
        simp only [fillL, cond_true, cond_false, List.getD_cons_zero, List.getD_cons_succ, StP.is, Act.put, List.setIfInBounds_toArray, List.set_cons_zero, List.set_cons_succ, Nat.reduceAdd, e25] at hK ⊢
        refine rg_no (by kernel_rfl) ?_
        exact hK _ _ (Ext.refl _) rfl
      refine ⟨fun y w' hS hF K hK => ?_, ?_⟩
      · skip -- 20: load
        have e25 : y 25 = _ := hF.1
        have e28 : y 28 = _ := hF.2.1
        simp only [fillL, cond_true, cond_false, List.getD_cons_zero, List.getD_cons_succ, StP.is, Act.put, List.setIfInBounds_toArray, List.set_cons_zero, List.set_cons_succ, Nat.reduceAdd, e25, e28] at hK ⊢
        refine rg_no (by kernel_rfl) ?_
        exact hK _ _ (Ext.refl _) rfl
      refine ⟨fun y w' hS hF K hK => ?_, ?_⟩
      · skip -- 21: binOp
        have e25 : y 25 = _ := hF.1
        have e29 : y 29 = _ := hF.2.1
        simp only [fillL, cond_true, cond_false, List.getD_cons_zero, List.getD_cons_succ, StP.is, Act.put, List.setIfInBounds_toArray, List.set_cons_zero, List.set_cons_succ, Nat.reduceAdd, e25, e29] at hK ⊢
        refine rg_no (by kernel_rfl) ?_
        exact hK _ _ (Ext.refl _) rfl
      refine ⟨fun y w' hS hF K hK => ?_, ?_⟩
      · skip -- 22: call
        have e25 : y 25 = _ := hF.1
        have e27 : y 27 = _ := hF.2.1
        have e30 : y 30 = _ := hF.2.2.1
        simp only [fillL, cond_true, cond_false, List.getD_cons_zero, List.getD_cons_succ, StP.is, Act.put, List.setIfInBounds_toArray, List.set_cons_zero, List.set_cons_succ, Nat.reduceAdd, e25, e27, e30] at hK ⊢
        refine rg_no (by kernel_rfl) ?_
        exact hK _ _ (Ext.refl _) rfl
      refine ⟨fun y w' hS hF K hK => ?_, ?_⟩
      · skip -- 23: unOp
        have e25 : y 25 = _ := hF.1
        have e31 : y 31 = _ := hF.2.1
        simp only [fillL, cond_true, cond_false, List.getD_cons_zero, List.getD_cons_succ, StP.is, Act.put, List.setIfInBounds_toArray, List.set_cons_zero, List.set_cons_succ, Nat.reduceAdd, e25, e31] at hK ⊢
        refine rg_no (by kernel_rfl) ?_
        exact hK _ _ (Ext.refl _) rfl
      refine ⟨fun y w' hS hF K hK => ?_, ?_⟩
      · skip -- 24: pick
        have e25 : y 25 = _ := hF.1
        have e32 : y 32 = _ := hF.2.1
        simp only [fillL, cond_true, cond_false, List.getD_cons_zero, List.getD_cons_succ, StP.is, Act.put, List.setIfInBounds_toArray, List.set_cons_zero, List.set_cons_succ, Nat.reduceAdd, e25, e32] at hK ⊢
        refine rg_yes (by kernel_rfl) ?_
        clear e25 e32
        clear hF
        go_simp
        exact hK _ _ (Ext.refl _) rfl
      refine ⟨fun y w' hS hF K hK => ?_, ?_⟩
      · skip -- 25: move
        have e33 : y 33 = _ := hF.1
        simp only [fillL, cond_true, cond_false, List.getD_cons_zero, List.getD_cons_succ, StP.is, Act.put, List.setIfInBounds_toArray, List.set_cons_zero, List.set_cons_succ, Nat.reduceAdd, e33] at hK ⊢
        refine rg_yes (by kernel_rfl) ?_
        clear e33
        clear hF
        go_simp
        exact hK _ _ (Ext.refl _) rfl
      refine ⟨fun y w' hS hF K hK => ?_, ?_⟩
      · skip -- 26: fieldAddr
        have e34 : y 34 = _ := hF.1
        simp only [fillL, cond_true, cond_false, List.getD_cons_zero, List.getD_cons_succ, StP.is, Act.put, List.setIfInBounds_toArray, List.set_cons_zero, List.set_cons_succ, Nat.reduceAdd, e34] at hK ⊢
        refine rg_no (by kernel_rfl) ?_
        exact hK _ _ (Ext.refl _) rfl
      refine ⟨fun y w' hS hF K hK => ?_, ?_⟩
      · skip -- 27: fieldAddr
        have e34 : y 34 = _ := hF.1
        have e35 : y 35 = _ := hF.2.1
        simp only [fillL, cond_true, cond_false, List.getD_cons_zero, List.getD_cons_succ, StP.is, Act.put, List.setIfInBounds_toArray, List.set_cons_zero, List.set_cons_succ, Nat.reduceAdd, e34, e35] at hK ⊢
        refine rg_no (by kernel_rfl) ?_
        exact hK _ _ (Ext.refl _) rfl
      refine ⟨fun y w' hS hF K hK => ?_, ?_⟩
      · skip -- 28: load
        have e34 : y 34 = _ := hF.1
        have e36 : y 36 = _ := hF.2.1
        simp only [fillL, cond_true, cond_false, List.getD_cons_zero, List.getD_cons_succ, StP.is, Act.put, List.setIfInBounds_toArray, List.set_cons_zero, List.set_cons_succ, Nat.reduceAdd, e34, e36] at hK ⊢
        refine rg_no (by kernel_rfl) ?_
        exact hK _ _ (Ext.refl _) rfl
      refine ⟨fun y w' hS hF K hK => ?_, ?_⟩
      · skip -- 29: call
        have e34 : y 34 = _ := hF.1
        have e37 : y 37 = _ := hF.2.1
        simp only [fillL, cond_true, cond_false, List.getD_cons_zero, List.getD_cons_succ, StP.is, Act.put, List.setIfInBounds_toArray, List.set_cons_zero, List.set_cons_succ, Nat.reduceAdd, e34, e37] at hK ⊢
        refine rg_no (by kernel_rfl) ?_
        exact hK _ _ (Ext.refl _) rfl
      refine ⟨fun y w' hS hF K hK => ?_, ?_⟩
      · skip -- 30: fieldAddr
        have e34 : y 34 = _ := hF.1
        simp only [fillL, cond_true, cond_false, List.getD_cons_zero, List.getD_cons_succ, StP.is, Act.put, List.setIfInBounds_toArray, List.set_cons_zero, List.set_cons_succ, Nat.reduceAdd, e34] at hK ⊢
        refine rg_no (by kernel_rfl) ?_
        exact hK _ _ (Ext.refl _) rfl
      refine ⟨fun y w' hS hF K hK => ?_, ?_⟩
      · skip -- 31: load
        have e34 : y 34 = _ := hF.1
        have e39 : y 39 = _ := hF.2.1
        simp only [fillL, cond_true, cond_false, List.getD_cons_zero, List.getD_cons_succ, StP.is, Act.put, List.setIfInBounds_toArray, List.set_cons_zero, List.set_cons_succ, Nat.reduceAdd, e34, e39] at hK ⊢
        refine rg_no (by kernel_rfl) ?_
        exact hK _ _ (Ext.refl _) rfl
      refine ⟨fun y w' hS hF K hK => ?_, ?_⟩
      · skip -- 32: binOp
        have e34 : y 34 = _ := hF.1
        have e38 : y 38 = _ := hF.2.1
        have e40 : y 40 = _ := hF.2.2.1
        simp only [fillL, cond_true, cond_false, List.getD_cons_zero, List.getD_cons_succ, StP.is, Act.put, List.setIfInBounds_toArray, List.set_cons_zero, List.set_cons_succ, Nat.reduceAdd, e34, e38, e40] at hK ⊢
        refine rg_no (by kernel_rfl) ?_
        exact hK _ _ (Ext.refl _) rfl
      refine ⟨fun y w' hS hF K hK => ?_, ?_⟩
      · skip -- 33: pick
        have e34 : y 34 = _ := hF.1
        have e41 : y 41 = _ := hF.2.1
        simp only [fillL, cond_true, cond_false, List.getD_cons_zero, List.getD_cons_succ, StP.is, Act.put, List.setIfInBounds_toArray, List.set_cons_zero, List.set_cons_succ, Nat.reduceAdd, e34, e41] at hK ⊢
        refine rg_yes (by kernel_rfl) ?_
        clear e34 e41
        clear hF
        go_simp
        exact hK _ _ (Ext.refl _) rfl
      trivial
    case hend =>
      intro y w2 hX hF
      have e42 : y 42 = _ := hF.2.2.2.2.2.2.2.2.2.2.2.2.2.2.2.2.2.2.2.2.2.2.2.2.2.2.2.2.2.2.2.2.2.1
      clear hF
      simp only [fillL, cond_true, cond_false, Nat.reduceAdd, e42]
      clear e42 b0 b1 b2 b3 b4 b5 b6 b7
      have HB2 : Hid (Below w1.heap.size w1 w2) := Lib.hid hX
      have HB3 : Hid (Below w.heap.size w w2) := Lib.hid (HB1.out.trans (Below.mono hX HB1.out.size))
      clear hX
      go_wp2_with fail
      go_ret
      exact ⟨ret_bool (HBAD.out (fun h => by have h_ : spOk refs last = true := h.sp; rw [E1.out] at h_; cases h_)), HB3.out⟩
  have E1 := Lib.hid e1; clear e1
  obtain ⟨p1, p2, p3⟩ := spOk_iff.1 E1.out
  have HP3 := Lib.hid p3; clear p3
  obtain rfl : n1 = 64 := by rw [← L1.out]; exact p1
  obtain rfl : n2 = 64 := by rw [← L2.out]; exact p2
  clear p1 p2
  cases e2 : inB txg 1 900
  · have E2 := Lib.hid e2
    have b0 := cell_of_row _ _ 0 _ _ (0, 0) HBX.out; have b1 := cell_of_row _ _ 1 _ _ (0, 0) HBX.out; have b2 := cell_of_row _ _ 2 _ _ (0, 0) HBX.out; have b3 := cell_of_row _ _ 3 _ _ (0, 0) HBX.out; have b4 := cell_of_row _ _ 4 _ _ (0, 0) HBX.out; have b5 := cell_of_row _ _ 5 _ _ (0, 0) HBX.out; have b6 := cell_of_row _ _ 6 _ _ (0, 0) HBX.out; have b7 := cell_of_row _ _ 7 _ _ (0, 0) HBX.out
    go_wp2_with fail
    apply wp_region_rg (by kernel_rfl) (false :: false :: false :: false :: false :: false :: false :: false :: false :: true :: true :: true :: true :: true :: true :: true :: true :: true :: true :: true :: true :: true :: true :: true :: true :: true :: true :: true :: true :: true :: true :: true :: true :: true :: true :: true :: true :: true :: true :: true :: true :: true :: true :: false :: false :: false :: false :: false :: false :: false :: false :: false :: false :: false :: false :: false :: false :: false :: false :: false :: false :: false :: false :: false :: false :: false :: false :: false :: false :: false :: false :: false :: false :: false :: false :: false :: false :: false :: false :: false :: false :: false :: false :: false :: false :: false :: false :: false :: false :: false :: false :: false :: false :: false :: false :: false :: false :: false :: false :: false :: false :: false :: []) (some 9 :: some 10 :: some 11 :: some 12 :: some 13 :: some 14 :: some 15 :: some 16 :: some 17 :: some 18 :: some 19 :: some 20 :: some 21 :: some 22 :: some 23 :: some 24 :: some 25 :: some 26 :: some 27 :: some 28 :: some 29 :: some 30 :: some 31 :: some 32 :: some 33 :: some 34 :: some 35 :: some 36 :: some 37 :: some 38 :: some 39 :: some 40 :: some 41 :: some 42 :: []) ([] :: [0] :: [1] :: [2] :: [3] :: [4] :: [4, 5] :: [4, 6] :: [4, 7] :: [4, 8] :: [9] :: [10] :: [10, 11] :: [10, 12] :: [10, 13] :: [10, 14] :: [15] :: [16] :: [16, 17] :: [16] :: [16, 19] :: [16, 20] :: [16, 18, 21] :: [16, 22] :: [16, 23] :: [24] :: [25] :: [25, 26] :: [25, 27] :: [25, 28] :: [25] :: [25, 30] :: [25, 29, 31] :: [25, 32] :: []) (StP.is _ :: StP.is _ :: StP.is _ :: StP.is _ :: StP.is _ :: StP.is _ :: StP.is _ :: StP.is _ :: StP.is _ :: StP.is _ :: StP.is _ :: StP.is _ :: StP.is _ :: StP.is _ :: StP.is _ :: StP.is _ :: StP.is _ :: StP.is _ :: StP.is _ :: StP.is _ :: StP.is _ :: StP.is _ :: StP.is _ :: StP.is _ :: StP.is _ :: StP.is _ :: StP.is _ :: StP.is _ :: StP.is _ :: StP.is _ :: StP.is _ :: StP.is _ :: StP.is _ :: StP.is _ :: []) (by kernel_rfl)
    case hobs =>
      refine ⟨fun y w' hS hF K hK => ?_, ?_⟩
      · skip -- 0: fieldAddr
        simp only [fillL, cond_true, cond_false, List.getD_cons_zero, List.getD_cons_succ, StP.is, Act.put, List.setIfInBounds_toArray, List.set_cons_zero, List.set_cons_succ, Nat.reduceAdd] at hK ⊢
        refine rg_yes (by kernel_rfl) ?_
        clear hF
        go_simp
        exact hK _ _ (Ext.refl _) rfl
      refine ⟨fun y w' hS hF K hK => ?_, ?_⟩
      · skip -- 1: load
        have e9 : y 9 = _ := hF.1
        simp only [fillL, cond_true, cond_false, List.getD_cons_zero, List.getD_cons_succ, StP.is, Act.put, List.setIfInBounds_toArray, List.set_cons_zero, List.set_cons_succ, Nat.reduceAdd, e9] at hK ⊢
        refine rg_yes (by kernel_rfl) ?_
        have qx0_ := (Below.cell hS l1).trans b0
        have qx1_ := (Below.cell hS l1).trans b1
        have qx2_ := (Below.cell hS l1).trans b2
        have qx3_ := (Below.cell hS l1).trans b3
        have qx4_ := (Below.cell hS l1).trans b4
        have qx5_ := (Below.cell hS l1).trans b5
        have qx6_ := (Below.cell hS l1).trans b6
        have qx7_ := (Below.cell hS l1).trans b7
        clear e9
        clear hF
        go_simp
        exact hK _ _ (Ext.refl _) rfl
      refine ⟨fun y w' hS hF K hK => ?_, ?_⟩
      · skip -- 2: call
        have e10 : y 10 = _ := hF.1
        simp only [fillL, cond_true, cond_false, List.getD_cons_zero, List.getD_cons_succ, StP.is, Act.put, List.setIfInBounds_toArray, List.set_cons_zero, List.set_cons_succ, Nat.reduceAdd, e10] at hK ⊢
        refine rg_yes (by kernel_rfl) ?_
        have qx0_ := (Below.cell hS l1).trans b0
        have qx1_ := (Below.cell hS l1).trans b1
        have qx2_ := (Below.cell hS l1).trans b2
        have qx3_ := (Below.cell hS l1).trans b3
        have qx4_ := (Below.cell hS l1).trans b4
        have qx5_ := (Below.cell hS l1).trans b5
        have qx6_ := (Below.cell hS l1).trans b6
        have qx7_ := (Below.cell hS l1).trans b7
        clear e10
        clear hF
        go_simp
        exact hK _ _ (Ext.refl _) rfl
      refine ⟨fun y w' hS hF K hK => ?_, ?_⟩
      · skip -- 3: binOp
        have e11 : y 11 = _ := hF.1
        simp only [fillL, cond_true, cond_false, List.getD_cons_zero, List.getD_cons_succ, StP.is, Act.put, List.setIfInBounds_toArray, List.set_cons_zero, List.set_cons_succ, Nat.reduceAdd, e11] at hK ⊢
        refine rg_yes (by kernel_rfl) ?_
        clear e11
        clear hF
        go_simp
        exact hK _ _ (Ext.refl _) rfl
      refine ⟨fun y w' hS hF K hK => ?_, ?_⟩
      · skip -- 4: move
        have e12 : y 12 = _ := hF.1
        simp only [fillL, cond_true, cond_false, List.getD_cons_zero, List.getD_cons_succ, StP.is, Act.put, List.setIfInBounds_toArray, List.set_cons_zero, List.set_cons_succ, Nat.reduceAdd, e12] at hK ⊢
        refine rg_yes (by kernel_rfl) ?_
        clear e12
        clear hF
        go_simp
        exact hK _ _ (Ext.refl _) rfl
      refine ⟨fun y w' hS hF K hK => ?_, ?_⟩
      · skip -- 5: fieldAddr
        have e13 : y 13 = _ := hF.1
        simp only [fillL, cond_true, cond_false, List.getD_cons_zero, List.getD_cons_succ, StP.is, Act.put, List.setIfInBounds_toArray, List.set_cons_zero, List.set_cons_succ, Nat.reduceAdd, e13] at hK ⊢
        refine rg_yes (by kernel_rfl) ?_
        clear e13
        clear hF
        go_simp
        exact hK _ _ (Ext.refl _) rfl
      refine ⟨fun y w' hS hF K hK => ?_, ?_⟩
      · skip -- 6: load
        have e13 : y 13 = _ := hF.1
        have e14 : y 14 = _ := hF.2.1
        simp only [fillL, cond_true, cond_false, List.getD_cons_zero, List.getD_cons_succ, StP.is, Act.put, List.setIfInBounds_toArray, List.set_cons_zero, List.set_cons_succ, Nat.reduceAdd, e13, e14] at hK ⊢
        refine rg_yes (by kernel_rfl) ?_
        have qx0_ := (Below.cell hS l1).trans b0
        have qx1_ := (Below.cell hS l1).trans b1
        have qx2_ := (Below.cell hS l1).trans b2
        have qx3_ := (Below.cell hS l1).trans b3
        have qx4_ := (Below.cell hS l1).trans b4
        have qx5_ := (Below.cell hS l1).trans b5
        have qx6_ := (Below.cell hS l1).trans b6
        have qx7_ := (Below.cell hS l1).trans b7
        clear e13 e14
        clear hF
        go_simp
        exact hK _ _ (Ext.refl _) rfl
      refine ⟨fun y w' hS hF K hK => ?_, ?_⟩
      · skip -- 7: call
        have e13 : y 13 = _ := hF.1
        have e15 : y 15 = _ := hF.2.1
        simp only [fillL, cond_true, cond_false, List.getD_cons_zero, List.getD_cons_succ, StP.is, Act.put, List.setIfInBounds_toArray, List.set_cons_zero, List.set_cons_succ, Nat.reduceAdd, e13, e15] at hK ⊢
        refine rg_yes (by kernel_rfl) ?_
        clear e13 e15
        clear hF
        go_simp
        go_at_call 46
        refine (spaceOk_any _ _ _ _ _ _ refs last _ (HWI.out w' hS).1 (HWI.out w' hS).2).mono ?_
        rw [E1.out]
        rintro e w'' ⟨rfl, hb⟩
        exact hK _ _ hb rfl
      refine ⟨fun y w' hS hF K hK => ?_, ?_⟩
      · skip -- 8: unOp
        have e13 : y 13 = _ := hF.1
        have e16 : y 16 = _ := hF.2.1
        simp only [fillL, cond_true, cond_false, List.getD_cons_zero, List.getD_cons_succ, StP.is, Act.put, List.setIfInBounds_toArray, List.set_cons_zero, List.set_cons_succ, Nat.reduceAdd, e13, e16] at hK ⊢
        refine rg_yes (by kernel_rfl) ?_
        clear e13 e16
        clear hF
        go_simp
        exact hK _ _ (Ext.refl _) rfl
      refine ⟨fun y w' hS hF K hK => ?_, ?_⟩
      · skip -- 9: pick
        have e13 : y 13 = _ := hF.1
        have e17 : y 17 = _ := hF.2.1
        simp only [fillL, cond_true, cond_false, List.getD_cons_zero, List.getD_cons_succ, StP.is, Act.put, List.setIfInBounds_toArray, List.set_cons_zero, List.set_cons_succ, Nat.reduceAdd, e13, e17] at hK ⊢
        refine rg_yes (by kernel_rfl) ?_
        clear e13 e17
        clear hF
        go_simp
        exact hK _ _ (Ext.refl _) rfl
      refine ⟨fun y w' hS hF K hK => ?_, ?_⟩
      · skip -- 10: move
        have e18 : y 18 = _ := hF.1
        simp only [fillL, cond_true, cond_false, List.getD_cons_zero, List.getD_cons_succ, StP.is, Act.put, List.setIfInBounds_toArray, List.set_cons_zero, List.set_cons_succ, Nat.reduceAdd, e18] at hK ⊢
        refine rg_yes (by kernel_rfl) ?_
        clear e18
        clear hF
        go_simp
        exact hK _ _ (Ext.refl _) rfl
      refine ⟨fun y w' hS hF K hK => ?_, ?_⟩
      · skip -- 11: fieldAddr
        have e19 : y 19 = _ := hF.1
        simp only [fillL, cond_true, cond_false, List.getD_cons_zero, List.getD_cons_succ, StP.is, Act.put, List.setIfInBounds_toArray, List.set_cons_zero, List.set_cons_succ, Nat.reduceAdd, e19] at hK ⊢
        refine rg_yes (by kernel_rfl) ?_
        clear e19
        clear hF
        go_simp
        exact hK _ _ (Ext.refl _) rfl
      refine ⟨fun y w' hS hF K hK => ?_, ?_⟩
      · skip -- 12: load
        have e19 : y 19 = _ := hF.1
        have e20 : y 20 = _ := hF.2.1
        simp only [fillL, cond_true, cond_false, List.getD_cons_zero, List.getD_cons_succ, StP.is, Act.put, List.setIfInBounds_toArray, List.set_cons_zero, List.set_cons_succ, Nat.reduceAdd, e19, e20] at hK ⊢
        refine rg_yes (by kernel_rfl) ?_
        have qx0_ := (Below.cell hS l1).trans b0
        have qx1_ := (Below.cell hS l1).trans b1
        have qx2_ := (Below.cell hS l1).trans b2
        have qx3_ := (Below.cell hS l1).trans b3
        have qx4_ := (Below.cell hS l1).trans b4
        have qx5_ := (Below.cell hS l1).trans b5
        have qx6_ := (Below.cell hS l1).trans b6
        have qx7_ := (Below.cell hS l1).trans b7
        clear e19 e20
        clear hF
        go_simp
        exact hK _ _ (Ext.refl _) rfl
      refine ⟨fun y w' hS hF K hK => ?_, ?_⟩
      · skip -- 13: call
        have e19 : y 19 = _ := hF.1
        have e21 : y 21 = _ := hF.2.1
        simp only [fillL, cond_true, cond_false, List.getD_cons_zero, List.getD_cons_succ, StP.is, Act.put, List.setIfInBounds_toArray, List.set_cons_zero, List.set_cons_succ, Nat.reduceAdd, e19, e21] at hK ⊢
        refine rg_yes (by kernel_rfl) ?_
        clear e19 e21
        clear hF
        go_simp
        go_at_call 47
        refine (within_any _ _ _ _).mono ?_
        rw [E2.out]
        rintro e w'' ⟨rfl, rfl⟩
        exact hK _ _ (Ext.refl _) rfl
      refine ⟨fun y w' hS hF K hK => ?_, ?_⟩
      · skip -- 14: unOp
        have e19 : y 19 = _ := hF.1
        have e22 : y 22 = _ := hF.2.1
        simp only [fillL, cond_true, cond_false, List.getD_cons_zero, List.getD_cons_succ, StP.is, Act.put, List.setIfInBounds_toArray, List.set_cons_zero, List.set_cons_succ, Nat.reduceAdd, e19, e22] at hK ⊢
        refine rg_yes (by kernel_rfl) ?_
        clear e19 e22
        clear hF
        go_simp
        exact hK _ _ (Ext.refl _) rfl
      refine ⟨fun y w' hS hF K hK => ?_, ?_⟩
      · skip -- 15: pick
        have e19 : y 19 = _ := hF.1
        have e23 : y 23 = _ := hF.2.1
        simp only [fillL, cond_true, cond_false, List.getD_cons_zero, List.getD_cons_succ, StP.is, Act.put, List.setIfInBounds_toArray, List.set_cons_zero, List.set_cons_succ, Nat.reduceAdd, e19, e23] at hK ⊢
        refine rg_yes (by kernel_rfl) ?_
        clear e19 e23
        clear hF
        go_simp
        exact hK _ _ (Ext.refl _) rfl
      refine ⟨fun y w' hS hF K hK => ?_, ?_⟩
      · skip -- 16: move
        have e24 : y 24 = _ := hF.1
        simp only [fillL, cond_true, cond_false, List.getD_cons_zero, List.getD_cons_succ, StP.is, Act.put, List.setIfInBounds_toArray, List.set_cons_zero, List.set_cons_succ, Nat.reduceAdd, e24] at hK ⊢
        refine rg_yes (by kernel_rfl) ?_
        clear e24
        clear hF
        go_simp
        exact hK _ _ (Ext.refl _) rfl
      refine ⟨fun y w' hS hF K hK => ?_, ?_⟩
      · skip -- 17: fieldAddr
        have e25 : y 25 = _ := hF.1
        simp only [fillL, cond_true, cond_false, List.getD_cons_zero, List.getD_cons_succ, StP.is, Act.put, List.setIfInBounds_toArray, List.set_cons_zero, List.set_cons_succ, Nat.reduceAdd, e25] at hK ⊢
        refine rg_no (by kernel_rfl) ?_
        exact hK _ _ (Ext.refl _) rfl
      refine ⟨fun y w' hS hF K hK => ?_, ?_⟩
      · skip -- 18: load
        have e25 : y 25 = _ := hF.1
        have e26 : y 26 = _ := hF.2.1
        simp only [fillL, cond_true, cond_false, List.getD_cons_zero, List.getD_cons_succ, StP.is, Act.put, List.setIfInBounds_toArray, List.set_cons_zero, List.set_cons_succ, Nat.reduceAdd, e25, e26] at hK ⊢
        refine rg_no (by kernel_rfl) ?_
        exact hK _ _ (Ext.refl _) rfl
      refine ⟨fun y w' hS hF K hK => ?_, ?_⟩
      · skip -- 19: fieldAddr
        have e25 : y 25 = _ := hF.1
        simp only [fillL, cond_true, cond_false, List.getD_cons_zero, List.getD_cons_succ, StP.is, Act.put, List.setIfInBounds_toArray, List.set_cons_zero, List.set_cons_succ, Nat.reduceAdd, e25] at hK ⊢
        refine rg_no (by kernel_rfl) ?_
        exact hK _ _ (Ext.refl _) rfl
      refine ⟨fun y w' hS hF K hK => ?_, ?_⟩
      · skip -- 20: load
        have e25 : y 25 = _ := hF.1
        have e28 : y 28 = _ := hF.2.1
        simp only [fillL, cond_true, cond_false, List.getD_cons_zero, List.getD_cons_succ, StP.is, Act.put, List.setIfInBounds_toArray, List.set_cons_zero, List.set_cons_succ, Nat.reduceAdd, e25, e28] at hK ⊢
        refine rg_no (by kernel_rfl) ?_
        exact hK _ _ (Ext.refl _) rfl
      refine ⟨fun y w' hS hF K hK => ?_, ?_⟩
      · skip -- 21: binOp
        have e25 : y 25 = _ := hF.1
        have e29 : y 29 = _ := hF.2.1
        simp only [fillL, cond_true, cond_false, List.getD_cons_zero, List.getD_cons_succ, StP.is, Act.put, List.setIfInBounds_toArray, List.set_cons_zero, List.set_cons_succ, Nat.reduceAdd, e25, e29] at hK ⊢
        refine rg_no (by kernel_rfl) ?_
        exact hK _ _ (Ext.refl _) rfl
      refine ⟨fun y w' hS hF K hK => ?_, ?_⟩
      · skip -- 22: call
        have e25 : y 25 = _ := hF.1
        have e27 : y 27 = _ := hF.2.1
        have e30 : y 30 = _ := hF.2.2.1
        simp only [fillL, cond_true, cond_false, List.getD_cons_zero, List.getD_cons_succ, StP.is, Act.put, List.setIfInBounds_toArray, List.set_cons_zero, List.set_cons_succ, Nat.reduceAdd, e25, e27, e30] at hK ⊢
        refine rg_no (by kernel_rfl) ?_
        exact hK _ _ (Ext.refl _) rfl
      refine ⟨fun y w' hS hF K hK => ?_, ?_⟩
      · skip -- 23: unOp
        have e25 : y 25 = _ := hF.1
        have e31 : y 31 = _ := hF.2.1
        simp only [fillL, cond_true, cond_false, List.getD_cons_zero, List.getD_cons_succ, StP.is, Act.put, List.setIfInBounds_toArray, List.set_cons_zero, List.set_cons_succ, Nat.reduceAdd, e25, e31] at hK ⊢
        refine rg_no (by kernel_rfl) ?_
        exact hK _ _ (Ext.refl _) rfl
      refine ⟨fun y w' hS hF K hK => ?_, ?_⟩
      · skip -- 24: pick
        have e25 : y 25 = _ := hF.1
        have e32 : y 32 = _ := hF.2.1
        simp only [fillL, cond_true, cond_false, List.getD_cons_zero, List.getD_cons_succ, StP.is, Act.put, List.setIfInBounds_toArray, List.set_cons_zero, List.set_cons_succ, Nat.reduceAdd, e25, e32] at hK ⊢
        refine rg_yes (by kernel_rfl) ?_
        clear e25 e32
        clear hF
        go_simp
        exact hK _ _ (Ext.refl _) rfl
      refine ⟨fun y w' hS hF K hK => ?_, ?_⟩
      · skip -- 25: move
        have e33 : y 33 = _ := hF.1
        simp only [fillL, cond_true, cond_false, List.getD_cons_zero, List.getD_cons_succ, StP.is, Act.put, List.setIfInBounds_toArray, List.set_cons_zero, List.set_cons_succ, Nat.reduceAdd, e33] at hK ⊢
        refine rg_yes (by kernel_rfl) ?_
        clear e33
        clear hF
        go_simp
        exact hK _ _ (Ext.refl _) rfl
      refine ⟨fun y w' hS hF K hK => ?_, ?_⟩
      · skip -- 26: fieldAddr
        have e34 : y 34 = _ := hF.1
        simp only [fillL, cond_true, cond_false, List.getD_cons_zero, List.getD_cons_succ, StP.is, Act.put, List.setIfInBounds_toArray, List.set_cons_zero, List.set_cons_succ, Nat.reduceAdd, e34] at hK ⊢
        refine rg_no (by kernel_rfl) ?_
        exact hK _ _ (Ext.refl _) rfl
      refine ⟨fun y w' hS hF K hK => ?_, ?_⟩
      · skip -- 27: fieldAddr
        have e34 : y 34 = _ := hF.1
        have e35 : y 35 = _ := hF.2.1
        simp only [fillL, cond_true, cond_false, List.getD_cons_zero, List.getD_cons_succ, StP.is, Act.put, List.setIfInBounds_toArray, List.set_cons_zero, List.set_cons_succ, Nat.reduceAdd, e34, e35] at hK ⊢
        refine rg_no (by kernel_rfl) ?_
        exact hK _ _ (Ext.refl _) rfl
      refine ⟨fun y w' hS hF K hK => ?_, ?_⟩
      · skip -- 28: load
        have e34 : y 34 = _ := hF.1
        have e36 : y 36 = _ := hF.2.1
        simp only [fillL, cond_true, cond_false, List.getD_cons_zero, List.getD_cons_succ, StP.is, Act.put, List.setIfInBounds_toArray, List.set_cons_zero, List.set_cons_succ, Nat.reduceAdd, e34, e36] at hK ⊢
        refine rg_no (by kernel_rfl) ?_
        exact hK _ _ (Ext.refl _) rfl
      refine ⟨fun y w' hS hF K hK => ?_, ?_⟩
      · skip -- 29: call
        have e34 : y 34 = _ := hF.1
        have e37 : y 37 = _ := hF.2.1
        simp only [fillL, cond_true, cond_false, List.getD_cons_zero, List.getD_cons_succ, StP.is, Act.put, List.setIfInBounds_toArray, List.set_cons_zero, List.set_cons_succ, Nat.reduceAdd, e34, e37] at hK ⊢
        refine rg_no (by kernel_rfl) ?_
        exact hK _ _ (Ext.refl _) rfl
      refine ⟨fun y w' hS hF K hK => ?_, ?_⟩
      · skip -- 30: fieldAddr
        have e34 : y 34 = _ := hF.1
        simp only [fillL, cond_true, cond_false, List.getD_cons_zero, List.getD_cons_succ, StP.is, Act.put, List.setIfInBounds_toArray, List.set_cons_zero, List.set_cons_succ, Nat.reduceAdd, e34] at hK ⊢
        refine rg_no (by kernel_rfl) ?_
        exact hK _ _ (Ext.refl _) rfl
      refine ⟨fun y w' hS hF K hK => ?_, ?_⟩
      · skip -- 31: load
        have e34 : y 34 = _ := hF.1
        have e39 : y 39 = _ := hF.2.1
        simp only [fillL, cond_true, cond_false, List.getD_cons_zero, List.getD_cons_succ, StP.is, Act.put, List.setIfInBounds_toArray, List.set_cons_zero, List.set_cons_succ, Nat.reduceAdd, e34, e39] at hK ⊢
        refine rg_no (by kernel_rfl) ?_
        exact hK _ _ (Ext.refl _) rfl
      refine ⟨fun y w' hS hF K hK => ?_, ?_⟩
      · skip -- 32: binOp
        have e34 : y 34 = _ := hF.1
        have e38 : y 38 = _ := hF.2.1
        have e40 : y 40 = _ := hF.2.2.1
        simp only [fillL, cond_true, cond_false, List.getD_cons_zero, List.getD_cons_succ, StP.is, Act.put, List.setIfInBounds_toArray, List.set_cons_zero, List.set_cons_succ, Nat.reduceAdd, e34, e38, e40] at hK ⊢
        refine rg_no (by kernel_rfl) ?_
        exact hK _ _ (Ext.refl _) rfl
      refine ⟨fun y w' hS hF K hK => ?_, ?_⟩
      · skip -- 33: pick
        have e34 : y 34 = _ := hF.1
        have e41 : y 41 = _ := hF.2.1
        simp only [fillL, cond_true, cond_false, List.getD_cons_zero, List.getD_cons_succ, StP.is, Act.put, List.setIfInBounds_toArray, List.set_cons_zero, List.set_cons_succ, Nat.reduceAdd, e34, e41] at hK ⊢
        refine rg_yes (by kernel_rfl) ?_
        clear e34 e41
        clear hF
        go_simp
        exact hK _ _ (Ext.refl _) rfl
      trivial
    case hend =>
      intro y w2 hX hF
      have e42 : y 42 = _ := hF.2.2.2.2.2.2.2.2.2.2.2.2.2.2.2.2.2.2.2.2.2.2.2.2.2.2.2.2.2.2.2.2.2.1
      clear hF
      simp only [fillL, cond_true, cond_false, Nat.reduceAdd, e42]
      clear e42 b0 b1 b2 b3 b4 b5 b6 b7
      have HB2 : Hid (Below w1.heap.size w1 w2) := Lib.hid hX
      have HB3 : Hid (Below w.heap.size w w2) := Lib.hid (HB1.out.trans (Below.mono hX HB1.out.size))
      clear hX
      go_wp2_with fail
      go_ret
      exact ⟨ret_bool (HBAD.out (fun h => by have h_ : inB txg 1 900 = true := h.txg; rw [E2.out] at h_; cases h_)), HB3.out⟩
  have E2 := Lib.hid e2; clear e2
  have ht : 1 ≤ txg ∧ txg ≤ 900 := by have := E2.out; unfold inB at this; simpa using this
  have nt : IntKind.i64.wrap (txg - 1) = txg - 1 := IntWalk.i64_in _ (by omega)
  cases e3 : inB keep 0 (txg - 1)
  · have E3 := Lib.hid e3
    have b0 := cell_of_row _ _ 0 _ _ (0, 0) HBX.out; have b1 := cell_of_row _ _ 1 _ _ (0, 0) HBX.out; have b2 := cell_of_row _ _ 2 _ _ (0, 0) HBX.out; have b3 := cell_of_row _ _ 3 _ _ (0, 0) HBX.out; have b4 := cell_of_row _ _ 4 _ _ (0, 0) HBX.out; have b5 := cell_of_row _ _ 5 _ _ (0, 0) HBX.out; have b6 := cell_of_row _ _ 6 _ _ (0, 0) HBX.out; have b7 := cell_of_row _ _ 7 _ _ (0, 0) HBX.out
    go_wp2_with fail
    apply wp_region_rg (by kernel_rfl) (false :: false :: false :: false :: false :: false :: false :: false :: false :: true :: true :: true :: true :: true :: true :: true :: true :: true :: true :: true :: true :: true :: true :: true :: true :: true :: true :: true :: true :: true :: true :: true :: true :: true :: true :: true :: true :: true :: true :: true :: true :: true :: true :: false :: false :: false :: false :: false :: false :: false :: false :: false :: false :: false :: false :: false :: false :: false :: false :: false :: false :: false :: false :: false :: false :: false :: false :: false :: false :: false :: false :: false :: false :: false :: false :: false :: false :: false :: false :: false :: false :: false :: false :: false :: false :: false :: false :: false :: false :: false :: false :: false :: false :: false :: false :: false :: false :: false :: false :: false :: false :: false :: []) (some 9 :: some 10 :: some 11 :: some 12 :: some 13 :: some 14 :: some 15 :: some 16 :: some 17 :: some 18 :: some 19 :: some 20 :: some 21 :: some 22 :: some 23 :: some 24 :: some 25 :: some 26 :: some 27 :: some 28 :: some 29 :: some 30 :: some 31 :: some 32 :: some 33 :: some 34 :: some 35 :: some 36 :: some 37 :: some 38 :: some 39 :: some 40 :: some 41 :: some 42 :: []) ([] :: [0] :: [1] :: [2] :: [3] :: [4] :: [4, 5] :: [4, 6] :: [4, 7] :: [4, 8] :: [9] :: [10] :: [10, 11] :: [10, 12] :: [10, 13] :: [10, 14] :: [15] :: [16] :: [16, 17] :: [16] :: [16, 19] :: [16, 20] :: [16, 18, 21] :: [16, 22] :: [16, 23] :: [24] :: [25] :: [25, 26] :: [25, 27] :: [25, 28] :: [25] :: [25, 30] :: [25, 29, 31] :: [25, 32] :: []) (StP.is _ :: StP.is _ :: StP.is _ :: StP.is _ :: StP.is _ :: StP.is _ :: StP.is _ :: StP.is _ :: StP.is _ :: StP.is _ :: StP.is _ :: StP.is _ :: StP.is _ :: StP.is _ :: StP.is _ :: StP.is _ :: StP.is _ :: StP.is _ :: StP.is _ :: StP.is _ :: StP.is _ :: StP.is _ :: StP.is _ :: StP.is _ :: StP.is _ :: StP.is _ :: StP.is _ :: StP.is _ :: StP.is _ :: StP.is _ :: StP.is _ :: StP.is _ :: StP.is _ :: StP.is _ :: []) (by kernel_rfl)
    case hobs =>
      refine ⟨fun y w' hS hF K hK => ?_, ?_⟩
      · skip -- 0: fieldAddr
        simp only [fillL, cond_true, cond_false, List.getD_cons_zero, List.getD_cons_succ, StP.is, Act.put, List.setIfInBounds_toArray, List.set_cons_zero, List.set_cons_succ, Nat.reduceAdd] at hK ⊢
        refine rg_yes (by kernel_rfl) ?_
        clear hF
        go_simp
        exact hK _ _ (Ext.refl _) rfl
      refine ⟨fun y w' hS hF K hK => ?_, ?_⟩
      · skip -- 1: load
        have e9 : y 9 = _ := hF.1
        simp only [fillL, cond_true, cond_false, List.getD_cons_zero, List.getD_cons_succ, StP.is, Act.put, List.setIfInBounds_toArray, List.set_cons_zero, List.set_cons_succ, Nat.reduceAdd, e9] at hK ⊢
        refine rg_yes (by kernel_rfl) ?_
        have qx0_ := (Below.cell hS l1).trans b0
        have qx1_ := (Below.cell hS l1).trans b1
        have qx2_ := (Below.cell hS l1).trans b2
        have qx3_ := (Below.cell hS l1).trans b3
        have qx4_ := (Below.cell hS l1).trans b4
        have qx5_ := (Below.cell hS l1).trans b5
        have qx6_ := (Below.cell hS l1).trans b6
        have qx7_ := (Below.cell hS l1).trans b7
        clear e9
        clear hF
        go_simp
        exact hK _ _ (Ext.refl _) rfl
      refine ⟨fun y w' hS hF K hK => ?_, ?_⟩
      · skip -- 2: call
        have e10 : y 10 = _ := hF.1
        simp only [fillL, cond_true, cond_false, List.getD_cons_zero, List.getD_cons_succ, StP.is, Act.put, List.setIfInBounds_toArray, List.set_cons_zero, List.set_cons_succ, Nat.reduceAdd, e10] at hK ⊢
        refine rg_yes (by kernel_rfl) ?_
        have qx0_ := (Below.cell hS l1).trans b0
        have qx1_ := (Below.cell hS l1).trans b1
        have qx2_ := (Below.cell hS l1).trans b2
        have qx3_ := (Below.cell hS l1).trans b3
        have qx4_ := (Below.cell hS l1).trans b4
        have qx5_ := (Below.cell hS l1).trans b5
        have qx6_ := (Below.cell hS l1).trans b6
        have qx7_ := (Below.cell hS l1).trans b7
        clear e10
        clear hF
        go_simp
        exact hK _ _ (Ext.refl _) rfl
      refine ⟨fun y w' hS hF K hK => ?_, ?_⟩
      · skip -- 3: binOp
        have e11 : y 11 = _ := hF.1
        simp only [fillL, cond_true, cond_false, List.getD_cons_zero, List.getD_cons_succ, StP.is, Act.put, List.setIfInBounds_toArray, List.set_cons_zero, List.set_cons_succ, Nat.reduceAdd, e11] at hK ⊢
        refine rg_yes (by kernel_rfl) ?_
        clear e11
        clear hF
        go_simp
        exact hK _ _ (Ext.refl _) rfl
      refine ⟨fun y w' hS hF K hK => ?_, ?_⟩
      · skip -- 4: move
        have e12 : y 12 = _ := hF.1
        simp only [fillL, cond_true, cond_false, List.getD_cons_zero, List.getD_cons_succ, StP.is, Act.put, List.setIfInBounds_toArray, List.set_cons_zero, List.set_cons_succ, Nat.reduceAdd, e12] at hK ⊢
        refine rg_yes (by kernel_rfl) ?_
        clear e12
        clear hF
        go_simp
        exact hK _ _ (Ext.refl _) rfl
      refine ⟨fun y w' hS hF K hK => ?_, ?_⟩
      · skip -- 5: fieldAddr
        have e13 : y 13 = _ := hF.1
        simp only [fillL, cond_true, cond_false, List.getD_cons_zero, List.getD_cons_succ, StP.is, Act.put, List.setIfInBounds_toArray, List.set_cons_zero, List.set_cons_succ, Nat.reduceAdd, e13] at hK ⊢
        refine rg_yes (by kernel_rfl) ?_
        clear e13
        clear hF
        go_simp
        exact hK _ _ (Ext.refl _) rfl
      refine ⟨fun y w' hS hF K hK => ?_, ?_⟩
      · skip -- 6: load
        have e13 : y 13 = _ := hF.1
        have e14 : y 14 = _ := hF.2.1
        simp only [fillL, cond_true, cond_false, List.getD_cons_zero, List.getD_cons_succ, StP.is, Act.put, List.setIfInBounds_toArray, List.set_cons_zero, List.set_cons_succ, Nat.reduceAdd, e13, e14] at hK ⊢
        refine rg_yes (by kernel_rfl) ?_
        have qx0_ := (Below.cell hS l1).trans b0
        have qx1_ := (Below.cell hS l1).trans b1
        have qx2_ := (Below.cell hS l1).trans b2
        have qx3_ := (Below.cell hS l1).trans b3
        have qx4_ := (Below.cell hS l1).trans b4
        have qx5_ := (Below.cell hS l1).trans b5
        have qx6_ := (Below.cell hS l1).trans b6
        have qx7_ := (Below.cell hS l1).trans b7
        clear e13 e14
        clear hF
        go_simp
        exact hK _ _ (Ext.refl _) rfl
      refine ⟨fun y w' hS hF K hK => ?_, ?_⟩
      · skip -- 7: call
        have e13 : y 13 = _ := hF.1
        have e15 : y 15 = _ := hF.2.1
        simp only [fillL, cond_true, cond_false, List.getD_cons_zero, List.getD_cons_succ, StP.is, Act.put, List.setIfInBounds_toArray, List.set_cons_zero, List.set_cons_succ, Nat.reduceAdd, e13, e15] at hK ⊢
        refine rg_yes (by kernel_rfl) ?_
        clear e13 e15
        clear hF
        go_simp
        go_at_call 46
        refine (spaceOk_any _ _ _ _ _ _ refs last _ (HWI.out w' hS).1 (HWI.out w' hS).2).mono ?_
        rw [E1.out]
        rintro e w'' ⟨rfl, hb⟩
        exact hK _ _ hb rfl
      refine ⟨fun y w' hS hF K hK => ?_, ?_⟩
      · skip -- 8: unOp
        have e13 : y 13 = _ := hF.1
        have e16 : y 16 = _ := hF.2.1
        simp only [fillL, cond_true, cond_false, List.getD_cons_zero, List.getD_cons_succ, StP.is, Act.put, List.setIfInBounds_toArray, List.set_cons_zero, List.set_cons_succ, Nat.reduceAdd, e13, e16] at hK ⊢
        refine rg_yes (by kernel_rfl) ?_
        clear e13 e16
        clear hF
        go_simp
        exact hK _ _ (Ext.refl _) rfl
      refine ⟨fun y w' hS hF K hK => ?_, ?_⟩
      · skip -- 9: pick
        have e13 : y 13 = _ := hF.1
        have e17 : y 17 = _ := hF.2.1
        simp only [fillL, cond_true, cond_false, List.getD_cons_zero, List.getD_cons_succ, StP.is, Act.put, List.setIfInBounds_toArray, List.set_cons_zero, List.set_cons_succ, Nat.reduceAdd, e13, e17] at hK ⊢
        refine rg_yes (by kernel_rfl) ?_
        clear e13 e17
        clear hF
        go_simp
        exact hK _ _ (Ext.refl _) rfl
      refine ⟨fun y w' hS hF K hK => ?_, ?_⟩
      · skip -- 10: move
        have e18 : y 18 = _ := hF.1
        simp only [fillL, cond_true, cond_false, List.getD_cons_zero, List.getD_cons_succ, StP.is, Act.put, List.setIfInBounds_toArray, List.set_cons_zero, List.set_cons_succ, Nat.reduceAdd, e18] at hK ⊢
        refine rg_yes (by kernel_rfl) ?_
        clear e18
        clear hF
        go_simp
        exact hK _ _ (Ext.refl _) rfl
      refine ⟨fun y w' hS hF K hK => ?_, ?_⟩
      · skip -- 11: fieldAddr
        have e19 : y 19 = _ := hF.1
        simp only [fillL, cond_true, cond_false, List.getD_cons_zero, List.getD_cons_succ, StP.is, Act.put, List.setIfInBounds_toArray, List.set_cons_zero, List.set_cons_succ, Nat.reduceAdd, e19] at hK ⊢
        refine rg_yes (by kernel_rfl) ?_
        clear e19
        clear hF
        go_simp
        exact hK _ _ (Ext.refl _) rfl
      refine ⟨fun y w' hS hF K hK => ?_, ?_⟩
      · skip -- 12: load
        have e19 : y 19 = _ := hF.1
        have e20 : y 20 = _ := hF.2.1
        simp only [fillL, cond_true, cond_false, List.getD_cons_zero, List.getD_cons_succ, StP.is, Act.put, List.setIfInBounds_toArray, List.set_cons_zero, List.set_cons_succ, Nat.reduceAdd, e19, e20] at hK ⊢
        refine rg_yes (by kernel_rfl) ?_
        have qx0_ := (Below.cell hS l1).trans b0
        have qx1_ := (Below.cell hS l1).trans b1
        have qx2_ := (Below.cell hS l1).trans b2
        have qx3_ := (Below.cell hS l1).trans b3
        have qx4_ := (Below.cell hS l1).trans b4
        have qx5_ := (Below.cell hS l1).trans b5
        have qx6_ := (Below.cell hS l1).trans b6
        have qx7_ := (Below.cell hS l1).trans b7
        clear e19 e20
        clear hF
        go_simp
        exact hK _ _ (Ext.refl _) rfl
      refine ⟨fun y w' hS hF K hK => ?_, ?_⟩
      · skip -- 13: call
        have e19 : y 19 = _ := hF.1
        have e21 : y 21 = _ := hF.2.1
        simp only [fillL, cond_true, cond_false, List.getD_cons_zero, List.getD_cons_succ, StP.is, Act.put, List.setIfInBounds_toArray, List.set_cons_zero, List.set_cons_succ, Nat.reduceAdd, e19, e21] at hK ⊢
        refine rg_yes (by kernel_rfl) ?_
        clear e19 e21
        clear hF
        go_simp
        go_at_call 47
        refine (within_any _ _ _ _).mono ?_
        rw [E2.out]
        rintro e w'' ⟨rfl, rfl⟩
        exact hK _ _ (Ext.refl _) rfl
      refine ⟨fun y w' hS hF K hK => ?_, ?_⟩
      · skip -- 14: unOp
        have e19 : y 19 = _ := hF.1
        have e22 : y 22 = _ := hF.2.1
        simp only [fillL, cond_true, cond_false, List.getD_cons_zero, List.getD_cons_succ, StP.is, Act.put, List.setIfInBounds_toArray, List.set_cons_zero, List.set_cons_succ, Nat.reduceAdd, e19, e22] at hK ⊢
        refine rg_yes (by kernel_rfl) ?_
        clear e19 e22
        clear hF
        go_simp
        exact hK _ _ (Ext.refl _) rfl
      refine ⟨fun y w' hS hF K hK => ?_, ?_⟩
      · skip -- 15: pick
        have e19 : y 19 = _ := hF.1
        have e23 : y 23 = _ := hF.2.1
        simp only [fillL, cond_true, cond_false, List.getD_cons_zero, List.getD_cons_succ, StP.is, Act.put, List.setIfInBounds_toArray, List.set_cons_zero, List.set_cons_succ, Nat.reduceAdd, e19, e23] at hK ⊢
        refine rg_yes (by kernel_rfl) ?_
        clear e19 e23
        clear hF
        go_simp
        exact hK _ _ (Ext.refl _) rfl
      refine ⟨fun y w' hS hF K hK => ?_, ?_⟩
      · skip -- 16: move
        have e24 : y 24 = _ := hF.1
        simp only [fillL, cond_true, cond_false, List.getD_cons_zero, List.getD_cons_succ, StP.is, Act.put, List.setIfInBounds_toArray, List.set_cons_zero, List.set_cons_succ, Nat.reduceAdd, e24] at hK ⊢
        refine rg_yes (by kernel_rfl) ?_
        clear e24
        clear hF
        go_simp
        exact hK _ _ (Ext.refl _) rfl
      refine ⟨fun y w' hS hF K hK => ?_, ?_⟩
      · skip -- 17: fieldAddr
        have e25 : y 25 = _ := hF.1
        simp only [fillL, cond_true, cond_false, List.getD_cons_zero, List.getD_cons_succ, StP.is, Act.put, List.setIfInBounds_toArray, List.set_cons_zero, List.set_cons_succ, Nat.reduceAdd, e25] at hK ⊢
        refine rg_yes (by kernel_rfl) ?_
        clear e25
        clear hF
        go_simp
        exact hK _ _ (Ext.refl _) rfl
      refine ⟨fun y w' hS hF K hK => ?_, ?_⟩
      · skip -- 18: load
        have e25 : y 25 = _ := hF.1
        have e26 : y 26 = _ := hF.2.1
        simp only [fillL, cond_true, cond_false, List.getD_cons_zero, List.getD_cons_succ, StP.is, Act.put, List.setIfInBounds_toArray, List.set_cons_zero, List.set_cons_succ, Nat.reduceAdd, e25, e26] at hK ⊢
        refine rg_yes (by kernel_rfl) ?_
        have qx0_ := (Below.cell hS l1).trans b0
        have qx1_ := (Below.cell hS l1).trans b1
        have qx2_ := (Below.cell hS l1).trans b2
        have qx3_ := (Below.cell hS l1).trans b3
        have qx4_ := (Below.cell hS l1).trans b4
        have qx5_ := (Below.cell hS l1).trans b5
        have qx6_ := (Below.cell hS l1).trans b6
        have qx7_ := (Below.cell hS l1).trans b7
        clear e25 e26
        clear hF
        go_simp
        exact hK _ _ (Ext.refl _) rfl
      refine ⟨fun y w' hS hF K hK => ?_, ?_⟩
      · skip -- 19: fieldAddr
        have e25 : y 25 = _ := hF.1
        simp only [fillL, cond_true, cond_false, List.getD_cons_zero, List.getD_cons_succ, StP.is, Act.put, List.setIfInBounds_toArray, List.set_cons_zero, List.set_cons_succ, Nat.reduceAdd, e25] at hK ⊢
        refine rg_yes (by kernel_rfl) ?_
        clear e25
        clear hF
        go_simp
        exact hK _ _ (Ext.refl _) rfl
      refine ⟨fun y w' hS hF K hK => ?_, ?_⟩
      · skip -- 20: load
        have e25 : y 25 = _ := hF.1
        have e28 : y 28 = _ := hF.2.1
        simp only [fillL, cond_true, cond_false, List.getD_cons_zero, List.getD_cons_succ, StP.is, Act.put, List.setIfInBounds_toArray, List.set_cons_zero, List.set_cons_succ, Nat.reduceAdd, e25, e28] at hK ⊢
        refine rg_yes (by kernel_rfl) ?_
        have qx0_ := (Below.cell hS l1).trans b0
        have qx1_ := (Below.cell hS l1).trans b1
        have qx2_ := (Below.cell hS l1).trans b2
        have qx3_ := (Below.cell hS l1).trans b3
        have qx4_ := (Below.cell hS l1).trans b4
        have qx5_ := (Below.cell hS l1).trans b5
        have qx6_ := (Below.cell hS l1).trans b6
        have qx7_ := (Below.cell hS l1).trans b7
        clear e25 e28
        clear hF
        go_simp
        exact hK _ _ (Ext.refl _) rfl
      refine ⟨fun y w' hS hF K hK => ?_, ?_⟩
      · skip -- 21: binOp
        have e25 : y 25 = _ := hF.1
        have e29 : y 29 = _ := hF.2.1
        simp only [fillL, cond_true, cond_false, List.getD_cons_zero, List.getD_cons_succ, StP.is, Act.put, List.setIfInBounds_toArray, List.set_cons_zero, List.set_cons_succ, Nat.reduceAdd, e25, e29] at hK ⊢
        refine rg_yes (by kernel_rfl) ?_
        clear e25 e29
        clear hF
        go_simp
        exact hK _ _ (Ext.refl _) rfl
      refine ⟨fun y w' hS hF K hK => ?_, ?_⟩
      · skip -- 22: call
        have e25 : y 25 = _ := hF.1
        have e27 : y 27 = _ := hF.2.1
        have e30 : y 30 = _ := hF.2.2.1
        simp only [fillL, cond_true, cond_false, List.getD_cons_zero, List.getD_cons_succ, StP.is, Act.put, List.setIfInBounds_toArray, List.set_cons_zero, List.set_cons_succ, Nat.reduceAdd, e25, e27, e30] at hK ⊢
        refine rg_yes (by kernel_rfl) ?_
        clear e25 e27 e30
        clear hF
        go_simp
        go_at_call 47
        refine (within_any _ _ _ _).mono ?_
        rw [E3.out]
        rintro e w'' ⟨rfl, rfl⟩
        exact hK _ _ (Ext.refl _) rfl
      refine ⟨fun y w' hS hF K hK => ?_, ?_⟩
      · skip -- 23: unOp
        have e25 : y 25 = _ := hF.1
        have e31 : y 31 = _ := hF.2.1
        simp only [fillL, cond_true, cond_false, List.getD_cons_zero, List.getD_cons_succ, StP.is, Act.put, List.setIfInBounds_toArray, List.set_cons_zero, List.set_cons_succ, Nat.reduceAdd, e25, e31] at hK ⊢
        refine rg_yes (by kernel_rfl) ?_
        clear e25 e31
        clear hF
        go_simp
        exact hK _ _ (Ext.refl _) rfl
      refine ⟨fun y w' hS hF K hK => ?_, ?_⟩
      · skip -- 24: pick
        have e25 : y 25 = _ := hF.1
        have e32 : y 32 = _ := hF.2.1
        simp only [fillL, cond_true, cond_false, List.getD_cons_zero, List.getD_cons_succ, StP.is, Act.put, List.setIfInBounds_toArray, List.set_cons_zero, List.set_cons_succ, Nat.reduceAdd, e25, e32] at hK ⊢
        refine rg_yes (by kernel_rfl) ?_
        clear e25 e32
        clear hF
        go_simp
        exact hK _ _ (Ext.refl _) rfl
      refine ⟨fun y w' hS hF K hK => ?_, ?_⟩
      · skip -- 25: move
        have e33 : y 33 = _ := hF.1
        simp only [fillL, cond_true, cond_false, List.getD_cons_zero, List.getD_cons_succ, StP.is, Act.put, List.setIfInBounds_toArray, List.set_cons_zero, List.set_cons_succ, Nat.reduceAdd, e33] at hK ⊢
        refine rg_yes (by kernel_rfl) ?_
        clear e33
        clear hF
        go_simp
        exact hK _ _ (Ext.refl _) rfl
      refine ⟨fun y w' hS hF K hK => ?_, ?_⟩
      · skip -- 26: fieldAddr
        have e34 : y 34 = _ := hF.1
        simp only [fillL, cond_true, cond_false, List.getD_cons_zero, List.getD_cons_succ, StP.is, Act.put, List.setIfInBounds_toArray, List.set_cons_zero, List.set_cons_succ, Nat.reduceAdd, e34] at hK ⊢
        refine rg_no (by kernel_rfl) ?_
        exact hK _ _ (Ext.refl _) rfl
      refine ⟨fun y w' hS hF K hK => ?_, ?_⟩
      · skip -- 27: fieldAddr
        have e34 : y 34 = _ := hF.1
        have e35 : y 35 = _ := hF.2.1
        simp only [fillL, cond_true, cond_false, List.getD_cons_zero, List.getD_cons_succ, StP.is, Act.put, List.setIfInBounds_toArray, List.set_cons_zero, List.set_cons_succ, Nat.reduceAdd, e34, e35] at hK ⊢
        refine rg_no (by kernel_rfl) ?_
        exact hK _ _ (Ext.refl _) rfl
      refine ⟨fun y w' hS hF K hK => ?_, ?_⟩
      · skip -- 28: load
        have e34 : y 34 = _ := hF.1
        have e36 : y 36 = _ := hF.2.1
        simp only [fillL, cond_true, cond_false, List.getD_cons_zero, List.getD_cons_succ, StP.is, Act.put, List.setIfInBounds_toArray, List.set_cons_zero, List.set_cons_succ, Nat.reduceAdd, e34, e36] at hK ⊢
        refine rg_no (by kernel_rfl) ?_
        exact hK _ _ (Ext.refl _) rfl
      refine ⟨fun y w' hS hF K hK => ?_, ?_⟩
      · skip -- 29: call
        have e34 : y 34 = _ := hF.1
        have e37 : y 37 = _ := hF.2.1
        simp only [fillL, cond_true, cond_false, List.getD_cons_zero, List.getD_cons_succ, StP.is, Act.put, List.setIfInBounds_toArray, List.set_cons_zero, List.set_cons_succ, Nat.reduceAdd, e34, e37] at hK ⊢
        refine rg_no (by kernel_rfl) ?_
        exact hK _ _ (Ext.refl _) rfl
      refine ⟨fun y w' hS hF K hK => ?_, ?_⟩
      · skip -- 30: fieldAddr
        have e34 : y 34 = _ := hF.1
        simp only [fillL, cond_true, cond_false, List.getD_cons_zero, List.getD_cons_succ, StP.is, Act.put, List.setIfInBounds_toArray, List.set_cons_zero, List.set_cons_succ, Nat.reduceAdd, e34] at hK ⊢
        refine rg_no (by kernel_rfl) ?_
        exact hK _ _ (Ext.refl _) rfl
      refine ⟨fun y w' hS hF K hK => ?_, ?_⟩
      · skip -- 31: load
        have e34 : y 34 = _ := hF.1
        have e39 : y 39 = _ := hF.2.1
        simp only [fillL, cond_true, cond_false, List.getD_cons_zero, List.getD_cons_succ, StP.is, Act.put, List.setIfInBounds_toArray, List.set_cons_zero, List.set_cons_succ, Nat.reduceAdd, e34, e39] at hK ⊢
        refine rg_no (by kernel_rfl) ?_
        exact hK _ _ (Ext.refl _) rfl
      refine ⟨fun y w' hS hF K hK => ?_, ?_⟩
      · skip -- 32: binOp
        have e34 : y 34 = _ := hF.1
        have e38 : y 38 = _ := hF.2.1
        have e40 : y 40 = _ := hF.2.2.1
        simp only [fillL, cond_true, cond_false, List.getD_cons_zero, List.getD_cons_succ, StP.is, Act.put, List.setIfInBounds_toArray, List.set_cons_zero, List.set_cons_succ, Nat.reduceAdd, e34, e38, e40] at hK ⊢
        refine rg_no (by kernel_rfl) ?_
        exact hK _ _ (Ext.refl _) rfl
      refine ⟨fun y w' hS hF K hK => ?_, ?_⟩
      · skip -- 33: pick
        have e34 : y 34 = _ := hF.1
        have e41 : y 41 = _ := hF.2.1
        simp only [fillL, cond_true, cond_false, List.getD_cons_zero, List.getD_cons_succ, StP.is, Act.put, List.setIfInBounds_toArray, List.set_cons_zero, List.set_cons_succ, Nat.reduceAdd, e34, e41] at hK ⊢
        refine rg_yes (by kernel_rfl) ?_
        clear e34 e41
        clear hF
        go_simp
        exact hK _ _ (Ext.refl _) rfl
      trivial
    case hend =>
      intro y w2 hX hF
      have e42 : y 42 = _ := hF.2.2.2.2.2.2.2.2.2.2.2.2.2.2.2.2.2.2.2.2.2.2.2.2.2.2.2.2.2.2.2.2.2.1
      clear hF
      simp only [fillL, cond_true, cond_false, Nat.reduceAdd, e42]
      clear e42 b0 b1 b2 b3 b4 b5 b6 b7
      have HB2 : Hid (Below w1.heap.size w1 w2) := Lib.hid hX
      have HB3 : Hid (Below w.heap.size w w2) := Lib.hid (HB1.out.trans (Below.mono hX HB1.out.size))
      clear hX
      go_wp2_with fail
      go_ret
      exact ⟨ret_bool (HBAD.out (fun h => by have h_ : inB keep 0 (txg - 1) = true := h.keep; rw [E3.out] at h_; cases h_)), HB3.out⟩
  have E3 := Lib.hid e3; clear e3
  have hkp : 0 ≤ keep ∧ keep ≤ txg - 1 := by have := E3.out; unfold inB at this; simpa using this
  obtain ⟨M, hM⟩ : ∃ M, maxI last = M := ⟨_, rfl⟩
  have E4 := Lib.hid hM; clear hM
  by_cases h5 : txg < M
  · have d5 : decide (txg < M) = true := by simp [h5]
    have b0 := cell_of_row _ _ 0 _ _ (0, 0) HBX.out; have b1 := cell_of_row _ _ 1 _ _ (0, 0) HBX.out; have b2 := cell_of_row _ _ 2 _ _ (0, 0) HBX.out; have b3 := cell_of_row _ _ 3 _ _ (0, 0) HBX.out; have b4 := cell_of_row _ _ 4 _ _ (0, 0) HBX.out; have b5 := cell_of_row _ _ 5 _ _ (0, 0) HBX.out; have b6 := cell_of_row _ _ 6 _ _ (0, 0) HBX.out; have b7 := cell_of_row _ _ 7 _ _ (0, 0) HBX.out
    go_wp2_with fail
    apply wp_region_rg (by kernel_rfl) (false :: false :: false :: false :: false :: false :: false :: false :: false :: true :: true :: true :: true :: true :: true :: true :: true :: true :: true :: true :: true :: true :: true :: true :: true :: true :: true :: true :: true :: true :: true :: true :: true :: true :: true :: true :: true :: true :: true :: true :: true :: true :: true :: false :: false :: false :: false :: false :: false :: false :: false :: false :: false :: false :: false :: false :: false :: false :: false :: false :: false :: false :: false :: false :: false :: false :: false :: false :: false :: false :: false :: false :: false :: false :: false :: false :: false :: false :: false :: false :: false :: false :: false :: false :: false :: false :: false :: false :: false :: false :: false :: false :: false :: false :: false :: false :: false :: false :: false :: false :: false :: false :: []) (some 9 :: some 10 :: some 11 :: some 12 :: some 13 :: some 14 :: some 15 :: some 16 :: some 17 :: some 18 :: some 19 :: some 20 :: some 21 :: some 22 :: some 23 :: some 24 :: some 25 :: some 26 :: some 27 :: some 28 :: some 29 :: some 30 :: some 31 :: some 32 :: some 33 :: some 34 :: some 35 :: some 36 :: some 37 :: some 38 :: some 39 :: some 40 :: some 41 :: some 42 :: []) ([] :: [0] :: [1] :: [2] :: [3] :: [4] :: [4, 5] :: [4, 6] :: [4, 7] :: [4, 8] :: [9] :: [10] :: [10, 11] :: [10, 12] :: [10, 13] :: [10, 14] :: [15] :: [16] :: [16, 17] :: [16] :: [16, 19] :: [16, 20] :: [16, 18, 21] :: [16, 22] :: [16, 23] :: [24] :: [25] :: [25, 26] :: [25, 27] :: [25, 28] :: [25] :: [25, 30] :: [25, 29, 31] :: [25, 32] :: []) (StP.is _ :: StP.is _ :: StP.is _ :: StP.is _ :: StP.is _ :: StP.is _ :: StP.is _ :: StP.is _ :: StP.is _ :: StP.is _ :: StP.is _ :: StP.is _ :: StP.is _ :: StP.is _ :: StP.is _ :: StP.is _ :: StP.is _ :: StP.is _ :: StP.is _ :: StP.is _ :: StP.is _ :: StP.is _ :: StP.is _ :: StP.is _ :: StP.is _ :: StP.is _ :: StP.is _ :: StP.is _ :: StP.is _ :: StP.is _ :: StP.is _ :: StP.is _ :: StP.is _ :: StP.is _ :: []) (by kernel_rfl)
    case hobs =>
      refine ⟨fun y w' hS hF K hK => ?_, ?_⟩
      · skip -- 0: fieldAddr
        simp only [fillL, cond_true, cond_false, List.getD_cons_zero, List.getD_cons_succ, StP.is, Act.put, List.setIfInBounds_toArray, List.set_cons_zero, List.set_cons_succ, Nat.reduceAdd] at hK ⊢
        refine rg_yes (by kernel_rfl) ?_
        clear hF
        go_simp
        exact hK _ _ (Ext.refl _) rfl
      refine ⟨fun y w' hS hF K hK => ?_, ?_⟩
      · skip -- 1: load
        have e9 : y 9 = _ := hF.1
        simp only [fillL, cond_true, cond_false, List.getD_cons_zero, List.getD_cons_succ, StP.is, Act.put, List.setIfInBounds_toArray, List.set_cons_zero, List.set_cons_succ, Nat.reduceAdd, e9] at hK ⊢
        refine rg_yes (by kernel_rfl) ?_
        have qx0_ := (Below.cell hS l1).trans b0
        have qx1_ := (Below.cell hS l1).trans b1
        have qx2_ := (Below.cell hS l1).trans b2
        have qx3_ := (Below.cell hS l1).trans b3
        have qx4_ := (Below.cell hS l1).trans b4
        have qx5_ := (Below.cell hS l1).trans b5
        have qx6_ := (Below.cell hS l1).trans b6
        have qx7_ := (Below.cell hS l1).trans b7
        clear e9
        clear hF
        go_simp
        exact hK _ _ (Ext.refl _) rfl
      refine ⟨fun y w' hS hF K hK => ?_, ?_⟩
      · skip -- 2: call
        have e10 : y 10 = _ := hF.1
        simp only [fillL, cond_true, cond_false, List.getD_cons_zero, List.getD_cons_succ, StP.is, Act.put, List.setIfInBounds_toArray, List.set_cons_zero, List.set_cons_succ, Nat.reduceAdd, e10] at hK ⊢
        refine rg_yes (by kernel_rfl) ?_
        have qx0_ := (Below.cell hS l1).trans b0
        have qx1_ := (Below.cell hS l1).trans b1
        have qx2_ := (Below.cell hS l1).trans b2
        have qx3_ := (Below.cell hS l1).trans b3
        have qx4_ := (Below.cell hS l1).trans b4
        have qx5_ := (Below.cell hS l1).trans b5
        have qx6_ := (Below.cell hS l1).trans b6
        have qx7_ := (Below.cell hS l1).trans b7
        clear e10
        clear hF
        go_simp
        exact hK _ _ (Ext.refl _) rfl
      refine ⟨fun y w' hS hF K hK => ?_, ?_⟩
      · skip -- 3: binOp
        have e11 : y 11 = _ := hF.1
        simp only [fillL, cond_true, cond_false, List.getD_cons_zero, List.getD_cons_succ, StP.is, Act.put, List.setIfInBounds_toArray, List.set_cons_zero, List.set_cons_succ, Nat.reduceAdd, e11] at hK ⊢
        refine rg_yes (by kernel_rfl) ?_
        clear e11
        clear hF
        go_simp
        exact hK _ _ (Ext.refl _) rfl
      refine ⟨fun y w' hS hF K hK => ?_, ?_⟩
      · skip -- 4: move
        have e12 : y 12 = _ := hF.1
        simp only [fillL, cond_true, cond_false, List.getD_cons_zero, List.getD_cons_succ, StP.is, Act.put, List.setIfInBounds_toArray, List.set_cons_zero, List.set_cons_succ, Nat.reduceAdd, e12] at hK ⊢
        refine rg_yes (by kernel_rfl) ?_
        clear e12
        clear hF
        go_simp
        exact hK _ _ (Ext.refl _) rfl
      refine ⟨fun y w' hS hF K hK => ?_, ?_⟩
      · skip -- 5: fieldAddr
        have e13 : y 13 = _ := hF.1
        simp only [fillL, cond_true, cond_false, List.getD_cons_zero, List.getD_cons_succ, StP.is, Act.put, List.setIfInBounds_toArray, List.set_cons_zero, List.set_cons_succ, Nat.reduceAdd, e13] at hK ⊢
        refine rg_yes (by kernel_rfl) ?_
        clear e13
        clear hF
        go_simp
        exact hK _ _ (Ext.refl _) rfl
      refine ⟨fun y w' hS hF K hK => ?_, ?_⟩
      · skip -- 6: load
        have e13 : y 13 = _ := hF.1
        have e14 : y 14 = _ := hF.2.1
        simp only [fillL, cond_true, cond_false, List.getD_cons_zero, List.getD_cons_succ, StP.is, Act.put, List.setIfInBounds_toArray, List.set_cons_zero, List.set_cons_succ, Nat.reduceAdd, e13, e14] at hK ⊢
        refine rg_yes (by kernel_rfl) ?_
        have qx0_ := (Below.cell hS l1).trans b0
        have qx1_ := (Below.cell hS l1).trans b1
        have qx2_ := (Below.cell hS l1).trans b2
        have qx3_ := (Below.cell hS l1).trans b3
        have qx4_ := (Below.cell hS l1).trans b4
        have qx5_ := (Below.cell hS l1).trans b5
        have qx6_ := (Below.cell hS l1).trans b6
        have qx7_ := (Below.cell hS l1).trans b7
        clear e13 e14
        clear hF
        go_simp
        exact hK _ _ (Ext.refl _) rfl
      refine ⟨fun y w' hS hF K hK => ?_, ?_⟩
      · skip -- 7: call
        have e13 : y 13 = _ := hF.1
        have e15 : y 15 = _ := hF.2.1
        simp only [fillL, cond_true, cond_false, List.getD_cons_zero, List.getD_cons_succ, StP.is, Act.put, List.setIfInBounds_toArray, List.set_cons_zero, List.set_cons_succ, Nat.reduceAdd, e13, e15] at hK ⊢
        refine rg_yes (by kernel_rfl) ?_
        clear e13 e15
        clear hF
        go_simp
        go_at_call 46
        refine (spaceOk_any _ _ _ _ _ _ refs last _ (HWI.out w' hS).1 (HWI.out w' hS).2).mono ?_
        rw [E1.out]
        rintro e w'' ⟨rfl, hb⟩
        exact hK _ _ hb rfl
      refine ⟨fun y w' hS hF K hK => ?_, ?_⟩
      · skip -- 8: unOp
        have e13 : y 13 = _ := hF.1
        have e16 : y 16 = _ := hF.2.1
        simp only [fillL, cond_true, cond_false, List.getD_cons_zero, List.getD_cons_succ, StP.is, Act.put, List.setIfInBounds_toArray, List.set_cons_zero, List.set_cons_succ, Nat.reduceAdd, e13, e16] at hK ⊢
        refine rg_yes (by kernel_rfl) ?_
        clear e13 e16
        clear hF
        go_simp
        exact hK _ _ (Ext.refl _) rfl
      refine ⟨fun y w' hS hF K hK => ?_, ?_⟩
      · skip -- 9: pick
        have e13 : y 13 = _ := hF.1
        have e17 : y 17 = _ := hF.2.1
        simp only [fillL, cond_true, cond_false, List.getD_cons_zero, List.getD_cons_succ, StP.is, Act.put, List.setIfInBounds_toArray, List.set_cons_zero, List.set_cons_succ, Nat.reduceAdd, e13, e17] at hK ⊢
        refine rg_yes (by kernel_rfl) ?_
        clear e13 e17
        clear hF
        go_simp
        exact hK _ _ (Ext.refl _) rfl
      refine ⟨fun y w' hS hF K hK => ?_, ?_⟩
      · skip -- 10: move
        have e18 : y 18 = _ := hF.1
        simp only [fillL, cond_true, cond_false, List.getD_cons_zero, List.getD_cons_succ, StP.is, Act.put, List.setIfInBounds_toArray, List.set_cons_zero, List.set_cons_succ, Nat.reduceAdd, e18] at hK ⊢
        refine rg_yes (by kernel_rfl) ?_
        clear e18
        clear hF
        go_simp
        exact hK _ _ (Ext.refl _) rfl
      refine ⟨fun y w' hS hF K hK => ?_, ?_⟩
      · skip -- 11: fieldAddr
        have e19 : y 19 = _ := hF.1
        simp only [fillL, cond_true, cond_false, List.getD_cons_zero, List.getD_cons_succ, StP.is, Act.put, List.setIfInBounds_toArray, List.set_cons_zero, List.set_cons_succ, Nat.reduceAdd, e19] at hK ⊢
        refine rg_yes (by kernel_rfl) ?_
        clear e19
        clear hF
        go_simp
        exact hK _ _ (Ext.refl _) rfl
      refine ⟨fun y w' hS hF K hK => ?_, ?_⟩
      · skip -- 12: load
        have e19 : y 19 = _ := hF.1
        have e20 : y 20 = _ := hF.2.1
        simp only [fillL, cond_true, cond_false, List.getD_cons_zero, List.getD_cons_succ, StP.is, Act.put, List.setIfInBounds_toArray, List.set_cons_zero, List.set_cons_succ, Nat.reduceAdd, e19, e20] at hK ⊢
        refine rg_yes (by kernel_rfl) ?_
        have qx0_ := (Below.cell hS l1).trans b0
        have qx1_ := (Below.cell hS l1).trans b1
        have qx2_ := (Below.cell hS l1).trans b2
        have qx3_ := (Below.cell hS l1).trans b3
        have qx4_ := (Below.cell hS l1).trans b4
        have qx5_ := (Below.cell hS l1).trans b5
        have qx6_ := (Below.cell hS l1).trans b6
        have qx7_ := (Below.cell hS l1).trans b7
        clear e19 e20
        clear hF
        go_simp
        exact hK _ _ (Ext.refl _) rfl
      refine ⟨fun y w' hS hF K hK => ?_, ?_⟩
      · skip -- 13: call
        have e19 : y 19 = _ := hF.1
        have e21 : y 21 = _ := hF.2.1
        simp only [fillL, cond_true, cond_false, List.getD_cons_zero, List.getD_cons_succ, StP.is, Act.put, List.setIfInBounds_toArray, List.set_cons_zero, List.set_cons_succ, Nat.reduceAdd, e19, e21] at hK ⊢
        refine rg_yes (by kernel_rfl) ?_
        clear e19 e21
        clear hF
        go_simp
        go_at_call 47
        refine (within_any _ _ _ _).mono ?_
        rw [E2.out]
        rintro e w'' ⟨rfl, rfl⟩
        exact hK _ _ (Ext.refl _) rfl
      refine ⟨fun y w' hS hF K hK => ?_, ?_⟩
      · skip -- 14: unOp
        have e19 : y 19 = _ := hF.1
        have e22 : y 22 = _ := hF.2.1
        simp only [fillL, cond_true, cond_false, List.getD_cons_zero, List.getD_cons_succ, StP.is, Act.put, List.setIfInBounds_toArray, List.set_cons_zero, List.set_cons_succ, Nat.reduceAdd, e19, e22] at hK ⊢
        refine rg_yes (by kernel_rfl) ?_
        clear e19 e22
        clear hF
        go_simp
        exact hK _ _ (Ext.refl _) rfl
      refine ⟨fun y w' hS hF K hK => ?_, ?_⟩
      · skip -- 15: pick
        have e19 : y 19 = _ := hF.1
        have e23 : y 23 = _ := hF.2.1
        simp only [fillL, cond_true, cond_false, List.getD_cons_zero, List.getD_cons_succ, StP.is, Act.put, List.setIfInBounds_toArray, List.set_cons_zero, List.set_cons_succ, Nat.reduceAdd, e19, e23] at hK ⊢
        refine rg_yes (by kernel_rfl) ?_
        clear e19 e23
        clear hF
        go_simp
        exact hK _ _ (Ext.refl _) rfl
      refine ⟨fun y w' hS hF K hK => ?_, ?_⟩
      · skip -- 16: move
        have e24 : y 24 = _ := hF.1
        simp only [fillL, cond_true, cond_false, List.getD_cons_zero, List.getD_cons_succ, StP.is, Act.put, List.setIfInBounds_toArray, List.set_cons_zero, List.set_cons_succ, Nat.reduceAdd, e24] at hK ⊢
        refine rg_yes (by kernel_rfl) ?_
        clear e24
        clear hF
        go_simp
        exact hK _ _ (Ext.refl _) rfl
      refine ⟨fun y w' hS hF K hK => ?_, ?_⟩
      · skip -- 17: fieldAddr
        have e25 : y 25 = _ := hF.1
        simp only [fillL, cond_true, cond_false, List.getD_cons_zero, List.getD_cons_succ, StP.is, Act.put, List.setIfInBounds_toArray, List.set_cons_zero, List.set_cons_succ, Nat.reduceAdd, e25] at hK ⊢
        refine rg_yes (by kernel_rfl) ?_
        clear e25
        clear hF
        go_simp
        exact hK _ _ (Ext.refl _) rfl
      refine ⟨fun y w' hS hF K hK => ?_, ?_⟩
      · skip -- 18: load
        have e25 : y 25 = _ := hF.1
        have e26 : y 26 = _ := hF.2.1
        simp only [fillL, cond_true, cond_false, List.getD_cons_zero, List.getD_cons_succ, StP.is, Act.put, List.setIfInBounds_toArray, List.set_cons_zero, List.set_cons_succ, Nat.reduceAdd, e25, e26] at hK ⊢
        refine rg_yes (by kernel_rfl) ?_
        have qx0_ := (Below.cell hS l1).trans b0
        have qx1_ := (Below.cell hS l1).trans b1
        have qx2_ := (Below.cell hS l1).trans b2
        have qx3_ := (Below.cell hS l1).trans b3
        have qx4_ := (Below.cell hS l1).trans b4
        have qx5_ := (Below.cell hS l1).trans b5
        have qx6_ := (Below.cell hS l1).trans b6
        have qx7_ := (Below.cell hS l1).trans b7
        clear e25 e26
        clear hF
        go_simp
        exact hK _ _ (Ext.refl _) rfl
      refine ⟨fun y w' hS hF K hK => ?_, ?_⟩
      · skip -- 19: fieldAddr
        have e25 : y 25 = _ := hF.1
        simp only [fillL, cond_true, cond_false, List.getD_cons_zero, List.getD_cons_succ, StP.is, Act.put, List.setIfInBounds_toArray, List.set_cons_zero, List.set_cons_succ, Nat.reduceAdd, e25] at hK ⊢
        refine rg_yes (by kernel_rfl) ?_
        clear e25
        clear hF
        go_simp
        exact hK _ _ (Ext.refl _) rfl
      refine ⟨fun y w' hS hF K hK => ?_, ?_⟩
      · skip -- 20: load
        have e25 : y 25 = _ := hF.1
        have e28 : y 28 = _ := hF.2.1
        simp only [fillL, cond_true, cond_false, List.getD_cons_zero, List.getD_cons_succ, StP.is, Act.put, List.setIfInBounds_toArray, List.set_cons_zero, List.set_cons_succ, Nat.reduceAdd, e25, e28] at hK ⊢
        refine rg_yes (by kernel_rfl) ?_
        have qx0_ := (Below.cell hS l1).trans b0
        have qx1_ := (Below.cell hS l1).trans b1
        have qx2_ := (Below.cell hS l1).trans b2
        have qx3_ := (Below.cell hS l1).trans b3
        have qx4_ := (Below.cell hS l1).trans b4
        have qx5_ := (Below.cell hS l1).trans b5
        have qx6_ := (Below.cell hS l1).trans b6
        have qx7_ := (Below.cell hS l1).trans b7
        clear e25 e28
        clear hF
        go_simp
        exact hK _ _ (Ext.refl _) rfl
      refine ⟨fun y w' hS hF K hK => ?_, ?_⟩
      · skip -- 21: binOp
        have e25 : y 25 = _ := hF.1
        have e29 : y 29 = _ := hF.2.1
        simp only [fillL, cond_true, cond_false, List.getD_cons_zero, List.getD_cons_succ, StP.is, Act.put, List.setIfInBounds_toArray, List.set_cons_zero, List.set_cons_succ, Nat.reduceAdd, e25, e29] at hK ⊢
        refine rg_yes (by kernel_rfl) ?_
        clear e25 e29
        clear hF
        go_simp
        exact hK _ _ (Ext.refl _) rfl
      refine ⟨fun y w' hS hF K hK => ?_, ?_⟩
      · skip -- 22: call
        have e25 : y 25 = _ := hF.1
        have e27 : y 27 = _ := hF.2.1
        have e30 : y 30 = _ := hF.2.2.1
        simp only [fillL, cond_true, cond_false, List.getD_cons_zero, List.getD_cons_succ, StP.is, Act.put, List.setIfInBounds_toArray, List.set_cons_zero, List.set_cons_succ, Nat.reduceAdd, e25, e27, e30] at hK ⊢
        refine rg_yes (by kernel_rfl) ?_
        clear e25 e27 e30
        clear hF
        go_simp
        go_at_call 47
        refine (within_any _ _ _ _).mono ?_
        rw [E3.out]
        rintro e w'' ⟨rfl, rfl⟩
        exact hK _ _ (Ext.refl _) rfl
      refine ⟨fun y w' hS hF K hK => ?_, ?_⟩
      · skip -- 23: unOp
        have e25 : y 25 = _ := hF.1
        have e31 : y 31 = _ := hF.2.1
        simp only [fillL, cond_true, cond_false, List.getD_cons_zero, List.getD_cons_succ, StP.is, Act.put, List.setIfInBounds_toArray, List.set_cons_zero, List.set_cons_succ, Nat.reduceAdd, e25, e31] at hK ⊢
        refine rg_yes (by kernel_rfl) ?_
        clear e25 e31
        clear hF
        go_simp
        exact hK _ _ (Ext.refl _) rfl
      refine ⟨fun y w' hS hF K hK => ?_, ?_⟩
      · skip -- 24: pick
        have e25 : y 25 = _ := hF.1
        have e32 : y 32 = _ := hF.2.1
        simp only [fillL, cond_true, cond_false, List.getD_cons_zero, List.getD_cons_succ, StP.is, Act.put, List.setIfInBounds_toArray, List.set_cons_zero, List.set_cons_succ, Nat.reduceAdd, e25, e32] at hK ⊢
        refine rg_yes (by kernel_rfl) ?_
        clear e25 e32
        clear hF
        go_simp
        exact hK _ _ (Ext.refl _) rfl
      refine ⟨fun y w' hS hF K hK => ?_, ?_⟩
      · skip -- 25: move
        have e33 : y 33 = _ := hF.1
        simp only [fillL, cond_true, cond_false, List.getD_cons_zero, List.getD_cons_succ, StP.is, Act.put, List.setIfInBounds_toArray, List.set_cons_zero, List.set_cons_succ, Nat.reduceAdd, e33] at hK ⊢
        refine rg_yes (by kernel_rfl) ?_
        clear e33
        clear hF
        go_simp
        exact hK _ _ (Ext.refl _) rfl
      refine ⟨fun y w' hS hF K hK => ?_, ?_⟩
      · skip -- 26: fieldAddr
        have e34 : y 34 = _ := hF.1
        simp only [fillL, cond_true, cond_false, List.getD_cons_zero, List.getD_cons_succ, StP.is, Act.put, List.setIfInBounds_toArray, List.set_cons_zero, List.set_cons_succ, Nat.reduceAdd, e34] at hK ⊢
        refine rg_yes (by kernel_rfl) ?_
        clear e34
        clear hF
        go_simp
        exact hK _ _ (Ext.refl _) rfl
      refine ⟨fun y w' hS hF K hK => ?_, ?_⟩
      · skip -- 27: fieldAddr
        have e34 : y 34 = _ := hF.1
        have e35 : y 35 = _ := hF.2.1
        simp only [fillL, cond_true, cond_false, List.getD_cons_zero, List.getD_cons_succ, StP.is, Act.put, List.setIfInBounds_toArray, List.set_cons_zero, List.set_cons_succ, Nat.reduceAdd, e34, e35] at hK ⊢
        refine rg_yes (by kernel_rfl) ?_
        clear e34 e35
        clear hF
        go_simp
        exact hK _ _ (Ext.refl _) rfl
      refine ⟨fun y w' hS hF K hK => ?_, ?_⟩
      · skip -- 28: load
        have e34 : y 34 = _ := hF.1
        have e36 : y 36 = _ := hF.2.1
        simp only [fillL, cond_true, cond_false, List.getD_cons_zero, List.getD_cons_succ, StP.is, Act.put, List.setIfInBounds_toArray, List.set_cons_zero, List.set_cons_succ, Nat.reduceAdd, e34, e36] at hK ⊢
        refine rg_yes (by kernel_rfl) ?_
        have qx0_ := (Below.cell hS l1).trans b0
        have qx1_ := (Below.cell hS l1).trans b1
        have qx2_ := (Below.cell hS l1).trans b2
        have qx3_ := (Below.cell hS l1).trans b3
        have qx4_ := (Below.cell hS l1).trans b4
        have qx5_ := (Below.cell hS l1).trans b5
        have qx6_ := (Below.cell hS l1).trans b6
        have qx7_ := (Below.cell hS l1).trans b7
        clear e34 e36
        clear hF
        go_simp
        exact hK _ _ (Ext.refl _) rfl
      refine ⟨fun y w' hS hF K hK => ?_, ?_⟩
      · skip -- 29: call
        have e34 : y 34 = _ := hF.1
        have e37 : y 37 = _ := hF.2.1
        simp only [fillL, cond_true, cond_false, List.getD_cons_zero, List.getD_cons_succ, StP.is, Act.put, List.setIfInBounds_toArray, List.set_cons_zero, List.set_cons_succ, Nat.reduceAdd, e34, e37] at hK ⊢
        refine rg_yes (by kernel_rfl) ?_
        clear e34 e37
        clear hF
        go_simp
        go_at_call 48
        refine (maxI_any _ _ _ last _ (HWI.out w' hS).2 (by omega)).mono ?_
        rw [E4.out]
        rintro e w'' ⟨rfl, rfl⟩
        exact hK _ _ (Ext.refl _) rfl
      refine ⟨fun y w' hS hF K hK => ?_, ?_⟩
      · skip -- 30: fieldAddr
        have e34 : y 34 = _ := hF.1
        simp only [fillL, cond_true, cond_false, List.getD_cons_zero, List.getD_cons_succ, StP.is, Act.put, List.setIfInBounds_toArray, List.set_cons_zero, List.set_cons_succ, Nat.reduceAdd, e34] at hK ⊢
        refine rg_yes (by kernel_rfl) ?_
        clear e34
        clear hF
        go_simp
        exact hK _ _ (Ext.refl _) rfl
      refine ⟨fun y w' hS hF K hK => ?_, ?_⟩
      · skip -- 31: load
        have e34 : y 34 = _ := hF.1
        have e39 : y 39 = _ := hF.2.1
        simp only [fillL, cond_true, cond_false, List.getD_cons_zero, List.getD_cons_succ, StP.is, Act.put, List.setIfInBounds_toArray, List.set_cons_zero, List.set_cons_succ, Nat.reduceAdd, e34, e39] at hK ⊢
        refine rg_yes (by kernel_rfl) ?_
        have qx0_ := (Below.cell hS l1).trans b0
        have qx1_ := (Below.cell hS l1).trans b1
        have qx2_ := (Below.cell hS l1).trans b2
        have qx3_ := (Below.cell hS l1).trans b3
        have qx4_ := (Below.cell hS l1).trans b4
        have qx5_ := (Below.cell hS l1).trans b5
        have qx6_ := (Below.cell hS l1).trans b6
        have qx7_ := (Below.cell hS l1).trans b7
        clear e34 e39
        clear hF
        go_simp
        exact hK _ _ (Ext.refl _) rfl
      refine ⟨fun y w' hS hF K hK => ?_, ?_⟩
      · skip -- 32: binOp
        have e34 : y 34 = _ := hF.1
        have e38 : y 38 = _ := hF.2.1
        have e40 : y 40 = _ := hF.2.2.1
        simp only [fillL, cond_true, cond_false, List.getD_cons_zero, List.getD_cons_succ, StP.is, Act.put, List.setIfInBounds_toArray, List.set_cons_zero, List.set_cons_succ, Nat.reduceAdd, e34, e38, e40] at hK ⊢
        refine rg_yes (by kernel_rfl) ?_
        clear e34 e38 e40
        clear hF
        go_simp
        exact hK _ _ (Ext.refl _) rfl
      refine ⟨fun y w' hS hF K hK => ?_, ?_⟩
      · skip -- 33: pick
        have e34 : y 34 = _ := hF.1
        have e41 : y 41 = _ := hF.2.1
        simp only [fillL, cond_true, cond_false, List.getD_cons_zero, List.getD_cons_succ, StP.is, Act.put, List.setIfInBounds_toArray, List.set_cons_zero, List.set_cons_succ, Nat.reduceAdd, e34, e41] at hK ⊢
        refine rg_yes (by kernel_rfl) ?_
        clear e34 e41
        clear hF
        go_simp
        exact hK _ _ (Ext.refl _) rfl
      trivial
    case hend =>
      intro y w2 hX hF
      have e42 : y 42 = _ := hF.2.2.2.2.2.2.2.2.2.2.2.2.2.2.2.2.2.2.2.2.2.2.2.2.2.2.2.2.2.2.2.2.2.1
      clear hF
      simp only [fillL, cond_true, cond_false, Nat.reduceAdd, e42]
      clear e42 b0 b1 b2 b3 b4 b5 b6 b7
      have HB2 : Hid (Below w1.heap.size w1 w2) := Lib.hid hX
      have HB3 : Hid (Below w.heap.size w w2) := Lib.hid (HB1.out.trans (Below.mono hX HB1.out.size))
      clear hX
      go_wp2_with fail
      go_ret
      exact ⟨ret_bool (HBAD.out (fun h => by have h_ : ∀ i, i < 64 → last.getD i 0 ≤ txg := h.last; have := (maxI_le (xs := last) (by rw [L2.out]; omega) txg).2 (fun i hi => h_ i (by rw [L2.out] at hi; exact hi)); rw [E4.out] at this; omega)), HB3.out⟩
  have HLAST : Hid (∀ i, i < 64 → last.getD i 0 ≤ txg) := Lib.hid (fun i hi => (maxI_le (xs := last) (by rw [L2.out]; omega) txg).1 (by rw [E4.out]; omega) i (by rw [L2.out]; exact hi))
  have b0 := cell_of_row _ _ 0 _ _ (0, 0) HBX.out; have b1 := cell_of_row _ _ 1 _ _ (0, 0) HBX.out; have b2 := cell_of_row _ _ 2 _ _ (0, 0) HBX.out; have b3 := cell_of_row _ _ 3 _ _ (0, 0) HBX.out; have b4 := cell_of_row _ _ 4 _ _ (0, 0) HBX.out; have b5 := cell_of_row _ _ 5 _ _ (0, 0) HBX.out; have b6 := cell_of_row _ _ 6 _ _ (0, 0) HBX.out; have b7 := cell_of_row _ _ 7 _ _ (0, 0) HBX.out
  go_wp2_with fail
  apply wp_region_rg (by kernel_rfl) (false :: false :: false :: false :: false :: false :: false :: false :: false :: true :: true :: true :: true :: true :: true :: true :: true :: true :: true :: true :: true :: true :: true :: true :: true :: true :: true :: true :: true :: true :: true :: true :: true :: true :: true :: true :: true :: true :: true :: true :: true :: true :: true :: false :: false :: false :: false :: false :: false :: false :: false :: false :: false :: false :: false :: false :: false :: false :: false :: false :: false :: false :: false :: false :: false :: false :: false :: false :: false :: false :: false :: false :: false :: false :: false :: false :: false :: false :: false :: false :: false :: false :: false :: false :: false :: false :: false :: false :: false :: false :: false :: false :: false :: false :: false :: false :: false :: false :: false :: false :: false :: false :: []) (some 9 :: some 10 :: some 11 :: some 12 :: some 13 :: some 14 :: some 15 :: some 16 :: some 17 :: some 18 :: some 19 :: some 20 :: some 21 :: some 22 :: some 23 :: some 24 :: some 25 :: some 26 :: some 27 :: some 28 :: some 29 :: some 30 :: some 31 :: some 32 :: some 33 :: some 34 :: some 35 :: some 36 :: some 37 :: some 38 :: some 39 :: some 40 :: some 41 :: some 42 :: []) ([] :: [0] :: [1] :: [2] :: [3] :: [4] :: [4, 5] :: [4, 6] :: [4, 7] :: [4, 8] :: [9] :: [10] :: [10, 11] :: [10, 12] :: [10, 13] :: [10, 14] :: [15] :: [16] :: [16, 17] :: [16] :: [16, 19] :: [16, 20] :: [16, 18, 21] :: [16, 22] :: [16, 23] :: [24] :: [25] :: [25, 26] :: [25, 27] :: [25, 28] :: [25] :: [25, 30] :: [25, 29, 31] :: [25, 32] :: []) (StP.is _ :: StP.is _ :: StP.is _ :: StP.is _ :: StP.is _ :: StP.is _ :: StP.is _ :: StP.is _ :: StP.is _ :: StP.is _ :: StP.is _ :: StP.is _ :: StP.is _ :: StP.is _ :: StP.is _ :: StP.is _ :: StP.is _ :: StP.is _ :: StP.is _ :: StP.is _ :: StP.is _ :: StP.is _ :: StP.is _ :: StP.is _ :: StP.is _ :: StP.is _ :: StP.is _ :: StP.is _ :: StP.is _ :: StP.is _ :: StP.is _ :: StP.is _ :: StP.is _ :: StP.is _ :: []) (by kernel_rfl)
  case hobs =>
    refine ⟨fun y w' hS hF K hK => ?_, ?_⟩
    · skip -- 0: fieldAddr
      simp only [fillL, cond_true, cond_false, List.getD_cons_zero, List.getD_cons_succ, StP.is, Act.put, List.setIfInBounds_toArray, List.set_cons_zero, List.set_cons_succ, Nat.reduceAdd] at hK ⊢
      refine rg_yes (by kernel_rfl) ?_
      clear hF
      go_simp
      exact hK _ _ (Ext.refl _) rfl
    refine ⟨fun y w' hS hF K hK => ?_, ?_⟩
    · skip -- 1: load
      have e9 : y 9 = _ := hF.1
      simp only [fillL, cond_true, cond_false, List.getD_cons_zero, List.getD_cons_succ, StP.is, Act.put, List.setIfInBounds_toArray, List.set_cons_zero, List.set_cons_succ, Nat.reduceAdd, e9] at hK ⊢
      refine rg_yes (by kernel_rfl) ?_
      have qx0_ := (Below.cell hS l1).trans b0
      have qx1_ := (Below.cell hS l1).trans b1
      have qx2_ := (Below.cell hS l1).trans b2
      have qx3_ := (Below.cell hS l1).trans b3
      have qx4_ := (Below.cell hS l1).trans b4
      have qx5_ := (Below.cell hS l1).trans b5
      have qx6_ := (Below.cell hS l1).trans b6
      have qx7_ := (Below.cell hS l1).trans b7
      clear e9
      clear hF
      go_simp
      exact hK _ _ (Ext.refl _) rfl
    refine ⟨fun y w' hS hF K hK => ?_, ?_⟩
    · skip -- 2: call
      have e10 : y 10 = _ := hF.1
      simp only [fillL, cond_true, cond_false, List.getD_cons_zero, List.getD_cons_succ, StP.is, Act.put, List.setIfInBounds_toArray, List.set_cons_zero, List.set_cons_succ, Nat.reduceAdd, e10] at hK ⊢
      refine rg_yes (by kernel_rfl) ?_
      have qx0_ := (Below.cell hS l1).trans b0
      have qx1_ := (Below.cell hS l1).trans b1
      have qx2_ := (Below.cell hS l1).trans b2
      have qx3_ := (Below.cell hS l1).trans b3
      have qx4_ := (Below.cell hS l1).trans b4
      have qx5_ := (Below.cell hS l1).trans b5
      have qx6_ := (Below.cell hS l1).trans b6
      have qx7_ := (Below.cell hS l1).trans b7
      clear e10
      clear hF
      go_simp
      exact hK _ _ (Ext.refl _) rfl
    refine ⟨fun y w' hS hF K hK => ?_, ?_⟩
    · skip -- 3: binOp
      have e11 : y 11 = _ := hF.1
      simp only [fillL, cond_true, cond_false, List.getD_cons_zero, List.getD_cons_succ, StP.is, Act.put, List.setIfInBounds_toArray, List.set_cons_zero, List.set_cons_succ, Nat.reduceAdd, e11] at hK ⊢
      refine rg_yes (by kernel_rfl) ?_
      clear e11
      clear hF
      go_simp
      exact hK _ _ (Ext.refl _) rfl
    refine ⟨fun y w' hS hF K hK => ?_, ?_⟩
    · skip -- 4: move
      have e12 : y 12 = _ := hF.1
      simp only [fillL, cond_true, cond_false, List.getD_cons_zero, List.getD_cons_succ, StP.is, Act.put, List.setIfInBounds_toArray, List.set_cons_zero, List.set_cons_succ, Nat.reduceAdd, e12] at hK ⊢
      refine rg_yes (by kernel_rfl) ?_
      clear e12
      clear hF
      go_simp
      exact hK _ _ (Ext.refl _) rfl
    refine ⟨fun y w' hS hF K hK => ?_, ?_⟩
    · skip -- 5: fieldAddr
      have e13 : y 13 = _ := hF.1
      simp only [fillL, cond_true, cond_false, List.getD_cons_zero, List.getD_cons_succ, StP.is, Act.put, List.setIfInBounds_toArray, List.set_cons_zero, List.set_cons_succ, Nat.reduceAdd, e13] at hK ⊢
      refine rg_yes (by kernel_rfl) ?_
      clear e13
      clear hF
      go_simp
      exact hK _ _ (Ext.refl _) rfl
    refine ⟨fun y w' hS hF K hK => ?_, ?_⟩
    · skip -- 6: load
      have e13 : y 13 = _ := hF.1
      have e14 : y 14 = _ := hF.2.1
      simp only [fillL, cond_true, cond_false, List.getD_cons_zero, List.getD_cons_succ, StP.is, Act.put, List.setIfInBounds_toArray, List.set_cons_zero, List.set_cons_succ, Nat.reduceAdd, e13, e14] at hK ⊢
      refine rg_yes (by kernel_rfl) ?_
      have qx0_ := (Below.cell hS l1).trans b0
      have qx1_ := (Below.cell hS l1).trans b1
      have qx2_ := (Below.cell hS l1).trans b2
      have qx3_ := (Below.cell hS l1).trans b3
      have qx4_ := (Below.cell hS l1).trans b4
      have qx5_ := (Below.cell hS l1).trans b5
      have qx6_ := (Below.cell hS l1).trans b6
      have qx7_ := (Below.cell hS l1).trans b7
      clear e13 e14
      clear hF
      go_simp
      exact hK _ _ (Ext.refl _) rfl
    refine ⟨fun y w' hS hF K hK => ?_, ?_⟩
    · skip -- 7: call
      have e13 : y 13 = _ := hF.1
      have e15 : y 15 = _ := hF.2.1
      simp only [fillL, cond_true, cond_false, List.getD_cons_zero, List.getD_cons_succ, StP.is, Act.put, List.setIfInBounds_toArray, List.set_cons_zero, List.set_cons_succ, Nat.reduceAdd, e13, e15] at hK ⊢
      refine rg_yes (by kernel_rfl) ?_
      clear e13 e15
      clear hF
      go_simp
      go_at_call 46
      refine (spaceOk_any _ _ _ _ _ _ refs last _ (HWI.out w' hS).1 (HWI.out w' hS).2).mono ?_
      rw [E1.out]
      rintro e w'' ⟨rfl, hb⟩
      exact hK _ _ hb rfl
    refine ⟨fun y w' hS hF K hK => ?_, ?_⟩
    · skip -- 8: unOp
      have e13 : y 13 = _ := hF.1
      have e16 : y 16 = _ := hF.2.1
      simp only [fillL, cond_true, cond_false, List.getD_cons_zero, List.getD_cons_succ, StP.is, Act.put, List.setIfInBounds_toArray, List.set_cons_zero, List.set_cons_succ, Nat.reduceAdd, e13, e16] at hK ⊢
      refine rg_yes (by kernel_rfl) ?_
      clear e13 e16
      clear hF
      go_simp
      exact hK _ _ (Ext.refl _) rfl
    refine ⟨fun y w' hS hF K hK => ?_, ?_⟩
    · skip -- 9: pick
      have e13 : y 13 = _ := hF.1
      have e17 : y 17 = _ := hF.2.1
      simp only [fillL, cond_true, cond_false, List.getD_cons_zero, List.getD_cons_succ, StP.is, Act.put, List.setIfInBounds_toArray, List.set_cons_zero, List.set_cons_succ, Nat.reduceAdd, e13, e17] at hK ⊢
      refine rg_yes (by kernel_rfl) ?_
      clear e13 e17
      clear hF
      go_simp
      exact hK _ _ (Ext.refl _) rfl
    refine ⟨fun y w' hS hF K hK => ?_, ?_⟩
    · skip -- 10: move
      have e18 : y 18 = _ := hF.1
      simp only [fillL, cond_true, cond_false, List.getD_cons_zero, List.getD_cons_succ, StP.is, Act.put, List.setIfInBounds_toArray, List.set_cons_zero, List.set_cons_succ, Nat.reduceAdd, e18] at hK ⊢
      refine rg_yes (by kernel_rfl) ?_
      clear e18
      clear hF
      go_simp
      exact hK _ _ (Ext.refl _) rfl
    refine ⟨fun y w' hS hF K hK => ?_, ?_⟩
    · skip -- 11: fieldAddr
      have e19 : y 19 = _ := hF.1
      simp only [fillL, cond_true, cond_false, List.getD_cons_zero, List.getD_cons_succ, StP.is, Act.put, List.setIfInBounds_toArray, List.set_cons_zero, List.set_cons_succ, Nat.reduceAdd, e19] at hK ⊢
      refine rg_yes (by kernel_rfl) ?_
      clear e19
      clear hF
      go_simp
      exact hK _ _ (Ext.refl _) rfl
    refine ⟨fun y w' hS hF K hK => ?_, ?_⟩
    · skip -- 12: load
      have e19 : y 19 = _ := hF.1
      have e20 : y 20 = _ := hF.2.1
      simp only [fillL, cond_true, cond_false, List.getD_cons_zero, List.getD_cons_succ, StP.is, Act.put, List.setIfInBounds_toArray, List.set_cons_zero, List.set_cons_succ, Nat.reduceAdd, e19, e20] at hK ⊢
      refine rg_yes (by kernel_rfl) ?_
      have qx0_ := (Below.cell hS l1).trans b0
      have qx1_ := (Below.cell hS l1).trans b1
      have qx2_ := (Below.cell hS l1).trans b2
      have qx3_ := (Below.cell hS l1).trans b3
      have qx4_ := (Below.cell hS l1).trans b4
      have qx5_ := (Below.cell hS l1).trans b5
      have qx6_ := (Below.cell hS l1).trans b6
      have qx7_ := (Below.cell hS l1).trans b7
      clear e19 e20
      clear hF
      go_simp
      exact hK _ _ (Ext.refl _) rfl
    refine ⟨fun y w' hS hF K hK => ?_, ?_⟩
    · skip -- 13: call
      have e19 : y 19 = _ := hF.1
      have e21 : y 21 = _ := hF.2.1
      simp only [fillL, cond_true, cond_false, List.getD_cons_zero, List.getD_cons_succ, StP.is, Act.put, List.setIfInBounds_toArray, List.set_cons_zero, List.set_cons_succ, Nat.reduceAdd, e19, e21] at hK ⊢
      refine rg_yes (by kernel_rfl) ?_
      clear e19 e21
      clear hF
      go_simp
      go_at_call 47
      refine (within_any _ _ _ _).mono ?_
      rw [E2.out]
      rintro e w'' ⟨rfl, rfl⟩
      exact hK _ _ (Ext.refl _) rfl
    refine ⟨fun y w' hS hF K hK => ?_, ?_⟩
    · skip -- 14: unOp
      have e19 : y 19 = _ := hF.1
      have e22 : y 22 = _ := hF.2.1
      simp only [fillL, cond_true, cond_false, List.getD_cons_zero, List.getD_cons_succ, StP.is, Act.put, List.setIfInBounds_toArray, List.set_cons_zero, List.set_cons_succ, Nat.reduceAdd, e19, e22] at hK ⊢
      refine rg_yes (by kernel_rfl) ?_
      clear e19 e22
      clear hF
      go_simp
      exact hK _ _ (Ext.refl _) rfl
    refine ⟨fun y w' hS hF K hK => ?_, ?_⟩
    · skip -- 15: pick
      have e19 : y 19 = _ := hF.1
      have e23 : y 23 = _ := hF.2.1
      simp only [fillL, cond_true, cond_false, List.getD_cons_zero, List.getD_cons_succ, StP.is, Act.put, List.setIfInBounds_toArray, List.set_cons_zero, List.set_cons_succ, Nat.reduceAdd, e19, e23] at hK ⊢
      refine rg_yes (by kernel_rfl) ?_
      clear e19 e23
      clear hF
      go_simp
      exact hK _ _ (Ext.refl _) rfl
    refine ⟨fun y w' hS hF K hK => ?_, ?_⟩
    · skip -- 16: move
      have e24 : y 24 = _ := hF.1
      simp only [fillL, cond_true, cond_false, List.getD_cons_zero, List.getD_cons_succ, StP.is, Act.put, List.setIfInBounds_toArray, List.set_cons_zero, List.set_cons_succ, Nat.reduceAdd, e24] at hK ⊢
      refine rg_yes (by kernel_rfl) ?_
      clear e24
      clear hF
      go_simp
      exact hK _ _ (Ext.refl _) rfl
    refine ⟨fun y w' hS hF K hK => ?_, ?_⟩
    · skip -- 17: fieldAddr
      have e25 : y 25 = _ := hF.1
      simp only [fillL, cond_true, cond_false, List.getD_cons_zero, List.getD_cons_succ, StP.is, Act.put, List.setIfInBounds_toArray, List.set_cons_zero, List.set_cons_succ, Nat.reduceAdd, e25] at hK ⊢
      refine rg_yes (by kernel_rfl) ?_
      clear e25
      clear hF
      go_simp
      exact hK _ _ (Ext.refl _) rfl
    refine ⟨fun y w' hS hF K hK => ?_, ?_⟩
    · skip -- 18: load
      have e25 : y 25 = _ := hF.1
      have e26 : y 26 = _ := hF.2.1
      simp only [fillL, cond_true, cond_false, List.getD_cons_zero, List.getD_cons_succ, StP.is, Act.put, List.setIfInBounds_toArray, List.set_cons_zero, List.set_cons_succ, Nat.reduceAdd, e25, e26] at hK ⊢
      refine rg_yes (by kernel_rfl) ?_
      have qx0_ := (Below.cell hS l1).trans b0
      have qx1_ := (Below.cell hS l1).trans b1
      have qx2_ := (Below.cell hS l1).trans b2
      have qx3_ := (Below.cell hS l1).trans b3
      have qx4_ := (Below.cell hS l1).trans b4
      have qx5_ := (Below.cell hS l1).trans b5
      have qx6_ := (Below.cell hS l1).trans b6
      have qx7_ := (Below.cell hS l1).trans b7
      clear e25 e26
      clear hF
      go_simp
      exact hK _ _ (Ext.refl _) rfl
    refine ⟨fun y w' hS hF K hK => ?_, ?_⟩
    · skip -- 19: fieldAddr
      have e25 : y 25 = _ := hF.1
      simp only [fillL, cond_true, cond_false, List.getD_cons_zero, List.getD_cons_succ, StP.is, Act.put, List.setIfInBounds_toArray, List.set_cons_zero, List.set_cons_succ, Nat.reduceAdd, e25] at hK ⊢
      refine rg_yes (by kernel_rfl) ?_
      clear e25
      clear hF
      go_simp
      exact hK _ _ (Ext.refl _) rfl
    refine ⟨fun y w' hS hF K hK => ?_, ?_⟩
    · skip -- 20: load
      have e25 : y 25 = _ := hF.1
      have e28 : y 28 = _ := hF.2.1
      simp only [fillL, cond_true, cond_false, List.getD_cons_zero, List.getD_cons_succ, StP.is, Act.put, List.setIfInBounds_toArray, List.set_cons_zero, List.set_cons_succ, Nat.reduceAdd, e25, e28] at hK ⊢
      refine rg_yes (by kernel_rfl) ?_
      have qx0_ := (Below.cell hS l1).trans b0
      have qx1_ := (Below.cell hS l1).trans b1
      have qx2_ := (Below.cell hS l1).trans b2
      have qx3_ := (Below.cell hS l1).trans b3
      have qx4_ := (Below.cell hS l1).trans b4
      have qx5_ := (Below.cell hS l1).trans b5
      have qx6_ := (Below.cell hS l1).trans b6
      have qx7_ := (Below.cell hS l1).trans b7
      clear e25 e28
      clear hF
      go_simp
      exact hK _ _ (Ext.refl _) rfl
    refine ⟨fun y w' hS hF K hK => ?_, ?_⟩
    · skip -- 21: binOp
      have e25 : y 25 = _ := hF.1
      have e29 : y 29 = _ := hF.2.1
      simp only [fillL, cond_true, cond_false, List.getD_cons_zero, List.getD_cons_succ, StP.is, Act.put, List.setIfInBounds_toArray, List.set_cons_zero, List.set_cons_succ, Nat.reduceAdd, e25, e29] at hK ⊢
      refine rg_yes (by kernel_rfl) ?_
      clear e25 e29
      clear hF
      go_simp
      exact hK _ _ (Ext.refl _) rfl
    refine ⟨fun y w' hS hF K hK => ?_, ?_⟩
    · skip -- 22: call
      have e25 : y 25 = _ := hF.1
      have e27 : y 27 = _ := hF.2.1
      have e30 : y 30 = _ := hF.2.2.1
      simp only [fillL, cond_true, cond_false, List.getD_cons_zero, List.getD_cons_succ, StP.is, Act.put, List.setIfInBounds_toArray, List.set_cons_zero, List.set_cons_succ, Nat.reduceAdd, e25, e27, e30] at hK ⊢
      refine rg_yes (by kernel_rfl) ?_
      clear e25 e27 e30
      clear hF
      go_simp
      go_at_call 47
      refine (within_any _ _ _ _).mono ?_
      rw [E3.out]
      rintro e w'' ⟨rfl, rfl⟩
      exact hK _ _ (Ext.refl _) rfl
    refine ⟨fun y w' hS hF K hK => ?_, ?_⟩
    · skip -- 23: unOp
      have e25 : y 25 = _ := hF.1
      have e31 : y 31 = _ := hF.2.1
      simp only [fillL, cond_true, cond_false, List.getD_cons_zero, List.getD_cons_succ, StP.is, Act.put, List.setIfInBounds_toArray, List.set_cons_zero, List.set_cons_succ, Nat.reduceAdd, e25, e31] at hK ⊢
      refine rg_yes (by kernel_rfl) ?_
      clear e25 e31
      clear hF
      go_simp
      exact hK _ _ (Ext.refl _) rfl
    refine ⟨fun y w' hS hF K hK => ?_, ?_⟩
    · skip -- 24: pick
      have e25 : y 25 = _ := hF.1
      have e32 : y 32 = _ := hF.2.1
      simp only [fillL, cond_true, cond_false, List.getD_cons_zero, List.getD_cons_succ, StP.is, Act.put, List.setIfInBounds_toArray, List.set_cons_zero, List.set_cons_succ, Nat.reduceAdd, e25, e32] at hK ⊢
      refine rg_yes (by kernel_rfl) ?_
      clear e25 e32
      clear hF
      go_simp
      exact hK _ _ (Ext.refl _) rfl
    refine ⟨fun y w' hS hF K hK => ?_, ?_⟩
    · skip -- 25: move
      have e33 : y 33 = _ := hF.1
      simp only [fillL, cond_true, cond_false, List.getD_cons_zero, List.getD_cons_succ, StP.is, Act.put, List.setIfInBounds_toArray, List.set_cons_zero, List.set_cons_succ, Nat.reduceAdd, e33] at hK ⊢
      refine rg_yes (by kernel_rfl) ?_
      clear e33
      clear hF
      go_simp
      exact hK _ _ (Ext.refl _) rfl
    refine ⟨fun y w' hS hF K hK => ?_, ?_⟩
    · skip -- 26: fieldAddr
      have e34 : y 34 = _ := hF.1
      simp only [fillL, cond_true, cond_false, List.getD_cons_zero, List.getD_cons_succ, StP.is, Act.put, List.setIfInBounds_toArray, List.set_cons_zero, List.set_cons_succ, Nat.reduceAdd, e34] at hK ⊢
      refine rg_yes (by kernel_rfl) ?_
      clear e34
      clear hF
      go_simp
      exact hK _ _ (Ext.refl _) rfl
    refine ⟨fun y w' hS hF K hK => ?_, ?_⟩
    · skip -- 27: fieldAddr
      have e34 : y 34 = _ := hF.1
      have e35 : y 35 = _ := hF.2.1
      simp only [fillL, cond_true, cond_false, List.getD_cons_zero, List.getD_cons_succ, StP.is, Act.put, List.setIfInBounds_toArray, List.set_cons_zero, List.set_cons_succ, Nat.reduceAdd, e34, e35] at hK ⊢
      refine rg_yes (by kernel_rfl) ?_
      clear e34 e35
      clear hF
      go_simp
      exact hK _ _ (Ext.refl _) rfl
    refine ⟨fun y w' hS hF K hK => ?_, ?_⟩
    · skip -- 28: load
      have e34 : y 34 = _ := hF.1
      have e36 : y 36 = _ := hF.2.1
      simp only [fillL, cond_true, cond_false, List.getD_cons_zero, List.getD_cons_succ, StP.is, Act.put, List.setIfInBounds_toArray, List.set_cons_zero, List.set_cons_succ, Nat.reduceAdd, e34, e36] at hK ⊢
      refine rg_yes (by kernel_rfl) ?_
      have qx0_ := (Below.cell hS l1).trans b0
      have qx1_ := (Below.cell hS l1).trans b1
      have qx2_ := (Below.cell hS l1).trans b2
      have qx3_ := (Below.cell hS l1).trans b3
      have qx4_ := (Below.cell hS l1).trans b4
      have qx5_ := (Below.cell hS l1).trans b5
      have qx6_ := (Below.cell hS l1).trans b6
      have qx7_ := (Below.cell hS l1).trans b7
      clear e34 e36
      clear hF
      go_simp
      exact hK _ _ (Ext.refl _) rfl
    refine ⟨fun y w' hS hF K hK => ?_, ?_⟩
    · skip -- 29: call
      have e34 : y 34 = _ := hF.1
      have e37 : y 37 = _ := hF.2.1
      simp only [fillL, cond_true, cond_false, List.getD_cons_zero, List.getD_cons_succ, StP.is, Act.put, List.setIfInBounds_toArray, List.set_cons_zero, List.set_cons_succ, Nat.reduceAdd, e34, e37] at hK ⊢
      refine rg_yes (by kernel_rfl) ?_
      clear e34 e37
      clear hF
      go_simp
      go_at_call 48
      refine (maxI_any _ _ _ last _ (HWI.out w' hS).2 (by omega)).mono ?_
      rw [E4.out]
      rintro e w'' ⟨rfl, rfl⟩
      exact hK _ _ (Ext.refl _) rfl
    refine ⟨fun y w' hS hF K hK => ?_, ?_⟩
    · skip -- 30: fieldAddr
      have e34 : y 34 = _ := hF.1
      simp only [fillL, cond_true, cond_false, List.getD_cons_zero, List.getD_cons_succ, StP.is, Act.put, List.setIfInBounds_toArray, List.set_cons_zero, List.set_cons_succ, Nat.reduceAdd, e34] at hK ⊢
      refine rg_yes (by kernel_rfl) ?_
      clear e34
      clear hF
      go_simp
      exact hK _ _ (Ext.refl _) rfl
    refine ⟨fun y w' hS hF K hK => ?_, ?_⟩
    · skip -- 31: load
      have e34 : y 34 = _ := hF.1
      have e39 : y 39 = _ := hF.2.1
      simp only [fillL, cond_true, cond_false, List.getD_cons_zero, List.getD_cons_succ, StP.is, Act.put, List.setIfInBounds_toArray, List.set_cons_zero, List.set_cons_succ, Nat.reduceAdd, e34, e39] at hK ⊢
      refine rg_yes (by kernel_rfl) ?_
      have qx0_ := (Below.cell hS l1).trans b0
      have qx1_ := (Below.cell hS l1).trans b1
      have qx2_ := (Below.cell hS l1).trans b2
      have qx3_ := (Below.cell hS l1).trans b3
      have qx4_ := (Below.cell hS l1).trans b4
      have qx5_ := (Below.cell hS l1).trans b5
      have qx6_ := (Below.cell hS l1).trans b6
      have qx7_ := (Below.cell hS l1).trans b7
      clear e34 e39
      clear hF
      go_simp
      exact hK _ _ (Ext.refl _) rfl
    refine ⟨fun y w' hS hF K hK => ?_, ?_⟩
    · skip -- 32: binOp
      have e34 : y 34 = _ := hF.1
      have e38 : y 38 = _ := hF.2.1
      have e40 : y 40 = _ := hF.2.2.1
      simp only [fillL, cond_true, cond_false, List.getD_cons_zero, List.getD_cons_succ, StP.is, Act.put, List.setIfInBounds_toArray, List.set_cons_zero, List.set_cons_succ, Nat.reduceAdd, e34, e38, e40] at hK ⊢
      refine rg_yes (by kernel_rfl) ?_
      clear e34 e38 e40
      clear hF
      go_simp
      exact hK _ _ (Ext.refl _) rfl
    refine ⟨fun y w' hS hF K hK => ?_, ?_⟩
    · skip -- 33: pick
      have e34 : y 34 = _ := hF.1
      have e41 : y 41 = _ := hF.2.1
      simp only [fillL, cond_true, cond_false, List.getD_cons_zero, List.getD_cons_succ, StP.is, Act.put, List.setIfInBounds_toArray, List.set_cons_zero, List.set_cons_succ, Nat.reduceAdd, e34, e41] at hK ⊢
      refine rg_yes (by kernel_rfl) ?_
      clear e34 e41
      clear hF
      go_simp
      exact hK _ _ (Ext.refl _) rfl
    trivial
  case hend =>
    intro y w2 hX hF
    have e42 : y 42 = _ := hF.2.2.2.2.2.2.2.2.2.2.2.2.2.2.2.2.2.2.2.2.2.2.2.2.2.2.2.2.2.2.2.2.2.1
    clear hF
    simp only [fillL, cond_true, cond_false, Nat.reduceAdd, e42]
    clear e42 b0 b1 b2 b3 b4 b5 b6 b7
    have HB2 : Hid (Below w1.heap.size w1 w2) := Lib.hid hX
    have HB3 : Hid (Below w.heap.size w w2) := Lib.hid (HB1.out.trans (Below.mono hX HB1.out.size))
    clear hX
    have HBX2 : Hid (w2.heap[w.heap.size]? = some (.cells #[.slice A0 64 c0, .slice A1 64 c1, .slice A2 64 c2, .int .i64 txg, .slice A3 n3 c3, .int .i64 keep, .slice A4 n4 c4, .bool same] 30 (0, 0))) := Lib.hid ((HB2.out.block _ l1).trans HBX.out)
    have b0 := cell_of_row _ _ 0 _ _ (0, 0) HBX2.out
    have l2 : w.heap.size < w2.heap.size := (Array.getElem?_eq_some_iff.1 HBX2.out).1
    have HI1 := Lib.hid (HWI.out w2 HB2.out).1
    have HR0 := Lib.hid (H0.out.below HB3.out (StrR.below HB3.out H0.out.lo_le))
    go_wp2_with fail
    go_loopw [46] (fun i wr => ∃ k : Nat, k ≤ 64 ∧ i = .int .i64 (k : Int) ∧ Hid (∀ j, j < k → rowT (refs.getD j 0) (rows.getD j ByteArray.empty)) ∧ SameW wr w2) (fun i _ => 64 - (intOf i).toNat)
    case atStart => exact ⟨0, Nat.zero_le _, rfl, Lib.hid (fun j hj => absurd hj (by omega)), SameW.refl _⟩
    case round =>
      obtain ⟨k, hk, rfl, HT, HW⟩ := hrel
      obtain rfl := HW.out
      clear HW
      by_cases hlt : k < 64
      · obtain ⟨s, hs⟩ : ∃ s, rows[k]? = some s := ⟨rows[k]'(by rw [L0.out]; exact hlt), List.getElem?_eq_getElem _⟩
        obtain ⟨b, off, rfl, _, _, bl, hc⟩ := HR0.out.at_ (show 0 < 64 by omega)
        obtain ⟨cs, hcl, hcc, hr⟩ := hc k s hs
        obtain ⟨rfl, hm⟩ := hr
        have v0 := hcc 0 _ rfl
        simp only [Nat.add_zero, Nat.mul_one] at v0
        unfold maxLen at hm
        obtain ⟨g1, o1, rfl, lg1, hcr⟩ := HI1.out.at_ (show 0 < 64 by omega)
        have r0 := hcr k hlt
        have hsd : rows.getD k ByteArray.empty = s := by rw [List.getD_eq_getElem?_getD, hs]; rfl
        have HSD := Lib.hid hsd
        obtain ⟨rv, hrv⟩ : ∃ r, r = refs.getD k 0 := ⟨_, rfl⟩
        rw [← hrv] at r0
        have b1 := cell_of_row _ _ 1 _ _ (0, 0) HBX2.out
        have k0 : (0 : Int) ≤ (k : Int) := by omega
        have k1 : (k : Int) < 64 := by omega
        have hbad : ¬ rowT rv s → false = res := fun hn => HBAD.out (fun h => hn (by have h_ := h.rows k hlt; rw [hrv]; have e_ : rows.getD k ByteArray.empty = s := hsd; rw [← e_]; exact h_))
        have hok : rowT rv s → Hid (∀ j, j < k + 1 → rowT (refs.getD j 0) (rows.getD j ByteArray.empty)) := fun hn => Lib.hid (fun j hj => by
          rcases Nat.lt_or_ge j k with hjk | hjk
          · exact HT.out j hjk
          · obtain rfl : j = k := by omega
            rw [hsd, ← hrv]; exact hn)
        have HBD := Lib.hid hbad; have HOK := Lib.hid hok
        clear hbad hok hrv hsd hcr hcc hcl hc hs
        by_cases z1 : 128 < s.size
        · have z2 : (128 : Int) < (s.size : Int) := by omega
          go_wp2_with fail
          go_ret
          exact ⟨ret_bool (HBD.out (fun h => by unfold rowT at h; omega)), HB3.out⟩
        have z2 : ¬ (128 : Int) < (s.size : Int) := by omega
        by_cases z3 : s.size = 0
        · obtain rfl := str_nil z3
          by_cases z4 : rv = 0
          · subst z4
            have HN := HOK.out ⟨by show (0 : Nat) ≤ 128; omega, ⟨fun _ => rfl, fun _ => rfl⟩⟩
            clear HBD HOK z3
            go_wp2_with fail
            go_roundw
            case rel => exact ⟨k + 1, by omega, by go_num, HN, SameW.refl _⟩
            case measure => simp [intOf]; omega
          · have z5 : (rv == 0) = false := by simpa using z4
            have HN := Lib.hid (HBD.out (fun h => z4 (h.2.1 rfl)))
            clear HBD HOK z3
            go_wp2_with fail
            go_ret
            exact ⟨ret_bool HN.out, HB3.out⟩
        · have z6 := str_isE z3
          have z7 : (s.toList == []) = false := by cases hl : s.toList with
            | nil => exact absurd hl (str_ne0 z3)
            | cons _ _ => rfl
          by_cases z4 : rv = 0
          · subst z4
            have HN := Lib.hid (HBD.out (fun h => z3 (h.2.2 rfl)))
            clear HBD HOK
            go_wp2_with fail
            go_ret
            exact ⟨ret_bool HN.out, HB3.out⟩
          · have z5 : (rv == 0) = false := by simpa using z4
            have HN := HOK.out ⟨by omega, ⟨fun h => absurd h z3, fun h => absurd h z4⟩⟩
            clear HBD HOK
            go_wp2_with fail
            go_roundw
            case rel => exact ⟨k + 1, by omega, by go_num, HN, SameW.refl _⟩
            case measure => simp [intOf]; omega
      · obtain rfl : k = 64 := by omega
        have hmk := makeZ
        have H3w := Lib.hid (H3.out.upP HB3.out); have H4w := Lib.hid (H4.out.upP HB3.out)
        clear b0
        have b0 := cell_of_row _ _ 0 _ _ (0, 0) HBX2.out; have b1 := cell_of_row _ _ 1 _ _ (0, 0) HBX2.out; have b2 := cell_of_row _ _ 2 _ _ (0, 0) HBX2.out; have b3 := cell_of_row _ _ 3 _ _ (0, 0) HBX2.out; have b4 := cell_of_row _ _ 4 _ _ (0, 0) HBX2.out; have b5 := cell_of_row _ _ 5 _ _ (0, 0) HBX2.out; have b6 := cell_of_row _ _ 6 _ _ (0, 0) HBX2.out; have b7 := cell_of_row _ _ 7 _ _ (0, 0) HBX2.out
        obtain ⟨w5, hw5⟩ : ∃ W, W = (wr.alloc (.cells Z64 3)).alloc (.cells #[.slice (some ⟨wr.heap.size, 0, none⟩) 64 64] 25) := ⟨_, rfl⟩
        have HO5 : Hid (OwnI w5 wr.heap.size 64 64 z64) := Lib.hid (by rw [hw5]; exact (OwnI.new Z64_list Z64_max rfl Z64_size.symm).alloc _)
        have HB5 : Hid (Below wr.heap.size wr w5) := Lib.hid (by rw [hw5]; exact bel2)
        have HC5 : Hid (w5.heap[wr.heap.size + 1]? = some (.cells #[.slice (some ⟨wr.heap.size, 0, none⟩) 64 64] 25 (0, 0))) := Lib.hid (by rw [hw5]; have := heap_alloc_new (wr.alloc (.cells Z64 3)) (.cells #[.slice (some ⟨wr.heap.size, 0, none⟩) 64 64] 25); simpa using this)
        have HX5 : Hid (w5.heap[w.heap.size]? = some (.cells #[.slice A0 64 c0, .slice A1 64 c1, .slice A2 64 c2, .int .i64 txg, .slice A3 n3 c3, .int .i64 keep, .slice A4 n4 c4, .bool same] 30 (0, 0))) := Lib.hid ((HB5.out.block _ l2).trans HBX2.out)
        have HBw5 : Hid (Below w.heap.size w w5) := Lib.hid (HB3.out.trans (HB5.out.mono HB3.out.size))
        have hL3 : ∀ W, Chg (· ∈ [wr.heap.size]) w5 W → SliceR PtrR 5 W lo hi A3 n3 c3 gone := fun W hc => (H3.out.upP (HBw5.out.trans (hc.below (fun k _ hk => by simp at hk; subst hk; exact HB3.out.size) HBw5.out.size)))
        have hL4 : ∀ W, Chg (· ∈ [wr.heap.size]) w5 W → SliceR PtrR 5 W lo hi A4 n4 c4 dead := fun W hc => (H4.out.upP (HBw5.out.trans (hc.below (fun k _ hk => by simp at hk; subst hk; exact HB3.out.size) HBw5.out.size)))
        have hI5 : ∀ W, Chg (· ∈ [wr.heap.size]) w5 W → IntsAt W A1 64 refs := fun W hc => (H1.out.below (HBw5.out.trans (hc.below (fun k _ hk => by simp at hk; subst hk; exact HB3.out.size) HBw5.out.size)) (IntR.below (HBw5.out.trans (hc.below (fun k _ hk => by simp at hk; subst hk; exact HB3.out.size) HBw5.out.size)) H1.out.lo_le)).ints
        have HL3 := Lib.hid hL3; have HL4 := Lib.hid hL4; have HI5 := Lib.hid hI5
        clear hL3 hL4 hI5
        have nt2 := nt
        go_wp2_with fail
        rw [← hw5]
        clear hw5 b0 b1 b2 b3 b4 b5 b6 b7
        have b0 := cell_of_row _ _ 0 _ _ (0, 0) HX5.out; have b1 := cell_of_row _ _ 1 _ _ (0, 0) HX5.out; have b2 := cell_of_row _ _ 2 _ _ (0, 0) HX5.out; have b3 := cell_of_row _ _ 3 _ _ (0, 0) HX5.out; have b4 := cell_of_row _ _ 4 _ _ (0, 0) HX5.out; have b5 := cell_of_row _ _ 5 _ _ (0, 0) HX5.out; have b6 := cell_of_row _ _ 6 _ _ (0, 0) HX5.out; have b7 := cell_of_row _ _ 7 _ _ (0, 0) HX5.out; have l5 := (Array.getElem?_eq_some_iff.1 HX5.out).1; have l5b := (Array.getElem?_eq_some_iff.1 HC5.out).1
        go_wp2_with fail
        have hne1 : w.heap.size ≠ wr.heap.size := by omega
        have hne2 : wr.heap.size + 1 ≠ wr.heap.size := by omega
        refine (count_any w.heap.size (wr.heap.size + 1) wr.heap.size 64 A3 n3 c3 gone (txg - 1) A1 c1 refs z64 w5 lo hi HL3.out HI5.out (cell_of_row _ _ 1 _ _ (0, 0) HX5.out) (cell_of_row _ _ 0 _ _ (0, 0) HC5.out) HO5.out hne1 hne2 (fun i => by rw [z64_get]; omega) (by omega)).mono ?_
        rintro e w6 ⟨rfl, ho6, hc6⟩
        have HX6 := Lib.hid ((hc6.block w.heap.size l5 (by simpa using hne1)).trans HX5.out)
        have HC6 := Lib.hid ((hc6.block (wr.heap.size + 1) l5b (by simp)).trans HC5.out)
        have HBw6 := Lib.hid (HBw5.out.trans (hc6.below (fun k _ hk => by simp at hk; subst hk; exact HB3.out.size) HBw5.out.size))
        have HG6 := Lib.hid hc6; have HO6 := Lib.hid ho6
        clear hc6 ho6 b0 b1 b2 b3 b4 b5 b6 b7 l5 l5b
        cases ec : countB (txg - 1) refs gone
        · have EC := Lib.hid ec; clear ec
          go_wp2_with fail
          go_ret
          refine ⟨ret_bool (HBAD.out (fun h => ?_)), HBw6.out⟩
          have h_ := countB_of (top := txg - 1) (refs := refs) (ps := gone) (qs := dead) h.gone h.owed
          have h2_ := EC.out
          exact absurd (h_.symm.trans h2_) (by simp)
        have EC := Lib.hid ec; clear ec
        have HO6 := Lib.hid (HO6.out EC.out)
        have hrow := countB_row EC.out
        have hgo : ∀ i : Nat, (owe z64 gone).getD i 0 ≤ 2000000 ∧ -2000000 ≤ (owe z64 gone).getD i 0 := fun i => by
          rw [(owe_get (o := z64) (by simp [z64]) hrow).2, z64_get]
          have := cntP_len gone i
          rw [L3.out] at this
          omega
        have HGO := Lib.hid hgo; have HROW := Lib.hid hrow; clear hgo hrow
        have b0 := cell_of_row _ _ 0 _ _ (0, 0) HX6.out; have b1 := cell_of_row _ _ 1 _ _ (0, 0) HX6.out; have b2 := cell_of_row _ _ 2 _ _ (0, 0) HX6.out; have b3 := cell_of_row _ _ 3 _ _ (0, 0) HX6.out; have b4 := cell_of_row _ _ 4 _ _ (0, 0) HX6.out; have b5 := cell_of_row _ _ 5 _ _ (0, 0) HX6.out; have b6 := cell_of_row _ _ 6 _ _ (0, 0) HX6.out; have b7 := cell_of_row _ _ 7 _ _ (0, 0) HX6.out; have l5 := (Array.getElem?_eq_some_iff.1 HX6.out).1; have l5b := (Array.getElem?_eq_some_iff.1 HC6.out).1
        go_wp2_with fail
        refine (count_any w.heap.size (wr.heap.size + 1) wr.heap.size 64 A4 n4 c4 dead keep A1 c1 refs (owe z64 gone) w6 lo hi (fun W hc => HL4.out W (HG6.out.trans hc)) (fun W hc => HI5.out W (HG6.out.trans hc)) (cell_of_row _ _ 1 _ _ (0, 0) HX6.out) (cell_of_row _ _ 0 _ _ (0, 0) HC6.out) HO6.out hne1 hne2 HGO.out (by omega)).mono ?_
        rintro e w7 ⟨rfl, ho7, hc7⟩
        have HX7 := Lib.hid ((hc7.block w.heap.size l5 (by simpa using hne1)).trans HX6.out)
        have HC7 := Lib.hid ((hc7.block (wr.heap.size + 1) l5b (by simp)).trans HC6.out)
        have HBw7 := Lib.hid (HBw6.out.trans (hc7.below (fun k _ hk => by simp at hk; subst hk; exact HB3.out.size) HBw6.out.size))
        have HG7 := Lib.hid (HG6.out.trans hc7); have HO7 := Lib.hid ho7
        clear hc7 ho7 b0 b1 b2 b3 b4 b5 b6 b7 l5 l5b
        cases ed : countB keep refs dead
        · have ED := Lib.hid ed; clear ed
          go_wp2_with fail
          go_ret
          refine ⟨ret_bool (HBAD.out (fun h => ?_)), HBw7.out⟩
          have h0_ : ∀ i, i < 64 → ((cntP gone i + cntP dead i : Nat) : Int) ≤ refs.getD i 0 := h.owed
          have h_ := countB_of (top := keep) (refs := refs) (ps := dead) (qs := gone) h.dead (fun i hi => by have := h0_ i hi; omega)
          have h2_ := ED.out
          exact absurd (h_.symm.trans h2_) (by simp)
        have ED := Lib.hid ed; clear ed
        have HO7 := Lib.hid (HO7.out ED.out)
        have HOG := Lib.hid (owed_get HROW.out (countB_row ED.out))
        have HI7 := Lib.hid (HI5.out w7 HG7.out)
        have b0 := cell_of_row _ _ 0 _ _ (0, 0) HX7.out; have b1 := cell_of_row _ _ 1 _ _ (0, 0) HX7.out; have b2 := cell_of_row _ _ 2 _ _ (0, 0) HX7.out; have b3 := cell_of_row _ _ 3 _ _ (0, 0) HX7.out; have b4 := cell_of_row _ _ 4 _ _ (0, 0) HX7.out; have b5 := cell_of_row _ _ 5 _ _ (0, 0) HX7.out; have b6 := cell_of_row _ _ 6 _ _ (0, 0) HX7.out; have b7 := cell_of_row _ _ 7 _ _ (0, 0) HX7.out; have l5 := (Array.getElem?_eq_some_iff.1 HX7.out).1; have l5b := (Array.getElem?_eq_some_iff.1 HC7.out).1
        have d0 := cell_of_row _ _ 0 _ _ (0, 0) HC7.out
        go_wp2_with fail
        clear b0 b1 b2 b3 b4 b5 b6 b7 d0
        go_loopw [88] (fun i wz => ∃ k : Nat, k ≤ 64 ∧ i = .int .i64 (k : Int) ∧ Hid (∀ j, j < k → ((cntP gone j + cntP dead j : Nat) : Int) ≤ refs.getD j 0) ∧ SameW wz w7) (fun i _ => 64 - (intOf i).toNat)
        case atStart => exact ⟨0, Nat.zero_le _, rfl, Lib.hid (fun j hj => absurd hj (by omega)), SameW.refl _⟩
        case round =>
          obtain ⟨k, hk, rfl, HQ, HW⟩ := hrel
          obtain rfl := HW.out
          clear HW
          by_cases hlt : k < 64
          · have o0 := HO7.out.cell (j := k) hlt
            rw [HOG.out.2 k] at o0
            obtain ⟨ov, hov⟩ : ∃ v, v = ((cntP gone k + cntP dead k : Nat) : Int) := ⟨_, rfl⟩
            rw [← hov] at o0
            obtain ⟨g1, o1, rfl, lg1, hcr⟩ := HI7.out.at_ (show 0 < 64 by omega)
            have r0 := hcr k hlt
            obtain ⟨rv, hrv⟩ : ∃ r, r = refs.getD k 0 := ⟨_, rfl⟩
            rw [← hrv] at r0
            have b1 := cell_of_row _ _ 1 _ _ (0, 0) HX7.out
            have lg0 := HO7.out.lt
            have k0 : (0 : Int) ≤ (k : Int) := by omega
            have k1 : (k : Int) < 64 := by omega
            have HOV := Lib.hid hov; have HRV := Lib.hid hrv
            clear hov hrv hcr
            by_cases z1 : rv < ov
            · go_wp2_with fail
              go_ret
              refine ⟨ret_bool (HBAD.out (fun h => ?_)), HBw7.out⟩
              have h_ : ((cntP gone k + cntP dead k : Nat) : Int) ≤ refs.getD k 0 := h.owed k hlt
              rw [← HOV.out, ← HRV.out] at h_
              omega
            have HN : Hid (∀ j, j < k + 1 → ((cntP gone j + cntP dead j : Nat) : Int) ≤ refs.getD j 0) := Lib.hid (fun j hj => by
              rcases Nat.lt_or_ge j k with hjk | hjk
              · exact HQ.out j hjk
              · obtain rfl : j = k := by omega
                rw [← HOV.out, ← HRV.out]; omega)
            go_wp2_with fail
            go_roundw
            case rel => exact ⟨k + 1, by omega, by go_num, HN, SameW.refl _⟩
            case measure => simp [intOf]; omega
          · obtain rfl : k = 64 := by omega
            go_wp2_with fail
            go_ret
            exact ⟨ret_bool (HYES.out ⟨L0.out, E1.out, E2.out, E3.out, HLAST.out, HT.out, countB_good EC.out, countB_good ED.out, HQ.out⟩), HBw7.out⟩
end Go.Proofs.Ytffieobjcipeoaa
