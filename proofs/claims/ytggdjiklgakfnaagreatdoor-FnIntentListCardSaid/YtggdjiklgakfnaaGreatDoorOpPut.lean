/- OpPut of the program and of the reference. Condition: the table of powers of ten and the library's length lie in memory. -/
import Derived.Test.YtggdjiklgakfnaaGreatDoorOpOk2
import Derived.Test.YtggdjiklgakfnaaGreatDoorRootPut
namespace Go.Proofs.YtggdjiklgakfnaaGreatDoor
set_option linter.unusedVariables false
set_option linter.unusedSimpArgs false
set_option linter.unnecessarySimpa false
open Go Go.Lib Go.RowKit

theorem row_lit {w : World} {g T : Nat} {cur : Array Value} {fs : List Str} {n : Nat} (hg : w.heap[g]? = some (.cells cur T (0, 0))) (hc : cur.toList = fs.map strV) (hn : n = fs.length) : RowAt w (some ⟨g, 0, none⟩) n (fs.map strV) := by
  subst hn
  refine ⟨by simp, fun _ => ⟨g, 0, rfl, fun j hj => ?_⟩⟩
  rw [Nat.zero_add, cell_of_row _ _ j _ _ (0, 0) hg, ← hc]
  simp
theorem opF_le {o : OpS} (h : opB o = true) : ∀ f ∈ opF o, f.length ≤ 1099511627776 := by
  obtain ⟨h1, h2, h3, h4, h5, h6⟩ := opB_parts h
  have e1 := numS_len o.1; have e2 := numS_len o.2.2.2.1
  intro f hf
  unfold opF at hf
  simp only [List.mem_cons, List.not_mem_nil, or_false] at hf
  rcases hf with rfl | rfl | rfl | rfl | rfl <;> omega
theorem spDec_any (k : Int) (h0 : 0 ≤ k) (h1 : k ≤ 999999999) (w : World) : Calls Tryz.prog 59 #[.int .i64 k] w fun e w' => e = .returned (.string (strB (numS k))) ∧ Below w.heap.size w w' := by
  obtain ⟨n, rfl⟩ : ∃ n : Nat, k = (n : Int) := ⟨k.toNat, by omega⟩
  have := l6Dec_any n (by omega) w
  rw [numS_yes ⟨h0, h1⟩]
  simpa using this
set_option maxRecDepth 100000 in
set_option maxHeartbeats 4000000 in
theorem spOpPut_any (kd : Int) (p t : Str) (a : Int) (x : Str) (w : World) (hp : p.length ≤ 3000000000) (ht : t.length ≤ 3000000000) (hx : x.length ≤ 3000000000) : Calls Tryz.prog 60 #[.agg #[.int .i64 kd, .string (strB p), .string (strB t), .int .i64 a, .string (strB x)]] w (TextR (opS (kd, p, t, a, x)) w) := by
  go_enter Tryz.func60, Tryz.ntmps60
  go_wp2_with fail
  refine (spOpOk_any kd p t a x _ hp ht hx).mono ?_
  rintro e w1 ⟨rfl, hb1⟩
  have HB1 := bel1.trans (hb1.mono (by simp))
  have c1_0 : w1.cell? ⟨w.heap.size, 0, none⟩ = some (.int .i64 kd) := (hb1.cell (by simp)).trans (by simp [go_sem])
  have c1_1 : w1.cell? ⟨w.heap.size, 1, none⟩ = some (.string (strB p)) := (hb1.cell (by simp)).trans (by simp [go_sem])
  have c1_2 : w1.cell? ⟨w.heap.size, 2, none⟩ = some (.string (strB t)) := (hb1.cell (by simp)).trans (by simp [go_sem])
  have c1_3 : w1.cell? ⟨w.heap.size, 3, none⟩ = some (.int .i64 a) := (hb1.cell (by simp)).trans (by simp [go_sem])
  have c1_4 : w1.cell? ⟨w.heap.size, 4, none⟩ = some (.string (strB x)) := (hb1.cell (by simp)).trans (by simp [go_sem])
  have l1 : w.heap.size < w1.heap.size := World.block_lt_of_cell? w1 _ c1_0
  clear hb1
  obtain ⟨ok, hok⟩ : ∃ ok, ok = opB (kd, p, t, a, x) := ⟨_, rfl⟩
  have HOK := Lib.hid hok.symm
  rw [← hok]
  clear hok
  cases ok
  · go_wp2_with fail
    go_ret
    exact ⟨ret_str (by rw [opS_no HOK.out]; rfl), HB1⟩
  have HB1 := Lib.hid HB1
  obtain ⟨⟨k0, k1⟩, _, _, _, ⟨a0, a1⟩, _⟩ := opB_parts HOK.out
  simp only at k0 k1 a0 a1
  have HLE := Lib.hid (opF_le HOK.out)
  go_wp2_with fail
  apply wp_region_rg (by kernel_rfl) (false :: false :: false :: true :: true :: false :: false :: false :: true :: true :: true :: true :: true :: true :: true :: true :: true :: true :: true :: true :: true :: true :: true :: true :: true :: false :: []) (some 9 :: some 10 :: some 11 :: some 12 :: some 13 :: some 14 :: some 15 :: some 16 :: some 17 :: some 18 :: some 19 :: some 20 :: some 21 :: some 22 :: some 8 :: some 23 :: some 24 :: some 3 :: some 4 :: []) ([] :: [0] :: [1] :: [] :: [3] :: [] :: [5] :: [] :: [7] :: [8] :: [] :: [10] :: [2, 4, 6, 9, 11] :: [12] :: [13] :: [14] :: [14] :: [15] :: [16] :: []) (StP.is _ :: StP.is _ :: StP.is _ :: StP.is _ :: StP.is _ :: StP.is _ :: StP.is _ :: StP.is _ :: StP.is _ :: StP.is _ :: StP.is _ :: StP.is _ :: litP 9 #[.string (strB (numS kd)), .string (strB p), .string (strB t), .string (strB (numS a)), .string (strB x)] 5 :: StP.is _ :: StP.is _ :: StP.is _ :: StP.is _ :: StP.is _ :: StP.is _ :: []) (by kernel_rfl)
  case hobs =>
    refine ⟨fun y w' hS hF K hK => ?_, ?_⟩
    · skip -- 0: fieldAddr
      simp only [fillL, cond_true, cond_false, List.getD_cons_zero, List.getD_cons_succ, StP.is, Act.put, List.setIfInBounds_toArray, List.set_cons_zero, List.set_cons_succ, Nat.reduceAdd] at hK ⊢
      refine rg_yes (by kernel_rfl) ?_
      clear hF
      go_simp
      exact hK _ _ (Ext.refl _) rfl
    refine ⟨fun y w' hS hF K hK => ?_, ?_⟩
    · skip -- 1: load
      have e9 : y 9 = _ := hF.1
      simp only [fillL, cond_true, cond_false, List.getD_cons_zero, List.getD_cons_succ, StP.is, Act.put, List.setIfInBounds_toArray, List.set_cons_zero, List.set_cons_succ, Nat.reduceAdd, e9] at hK ⊢
      refine rg_yes (by kernel_rfl) ?_
      have qx0_ := (Below.cell hS l1).trans c1_0
      have qx1_ := (Below.cell hS l1).trans c1_1
      have qx2_ := (Below.cell hS l1).trans c1_2
      have qx3_ := (Below.cell hS l1).trans c1_3
      have qx4_ := (Below.cell hS l1).trans c1_4
      clear e9
      clear hF
      go_simp
      exact hK _ _ (Ext.refl _) rfl
    refine ⟨fun y w' hS hF K hK => ?_, ?_⟩
    · skip -- 2: call
      have e10 : y 10 = _ := hF.1
      simp only [fillL, cond_true, cond_false, List.getD_cons_zero, List.getD_cons_succ, StP.is, Act.put, List.setIfInBounds_toArray, List.set_cons_zero, List.set_cons_succ, Nat.reduceAdd, e10] at hK ⊢
      refine rg_yes (by kernel_rfl) ?_
      clear e10
      clear hF
      go_simp
      go_simp
      go_at_call 59
      refine (spDec_any kd (by omega) (by omega) w').mono ?_
      rintro e w'' ⟨rfl, hb9⟩
      exact hK _ _ hb9 rfl
    refine ⟨fun y w' hS hF K hK => ?_, ?_⟩
    · skip -- 3: fieldAddr
      simp only [fillL, cond_true, cond_false, List.getD_cons_zero, List.getD_cons_succ, StP.is, Act.put, List.setIfInBounds_toArray, List.set_cons_zero, List.set_cons_succ, Nat.reduceAdd] at hK ⊢
      refine rg_yes (by kernel_rfl) ?_
      clear hF
      go_simp
      exact hK _ _ (Ext.refl _) rfl
    refine ⟨fun y w' hS hF K hK => ?_, ?_⟩
    · skip -- 4: load
      have e12 : y 12 = _ := hF.1
      simp only [fillL, cond_true, cond_false, List.getD_cons_zero, List.getD_cons_succ, StP.is, Act.put, List.setIfInBounds_toArray, List.set_cons_zero, List.set_cons_succ, Nat.reduceAdd, e12] at hK ⊢
      refine rg_yes (by kernel_rfl) ?_
      have qx0_ := (Below.cell hS l1).trans c1_0
      have qx1_ := (Below.cell hS l1).trans c1_1
      have qx2_ := (Below.cell hS l1).trans c1_2
      have qx3_ := (Below.cell hS l1).trans c1_3
      have qx4_ := (Below.cell hS l1).trans c1_4
      clear e12
      clear hF
      go_simp
      exact hK _ _ (Ext.refl _) rfl
    refine ⟨fun y w' hS hF K hK => ?_, ?_⟩
    · skip -- 5: fieldAddr
      simp only [fillL, cond_true, cond_false, List.getD_cons_zero, List.getD_cons_succ, StP.is, Act.put, List.setIfInBounds_toArray, List.set_cons_zero, List.set_cons_succ, Nat.reduceAdd] at hK ⊢
      refine rg_yes (by kernel_rfl) ?_
      clear hF
      go_simp
      exact hK _ _ (Ext.refl _) rfl
    refine ⟨fun y w' hS hF K hK => ?_, ?_⟩
    · skip -- 6: load
      have e14 : y 14 = _ := hF.1
      simp only [fillL, cond_true, cond_false, List.getD_cons_zero, List.getD_cons_succ, StP.is, Act.put, List.setIfInBounds_toArray, List.set_cons_zero, List.set_cons_succ, Nat.reduceAdd, e14] at hK ⊢
      refine rg_yes (by kernel_rfl) ?_
      have qx0_ := (Below.cell hS l1).trans c1_0
      have qx1_ := (Below.cell hS l1).trans c1_1
      have qx2_ := (Below.cell hS l1).trans c1_2
      have qx3_ := (Below.cell hS l1).trans c1_3
      have qx4_ := (Below.cell hS l1).trans c1_4
      clear e14
      clear hF
      go_simp
      exact hK _ _ (Ext.refl _) rfl
    refine ⟨fun y w' hS hF K hK => ?_, ?_⟩
    · skip -- 7: fieldAddr
      simp only [fillL, cond_true, cond_false, List.getD_cons_zero, List.getD_cons_succ, StP.is, Act.put, List.setIfInBounds_toArray, List.set_cons_zero, List.set_cons_succ, Nat.reduceAdd] at hK ⊢
      refine rg_yes (by kernel_rfl) ?_
      clear hF
      go_simp
      exact hK _ _ (Ext.refl _) rfl
    refine ⟨fun y w' hS hF K hK => ?_, ?_⟩
    · skip -- 8: load
      have e16 : y 16 = _ := hF.1
      simp only [fillL, cond_true, cond_false, List.getD_cons_zero, List.getD_cons_succ, StP.is, Act.put, List.setIfInBounds_toArray, List.set_cons_zero, List.set_cons_succ, Nat.reduceAdd, e16] at hK ⊢
      refine rg_yes (by kernel_rfl) ?_
      have qx0_ := (Below.cell hS l1).trans c1_0
      have qx1_ := (Below.cell hS l1).trans c1_1
      have qx2_ := (Below.cell hS l1).trans c1_2
      have qx3_ := (Below.cell hS l1).trans c1_3
      have qx4_ := (Below.cell hS l1).trans c1_4
      clear e16
      clear hF
      go_simp
      exact hK _ _ (Ext.refl _) rfl
    refine ⟨fun y w' hS hF K hK => ?_, ?_⟩
    · skip -- 9: call
      have e17 : y 17 = _ := hF.1
      simp only [fillL, cond_true, cond_false, List.getD_cons_zero, List.getD_cons_succ, StP.is, Act.put, List.setIfInBounds_toArray, List.set_cons_zero, List.set_cons_succ, Nat.reduceAdd, e17] at hK ⊢
      refine rg_yes (by kernel_rfl) ?_
      clear e17
      clear hF
      go_simp
      go_simp
      go_at_call 59
      refine (spDec_any a (by omega) (by omega) w').mono ?_
      rintro e w'' ⟨rfl, hb9⟩
      exact hK _ _ hb9 rfl
    refine ⟨fun y w' hS hF K hK => ?_, ?_⟩
    · skip -- 10: fieldAddr
      simp only [fillL, cond_true, cond_false, List.getD_cons_zero, List.getD_cons_succ, StP.is, Act.put, List.setIfInBounds_toArray, List.set_cons_zero, List.set_cons_succ, Nat.reduceAdd] at hK ⊢
      refine rg_yes (by kernel_rfl) ?_
      clear hF
      go_simp
      exact hK _ _ (Ext.refl _) rfl
    refine ⟨fun y w' hS hF K hK => ?_, ?_⟩
    · skip -- 11: load
      have e19 : y 19 = _ := hF.1
      simp only [fillL, cond_true, cond_false, List.getD_cons_zero, List.getD_cons_succ, StP.is, Act.put, List.setIfInBounds_toArray, List.set_cons_zero, List.set_cons_succ, Nat.reduceAdd, e19] at hK ⊢
      refine rg_yes (by kernel_rfl) ?_
      have qx0_ := (Below.cell hS l1).trans c1_0
      have qx1_ := (Below.cell hS l1).trans c1_1
      have qx2_ := (Below.cell hS l1).trans c1_2
      have qx3_ := (Below.cell hS l1).trans c1_3
      have qx4_ := (Below.cell hS l1).trans c1_4
      clear e19
      clear hF
      go_simp
      exact hK _ _ (Ext.refl _) rfl
    refine ⟨fun y w' hS hF K hK => ?_, ?_⟩
    · skip -- 12: buildSlice
      have e11 : y 11 = _ := hF.1
      have e13 : y 13 = _ := hF.2.1
      have e15 : y 15 = _ := hF.2.2.1
      have e18 : y 18 = _ := hF.2.2.2.1
      have e20 : y 20 = _ := hF.2.2.2.2.1
      simp only [fillL, cond_true, cond_false, List.getD_cons_zero, List.getD_cons_succ, StP.is, Act.put, List.setIfInBounds_toArray, List.set_cons_zero, List.set_cons_succ, Nat.reduceAdd, e11, e13, e15, e18, e20] at hK ⊢
      refine rg_yes (by kernel_rfl) ?_
      clear e11 e13 e15 e18 e20
      clear hF
      go_simp
      exact hK _ _ (Ext.alloc _ _) ⟨_, rfl, heap_alloc_new _ _⟩
    refine ⟨fun y w' hS hF K hK => ?_, ?_⟩
    · skip -- 13: call
      obtain ⟨g, e21, hg⟩ := hF.1
      simp only [fillL, cond_true, cond_false, List.getD_cons_zero, List.getD_cons_succ, StP.is, Act.put, List.setIfInBounds_toArray, List.set_cons_zero, List.set_cons_succ, Nat.reduceAdd, e21] at hK ⊢
      refine rg_yes (by kernel_rfl) ?_
      clear e21
      clear hF
      go_simp
      go_at_call 61
      refine (spFieldsPut_any _ 5 (opF (kd, p, t, a, x)) w' (row_lit hg rfl rfl) HLE.out (by rw [opF_len]; omega)).mono ?_
      rintro e w'' ⟨rfl, hb9⟩
      exact hK _ _ hb9 rfl
    refine ⟨fun y w' hS hF K hK => ?_, ?_⟩
    · skip -- 14: move
      have e22 : y 22 = _ := hF.1
      simp only [fillL, cond_true, cond_false, List.getD_cons_zero, List.getD_cons_succ, StP.is, Act.put, List.setIfInBounds_toArray, List.set_cons_zero, List.set_cons_succ, Nat.reduceAdd, e22] at hK ⊢
      refine rg_yes (by kernel_rfl) ?_
      clear e22
      clear hF
      go_simp
      exact hK _ _ (Ext.refl _) rfl
    refine ⟨fun y w' hS hF K hK => ?_, ?_⟩
    · skip -- 15: extract
      have e8 : y 8 = _ := hF.1
      simp only [fillL, cond_true, cond_false, List.getD_cons_zero, List.getD_cons_succ, StP.is, Act.put, List.setIfInBounds_toArray, List.set_cons_zero, List.set_cons_succ, Nat.reduceAdd, e8] at hK ⊢
      refine rg_yes (by kernel_rfl) ?_
      clear e8
      clear hF
      go_simp
      exact hK _ _ (Ext.refl _) rfl
    refine ⟨fun y w' hS hF K hK => ?_, ?_⟩
    · skip -- 16: extract
      have e8 : y 8 = _ := hF.1
      simp only [fillL, cond_true, cond_false, List.getD_cons_zero, List.getD_cons_succ, StP.is, Act.put, List.setIfInBounds_toArray, List.set_cons_zero, List.set_cons_succ, Nat.reduceAdd, e8] at hK ⊢
      refine rg_yes (by kernel_rfl) ?_
      clear e8
      clear hF
      go_simp
      exact hK _ _ (Ext.refl _) rfl
    refine ⟨fun y w' hS hF K hK => ?_, ?_⟩
    · skip -- 17: assign
      have e23 : y 23 = _ := hF.1
      simp only [fillL, cond_true, cond_false, List.getD_cons_zero, List.getD_cons_succ, StP.is, Act.put, List.setIfInBounds_toArray, List.set_cons_zero, List.set_cons_succ, Nat.reduceAdd, e23] at hK ⊢
      refine rg_yes (by kernel_rfl) ?_
      clear e23
      clear hF
      go_simp
      exact hK _ _ (Ext.refl _) rfl
    refine ⟨fun y w' hS hF K hK => ?_, ?_⟩
    · skip -- 18: assign
      have e24 : y 24 = _ := hF.1
      simp only [fillL, cond_true, cond_false, List.getD_cons_zero, List.getD_cons_succ, StP.is, Act.put, List.setIfInBounds_toArray, List.set_cons_zero, List.set_cons_succ, Nat.reduceAdd, e24] at hK ⊢
      refine rg_yes (by kernel_rfl) ?_
      clear e24
      clear hF
      go_simp
      exact hK _ _ (Ext.refl _) rfl
    trivial
  case hend =>
    intro y w9 hS9 hF
    have e3 : y 3 = _ := hF.2.2.2.2.2.2.2.2.2.2.2.2.2.2.2.2.2.1
    clear hF
    simp only [fillL, cond_true, cond_false, Nat.reduceAdd, e3]
    clear e3
    have HBB : Hid (Below w.heap.size w w9) := Lib.hid (HB1.out.trans (Below.mono hS9 HB1.out.size))
    obtain ⟨Y, hY⟩ : ∃ Y, Y = (fieldsF (opF (kd, p, t, a, x))).1 := ⟨_, rfl⟩
    rw [← hY]
    have HY := Lib.hid hY
    clear hS9 hY
    go_wp2_with fail
    go_ret
    exact ⟨ret_str (by rw [HY.out, opS_yes HOK.out]), HBB.out⟩
set_option maxRecDepth 100000 in
set_option maxHeartbeats 4000000 in
theorem opPut_any (kd : Int) (p t : Str) (a : Int) (x : Str) (w : World) (hT : Tab w) (hm : MLen w) (hp : p.length ≤ 3000000000) (ht : t.length ≤ 3000000000) (hx : x.length ≤ 3000000000) : Calls Tryz.prog 95 #[.agg #[.int .i64 kd, .string (strB p), .string (strB t), .int .i64 a, .string (strB x)]] w (TextR (opS (kd, p, t, a, x)) w) := by
  go_enter Tryz.func95, Tryz.ntmps95
  go_wp2_with fail
  refine (opOk_any kd p t a x _ (hm.below bel1) hp ht hx).mono ?_
  rintro e w1 ⟨rfl, hb1⟩
  have HB1 := bel1.trans (hb1.mono (by simp))
  have c1_0 : w1.cell? ⟨w.heap.size, 0, none⟩ = some (.int .i64 kd) := (hb1.cell (by simp)).trans (by simp [go_sem])
  have c1_1 : w1.cell? ⟨w.heap.size, 1, none⟩ = some (.string (strB p)) := (hb1.cell (by simp)).trans (by simp [go_sem])
  have c1_2 : w1.cell? ⟨w.heap.size, 2, none⟩ = some (.string (strB t)) := (hb1.cell (by simp)).trans (by simp [go_sem])
  have c1_3 : w1.cell? ⟨w.heap.size, 3, none⟩ = some (.int .i64 a) := (hb1.cell (by simp)).trans (by simp [go_sem])
  have c1_4 : w1.cell? ⟨w.heap.size, 4, none⟩ = some (.string (strB x)) := (hb1.cell (by simp)).trans (by simp [go_sem])
  have l1 : w.heap.size < w1.heap.size := World.block_lt_of_cell? w1 _ c1_0
  clear hb1
  obtain ⟨ok, hok⟩ : ∃ ok, ok = opB (kd, p, t, a, x) := ⟨_, rfl⟩
  have HOK := Lib.hid hok.symm
  rw [← hok]
  clear hok
  cases ok
  · go_wp2_with fail
    go_ret
    exact ⟨ret_str (by rw [opS_no HOK.out]; rfl), HB1⟩
  have HB1 := Lib.hid HB1
  obtain ⟨⟨k0, k1⟩, _, _, _, ⟨a0, a1⟩, _⟩ := opB_parts HOK.out
  simp only at k0 k1 a0 a1
  have HT1 := Lib.hid (hT.below HB1.out); clear hT hm
  have HLE := Lib.hid (opF_le HOK.out)
  go_wp2_with fail
  apply wp_region_rg (by kernel_rfl) (false :: false :: false :: true :: true :: false :: false :: false :: true :: true :: true :: true :: true :: true :: true :: true :: true :: true :: true :: true :: true :: true :: true :: true :: true :: false :: []) (some 9 :: some 10 :: some 11 :: some 12 :: some 13 :: some 14 :: some 15 :: some 16 :: some 17 :: some 18 :: some 19 :: some 20 :: some 21 :: some 22 :: some 8 :: some 23 :: some 24 :: some 3 :: some 4 :: []) ([] :: [0] :: [1] :: [] :: [3] :: [] :: [5] :: [] :: [7] :: [8] :: [] :: [10] :: [2, 4, 6, 9, 11] :: [12] :: [13] :: [14] :: [14] :: [15] :: [16] :: []) (StP.is _ :: StP.is _ :: StP.is _ :: StP.is _ :: StP.is _ :: StP.is _ :: StP.is _ :: StP.is _ :: StP.is _ :: StP.is _ :: StP.is _ :: StP.is _ :: litP 9 #[.string (strB (numS kd)), .string (strB p), .string (strB t), .string (strB (numS a)), .string (strB x)] 5 :: StP.is _ :: StP.is _ :: StP.is _ :: StP.is _ :: StP.is _ :: StP.is _ :: []) (by kernel_rfl)
  case hobs =>
    refine ⟨fun y w' hS hF K hK => ?_, ?_⟩
    · skip -- 0: fieldAddr
      simp only [fillL, cond_true, cond_false, List.getD_cons_zero, List.getD_cons_succ, StP.is, Act.put, List.setIfInBounds_toArray, List.set_cons_zero, List.set_cons_succ, Nat.reduceAdd] at hK ⊢
      refine rg_yes (by kernel_rfl) ?_
      clear hF
      go_simp
      exact hK _ _ (Ext.refl _) rfl
    refine ⟨fun y w' hS hF K hK => ?_, ?_⟩
    · skip -- 1: load
      have e9 : y 9 = _ := hF.1
      simp only [fillL, cond_true, cond_false, List.getD_cons_zero, List.getD_cons_succ, StP.is, Act.put, List.setIfInBounds_toArray, List.set_cons_zero, List.set_cons_succ, Nat.reduceAdd, e9] at hK ⊢
      refine rg_yes (by kernel_rfl) ?_
      have qx0_ := (Below.cell hS l1).trans c1_0
      have qx1_ := (Below.cell hS l1).trans c1_1
      have qx2_ := (Below.cell hS l1).trans c1_2
      have qx3_ := (Below.cell hS l1).trans c1_3
      have qx4_ := (Below.cell hS l1).trans c1_4
      clear e9
      clear hF
      go_simp
      exact hK _ _ (Ext.refl _) rfl
    refine ⟨fun y w' hS hF K hK => ?_, ?_⟩
    · skip -- 2: call
      have e10 : y 10 = _ := hF.1
      simp only [fillL, cond_true, cond_false, List.getD_cons_zero, List.getD_cons_succ, StP.is, Act.put, List.setIfInBounds_toArray, List.set_cons_zero, List.set_cons_succ, Nat.reduceAdd, e10] at hK ⊢
      refine rg_yes (by kernel_rfl) ?_
      clear e10
      clear hF
      go_simp
      go_simp
      go_at_call 97
      refine (numPut_any kd w' (HT1.out.below hS)).mono ?_
      rintro e w'' ⟨rfl, hb9⟩
      exact hK _ _ hb9 rfl
    refine ⟨fun y w' hS hF K hK => ?_, ?_⟩
    · skip -- 3: fieldAddr
      simp only [fillL, cond_true, cond_false, List.getD_cons_zero, List.getD_cons_succ, StP.is, Act.put, List.setIfInBounds_toArray, List.set_cons_zero, List.set_cons_succ, Nat.reduceAdd] at hK ⊢
      refine rg_yes (by kernel_rfl) ?_
      clear hF
      go_simp
      exact hK _ _ (Ext.refl _) rfl
    refine ⟨fun y w' hS hF K hK => ?_, ?_⟩
    · skip -- 4: load
      have e12 : y 12 = _ := hF.1
      simp only [fillL, cond_true, cond_false, List.getD_cons_zero, List.getD_cons_succ, StP.is, Act.put, List.setIfInBounds_toArray, List.set_cons_zero, List.set_cons_succ, Nat.reduceAdd, e12] at hK ⊢
      refine rg_yes (by kernel_rfl) ?_
      have qx0_ := (Below.cell hS l1).trans c1_0
      have qx1_ := (Below.cell hS l1).trans c1_1
      have qx2_ := (Below.cell hS l1).trans c1_2
      have qx3_ := (Below.cell hS l1).trans c1_3
      have qx4_ := (Below.cell hS l1).trans c1_4
      clear e12
      clear hF
      go_simp
      exact hK _ _ (Ext.refl _) rfl
    refine ⟨fun y w' hS hF K hK => ?_, ?_⟩
    · skip -- 5: fieldAddr
      simp only [fillL, cond_true, cond_false, List.getD_cons_zero, List.getD_cons_succ, StP.is, Act.put, List.setIfInBounds_toArray, List.set_cons_zero, List.set_cons_succ, Nat.reduceAdd] at hK ⊢
      refine rg_yes (by kernel_rfl) ?_
      clear hF
      go_simp
      exact hK _ _ (Ext.refl _) rfl
    refine ⟨fun y w' hS hF K hK => ?_, ?_⟩
    · skip -- 6: load
      have e14 : y 14 = _ := hF.1
      simp only [fillL, cond_true, cond_false, List.getD_cons_zero, List.getD_cons_succ, StP.is, Act.put, List.setIfInBounds_toArray, List.set_cons_zero, List.set_cons_succ, Nat.reduceAdd, e14] at hK ⊢
      refine rg_yes (by kernel_rfl) ?_
      have qx0_ := (Below.cell hS l1).trans c1_0
      have qx1_ := (Below.cell hS l1).trans c1_1
      have qx2_ := (Below.cell hS l1).trans c1_2
      have qx3_ := (Below.cell hS l1).trans c1_3
      have qx4_ := (Below.cell hS l1).trans c1_4
      clear e14
      clear hF
      go_simp
      exact hK _ _ (Ext.refl _) rfl
    refine ⟨fun y w' hS hF K hK => ?_, ?_⟩
    · skip -- 7: fieldAddr
      simp only [fillL, cond_true, cond_false, List.getD_cons_zero, List.getD_cons_succ, StP.is, Act.put, List.setIfInBounds_toArray, List.set_cons_zero, List.set_cons_succ, Nat.reduceAdd] at hK ⊢
      refine rg_yes (by kernel_rfl) ?_
      clear hF
      go_simp
      exact hK _ _ (Ext.refl _) rfl
    refine ⟨fun y w' hS hF K hK => ?_, ?_⟩
    · skip -- 8: load
      have e16 : y 16 = _ := hF.1
      simp only [fillL, cond_true, cond_false, List.getD_cons_zero, List.getD_cons_succ, StP.is, Act.put, List.setIfInBounds_toArray, List.set_cons_zero, List.set_cons_succ, Nat.reduceAdd, e16] at hK ⊢
      refine rg_yes (by kernel_rfl) ?_
      have qx0_ := (Below.cell hS l1).trans c1_0
      have qx1_ := (Below.cell hS l1).trans c1_1
      have qx2_ := (Below.cell hS l1).trans c1_2
      have qx3_ := (Below.cell hS l1).trans c1_3
      have qx4_ := (Below.cell hS l1).trans c1_4
      clear e16
      clear hF
      go_simp
      exact hK _ _ (Ext.refl _) rfl
    refine ⟨fun y w' hS hF K hK => ?_, ?_⟩
    · skip -- 9: call
      have e17 : y 17 = _ := hF.1
      simp only [fillL, cond_true, cond_false, List.getD_cons_zero, List.getD_cons_succ, StP.is, Act.put, List.setIfInBounds_toArray, List.set_cons_zero, List.set_cons_succ, Nat.reduceAdd, e17] at hK ⊢
      refine rg_yes (by kernel_rfl) ?_
      clear e17
      clear hF
      go_simp
      go_simp
      go_at_call 97
      refine (numPut_any a w' (HT1.out.below hS)).mono ?_
      rintro e w'' ⟨rfl, hb9⟩
      exact hK _ _ hb9 rfl
    refine ⟨fun y w' hS hF K hK => ?_, ?_⟩
    · skip -- 10: fieldAddr
      simp only [fillL, cond_true, cond_false, List.getD_cons_zero, List.getD_cons_succ, StP.is, Act.put, List.setIfInBounds_toArray, List.set_cons_zero, List.set_cons_succ, Nat.reduceAdd] at hK ⊢
      refine rg_yes (by kernel_rfl) ?_
      clear hF
      go_simp
      exact hK _ _ (Ext.refl _) rfl
    refine ⟨fun y w' hS hF K hK => ?_, ?_⟩
    · skip -- 11: load
      have e19 : y 19 = _ := hF.1
      simp only [fillL, cond_true, cond_false, List.getD_cons_zero, List.getD_cons_succ, StP.is, Act.put, List.setIfInBounds_toArray, List.set_cons_zero, List.set_cons_succ, Nat.reduceAdd, e19] at hK ⊢
      refine rg_yes (by kernel_rfl) ?_
      have qx0_ := (Below.cell hS l1).trans c1_0
      have qx1_ := (Below.cell hS l1).trans c1_1
      have qx2_ := (Below.cell hS l1).trans c1_2
      have qx3_ := (Below.cell hS l1).trans c1_3
      have qx4_ := (Below.cell hS l1).trans c1_4
      clear e19
      clear hF
      go_simp
      exact hK _ _ (Ext.refl _) rfl
    refine ⟨fun y w' hS hF K hK => ?_, ?_⟩
    · skip -- 12: buildSlice
      have e11 : y 11 = _ := hF.1
      have e13 : y 13 = _ := hF.2.1
      have e15 : y 15 = _ := hF.2.2.1
      have e18 : y 18 = _ := hF.2.2.2.1
      have e20 : y 20 = _ := hF.2.2.2.2.1
      simp only [fillL, cond_true, cond_false, List.getD_cons_zero, List.getD_cons_succ, StP.is, Act.put, List.setIfInBounds_toArray, List.set_cons_zero, List.set_cons_succ, Nat.reduceAdd, e11, e13, e15, e18, e20] at hK ⊢
      refine rg_yes (by kernel_rfl) ?_
      clear e11 e13 e15 e18 e20
      clear hF
      go_simp
      exact hK _ _ (Ext.alloc _ _) ⟨_, rfl, heap_alloc_new _ _⟩
    refine ⟨fun y w' hS hF K hK => ?_, ?_⟩
    · skip -- 13: call
      obtain ⟨g, e21, hg⟩ := hF.1
      simp only [fillL, cond_true, cond_false, List.getD_cons_zero, List.getD_cons_succ, StP.is, Act.put, List.setIfInBounds_toArray, List.set_cons_zero, List.set_cons_succ, Nat.reduceAdd, e21] at hK ⊢
      refine rg_yes (by kernel_rfl) ?_
      clear e21
      clear hF
      go_simp
      go_at_call 110
      refine (fieldsPut_any _ 5 (opF (kd, p, t, a, x)) w' (HT1.out.below hS) (row_lit hg rfl rfl) HLE.out (by rw [opF_len]; omega)).mono ?_
      rintro e w'' ⟨rfl, hb9⟩
      exact hK _ _ hb9 rfl
    refine ⟨fun y w' hS hF K hK => ?_, ?_⟩
    · skip -- 14: move
      have e22 : y 22 = _ := hF.1
      simp only [fillL, cond_true, cond_false, List.getD_cons_zero, List.getD_cons_succ, StP.is, Act.put, List.setIfInBounds_toArray, List.set_cons_zero, List.set_cons_succ, Nat.reduceAdd, e22] at hK ⊢
      refine rg_yes (by kernel_rfl) ?_
      clear e22
      clear hF
      go_simp
      exact hK _ _ (Ext.refl _) rfl
    refine ⟨fun y w' hS hF K hK => ?_, ?_⟩
    · skip -- 15: extract
      have e8 : y 8 = _ := hF.1
      simp only [fillL, cond_true, cond_false, List.getD_cons_zero, List.getD_cons_succ, StP.is, Act.put, List.setIfInBounds_toArray, List.set_cons_zero, List.set_cons_succ, Nat.reduceAdd, e8] at hK ⊢
      refine rg_yes (by kernel_rfl) ?_
      clear e8
      clear hF
      go_simp
      exact hK _ _ (Ext.refl _) rfl
    refine ⟨fun y w' hS hF K hK => ?_, ?_⟩
    · skip -- 16: extract
      have e8 : y 8 = _ := hF.1
      simp only [fillL, cond_true, cond_false, List.getD_cons_zero, List.getD_cons_succ, StP.is, Act.put, List.setIfInBounds_toArray, List.set_cons_zero, List.set_cons_succ, Nat.reduceAdd, e8] at hK ⊢
      refine rg_yes (by kernel_rfl) ?_
      clear e8
      clear hF
      go_simp
      exact hK _ _ (Ext.refl _) rfl
    refine ⟨fun y w' hS hF K hK => ?_, ?_⟩
    · skip -- 17: assign
      have e23 : y 23 = _ := hF.1
      simp only [fillL, cond_true, cond_false, List.getD_cons_zero, List.getD_cons_succ, StP.is, Act.put, List.setIfInBounds_toArray, List.set_cons_zero, List.set_cons_succ, Nat.reduceAdd, e23] at hK ⊢
      refine rg_yes (by kernel_rfl) ?_
      clear e23
      clear hF
      go_simp
      exact hK _ _ (Ext.refl _) rfl
    refine ⟨fun y w' hS hF K hK => ?_, ?_⟩
    · skip -- 18: assign
      have e24 : y 24 = _ := hF.1
      simp only [fillL, cond_true, cond_false, List.getD_cons_zero, List.getD_cons_succ, StP.is, Act.put, List.setIfInBounds_toArray, List.set_cons_zero, List.set_cons_succ, Nat.reduceAdd, e24] at hK ⊢
      refine rg_yes (by kernel_rfl) ?_
      clear e24
      clear hF
      go_simp
      exact hK _ _ (Ext.refl _) rfl
    trivial
  case hend =>
    intro y w9 hS9 hF
    have e3 : y 3 = _ := hF.2.2.2.2.2.2.2.2.2.2.2.2.2.2.2.2.2.1
    clear hF
    simp only [fillL, cond_true, cond_false, Nat.reduceAdd, e3]
    clear e3
    have HBB : Hid (Below w.heap.size w w9) := Lib.hid (HB1.out.trans (Below.mono hS9 HB1.out.size))
    obtain ⟨Y, hY⟩ : ∃ Y, Y = (fieldsF (opF (kd, p, t, a, x))).1 := ⟨_, rfl⟩
    rw [← hY]
    have HY := Lib.hid hY
    clear hS9 hY
    go_wp2_with fail
    go_ret
    exact ⟨ret_str (by rw [HY.out, opS_yes HOK.out]), HBB.out⟩
end Go.Proofs.YtggdjiklgakfnaaGreatDoor
