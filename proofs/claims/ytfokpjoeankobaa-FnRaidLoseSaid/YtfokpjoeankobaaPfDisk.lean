/- pfDisk at equal disks. No condition. -/
import Derived.Test.YtfokpjoeankobaaDiskLose
namespace Go.Proofs.Ytfokpjoeankobaa
set_option linter.unusedVariables false
set_option linter.unusedSimpArgs false
set_option linter.unnecessarySimpa false
open Go.RowKit
set_option maxRecDepth 100000 in
set_option maxHeartbeats 4000000 in
theorem pfDisk_yes (cs cs' : List Value) (x : DiskD) (w : World) (lo hi lo' hi' : Nat) (h : DiskR w lo hi cs x) (h' : DiskR w lo' hi' cs' x) :
    Calls Try.prog 14 #[.agg cs.toArray, .agg cs'.toArray] w fun e w' => e = .returned (.bool true) ∧ Below w.heap.size w w' := by
  obtain ⟨x0, x1, gone⟩ := x
  obtain ⟨A0, n0, c0, A1, n1, c1, rfl, h0, h1⟩ := h
  obtain ⟨B0, m0, d0, B1, m1, d1, rfl, g0, g1⟩ := h'
  obtain rfl : m1 = n1 := by have := h1.len; have := g1.len; simp only at *; omega
  have hn := h1.max
  have hl := Lib.hid h1.len
  have H0 := Lib.hid h0; have G0 := Lib.hid g0; have HLE := Lib.hid h0.lo_le; have GLE := Lib.hid g0.lo_le
  have H1 := Lib.hid h1; have G1 := Lib.hid g1
  show Calls Try.prog 14 #[.agg #[.slice A0 n0 c0, .slice A1 m1 c1, .bool gone], .agg #[.slice B0 m0 d0, .slice B1 m1 d1, .bool gone]] w _
  clear h0 h1 g0 g1
  go_enter Try.func14, Try.ntmps14
  go_wp2_with fail
  refine (pfTexts_yes _ _ _ _ _ _ x0 _ lo hi lo' hi' (H0.out.below bel2 (StrR.below bel2 HLE.out)) (G0.out.below bel2 (StrR.below bel2 GLE.out))).mono ?_
  rintro e w1 ⟨rfl, hb1⟩
  have a1 : w1.cell? ⟨w.heap.size, 1, none⟩ = some (.slice A1 m1 c1) := (hb1.cell (by simp <;> omega)).trans (by simp [go_sem])
  have a2 : w1.cell? ⟨w.heap.size, 2, none⟩ = some (.bool gone) := (hb1.cell (by simp <;> omega)).trans (by simp [go_sem])
  have b1 : w1.cell? ⟨w.heap.size + 1, 1, none⟩ = some (.slice B1 m1 d1) := (hb1.cell (by simp <;> omega)).trans (by simp [go_sem])
  have b2 : w1.cell? ⟨w.heap.size + 1, 2, none⟩ = some (.bool gone) := (hb1.cell (by simp <;> omega)).trans (by simp [go_sem])
  have X1 : Below w.heap.size w w1 := bel2.trans (hb1.mono (by simp <;> omega))
  have l1 := World.block_lt_of_cell? _ _ a1
  have l2 := World.block_lt_of_cell? _ _ b1
  have hgg : (gone != gone) = false := by simp
  clear hb1 H0 G0 HLE GLE
  go_wp2_with fail
  clear a2 b2 hgg
  go_loopw [5] (fun i wr => ∃ k : Nat, k ≤ m1 ∧ i = .int .i64 k ∧ Below w1.heap.size w1 wr) (fun i _ => m1 - (intOf i).toNat)
  case atStart => exact ⟨0, Nat.zero_le _, rfl, Below.refl _ _⟩
  case round =>
    obtain ⟨k, hk, rfl, hB⟩ := hrel
    have hBw : Below w.heap.size w wr := X1.trans (hB.mono X1.size)
    have a1 := (hB.cell l1).trans a1
    have b1 := (hB.cell l2).trans b1
    have l1 := World.block_lt_of_cell? _ _ a1
    have l2 := World.block_lt_of_cell? _ _ b1
    by_cases hlt : k < m1
    · obtain ⟨x, hx⟩ : ∃ x, x1[k]? = some x := ⟨x1[k]'(by rw [hl.out]; exact hlt), List.getElem?_eq_getElem _⟩
      have g := SliceR.below H1.out hBw (WaitR.below hBw H1.out.lo_le); have g' := SliceR.below G1.out hBw (WaitR.below hBw G1.out.lo_le)
      obtain ⟨b, off, rfl, _, _, bl, hc⟩ := g.at_ (by omega); obtain ⟨b', off', rfl, _, _, bl', hc'⟩ := g'.at_ (by omega)
      obtain ⟨cs, hcl, hcc, hr⟩ := hc k x hx; obtain ⟨cs', hcl', hcc', hr'⟩ := hc' k x hx
      clear hc hc' hx g g'
      obtain ⟨xa, xs⟩ := x
      obtain ⟨rfl, _⟩ := hr; obtain ⟨rfl, _⟩ := hr'
      have q0 := hcc 0 _ rfl; have q1 := hcc 1 _ rfl; have r0 := hcc' 0 _ rfl; have r1 := hcc' 1 _ rfl
      simp only [Nat.add_zero] at q0 r0
      clear hcc hcc' hcl hcl'
      have k0 : (0 : Int) ≤ (k : Int) := by omega
      have k1 : (k : Int) < (m1 : Int) := by omega
      go_wp2_with fail
      apply wp_region_rg (by kernel_rfl) (false :: false :: false :: false :: false :: false :: false :: false :: false :: false :: false :: false :: false :: false :: false :: false :: false :: false :: false :: false :: false :: false :: false :: false :: false :: false :: false :: false :: false :: false :: false :: false :: false :: false :: false :: true :: true :: true :: true :: true :: true :: true :: true :: true :: true :: true :: []) [some 35, some 36, some 37, some 38, some 39, some 40, some 41, some 42, some 43, some 44, some 45] [[], [0], [], [1, 2], [3], [], [5], [], [6, 7], [8], [4, 9]] [StP.is _, StP.is _, StP.is _, StP.is _, StP.is _, StP.is _, StP.is _, StP.is _, StP.is _, StP.is _, StP.is _] (by kernel_rfl)
      case hobs =>
        refine ⟨fun y w' hS hF K hK => ?_, ?_⟩
        · skip -- 0: fieldAddr
          simp only [fillL, cond_true, cond_false, List.getD_cons_zero, List.getD_cons_succ, StP.is, Act.put, List.setIfInBounds_toArray, List.set_cons_zero, List.set_cons_succ, Nat.reduceAdd] at hK ⊢
          refine rg_yes (by kernel_rfl) ?_
          clear hF
          go_simp
          exact hK _ _ (Ext.refl _) rfl
        refine ⟨fun y w' hS hF K hK => ?_, ?_⟩
        · skip -- 1: load
          have e35 : y 35 = _ := hF.1
          simp only [fillL, cond_true, cond_false, List.getD_cons_zero, List.getD_cons_succ, StP.is, Act.put, List.setIfInBounds_toArray, List.set_cons_zero, List.set_cons_succ, Nat.reduceAdd, e35] at hK ⊢
          refine rg_yes (by kernel_rfl) ?_
          have qx0_ := (Below.cell hS l1).trans a1
          have qx1_ := (Below.cell hS l2).trans b1
          have qx2_ := (Below.cell hS bl).trans q0
          have qx3_ := (Below.cell hS bl).trans q1
          have qx4_ := (Below.cell hS bl').trans r0
          have qx5_ := (Below.cell hS bl').trans r1
          clear e35
          clear hF
          go_simp
          exact hK _ _ (Ext.refl _) rfl
        refine ⟨fun y w' hS hF K hK => ?_, ?_⟩
        · skip -- 2: move
          simp only [fillL, cond_true, cond_false, List.getD_cons_zero, List.getD_cons_succ, StP.is, Act.put, List.setIfInBounds_toArray, List.set_cons_zero, List.set_cons_succ, Nat.reduceAdd] at hK ⊢
          refine rg_yes (by kernel_rfl) ?_
          clear hF
          go_simp
          exact hK _ _ (Ext.refl _) rfl
        refine ⟨fun y w' hS hF K hK => ?_, ?_⟩
        · skip -- 3: indexAddr
          have e36 : y 36 = _ := hF.1
          have e37 : y 37 = _ := hF.2.1
          simp only [fillL, cond_true, cond_false, List.getD_cons_zero, List.getD_cons_succ, StP.is, Act.put, List.setIfInBounds_toArray, List.set_cons_zero, List.set_cons_succ, Nat.reduceAdd, e36, e37] at hK ⊢
          refine rg_yes (by kernel_rfl) ?_
          clear e36 e37
          clear hF
          go_simp
          exact hK _ _ (Ext.refl _) rfl
        refine ⟨fun y w' hS hF K hK => ?_, ?_⟩
        · skip -- 4: load
          have e38 : y 38 = _ := hF.1
          simp only [fillL, cond_true, cond_false, List.getD_cons_zero, List.getD_cons_succ, StP.is, Act.put, List.setIfInBounds_toArray, List.set_cons_zero, List.set_cons_succ, Nat.reduceAdd, e38] at hK ⊢
          refine rg_yes (by kernel_rfl) ?_
          have qx0_ := (Below.cell hS l1).trans a1
          have qx1_ := (Below.cell hS l2).trans b1
          have qx2_ := (Below.cell hS bl).trans q0
          have qx3_ := (Below.cell hS bl).trans q1
          have qx4_ := (Below.cell hS bl').trans r0
          have qx5_ := (Below.cell hS bl').trans r1
          clear e38
          clear hF
          go_simp
          exact hK _ _ (Ext.refl _) rfl
        refine ⟨fun y w' hS hF K hK => ?_, ?_⟩
        · skip -- 5: fieldAddr
          simp only [fillL, cond_true, cond_false, List.getD_cons_zero, List.getD_cons_succ, StP.is, Act.put, List.setIfInBounds_toArray, List.set_cons_zero, List.set_cons_succ, Nat.reduceAdd] at hK ⊢
          refine rg_yes (by kernel_rfl) ?_
          clear hF
          go_simp
          exact hK _ _ (Ext.refl _) rfl
        refine ⟨fun y w' hS hF K hK => ?_, ?_⟩
        · skip -- 6: load
          have e40 : y 40 = _ := hF.1
          simp only [fillL, cond_true, cond_false, List.getD_cons_zero, List.getD_cons_succ, StP.is, Act.put, List.setIfInBounds_toArray, List.set_cons_zero, List.set_cons_succ, Nat.reduceAdd, e40] at hK ⊢
          refine rg_yes (by kernel_rfl) ?_
          have qx0_ := (Below.cell hS l1).trans a1
          have qx1_ := (Below.cell hS l2).trans b1
          have qx2_ := (Below.cell hS bl).trans q0
          have qx3_ := (Below.cell hS bl).trans q1
          have qx4_ := (Below.cell hS bl').trans r0
          have qx5_ := (Below.cell hS bl').trans r1
          clear e40
          clear hF
          go_simp
          exact hK _ _ (Ext.refl _) rfl
        refine ⟨fun y w' hS hF K hK => ?_, ?_⟩
        · skip -- 7: move
          simp only [fillL, cond_true, cond_false, List.getD_cons_zero, List.getD_cons_succ, StP.is, Act.put, List.setIfInBounds_toArray, List.set_cons_zero, List.set_cons_succ, Nat.reduceAdd] at hK ⊢
          refine rg_yes (by kernel_rfl) ?_
          clear hF
          go_simp
          exact hK _ _ (Ext.refl _) rfl
        refine ⟨fun y w' hS hF K hK => ?_, ?_⟩
        · skip -- 8: indexAddr
          have e41 : y 41 = _ := hF.1
          have e42 : y 42 = _ := hF.2.1
          simp only [fillL, cond_true, cond_false, List.getD_cons_zero, List.getD_cons_succ, StP.is, Act.put, List.setIfInBounds_toArray, List.set_cons_zero, List.set_cons_succ, Nat.reduceAdd, e41, e42] at hK ⊢
          refine rg_yes (by kernel_rfl) ?_
          clear e41 e42
          clear hF
          go_simp
          exact hK _ _ (Ext.refl _) rfl
        refine ⟨fun y w' hS hF K hK => ?_, ?_⟩
        · skip -- 9: load
          have e43 : y 43 = _ := hF.1
          simp only [fillL, cond_true, cond_false, List.getD_cons_zero, List.getD_cons_succ, StP.is, Act.put, List.setIfInBounds_toArray, List.set_cons_zero, List.set_cons_succ, Nat.reduceAdd, e43] at hK ⊢
          refine rg_yes (by kernel_rfl) ?_
          have qx0_ := (Below.cell hS l1).trans a1
          have qx1_ := (Below.cell hS l2).trans b1
          have qx2_ := (Below.cell hS bl).trans q0
          have qx3_ := (Below.cell hS bl).trans q1
          have qx4_ := (Below.cell hS bl').trans r0
          have qx5_ := (Below.cell hS bl').trans r1
          clear e43
          clear hF
          go_simp
          exact hK _ _ (Ext.refl _) rfl
        refine ⟨fun y w' hS hF K hK => ?_, ?_⟩
        · skip -- 10: binOp
          have e39 : y 39 = _ := hF.1
          have e44 : y 44 = _ := hF.2.1
          simp only [fillL, cond_true, cond_false, List.getD_cons_zero, List.getD_cons_succ, StP.is, Act.put, List.setIfInBounds_toArray, List.set_cons_zero, List.set_cons_succ, Nat.reduceAdd, e39, e44] at hK ⊢
          refine rg_yes (by kernel_rfl) ?_
          clear e39 e44
          clear hF
          go_simp
          exact hK _ _ (Ext.refl _) rfl
        trivial
      case hend =>
        intro y w2 hX hF
        have e45 : y 45 = _ := hF.2.2.2.2.2.2.2.2.2.2.1
        clear hF
        simp only [fillL, cond_true, cond_false, Nat.reduceAdd, e45]
        clear e45
        have hB2 : Below w1.heap.size w1 w2 := hB.trans (Below.mono hX hB.size)
        clear hX hB
        go_wp2_with fail
        go_roundw
        case rel => exact ⟨k + 1, by omega, by go_num, hB2⟩
        case measure => simp [intOf]; omega
    · have k1 : ¬ (k : Int) < (m1 : Int) := by omega
      go_wp2_with fail
      go_ret
      exact ⟨rfl, hBw⟩
end Go.Proofs.Ytfokpjoeankobaa
