/- FlatSame, the program's and the reference's. No condition. -/
import Derived.Test.YtodibogijnjlaaaSameFam
namespace Go.Proofs.Ytodibogijnjlaaa
set_option linter.unusedVariables false
set_option linter.unusedSimpArgs false
set_option linter.unnecessarySimpa false
open Go.RowKit

set_option maxHeartbeats 2000000 in
theorem flatSame_any (cs cs' : List Value) (x y : FlatD) (w : World) (lo hi lo' hi' : Nat) (h : FlatR w lo hi cs x) (h' : FlatR w lo' hi' cs' y) :
    Calls Try.prog 35 #[.agg cs.toArray, .agg cs'.toArray] w fun e w' => e = .returned (.bool (same x.1 y.1 && same x.2 y.2)) ∧ Below w.heap.size w w' := by
  obtain ⟨xs0, xs1⟩ := x; obtain ⟨ys0, ys1⟩ := y
  obtain ⟨A0, n0, c0, A1, n1, c1, rfl, h0, h1⟩ := h; obtain ⟨B0, m0, d0, B1, m1, d1, rfl, k0, k1⟩ := h'
  show Calls Try.prog 35 #[.agg #[.slice A0 n0 c0, .slice A1 n1 c1], .agg #[.slice B0 m0 d0, .slice B1 m1 d1]] w fun e w' => e = .returned (.bool (same xs0 ys0 && same xs1 ys1)) ∧ _
  have H0 := Lib.hid h0; have H1 := Lib.hid h1; have K0 := Lib.hid k0; have K1 := Lib.hid k1; clear h0 h1 k0 k1
  go_enter Try.func35, Try.ntmps35
  go_wp2_with fail
  refine (slicesEqualFound_any _ _ _ _ _ _ xs0 ys0 _ lo hi lo' hi' (SliceR.below H0.out bel2 (FoundR.below bel2 H0.out.lo_le)) (SliceR.below K0.out bel2 (FoundR.below bel2 K0.out.lo_le))).mono ?_
  rintro e w1 ⟨rfl, hb1⟩
  have X1 : Below w.heap.size w w1 := bel2.trans (hb1.mono (by simp <;> omega))
  have g0 : w1.cell? ⟨w.heap.size, 0, none⟩ = some (.slice A0 n0 c0) := (hb1.cell (by simp <;> omega)).trans (by simp [go_sem])
  have g1 : w1.cell? ⟨w.heap.size, 1, none⟩ = some (.slice A1 n1 c1) := (hb1.cell (by simp <;> omega)).trans (by simp [go_sem])
  have g2 : w1.cell? ⟨w.heap.size + 1, 0, none⟩ = some (.slice B0 m0 d0) := (hb1.cell (by simp <;> omega)).trans (by simp [go_sem])
  have g3 : w1.cell? ⟨w.heap.size + 1, 1, none⟩ = some (.slice B1 m1 d1) := (hb1.cell (by simp <;> omega)).trans (by simp [go_sem])
  clear hb1
  generalize hs : same xs0 ys0 = s0
  have HS := Lib.hid hs; clear hs
  cases s0
  · go_wp2_with fail
    go_ret
    exact ⟨ret_bool (by simp [HS.out]), X1⟩
  · go_wp2_with fail
    refine (slicesEqualThing_any _ _ _ _ _ _ xs1 ys1 _ lo hi lo' hi' (SliceR.below H1.out X1 (ThingR.below X1 H1.out.lo_le)) (SliceR.below K1.out X1 (ThingR.below X1 K1.out.lo_le))).mono ?_
    rintro e w2 ⟨rfl, hb2⟩
    have X2 := X1.trans (hb2.mono X1.size)
    clear hb2
    go_wp2_with fail
    go_ret
    exact ⟨ret_bool (by simp [HS.out]), X2⟩

set_option maxRecDepth 100000 in
set_option maxHeartbeats 8000000 in
theorem spFlatSame_any (cs cs' : List Value) (x y : FlatD) (w : World) (lo hi lo' hi' : Nat) (h : FlatR w lo hi cs x) (h' : FlatR w lo' hi' cs' y) :
    Calls Try.prog 33 #[.agg cs.toArray, .agg cs'.toArray] w fun e w' => e = .returned (.bool (same x.1 y.1 && same x.2 y.2)) ∧ Below w.heap.size w w' := by
  obtain ⟨xs0, xs1⟩ := x; obtain ⟨ys0, ys1⟩ := y
  obtain ⟨A0, n0, c0, A1, n1, c1, rfl, h0, h1⟩ := h; obtain ⟨B0, m0, d0, B1, m1, d1, rfl, k0, k1⟩ := h'
  show Calls Try.prog 33 #[.agg #[.slice A0 n0 c0, .slice A1 n1 c1], .agg #[.slice B0 m0 d0, .slice B1 m1 d1]] w fun e w' => e = .returned (.bool (same xs0 ys0 && same xs1 ys1)) ∧ _
  have hn0 := h0.max; have hm0 := k0.max; have HL0 := Lib.hid h0.len; have KL0 := Lib.hid k0.len; have H0 := Lib.hid h0; have K0 := Lib.hid k0; clear h0 k0
  have hn1 := h1.max; have hm1 := k1.max; have HL1 := Lib.hid h1.len; have KL1 := Lib.hid k1.len; have H1 := Lib.hid h1; have K1 := Lib.hid k1; clear h1 k1
  by_cases d0 : n0 = m0
  rotate_left
  · have e0 : ((n0 : Int) != m0) = true := by simp; omega
    have hf := Lib.hid (show (same xs0 ys0 && same xs1 ys1) = false by rw [same_len (xs := xs0) (ys := ys0) (by rw [HL0.out, KL0.out]; exact d0)]; simp)
    clear d0
    go_enter Try.func33, Try.ntmps33
    go_wp2_with fail
    go_ret
    exact ⟨ret_bool hf.out.symm, bel2⟩
  subst d0
  by_cases d1 : n1 = m1
  rotate_left
  · have e1 : ((n1 : Int) != m1) = true := by simp; omega
    have hf := Lib.hid (show (same xs0 ys0 && same xs1 ys1) = false by rw [same_len (xs := xs1) (ys := ys1) (by rw [HL1.out, KL1.out]; exact d1)]; simp)
    clear d1
    go_enter Try.func33, Try.ntmps33
    go_wp2_with fail
    go_ret
    exact ⟨ret_bool hf.out.symm, bel2⟩
  subst d1
  go_enter Try.func33, Try.ntmps33
  go_wp2_with fail
  go_loopw [5] (fun s wr => ∃ k : Nat, k ≤ n0 ∧ s = .int .i64 k ∧ Hid (∀ j, j < k → xs0[j]? = ys0[j]?) ∧ Below w.heap.size w wr ∧ wr.cell? ⟨w.heap.size, 0, none⟩ = some (.slice A0 n0 c0) ∧ wr.cell? ⟨w.heap.size, 1, none⟩ = some (.slice A1 n1 c1) ∧ wr.cell? ⟨w.heap.size + 1, 0, none⟩ = some (.slice B0 n0 d0) ∧ wr.cell? ⟨w.heap.size + 1, 1, none⟩ = some (.slice B1 n1 d1)) (fun s _ => n0 - (intOf s).toNat)
  case atStart => exact ⟨0, Nat.zero_le _, rfl, Lib.hid (fun j hj => absurd hj (by omega)), bel2, by simp [go_sem], by simp [go_sem], by simp [go_sem], by simp [go_sem]⟩
  case round =>
    obtain ⟨k, hk, rfl, HP, hB, g0, g1, g2, g3⟩ := hrel
    by_cases hlt : k < n0
    · obtain ⟨x, hx⟩ : ∃ x, xs0[k]? = some x := ⟨xs0[k]'(by rw [HL0.out]; exact hlt), List.getElem?_eq_getElem _⟩
      obtain ⟨z, hz⟩ : ∃ z, ys0[k]? = some z := ⟨ys0[k]'(by rw [KL0.out]; exact hlt), List.getElem?_eq_getElem _⟩
      obtain ⟨b, off, rfl, _, _, bl, hc⟩ := (SliceR.below H0.out hB (FoundR.below hB H0.out.lo_le)).at_ (by omega)
      obtain ⟨b', off', rfl, _, _, bl', hc'⟩ := (SliceR.below K0.out hB (FoundR.below hB K0.out.lo_le)).at_ (by omega)
      obtain ⟨cs, hcl, hcc, hr⟩ := hc k x hx
      obtain ⟨cs', hcl', hcc', hr'⟩ := hc' k z hz
      clear hc hc'
      have hstep := same_step HP.out hx hz
      have hno := same_no hx hz
      obtain ⟨xpath_, xid_⟩ := x
      obtain ⟨zpath_, zid_⟩ := z
      obtain ⟨rfl, ha0⟩ := hr
      obtain ⟨rfl, hb0⟩ := hr'
      have q0 := hcc 0 _ rfl
      have r0 := hcc' 0 _ rfl
      have q1 := hcc 1 _ rfl
      have r1 := hcc' 1 _ rfl
      simp only [Nat.add_zero] at q0 r0
      clear hcc hcc' hcl hcl' hx hz HP ha0 hb0
      have HST := Lib.hid hstep
      have HNO := Lib.hid hno
      clear hstep hno
      have k0 : (0 : Int) ≤ (k : Int) := by omega
      have k1 : (k : Int) < (n0 : Int) := by omega
      have u0 := World.block_lt_of_cell? _ _ g0
      have u1 := World.block_lt_of_cell? _ _ g2
      by_cases d0 : xpath_ = zpath_
      · subst d0
        by_cases d1 : xid_ = zid_
        · subst d1
          have HS2 := Lib.hid (HST.out rfl)
          clear HST HNO
          go_wp2_with fail
          apply wp_region_rg (by kernel_rfl) [false, false, false, false, false, false, false, false, false, false, false, false, false, false, false, false, false, false, false, false, false, false, false, false, false, false, false, false, false, false, true, true, true, true, true, true, true, true, true, true, true, false, false, false, false, false, false, false, false, false, false, false, false, false, false, false, false, false, false] [some 30, some 31, some 32, some 33, some 34, some 35, some 36, some 37, some 38, some 39, some 40] [[], [0], [], [1, 2], [3], [], [5], [], [6, 7], [8], [4, 9]] [.is _, .is _, .is _, .is _, .is _, .is _, .is _, .is _, .is _, .is _, .is _] (by kernel_rfl)
          case hobs =>
            refine ⟨fun y w' hS hF K hK => ?_, ?_⟩
            · skip -- 0: fieldAddr
              simp only [fillL, cond_true, cond_false, List.getD_cons_zero, List.getD_cons_succ, StP.is, Act.put, List.setIfInBounds_toArray, List.set_cons_zero, List.set_cons_succ, Nat.reduceAdd] at hK ⊢
              refine rg_yes (by kernel_rfl) ?_
              clear hF
              go_simp
              exact hK _ _ (Ext.refl _) rfl
            refine ⟨fun y w' hS hF K hK => ?_, ?_⟩
            · skip -- 1: load
              have e30 : y 30 = _ := hF.1
              simp only [fillL, cond_true, cond_false, List.getD_cons_zero, List.getD_cons_succ, StP.is, Act.put, List.setIfInBounds_toArray, List.set_cons_zero, List.set_cons_succ, Nat.reduceAdd, e30] at hK ⊢
              refine rg_yes (by kernel_rfl) ?_
              have qx0_ := (Below.cell hS u0).trans g0
              have qx1_ := (Below.cell hS u0).trans g1
              have qx2_ := (Below.cell hS u1).trans g2
              have qx3_ := (Below.cell hS u1).trans g3
              have qx4_ := (Below.cell hS bl).trans q0
              have qx5_ := (Below.cell hS bl).trans q1
              have qx6_ := (Below.cell hS bl').trans r0
              have qx7_ := (Below.cell hS bl').trans r1
              clear e30
              clear hF
              go_simp
              exact hK _ _ (Ext.refl _) rfl
            refine ⟨fun y w' hS hF K hK => ?_, ?_⟩
            · skip -- 2: move
              simp only [fillL, cond_true, cond_false, List.getD_cons_zero, List.getD_cons_succ, StP.is, Act.put, List.setIfInBounds_toArray, List.set_cons_zero, List.set_cons_succ, Nat.reduceAdd] at hK ⊢
              refine rg_yes (by kernel_rfl) ?_
              clear hF
              go_simp
              exact hK _ _ (Ext.refl _) rfl
            refine ⟨fun y w' hS hF K hK => ?_, ?_⟩
            · skip -- 3: indexAddr
              have e31 : y 31 = _ := hF.1
              have e32 : y 32 = _ := hF.2.1
              simp only [fillL, cond_true, cond_false, List.getD_cons_zero, List.getD_cons_succ, StP.is, Act.put, List.setIfInBounds_toArray, List.set_cons_zero, List.set_cons_succ, Nat.reduceAdd, e31, e32] at hK ⊢
              refine rg_yes (by kernel_rfl) ?_
              clear e31 e32
              clear hF
              go_simp
              exact hK _ _ (Ext.refl _) rfl
            refine ⟨fun y w' hS hF K hK => ?_, ?_⟩
            · skip -- 4: load
              have e33 : y 33 = _ := hF.1
              simp only [fillL, cond_true, cond_false, List.getD_cons_zero, List.getD_cons_succ, StP.is, Act.put, List.setIfInBounds_toArray, List.set_cons_zero, List.set_cons_succ, Nat.reduceAdd, e33] at hK ⊢
              refine rg_yes (by kernel_rfl) ?_
              have qx0_ := (Below.cell hS u0).trans g0
              have qx1_ := (Below.cell hS u0).trans g1
              have qx2_ := (Below.cell hS u1).trans g2
              have qx3_ := (Below.cell hS u1).trans g3
              have qx4_ := (Below.cell hS bl).trans q0
              have qx5_ := (Below.cell hS bl).trans q1
              have qx6_ := (Below.cell hS bl').trans r0
              have qx7_ := (Below.cell hS bl').trans r1
              clear e33
              clear hF
              go_simp
              exact hK _ _ (Ext.refl _) rfl
            refine ⟨fun y w' hS hF K hK => ?_, ?_⟩
            · skip -- 5: fieldAddr
              simp only [fillL, cond_true, cond_false, List.getD_cons_zero, List.getD_cons_succ, StP.is, Act.put, List.setIfInBounds_toArray, List.set_cons_zero, List.set_cons_succ, Nat.reduceAdd] at hK ⊢
              refine rg_yes (by kernel_rfl) ?_
              clear hF
              go_simp
              exact hK _ _ (Ext.refl _) rfl
            refine ⟨fun y w' hS hF K hK => ?_, ?_⟩
            · skip -- 6: load
              have e35 : y 35 = _ := hF.1
              simp only [fillL, cond_true, cond_false, List.getD_cons_zero, List.getD_cons_succ, StP.is, Act.put, List.setIfInBounds_toArray, List.set_cons_zero, List.set_cons_succ, Nat.reduceAdd, e35] at hK ⊢
              refine rg_yes (by kernel_rfl) ?_
              have qx0_ := (Below.cell hS u0).trans g0
              have qx1_ := (Below.cell hS u0).trans g1
              have qx2_ := (Below.cell hS u1).trans g2
              have qx3_ := (Below.cell hS u1).trans g3
              have qx4_ := (Below.cell hS bl).trans q0
              have qx5_ := (Below.cell hS bl).trans q1
              have qx6_ := (Below.cell hS bl').trans r0
              have qx7_ := (Below.cell hS bl').trans r1
              clear e35
              clear hF
              go_simp
              exact hK _ _ (Ext.refl _) rfl
            refine ⟨fun y w' hS hF K hK => ?_, ?_⟩
            · skip -- 7: move
              simp only [fillL, cond_true, cond_false, List.getD_cons_zero, List.getD_cons_succ, StP.is, Act.put, List.setIfInBounds_toArray, List.set_cons_zero, List.set_cons_succ, Nat.reduceAdd] at hK ⊢
              refine rg_yes (by kernel_rfl) ?_
              clear hF
              go_simp
              exact hK _ _ (Ext.refl _) rfl
            refine ⟨fun y w' hS hF K hK => ?_, ?_⟩
            · skip -- 8: indexAddr
              have e36 : y 36 = _ := hF.1
              have e37 : y 37 = _ := hF.2.1
              simp only [fillL, cond_true, cond_false, List.getD_cons_zero, List.getD_cons_succ, StP.is, Act.put, List.setIfInBounds_toArray, List.set_cons_zero, List.set_cons_succ, Nat.reduceAdd, e36, e37] at hK ⊢
              refine rg_yes (by kernel_rfl) ?_
              clear e36 e37
              clear hF
              go_simp
              exact hK _ _ (Ext.refl _) rfl
            refine ⟨fun y w' hS hF K hK => ?_, ?_⟩
            · skip -- 9: load
              have e38 : y 38 = _ := hF.1
              simp only [fillL, cond_true, cond_false, List.getD_cons_zero, List.getD_cons_succ, StP.is, Act.put, List.setIfInBounds_toArray, List.set_cons_zero, List.set_cons_succ, Nat.reduceAdd, e38] at hK ⊢
              refine rg_yes (by kernel_rfl) ?_
              have qx0_ := (Below.cell hS u0).trans g0
              have qx1_ := (Below.cell hS u0).trans g1
              have qx2_ := (Below.cell hS u1).trans g2
              have qx3_ := (Below.cell hS u1).trans g3
              have qx4_ := (Below.cell hS bl).trans q0
              have qx5_ := (Below.cell hS bl).trans q1
              have qx6_ := (Below.cell hS bl').trans r0
              have qx7_ := (Below.cell hS bl').trans r1
              clear e38
              clear hF
              go_simp
              exact hK _ _ (Ext.refl _) rfl
            refine ⟨fun y w' hS hF K hK => ?_, ?_⟩
            · skip -- 10: binOp
              have e34 : y 34 = _ := hF.1
              have e39 : y 39 = _ := hF.2.1
              simp only [fillL, cond_true, cond_false, List.getD_cons_zero, List.getD_cons_succ, StP.is, Act.put, List.setIfInBounds_toArray, List.set_cons_zero, List.set_cons_succ, Nat.reduceAdd, e34, e39] at hK ⊢
              refine rg_yes (by kernel_rfl) ?_
              clear e34 e39
              clear hF
              go_simp
              exact hK _ _ (Ext.refl _) rfl
            trivial
          case hend =>
            intro y w2 hX hF
            have e40 : y 40 = _ := hF.2.2.2.2.2.2.2.2.2.2.1
            clear hF
            simp only [fillL, cond_true, cond_false, Nat.reduceAdd, e40]
            clear e40
            have hB2 : Below w.heap.size w w2 := hB.trans (Below.mono hX hB.size)
            have v0 := (Below.cell hX u0).trans g0
            have v1 := (Below.cell hX u0).trans g1
            have v2 := (Below.cell hX u1).trans g2
            have v3 := (Below.cell hX u1).trans g3
            clear hX g0 g1 g2 g3 u0 u1 bl bl' q0 r0 q1 r1
            go_wp2_with fail
            go_roundw
            case rel => exact ⟨k + 1, by omega, by go_num, HS2, hB2, v0, v1, v2, v3⟩
            case measure => simp [intOf]; omega
        · have HN2 := Lib.hid (show (same xs0 ys0 && same xs1 ys1) = false by rw [HNO.out (by simp [d1])]; simp)
          clear HST HNO
          go_wp2_with fail
          apply wp_region_rg (by kernel_rfl) [false, false, false, false, false, false, false, false, false, false, false, false, false, false, false, false, false, false, false, false, false, false, false, false, false, false, false, false, false, false, true, true, true, true, true, true, true, true, true, true, true, false, false, false, false, false, false, false, false, false, false, false, false, false, false, false, false, false, false] [some 30, some 31, some 32, some 33, some 34, some 35, some 36, some 37, some 38, some 39, some 40] [[], [0], [], [1, 2], [3], [], [5], [], [6, 7], [8], [4, 9]] [.is _, .is _, .is _, .is _, .is _, .is _, .is _, .is _, .is _, .is _, .is _] (by kernel_rfl)
          case hobs =>
            refine ⟨fun y w' hS hF K hK => ?_, ?_⟩
            · skip -- 0: fieldAddr
              simp only [fillL, cond_true, cond_false, List.getD_cons_zero, List.getD_cons_succ, StP.is, Act.put, List.setIfInBounds_toArray, List.set_cons_zero, List.set_cons_succ, Nat.reduceAdd] at hK ⊢
              refine rg_yes (by kernel_rfl) ?_
              clear hF
              go_simp
              exact hK _ _ (Ext.refl _) rfl
            refine ⟨fun y w' hS hF K hK => ?_, ?_⟩
            · skip -- 1: load
              have e30 : y 30 = _ := hF.1
              simp only [fillL, cond_true, cond_false, List.getD_cons_zero, List.getD_cons_succ, StP.is, Act.put, List.setIfInBounds_toArray, List.set_cons_zero, List.set_cons_succ, Nat.reduceAdd, e30] at hK ⊢
              refine rg_yes (by kernel_rfl) ?_
              have qx0_ := (Below.cell hS u0).trans g0
              have qx1_ := (Below.cell hS u0).trans g1
              have qx2_ := (Below.cell hS u1).trans g2
              have qx3_ := (Below.cell hS u1).trans g3
              have qx4_ := (Below.cell hS bl).trans q0
              have qx5_ := (Below.cell hS bl).trans q1
              have qx6_ := (Below.cell hS bl').trans r0
              have qx7_ := (Below.cell hS bl').trans r1
              clear e30
              clear hF
              go_simp
              exact hK _ _ (Ext.refl _) rfl
            refine ⟨fun y w' hS hF K hK => ?_, ?_⟩
            · skip -- 2: move
              simp only [fillL, cond_true, cond_false, List.getD_cons_zero, List.getD_cons_succ, StP.is, Act.put, List.setIfInBounds_toArray, List.set_cons_zero, List.set_cons_succ, Nat.reduceAdd] at hK ⊢
              refine rg_yes (by kernel_rfl) ?_
              clear hF
              go_simp
              exact hK _ _ (Ext.refl _) rfl
            refine ⟨fun y w' hS hF K hK => ?_, ?_⟩
            · skip -- 3: indexAddr
              have e31 : y 31 = _ := hF.1
              have e32 : y 32 = _ := hF.2.1
              simp only [fillL, cond_true, cond_false, List.getD_cons_zero, List.getD_cons_succ, StP.is, Act.put, List.setIfInBounds_toArray, List.set_cons_zero, List.set_cons_succ, Nat.reduceAdd, e31, e32] at hK ⊢
              refine rg_yes (by kernel_rfl) ?_
              clear e31 e32
              clear hF
              go_simp
              exact hK _ _ (Ext.refl _) rfl
            refine ⟨fun y w' hS hF K hK => ?_, ?_⟩
            · skip -- 4: load
              have e33 : y 33 = _ := hF.1
              simp only [fillL, cond_true, cond_false, List.getD_cons_zero, List.getD_cons_succ, StP.is, Act.put, List.setIfInBounds_toArray, List.set_cons_zero, List.set_cons_succ, Nat.reduceAdd, e33] at hK ⊢
              refine rg_yes (by kernel_rfl) ?_
              have qx0_ := (Below.cell hS u0).trans g0
              have qx1_ := (Below.cell hS u0).trans g1
              have qx2_ := (Below.cell hS u1).trans g2
              have qx3_ := (Below.cell hS u1).trans g3
              have qx4_ := (Below.cell hS bl).trans q0
              have qx5_ := (Below.cell hS bl).trans q1
              have qx6_ := (Below.cell hS bl').trans r0
              have qx7_ := (Below.cell hS bl').trans r1
              clear e33
              clear hF
              go_simp
              exact hK _ _ (Ext.refl _) rfl
            refine ⟨fun y w' hS hF K hK => ?_, ?_⟩
            · skip -- 5: fieldAddr
              simp only [fillL, cond_true, cond_false, List.getD_cons_zero, List.getD_cons_succ, StP.is, Act.put, List.setIfInBounds_toArray, List.set_cons_zero, List.set_cons_succ, Nat.reduceAdd] at hK ⊢
              refine rg_yes (by kernel_rfl) ?_
              clear hF
              go_simp
              exact hK _ _ (Ext.refl _) rfl
            refine ⟨fun y w' hS hF K hK => ?_, ?_⟩
            · skip -- 6: load
              have e35 : y 35 = _ := hF.1
              simp only [fillL, cond_true, cond_false, List.getD_cons_zero, List.getD_cons_succ, StP.is, Act.put, List.setIfInBounds_toArray, List.set_cons_zero, List.set_cons_succ, Nat.reduceAdd, e35] at hK ⊢
              refine rg_yes (by kernel_rfl) ?_
              have qx0_ := (Below.cell hS u0).trans g0
              have qx1_ := (Below.cell hS u0).trans g1
              have qx2_ := (Below.cell hS u1).trans g2
              have qx3_ := (Below.cell hS u1).trans g3
              have qx4_ := (Below.cell hS bl).trans q0
              have qx5_ := (Below.cell hS bl).trans q1
              have qx6_ := (Below.cell hS bl').trans r0
              have qx7_ := (Below.cell hS bl').trans r1
              clear e35
              clear hF
              go_simp
              exact hK _ _ (Ext.refl _) rfl
            refine ⟨fun y w' hS hF K hK => ?_, ?_⟩
            · skip -- 7: move
              simp only [fillL, cond_true, cond_false, List.getD_cons_zero, List.getD_cons_succ, StP.is, Act.put, List.setIfInBounds_toArray, List.set_cons_zero, List.set_cons_succ, Nat.reduceAdd] at hK ⊢
              refine rg_yes (by kernel_rfl) ?_
              clear hF
              go_simp
              exact hK _ _ (Ext.refl _) rfl
            refine ⟨fun y w' hS hF K hK => ?_, ?_⟩
            · skip -- 8: indexAddr
              have e36 : y 36 = _ := hF.1
              have e37 : y 37 = _ := hF.2.1
              simp only [fillL, cond_true, cond_false, List.getD_cons_zero, List.getD_cons_succ, StP.is, Act.put, List.setIfInBounds_toArray, List.set_cons_zero, List.set_cons_succ, Nat.reduceAdd, e36, e37] at hK ⊢
              refine rg_yes (by kernel_rfl) ?_
              clear e36 e37
              clear hF
              go_simp
              exact hK _ _ (Ext.refl _) rfl
            refine ⟨fun y w' hS hF K hK => ?_, ?_⟩
            · skip -- 9: load
              have e38 : y 38 = _ := hF.1
              simp only [fillL, cond_true, cond_false, List.getD_cons_zero, List.getD_cons_succ, StP.is, Act.put, List.setIfInBounds_toArray, List.set_cons_zero, List.set_cons_succ, Nat.reduceAdd, e38] at hK ⊢
              refine rg_yes (by kernel_rfl) ?_
              have qx0_ := (Below.cell hS u0).trans g0
              have qx1_ := (Below.cell hS u0).trans g1
              have qx2_ := (Below.cell hS u1).trans g2
              have qx3_ := (Below.cell hS u1).trans g3
              have qx4_ := (Below.cell hS bl).trans q0
              have qx5_ := (Below.cell hS bl).trans q1
              have qx6_ := (Below.cell hS bl').trans r0
              have qx7_ := (Below.cell hS bl').trans r1
              clear e38
              clear hF
              go_simp
              exact hK _ _ (Ext.refl _) rfl
            refine ⟨fun y w' hS hF K hK => ?_, ?_⟩
            · skip -- 10: binOp
              have e34 : y 34 = _ := hF.1
              have e39 : y 39 = _ := hF.2.1
              simp only [fillL, cond_true, cond_false, List.getD_cons_zero, List.getD_cons_succ, StP.is, Act.put, List.setIfInBounds_toArray, List.set_cons_zero, List.set_cons_succ, Nat.reduceAdd, e34, e39] at hK ⊢
              refine rg_yes (by kernel_rfl) ?_
              clear e34 e39
              clear hF
              go_simp
              exact hK _ _ (Ext.refl _) rfl
            trivial
          case hend =>
            intro y w2 hX hF
            have e40 : y 40 = _ := hF.2.2.2.2.2.2.2.2.2.2.1
            clear hF
            simp only [fillL, cond_true, cond_false, Nat.reduceAdd, e40]
            clear e40
            have hB2 : Below w.heap.size w w2 := hB.trans (Below.mono hX hB.size)
            have v0 := (Below.cell hX u0).trans g0
            have v1 := (Below.cell hX u0).trans g1
            have v2 := (Below.cell hX u1).trans g2
            have v3 := (Below.cell hX u1).trans g3
            clear hX g0 g1 g2 g3 u0 u1 bl bl' q0 r0 q1 r1
            go_wp2_with fail
            go_ret
            exact ⟨ret_bool HN2.out.symm, hB2⟩
      · have HN2 := Lib.hid (show (same xs0 ys0 && same xs1 ys1) = false by rw [HNO.out (by simp [d0])]; simp)
        have e0_ := str_ne d0
        clear HST HNO
        go_wp2_with fail
        apply wp_region_rg (by kernel_rfl) [false, false, false, false, false, false, false, false, false, false, false, false, false, false, false, false, false, false, false, false, false, false, false, false, false, false, false, false, false, false, true, true, true, true, true, true, true, true, true, true, true, false, false, false, false, false, false, false, false, false, false, false, false, false, false, false, false, false, false] [some 30, some 31, some 32, some 33, some 34, some 35, some 36, some 37, some 38, some 39, some 40] [[], [0], [], [1, 2], [3], [], [5], [], [6, 7], [8], [4, 9]] [.is _, .is _, .is _, .is _, .is _, .is _, .is _, .is _, .is _, .is _, .is _] (by kernel_rfl)
        case hobs =>
          refine ⟨fun y w' hS hF K hK => ?_, ?_⟩
          · skip -- 0: fieldAddr
            simp only [fillL, cond_true, cond_false, List.getD_cons_zero, List.getD_cons_succ, StP.is, Act.put, List.setIfInBounds_toArray, List.set_cons_zero, List.set_cons_succ, Nat.reduceAdd] at hK ⊢
            refine rg_yes (by kernel_rfl) ?_
            clear hF
            go_simp
            exact hK _ _ (Ext.refl _) rfl
          refine ⟨fun y w' hS hF K hK => ?_, ?_⟩
          · skip -- 1: load
            have e30 : y 30 = _ := hF.1
            simp only [fillL, cond_true, cond_false, List.getD_cons_zero, List.getD_cons_succ, StP.is, Act.put, List.setIfInBounds_toArray, List.set_cons_zero, List.set_cons_succ, Nat.reduceAdd, e30] at hK ⊢
            refine rg_yes (by kernel_rfl) ?_
            have qx0_ := (Below.cell hS u0).trans g0
            have qx1_ := (Below.cell hS u0).trans g1
            have qx2_ := (Below.cell hS u1).trans g2
            have qx3_ := (Below.cell hS u1).trans g3
            have qx4_ := (Below.cell hS bl).trans q0
            have qx5_ := (Below.cell hS bl).trans q1
            have qx6_ := (Below.cell hS bl').trans r0
            have qx7_ := (Below.cell hS bl').trans r1
            clear e30
            clear hF
            go_simp
            exact hK _ _ (Ext.refl _) rfl
          refine ⟨fun y w' hS hF K hK => ?_, ?_⟩
          · skip -- 2: move
            simp only [fillL, cond_true, cond_false, List.getD_cons_zero, List.getD_cons_succ, StP.is, Act.put, List.setIfInBounds_toArray, List.set_cons_zero, List.set_cons_succ, Nat.reduceAdd] at hK ⊢
            refine rg_yes (by kernel_rfl) ?_
            clear hF
            go_simp
            exact hK _ _ (Ext.refl _) rfl
          refine ⟨fun y w' hS hF K hK => ?_, ?_⟩
          · skip -- 3: indexAddr
            have e31 : y 31 = _ := hF.1
            have e32 : y 32 = _ := hF.2.1
            simp only [fillL, cond_true, cond_false, List.getD_cons_zero, List.getD_cons_succ, StP.is, Act.put, List.setIfInBounds_toArray, List.set_cons_zero, List.set_cons_succ, Nat.reduceAdd, e31, e32] at hK ⊢
            refine rg_yes (by kernel_rfl) ?_
            clear e31 e32
            clear hF
            go_simp
            exact hK _ _ (Ext.refl _) rfl
          refine ⟨fun y w' hS hF K hK => ?_, ?_⟩
          · skip -- 4: load
            have e33 : y 33 = _ := hF.1
            simp only [fillL, cond_true, cond_false, List.getD_cons_zero, List.getD_cons_succ, StP.is, Act.put, List.setIfInBounds_toArray, List.set_cons_zero, List.set_cons_succ, Nat.reduceAdd, e33] at hK ⊢
            refine rg_yes (by kernel_rfl) ?_
            have qx0_ := (Below.cell hS u0).trans g0
            have qx1_ := (Below.cell hS u0).trans g1
            have qx2_ := (Below.cell hS u1).trans g2
            have qx3_ := (Below.cell hS u1).trans g3
            have qx4_ := (Below.cell hS bl).trans q0
            have qx5_ := (Below.cell hS bl).trans q1
            have qx6_ := (Below.cell hS bl').trans r0
            have qx7_ := (Below.cell hS bl').trans r1
            clear e33
            clear hF
            go_simp
            exact hK _ _ (Ext.refl _) rfl
          refine ⟨fun y w' hS hF K hK => ?_, ?_⟩
          · skip -- 5: fieldAddr
            simp only [fillL, cond_true, cond_false, List.getD_cons_zero, List.getD_cons_succ, StP.is, Act.put, List.setIfInBounds_toArray, List.set_cons_zero, List.set_cons_succ, Nat.reduceAdd] at hK ⊢
            refine rg_yes (by kernel_rfl) ?_
            clear hF
            go_simp
            exact hK _ _ (Ext.refl _) rfl
          refine ⟨fun y w' hS hF K hK => ?_, ?_⟩
          · skip -- 6: load
            have e35 : y 35 = _ := hF.1
            simp only [fillL, cond_true, cond_false, List.getD_cons_zero, List.getD_cons_succ, StP.is, Act.put, List.setIfInBounds_toArray, List.set_cons_zero, List.set_cons_succ, Nat.reduceAdd, e35] at hK ⊢
            refine rg_yes (by kernel_rfl) ?_
            have qx0_ := (Below.cell hS u0).trans g0
            have qx1_ := (Below.cell hS u0).trans g1
            have qx2_ := (Below.cell hS u1).trans g2
            have qx3_ := (Below.cell hS u1).trans g3
            have qx4_ := (Below.cell hS bl).trans q0
            have qx5_ := (Below.cell hS bl).trans q1
            have qx6_ := (Below.cell hS bl').trans r0
            have qx7_ := (Below.cell hS bl').trans r1
            clear e35
            clear hF
            go_simp
            exact hK _ _ (Ext.refl _) rfl
          refine ⟨fun y w' hS hF K hK => ?_, ?_⟩
          · skip -- 7: move
            simp only [fillL, cond_true, cond_false, List.getD_cons_zero, List.getD_cons_succ, StP.is, Act.put, List.setIfInBounds_toArray, List.set_cons_zero, List.set_cons_succ, Nat.reduceAdd] at hK ⊢
            refine rg_yes (by kernel_rfl) ?_
            clear hF
            go_simp
            exact hK _ _ (Ext.refl _) rfl
          refine ⟨fun y w' hS hF K hK => ?_, ?_⟩
          · skip -- 8: indexAddr
            have e36 : y 36 = _ := hF.1
            have e37 : y 37 = _ := hF.2.1
            simp only [fillL, cond_true, cond_false, List.getD_cons_zero, List.getD_cons_succ, StP.is, Act.put, List.setIfInBounds_toArray, List.set_cons_zero, List.set_cons_succ, Nat.reduceAdd, e36, e37] at hK ⊢
            refine rg_yes (by kernel_rfl) ?_
            clear e36 e37
            clear hF
            go_simp
            exact hK _ _ (Ext.refl _) rfl
          refine ⟨fun y w' hS hF K hK => ?_, ?_⟩
          · skip -- 9: load
            have e38 : y 38 = _ := hF.1
            simp only [fillL, cond_true, cond_false, List.getD_cons_zero, List.getD_cons_succ, StP.is, Act.put, List.setIfInBounds_toArray, List.set_cons_zero, List.set_cons_succ, Nat.reduceAdd, e38] at hK ⊢
            refine rg_yes (by kernel_rfl) ?_
            have qx0_ := (Below.cell hS u0).trans g0
            have qx1_ := (Below.cell hS u0).trans g1
            have qx2_ := (Below.cell hS u1).trans g2
            have qx3_ := (Below.cell hS u1).trans g3
            have qx4_ := (Below.cell hS bl).trans q0
            have qx5_ := (Below.cell hS bl).trans q1
            have qx6_ := (Below.cell hS bl').trans r0
            have qx7_ := (Below.cell hS bl').trans r1
            clear e38
            clear hF
            go_simp
            exact hK _ _ (Ext.refl _) rfl
          refine ⟨fun y w' hS hF K hK => ?_, ?_⟩
          · skip -- 10: binOp
            have e34 : y 34 = _ := hF.1
            have e39 : y 39 = _ := hF.2.1
            simp only [fillL, cond_true, cond_false, List.getD_cons_zero, List.getD_cons_succ, StP.is, Act.put, List.setIfInBounds_toArray, List.set_cons_zero, List.set_cons_succ, Nat.reduceAdd, e34, e39] at hK ⊢
            refine rg_yes (by kernel_rfl) ?_
            clear e34 e39
            clear hF
            go_simp
            exact hK _ _ (Ext.refl _) rfl
          trivial
        case hend =>
          intro y w2 hX hF
          have e40 : y 40 = _ := hF.2.2.2.2.2.2.2.2.2.2.1
          clear hF
          simp only [fillL, cond_true, cond_false, Nat.reduceAdd, e40]
          clear e40
          have hB2 : Below w.heap.size w w2 := hB.trans (Below.mono hX hB.size)
          have v0 := (Below.cell hX u0).trans g0
          have v1 := (Below.cell hX u0).trans g1
          have v2 := (Below.cell hX u1).trans g2
          have v3 := (Below.cell hX u1).trans g3
          clear hX g0 g1 g2 g3 u0 u1 bl bl' q0 r0 q1 r1
          go_wp2_with fail
          go_ret
          exact ⟨ret_bool HN2.out.symm, hB2⟩
    · obtain rfl : n0 = k := by omega
      have F0 := Lib.hid (same_all HP.out HL0.out KL0.out); clear HP
      go_wp2_with fail
      go_loopw [6] (fun s wr => ∃ k : Nat, k ≤ n1 ∧ s = .int .i64 k ∧ Hid (∀ j, j < k → xs1[j]? = ys1[j]?) ∧ Below w.heap.size w wr ∧ wr.cell? ⟨w.heap.size, 0, none⟩ = some (.slice A0 n0 c0) ∧ wr.cell? ⟨w.heap.size, 1, none⟩ = some (.slice A1 n1 c1) ∧ wr.cell? ⟨w.heap.size + 1, 0, none⟩ = some (.slice B0 n0 d0) ∧ wr.cell? ⟨w.heap.size + 1, 1, none⟩ = some (.slice B1 n1 d1)) (fun s _ => n1 - (intOf s).toNat)
      case atStart => exact ⟨0, Nat.zero_le _, rfl, Lib.hid (fun j hj => absurd hj (by omega)), hB, g0, g1, g2, g3⟩
      case round =>
        clear hB g0 g1 g2 g3
        obtain ⟨k, hk, rfl, HP, hB, g0, g1, g2, g3⟩ := hrel
        by_cases hlt : k < n1
        · obtain ⟨x, hx⟩ : ∃ x, xs1[k]? = some x := ⟨xs1[k]'(by rw [HL1.out]; exact hlt), List.getElem?_eq_getElem _⟩
          obtain ⟨z, hz⟩ : ∃ z, ys1[k]? = some z := ⟨ys1[k]'(by rw [KL1.out]; exact hlt), List.getElem?_eq_getElem _⟩
          obtain ⟨b, off, rfl, _, _, bl, hc⟩ := (SliceR.below H1.out hB (ThingR.below hB H1.out.lo_le)).at_ (by omega)
          obtain ⟨b', off', rfl, _, _, bl', hc'⟩ := (SliceR.below K1.out hB (ThingR.below hB K1.out.lo_le)).at_ (by omega)
          obtain ⟨cs, hcl, hcc, hr⟩ := hc k x hx
          obtain ⟨cs', hcl', hcc', hr'⟩ := hc' k z hz
          clear hc hc'
          have hstep := same_step HP.out hx hz
          have hno := same_no hx hz
          obtain ⟨xid_, xfolder_, xtext_⟩ := x
          obtain ⟨zid_, zfolder_, ztext_⟩ := z
          obtain ⟨rfl, ha0⟩ := hr
          obtain ⟨rfl, hb0⟩ := hr'
          have q0 := hcc 0 _ rfl
          have r0 := hcc' 0 _ rfl
          have q1 := hcc 1 _ rfl
          have r1 := hcc' 1 _ rfl
          have q2 := hcc 2 _ rfl
          have r2 := hcc' 2 _ rfl
          simp only [Nat.add_zero] at q0 r0
          clear hcc hcc' hcl hcl' hx hz HP ha0 hb0
          have HST := Lib.hid hstep
          have HNO := Lib.hid hno
          clear hstep hno
          have k0 : (0 : Int) ≤ (k : Int) := by omega
          have k1 : (k : Int) < (n1 : Int) := by omega
          have u0 := World.block_lt_of_cell? _ _ g0
          have u1 := World.block_lt_of_cell? _ _ g2
          by_cases d0 : xid_ = zid_
          · subst d0
            by_cases d1 : xfolder_ = zfolder_
            · subst d1
              by_cases d2 : xtext_ = ztext_
              · subst d2
                have HS2 := Lib.hid (HST.out rfl)
                clear HST HNO
                go_wp2_with fail
                apply wp_region_rg (by kernel_rfl) [false, false, false, false, false, false, false, false, false, false, false, false, false, false, false, false, false, false, false, false, false, false, false, false, false, false, false, false, false, false, false, false, false, false, false, false, false, false, false, false, false, false, false, false, false, false, false, false, true, true, true, true, true, true, true, true, true, true, true] [some 48, some 49, some 50, some 51, some 52, some 53, some 54, some 55, some 56, some 57, some 58] [[], [0], [], [1, 2], [3], [], [5], [], [6, 7], [8], [4, 9]] [.is _, .is _, .is _, .is _, .is _, .is _, .is _, .is _, .is _, .is _, .is _] (by kernel_rfl)
                case hobs =>
                  refine ⟨fun y w' hS hF K hK => ?_, ?_⟩
                  · skip -- 0: fieldAddr
                    simp only [fillL, cond_true, cond_false, List.getD_cons_zero, List.getD_cons_succ, StP.is, Act.put, List.setIfInBounds_toArray, List.set_cons_zero, List.set_cons_succ, Nat.reduceAdd] at hK ⊢
                    refine rg_yes (by kernel_rfl) ?_
                    clear hF
                    go_simp
                    exact hK _ _ (Ext.refl _) rfl
                  refine ⟨fun y w' hS hF K hK => ?_, ?_⟩
                  · skip -- 1: load
                    have e48 : y 48 = _ := hF.1
                    simp only [fillL, cond_true, cond_false, List.getD_cons_zero, List.getD_cons_succ, StP.is, Act.put, List.setIfInBounds_toArray, List.set_cons_zero, List.set_cons_succ, Nat.reduceAdd, e48] at hK ⊢
                    refine rg_yes (by kernel_rfl) ?_
                    have qx0_ := (Below.cell hS u0).trans g0
                    have qx1_ := (Below.cell hS u0).trans g1
                    have qx2_ := (Below.cell hS u1).trans g2
                    have qx3_ := (Below.cell hS u1).trans g3
                    have qx4_ := (Below.cell hS bl).trans q0
                    have qx5_ := (Below.cell hS bl).trans q1
                    have qx6_ := (Below.cell hS bl).trans q2
                    have qx7_ := (Below.cell hS bl').trans r0
                    have qx8_ := (Below.cell hS bl').trans r1
                    have qx9_ := (Below.cell hS bl').trans r2
                    clear e48
                    clear hF
                    go_simp
                    exact hK _ _ (Ext.refl _) rfl
                  refine ⟨fun y w' hS hF K hK => ?_, ?_⟩
                  · skip -- 2: move
                    simp only [fillL, cond_true, cond_false, List.getD_cons_zero, List.getD_cons_succ, StP.is, Act.put, List.setIfInBounds_toArray, List.set_cons_zero, List.set_cons_succ, Nat.reduceAdd] at hK ⊢
                    refine rg_yes (by kernel_rfl) ?_
                    clear hF
                    go_simp
                    exact hK _ _ (Ext.refl _) rfl
                  refine ⟨fun y w' hS hF K hK => ?_, ?_⟩
                  · skip -- 3: indexAddr
                    have e49 : y 49 = _ := hF.1
                    have e50 : y 50 = _ := hF.2.1
                    simp only [fillL, cond_true, cond_false, List.getD_cons_zero, List.getD_cons_succ, StP.is, Act.put, List.setIfInBounds_toArray, List.set_cons_zero, List.set_cons_succ, Nat.reduceAdd, e49, e50] at hK ⊢
                    refine rg_yes (by kernel_rfl) ?_
                    clear e49 e50
                    clear hF
                    go_simp
                    exact hK _ _ (Ext.refl _) rfl
                  refine ⟨fun y w' hS hF K hK => ?_, ?_⟩
                  · skip -- 4: load
                    have e51 : y 51 = _ := hF.1
                    simp only [fillL, cond_true, cond_false, List.getD_cons_zero, List.getD_cons_succ, StP.is, Act.put, List.setIfInBounds_toArray, List.set_cons_zero, List.set_cons_succ, Nat.reduceAdd, e51] at hK ⊢
                    refine rg_yes (by kernel_rfl) ?_
                    have qx0_ := (Below.cell hS u0).trans g0
                    have qx1_ := (Below.cell hS u0).trans g1
                    have qx2_ := (Below.cell hS u1).trans g2
                    have qx3_ := (Below.cell hS u1).trans g3
                    have qx4_ := (Below.cell hS bl).trans q0
                    have qx5_ := (Below.cell hS bl).trans q1
                    have qx6_ := (Below.cell hS bl).trans q2
                    have qx7_ := (Below.cell hS bl').trans r0
                    have qx8_ := (Below.cell hS bl').trans r1
                    have qx9_ := (Below.cell hS bl').trans r2
                    clear e51
                    clear hF
                    go_simp
                    exact hK _ _ (Ext.refl _) rfl
                  refine ⟨fun y w' hS hF K hK => ?_, ?_⟩
                  · skip -- 5: fieldAddr
                    simp only [fillL, cond_true, cond_false, List.getD_cons_zero, List.getD_cons_succ, StP.is, Act.put, List.setIfInBounds_toArray, List.set_cons_zero, List.set_cons_succ, Nat.reduceAdd] at hK ⊢
                    refine rg_yes (by kernel_rfl) ?_
                    clear hF
                    go_simp
                    exact hK _ _ (Ext.refl _) rfl
                  refine ⟨fun y w' hS hF K hK => ?_, ?_⟩
                  · skip -- 6: load
                    have e53 : y 53 = _ := hF.1
                    simp only [fillL, cond_true, cond_false, List.getD_cons_zero, List.getD_cons_succ, StP.is, Act.put, List.setIfInBounds_toArray, List.set_cons_zero, List.set_cons_succ, Nat.reduceAdd, e53] at hK ⊢
                    refine rg_yes (by kernel_rfl) ?_
                    have qx0_ := (Below.cell hS u0).trans g0
                    have qx1_ := (Below.cell hS u0).trans g1
                    have qx2_ := (Below.cell hS u1).trans g2
                    have qx3_ := (Below.cell hS u1).trans g3
                    have qx4_ := (Below.cell hS bl).trans q0
                    have qx5_ := (Below.cell hS bl).trans q1
                    have qx6_ := (Below.cell hS bl).trans q2
                    have qx7_ := (Below.cell hS bl').trans r0
                    have qx8_ := (Below.cell hS bl').trans r1
                    have qx9_ := (Below.cell hS bl').trans r2
                    clear e53
                    clear hF
                    go_simp
                    exact hK _ _ (Ext.refl _) rfl
                  refine ⟨fun y w' hS hF K hK => ?_, ?_⟩
                  · skip -- 7: move
                    simp only [fillL, cond_true, cond_false, List.getD_cons_zero, List.getD_cons_succ, StP.is, Act.put, List.setIfInBounds_toArray, List.set_cons_zero, List.set_cons_succ, Nat.reduceAdd] at hK ⊢
                    refine rg_yes (by kernel_rfl) ?_
                    clear hF
                    go_simp
                    exact hK _ _ (Ext.refl _) rfl
                  refine ⟨fun y w' hS hF K hK => ?_, ?_⟩
                  · skip -- 8: indexAddr
                    have e54 : y 54 = _ := hF.1
                    have e55 : y 55 = _ := hF.2.1
                    simp only [fillL, cond_true, cond_false, List.getD_cons_zero, List.getD_cons_succ, StP.is, Act.put, List.setIfInBounds_toArray, List.set_cons_zero, List.set_cons_succ, Nat.reduceAdd, e54, e55] at hK ⊢
                    refine rg_yes (by kernel_rfl) ?_
                    clear e54 e55
                    clear hF
                    go_simp
                    exact hK _ _ (Ext.refl _) rfl
                  refine ⟨fun y w' hS hF K hK => ?_, ?_⟩
                  · skip -- 9: load
                    have e56 : y 56 = _ := hF.1
                    simp only [fillL, cond_true, cond_false, List.getD_cons_zero, List.getD_cons_succ, StP.is, Act.put, List.setIfInBounds_toArray, List.set_cons_zero, List.set_cons_succ, Nat.reduceAdd, e56] at hK ⊢
                    refine rg_yes (by kernel_rfl) ?_
                    have qx0_ := (Below.cell hS u0).trans g0
                    have qx1_ := (Below.cell hS u0).trans g1
                    have qx2_ := (Below.cell hS u1).trans g2
                    have qx3_ := (Below.cell hS u1).trans g3
                    have qx4_ := (Below.cell hS bl).trans q0
                    have qx5_ := (Below.cell hS bl).trans q1
                    have qx6_ := (Below.cell hS bl).trans q2
                    have qx7_ := (Below.cell hS bl').trans r0
                    have qx8_ := (Below.cell hS bl').trans r1
                    have qx9_ := (Below.cell hS bl').trans r2
                    clear e56
                    clear hF
                    go_simp
                    exact hK _ _ (Ext.refl _) rfl
                  refine ⟨fun y w' hS hF K hK => ?_, ?_⟩
                  · skip -- 10: binOp
                    have e52 : y 52 = _ := hF.1
                    have e57 : y 57 = _ := hF.2.1
                    simp only [fillL, cond_true, cond_false, List.getD_cons_zero, List.getD_cons_succ, StP.is, Act.put, List.setIfInBounds_toArray, List.set_cons_zero, List.set_cons_succ, Nat.reduceAdd, e52, e57] at hK ⊢
                    refine rg_yes (by kernel_rfl) ?_
                    clear e52 e57
                    clear hF
                    go_simp
                    exact hK _ _ (Ext.refl _) rfl
                  trivial
                case hend =>
                  intro y w2 hX hF
                  have e58 : y 58 = _ := hF.2.2.2.2.2.2.2.2.2.2.1
                  clear hF
                  simp only [fillL, cond_true, cond_false, Nat.reduceAdd, e58]
                  clear e58
                  have hB2 : Below w.heap.size w w2 := hB.trans (Below.mono hX hB.size)
                  have v0 := (Below.cell hX u0).trans g0
                  have v1 := (Below.cell hX u0).trans g1
                  have v2 := (Below.cell hX u1).trans g2
                  have v3 := (Below.cell hX u1).trans g3
                  clear hX g0 g1 g2 g3 u0 u1 bl bl' q0 r0 q1 r1 q2 r2
                  go_wp2_with fail
                  go_roundw
                  case rel => exact ⟨k + 1, by omega, by go_num, HS2, hB2, v0, v1, v2, v3⟩
                  case measure => simp [intOf]; omega
              · have HN2 := Lib.hid (show (same xs0 ys0 && same xs1 ys1) = false by rw [HNO.out (by simp [d2])]; simp)
                have e2_ := str_ne d2
                clear HST HNO
                go_wp2_with fail
                apply wp_region_rg (by kernel_rfl) [false, false, false, false, false, false, false, false, false, false, false, false, false, false, false, false, false, false, false, false, false, false, false, false, false, false, false, false, false, false, false, false, false, false, false, false, false, false, false, false, false, false, false, false, false, false, false, false, true, true, true, true, true, true, true, true, true, true, true] [some 48, some 49, some 50, some 51, some 52, some 53, some 54, some 55, some 56, some 57, some 58] [[], [0], [], [1, 2], [3], [], [5], [], [6, 7], [8], [4, 9]] [.is _, .is _, .is _, .is _, .is _, .is _, .is _, .is _, .is _, .is _, .is _] (by kernel_rfl)
                case hobs =>
                  refine ⟨fun y w' hS hF K hK => ?_, ?_⟩
                  · skip -- 0: fieldAddr
                    simp only [fillL, cond_true, cond_false, List.getD_cons_zero, List.getD_cons_succ, StP.is, Act.put, List.setIfInBounds_toArray, List.set_cons_zero, List.set_cons_succ, Nat.reduceAdd] at hK ⊢
                    refine rg_yes (by kernel_rfl) ?_
                    clear hF
                    go_simp
                    exact hK _ _ (Ext.refl _) rfl
                  refine ⟨fun y w' hS hF K hK => ?_, ?_⟩
                  · skip -- 1: load
                    have e48 : y 48 = _ := hF.1
                    simp only [fillL, cond_true, cond_false, List.getD_cons_zero, List.getD_cons_succ, StP.is, Act.put, List.setIfInBounds_toArray, List.set_cons_zero, List.set_cons_succ, Nat.reduceAdd, e48] at hK ⊢
                    refine rg_yes (by kernel_rfl) ?_
                    have qx0_ := (Below.cell hS u0).trans g0
                    have qx1_ := (Below.cell hS u0).trans g1
                    have qx2_ := (Below.cell hS u1).trans g2
                    have qx3_ := (Below.cell hS u1).trans g3
                    have qx4_ := (Below.cell hS bl).trans q0
                    have qx5_ := (Below.cell hS bl).trans q1
                    have qx6_ := (Below.cell hS bl).trans q2
                    have qx7_ := (Below.cell hS bl').trans r0
                    have qx8_ := (Below.cell hS bl').trans r1
                    have qx9_ := (Below.cell hS bl').trans r2
                    clear e48
                    clear hF
                    go_simp
                    exact hK _ _ (Ext.refl _) rfl
                  refine ⟨fun y w' hS hF K hK => ?_, ?_⟩
                  · skip -- 2: move
                    simp only [fillL, cond_true, cond_false, List.getD_cons_zero, List.getD_cons_succ, StP.is, Act.put, List.setIfInBounds_toArray, List.set_cons_zero, List.set_cons_succ, Nat.reduceAdd] at hK ⊢
                    refine rg_yes (by kernel_rfl) ?_
                    clear hF
                    go_simp
                    exact hK _ _ (Ext.refl _) rfl
                  refine ⟨fun y w' hS hF K hK => ?_, ?_⟩
                  · skip -- 3: indexAddr
                    have e49 : y 49 = _ := hF.1
                    have e50 : y 50 = _ := hF.2.1
                    simp only [fillL, cond_true, cond_false, List.getD_cons_zero, List.getD_cons_succ, StP.is, Act.put, List.setIfInBounds_toArray, List.set_cons_zero, List.set_cons_succ, Nat.reduceAdd, e49, e50] at hK ⊢
                    refine rg_yes (by kernel_rfl) ?_
                    clear e49 e50
                    clear hF
                    go_simp
                    exact hK _ _ (Ext.refl _) rfl
                  refine ⟨fun y w' hS hF K hK => ?_, ?_⟩
                  · skip -- 4: load
                    have e51 : y 51 = _ := hF.1
                    simp only [fillL, cond_true, cond_false, List.getD_cons_zero, List.getD_cons_succ, StP.is, Act.put, List.setIfInBounds_toArray, List.set_cons_zero, List.set_cons_succ, Nat.reduceAdd, e51] at hK ⊢
                    refine rg_yes (by kernel_rfl) ?_
                    have qx0_ := (Below.cell hS u0).trans g0
                    have qx1_ := (Below.cell hS u0).trans g1
                    have qx2_ := (Below.cell hS u1).trans g2
                    have qx3_ := (Below.cell hS u1).trans g3
                    have qx4_ := (Below.cell hS bl).trans q0
                    have qx5_ := (Below.cell hS bl).trans q1
                    have qx6_ := (Below.cell hS bl).trans q2
                    have qx7_ := (Below.cell hS bl').trans r0
                    have qx8_ := (Below.cell hS bl').trans r1
                    have qx9_ := (Below.cell hS bl').trans r2
                    clear e51
                    clear hF
                    go_simp
                    exact hK _ _ (Ext.refl _) rfl
                  refine ⟨fun y w' hS hF K hK => ?_, ?_⟩
                  · skip -- 5: fieldAddr
                    simp only [fillL, cond_true, cond_false, List.getD_cons_zero, List.getD_cons_succ, StP.is, Act.put, List.setIfInBounds_toArray, List.set_cons_zero, List.set_cons_succ, Nat.reduceAdd] at hK ⊢
                    refine rg_yes (by kernel_rfl) ?_
                    clear hF
                    go_simp
                    exact hK _ _ (Ext.refl _) rfl
                  refine ⟨fun y w' hS hF K hK => ?_, ?_⟩
                  · skip -- 6: load
                    have e53 : y 53 = _ := hF.1
                    simp only [fillL, cond_true, cond_false, List.getD_cons_zero, List.getD_cons_succ, StP.is, Act.put, List.setIfInBounds_toArray, List.set_cons_zero, List.set_cons_succ, Nat.reduceAdd, e53] at hK ⊢
                    refine rg_yes (by kernel_rfl) ?_
                    have qx0_ := (Below.cell hS u0).trans g0
                    have qx1_ := (Below.cell hS u0).trans g1
                    have qx2_ := (Below.cell hS u1).trans g2
                    have qx3_ := (Below.cell hS u1).trans g3
                    have qx4_ := (Below.cell hS bl).trans q0
                    have qx5_ := (Below.cell hS bl).trans q1
                    have qx6_ := (Below.cell hS bl).trans q2
                    have qx7_ := (Below.cell hS bl').trans r0
                    have qx8_ := (Below.cell hS bl').trans r1
                    have qx9_ := (Below.cell hS bl').trans r2
                    clear e53
                    clear hF
                    go_simp
                    exact hK _ _ (Ext.refl _) rfl
                  refine ⟨fun y w' hS hF K hK => ?_, ?_⟩
                  · skip -- 7: move
                    simp only [fillL, cond_true, cond_false, List.getD_cons_zero, List.getD_cons_succ, StP.is, Act.put, List.setIfInBounds_toArray, List.set_cons_zero, List.set_cons_succ, Nat.reduceAdd] at hK ⊢
                    refine rg_yes (by kernel_rfl) ?_
                    clear hF
                    go_simp
                    exact hK _ _ (Ext.refl _) rfl
                  refine ⟨fun y w' hS hF K hK => ?_, ?_⟩
                  · skip -- 8: indexAddr
                    have e54 : y 54 = _ := hF.1
                    have e55 : y 55 = _ := hF.2.1
                    simp only [fillL, cond_true, cond_false, List.getD_cons_zero, List.getD_cons_succ, StP.is, Act.put, List.setIfInBounds_toArray, List.set_cons_zero, List.set_cons_succ, Nat.reduceAdd, e54, e55] at hK ⊢
                    refine rg_yes (by kernel_rfl) ?_
                    clear e54 e55
                    clear hF
                    go_simp
                    exact hK _ _ (Ext.refl _) rfl
                  refine ⟨fun y w' hS hF K hK => ?_, ?_⟩
                  · skip -- 9: load
                    have e56 : y 56 = _ := hF.1
                    simp only [fillL, cond_true, cond_false, List.getD_cons_zero, List.getD_cons_succ, StP.is, Act.put, List.setIfInBounds_toArray, List.set_cons_zero, List.set_cons_succ, Nat.reduceAdd, e56] at hK ⊢
                    refine rg_yes (by kernel_rfl) ?_
                    have qx0_ := (Below.cell hS u0).trans g0
                    have qx1_ := (Below.cell hS u0).trans g1
                    have qx2_ := (Below.cell hS u1).trans g2
                    have qx3_ := (Below.cell hS u1).trans g3
                    have qx4_ := (Below.cell hS bl).trans q0
                    have qx5_ := (Below.cell hS bl).trans q1
                    have qx6_ := (Below.cell hS bl).trans q2
                    have qx7_ := (Below.cell hS bl').trans r0
                    have qx8_ := (Below.cell hS bl').trans r1
                    have qx9_ := (Below.cell hS bl').trans r2
                    clear e56
                    clear hF
                    go_simp
                    exact hK _ _ (Ext.refl _) rfl
                  refine ⟨fun y w' hS hF K hK => ?_, ?_⟩
                  · skip -- 10: binOp
                    have e52 : y 52 = _ := hF.1
                    have e57 : y 57 = _ := hF.2.1
                    simp only [fillL, cond_true, cond_false, List.getD_cons_zero, List.getD_cons_succ, StP.is, Act.put, List.setIfInBounds_toArray, List.set_cons_zero, List.set_cons_succ, Nat.reduceAdd, e52, e57] at hK ⊢
                    refine rg_yes (by kernel_rfl) ?_
                    clear e52 e57
                    clear hF
                    go_simp
                    exact hK _ _ (Ext.refl _) rfl
                  trivial
                case hend =>
                  intro y w2 hX hF
                  have e58 : y 58 = _ := hF.2.2.2.2.2.2.2.2.2.2.1
                  clear hF
                  simp only [fillL, cond_true, cond_false, Nat.reduceAdd, e58]
                  clear e58
                  have hB2 : Below w.heap.size w w2 := hB.trans (Below.mono hX hB.size)
                  have v0 := (Below.cell hX u0).trans g0
                  have v1 := (Below.cell hX u0).trans g1
                  have v2 := (Below.cell hX u1).trans g2
                  have v3 := (Below.cell hX u1).trans g3
                  clear hX g0 g1 g2 g3 u0 u1 bl bl' q0 r0 q1 r1 q2 r2
                  go_wp2_with fail
                  go_ret
                  exact ⟨ret_bool HN2.out.symm, hB2⟩
            · have HN2 := Lib.hid (show (same xs0 ys0 && same xs1 ys1) = false by rw [HNO.out (by simp [d1])]; simp)
              clear HST HNO
              go_wp2_with fail
              apply wp_region_rg (by kernel_rfl) [false, false, false, false, false, false, false, false, false, false, false, false, false, false, false, false, false, false, false, false, false, false, false, false, false, false, false, false, false, false, false, false, false, false, false, false, false, false, false, false, false, false, false, false, false, false, false, false, true, true, true, true, true, true, true, true, true, true, true] [some 48, some 49, some 50, some 51, some 52, some 53, some 54, some 55, some 56, some 57, some 58] [[], [0], [], [1, 2], [3], [], [5], [], [6, 7], [8], [4, 9]] [.is _, .is _, .is _, .is _, .is _, .is _, .is _, .is _, .is _, .is _, .is _] (by kernel_rfl)
              case hobs =>
                refine ⟨fun y w' hS hF K hK => ?_, ?_⟩
                · skip -- 0: fieldAddr
                  simp only [fillL, cond_true, cond_false, List.getD_cons_zero, List.getD_cons_succ, StP.is, Act.put, List.setIfInBounds_toArray, List.set_cons_zero, List.set_cons_succ, Nat.reduceAdd] at hK ⊢
                  refine rg_yes (by kernel_rfl) ?_
                  clear hF
                  go_simp
                  exact hK _ _ (Ext.refl _) rfl
                refine ⟨fun y w' hS hF K hK => ?_, ?_⟩
                · skip -- 1: load
                  have e48 : y 48 = _ := hF.1
                  simp only [fillL, cond_true, cond_false, List.getD_cons_zero, List.getD_cons_succ, StP.is, Act.put, List.setIfInBounds_toArray, List.set_cons_zero, List.set_cons_succ, Nat.reduceAdd, e48] at hK ⊢
                  refine rg_yes (by kernel_rfl) ?_
                  have qx0_ := (Below.cell hS u0).trans g0
                  have qx1_ := (Below.cell hS u0).trans g1
                  have qx2_ := (Below.cell hS u1).trans g2
                  have qx3_ := (Below.cell hS u1).trans g3
                  have qx4_ := (Below.cell hS bl).trans q0
                  have qx5_ := (Below.cell hS bl).trans q1
                  have qx6_ := (Below.cell hS bl).trans q2
                  have qx7_ := (Below.cell hS bl').trans r0
                  have qx8_ := (Below.cell hS bl').trans r1
                  have qx9_ := (Below.cell hS bl').trans r2
                  clear e48
                  clear hF
                  go_simp
                  exact hK _ _ (Ext.refl _) rfl
                refine ⟨fun y w' hS hF K hK => ?_, ?_⟩
                · skip -- 2: move
                  simp only [fillL, cond_true, cond_false, List.getD_cons_zero, List.getD_cons_succ, StP.is, Act.put, List.setIfInBounds_toArray, List.set_cons_zero, List.set_cons_succ, Nat.reduceAdd] at hK ⊢
                  refine rg_yes (by kernel_rfl) ?_
                  clear hF
                  go_simp
                  exact hK _ _ (Ext.refl _) rfl
                refine ⟨fun y w' hS hF K hK => ?_, ?_⟩
                · skip -- 3: indexAddr
                  have e49 : y 49 = _ := hF.1
                  have e50 : y 50 = _ := hF.2.1
                  simp only [fillL, cond_true, cond_false, List.getD_cons_zero, List.getD_cons_succ, StP.is, Act.put, List.setIfInBounds_toArray, List.set_cons_zero, List.set_cons_succ, Nat.reduceAdd, e49, e50] at hK ⊢
                  refine rg_yes (by kernel_rfl) ?_
                  clear e49 e50
                  clear hF
                  go_simp
                  exact hK _ _ (Ext.refl _) rfl
                refine ⟨fun y w' hS hF K hK => ?_, ?_⟩
                · skip -- 4: load
                  have e51 : y 51 = _ := hF.1
                  simp only [fillL, cond_true, cond_false, List.getD_cons_zero, List.getD_cons_succ, StP.is, Act.put, List.setIfInBounds_toArray, List.set_cons_zero, List.set_cons_succ, Nat.reduceAdd, e51] at hK ⊢
                  refine rg_yes (by kernel_rfl) ?_
                  have qx0_ := (Below.cell hS u0).trans g0
                  have qx1_ := (Below.cell hS u0).trans g1
                  have qx2_ := (Below.cell hS u1).trans g2
                  have qx3_ := (Below.cell hS u1).trans g3
                  have qx4_ := (Below.cell hS bl).trans q0
                  have qx5_ := (Below.cell hS bl).trans q1
                  have qx6_ := (Below.cell hS bl).trans q2
                  have qx7_ := (Below.cell hS bl').trans r0
                  have qx8_ := (Below.cell hS bl').trans r1
                  have qx9_ := (Below.cell hS bl').trans r2
                  clear e51
                  clear hF
                  go_simp
                  exact hK _ _ (Ext.refl _) rfl
                refine ⟨fun y w' hS hF K hK => ?_, ?_⟩
                · skip -- 5: fieldAddr
                  simp only [fillL, cond_true, cond_false, List.getD_cons_zero, List.getD_cons_succ, StP.is, Act.put, List.setIfInBounds_toArray, List.set_cons_zero, List.set_cons_succ, Nat.reduceAdd] at hK ⊢
                  refine rg_yes (by kernel_rfl) ?_
                  clear hF
                  go_simp
                  exact hK _ _ (Ext.refl _) rfl
                refine ⟨fun y w' hS hF K hK => ?_, ?_⟩
                · skip -- 6: load
                  have e53 : y 53 = _ := hF.1
                  simp only [fillL, cond_true, cond_false, List.getD_cons_zero, List.getD_cons_succ, StP.is, Act.put, List.setIfInBounds_toArray, List.set_cons_zero, List.set_cons_succ, Nat.reduceAdd, e53] at hK ⊢
                  refine rg_yes (by kernel_rfl) ?_
                  have qx0_ := (Below.cell hS u0).trans g0
                  have qx1_ := (Below.cell hS u0).trans g1
                  have qx2_ := (Below.cell hS u1).trans g2
                  have qx3_ := (Below.cell hS u1).trans g3
                  have qx4_ := (Below.cell hS bl).trans q0
                  have qx5_ := (Below.cell hS bl).trans q1
                  have qx6_ := (Below.cell hS bl).trans q2
                  have qx7_ := (Below.cell hS bl').trans r0
                  have qx8_ := (Below.cell hS bl').trans r1
                  have qx9_ := (Below.cell hS bl').trans r2
                  clear e53
                  clear hF
                  go_simp
                  exact hK _ _ (Ext.refl _) rfl
                refine ⟨fun y w' hS hF K hK => ?_, ?_⟩
                · skip -- 7: move
                  simp only [fillL, cond_true, cond_false, List.getD_cons_zero, List.getD_cons_succ, StP.is, Act.put, List.setIfInBounds_toArray, List.set_cons_zero, List.set_cons_succ, Nat.reduceAdd] at hK ⊢
                  refine rg_yes (by kernel_rfl) ?_
                  clear hF
                  go_simp
                  exact hK _ _ (Ext.refl _) rfl
                refine ⟨fun y w' hS hF K hK => ?_, ?_⟩
                · skip -- 8: indexAddr
                  have e54 : y 54 = _ := hF.1
                  have e55 : y 55 = _ := hF.2.1
                  simp only [fillL, cond_true, cond_false, List.getD_cons_zero, List.getD_cons_succ, StP.is, Act.put, List.setIfInBounds_toArray, List.set_cons_zero, List.set_cons_succ, Nat.reduceAdd, e54, e55] at hK ⊢
                  refine rg_yes (by kernel_rfl) ?_
                  clear e54 e55
                  clear hF
                  go_simp
                  exact hK _ _ (Ext.refl _) rfl
                refine ⟨fun y w' hS hF K hK => ?_, ?_⟩
                · skip -- 9: load
                  have e56 : y 56 = _ := hF.1
                  simp only [fillL, cond_true, cond_false, List.getD_cons_zero, List.getD_cons_succ, StP.is, Act.put, List.setIfInBounds_toArray, List.set_cons_zero, List.set_cons_succ, Nat.reduceAdd, e56] at hK ⊢
                  refine rg_yes (by kernel_rfl) ?_
                  have qx0_ := (Below.cell hS u0).trans g0
                  have qx1_ := (Below.cell hS u0).trans g1
                  have qx2_ := (Below.cell hS u1).trans g2
                  have qx3_ := (Below.cell hS u1).trans g3
                  have qx4_ := (Below.cell hS bl).trans q0
                  have qx5_ := (Below.cell hS bl).trans q1
                  have qx6_ := (Below.cell hS bl).trans q2
                  have qx7_ := (Below.cell hS bl').trans r0
                  have qx8_ := (Below.cell hS bl').trans r1
                  have qx9_ := (Below.cell hS bl').trans r2
                  clear e56
                  clear hF
                  go_simp
                  exact hK _ _ (Ext.refl _) rfl
                refine ⟨fun y w' hS hF K hK => ?_, ?_⟩
                · skip -- 10: binOp
                  have e52 : y 52 = _ := hF.1
                  have e57 : y 57 = _ := hF.2.1
                  simp only [fillL, cond_true, cond_false, List.getD_cons_zero, List.getD_cons_succ, StP.is, Act.put, List.setIfInBounds_toArray, List.set_cons_zero, List.set_cons_succ, Nat.reduceAdd, e52, e57] at hK ⊢
                  refine rg_yes (by kernel_rfl) ?_
                  clear e52 e57
                  clear hF
                  go_simp
                  exact hK _ _ (Ext.refl _) rfl
                trivial
              case hend =>
                intro y w2 hX hF
                have e58 : y 58 = _ := hF.2.2.2.2.2.2.2.2.2.2.1
                clear hF
                simp only [fillL, cond_true, cond_false, Nat.reduceAdd, e58]
                clear e58
                have hB2 : Below w.heap.size w w2 := hB.trans (Below.mono hX hB.size)
                have v0 := (Below.cell hX u0).trans g0
                have v1 := (Below.cell hX u0).trans g1
                have v2 := (Below.cell hX u1).trans g2
                have v3 := (Below.cell hX u1).trans g3
                clear hX g0 g1 g2 g3 u0 u1 bl bl' q0 r0 q1 r1 q2 r2
                go_wp2_with fail
                go_ret
                exact ⟨ret_bool HN2.out.symm, hB2⟩
          · have HN2 := Lib.hid (show (same xs0 ys0 && same xs1 ys1) = false by rw [HNO.out (by simp [d0])]; simp)
            clear HST HNO
            go_wp2_with fail
            apply wp_region_rg (by kernel_rfl) [false, false, false, false, false, false, false, false, false, false, false, false, false, false, false, false, false, false, false, false, false, false, false, false, false, false, false, false, false, false, false, false, false, false, false, false, false, false, false, false, false, false, false, false, false, false, false, false, true, true, true, true, true, true, true, true, true, true, true] [some 48, some 49, some 50, some 51, some 52, some 53, some 54, some 55, some 56, some 57, some 58] [[], [0], [], [1, 2], [3], [], [5], [], [6, 7], [8], [4, 9]] [.is _, .is _, .is _, .is _, .is _, .is _, .is _, .is _, .is _, .is _, .is _] (by kernel_rfl)
            case hobs =>
              refine ⟨fun y w' hS hF K hK => ?_, ?_⟩
              · skip -- 0: fieldAddr
                simp only [fillL, cond_true, cond_false, List.getD_cons_zero, List.getD_cons_succ, StP.is, Act.put, List.setIfInBounds_toArray, List.set_cons_zero, List.set_cons_succ, Nat.reduceAdd] at hK ⊢
                refine rg_yes (by kernel_rfl) ?_
                clear hF
                go_simp
                exact hK _ _ (Ext.refl _) rfl
              refine ⟨fun y w' hS hF K hK => ?_, ?_⟩
              · skip -- 1: load
                have e48 : y 48 = _ := hF.1
                simp only [fillL, cond_true, cond_false, List.getD_cons_zero, List.getD_cons_succ, StP.is, Act.put, List.setIfInBounds_toArray, List.set_cons_zero, List.set_cons_succ, Nat.reduceAdd, e48] at hK ⊢
                refine rg_yes (by kernel_rfl) ?_
                have qx0_ := (Below.cell hS u0).trans g0
                have qx1_ := (Below.cell hS u0).trans g1
                have qx2_ := (Below.cell hS u1).trans g2
                have qx3_ := (Below.cell hS u1).trans g3
                have qx4_ := (Below.cell hS bl).trans q0
                have qx5_ := (Below.cell hS bl).trans q1
                have qx6_ := (Below.cell hS bl).trans q2
                have qx7_ := (Below.cell hS bl').trans r0
                have qx8_ := (Below.cell hS bl').trans r1
                have qx9_ := (Below.cell hS bl').trans r2
                clear e48
                clear hF
                go_simp
                exact hK _ _ (Ext.refl _) rfl
              refine ⟨fun y w' hS hF K hK => ?_, ?_⟩
              · skip -- 2: move
                simp only [fillL, cond_true, cond_false, List.getD_cons_zero, List.getD_cons_succ, StP.is, Act.put, List.setIfInBounds_toArray, List.set_cons_zero, List.set_cons_succ, Nat.reduceAdd] at hK ⊢
                refine rg_yes (by kernel_rfl) ?_
                clear hF
                go_simp
                exact hK _ _ (Ext.refl _) rfl
              refine ⟨fun y w' hS hF K hK => ?_, ?_⟩
              · skip -- 3: indexAddr
                have e49 : y 49 = _ := hF.1
                have e50 : y 50 = _ := hF.2.1
                simp only [fillL, cond_true, cond_false, List.getD_cons_zero, List.getD_cons_succ, StP.is, Act.put, List.setIfInBounds_toArray, List.set_cons_zero, List.set_cons_succ, Nat.reduceAdd, e49, e50] at hK ⊢
                refine rg_yes (by kernel_rfl) ?_
                clear e49 e50
                clear hF
                go_simp
                exact hK _ _ (Ext.refl _) rfl
              refine ⟨fun y w' hS hF K hK => ?_, ?_⟩
              · skip -- 4: load
                have e51 : y 51 = _ := hF.1
                simp only [fillL, cond_true, cond_false, List.getD_cons_zero, List.getD_cons_succ, StP.is, Act.put, List.setIfInBounds_toArray, List.set_cons_zero, List.set_cons_succ, Nat.reduceAdd, e51] at hK ⊢
                refine rg_yes (by kernel_rfl) ?_
                have qx0_ := (Below.cell hS u0).trans g0
                have qx1_ := (Below.cell hS u0).trans g1
                have qx2_ := (Below.cell hS u1).trans g2
                have qx3_ := (Below.cell hS u1).trans g3
                have qx4_ := (Below.cell hS bl).trans q0
                have qx5_ := (Below.cell hS bl).trans q1
                have qx6_ := (Below.cell hS bl).trans q2
                have qx7_ := (Below.cell hS bl').trans r0
                have qx8_ := (Below.cell hS bl').trans r1
                have qx9_ := (Below.cell hS bl').trans r2
                clear e51
                clear hF
                go_simp
                exact hK _ _ (Ext.refl _) rfl
              refine ⟨fun y w' hS hF K hK => ?_, ?_⟩
              · skip -- 5: fieldAddr
                simp only [fillL, cond_true, cond_false, List.getD_cons_zero, List.getD_cons_succ, StP.is, Act.put, List.setIfInBounds_toArray, List.set_cons_zero, List.set_cons_succ, Nat.reduceAdd] at hK ⊢
                refine rg_yes (by kernel_rfl) ?_
                clear hF
                go_simp
                exact hK _ _ (Ext.refl _) rfl
              refine ⟨fun y w' hS hF K hK => ?_, ?_⟩
              · skip -- 6: load
                have e53 : y 53 = _ := hF.1
                simp only [fillL, cond_true, cond_false, List.getD_cons_zero, List.getD_cons_succ, StP.is, Act.put, List.setIfInBounds_toArray, List.set_cons_zero, List.set_cons_succ, Nat.reduceAdd, e53] at hK ⊢
                refine rg_yes (by kernel_rfl) ?_
                have qx0_ := (Below.cell hS u0).trans g0
                have qx1_ := (Below.cell hS u0).trans g1
                have qx2_ := (Below.cell hS u1).trans g2
                have qx3_ := (Below.cell hS u1).trans g3
                have qx4_ := (Below.cell hS bl).trans q0
                have qx5_ := (Below.cell hS bl).trans q1
                have qx6_ := (Below.cell hS bl).trans q2
                have qx7_ := (Below.cell hS bl').trans r0
                have qx8_ := (Below.cell hS bl').trans r1
                have qx9_ := (Below.cell hS bl').trans r2
                clear e53
                clear hF
                go_simp
                exact hK _ _ (Ext.refl _) rfl
              refine ⟨fun y w' hS hF K hK => ?_, ?_⟩
              · skip -- 7: move
                simp only [fillL, cond_true, cond_false, List.getD_cons_zero, List.getD_cons_succ, StP.is, Act.put, List.setIfInBounds_toArray, List.set_cons_zero, List.set_cons_succ, Nat.reduceAdd] at hK ⊢
                refine rg_yes (by kernel_rfl) ?_
                clear hF
                go_simp
                exact hK _ _ (Ext.refl _) rfl
              refine ⟨fun y w' hS hF K hK => ?_, ?_⟩
              · skip -- 8: indexAddr
                have e54 : y 54 = _ := hF.1
                have e55 : y 55 = _ := hF.2.1
                simp only [fillL, cond_true, cond_false, List.getD_cons_zero, List.getD_cons_succ, StP.is, Act.put, List.setIfInBounds_toArray, List.set_cons_zero, List.set_cons_succ, Nat.reduceAdd, e54, e55] at hK ⊢
                refine rg_yes (by kernel_rfl) ?_
                clear e54 e55
                clear hF
                go_simp
                exact hK _ _ (Ext.refl _) rfl
              refine ⟨fun y w' hS hF K hK => ?_, ?_⟩
              · skip -- 9: load
                have e56 : y 56 = _ := hF.1
                simp only [fillL, cond_true, cond_false, List.getD_cons_zero, List.getD_cons_succ, StP.is, Act.put, List.setIfInBounds_toArray, List.set_cons_zero, List.set_cons_succ, Nat.reduceAdd, e56] at hK ⊢
                refine rg_yes (by kernel_rfl) ?_
                have qx0_ := (Below.cell hS u0).trans g0
                have qx1_ := (Below.cell hS u0).trans g1
                have qx2_ := (Below.cell hS u1).trans g2
                have qx3_ := (Below.cell hS u1).trans g3
                have qx4_ := (Below.cell hS bl).trans q0
                have qx5_ := (Below.cell hS bl).trans q1
                have qx6_ := (Below.cell hS bl).trans q2
                have qx7_ := (Below.cell hS bl').trans r0
                have qx8_ := (Below.cell hS bl').trans r1
                have qx9_ := (Below.cell hS bl').trans r2
                clear e56
                clear hF
                go_simp
                exact hK _ _ (Ext.refl _) rfl
              refine ⟨fun y w' hS hF K hK => ?_, ?_⟩
              · skip -- 10: binOp
                have e52 : y 52 = _ := hF.1
                have e57 : y 57 = _ := hF.2.1
                simp only [fillL, cond_true, cond_false, List.getD_cons_zero, List.getD_cons_succ, StP.is, Act.put, List.setIfInBounds_toArray, List.set_cons_zero, List.set_cons_succ, Nat.reduceAdd, e52, e57] at hK ⊢
                refine rg_yes (by kernel_rfl) ?_
                clear e52 e57
                clear hF
                go_simp
                exact hK _ _ (Ext.refl _) rfl
              trivial
            case hend =>
              intro y w2 hX hF
              have e58 : y 58 = _ := hF.2.2.2.2.2.2.2.2.2.2.1
              clear hF
              simp only [fillL, cond_true, cond_false, Nat.reduceAdd, e58]
              clear e58
              have hB2 : Below w.heap.size w w2 := hB.trans (Below.mono hX hB.size)
              have v0 := (Below.cell hX u0).trans g0
              have v1 := (Below.cell hX u0).trans g1
              have v2 := (Below.cell hX u1).trans g2
              have v3 := (Below.cell hX u1).trans g3
              clear hX g0 g1 g2 g3 u0 u1 bl bl' q0 r0 q1 r1 q2 r2
              go_wp2_with fail
              go_ret
              exact ⟨ret_bool HN2.out.symm, hB2⟩
        · obtain rfl : n1 = k := by omega
          have F1 := Lib.hid (same_all HP.out HL1.out KL1.out); clear HP
          go_wp2_with fail
          go_ret
          exact ⟨ret_bool (by rw [F0.out, F1.out]; rfl), hB⟩

end Go.Proofs.Ytodibogijnjlaaa
