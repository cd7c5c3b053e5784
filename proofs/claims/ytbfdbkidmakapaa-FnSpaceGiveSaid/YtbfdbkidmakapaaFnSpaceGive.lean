/- FnSpaceGive: the walk. No condition. -/
import Derived.Test.YtbfdbkidmakapaaDrawRow
import Derived.Test.YtbfdbkidmakapaaSpPlain
import Derived.Test.YtbfdbkidmakapaaFnExactSpaceRoom
import Derived.Test.YtbfdbkidmakapaaSpaceRoom
import Derived.Deep.DeepCutAuto
import Derived.Deep.RegionWith
import Derived.Test.YtbfdbkidmakapaaRg
namespace Go.Proofs.Ytbfdbkidmakapaa
set_option linter.unnecessarySimpa false
open Go.RowKit
set_option linter.unusedVariables false
set_option linter.unusedSimpArgs false

set_option maxRecDepth 100000 in
set_option maxHeartbeats 800000 in
theorem fnSpaceGive_walk (A : Option Addr) (n c : Nat) (zs : List Int) (w : World) (hz : BytesIn w A n c zs) :
    Calls Try.prog 11 #[.slice A n c] w fun e w' => e = .returned (.bool true) ∧ Below w.heap.size w w' := by
  have hself := eqInts_self
  by_cases hn : n ≤ 1048576
  · go_enter Try.func11, Try.ntmps11
    go_wp2_with fail
    refine (drawSpaceGive_any A n c zs _ hz).mono ?_
    rintro e w1 ⟨A1, n1, c1, B1, m1, d1, xs, ys, at_, rfl, ia_1, ib_1, nl1, hb1⟩
    have hk1 : Below w.heap.size w w1 := hb1
    have z1 : w.heap.size + 0 ≤ w1.heap.size := by have := hb1.size; (try simp at this); omega
    have hB1 : Below w.heap.size w w1 := hk1
    have y1 : w.heap.size ≤ w1.heap.size := hB1.size
    clear hk1 hb1
    obtain ⟨X, hX⟩ : ∃ X, X = giveX xs ys at_ := ⟨_, rfl⟩
    obtain ⟨Y, hY⟩ : ∃ Y, Y = giveY xs ys at_ := ⟨_, rfl⟩
    obtain ⟨ok, hok⟩ : ∃ ok, ok = giveOk xs ys at_ := ⟨_, rfl⟩
    have HX := Lib.hid hX
    have HY := Lib.hid hY
    have HOK := Lib.hid hok
    clear hX hY hok
    have hoo : (ok == ok) = true := by simp
    go_wp2_with fail
    refine (spaceGive_any _ _ _ _ _ _ xs ys at_ _ (ia_1.below ((Below.refl _ _).alloc (Nat.le_refl _) _)) (ib_1.below ((Below.refl _ _).alloc (Nat.le_refl _) _)) nl1.1 nl1.2.1).mono ?_
    rw [← HX.out, ← HY.out, ← HOK.out]
    rintro e w2 ⟨A2, n2, c2, B2, m2, d2, S2, rfl, og_2, hS2, hb2⟩
    have hk2 : Below w1.heap.size w1 w2 := ((Below.refl _ _).alloc (Nat.le_refl _) _).trans (hb2.mono (by simp <;> omega))
    have z2 : w1.heap.size + 1 ≤ w2.heap.size := by have := hb2.size; (try simp at this); omega
    have c2_0 : w2.cell? ⟨w1.heap.size, 0, none⟩ = some (.slice A1 n1 c1) := (hb2.cell (by simp <;> omega)).trans (by simp [go_sem])
    have c2_1 : w2.cell? ⟨w1.heap.size, 1, none⟩ = some (.slice B1 m1 d1) := (hb2.cell (by simp <;> omega)).trans (by simp [go_sem])
    have l2_0 : w1.heap.size < w2.heap.size := by omega
    have ia_2 := ia_1.below hk2
    have ib_2 := ib_1.below hk2
    have iv_og : ∀ k ∈ S2, w1.heap.size + 1 ≤ k ∧ k < w2.heap.size := fun k hk => ⟨by have := hS2 k hk; (try simp at this); omega, og_2.lt k hk⟩
    have hB2 : Below w.heap.size w w2 := hB1.trans (hk2.mono hB1.size)
    have y2 : w.heap.size ≤ w2.heap.size := hB2.size
    clear ia_1 ib_1 hS2 hk2 hb2
    have mx2 := og_2.max1
    have nl2 := og_2.nils
    go_wp2_with fail
    refine (spSpaceGive_any _ _ _ _ _ _ xs ys at_ _ (ia_2.below ((Below.refl _ _).alloc (Nat.le_refl _) _)) (ib_2.below ((Below.refl _ _).alloc (Nat.le_refl _) _)) nl1.1 nl1.2.1).mono ?_
    rw [← HX.out, ← HY.out, ← HOK.out]
    rintro e w3 ⟨A3, n3, c3, B3, m3, d3, S3, rfl, ow_3, hS3, hb3⟩
    have hk3 : Below w2.heap.size w2 w3 := ((Below.refl _ _).alloc (Nat.le_refl _) _).trans (hb3.mono (by simp <;> omega))
    have z3 : w2.heap.size + 1 ≤ w3.heap.size := by have := hb3.size; (try simp at this); omega
    have c3_0 : w3.cell? ⟨w1.heap.size, 0, none⟩ = some (.slice A1 n1 c1) := (hk3.cell (by simp <;> omega)).trans c2_0
    have c3_1 : w3.cell? ⟨w1.heap.size, 1, none⟩ = some (.slice B1 m1 d1) := (hk3.cell (by simp <;> omega)).trans c2_1
    have c3_2 : w3.cell? ⟨w2.heap.size, 0, none⟩ = some (.slice A2 n2 c2) := (hb3.cell (by simp <;> omega)).trans (by simp [go_sem])
    have c3_3 : w3.cell? ⟨w2.heap.size, 1, none⟩ = some (.slice B2 m2 d2) := (hb3.cell (by simp <;> omega)).trans (by simp [go_sem])
    have l3_0 : w1.heap.size < w3.heap.size := by omega
    have l3_1 : w2.heap.size < w3.heap.size := by omega
    have ia_3 := ia_2.below hk3
    have ib_3 := ib_2.below hk3
    have og_3 := og_2.below hk3
    have iv_ow : ∀ k ∈ S3, w2.heap.size + 1 ≤ k ∧ k < w3.heap.size := fun k hk => ⟨by have := hS3 k hk; (try simp at this); omega, ow_3.lt k hk⟩
    have hB3 : Below w.heap.size w w3 := hB2.trans (hk3.mono hB2.size)
    have y3 : w.heap.size ≤ w3.heap.size := hB3.size
    clear c2_0 c2_1 l2_0 ia_2 ib_2 og_2 hS3 hk3 hb3
    have mx3 := ow_3.max1
    have nl3 := ow_3.nils
    go_wp2_with fail
    refine (pfSpace_any _ _ _ _ _ _ _ _ _ _ _ _ X Y X Y _ (og_3.below ((Below.refl _ _).alloc (Nat.le_refl _) _)).one (og_3.below ((Below.refl _ _).alloc (Nat.le_refl _) _)).two (ow_3.below ((Below.refl _ _).alloc (Nat.le_refl _) _)).one (ow_3.below ((Below.refl _ _).alloc (Nat.le_refl _) _)).two).mono ?_
    rintro e w4 ⟨rfl, hb4⟩
    have hk4 : Below w3.heap.size w3 w4 := ((Below.refl _ _).alloc (Nat.le_refl _) _).trans (hb4.mono (by simp <;> omega))
    have z4 : w3.heap.size + 1 ≤ w4.heap.size := by have := hb4.size; (try simp at this); omega
    have c4_0 : w4.cell? ⟨w1.heap.size, 0, none⟩ = some (.slice A1 n1 c1) := (hk4.cell (by simp <;> omega)).trans c3_0
    have c4_1 : w4.cell? ⟨w1.heap.size, 1, none⟩ = some (.slice B1 m1 d1) := (hk4.cell (by simp <;> omega)).trans c3_1
    have c4_2 : w4.cell? ⟨w2.heap.size, 0, none⟩ = some (.slice A2 n2 c2) := (hk4.cell (by simp <;> omega)).trans c3_2
    have c4_3 : w4.cell? ⟨w2.heap.size, 1, none⟩ = some (.slice B2 m2 d2) := (hk4.cell (by simp <;> omega)).trans c3_3
    have c4_4 : w4.cell? ⟨w3.heap.size, 0, none⟩ = some (.slice A3 n3 c3) := (hb4.cell (by simp <;> omega)).trans (by simp [go_sem])
    have c4_5 : w4.cell? ⟨w3.heap.size, 1, none⟩ = some (.slice B3 m3 d3) := (hb4.cell (by simp <;> omega)).trans (by simp [go_sem])
    have l4_0 : w1.heap.size < w4.heap.size := by omega
    have l4_1 : w2.heap.size < w4.heap.size := by omega
    have l4_2 : w3.heap.size < w4.heap.size := by omega
    have ia_4 := ia_3.below hk4
    have ib_4 := ib_3.below hk4
    have og_4 := og_3.below hk4
    have ow_4 := ow_3.below hk4
    have hB4 : Below w.heap.size w w4 := hB3.trans (hk4.mono hB3.size)
    have y4 : w.heap.size ≤ w4.heap.size := hB4.size
    clear c3_0 c3_1 c3_2 c3_3 l3_0 l3_1 ia_3 ib_3 og_3 ow_3 hk4 hb4
    cases ok
    · go_wp2_with fail
      go_ret
      exact ⟨rfl, hB4⟩
    · have hgv := giveOk_iff HOK.out.symm
      obtain ⟨a, rfl, h8, ha, hsp, hx1, hx9, hgx, hgy⟩ := hgv
      have hXX := HX.out.trans hgx
      have hYY := HY.out.trans hgy
      have hlx : xs.length = 64 := hsp.1
      have hXa : X.getD a 0 = xs.getD a 0 - 1 := by rw [hXX]; exact getD_set_self (by omega)
      have hXL : X.length = 64 := by rw [hXX]; simpa using hlx
      have hn2 : n2 = 64 := by have := og_4.one.len; omega
      have hn1 : n1 = 64 := by have := ia_4.len; omega
      have hspX : SpOk X Y := by rw [hXX, hYY]; exact give_spOk hsp ha hx1
      have hsum : X.sum = xs.sum - 1 := by rw [hXX, sum_set _ _ _ (by omega)]; omega
      have hroom := roomTo_set hlx h8 ha (xs.getD a 0 - 1)
      rw [← hXX, if_neg (by omega)] at hroom
      have hrA : spRoom xs ys = roomTo xs 56 := by unfold spRoom; rw [if_pos (spOk_iff.2 hsp)]
      have hrX : spRoom X Y = roomTo X 56 := by unfold spRoom; rw [if_pos (spOk_iff.2 hspX)]
      have rl1 := roomTo_le xs 56
      have rl2 := roomTo_le X 56
      have hbx : ∀ j, 0 ≤ xs.getD j 0 ∧ xs.getD j 0 ≤ 900 := fun j => by by_cases hj : j < 64; (have := hsp.2.2 j hj; unfold rowOk at this; omega); (rw [List.getD_eq_getElem?_getD, List.getElem?_eq_none (by omega)]; simp)
      have hbX : ∀ j, 0 ≤ X.getD j 0 ∧ X.getD j 0 ≤ 900 := fun j => by by_cases hj : j < 64; (have := hspX.2.2 j hj; unfold rowOk at this; omega); (rw [List.getD_eq_getElem?_getD, List.getElem?_eq_none (by omega)]; simp)
      have sb := sum_bd hbx 64 (by omega)
      rw [List.take_of_length_le (by omega)] at sb
      have HXS := Lib.hid hsum
      have HrA := Lib.hid hrA
      have HrX := Lib.hid hrX
      have HspX := Lib.hid (spOk_iff.2 hspX)
      have HbX := Lib.hid hbX
      have Hbx := Lib.hid hbx
      subst hn1; subst hn2
      obtain ⟨q, off, hA2, _, hcc⟩ := og_4.one.at_ (k := a) ha
      have hca := hcc a ha
      rw [hXa] at hca
      subst hA2
      generalize hv : xs.getD a 0 = v at *
      obtain ⟨rx, hrx⟩ : ∃ r, r = roomTo xs 56 := ⟨_, rfl⟩
      obtain ⟨rX, hrX2⟩ : ∃ r, r = roomTo X 56 := ⟨_, rfl⟩
      rw [← hrx] at hroom HrA rl1
      rw [← hrX2] at hroom HrX rl2
      obtain ⟨sx, hsx⟩ : ∃ s, s = xs.sum := ⟨_, rfl⟩
      rw [← hsx] at sb HXS
      have Hsx := Lib.hid hsx
      clear hcc hXX hYY hgx hgy hXa hspX hsum hrA hrX hbx hbX hrx hrX2 hsp hsx hv HX HY
      obtain ⟨sb1, sb2⟩ := sb
      have sb3 : sx ≤ 57600 := by omega
      clear sb2
      obtain ⟨u, hu⟩ : ∃ u, u = sx - 1 := ⟨_, rfl⟩
      obtain rfl : sx = u + 1 := by omega
      have u1 : -1 ≤ u := by omega
      have u2 : u ≤ 57600 := by omega
      clear hu sb1 sb3
      have HXT := Lib.hid (show X.sum = u by rw [HXS.out]; omega)
      clear HXS
      by_cases hv1 : v = 1
      · subst hv1
        rw [if_pos (by omega)] at hroom
        obtain ⟨ri, hri⟩ : ∃ r : Int, r = (rx : Int) := ⟨_, rfl⟩
        have r1 : 0 ≤ ri := by omega
        have r2 : ri ≤ 56 := by omega
        have HRX := Lib.hid (show spRoom X Y = ri + 1 by rw [HrX.out, hri]; omega)
        have HRA := Lib.hid (show spRoom xs ys = ri by rw [HrA.out, hri])
        clear hroom hri rl1 rl2 HrX HrA
        go_upto_region 12 with fail
        have wu := IntWalk.i64_in u (by omega)
        have wr1 := IntWalk.i64_in (ri + 1) (by omega)
        have wr := IntWalk.i64_in ri (by omega)
        apply wp_region_rg (by kernel_rfl) [false, false, true, false, false, false, false, false, false, false, false, false, false, false, false, false, false, false, false, false, false, false, false, false, false, false, false, false, false, false, false, false, false, false, false, false, false, false, false, false, false, false, false, false, false, false, false, false, false, false, false, false, true, true, true, true, true, true, true, true, true, true, true, true, true, true, true, true, true, true, true, true, true] [some 52, some 53, some 54, some 55, some 56, some 57, some 58, some 59, some 60, some 61, some 62, some 63, some 64, some 65, some 66, some 67, some 68, some 69, some 70, some 71, some 72, some 2] [[], [0], [1], [], [3], [4], [5], [2, 6], [7], [8], [8, 9], [8, 10], [11], [12], [12, 13], [12], [12, 15], [12], [12, 16, 17], [12, 14, 18], [12, 19], [20]] [.is _, .is _, .is _, .is _, .is _, .is _, .is _, .is _, .is _, .is _, .is _, .is _, .is _, .is _, .is _, .is _, .is _, .is _, .is _, .is _, .is _, .is _] (by kernel_rfl)
        case hobs =>
          refine ⟨fun y w' hS hF K hK => ?_, ?_⟩
          · skip -- 0: fieldAddr
            simp only [fillL, cond_true, cond_false, List.getD_cons_zero, List.getD_cons_succ, StP.is, Act.put, List.setIfInBounds_toArray, List.set_cons_zero, List.set_cons_succ, Nat.reduceAdd] at hK ⊢
            refine rg_yes rfl ?_
            clear hF
            go_simp
            exact hK _ _ (Ext.refl _) rfl
          refine ⟨fun y w' hS hF K hK => ?_, ?_⟩
          · skip -- 1: load
            have e52 : y 52 = _ := hF.1
            simp only [fillL, cond_true, cond_false, List.getD_cons_zero, List.getD_cons_succ, StP.is, Act.put, List.setIfInBounds_toArray, List.set_cons_zero, List.set_cons_succ, Nat.reduceAdd, e52] at hK ⊢
            refine rg_yes rfl ?_
            have q0 := (Below.cell hS l4_0).trans c4_0
            have q1 := (Below.cell hS l4_0).trans c4_1
            have q2 := (Below.cell hS l4_1).trans c4_2
            have q3 := (Below.cell hS l4_1).trans c4_3
            clear e52
            clear hF
            go_simp
            exact hK _ _ (Ext.refl _) rfl
          refine ⟨fun y w' hS hF K hK => ?_, ?_⟩
          · skip -- 2: call
            have e53 : y 53 = _ := hF.1
            simp only [fillL, cond_true, cond_false, List.getD_cons_zero, List.getD_cons_succ, StP.is, Act.put, List.setIfInBounds_toArray, List.set_cons_zero, List.set_cons_succ, Nat.reduceAdd, e53] at hK ⊢
            refine rg_yes rfl ?_
            clear e53
            clear hF
            go_simp
            go_at_call 34
            refine (pfSum_any _ _ _ X _ (og_4.below hS).one (by omega) HbX.out).mono ?_
            rw [HXT.out]
            rintro e w'' ⟨rfl, hq⟩
            subst hq
            exact hK _ _ (Ext.refl _) rfl
          refine ⟨fun y w' hS hF K hK => ?_, ?_⟩
          · skip -- 3: fieldAddr
            simp only [fillL, cond_true, cond_false, List.getD_cons_zero, List.getD_cons_succ, StP.is, Act.put, List.setIfInBounds_toArray, List.set_cons_zero, List.set_cons_succ, Nat.reduceAdd] at hK ⊢
            refine rg_yes rfl ?_
            clear hF
            go_simp
            exact hK _ _ (Ext.refl _) rfl
          refine ⟨fun y w' hS hF K hK => ?_, ?_⟩
          · skip -- 4: load
            have e55 : y 55 = _ := hF.1
            simp only [fillL, cond_true, cond_false, List.getD_cons_zero, List.getD_cons_succ, StP.is, Act.put, List.setIfInBounds_toArray, List.set_cons_zero, List.set_cons_succ, Nat.reduceAdd, e55] at hK ⊢
            refine rg_yes rfl ?_
            have q0 := (Below.cell hS l4_0).trans c4_0
            have q1 := (Below.cell hS l4_0).trans c4_1
            have q2 := (Below.cell hS l4_1).trans c4_2
            have q3 := (Below.cell hS l4_1).trans c4_3
            clear e55
            clear hF
            go_simp
            exact hK _ _ (Ext.refl _) rfl
          refine ⟨fun y w' hS hF K hK => ?_, ?_⟩
          · skip -- 5: call
            have e56 : y 56 = _ := hF.1
            simp only [fillL, cond_true, cond_false, List.getD_cons_zero, List.getD_cons_succ, StP.is, Act.put, List.setIfInBounds_toArray, List.set_cons_zero, List.set_cons_succ, Nat.reduceAdd, e56] at hK ⊢
            refine rg_yes rfl ?_
            clear e56
            clear hF
            go_simp
            go_at_call 34
            refine (pfSum_any _ _ _ xs _ (ia_4.below hS) (by omega) Hbx.out).mono ?_
            rw [← Hsx.out]
            rintro e w'' ⟨rfl, hq⟩
            subst hq
            exact hK _ _ (Ext.refl _) rfl
          refine ⟨fun y w' hS hF K hK => ?_, ?_⟩
          · skip -- 6: binOp
            have e57 : y 57 = _ := hF.1
            simp only [fillL, cond_true, cond_false, List.getD_cons_zero, List.getD_cons_succ, StP.is, Act.put, List.setIfInBounds_toArray, List.set_cons_zero, List.set_cons_succ, Nat.reduceAdd, e57] at hK ⊢
            refine rg_yes rfl ?_
            clear e57
            clear hF
            go_simp
            exact hK _ _ (Ext.refl _) rfl
          refine ⟨fun y w' hS hF K hK => ?_, ?_⟩
          · skip -- 7: binOp
            have e54 : y 54 = _ := hF.1
            have e58 : y 58 = _ := hF.2.1
            simp only [fillL, cond_true, cond_false, List.getD_cons_zero, List.getD_cons_succ, StP.is, Act.put, List.setIfInBounds_toArray, List.set_cons_zero, List.set_cons_succ, Nat.reduceAdd, e54, e58] at hK ⊢
            refine rg_yes rfl ?_
            clear e54 e58
            clear hF
            go_simp
            exact hK _ _ (Ext.refl _) rfl
          refine ⟨fun y w' hS hF K hK => ?_, ?_⟩
          · skip -- 8: move
            have e59 : y 59 = _ := hF.1
            simp only [fillL, cond_true, cond_false, List.getD_cons_zero, List.getD_cons_succ, StP.is, Act.put, List.setIfInBounds_toArray, List.set_cons_zero, List.set_cons_succ, Nat.reduceAdd, e59] at hK ⊢
            refine rg_yes rfl ?_
            clear e59
            clear hF
            go_simp
            exact hK _ _ (Ext.refl _) rfl
          refine ⟨fun y w' hS hF K hK => ?_, ?_⟩
          · skip -- 9: load
            have e60 : y 60 = _ := hF.1
            simp only [fillL, cond_true, cond_false, List.getD_cons_zero, List.getD_cons_succ, StP.is, Act.put, List.setIfInBounds_toArray, List.set_cons_zero, List.set_cons_succ, Nat.reduceAdd, e60] at hK ⊢
            refine rg_yes (by kernel_rfl) ?_
            have q0 := (Below.cell hS l4_0).trans c4_0
            have q1 := (Below.cell hS l4_0).trans c4_1
            have q2 := (Below.cell hS l4_1).trans c4_2
            have q3 := (Below.cell hS l4_1).trans c4_3
            clear e60
            clear hF
            go_simp
            exact hK _ _ (Ext.refl _) rfl
          refine ⟨fun y w' hS hF K hK => ?_, ?_⟩
          · skip -- 10: call
            have e60 : y 60 = _ := hF.1
            have e61 : y 61 = _ := hF.2.1
            simp only [fillL, cond_true, cond_false, List.getD_cons_zero, List.getD_cons_succ, StP.is, Act.put, List.setIfInBounds_toArray, List.set_cons_zero, List.set_cons_succ, Nat.reduceAdd, e60, e61] at hK ⊢
            refine rg_yes (by kernel_rfl) ?_
            clear e60 e61
            clear hF
            go_simp
            go_at_call 16
            refine (spaceOk_any _ _ _ _ _ _ X Y _ (og_4.below hS).one (og_4.below hS).two).mono ?_
            rw [HspX.out]
            rintro e w'' ⟨rfl, hq⟩
            exact hK _ _ hq rfl
          refine ⟨fun y w' hS hF K hK => ?_, ?_⟩
          · skip -- 11: pick
            have e60 : y 60 = _ := hF.1
            have e62 : y 62 = _ := hF.2.1
            simp only [fillL, cond_true, cond_false, List.getD_cons_zero, List.getD_cons_succ, StP.is, Act.put, List.setIfInBounds_toArray, List.set_cons_zero, List.set_cons_succ, Nat.reduceAdd, e60, e62] at hK ⊢
            refine rg_yes rfl ?_
            clear e60 e62
            clear hF
            go_simp
            exact hK _ _ (Ext.refl _) rfl
          refine ⟨fun y w' hS hF K hK => ?_, ?_⟩
          · skip -- 12: move
            have e63 : y 63 = _ := hF.1
            simp only [fillL, cond_true, cond_false, List.getD_cons_zero, List.getD_cons_succ, StP.is, Act.put, List.setIfInBounds_toArray, List.set_cons_zero, List.set_cons_succ, Nat.reduceAdd, e63] at hK ⊢
            refine rg_yes rfl ?_
            clear e63
            clear hF
            go_simp
            exact hK _ _ (Ext.refl _) rfl
          refine ⟨fun y w' hS hF K hK => ?_, ?_⟩
          · skip -- 13: load
            have e64 : y 64 = _ := hF.1
            simp only [fillL, cond_true, cond_false, List.getD_cons_zero, List.getD_cons_succ, StP.is, Act.put, List.setIfInBounds_toArray, List.set_cons_zero, List.set_cons_succ, Nat.reduceAdd, e64] at hK ⊢
            refine rg_yes (by kernel_rfl) ?_
            have q0 := (Below.cell hS l4_0).trans c4_0
            have q1 := (Below.cell hS l4_0).trans c4_1
            have q2 := (Below.cell hS l4_1).trans c4_2
            have q3 := (Below.cell hS l4_1).trans c4_3
            clear e64
            clear hF
            go_simp
            exact hK _ _ (Ext.refl _) rfl
          refine ⟨fun y w' hS hF K hK => ?_, ?_⟩
          · skip -- 14: call
            have e64 : y 64 = _ := hF.1
            have e65 : y 65 = _ := hF.2.1
            simp only [fillL, cond_true, cond_false, List.getD_cons_zero, List.getD_cons_succ, StP.is, Act.put, List.setIfInBounds_toArray, List.set_cons_zero, List.set_cons_succ, Nat.reduceAdd, e64, e65] at hK ⊢
            refine rg_yes (by kernel_rfl) ?_
            clear e64 e65
            clear hF
            go_simp
            go_at_call 17
            refine (spaceRoom_any _ _ _ _ _ _ X Y _ (og_4.below hS).one (og_4.below hS).two nl2.2.2.1).mono ?_
            rw [HRX.out]
            rintro e w'' ⟨rfl, hq⟩
            exact hK _ _ hq rfl
          refine ⟨fun y w' hS hF K hK => ?_, ?_⟩
          · skip -- 15: load
            have e64 : y 64 = _ := hF.1
            simp only [fillL, cond_true, cond_false, List.getD_cons_zero, List.getD_cons_succ, StP.is, Act.put, List.setIfInBounds_toArray, List.set_cons_zero, List.set_cons_succ, Nat.reduceAdd, e64] at hK ⊢
            refine rg_yes (by kernel_rfl) ?_
            have q0 := (Below.cell hS l4_0).trans c4_0
            have q1 := (Below.cell hS l4_0).trans c4_1
            have q2 := (Below.cell hS l4_1).trans c4_2
            have q3 := (Below.cell hS l4_1).trans c4_3
            clear e64
            clear hF
            go_simp
            exact hK _ _ (Ext.refl _) rfl
          refine ⟨fun y w' hS hF K hK => ?_, ?_⟩
          · skip -- 16: call
            have e64 : y 64 = _ := hF.1
            have e67 : y 67 = _ := hF.2.1
            simp only [fillL, cond_true, cond_false, List.getD_cons_zero, List.getD_cons_succ, StP.is, Act.put, List.setIfInBounds_toArray, List.set_cons_zero, List.set_cons_succ, Nat.reduceAdd, e64, e67] at hK ⊢
            refine rg_yes (by kernel_rfl) ?_
            clear e64 e67
            clear hF
            go_simp
            go_at_call 17
            refine (spaceRoom_any _ _ _ _ _ _ xs ys _ (ia_4.below hS) (ib_4.below hS) nl1.2.2.1).mono ?_
            rw [HRA.out]
            rintro e w'' ⟨rfl, hq⟩
            exact hK _ _ hq rfl
          refine ⟨fun y w' hS hF K hK => ?_, ?_⟩
          · skip -- 17: move
            have e64 : y 64 = _ := hF.1
            simp only [fillL, cond_true, cond_false, List.getD_cons_zero, List.getD_cons_succ, StP.is, Act.put, List.setIfInBounds_toArray, List.set_cons_zero, List.set_cons_succ, Nat.reduceAdd, e64] at hK ⊢
            refine rg_yes (by kernel_rfl) ?_
            clear e64
            clear hF
            go_simp
            exact hK _ _ (Ext.refl _) rfl
          refine ⟨fun y w' hS hF K hK => ?_, ?_⟩
          · skip -- 18: binOp
            have e64 : y 64 = _ := hF.1
            have e68 : y 68 = _ := hF.2.1
            have e69 : y 69 = _ := hF.2.2.1
            simp only [fillL, cond_true, cond_false, List.getD_cons_zero, List.getD_cons_succ, StP.is, Act.put, List.setIfInBounds_toArray, List.set_cons_zero, List.set_cons_succ, Nat.reduceAdd, e64, e68, e69] at hK ⊢
            refine rg_yes (by kernel_rfl) ?_
            clear e64 e68 e69
            clear hF
            go_simp
            exact hK _ _ (Ext.refl _) rfl
          refine ⟨fun y w' hS hF K hK => ?_, ?_⟩
          · skip -- 19: binOp
            have e64 : y 64 = _ := hF.1
            have e66 : y 66 = _ := hF.2.1
            have e70 : y 70 = _ := hF.2.2.1
            simp only [fillL, cond_true, cond_false, List.getD_cons_zero, List.getD_cons_succ, StP.is, Act.put, List.setIfInBounds_toArray, List.set_cons_zero, List.set_cons_succ, Nat.reduceAdd, e64, e66, e70] at hK ⊢
            refine rg_yes (by kernel_rfl) ?_
            clear e64 e66 e70
            clear hF
            go_simp
            exact hK _ _ (Ext.refl _) rfl
          refine ⟨fun y w' hS hF K hK => ?_, ?_⟩
          · skip -- 20: pick
            have e64 : y 64 = _ := hF.1
            have e71 : y 71 = _ := hF.2.1
            simp only [fillL, cond_true, cond_false, List.getD_cons_zero, List.getD_cons_succ, StP.is, Act.put, List.setIfInBounds_toArray, List.set_cons_zero, List.set_cons_succ, Nat.reduceAdd, e64, e71] at hK ⊢
            refine rg_yes rfl ?_
            clear e64 e71
            clear hF
            go_simp
            exact hK _ _ (Ext.refl _) rfl
          refine ⟨fun y w' hS hF K hK => ?_, ?_⟩
          · skip -- 21: assign
            have e72 : y 72 = _ := hF.1
            simp only [fillL, cond_true, cond_false, List.getD_cons_zero, List.getD_cons_succ, StP.is, Act.put, List.setIfInBounds_toArray, List.set_cons_zero, List.set_cons_succ, Nat.reduceAdd, e72] at hK ⊢
            refine rg_yes rfl ?_
            clear e72
            clear hF
            go_simp
            exact hK _ _ (Ext.refl _) rfl
          trivial
        case hend =>
          intro y w5 hb5 hF
          have e2 : y 2 = _ := hF.2.2.2.2.2.2.2.2.2.2.2.2.2.2.2.2.2.2.2.2.2.1
          clear hF
          simp only [fillL, cond_true, cond_false, Nat.reduceAdd, e2]
          clear e2
          have hB5 : Below w.heap.size w w5 := hB4.trans (Below.mono hb5 hB4.size)
          clear hb5
          go_wp2_with fail
          go_ret
          exact ⟨rfl, hB5⟩
      · rw [if_neg (by omega)] at hroom
        have hvb : (v - 1 == 0) = false := by simp; omega
        have hvc : ¬ v - 1 = 0 := by omega
        clear hv1
        obtain ⟨ri, hri⟩ : ∃ r : Int, r = (rx : Int) := ⟨_, rfl⟩
        have r1 : 0 ≤ ri := by omega
        have r2 : ri ≤ 56 := by omega
        have HRX := Lib.hid (show spRoom X Y = ri by rw [HrX.out, hri]; omega)
        have HRA := Lib.hid (show spRoom xs ys = ri by rw [HrA.out, hri])
        clear hroom hri rl1 rl2 HrX HrA
        go_upto_region 12 with fail
        have wu := IntWalk.i64_in u (by omega)
        have wr1 := IntWalk.i64_in (ri + 1) (by omega)
        have wr := IntWalk.i64_in ri (by omega)
        apply wp_region_rg (by kernel_rfl) [false, false, true, false, false, false, false, false, false, false, false, false, false, false, false, false, false, false, false, false, false, false, false, false, false, false, false, false, false, false, false, false, false, false, false, false, false, false, false, false, false, false, false, false, false, false, false, false, false, false, false, false, true, true, true, true, true, true, true, true, true, true, true, true, true, true, true, true, true, true, true, true, true] [some 52, some 53, some 54, some 55, some 56, some 57, some 58, some 59, some 60, some 61, some 62, some 63, some 64, some 65, some 66, some 67, some 68, some 69, some 70, some 71, some 72, some 2] [[], [0], [1], [], [3], [4], [5], [2, 6], [7], [8], [8, 9], [8, 10], [11], [12], [12, 13], [12], [12, 15], [12], [12, 16, 17], [12, 14, 18], [12, 19], [20]] [.is _, .is _, .is _, .is _, .is _, .is _, .is _, .is _, .is _, .is _, .is _, .is _, .is _, .is _, .is _, .is _, .is _, .is _, .is _, .is _, .is _, .is _] (by kernel_rfl)
        case hobs =>
          refine ⟨fun y w' hS hF K hK => ?_, ?_⟩
          · skip -- 0: fieldAddr
            simp only [fillL, cond_true, cond_false, List.getD_cons_zero, List.getD_cons_succ, StP.is, Act.put, List.setIfInBounds_toArray, List.set_cons_zero, List.set_cons_succ, Nat.reduceAdd] at hK ⊢
            refine rg_yes rfl ?_
            clear hF
            go_simp
            exact hK _ _ (Ext.refl _) rfl
          refine ⟨fun y w' hS hF K hK => ?_, ?_⟩
          · skip -- 1: load
            have e52 : y 52 = _ := hF.1
            simp only [fillL, cond_true, cond_false, List.getD_cons_zero, List.getD_cons_succ, StP.is, Act.put, List.setIfInBounds_toArray, List.set_cons_zero, List.set_cons_succ, Nat.reduceAdd, e52] at hK ⊢
            refine rg_yes rfl ?_
            have q0 := (Below.cell hS l4_0).trans c4_0
            have q1 := (Below.cell hS l4_0).trans c4_1
            have q2 := (Below.cell hS l4_1).trans c4_2
            have q3 := (Below.cell hS l4_1).trans c4_3
            clear e52
            clear hF
            go_simp
            exact hK _ _ (Ext.refl _) rfl
          refine ⟨fun y w' hS hF K hK => ?_, ?_⟩
          · skip -- 2: call
            have e53 : y 53 = _ := hF.1
            simp only [fillL, cond_true, cond_false, List.getD_cons_zero, List.getD_cons_succ, StP.is, Act.put, List.setIfInBounds_toArray, List.set_cons_zero, List.set_cons_succ, Nat.reduceAdd, e53] at hK ⊢
            refine rg_yes rfl ?_
            clear e53
            clear hF
            go_simp
            go_at_call 34
            refine (pfSum_any _ _ _ X _ (og_4.below hS).one (by omega) HbX.out).mono ?_
            rw [HXT.out]
            rintro e w'' ⟨rfl, hq⟩
            subst hq
            exact hK _ _ (Ext.refl _) rfl
          refine ⟨fun y w' hS hF K hK => ?_, ?_⟩
          · skip -- 3: fieldAddr
            simp only [fillL, cond_true, cond_false, List.getD_cons_zero, List.getD_cons_succ, StP.is, Act.put, List.setIfInBounds_toArray, List.set_cons_zero, List.set_cons_succ, Nat.reduceAdd] at hK ⊢
            refine rg_yes rfl ?_
            clear hF
            go_simp
            exact hK _ _ (Ext.refl _) rfl
          refine ⟨fun y w' hS hF K hK => ?_, ?_⟩
          · skip -- 4: load
            have e55 : y 55 = _ := hF.1
            simp only [fillL, cond_true, cond_false, List.getD_cons_zero, List.getD_cons_succ, StP.is, Act.put, List.setIfInBounds_toArray, List.set_cons_zero, List.set_cons_succ, Nat.reduceAdd, e55] at hK ⊢
            refine rg_yes rfl ?_
            have q0 := (Below.cell hS l4_0).trans c4_0
            have q1 := (Below.cell hS l4_0).trans c4_1
            have q2 := (Below.cell hS l4_1).trans c4_2
            have q3 := (Below.cell hS l4_1).trans c4_3
            clear e55
            clear hF
            go_simp
            exact hK _ _ (Ext.refl _) rfl
          refine ⟨fun y w' hS hF K hK => ?_, ?_⟩
          · skip -- 5: call
            have e56 : y 56 = _ := hF.1
            simp only [fillL, cond_true, cond_false, List.getD_cons_zero, List.getD_cons_succ, StP.is, Act.put, List.setIfInBounds_toArray, List.set_cons_zero, List.set_cons_succ, Nat.reduceAdd, e56] at hK ⊢
            refine rg_yes rfl ?_
            clear e56
            clear hF
            go_simp
            go_at_call 34
            refine (pfSum_any _ _ _ xs _ (ia_4.below hS) (by omega) Hbx.out).mono ?_
            rw [← Hsx.out]
            rintro e w'' ⟨rfl, hq⟩
            subst hq
            exact hK _ _ (Ext.refl _) rfl
          refine ⟨fun y w' hS hF K hK => ?_, ?_⟩
          · skip -- 6: binOp
            have e57 : y 57 = _ := hF.1
            simp only [fillL, cond_true, cond_false, List.getD_cons_zero, List.getD_cons_succ, StP.is, Act.put, List.setIfInBounds_toArray, List.set_cons_zero, List.set_cons_succ, Nat.reduceAdd, e57] at hK ⊢
            refine rg_yes rfl ?_
            clear e57
            clear hF
            go_simp
            exact hK _ _ (Ext.refl _) rfl
          refine ⟨fun y w' hS hF K hK => ?_, ?_⟩
          · skip -- 7: binOp
            have e54 : y 54 = _ := hF.1
            have e58 : y 58 = _ := hF.2.1
            simp only [fillL, cond_true, cond_false, List.getD_cons_zero, List.getD_cons_succ, StP.is, Act.put, List.setIfInBounds_toArray, List.set_cons_zero, List.set_cons_succ, Nat.reduceAdd, e54, e58] at hK ⊢
            refine rg_yes rfl ?_
            clear e54 e58
            clear hF
            go_simp
            exact hK _ _ (Ext.refl _) rfl
          refine ⟨fun y w' hS hF K hK => ?_, ?_⟩
          · skip -- 8: move
            have e59 : y 59 = _ := hF.1
            simp only [fillL, cond_true, cond_false, List.getD_cons_zero, List.getD_cons_succ, StP.is, Act.put, List.setIfInBounds_toArray, List.set_cons_zero, List.set_cons_succ, Nat.reduceAdd, e59] at hK ⊢
            refine rg_yes rfl ?_
            clear e59
            clear hF
            go_simp
            exact hK _ _ (Ext.refl _) rfl
          refine ⟨fun y w' hS hF K hK => ?_, ?_⟩
          · skip -- 9: load
            have e60 : y 60 = _ := hF.1
            simp only [fillL, cond_true, cond_false, List.getD_cons_zero, List.getD_cons_succ, StP.is, Act.put, List.setIfInBounds_toArray, List.set_cons_zero, List.set_cons_succ, Nat.reduceAdd, e60] at hK ⊢
            refine rg_yes (by kernel_rfl) ?_
            have q0 := (Below.cell hS l4_0).trans c4_0
            have q1 := (Below.cell hS l4_0).trans c4_1
            have q2 := (Below.cell hS l4_1).trans c4_2
            have q3 := (Below.cell hS l4_1).trans c4_3
            clear e60
            clear hF
            go_simp
            exact hK _ _ (Ext.refl _) rfl
          refine ⟨fun y w' hS hF K hK => ?_, ?_⟩
          · skip -- 10: call
            have e60 : y 60 = _ := hF.1
            have e61 : y 61 = _ := hF.2.1
            simp only [fillL, cond_true, cond_false, List.getD_cons_zero, List.getD_cons_succ, StP.is, Act.put, List.setIfInBounds_toArray, List.set_cons_zero, List.set_cons_succ, Nat.reduceAdd, e60, e61] at hK ⊢
            refine rg_yes (by kernel_rfl) ?_
            clear e60 e61
            clear hF
            go_simp
            go_at_call 16
            refine (spaceOk_any _ _ _ _ _ _ X Y _ (og_4.below hS).one (og_4.below hS).two).mono ?_
            rw [HspX.out]
            rintro e w'' ⟨rfl, hq⟩
            exact hK _ _ hq rfl
          refine ⟨fun y w' hS hF K hK => ?_, ?_⟩
          · skip -- 11: pick
            have e60 : y 60 = _ := hF.1
            have e62 : y 62 = _ := hF.2.1
            simp only [fillL, cond_true, cond_false, List.getD_cons_zero, List.getD_cons_succ, StP.is, Act.put, List.setIfInBounds_toArray, List.set_cons_zero, List.set_cons_succ, Nat.reduceAdd, e60, e62] at hK ⊢
            refine rg_yes rfl ?_
            clear e60 e62
            clear hF
            go_simp
            exact hK _ _ (Ext.refl _) rfl
          refine ⟨fun y w' hS hF K hK => ?_, ?_⟩
          · skip -- 12: move
            have e63 : y 63 = _ := hF.1
            simp only [fillL, cond_true, cond_false, List.getD_cons_zero, List.getD_cons_succ, StP.is, Act.put, List.setIfInBounds_toArray, List.set_cons_zero, List.set_cons_succ, Nat.reduceAdd, e63] at hK ⊢
            refine rg_yes rfl ?_
            clear e63
            clear hF
            go_simp
            exact hK _ _ (Ext.refl _) rfl
          refine ⟨fun y w' hS hF K hK => ?_, ?_⟩
          · skip -- 13: load
            have e64 : y 64 = _ := hF.1
            simp only [fillL, cond_true, cond_false, List.getD_cons_zero, List.getD_cons_succ, StP.is, Act.put, List.setIfInBounds_toArray, List.set_cons_zero, List.set_cons_succ, Nat.reduceAdd, e64] at hK ⊢
            refine rg_yes (by kernel_rfl) ?_
            have q0 := (Below.cell hS l4_0).trans c4_0
            have q1 := (Below.cell hS l4_0).trans c4_1
            have q2 := (Below.cell hS l4_1).trans c4_2
            have q3 := (Below.cell hS l4_1).trans c4_3
            clear e64
            clear hF
            go_simp
            exact hK _ _ (Ext.refl _) rfl
          refine ⟨fun y w' hS hF K hK => ?_, ?_⟩
          · skip -- 14: call
            have e64 : y 64 = _ := hF.1
            have e65 : y 65 = _ := hF.2.1
            simp only [fillL, cond_true, cond_false, List.getD_cons_zero, List.getD_cons_succ, StP.is, Act.put, List.setIfInBounds_toArray, List.set_cons_zero, List.set_cons_succ, Nat.reduceAdd, e64, e65] at hK ⊢
            refine rg_yes (by kernel_rfl) ?_
            clear e64 e65
            clear hF
            go_simp
            go_at_call 17
            refine (spaceRoom_any _ _ _ _ _ _ X Y _ (og_4.below hS).one (og_4.below hS).two nl2.2.2.1).mono ?_
            rw [HRX.out]
            rintro e w'' ⟨rfl, hq⟩
            exact hK _ _ hq rfl
          refine ⟨fun y w' hS hF K hK => ?_, ?_⟩
          · skip -- 15: load
            have e64 : y 64 = _ := hF.1
            simp only [fillL, cond_true, cond_false, List.getD_cons_zero, List.getD_cons_succ, StP.is, Act.put, List.setIfInBounds_toArray, List.set_cons_zero, List.set_cons_succ, Nat.reduceAdd, e64] at hK ⊢
            refine rg_yes (by kernel_rfl) ?_
            have q0 := (Below.cell hS l4_0).trans c4_0
            have q1 := (Below.cell hS l4_0).trans c4_1
            have q2 := (Below.cell hS l4_1).trans c4_2
            have q3 := (Below.cell hS l4_1).trans c4_3
            clear e64
            clear hF
            go_simp
            exact hK _ _ (Ext.refl _) rfl
          refine ⟨fun y w' hS hF K hK => ?_, ?_⟩
          · skip -- 16: call
            have e64 : y 64 = _ := hF.1
            have e67 : y 67 = _ := hF.2.1
            simp only [fillL, cond_true, cond_false, List.getD_cons_zero, List.getD_cons_succ, StP.is, Act.put, List.setIfInBounds_toArray, List.set_cons_zero, List.set_cons_succ, Nat.reduceAdd, e64, e67] at hK ⊢
            refine rg_yes (by kernel_rfl) ?_
            clear e64 e67
            clear hF
            go_simp
            go_at_call 17
            refine (spaceRoom_any _ _ _ _ _ _ xs ys _ (ia_4.below hS) (ib_4.below hS) nl1.2.2.1).mono ?_
            rw [HRA.out]
            rintro e w'' ⟨rfl, hq⟩
            exact hK _ _ hq rfl
          refine ⟨fun y w' hS hF K hK => ?_, ?_⟩
          · skip -- 17: move
            have e64 : y 64 = _ := hF.1
            simp only [fillL, cond_true, cond_false, List.getD_cons_zero, List.getD_cons_succ, StP.is, Act.put, List.setIfInBounds_toArray, List.set_cons_zero, List.set_cons_succ, Nat.reduceAdd, e64] at hK ⊢
            refine rg_yes (by kernel_rfl) ?_
            clear e64
            clear hF
            go_simp
            exact hK _ _ (Ext.refl _) rfl
          refine ⟨fun y w' hS hF K hK => ?_, ?_⟩
          · skip -- 18: binOp
            have e64 : y 64 = _ := hF.1
            have e68 : y 68 = _ := hF.2.1
            have e69 : y 69 = _ := hF.2.2.1
            simp only [fillL, cond_true, cond_false, List.getD_cons_zero, List.getD_cons_succ, StP.is, Act.put, List.setIfInBounds_toArray, List.set_cons_zero, List.set_cons_succ, Nat.reduceAdd, e64, e68, e69] at hK ⊢
            refine rg_yes (by kernel_rfl) ?_
            clear e64 e68 e69
            clear hF
            go_simp
            exact hK _ _ (Ext.refl _) rfl
          refine ⟨fun y w' hS hF K hK => ?_, ?_⟩
          · skip -- 19: binOp
            have e64 : y 64 = _ := hF.1
            have e66 : y 66 = _ := hF.2.1
            have e70 : y 70 = _ := hF.2.2.1
            simp only [fillL, cond_true, cond_false, List.getD_cons_zero, List.getD_cons_succ, StP.is, Act.put, List.setIfInBounds_toArray, List.set_cons_zero, List.set_cons_succ, Nat.reduceAdd, e64, e66, e70] at hK ⊢
            refine rg_yes (by kernel_rfl) ?_
            clear e64 e66 e70
            clear hF
            go_simp
            exact hK _ _ (Ext.refl _) rfl
          refine ⟨fun y w' hS hF K hK => ?_, ?_⟩
          · skip -- 20: pick
            have e64 : y 64 = _ := hF.1
            have e71 : y 71 = _ := hF.2.1
            simp only [fillL, cond_true, cond_false, List.getD_cons_zero, List.getD_cons_succ, StP.is, Act.put, List.setIfInBounds_toArray, List.set_cons_zero, List.set_cons_succ, Nat.reduceAdd, e64, e71] at hK ⊢
            refine rg_yes rfl ?_
            clear e64 e71
            clear hF
            go_simp
            exact hK _ _ (Ext.refl _) rfl
          refine ⟨fun y w' hS hF K hK => ?_, ?_⟩
          · skip -- 21: assign
            have e72 : y 72 = _ := hF.1
            simp only [fillL, cond_true, cond_false, List.getD_cons_zero, List.getD_cons_succ, StP.is, Act.put, List.setIfInBounds_toArray, List.set_cons_zero, List.set_cons_succ, Nat.reduceAdd, e72] at hK ⊢
            refine rg_yes rfl ?_
            clear e72
            clear hF
            go_simp
            exact hK _ _ (Ext.refl _) rfl
          trivial
        case hend =>
          intro y w5 hb5 hF
          have e2 : y 2 = _ := hF.2.2.2.2.2.2.2.2.2.2.2.2.2.2.2.2.2.2.2.2.2.1
          clear hF
          simp only [fillL, cond_true, cond_false, Nat.reduceAdd, e2]
          clear e2
          have hB5 : Below w.heap.size w w5 := hB4.trans (Below.mono hb5 hB4.size)
          clear hb5
          go_wp2_with fail
          go_ret
          exact ⟨rfl, hB5⟩

  · go_enter Try.func11, Try.ntmps11
    go_wp2_with fail
    go_ret
    exact ⟨rfl, Below.refl _ _⟩

end Go.Proofs.Ytbfdbkidmakapaa
