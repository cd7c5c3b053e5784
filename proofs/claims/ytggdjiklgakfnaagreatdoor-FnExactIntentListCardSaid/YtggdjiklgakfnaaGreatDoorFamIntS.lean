/- eq, mark and held at slices of intents. Condition: the marks are below 2^40. -/
import Derived.Test.YtggdjiklgakfnaaGreatDoorFamIEq
import Derived.Test.YtggdjiklgakfnaaGreatDoorMarkText
import Derived.Test.YtggdjiklgakfnaaGreatDoorChecked
namespace Go.Proofs.YtggdjiklgakfnaaGreatDoor
set_option linter.unusedVariables false
set_option linter.unusedSimpArgs false
set_option linter.unnecessarySimpa false
open Go.RowKit

set_option maxRecDepth 100000 in
set_option maxHeartbeats 2000000 in
theorem eqIntentS_yes (A B : Option Addr) (n c m d : Nat) (xs : List IntentD) (w : World) (lo hi lo' hi' : Nat) (h : SliceR IntentR 8 w lo hi A n c xs) (h' : SliceR IntentR 8 w lo' hi' B m d xs) :
    Calls Tryz.prog 12 #[.slice A n c, .slice B m d] w fun e w' => e = .returned (.bool true) ∧ Below w.heap.size w w' := by
  obtain rfl : m = n := by have := h.len; have := h'.len; omega
  have hn := h.max
  have hl := Lib.hid h.len
  have H := Lib.hid h
  have H' := Lib.hid h'
  clear h h'
  go_enter Tryz.func12, Tryz.ntmps12
  go_wp2_with fail
  go_loopw [5] (fun i wr => ∃ k : Nat, k ≤ m ∧ i = .int .i64 k ∧ Below w.heap.size w wr) (fun i _ => m - (intOf i).toNat)
  case atStart => exact ⟨0, Nat.zero_le _, rfl, Below.refl _ _⟩
  case round =>
    obtain ⟨k, hk, rfl, hB⟩ := hrel
    by_cases hlt : k < m
    · obtain ⟨x, hx⟩ : ∃ x, xs[k]? = some x := ⟨xs[k]'(by rw [hl.out]; exact hlt), List.getElem?_eq_getElem _⟩
      have g := SliceR.below H.out hB (IntentR.below hB H.out.lo_le)
      have g' := SliceR.below H'.out hB (IntentR.below hB H'.out.lo_le)
      obtain ⟨b, off, rfl, _, _, bl, hc⟩ := g.at_ (by omega)
      obtain ⟨b', off', rfl, _, _, bl', hc'⟩ := g'.at_ (by omega)
      obtain ⟨cs, hcl, hcc, hr⟩ := hc k x hx
      obtain ⟨cs', hcl', hcc', hr'⟩ := hc' k x hx
      clear hc hc' hx g g'
      have G := Lib.hid hr
      have G' := Lib.hid hr'
      obtain ⟨v0, v1, v2, v3, v4, v5, v6, v7, rfl⟩ := list8 hcl
      obtain ⟨u0, u1, u2, u3, u4, u5, u6, u7, rfl⟩ := list8 hcl'
      have q0 := hcc 0 _ rfl
      have r0 := hcc' 0 _ rfl
      have q1 := hcc 1 _ rfl
      have r1 := hcc' 1 _ rfl
      have q2 := hcc 2 _ rfl
      have r2 := hcc' 2 _ rfl
      have q3 := hcc 3 _ rfl
      have r3 := hcc' 3 _ rfl
      have q4 := hcc 4 _ rfl
      have r4 := hcc' 4 _ rfl
      have q5 := hcc 5 _ rfl
      have r5 := hcc' 5 _ rfl
      have q6 := hcc 6 _ rfl
      have r6 := hcc' 6 _ rfl
      have q7 := hcc 7 _ rfl
      have r7 := hcc' 7 _ rfl
      simp only [Nat.add_zero] at q0 r0
      clear hcc hcc' hcl hcl' hr hr'
      have hhi := H.out.lo_le
      have hhi' := H'.out.lo_le
      have hi1 : hi ≤ wr.heap.size := Nat.le_trans hhi hB.size
      have hi2 : hi' ≤ wr.heap.size := Nat.le_trans hhi' hB.size
      clear hhi hhi'
      have k0 : (0 : Int) ≤ (k : Int) := by omega
      have k1 : (k : Int) < (m : Int) := by omega
      go_wp2_with fail
      apply wp_region_rg (by kernel_rfl) (false :: false :: false :: false :: false :: false :: false :: false :: false :: false :: false :: false :: false :: false :: false :: false :: false :: true :: true :: true :: true :: true :: true :: true :: true :: true :: true :: []) [some 17, some 18, some 19, some 20, some 21, some 22, some 23, some 24, some 25, some 26] [[], [], [0, 1], [2], [], [], [4, 5], [6], [3, 7], [8]] [StP.is _, StP.is _, StP.is _, StP.is _, StP.is _, StP.is _, StP.is _, StP.is _, StP.is _, StP.is _] (by kernel_rfl)
      case hobs =>
        refine ⟨fun y w' hS hF K hK => ?_, ?_⟩
        · skip -- 0: move
          simp only [fillL, cond_true, cond_false, List.getD_cons_zero, List.getD_cons_succ, StP.is, Act.put, List.setIfInBounds_toArray, List.set_cons_zero, List.set_cons_succ, Nat.reduceAdd] at hK ⊢
          refine rg_yes (by kernel_rfl) ?_
          clear hF
          go_simp
          exact hK _ _ (Ext.refl _) rfl
        refine ⟨fun y w' hS hF K hK => ?_, ?_⟩
        · skip -- 1: move
          simp only [fillL, cond_true, cond_false, List.getD_cons_zero, List.getD_cons_succ, StP.is, Act.put, List.setIfInBounds_toArray, List.set_cons_zero, List.set_cons_succ, Nat.reduceAdd] at hK ⊢
          refine rg_yes (by kernel_rfl) ?_
          clear hF
          go_simp
          exact hK _ _ (Ext.refl _) rfl
        refine ⟨fun y w' hS hF K hK => ?_, ?_⟩
        · skip -- 2: indexAddr
          have e17 : y 17 = _ := hF.1
          have e18 : y 18 = _ := hF.2.1
          simp only [fillL, cond_true, cond_false, List.getD_cons_zero, List.getD_cons_succ, StP.is, Act.put, List.setIfInBounds_toArray, List.set_cons_zero, List.set_cons_succ, Nat.reduceAdd, e17, e18] at hK ⊢
          refine rg_yes (by kernel_rfl) ?_
          clear e17 e18
          clear hF
          go_simp
          exact hK _ _ (Ext.refl _) rfl
        refine ⟨fun y w' hS hF K hK => ?_, ?_⟩
        · skip -- 3: load
          have e19 : y 19 = _ := hF.1
          simp only [fillL, cond_true, cond_false, List.getD_cons_zero, List.getD_cons_succ, StP.is, Act.put, List.setIfInBounds_toArray, List.set_cons_zero, List.set_cons_succ, Nat.reduceAdd, e19] at hK ⊢
          refine rg_yes (by kernel_rfl) ?_
          have qx0_ := (Below.cell hS bl).trans q0
          have qx1_ := (Below.cell hS bl).trans q1
          have qx2_ := (Below.cell hS bl).trans q2
          have qx3_ := (Below.cell hS bl).trans q3
          have qx4_ := (Below.cell hS bl).trans q4
          have qx5_ := (Below.cell hS bl).trans q5
          have qx6_ := (Below.cell hS bl).trans q6
          have qx7_ := (Below.cell hS bl).trans q7
          have qx8_ := (Below.cell hS bl').trans r0
          have qx9_ := (Below.cell hS bl').trans r1
          have qx10_ := (Below.cell hS bl').trans r2
          have qx11_ := (Below.cell hS bl').trans r3
          have qx12_ := (Below.cell hS bl').trans r4
          have qx13_ := (Below.cell hS bl').trans r5
          have qx14_ := (Below.cell hS bl').trans r6
          have qx15_ := (Below.cell hS bl').trans r7
          clear e19
          clear hF
          go_simp
          exact hK _ _ (Ext.refl _) rfl
        refine ⟨fun y w' hS hF K hK => ?_, ?_⟩
        · skip -- 4: move
          simp only [fillL, cond_true, cond_false, List.getD_cons_zero, List.getD_cons_succ, StP.is, Act.put, List.setIfInBounds_toArray, List.set_cons_zero, List.set_cons_succ, Nat.reduceAdd] at hK ⊢
          refine rg_yes (by kernel_rfl) ?_
          clear hF
          go_simp
          exact hK _ _ (Ext.refl _) rfl
        refine ⟨fun y w' hS hF K hK => ?_, ?_⟩
        · skip -- 5: move
          simp only [fillL, cond_true, cond_false, List.getD_cons_zero, List.getD_cons_succ, StP.is, Act.put, List.setIfInBounds_toArray, List.set_cons_zero, List.set_cons_succ, Nat.reduceAdd] at hK ⊢
          refine rg_yes (by kernel_rfl) ?_
          clear hF
          go_simp
          exact hK _ _ (Ext.refl _) rfl
        refine ⟨fun y w' hS hF K hK => ?_, ?_⟩
        · skip -- 6: indexAddr
          have e21 : y 21 = _ := hF.1
          have e22 : y 22 = _ := hF.2.1
          simp only [fillL, cond_true, cond_false, List.getD_cons_zero, List.getD_cons_succ, StP.is, Act.put, List.setIfInBounds_toArray, List.set_cons_zero, List.set_cons_succ, Nat.reduceAdd, e21, e22] at hK ⊢
          refine rg_yes (by kernel_rfl) ?_
          clear e21 e22
          clear hF
          go_simp
          exact hK _ _ (Ext.refl _) rfl
        refine ⟨fun y w' hS hF K hK => ?_, ?_⟩
        · skip -- 7: load
          have e23 : y 23 = _ := hF.1
          simp only [fillL, cond_true, cond_false, List.getD_cons_zero, List.getD_cons_succ, StP.is, Act.put, List.setIfInBounds_toArray, List.set_cons_zero, List.set_cons_succ, Nat.reduceAdd, e23] at hK ⊢
          refine rg_yes (by kernel_rfl) ?_
          have qx0_ := (Below.cell hS bl).trans q0
          have qx1_ := (Below.cell hS bl).trans q1
          have qx2_ := (Below.cell hS bl).trans q2
          have qx3_ := (Below.cell hS bl).trans q3
          have qx4_ := (Below.cell hS bl).trans q4
          have qx5_ := (Below.cell hS bl).trans q5
          have qx6_ := (Below.cell hS bl).trans q6
          have qx7_ := (Below.cell hS bl).trans q7
          have qx8_ := (Below.cell hS bl').trans r0
          have qx9_ := (Below.cell hS bl').trans r1
          have qx10_ := (Below.cell hS bl').trans r2
          have qx11_ := (Below.cell hS bl').trans r3
          have qx12_ := (Below.cell hS bl').trans r4
          have qx13_ := (Below.cell hS bl').trans r5
          have qx14_ := (Below.cell hS bl').trans r6
          have qx15_ := (Below.cell hS bl').trans r7
          clear e23
          clear hF
          go_simp
          exact hK _ _ (Ext.refl _) rfl
        refine ⟨fun y w' hS hF K hK => ?_, ?_⟩
        · skip -- 8: call
          have e20 : y 20 = _ := hF.1
          have e24 : y 24 = _ := hF.2.1
          simp only [fillL, cond_true, cond_false, List.getD_cons_zero, List.getD_cons_succ, StP.is, Act.put, List.setIfInBounds_toArray, List.set_cons_zero, List.set_cons_succ, Nat.reduceAdd, e20, e24] at hK ⊢
          refine rg_yes (by kernel_rfl) ?_
          clear e20 e24
          clear hF
          go_simp
          go_at_call 29
          refine (eqIntent_yes _ _ x _ _ _ _ _ (IntentR.below hS hi1 _ _ G.out) (IntentR.below hS hi2 _ _ G'.out)).mono ?_
          rintro e w'' ⟨rfl, hb⟩
          exact hK _ _ hb rfl
        refine ⟨fun y w' hS hF K hK => ?_, ?_⟩
        · skip -- 9: unOp
          have e25 : y 25 = _ := hF.1
          simp only [fillL, cond_true, cond_false, List.getD_cons_zero, List.getD_cons_succ, StP.is, Act.put, List.setIfInBounds_toArray, List.set_cons_zero, List.set_cons_succ, Nat.reduceAdd, e25] at hK ⊢
          refine rg_yes (by kernel_rfl) ?_
          clear e25
          clear hF
          go_simp
          exact hK _ _ (Ext.refl _) rfl
        trivial
      case hend =>
        intro y w2 hX hF
        have e26 : y 26 = _ := hF.2.2.2.2.2.2.2.2.2.1
        clear hF
        simp only [fillL, cond_true, cond_false, Nat.reduceAdd, e26]
        clear e26
        have hB2 : Below w.heap.size w w2 := hB.trans (Below.mono hX hB.size)
        clear hX hB
        go_wp2_with fail
        go_roundw
        case rel => exact ⟨k + 1, by omega, by go_num, hB2⟩
        case measure => simp [intOf]; omega
    · go_wp2_with fail
      go_ret
      exact ⟨rfl, hB⟩

def KIntentS : List Value := [.int .i64 0, .int .i64 0, .string ⟨#[]⟩, .int .i64 0, .string ⟨#[]⟩, .string ⟨#[]⟩, .int .i64 0, .string ⟨#[]⟩]
set_option maxRecDepth 100000 in
set_option maxHeartbeats 4000000 in
theorem markIntentS_any (A : Option Addr) (n c : Nat) (k : Int) (w : World) (lo hi : Nat) (h : Whole w 34 8 lo hi A n c) (h0 : 0 ≤ k) (h1 : k + n * 8 ≤ 1099511627776) :
    Calls Tryz.prog 15 #[.slice A n c, .int .i64 k] w fun e w' => e = .returned (.int .i64 (k + n * 8)) ∧ MarkedAt w' KIntentS k A (n * 8) ∧ Whole w' 34 8 lo hi A n c ∧ Chg (fun b => 0 < n ∧ blkOf A b) w w' := by
  by_cases hn0 : n = 0
  · subst hn0
    go_enter Tryz.func15, Tryz.ntmps15
    go_wp2_with fail
    go_loop [1, 5] (fun kk i => kk = .int .i64 k ∧ i = .int .i64 ((0 : Nat) : Int)) (fun _ _ => 0)
    case atStart => exact ⟨rfl, rfl⟩
    case round =>
      obtain ⟨rfl, rfl⟩ := hrel
      go_wp2_with fail
      go_ret
      exact ⟨ret_int (by simp), fun h => absurd h (by simp), h, Chg.refl _ _⟩
  · obtain ⟨g, cur, rfl, hlo, hhi, hg, hcs, hnc⟩ : ∃ g cur, A = some ⟨g, 0, none⟩ ∧ lo ≤ g ∧ g < hi ∧ w.heap[g]? = some (.cells cur 34 (0, 0)) ∧ cur.size = c * 8 ∧ n ≤ c ∧ c ≤ maxLen := h.resolve_left (fun h => hn0 h.1)
    have hnp : 0 < n := Nat.pos_of_ne_zero hn0
    clear h hn0
    have hgl : g < w.heap.size := (Array.getElem?_eq_some_iff.1 hg).1
    have hn : n ≤ 1099511627776 := by omega
    have HG0 := Lib.hid hg; have HC0 := Lib.hid hcs; clear hg hcs
    go_enter Tryz.func15, Tryz.ntmps15
    go_wp2_with fail
    go_loopw [1, 5] (fun kk i wr => ∃ (j : Nat) (z : Int) (cu : Array Value), j ≤ n ∧ i = .int .i64 j ∧ kk = .int .i64 z ∧ 0 ≤ z ∧ z ≤ 1099511627776 ∧ Hid (z = k + (j : Int) * 8) ∧ Hid (wr.heap[g]? = some (.cells cu 34 (0, 0))) ∧ Hid (cu.size = c * 8) ∧ Hid (HasMarks KIntentS k (j * 8) cu) ∧ Hid (Chg (blkOf (some ⟨g, 0, none⟩)) w wr)) (fun _ i _ => n - (intOf i).toNat)
    case atStart => exact ⟨0, k, cur, Nat.zero_le _, rfl, rfl, h0, by omega, Lib.hid (by simp), HG0, HC0, Lib.hid (by first | exact HasMarks.zero _ _ _ | (rw [Nat.zero_mul]; exact HasMarks.zero _ _ _)), Lib.hid (Chg.refl _ _)⟩
    case round =>
      clear HG0 HC0
      obtain ⟨j, z, cu, hj, rfl, rfl, z0, z1, HZ, HG, HC, HM, HX⟩ := hrel
      by_cases hlt : j < n
      · have hgr : g < wr.heap.size := (Array.getElem?_eq_some_iff.1 HG.out).1
        have hzb : z + 8 ≤ 1099511627776 := by have := HZ.out; omega
        have hju : j * 8 + 8 ≤ cu.size := by rw [HC.out]; omega
        have j0 : (0 : Int) ≤ (j : Int) := by omega
        have j1 : (j : Int) < (n : Int) := by omega
        have t0_0 : wr.cell? ⟨g, j * 8, none⟩ = some _ := block_cell HG.out (by omega)
        generalize cu[j * 8]'_ = y0_0 at t0_0
        have f0_0 : wr.frozen? ⟨g, j * 8, none⟩ = false := block_free HG.out _
        have t0_1 : wr.cell? ⟨g, j * 8 + 1, none⟩ = some _ := block_cell HG.out (by omega)
        generalize cu[j * 8 + 1]'_ = y0_1 at t0_1
        have f0_1 : wr.frozen? ⟨g, j * 8 + 1, none⟩ = false := block_free HG.out _
        have t0_2 : wr.cell? ⟨g, j * 8 + 2, none⟩ = some _ := block_cell HG.out (by omega)
        generalize cu[j * 8 + 2]'_ = y0_2 at t0_2
        have f0_2 : wr.frozen? ⟨g, j * 8 + 2, none⟩ = false := block_free HG.out _
        have t0_3 : wr.cell? ⟨g, j * 8 + 3, none⟩ = some _ := block_cell HG.out (by omega)
        generalize cu[j * 8 + 3]'_ = y0_3 at t0_3
        have f0_3 : wr.frozen? ⟨g, j * 8 + 3, none⟩ = false := block_free HG.out _
        have t0_4 : wr.cell? ⟨g, j * 8 + 4, none⟩ = some _ := block_cell HG.out (by omega)
        generalize cu[j * 8 + 4]'_ = y0_4 at t0_4
        have f0_4 : wr.frozen? ⟨g, j * 8 + 4, none⟩ = false := block_free HG.out _
        have t0_5 : wr.cell? ⟨g, j * 8 + 5, none⟩ = some _ := block_cell HG.out (by omega)
        generalize cu[j * 8 + 5]'_ = y0_5 at t0_5
        have f0_5 : wr.frozen? ⟨g, j * 8 + 5, none⟩ = false := block_free HG.out _
        have t0_6 : wr.cell? ⟨g, j * 8 + 6, none⟩ = some _ := block_cell HG.out (by omega)
        generalize cu[j * 8 + 6]'_ = y0_6 at t0_6
        have f0_6 : wr.frozen? ⟨g, j * 8 + 6, none⟩ = false := block_free HG.out _
        have t0_7 : wr.cell? ⟨g, j * 8 + 7, none⟩ = some _ := block_cell HG.out (by omega)
        generalize cu[j * 8 + 7]'_ = y0_7 at t0_7
        have f0_7 : wr.frozen? ⟨g, j * 8 + 7, none⟩ = false := block_free HG.out _
        go_wp2_with fail
        refine (markText_any (z + 1 + 1) _ (by omega)).mono ?_
        rintro e v1 ⟨rfl, hb1⟩
        have hg1 : v1.heap[g]? = some (.cells ((Array.setIfInBounds (Array.setIfInBounds cu (j * 8) (.int .i64 (z))) (j * 8 + 1) (.int .i64 (z + 1)))) 34 (0, 0)) := (hb1.block g (by first | omega | (simp [World.setCell] <;> omega))).trans (block_set (block_set HG.out))
        have HX1 : Hid (Chg (blkOf (some ⟨g, 0, none⟩)) w v1) := Lib.hid (Chg.trans (show Chg _ w ((World.setCell (World.setCell wr ⟨g, j * 8, none⟩ (.int .i64 (z))) ⟨g, j * 8 + 1, none⟩ (.int .i64 (z + 1)))) from (Chg.setCell (p := ⟨g, _, none⟩) (Chg.setCell (p := ⟨g, _, none⟩) HX.out (.inl ⟨0, rfl⟩) _) (.inl ⟨0, rfl⟩) _)) (Chg.of_below hb1 _))
        have hgr1 : g < v1.heap.size := (Array.getElem?_eq_some_iff.1 hg1).1
        clear hb1
        have t1_2 : v1.cell? ⟨g, j * 8 + 2, none⟩ = some _ := block_cell hg1 (by simp; omega)
        generalize (Array.setIfInBounds (Array.setIfInBounds cu (j * 8) (.int .i64 (z))) (j * 8 + 1) (.int .i64 (z + 1)))[j * 8 + 2]'_ = y1_2 at t1_2
        have f1_2 : v1.frozen? ⟨g, j * 8 + 2, none⟩ = false := block_free hg1 _
        have t1_3 : v1.cell? ⟨g, j * 8 + 3, none⟩ = some _ := block_cell hg1 (by simp; omega)
        generalize (Array.setIfInBounds (Array.setIfInBounds cu (j * 8) (.int .i64 (z))) (j * 8 + 1) (.int .i64 (z + 1)))[j * 8 + 3]'_ = y1_3 at t1_3
        have f1_3 : v1.frozen? ⟨g, j * 8 + 3, none⟩ = false := block_free hg1 _
        have t1_4 : v1.cell? ⟨g, j * 8 + 4, none⟩ = some _ := block_cell hg1 (by simp; omega)
        generalize (Array.setIfInBounds (Array.setIfInBounds cu (j * 8) (.int .i64 (z))) (j * 8 + 1) (.int .i64 (z + 1)))[j * 8 + 4]'_ = y1_4 at t1_4
        have f1_4 : v1.frozen? ⟨g, j * 8 + 4, none⟩ = false := block_free hg1 _
        have t1_5 : v1.cell? ⟨g, j * 8 + 5, none⟩ = some _ := block_cell hg1 (by simp; omega)
        generalize (Array.setIfInBounds (Array.setIfInBounds cu (j * 8) (.int .i64 (z))) (j * 8 + 1) (.int .i64 (z + 1)))[j * 8 + 5]'_ = y1_5 at t1_5
        have f1_5 : v1.frozen? ⟨g, j * 8 + 5, none⟩ = false := block_free hg1 _
        have t1_6 : v1.cell? ⟨g, j * 8 + 6, none⟩ = some _ := block_cell hg1 (by simp; omega)
        generalize (Array.setIfInBounds (Array.setIfInBounds cu (j * 8) (.int .i64 (z))) (j * 8 + 1) (.int .i64 (z + 1)))[j * 8 + 6]'_ = y1_6 at t1_6
        have f1_6 : v1.frozen? ⟨g, j * 8 + 6, none⟩ = false := block_free hg1 _
        have t1_7 : v1.cell? ⟨g, j * 8 + 7, none⟩ = some _ := block_cell hg1 (by simp; omega)
        generalize (Array.setIfInBounds (Array.setIfInBounds cu (j * 8) (.int .i64 (z))) (j * 8 + 1) (.int .i64 (z + 1)))[j * 8 + 7]'_ = y1_7 at t1_7
        have f1_7 : v1.frozen? ⟨g, j * 8 + 7, none⟩ = false := block_free hg1 _
        have HG1 := Lib.hid hg1; clear hg1
        go_wp2_with fail
        refine (markText_any (z + 1 + 1 + 1 + 1) _ (by omega)).mono ?_
        rintro e v2 ⟨rfl, hb2⟩
        have hg2 : v2.heap[g]? = some (.cells ((Array.setIfInBounds (Array.setIfInBounds (Array.setIfInBounds (Array.setIfInBounds cu (j * 8) (.int .i64 (z))) (j * 8 + 1) (.int .i64 (z + 1))) (j * 8 + 2) (.string (mtext (z + 1 + 1)))) (j * 8 + 3) (.int .i64 (z + 1 + 1 + 1)))) 34 (0, 0)) := (hb2.block g (by first | omega | (simp [World.setCell] <;> omega))).trans (block_set (block_set HG1.out))
        have HX2 : Hid (Chg (blkOf (some ⟨g, 0, none⟩)) w v2) := Lib.hid (Chg.trans (show Chg _ w ((World.setCell (World.setCell v1 ⟨g, j * 8 + 2, none⟩ (.string (mtext (z + 1 + 1)))) ⟨g, j * 8 + 3, none⟩ (.int .i64 (z + 1 + 1 + 1)))) from (Chg.setCell (p := ⟨g, _, none⟩) (Chg.setCell (p := ⟨g, _, none⟩) HX1.out (.inl ⟨0, rfl⟩) _) (.inl ⟨0, rfl⟩) _)) (Chg.of_below hb2 _))
        have hgr2 : g < v2.heap.size := (Array.getElem?_eq_some_iff.1 hg2).1
        clear hb2
        have t2_4 : v2.cell? ⟨g, j * 8 + 4, none⟩ = some _ := block_cell hg2 (by simp; omega)
        generalize (Array.setIfInBounds (Array.setIfInBounds (Array.setIfInBounds (Array.setIfInBounds cu (j * 8) (.int .i64 (z))) (j * 8 + 1) (.int .i64 (z + 1))) (j * 8 + 2) (.string (mtext (z + 1 + 1)))) (j * 8 + 3) (.int .i64 (z + 1 + 1 + 1)))[j * 8 + 4]'_ = y2_4 at t2_4
        have f2_4 : v2.frozen? ⟨g, j * 8 + 4, none⟩ = false := block_free hg2 _
        have t2_5 : v2.cell? ⟨g, j * 8 + 5, none⟩ = some _ := block_cell hg2 (by simp; omega)
        generalize (Array.setIfInBounds (Array.setIfInBounds (Array.setIfInBounds (Array.setIfInBounds cu (j * 8) (.int .i64 (z))) (j * 8 + 1) (.int .i64 (z + 1))) (j * 8 + 2) (.string (mtext (z + 1 + 1)))) (j * 8 + 3) (.int .i64 (z + 1 + 1 + 1)))[j * 8 + 5]'_ = y2_5 at t2_5
        have f2_5 : v2.frozen? ⟨g, j * 8 + 5, none⟩ = false := block_free hg2 _
        have t2_6 : v2.cell? ⟨g, j * 8 + 6, none⟩ = some _ := block_cell hg2 (by simp; omega)
        generalize (Array.setIfInBounds (Array.setIfInBounds (Array.setIfInBounds (Array.setIfInBounds cu (j * 8) (.int .i64 (z))) (j * 8 + 1) (.int .i64 (z + 1))) (j * 8 + 2) (.string (mtext (z + 1 + 1)))) (j * 8 + 3) (.int .i64 (z + 1 + 1 + 1)))[j * 8 + 6]'_ = y2_6 at t2_6
        have f2_6 : v2.frozen? ⟨g, j * 8 + 6, none⟩ = false := block_free hg2 _
        have t2_7 : v2.cell? ⟨g, j * 8 + 7, none⟩ = some _ := block_cell hg2 (by simp; omega)
        generalize (Array.setIfInBounds (Array.setIfInBounds (Array.setIfInBounds (Array.setIfInBounds cu (j * 8) (.int .i64 (z))) (j * 8 + 1) (.int .i64 (z + 1))) (j * 8 + 2) (.string (mtext (z + 1 + 1)))) (j * 8 + 3) (.int .i64 (z + 1 + 1 + 1)))[j * 8 + 7]'_ = y2_7 at t2_7
        have f2_7 : v2.frozen? ⟨g, j * 8 + 7, none⟩ = false := block_free hg2 _
        have HG2 := Lib.hid hg2; clear hg2
        go_wp2_with fail
        refine (markText_any (z + 1 + 1 + 1 + 1 + 1) _ (by omega)).mono ?_
        rintro e v3 ⟨rfl, hb3⟩
        have hg3 : v3.heap[g]? = some (.cells ((Array.setIfInBounds (Array.setIfInBounds (Array.setIfInBounds (Array.setIfInBounds (Array.setIfInBounds cu (j * 8) (.int .i64 (z))) (j * 8 + 1) (.int .i64 (z + 1))) (j * 8 + 2) (.string (mtext (z + 1 + 1)))) (j * 8 + 3) (.int .i64 (z + 1 + 1 + 1))) (j * 8 + 4) (.string (mtext (z + 1 + 1 + 1 + 1))))) 34 (0, 0)) := (hb3.block g (by first | omega | (simp [World.setCell] <;> omega))).trans (block_set HG2.out)
        have HX3 : Hid (Chg (blkOf (some ⟨g, 0, none⟩)) w v3) := Lib.hid (Chg.trans (show Chg _ w ((World.setCell v2 ⟨g, j * 8 + 4, none⟩ (.string (mtext (z + 1 + 1 + 1 + 1))))) from (Chg.setCell (p := ⟨g, _, none⟩) HX2.out (.inl ⟨0, rfl⟩) _)) (Chg.of_below hb3 _))
        have hgr3 : g < v3.heap.size := (Array.getElem?_eq_some_iff.1 hg3).1
        clear hb3
        have t3_5 : v3.cell? ⟨g, j * 8 + 5, none⟩ = some _ := block_cell hg3 (by simp; omega)
        generalize (Array.setIfInBounds (Array.setIfInBounds (Array.setIfInBounds (Array.setIfInBounds (Array.setIfInBounds cu (j * 8) (.int .i64 (z))) (j * 8 + 1) (.int .i64 (z + 1))) (j * 8 + 2) (.string (mtext (z + 1 + 1)))) (j * 8 + 3) (.int .i64 (z + 1 + 1 + 1))) (j * 8 + 4) (.string (mtext (z + 1 + 1 + 1 + 1))))[j * 8 + 5]'_ = y3_5 at t3_5
        have f3_5 : v3.frozen? ⟨g, j * 8 + 5, none⟩ = false := block_free hg3 _
        have t3_6 : v3.cell? ⟨g, j * 8 + 6, none⟩ = some _ := block_cell hg3 (by simp; omega)
        generalize (Array.setIfInBounds (Array.setIfInBounds (Array.setIfInBounds (Array.setIfInBounds (Array.setIfInBounds cu (j * 8) (.int .i64 (z))) (j * 8 + 1) (.int .i64 (z + 1))) (j * 8 + 2) (.string (mtext (z + 1 + 1)))) (j * 8 + 3) (.int .i64 (z + 1 + 1 + 1))) (j * 8 + 4) (.string (mtext (z + 1 + 1 + 1 + 1))))[j * 8 + 6]'_ = y3_6 at t3_6
        have f3_6 : v3.frozen? ⟨g, j * 8 + 6, none⟩ = false := block_free hg3 _
        have t3_7 : v3.cell? ⟨g, j * 8 + 7, none⟩ = some _ := block_cell hg3 (by simp; omega)
        generalize (Array.setIfInBounds (Array.setIfInBounds (Array.setIfInBounds (Array.setIfInBounds (Array.setIfInBounds cu (j * 8) (.int .i64 (z))) (j * 8 + 1) (.int .i64 (z + 1))) (j * 8 + 2) (.string (mtext (z + 1 + 1)))) (j * 8 + 3) (.int .i64 (z + 1 + 1 + 1))) (j * 8 + 4) (.string (mtext (z + 1 + 1 + 1 + 1))))[j * 8 + 7]'_ = y3_7 at t3_7
        have f3_7 : v3.frozen? ⟨g, j * 8 + 7, none⟩ = false := block_free hg3 _
        have HG3 := Lib.hid hg3; clear hg3
        go_wp2_with fail
        refine (markText_any (z + 1 + 1 + 1 + 1 + 1 + 1 + 1) _ (by omega)).mono ?_
        rintro e v4 ⟨rfl, hb4⟩
        have hg4 : v4.heap[g]? = some (.cells ((Array.setIfInBounds (Array.setIfInBounds (Array.setIfInBounds (Array.setIfInBounds (Array.setIfInBounds (Array.setIfInBounds (Array.setIfInBounds cu (j * 8) (.int .i64 (z))) (j * 8 + 1) (.int .i64 (z + 1))) (j * 8 + 2) (.string (mtext (z + 1 + 1)))) (j * 8 + 3) (.int .i64 (z + 1 + 1 + 1))) (j * 8 + 4) (.string (mtext (z + 1 + 1 + 1 + 1)))) (j * 8 + 5) (.string (mtext (z + 1 + 1 + 1 + 1 + 1)))) (j * 8 + 6) (.int .i64 (z + 1 + 1 + 1 + 1 + 1 + 1)))) 34 (0, 0)) := (hb4.block g (by first | omega | (simp [World.setCell] <;> omega))).trans (block_set (block_set HG3.out))
        have HX4 : Hid (Chg (blkOf (some ⟨g, 0, none⟩)) w v4) := Lib.hid (Chg.trans (show Chg _ w ((World.setCell (World.setCell v3 ⟨g, j * 8 + 5, none⟩ (.string (mtext (z + 1 + 1 + 1 + 1 + 1)))) ⟨g, j * 8 + 6, none⟩ (.int .i64 (z + 1 + 1 + 1 + 1 + 1 + 1)))) from (Chg.setCell (p := ⟨g, _, none⟩) (Chg.setCell (p := ⟨g, _, none⟩) HX3.out (.inl ⟨0, rfl⟩) _) (.inl ⟨0, rfl⟩) _)) (Chg.of_below hb4 _))
        have hgr4 : g < v4.heap.size := (Array.getElem?_eq_some_iff.1 hg4).1
        clear hb4
        have t4_7 : v4.cell? ⟨g, j * 8 + 7, none⟩ = some _ := block_cell hg4 (by simp; omega)
        generalize (Array.setIfInBounds (Array.setIfInBounds (Array.setIfInBounds (Array.setIfInBounds (Array.setIfInBounds (Array.setIfInBounds (Array.setIfInBounds cu (j * 8) (.int .i64 (z))) (j * 8 + 1) (.int .i64 (z + 1))) (j * 8 + 2) (.string (mtext (z + 1 + 1)))) (j * 8 + 3) (.int .i64 (z + 1 + 1 + 1))) (j * 8 + 4) (.string (mtext (z + 1 + 1 + 1 + 1)))) (j * 8 + 5) (.string (mtext (z + 1 + 1 + 1 + 1 + 1)))) (j * 8 + 6) (.int .i64 (z + 1 + 1 + 1 + 1 + 1 + 1)))[j * 8 + 7]'_ = y4_7 at t4_7
        have f4_7 : v4.frozen? ⟨g, j * 8 + 7, none⟩ = false := block_free hg4 _
        have HG4 := Lib.hid hg4; clear hg4
        go_wp2_with fail
        go_roundw
        case rel =>
          have m0 := HM.out
          have kv0 : .int .i64 (z) = mkv (k + ((j * 8 : Nat) : Int)) (KIntentS.getD ((j * 8) % KIntentS.length) undef) := by
            have e1 : (j * 8) % KIntentS.length = 0 := by show (j * 8) % 8 = 0; omega
            have e2 : k + ((j * 8 : Nat) : Int) = z := by have := HZ.out; push_cast; omega
            rw [e1, e2]; rfl
          have m1 := HasMarks.step m0 (by have := HC.out; (try simp only [Array.size_setIfInBounds]); omega) kv0
          have kv1 : .int .i64 (z + 1) = mkv (k + ((j * 8 + 1 : Nat) : Int)) (KIntentS.getD ((j * 8 + 1) % KIntentS.length) undef) := by
            have e1 : (j * 8 + 1) % KIntentS.length = 1 := by show (j * 8 + 1) % 8 = 1; omega
            have e2 : k + ((j * 8 + 1 : Nat) : Int) = z + 1 := by have := HZ.out; push_cast; omega
            rw [e1, e2]; rfl
          have m2 := HasMarks.step m1 (by have := HC.out; (try simp only [Array.size_setIfInBounds]); omega) kv1
          have kv2 : .string (mtext (z + 1 + 1)) = mkv (k + ((j * 8 + 2 : Nat) : Int)) (KIntentS.getD ((j * 8 + 2) % KIntentS.length) undef) := by
            have e1 : (j * 8 + 2) % KIntentS.length = 2 := by show (j * 8 + 2) % 8 = 2; omega
            have e2 : k + ((j * 8 + 2 : Nat) : Int) = z + 1 + 1 := by have := HZ.out; push_cast; omega
            rw [e1, e2]; rfl
          have m3 := HasMarks.step m2 (by have := HC.out; (try simp only [Array.size_setIfInBounds]); omega) kv2
          have kv3 : .int .i64 (z + 1 + 1 + 1) = mkv (k + ((j * 8 + 3 : Nat) : Int)) (KIntentS.getD ((j * 8 + 3) % KIntentS.length) undef) := by
            have e1 : (j * 8 + 3) % KIntentS.length = 3 := by show (j * 8 + 3) % 8 = 3; omega
            have e2 : k + ((j * 8 + 3 : Nat) : Int) = z + 1 + 1 + 1 := by have := HZ.out; push_cast; omega
            rw [e1, e2]; rfl
          have m4 := HasMarks.step m3 (by have := HC.out; (try simp only [Array.size_setIfInBounds]); omega) kv3
          have kv4 : .string (mtext (z + 1 + 1 + 1 + 1)) = mkv (k + ((j * 8 + 4 : Nat) : Int)) (KIntentS.getD ((j * 8 + 4) % KIntentS.length) undef) := by
            have e1 : (j * 8 + 4) % KIntentS.length = 4 := by show (j * 8 + 4) % 8 = 4; omega
            have e2 : k + ((j * 8 + 4 : Nat) : Int) = z + 1 + 1 + 1 + 1 := by have := HZ.out; push_cast; omega
            rw [e1, e2]; rfl
          have m5 := HasMarks.step m4 (by have := HC.out; (try simp only [Array.size_setIfInBounds]); omega) kv4
          have kv5 : .string (mtext (z + 1 + 1 + 1 + 1 + 1)) = mkv (k + ((j * 8 + 5 : Nat) : Int)) (KIntentS.getD ((j * 8 + 5) % KIntentS.length) undef) := by
            have e1 : (j * 8 + 5) % KIntentS.length = 5 := by show (j * 8 + 5) % 8 = 5; omega
            have e2 : k + ((j * 8 + 5 : Nat) : Int) = z + 1 + 1 + 1 + 1 + 1 := by have := HZ.out; push_cast; omega
            rw [e1, e2]; rfl
          have m6 := HasMarks.step m5 (by have := HC.out; (try simp only [Array.size_setIfInBounds]); omega) kv5
          have kv6 : .int .i64 (z + 1 + 1 + 1 + 1 + 1 + 1) = mkv (k + ((j * 8 + 6 : Nat) : Int)) (KIntentS.getD ((j * 8 + 6) % KIntentS.length) undef) := by
            have e1 : (j * 8 + 6) % KIntentS.length = 6 := by show (j * 8 + 6) % 8 = 6; omega
            have e2 : k + ((j * 8 + 6 : Nat) : Int) = z + 1 + 1 + 1 + 1 + 1 + 1 := by have := HZ.out; push_cast; omega
            rw [e1, e2]; rfl
          have m7 := HasMarks.step m6 (by have := HC.out; (try simp only [Array.size_setIfInBounds]); omega) kv6
          have kv7 : .string (mtext (z + 1 + 1 + 1 + 1 + 1 + 1 + 1)) = mkv (k + ((j * 8 + 7 : Nat) : Int)) (KIntentS.getD ((j * 8 + 7) % KIntentS.length) undef) := by
            have e1 : (j * 8 + 7) % KIntentS.length = 7 := by show (j * 8 + 7) % 8 = 7; omega
            have e2 : k + ((j * 8 + 7 : Nat) : Int) = z + 1 + 1 + 1 + 1 + 1 + 1 + 1 := by have := HZ.out; push_cast; omega
            rw [e1, e2]; rfl
          have m8 := HasMarks.step m7 (by have := HC.out; (try simp only [Array.size_setIfInBounds]); omega) kv7
          refine ⟨j + 1, z + 1 + 1 + 1 + 1 + 1 + 1 + 1 + 1, (Array.setIfInBounds (Array.setIfInBounds (Array.setIfInBounds (Array.setIfInBounds (Array.setIfInBounds (Array.setIfInBounds (Array.setIfInBounds (Array.setIfInBounds cu (j * 8) (.int .i64 (z))) (j * 8 + 1) (.int .i64 (z + 1))) (j * 8 + 2) (.string (mtext (z + 1 + 1)))) (j * 8 + 3) (.int .i64 (z + 1 + 1 + 1))) (j * 8 + 4) (.string (mtext (z + 1 + 1 + 1 + 1)))) (j * 8 + 5) (.string (mtext (z + 1 + 1 + 1 + 1 + 1)))) (j * 8 + 6) (.int .i64 (z + 1 + 1 + 1 + 1 + 1 + 1))) (j * 8 + 7) (.string (mtext (z + 1 + 1 + 1 + 1 + 1 + 1 + 1)))), by omega, by go_num, by first | rfl | (congr 1; omega), by omega, by omega, Lib.hid (by have := HZ.out; push_cast; omega), Lib.hid (block_set HG4.out), Lib.hid (by simpa using HC.out), Lib.hid ?_, Lib.hid (Chg.setCell (p := ⟨g, _, none⟩) HX4.out (.inl ⟨0, rfl⟩) _)⟩
          rw [show (j + 1) * 8 = j * 8 + 1 + 1 + 1 + 1 + 1 + 1 + 1 + 1 by omega]; exact m8
        case measure => simp [intOf]; omega
      · obtain rfl : j = n := by omega
        go_wp2_with fail
        go_ret
        exact ⟨ret_int HZ.out, HM.out.at_ HG.out, .inr ⟨g, cu, rfl, hlo, hhi, HG.out, HC.out, hnc⟩, HX.out.mono fun b _ h => ⟨hnp, h⟩⟩

set_option maxRecDepth 100000 in
set_option maxHeartbeats 4000000 in
theorem heldIntentS_any (A : Option Addr) (n c : Nat) (k : Int) (w : World) (h : MarkedAt w KIntentS k A (n * 8)) (h0 : 0 ≤ k) (h1 : k + n * 8 ≤ 1099511627776) :
    Calls Tryz.prog 16 #[.slice A n c, .int .i64 k] w fun e w' => e = .returned (.int .i64 (k + n * 8)) ∧ Below w.heap.size w w' := by
  have hn : n ≤ 1099511627776 := by omega
  have H := Lib.hid h; clear h
  go_enter Tryz.func16, Tryz.ntmps16
  go_wp2_with fail
  go_loopw [1, 5] (fun kk i wr => ∃ (j : Nat) (z : Int), j ≤ n ∧ i = .int .i64 j ∧ kk = .int .i64 z ∧ 0 ≤ z ∧ z ≤ 1099511627776 ∧ Hid (z = k + (j : Int) * 8) ∧ Hid (Below w.heap.size w wr)) (fun _ i _ => n - (intOf i).toNat)
  case atStart => exact ⟨0, k, Nat.zero_le _, rfl, rfl, h0, by omega, Lib.hid (by simp), Lib.hid (Below.refl _ _)⟩
  case round =>
    obtain ⟨j, z, hj, rfl, rfl, z0, z1, HZ, HB⟩ := hrel
    by_cases hlt : j < n
    · obtain ⟨b, off, rfl, hbl, hc⟩ := (H.out.below HB.out) (by omega)
      have hzb : z + 8 ≤ 1099511627776 := by have := HZ.out; omega
      have q0_0 : wr.cell? ⟨b, off + j * 8, none⟩ = some (.int .i64 (z)) := by
        have hq := hc (j * 8) (by omega)
        rw [show (j * 8) % KIntentS.length = 0 by show (j * 8) % 8 = 0; omega] at hq
        have hz := HZ.out
        rw [show k + ((j * 8 : Nat) : Int) = z by push_cast; omega] at hq
        simpa [KIntentS, mkv, Nat.add_assoc] using hq
      have q0_1 : wr.cell? ⟨b, off + j * 8 + 1, none⟩ = some (.int .i64 (z + 1)) := by
        have hq := hc (j * 8 + 1) (by omega)
        rw [show (j * 8 + 1) % KIntentS.length = 1 by show (j * 8 + 1) % 8 = 1; omega] at hq
        have hz := HZ.out
        rw [show k + ((j * 8 + 1 : Nat) : Int) = z + 1 by push_cast; omega] at hq
        simpa [KIntentS, mkv, Nat.add_assoc] using hq
      have q0_2 : wr.cell? ⟨b, off + j * 8 + 2, none⟩ = some (.string (mtext (z + 1 + 1))) := by
        have hq := hc (j * 8 + 2) (by omega)
        rw [show (j * 8 + 2) % KIntentS.length = 2 by show (j * 8 + 2) % 8 = 2; omega] at hq
        have hz := HZ.out
        rw [show k + ((j * 8 + 2 : Nat) : Int) = z + 1 + 1 by push_cast; omega] at hq
        simpa [KIntentS, mkv, Nat.add_assoc] using hq
      have q0_3 : wr.cell? ⟨b, off + j * 8 + 3, none⟩ = some (.int .i64 (z + 1 + 1 + 1)) := by
        have hq := hc (j * 8 + 3) (by omega)
        rw [show (j * 8 + 3) % KIntentS.length = 3 by show (j * 8 + 3) % 8 = 3; omega] at hq
        have hz := HZ.out
        rw [show k + ((j * 8 + 3 : Nat) : Int) = z + 1 + 1 + 1 by push_cast; omega] at hq
        simpa [KIntentS, mkv, Nat.add_assoc] using hq
      have q0_4 : wr.cell? ⟨b, off + j * 8 + 4, none⟩ = some (.string (mtext (z + 1 + 1 + 1 + 1))) := by
        have hq := hc (j * 8 + 4) (by omega)
        rw [show (j * 8 + 4) % KIntentS.length = 4 by show (j * 8 + 4) % 8 = 4; omega] at hq
        have hz := HZ.out
        rw [show k + ((j * 8 + 4 : Nat) : Int) = z + 1 + 1 + 1 + 1 by push_cast; omega] at hq
        simpa [KIntentS, mkv, Nat.add_assoc] using hq
      have q0_5 : wr.cell? ⟨b, off + j * 8 + 5, none⟩ = some (.string (mtext (z + 1 + 1 + 1 + 1 + 1))) := by
        have hq := hc (j * 8 + 5) (by omega)
        rw [show (j * 8 + 5) % KIntentS.length = 5 by show (j * 8 + 5) % 8 = 5; omega] at hq
        have hz := HZ.out
        rw [show k + ((j * 8 + 5 : Nat) : Int) = z + 1 + 1 + 1 + 1 + 1 by push_cast; omega] at hq
        simpa [KIntentS, mkv, Nat.add_assoc] using hq
      have q0_6 : wr.cell? ⟨b, off + j * 8 + 6, none⟩ = some (.int .i64 (z + 1 + 1 + 1 + 1 + 1 + 1)) := by
        have hq := hc (j * 8 + 6) (by omega)
        rw [show (j * 8 + 6) % KIntentS.length = 6 by show (j * 8 + 6) % 8 = 6; omega] at hq
        have hz := HZ.out
        rw [show k + ((j * 8 + 6 : Nat) : Int) = z + 1 + 1 + 1 + 1 + 1 + 1 by push_cast; omega] at hq
        simpa [KIntentS, mkv, Nat.add_assoc] using hq
      have q0_7 : wr.cell? ⟨b, off + j * 8 + 7, none⟩ = some (.string (mtext (z + 1 + 1 + 1 + 1 + 1 + 1 + 1))) := by
        have hq := hc (j * 8 + 7) (by omega)
        rw [show (j * 8 + 7) % KIntentS.length = 7 by show (j * 8 + 7) % 8 = 7; omega] at hq
        have hz := HZ.out
        rw [show k + ((j * 8 + 7 : Nat) : Int) = z + 1 + 1 + 1 + 1 + 1 + 1 + 1 by push_cast; omega] at hq
        simpa [KIntentS, mkv, Nat.add_assoc] using hq
      clear hc
      have j0 : (0 : Int) ≤ (j : Int) := by omega
      have j1 : (j : Int) < (n : Int) := by omega
      go_wp2_with fail
      apply wp_region_rg (by kernel_rfl) (false :: false :: false :: false :: false :: false :: false :: false :: false :: false :: false :: false :: false :: false :: false :: false :: false :: false :: false :: false :: false :: false :: false :: false :: false :: false :: false :: false :: false :: false :: true :: true :: true :: true :: true :: true :: true :: true :: false :: false :: false :: false :: false :: false :: false :: false :: false :: false :: false :: false :: false :: false :: false :: false :: false :: false :: false :: false :: false :: false :: false :: false :: false :: false :: false :: false :: false :: false :: false :: false :: false :: false :: false :: false :: false :: false :: false :: false :: false :: false :: false :: false :: false :: false :: false :: false :: false :: false :: false :: false :: false :: false :: false :: false :: []) [some 30, some 31, some 32, some 33, some 34, some 35, some 36, some 37] [[], [], [0, 1], [2], [3], [], [5], [4, 6]] [StP.is _, StP.is _, StP.is _, StP.is _, StP.is _, StP.is _, StP.is _, StP.is _] (by kernel_rfl)
      case hobs =>
        refine ⟨fun y w' hS hF K hK => ?_, ?_⟩
        · skip -- 0: move
          simp only [fillL, cond_true, cond_false, List.getD_cons_zero, List.getD_cons_succ, StP.is, Act.put, List.setIfInBounds_toArray, List.set_cons_zero, List.set_cons_succ, Nat.reduceAdd] at hK ⊢
          refine rg_yes (by kernel_rfl) ?_
          clear hF
          go_simp
          exact hK _ _ (Ext.refl _) rfl
        refine ⟨fun y w' hS hF K hK => ?_, ?_⟩
        · skip -- 1: move
          simp only [fillL, cond_true, cond_false, List.getD_cons_zero, List.getD_cons_succ, StP.is, Act.put, List.setIfInBounds_toArray, List.set_cons_zero, List.set_cons_succ, Nat.reduceAdd] at hK ⊢
          refine rg_yes (by kernel_rfl) ?_
          clear hF
          go_simp
          exact hK _ _ (Ext.refl _) rfl
        refine ⟨fun y w' hS hF K hK => ?_, ?_⟩
        · skip -- 2: indexAddr
          have e30 : y 30 = _ := hF.1
          have e31 : y 31 = _ := hF.2.1
          simp only [fillL, cond_true, cond_false, List.getD_cons_zero, List.getD_cons_succ, StP.is, Act.put, List.setIfInBounds_toArray, List.set_cons_zero, List.set_cons_succ, Nat.reduceAdd, e30, e31] at hK ⊢
          refine rg_yes (by kernel_rfl) ?_
          clear e30 e31
          clear hF
          go_simp
          exact hK _ _ (Ext.refl _) rfl
        refine ⟨fun y w' hS hF K hK => ?_, ?_⟩
        · skip -- 3: fieldAddr
          have e32 : y 32 = _ := hF.1
          simp only [fillL, cond_true, cond_false, List.getD_cons_zero, List.getD_cons_succ, StP.is, Act.put, List.setIfInBounds_toArray, List.set_cons_zero, List.set_cons_succ, Nat.reduceAdd, e32] at hK ⊢
          refine rg_yes (by kernel_rfl) ?_
          clear e32
          clear hF
          go_simp
          exact hK _ _ (Ext.refl _) rfl
        refine ⟨fun y w' hS hF K hK => ?_, ?_⟩
        · skip -- 4: load
          have e33 : y 33 = _ := hF.1
          simp only [fillL, cond_true, cond_false, List.getD_cons_zero, List.getD_cons_succ, StP.is, Act.put, List.setIfInBounds_toArray, List.set_cons_zero, List.set_cons_succ, Nat.reduceAdd, e33] at hK ⊢
          refine rg_yes (by kernel_rfl) ?_
          have qx0_ := (Below.cell hS hbl).trans q0_0
          have qx1_ := (Below.cell hS hbl).trans q0_1
          have qx2_ := (Below.cell hS hbl).trans q0_2
          have qx3_ := (Below.cell hS hbl).trans q0_3
          have qx4_ := (Below.cell hS hbl).trans q0_4
          have qx5_ := (Below.cell hS hbl).trans q0_5
          have qx6_ := (Below.cell hS hbl).trans q0_6
          have qx7_ := (Below.cell hS hbl).trans q0_7
          clear e33
          clear hF
          go_simp
          exact hK _ _ (Ext.refl _) rfl
        refine ⟨fun y w' hS hF K hK => ?_, ?_⟩
        · skip -- 5: move
          simp only [fillL, cond_true, cond_false, List.getD_cons_zero, List.getD_cons_succ, StP.is, Act.put, List.setIfInBounds_toArray, List.set_cons_zero, List.set_cons_succ, Nat.reduceAdd] at hK ⊢
          refine rg_yes (by kernel_rfl) ?_
          clear hF
          go_simp
          exact hK _ _ (Ext.refl _) rfl
        refine ⟨fun y w' hS hF K hK => ?_, ?_⟩
        · skip -- 6: call
          have e35 : y 35 = _ := hF.1
          simp only [fillL, cond_true, cond_false, List.getD_cons_zero, List.getD_cons_succ, StP.is, Act.put, List.setIfInBounds_toArray, List.set_cons_zero, List.set_cons_succ, Nat.reduceAdd, e35] at hK ⊢
          refine rg_yes (by kernel_rfl) ?_
          clear e35
          clear hF
          go_simp
          go_at_call 32
          refine (markText_any (z + 1 + 1) _ (by omega)).mono ?_
          rintro e w'' ⟨rfl, hb⟩
          exact hK _ _ hb rfl
        refine ⟨fun y w' hS hF K hK => ?_, ?_⟩
        · skip -- 7: binOp
          have e34 : y 34 = _ := hF.1
          have e36 : y 36 = _ := hF.2.1
          simp only [fillL, cond_true, cond_false, List.getD_cons_zero, List.getD_cons_succ, StP.is, Act.put, List.setIfInBounds_toArray, List.set_cons_zero, List.set_cons_succ, Nat.reduceAdd, e34, e36] at hK ⊢
          refine rg_yes (by kernel_rfl) ?_
          clear e34 e36
          clear hF
          go_simp
          exact hK _ _ (Ext.refl _) rfl
        trivial
      case hend =>
        intro y v1 hX hF
        have e37 : y 37 = _ := hF.2.2.2.2.2.2.2.1
        clear hF
        simp only [fillL, cond_true, cond_false, Nat.reduceAdd, e37]
        clear e37
        have q1_0 := (Below.cell hX hbl).trans q0_0
        have q1_1 := (Below.cell hX hbl).trans q0_1
        have q1_2 := (Below.cell hX hbl).trans q0_2
        have q1_3 := (Below.cell hX hbl).trans q0_3
        have q1_4 := (Below.cell hX hbl).trans q0_4
        have q1_5 := (Below.cell hX hbl).trans q0_5
        have q1_6 := (Below.cell hX hbl).trans q0_6
        have q1_7 := (Below.cell hX hbl).trans q0_7
        have hbl1 : b < v1.heap.size := Nat.lt_of_lt_of_le hbl (Below.size hX)
        have HB1 : Hid (Below w.heap.size w v1) := Lib.hid (Below.trans HB.out (Below.mono hX (Below.size HB.out)))
        clear hX q0_0 q0_1 q0_2 q0_3 q0_4 q0_5 q0_6 q0_7 hbl
        go_wp2_with fail
        apply wp_region_rg (by kernel_rfl) (false :: false :: false :: false :: false :: false :: false :: false :: false :: false :: false :: false :: false :: false :: false :: false :: false :: false :: false :: false :: false :: false :: false :: false :: false :: false :: false :: false :: false :: false :: false :: false :: false :: false :: false :: false :: false :: false :: false :: false :: false :: false :: false :: false :: false :: false :: false :: false :: false :: false :: true :: true :: true :: true :: true :: true :: true :: true :: true :: false :: false :: false :: false :: false :: false :: false :: false :: false :: false :: false :: false :: false :: false :: false :: false :: false :: false :: false :: false :: false :: false :: false :: false :: false :: false :: false :: false :: false :: false :: false :: false :: false :: false :: false :: []) [some 50, some 51, some 52, some 53, some 54, some 55, some 56, some 57, some 58] [[], [], [0, 1], [2], [3], [4], [], [6], [5, 7]] [StP.is _, StP.is _, StP.is _, StP.is _, StP.is _, StP.is _, StP.is _, StP.is _, StP.is _] (by kernel_rfl)
        case hobs =>
          refine ⟨fun y w' hS hF K hK => ?_, ?_⟩
          · skip -- 0: move
            simp only [fillL, cond_true, cond_false, List.getD_cons_zero, List.getD_cons_succ, StP.is, Act.put, List.setIfInBounds_toArray, List.set_cons_zero, List.set_cons_succ, Nat.reduceAdd] at hK ⊢
            refine rg_yes (by kernel_rfl) ?_
            clear hF
            go_simp
            exact hK _ _ (Ext.refl _) rfl
          refine ⟨fun y w' hS hF K hK => ?_, ?_⟩
          · skip -- 1: move
            simp only [fillL, cond_true, cond_false, List.getD_cons_zero, List.getD_cons_succ, StP.is, Act.put, List.setIfInBounds_toArray, List.set_cons_zero, List.set_cons_succ, Nat.reduceAdd] at hK ⊢
            refine rg_yes (by kernel_rfl) ?_
            clear hF
            go_simp
            exact hK _ _ (Ext.refl _) rfl
          refine ⟨fun y w' hS hF K hK => ?_, ?_⟩
          · skip -- 2: indexAddr
            have e50 : y 50 = _ := hF.1
            have e51 : y 51 = _ := hF.2.1
            simp only [fillL, cond_true, cond_false, List.getD_cons_zero, List.getD_cons_succ, StP.is, Act.put, List.setIfInBounds_toArray, List.set_cons_zero, List.set_cons_succ, Nat.reduceAdd, e50, e51] at hK ⊢
            refine rg_yes (by kernel_rfl) ?_
            clear e50 e51
            clear hF
            go_simp
            exact hK _ _ (Ext.refl _) rfl
          refine ⟨fun y w' hS hF K hK => ?_, ?_⟩
          · skip -- 3: fieldAddr
            have e52 : y 52 = _ := hF.1
            simp only [fillL, cond_true, cond_false, List.getD_cons_zero, List.getD_cons_succ, StP.is, Act.put, List.setIfInBounds_toArray, List.set_cons_zero, List.set_cons_succ, Nat.reduceAdd, e52] at hK ⊢
            refine rg_yes (by kernel_rfl) ?_
            clear e52
            clear hF
            go_simp
            exact hK _ _ (Ext.refl _) rfl
          refine ⟨fun y w' hS hF K hK => ?_, ?_⟩
          · skip -- 4: fieldAddr
            have e53 : y 53 = _ := hF.1
            simp only [fillL, cond_true, cond_false, List.getD_cons_zero, List.getD_cons_succ, StP.is, Act.put, List.setIfInBounds_toArray, List.set_cons_zero, List.set_cons_succ, Nat.reduceAdd, e53] at hK ⊢
            refine rg_yes (by kernel_rfl) ?_
            clear e53
            clear hF
            go_simp
            exact hK _ _ (Ext.refl _) rfl
          refine ⟨fun y w' hS hF K hK => ?_, ?_⟩
          · skip -- 5: load
            have e54 : y 54 = _ := hF.1
            simp only [fillL, cond_true, cond_false, List.getD_cons_zero, List.getD_cons_succ, StP.is, Act.put, List.setIfInBounds_toArray, List.set_cons_zero, List.set_cons_succ, Nat.reduceAdd, e54] at hK ⊢
            refine rg_yes (by kernel_rfl) ?_
            have qx0_ := (Below.cell hS hbl1).trans q1_0
            have qx1_ := (Below.cell hS hbl1).trans q1_1
            have qx2_ := (Below.cell hS hbl1).trans q1_2
            have qx3_ := (Below.cell hS hbl1).trans q1_3
            have qx4_ := (Below.cell hS hbl1).trans q1_4
            have qx5_ := (Below.cell hS hbl1).trans q1_5
            have qx6_ := (Below.cell hS hbl1).trans q1_6
            have qx7_ := (Below.cell hS hbl1).trans q1_7
            clear e54
            clear hF
            go_simp
            exact hK _ _ (Ext.refl _) rfl
          refine ⟨fun y w' hS hF K hK => ?_, ?_⟩
          · skip -- 6: move
            simp only [fillL, cond_true, cond_false, List.getD_cons_zero, List.getD_cons_succ, StP.is, Act.put, List.setIfInBounds_toArray, List.set_cons_zero, List.set_cons_succ, Nat.reduceAdd] at hK ⊢
            refine rg_yes (by kernel_rfl) ?_
            clear hF
            go_simp
            exact hK _ _ (Ext.refl _) rfl
          refine ⟨fun y w' hS hF K hK => ?_, ?_⟩
          · skip -- 7: call
            have e56 : y 56 = _ := hF.1
            simp only [fillL, cond_true, cond_false, List.getD_cons_zero, List.getD_cons_succ, StP.is, Act.put, List.setIfInBounds_toArray, List.set_cons_zero, List.set_cons_succ, Nat.reduceAdd, e56] at hK ⊢
            refine rg_yes (by kernel_rfl) ?_
            clear e56
            clear hF
            go_simp
            go_at_call 32
            refine (markText_any (z + 1 + 1 + 1 + 1) _ (by omega)).mono ?_
            rintro e w'' ⟨rfl, hb⟩
            exact hK _ _ hb rfl
          refine ⟨fun y w' hS hF K hK => ?_, ?_⟩
          · skip -- 8: binOp
            have e55 : y 55 = _ := hF.1
            have e57 : y 57 = _ := hF.2.1
            simp only [fillL, cond_true, cond_false, List.getD_cons_zero, List.getD_cons_succ, StP.is, Act.put, List.setIfInBounds_toArray, List.set_cons_zero, List.set_cons_succ, Nat.reduceAdd, e55, e57] at hK ⊢
            refine rg_yes (by kernel_rfl) ?_
            clear e55 e57
            clear hF
            go_simp
            exact hK _ _ (Ext.refl _) rfl
          trivial
        case hend =>
          intro y v2 hX hF
          have e58 : y 58 = _ := hF.2.2.2.2.2.2.2.2.1
          clear hF
          simp only [fillL, cond_true, cond_false, Nat.reduceAdd, e58]
          clear e58
          have q2_0 := (Below.cell hX hbl1).trans q1_0
          have q2_1 := (Below.cell hX hbl1).trans q1_1
          have q2_2 := (Below.cell hX hbl1).trans q1_2
          have q2_3 := (Below.cell hX hbl1).trans q1_3
          have q2_4 := (Below.cell hX hbl1).trans q1_4
          have q2_5 := (Below.cell hX hbl1).trans q1_5
          have q2_6 := (Below.cell hX hbl1).trans q1_6
          have q2_7 := (Below.cell hX hbl1).trans q1_7
          have hbl2 : b < v2.heap.size := Nat.lt_of_lt_of_le hbl1 (Below.size hX)
          have HB2 : Hid (Below w.heap.size w v2) := Lib.hid (Below.trans HB1.out (Below.mono hX (Below.size HB1.out)))
          clear hX q1_0 q1_1 q1_2 q1_3 q1_4 q1_5 q1_6 q1_7 hbl1
          go_wp2_with fail
          apply wp_region_rg (by kernel_rfl) (false :: false :: false :: false :: false :: false :: false :: false :: false :: false :: false :: false :: false :: false :: false :: false :: false :: false :: false :: false :: false :: false :: false :: false :: false :: false :: false :: false :: false :: false :: false :: false :: false :: false :: false :: false :: false :: false :: false :: false :: false :: false :: false :: false :: false :: false :: false :: false :: false :: false :: false :: false :: false :: false :: false :: false :: false :: false :: false :: false :: false :: true :: true :: true :: true :: true :: true :: true :: true :: true :: false :: false :: false :: false :: false :: false :: false :: false :: false :: false :: false :: false :: false :: false :: false :: false :: false :: false :: false :: false :: false :: false :: false :: false :: []) [some 61, some 62, some 63, some 64, some 65, some 66, some 67, some 68, some 69] [[], [], [0, 1], [2], [3], [4], [], [6], [5, 7]] [StP.is _, StP.is _, StP.is _, StP.is _, StP.is _, StP.is _, StP.is _, StP.is _, StP.is _] (by kernel_rfl)
          case hobs =>
            refine ⟨fun y w' hS hF K hK => ?_, ?_⟩
            · skip -- 0: move
              simp only [fillL, cond_true, cond_false, List.getD_cons_zero, List.getD_cons_succ, StP.is, Act.put, List.setIfInBounds_toArray, List.set_cons_zero, List.set_cons_succ, Nat.reduceAdd] at hK ⊢
              refine rg_yes (by kernel_rfl) ?_
              clear hF
              go_simp
              exact hK _ _ (Ext.refl _) rfl
            refine ⟨fun y w' hS hF K hK => ?_, ?_⟩
            · skip -- 1: move
              simp only [fillL, cond_true, cond_false, List.getD_cons_zero, List.getD_cons_succ, StP.is, Act.put, List.setIfInBounds_toArray, List.set_cons_zero, List.set_cons_succ, Nat.reduceAdd] at hK ⊢
              refine rg_yes (by kernel_rfl) ?_
              clear hF
              go_simp
              exact hK _ _ (Ext.refl _) rfl
            refine ⟨fun y w' hS hF K hK => ?_, ?_⟩
            · skip -- 2: indexAddr
              have e61 : y 61 = _ := hF.1
              have e62 : y 62 = _ := hF.2.1
              simp only [fillL, cond_true, cond_false, List.getD_cons_zero, List.getD_cons_succ, StP.is, Act.put, List.setIfInBounds_toArray, List.set_cons_zero, List.set_cons_succ, Nat.reduceAdd, e61, e62] at hK ⊢
              refine rg_yes (by kernel_rfl) ?_
              clear e61 e62
              clear hF
              go_simp
              exact hK _ _ (Ext.refl _) rfl
            refine ⟨fun y w' hS hF K hK => ?_, ?_⟩
            · skip -- 3: fieldAddr
              have e63 : y 63 = _ := hF.1
              simp only [fillL, cond_true, cond_false, List.getD_cons_zero, List.getD_cons_succ, StP.is, Act.put, List.setIfInBounds_toArray, List.set_cons_zero, List.set_cons_succ, Nat.reduceAdd, e63] at hK ⊢
              refine rg_yes (by kernel_rfl) ?_
              clear e63
              clear hF
              go_simp
              exact hK _ _ (Ext.refl _) rfl
            refine ⟨fun y w' hS hF K hK => ?_, ?_⟩
            · skip -- 4: fieldAddr
              have e64 : y 64 = _ := hF.1
              simp only [fillL, cond_true, cond_false, List.getD_cons_zero, List.getD_cons_succ, StP.is, Act.put, List.setIfInBounds_toArray, List.set_cons_zero, List.set_cons_succ, Nat.reduceAdd, e64] at hK ⊢
              refine rg_yes (by kernel_rfl) ?_
              clear e64
              clear hF
              go_simp
              exact hK _ _ (Ext.refl _) rfl
            refine ⟨fun y w' hS hF K hK => ?_, ?_⟩
            · skip -- 5: load
              have e65 : y 65 = _ := hF.1
              simp only [fillL, cond_true, cond_false, List.getD_cons_zero, List.getD_cons_succ, StP.is, Act.put, List.setIfInBounds_toArray, List.set_cons_zero, List.set_cons_succ, Nat.reduceAdd, e65] at hK ⊢
              refine rg_yes (by kernel_rfl) ?_
              have qx0_ := (Below.cell hS hbl2).trans q2_0
              have qx1_ := (Below.cell hS hbl2).trans q2_1
              have qx2_ := (Below.cell hS hbl2).trans q2_2
              have qx3_ := (Below.cell hS hbl2).trans q2_3
              have qx4_ := (Below.cell hS hbl2).trans q2_4
              have qx5_ := (Below.cell hS hbl2).trans q2_5
              have qx6_ := (Below.cell hS hbl2).trans q2_6
              have qx7_ := (Below.cell hS hbl2).trans q2_7
              clear e65
              clear hF
              go_simp
              exact hK _ _ (Ext.refl _) rfl
            refine ⟨fun y w' hS hF K hK => ?_, ?_⟩
            · skip -- 6: move
              simp only [fillL, cond_true, cond_false, List.getD_cons_zero, List.getD_cons_succ, StP.is, Act.put, List.setIfInBounds_toArray, List.set_cons_zero, List.set_cons_succ, Nat.reduceAdd] at hK ⊢
              refine rg_yes (by kernel_rfl) ?_
              clear hF
              go_simp
              exact hK _ _ (Ext.refl _) rfl
            refine ⟨fun y w' hS hF K hK => ?_, ?_⟩
            · skip -- 7: call
              have e67 : y 67 = _ := hF.1
              simp only [fillL, cond_true, cond_false, List.getD_cons_zero, List.getD_cons_succ, StP.is, Act.put, List.setIfInBounds_toArray, List.set_cons_zero, List.set_cons_succ, Nat.reduceAdd, e67] at hK ⊢
              refine rg_yes (by kernel_rfl) ?_
              clear e67
              clear hF
              go_simp
              go_at_call 32
              refine (markText_any (z + 1 + 1 + 1 + 1 + 1) _ (by omega)).mono ?_
              rintro e w'' ⟨rfl, hb⟩
              exact hK _ _ hb rfl
            refine ⟨fun y w' hS hF K hK => ?_, ?_⟩
            · skip -- 8: binOp
              have e66 : y 66 = _ := hF.1
              have e68 : y 68 = _ := hF.2.1
              simp only [fillL, cond_true, cond_false, List.getD_cons_zero, List.getD_cons_succ, StP.is, Act.put, List.setIfInBounds_toArray, List.set_cons_zero, List.set_cons_succ, Nat.reduceAdd, e66, e68] at hK ⊢
              refine rg_yes (by kernel_rfl) ?_
              clear e66 e68
              clear hF
              go_simp
              exact hK _ _ (Ext.refl _) rfl
            trivial
          case hend =>
            intro y v3 hX hF
            have e69 : y 69 = _ := hF.2.2.2.2.2.2.2.2.1
            clear hF
            simp only [fillL, cond_true, cond_false, Nat.reduceAdd, e69]
            clear e69
            have q3_0 := (Below.cell hX hbl2).trans q2_0
            have q3_1 := (Below.cell hX hbl2).trans q2_1
            have q3_2 := (Below.cell hX hbl2).trans q2_2
            have q3_3 := (Below.cell hX hbl2).trans q2_3
            have q3_4 := (Below.cell hX hbl2).trans q2_4
            have q3_5 := (Below.cell hX hbl2).trans q2_5
            have q3_6 := (Below.cell hX hbl2).trans q2_6
            have q3_7 := (Below.cell hX hbl2).trans q2_7
            have hbl3 : b < v3.heap.size := Nat.lt_of_lt_of_le hbl2 (Below.size hX)
            have HB3 : Hid (Below w.heap.size w v3) := Lib.hid (Below.trans HB2.out (Below.mono hX (Below.size HB2.out)))
            clear hX q2_0 q2_1 q2_2 q2_3 q2_4 q2_5 q2_6 q2_7 hbl2
            go_wp2_with fail
            apply wp_region_rg (by kernel_rfl) (false :: false :: false :: false :: false :: false :: false :: false :: false :: false :: false :: false :: false :: false :: false :: false :: false :: false :: false :: false :: false :: false :: false :: false :: false :: false :: false :: false :: false :: false :: false :: false :: false :: false :: false :: false :: false :: false :: false :: false :: false :: false :: false :: false :: false :: false :: false :: false :: false :: false :: false :: false :: false :: false :: false :: false :: false :: false :: false :: false :: false :: false :: false :: false :: false :: false :: false :: false :: false :: false :: false :: false :: false :: false :: false :: false :: false :: false :: false :: false :: false :: false :: true :: true :: true :: true :: true :: true :: true :: true :: true :: false :: false :: false :: []) [some 82, some 83, some 84, some 85, some 86, some 87, some 88, some 89, some 90] [[], [], [0, 1], [2], [3], [4], [], [6], [5, 7]] [StP.is _, StP.is _, StP.is _, StP.is _, StP.is _, StP.is _, StP.is _, StP.is _, StP.is _] (by kernel_rfl)
            case hobs =>
              refine ⟨fun y w' hS hF K hK => ?_, ?_⟩
              · skip -- 0: move
                simp only [fillL, cond_true, cond_false, List.getD_cons_zero, List.getD_cons_succ, StP.is, Act.put, List.setIfInBounds_toArray, List.set_cons_zero, List.set_cons_succ, Nat.reduceAdd] at hK ⊢
                refine rg_yes (by kernel_rfl) ?_
                clear hF
                go_simp
                exact hK _ _ (Ext.refl _) rfl
              refine ⟨fun y w' hS hF K hK => ?_, ?_⟩
              · skip -- 1: move
                simp only [fillL, cond_true, cond_false, List.getD_cons_zero, List.getD_cons_succ, StP.is, Act.put, List.setIfInBounds_toArray, List.set_cons_zero, List.set_cons_succ, Nat.reduceAdd] at hK ⊢
                refine rg_yes (by kernel_rfl) ?_
                clear hF
                go_simp
                exact hK _ _ (Ext.refl _) rfl
              refine ⟨fun y w' hS hF K hK => ?_, ?_⟩
              · skip -- 2: indexAddr
                have e82 : y 82 = _ := hF.1
                have e83 : y 83 = _ := hF.2.1
                simp only [fillL, cond_true, cond_false, List.getD_cons_zero, List.getD_cons_succ, StP.is, Act.put, List.setIfInBounds_toArray, List.set_cons_zero, List.set_cons_succ, Nat.reduceAdd, e82, e83] at hK ⊢
                refine rg_yes (by kernel_rfl) ?_
                clear e82 e83
                clear hF
                go_simp
                exact hK _ _ (Ext.refl _) rfl
              refine ⟨fun y w' hS hF K hK => ?_, ?_⟩
              · skip -- 3: fieldAddr
                have e84 : y 84 = _ := hF.1
                simp only [fillL, cond_true, cond_false, List.getD_cons_zero, List.getD_cons_succ, StP.is, Act.put, List.setIfInBounds_toArray, List.set_cons_zero, List.set_cons_succ, Nat.reduceAdd, e84] at hK ⊢
                refine rg_yes (by kernel_rfl) ?_
                clear e84
                clear hF
                go_simp
                exact hK _ _ (Ext.refl _) rfl
              refine ⟨fun y w' hS hF K hK => ?_, ?_⟩
              · skip -- 4: fieldAddr
                have e85 : y 85 = _ := hF.1
                simp only [fillL, cond_true, cond_false, List.getD_cons_zero, List.getD_cons_succ, StP.is, Act.put, List.setIfInBounds_toArray, List.set_cons_zero, List.set_cons_succ, Nat.reduceAdd, e85] at hK ⊢
                refine rg_yes (by kernel_rfl) ?_
                clear e85
                clear hF
                go_simp
                exact hK _ _ (Ext.refl _) rfl
              refine ⟨fun y w' hS hF K hK => ?_, ?_⟩
              · skip -- 5: load
                have e86 : y 86 = _ := hF.1
                simp only [fillL, cond_true, cond_false, List.getD_cons_zero, List.getD_cons_succ, StP.is, Act.put, List.setIfInBounds_toArray, List.set_cons_zero, List.set_cons_succ, Nat.reduceAdd, e86] at hK ⊢
                refine rg_yes (by kernel_rfl) ?_
                have qx0_ := (Below.cell hS hbl3).trans q3_0
                have qx1_ := (Below.cell hS hbl3).trans q3_1
                have qx2_ := (Below.cell hS hbl3).trans q3_2
                have qx3_ := (Below.cell hS hbl3).trans q3_3
                have qx4_ := (Below.cell hS hbl3).trans q3_4
                have qx5_ := (Below.cell hS hbl3).trans q3_5
                have qx6_ := (Below.cell hS hbl3).trans q3_6
                have qx7_ := (Below.cell hS hbl3).trans q3_7
                clear e86
                clear hF
                go_simp
                exact hK _ _ (Ext.refl _) rfl
              refine ⟨fun y w' hS hF K hK => ?_, ?_⟩
              · skip -- 6: move
                simp only [fillL, cond_true, cond_false, List.getD_cons_zero, List.getD_cons_succ, StP.is, Act.put, List.setIfInBounds_toArray, List.set_cons_zero, List.set_cons_succ, Nat.reduceAdd] at hK ⊢
                refine rg_yes (by kernel_rfl) ?_
                clear hF
                go_simp
                exact hK _ _ (Ext.refl _) rfl
              refine ⟨fun y w' hS hF K hK => ?_, ?_⟩
              · skip -- 7: call
                have e88 : y 88 = _ := hF.1
                simp only [fillL, cond_true, cond_false, List.getD_cons_zero, List.getD_cons_succ, StP.is, Act.put, List.setIfInBounds_toArray, List.set_cons_zero, List.set_cons_succ, Nat.reduceAdd, e88] at hK ⊢
                refine rg_yes (by kernel_rfl) ?_
                clear e88
                clear hF
                go_simp
                go_at_call 32
                refine (markText_any (z + 1 + 1 + 1 + 1 + 1 + 1 + 1) _ (by omega)).mono ?_
                rintro e w'' ⟨rfl, hb⟩
                exact hK _ _ hb rfl
              refine ⟨fun y w' hS hF K hK => ?_, ?_⟩
              · skip -- 8: binOp
                have e87 : y 87 = _ := hF.1
                have e89 : y 89 = _ := hF.2.1
                simp only [fillL, cond_true, cond_false, List.getD_cons_zero, List.getD_cons_succ, StP.is, Act.put, List.setIfInBounds_toArray, List.set_cons_zero, List.set_cons_succ, Nat.reduceAdd, e87, e89] at hK ⊢
                refine rg_yes (by kernel_rfl) ?_
                clear e87 e89
                clear hF
                go_simp
                exact hK _ _ (Ext.refl _) rfl
              trivial
            case hend =>
              intro y v4 hX hF
              have e90 : y 90 = _ := hF.2.2.2.2.2.2.2.2.1
              clear hF
              simp only [fillL, cond_true, cond_false, Nat.reduceAdd, e90]
              clear e90
              have q4_0 := (Below.cell hX hbl3).trans q3_0
              have q4_1 := (Below.cell hX hbl3).trans q3_1
              have q4_2 := (Below.cell hX hbl3).trans q3_2
              have q4_3 := (Below.cell hX hbl3).trans q3_3
              have q4_4 := (Below.cell hX hbl3).trans q3_4
              have q4_5 := (Below.cell hX hbl3).trans q3_5
              have q4_6 := (Below.cell hX hbl3).trans q3_6
              have q4_7 := (Below.cell hX hbl3).trans q3_7
              have hbl4 : b < v4.heap.size := Nat.lt_of_lt_of_le hbl3 (Below.size hX)
              have HB4 : Hid (Below w.heap.size w v4) := Lib.hid (Below.trans HB3.out (Below.mono hX (Below.size HB3.out)))
              clear hX q3_0 q3_1 q3_2 q3_3 q3_4 q3_5 q3_6 q3_7 hbl3
              go_wp2_with fail
              go_roundw
              case rel => exact ⟨j + 1, z + 1 + 1 + 1 + 1 + 1 + 1 + 1 + 1, by omega, by go_num, by first | rfl | (congr 1; omega), by omega, by omega, Lib.hid (by have := HZ.out; push_cast; omega), HB4⟩
              case measure => simp [intOf]; omega
    · obtain rfl : j = n := by omega
      go_wp2_with fail
      go_ret
      exact ⟨ret_int HZ.out, HB.out⟩

end Go.Proofs.YtggdjiklgakfnaaGreatDoor
