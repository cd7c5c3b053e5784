/- eq, mark and held at slices of roots. Condition: the marks are below 2^40. -/
import Derived.Test.YtcfgbeajdkbbcaaGreatDoorFamRootEq
import Derived.Test.YtcfgbeajdkbbcaaGreatDoorMarkText
import Derived.Test.YtcfgbeajdkbbcaaGreatDoorChecked
namespace Go.Proofs.YtcfgbeajdkbbcaaGreatDoor
set_option linter.unusedVariables false
set_option linter.unusedSimpArgs false
set_option linter.unnecessarySimpa false
open Go.RowKit

set_option maxRecDepth 100000 in
set_option maxHeartbeats 2000000 in
theorem eqRootS_yes (A B : Option Addr) (n c m d : Nat) (xs : List RootD) (w : World) (lo hi lo' hi' : Nat) (h : SliceR RootR 8 w lo hi A n c xs) (h' : SliceR RootR 8 w lo' hi' B m d xs) :
    Calls Tryz.prog 17 #[.slice A n c, .slice B m d] w fun e w' => e = .returned (.bool true) ∧ Below w.heap.size w w' := by
  obtain rfl : m = n := by have := h.len; have := h'.len; omega
  have hn := h.max
  have hl := Lib.hid h.len
  have H := Lib.hid h
  have H' := Lib.hid h'
  clear h h'
  go_enter Tryz.func17, Tryz.ntmps17
  go_wp2_with fail
  go_loopw [5] (fun i wr => ∃ k : Nat, k ≤ m ∧ i = .int .i64 k ∧ Below w.heap.size w wr) (fun i _ => m - (intOf i).toNat)
  case atStart => exact ⟨0, Nat.zero_le _, rfl, Below.refl _ _⟩
  case round =>
    obtain ⟨k, hk, rfl, hB⟩ := hrel
    by_cases hlt : k < m
    · obtain ⟨x, hx⟩ : ∃ x, xs[k]? = some x := ⟨xs[k]'(by rw [hl.out]; exact hlt), List.getElem?_eq_getElem _⟩
      have g := SliceR.below H.out hB (RootR.below hB H.out.lo_le)
      have g' := SliceR.below H'.out hB (RootR.below hB H'.out.lo_le)
      obtain ⟨b, off, rfl, _, _, bl, hc⟩ := g.at_ (by omega)
      obtain ⟨b', off', rfl, _, _, bl', hc'⟩ := g'.at_ (by omega)
      obtain ⟨cs, hcl, hcc, hr⟩ := hc k x hx
      obtain ⟨cs', hcl', hcc', hr'⟩ := hc' k x hx
      clear hc hc' hx g g'
      have G := Lib.hid hr
      have G' := Lib.hid hr'
      obtain ⟨v0, v1, v2, v3, v4, v5, v6, v7, rfl⟩ := list8 hcl
      obtain ⟨u0, u1, u2, u3, u4, u5, u6, u7, rfl⟩ := list8 hcl'
      have q0 := hcc 0 _ rfl
      have r0 := hcc' 0 _ rfl
      have q1 := hcc 1 _ rfl
      have r1 := hcc' 1 _ rfl
      have q2 := hcc 2 _ rfl
      have r2 := hcc' 2 _ rfl
      have q3 := hcc 3 _ rfl
      have r3 := hcc' 3 _ rfl
      have q4 := hcc 4 _ rfl
      have r4 := hcc' 4 _ rfl
      have q5 := hcc 5 _ rfl
      have r5 := hcc' 5 _ rfl
      have q6 := hcc 6 _ rfl
      have r6 := hcc' 6 _ rfl
      have q7 := hcc 7 _ rfl
      have r7 := hcc' 7 _ rfl
      simp only [Nat.add_zero] at q0 r0
      clear hcc hcc' hcl hcl' hr hr'
      have hhi := H.out.lo_le
      have hhi' := H'.out.lo_le
      have hi1 : hi ≤ wr.heap.size := Nat.le_trans hhi hB.size
      have hi2 : hi' ≤ wr.heap.size := Nat.le_trans hhi' hB.size
      clear hhi hhi'
      have k0 : (0 : Int) ≤ (k : Int) := by omega
      have k1 : (k : Int) < (m : Int) := by omega
      go_wp2_with fail
      apply wp_region_rg (by kernel_rfl) (false :: false :: false :: false :: false :: false :: false :: false :: false :: false :: false :: false :: false :: false :: false :: false :: false :: true :: true :: true :: true :: true :: true :: true :: true :: true :: true :: []) [some 17, some 18, some 19, some 20, some 21, some 22, some 23, some 24, some 25, some 26] [[], [], [0, 1], [2], [], [], [4, 5], [6], [3, 7], [8]] [StP.is _, StP.is _, StP.is _, StP.is _, StP.is _, StP.is _, StP.is _, StP.is _, StP.is _, StP.is _] (by kernel_rfl)
      case hobs =>
        refine ⟨fun y w' hS hF K hK => ?_, ?_⟩
        · skip -- 0: move
          simp only [fillL, cond_true, cond_false, List.getD_cons_zero, List.getD_cons_succ, StP.is, Act.put, List.setIfInBounds_toArray, List.set_cons_zero, List.set_cons_succ, Nat.reduceAdd] at hK ⊢
          refine rg_yes (by kernel_rfl) ?_
          clear hF
          go_simp
          exact hK _ _ (Ext.refl _) rfl
        refine ⟨fun y w' hS hF K hK => ?_, ?_⟩
        · skip -- 1: move
          simp only [fillL, cond_true, cond_false, List.getD_cons_zero, List.getD_cons_succ, StP.is, Act.put, List.setIfInBounds_toArray, List.set_cons_zero, List.set_cons_succ, Nat.reduceAdd] at hK ⊢
          refine rg_yes (by kernel_rfl) ?_
          clear hF
          go_simp
          exact hK _ _ (Ext.refl _) rfl
        refine ⟨fun y w' hS hF K hK => ?_, ?_⟩
        · skip -- 2: indexAddr
          have e17 : y 17 = _ := hF.1
          have e18 : y 18 = _ := hF.2.1
          simp only [fillL, cond_true, cond_false, List.getD_cons_zero, List.getD_cons_succ, StP.is, Act.put, List.setIfInBounds_toArray, List.set_cons_zero, List.set_cons_succ, Nat.reduceAdd, e17, e18] at hK ⊢
          refine rg_yes (by kernel_rfl) ?_
          clear e17 e18
          clear hF
          go_simp
          exact hK _ _ (Ext.refl _) rfl
        refine ⟨fun y w' hS hF K hK => ?_, ?_⟩
        · skip -- 3: load
          have e19 : y 19 = _ := hF.1
          simp only [fillL, cond_true, cond_false, List.getD_cons_zero, List.getD_cons_succ, StP.is, Act.put, List.setIfInBounds_toArray, List.set_cons_zero, List.set_cons_succ, Nat.reduceAdd, e19] at hK ⊢
          refine rg_yes (by kernel_rfl) ?_
          have qx0_ := (Below.cell hS bl).trans q0
          have qx1_ := (Below.cell hS bl).trans q1
          have qx2_ := (Below.cell hS bl).trans q2
          have qx3_ := (Below.cell hS bl).trans q3
          have qx4_ := (Below.cell hS bl).trans q4
          have qx5_ := (Below.cell hS bl).trans q5
          have qx6_ := (Below.cell hS bl).trans q6
          have qx7_ := (Below.cell hS bl).trans q7
          have qx8_ := (Below.cell hS bl').trans r0
          have qx9_ := (Below.cell hS bl').trans r1
          have qx10_ := (Below.cell hS bl').trans r2
          have qx11_ := (Below.cell hS bl').trans r3
          have qx12_ := (Below.cell hS bl').trans r4
          have qx13_ := (Below.cell hS bl').trans r5
          have qx14_ := (Below.cell hS bl').trans r6
          have qx15_ := (Below.cell hS bl').trans r7
          clear e19
          clear hF
          go_simp
          exact hK _ _ (Ext.refl _) rfl
        refine ⟨fun y w' hS hF K hK => ?_, ?_⟩
        · skip -- 4: move
          simp only [fillL, cond_true, cond_false, List.getD_cons_zero, List.getD_cons_succ, StP.is, Act.put, List.setIfInBounds_toArray, List.set_cons_zero, List.set_cons_succ, Nat.reduceAdd] at hK ⊢
          refine rg_yes (by kernel_rfl) ?_
          clear hF
          go_simp
          exact hK _ _ (Ext.refl _) rfl
        refine ⟨fun y w' hS hF K hK => ?_, ?_⟩
        · skip -- 5: move
          simp only [fillL, cond_true, cond_false, List.getD_cons_zero, List.getD_cons_succ, StP.is, Act.put, List.setIfInBounds_toArray, List.set_cons_zero, List.set_cons_succ, Nat.reduceAdd] at hK ⊢
          refine rg_yes (by kernel_rfl) ?_
          clear hF
          go_simp
          exact hK _ _ (Ext.refl _) rfl
        refine ⟨fun y w' hS hF K hK => ?_, ?_⟩
        · skip -- 6: indexAddr
          have e21 : y 21 = _ := hF.1
          have e22 : y 22 = _ := hF.2.1
          simp only [fillL, cond_true, cond_false, List.getD_cons_zero, List.getD_cons_succ, StP.is, Act.put, List.setIfInBounds_toArray, List.set_cons_zero, List.set_cons_succ, Nat.reduceAdd, e21, e22] at hK ⊢
          refine rg_yes (by kernel_rfl) ?_
          clear e21 e22
          clear hF
          go_simp
          exact hK _ _ (Ext.refl _) rfl
        refine ⟨fun y w' hS hF K hK => ?_, ?_⟩
        · skip -- 7: load
          have e23 : y 23 = _ := hF.1
          simp only [fillL, cond_true, cond_false, List.getD_cons_zero, List.getD_cons_succ, StP.is, Act.put, List.setIfInBounds_toArray, List.set_cons_zero, List.set_cons_succ, Nat.reduceAdd, e23] at hK ⊢
          refine rg_yes (by kernel_rfl) ?_
          have qx0_ := (Below.cell hS bl).trans q0
          have qx1_ := (Below.cell hS bl).trans q1
          have qx2_ := (Below.cell hS bl).trans q2
          have qx3_ := (Below.cell hS bl).trans q3
          have qx4_ := (Below.cell hS bl).trans q4
          have qx5_ := (Below.cell hS bl).trans q5
          have qx6_ := (Below.cell hS bl).trans q6
          have qx7_ := (Below.cell hS bl).trans q7
          have qx8_ := (Below.cell hS bl').trans r0
          have qx9_ := (Below.cell hS bl').trans r1
          have qx10_ := (Below.cell hS bl').trans r2
          have qx11_ := (Below.cell hS bl').trans r3
          have qx12_ := (Below.cell hS bl').trans r4
          have qx13_ := (Below.cell hS bl').trans r5
          have qx14_ := (Below.cell hS bl').trans r6
          have qx15_ := (Below.cell hS bl').trans r7
          clear e23
          clear hF
          go_simp
          exact hK _ _ (Ext.refl _) rfl
        refine ⟨fun y w' hS hF K hK => ?_, ?_⟩
        · skip -- 8: call
          have e20 : y 20 = _ := hF.1
          have e24 : y 24 = _ := hF.2.1
          simp only [fillL, cond_true, cond_false, List.getD_cons_zero, List.getD_cons_succ, StP.is, Act.put, List.setIfInBounds_toArray, List.set_cons_zero, List.set_cons_succ, Nat.reduceAdd, e20, e24] at hK ⊢
          refine rg_yes (by kernel_rfl) ?_
          clear e20 e24
          clear hF
          go_simp
          go_at_call 11
          refine (eqRoot_yes _ _ x _ _ _ _ _ (RootR.below hS hi1 _ _ G.out) (RootR.below hS hi2 _ _ G'.out)).mono ?_
          rintro e w'' ⟨rfl, hb⟩
          exact hK _ _ hb rfl
        refine ⟨fun y w' hS hF K hK => ?_, ?_⟩
        · skip -- 9: unOp
          have e25 : y 25 = _ := hF.1
          simp only [fillL, cond_true, cond_false, List.getD_cons_zero, List.getD_cons_succ, StP.is, Act.put, List.setIfInBounds_toArray, List.set_cons_zero, List.set_cons_succ, Nat.reduceAdd, e25] at hK ⊢
          refine rg_yes (by kernel_rfl) ?_
          clear e25
          clear hF
          go_simp
          exact hK _ _ (Ext.refl _) rfl
        trivial
      case hend =>
        intro y w2 hX hF
        have e26 : y 26 = _ := hF.2.2.2.2.2.2.2.2.2.1
        clear hF
        simp only [fillL, cond_true, cond_false, Nat.reduceAdd, e26]
        clear e26
        have hB2 : Below w.heap.size w w2 := hB.trans (Below.mono hX hB.size)
        clear hX hB
        go_wp2_with fail
        go_roundw
        case rel => exact ⟨k + 1, by omega, by go_num, hB2⟩
        case measure => simp [intOf]; omega
    · go_wp2_with fail
      go_ret
      exact ⟨rfl, hB⟩

def KRootS : List Value := [.int .i64 0, .int .i64 0, .int .i64 0, .int .i64 0, .int .i64 0, .int .i64 0, .int .i64 0, .int .i64 0]
set_option maxRecDepth 100000 in
set_option maxHeartbeats 4000000 in
theorem markRootS_any (A : Option Addr) (n c : Nat) (k : Int) (w : World) (lo hi : Nat) (h : Whole w 31 8 lo hi A n c) (h0 : 0 ≤ k) (h1 : k + n * 8 ≤ 1099511627776) :
    Calls Tryz.prog 19 #[.slice A n c, .int .i64 k] w fun e w' => e = .returned (.int .i64 (k + n * 8)) ∧ MarkedAt w' KRootS k A (n * 8) ∧ Whole w' 31 8 lo hi A n c ∧ Chg (fun b => 0 < n ∧ blkOf A b) w w' := by
  by_cases hn0 : n = 0
  · subst hn0
    go_enter Tryz.func19, Tryz.ntmps19
    go_wp2_with fail
    go_loop [1, 5] (fun kk i => kk = .int .i64 k ∧ i = .int .i64 ((0 : Nat) : Int)) (fun _ _ => 0)
    case atStart => exact ⟨rfl, rfl⟩
    case round =>
      obtain ⟨rfl, rfl⟩ := hrel
      go_wp2_with fail
      go_ret
      exact ⟨ret_int (by simp), fun h => absurd h (by simp), h, Chg.refl _ _⟩
  · obtain ⟨g, cur, rfl, hlo, hhi, hg, hcs, hnc⟩ : ∃ g cur, A = some ⟨g, 0, none⟩ ∧ lo ≤ g ∧ g < hi ∧ w.heap[g]? = some (.cells cur 31 (0, 0)) ∧ cur.size = c * 8 ∧ n ≤ c ∧ c ≤ maxLen := h.resolve_left (fun h => hn0 h.1)
    have hnp : 0 < n := Nat.pos_of_ne_zero hn0
    clear h hn0
    have hgl : g < w.heap.size := (Array.getElem?_eq_some_iff.1 hg).1
    have hn : n ≤ 1099511627776 := by omega
    have HG0 := Lib.hid hg; have HC0 := Lib.hid hcs; clear hg hcs
    go_enter Tryz.func19, Tryz.ntmps19
    go_wp2_with fail
    go_loopw [1, 5] (fun kk i wr => ∃ (j : Nat) (z : Int) (cu : Array Value), j ≤ n ∧ i = .int .i64 j ∧ kk = .int .i64 z ∧ 0 ≤ z ∧ z ≤ 1099511627776 ∧ Hid (z = k + (j : Int) * 8) ∧ Hid (wr.heap[g]? = some (.cells cu 31 (0, 0))) ∧ Hid (cu.size = c * 8) ∧ Hid (HasMarks KRootS k (j * 8) cu) ∧ Hid (Chg (blkOf (some ⟨g, 0, none⟩)) w wr)) (fun _ i _ => n - (intOf i).toNat)
    case atStart => exact ⟨0, k, cur, Nat.zero_le _, rfl, rfl, h0, by omega, Lib.hid (by simp), HG0, HC0, Lib.hid (by first | exact HasMarks.zero _ _ _ | (rw [Nat.zero_mul]; exact HasMarks.zero _ _ _)), Lib.hid (Chg.refl _ _)⟩
    case round =>
      clear HG0 HC0
      obtain ⟨j, z, cu, hj, rfl, rfl, z0, z1, HZ, HG, HC, HM, HX⟩ := hrel
      by_cases hlt : j < n
      · have hgr : g < wr.heap.size := (Array.getElem?_eq_some_iff.1 HG.out).1
        have hzb : z + 8 ≤ 1099511627776 := by have := HZ.out; omega
        have hju : j * 8 + 8 ≤ cu.size := by rw [HC.out]; omega
        have j0 : (0 : Int) ≤ (j : Int) := by omega
        have j1 : (j : Int) < (n : Int) := by omega
        have t0_0 : wr.cell? ⟨g, j * 8, none⟩ = some _ := block_cell HG.out (by omega)
        generalize cu[j * 8]'_ = y0_0 at t0_0
        have f0_0 : wr.frozen? ⟨g, j * 8, none⟩ = false := block_free HG.out _
        have t0_1 : wr.cell? ⟨g, j * 8 + 1, none⟩ = some _ := block_cell HG.out (by omega)
        generalize cu[j * 8 + 1]'_ = y0_1 at t0_1
        have f0_1 : wr.frozen? ⟨g, j * 8 + 1, none⟩ = false := block_free HG.out _
        have t0_2 : wr.cell? ⟨g, j * 8 + 2, none⟩ = some _ := block_cell HG.out (by omega)
        generalize cu[j * 8 + 2]'_ = y0_2 at t0_2
        have f0_2 : wr.frozen? ⟨g, j * 8 + 2, none⟩ = false := block_free HG.out _
        have t0_3 : wr.cell? ⟨g, j * 8 + 3, none⟩ = some _ := block_cell HG.out (by omega)
        generalize cu[j * 8 + 3]'_ = y0_3 at t0_3
        have f0_3 : wr.frozen? ⟨g, j * 8 + 3, none⟩ = false := block_free HG.out _
        have t0_4 : wr.cell? ⟨g, j * 8 + 4, none⟩ = some _ := block_cell HG.out (by omega)
        generalize cu[j * 8 + 4]'_ = y0_4 at t0_4
        have f0_4 : wr.frozen? ⟨g, j * 8 + 4, none⟩ = false := block_free HG.out _
        have t0_5 : wr.cell? ⟨g, j * 8 + 5, none⟩ = some _ := block_cell HG.out (by omega)
        generalize cu[j * 8 + 5]'_ = y0_5 at t0_5
        have f0_5 : wr.frozen? ⟨g, j * 8 + 5, none⟩ = false := block_free HG.out _
        have t0_6 : wr.cell? ⟨g, j * 8 + 6, none⟩ = some _ := block_cell HG.out (by omega)
        generalize cu[j * 8 + 6]'_ = y0_6 at t0_6
        have f0_6 : wr.frozen? ⟨g, j * 8 + 6, none⟩ = false := block_free HG.out _
        have t0_7 : wr.cell? ⟨g, j * 8 + 7, none⟩ = some _ := block_cell HG.out (by omega)
        generalize cu[j * 8 + 7]'_ = y0_7 at t0_7
        have f0_7 : wr.frozen? ⟨g, j * 8 + 7, none⟩ = false := block_free HG.out _
        go_wp2_with fail
        go_roundw
        case rel =>
          have m0 := HM.out
          have kv0 : .int .i64 (z) = mkv (k + ((j * 8 : Nat) : Int)) (KRootS.getD ((j * 8) % KRootS.length) undef) := by
            have e1 : (j * 8) % KRootS.length = 0 := by show (j * 8) % 8 = 0; omega
            have e2 : k + ((j * 8 : Nat) : Int) = z := by have := HZ.out; push_cast; omega
            rw [e1, e2]; rfl
          have m1 := HasMarks.step m0 (by have := HC.out; (try simp only [Array.size_setIfInBounds]); omega) kv0
          have kv1 : .int .i64 (z + 1) = mkv (k + ((j * 8 + 1 : Nat) : Int)) (KRootS.getD ((j * 8 + 1) % KRootS.length) undef) := by
            have e1 : (j * 8 + 1) % KRootS.length = 1 := by show (j * 8 + 1) % 8 = 1; omega
            have e2 : k + ((j * 8 + 1 : Nat) : Int) = z + 1 := by have := HZ.out; push_cast; omega
            rw [e1, e2]; rfl
          have m2 := HasMarks.step m1 (by have := HC.out; (try simp only [Array.size_setIfInBounds]); omega) kv1
          have kv2 : .int .i64 (z + 1 + 1) = mkv (k + ((j * 8 + 2 : Nat) : Int)) (KRootS.getD ((j * 8 + 2) % KRootS.length) undef) := by
            have e1 : (j * 8 + 2) % KRootS.length = 2 := by show (j * 8 + 2) % 8 = 2; omega
            have e2 : k + ((j * 8 + 2 : Nat) : Int) = z + 1 + 1 := by have := HZ.out; push_cast; omega
            rw [e1, e2]; rfl
          have m3 := HasMarks.step m2 (by have := HC.out; (try simp only [Array.size_setIfInBounds]); omega) kv2
          have kv3 : .int .i64 (z + 1 + 1 + 1) = mkv (k + ((j * 8 + 3 : Nat) : Int)) (KRootS.getD ((j * 8 + 3) % KRootS.length) undef) := by
            have e1 : (j * 8 + 3) % KRootS.length = 3 := by show (j * 8 + 3) % 8 = 3; omega
            have e2 : k + ((j * 8 + 3 : Nat) : Int) = z + 1 + 1 + 1 := by have := HZ.out; push_cast; omega
            rw [e1, e2]; rfl
          have m4 := HasMarks.step m3 (by have := HC.out; (try simp only [Array.size_setIfInBounds]); omega) kv3
          have kv4 : .int .i64 (z + 1 + 1 + 1 + 1) = mkv (k + ((j * 8 + 4 : Nat) : Int)) (KRootS.getD ((j * 8 + 4) % KRootS.length) undef) := by
            have e1 : (j * 8 + 4) % KRootS.length = 4 := by show (j * 8 + 4) % 8 = 4; omega
            have e2 : k + ((j * 8 + 4 : Nat) : Int) = z + 1 + 1 + 1 + 1 := by have := HZ.out; push_cast; omega
            rw [e1, e2]; rfl
          have m5 := HasMarks.step m4 (by have := HC.out; (try simp only [Array.size_setIfInBounds]); omega) kv4
          have kv5 : .int .i64 (z + 1 + 1 + 1 + 1 + 1) = mkv (k + ((j * 8 + 5 : Nat) : Int)) (KRootS.getD ((j * 8 + 5) % KRootS.length) undef) := by
            have e1 : (j * 8 + 5) % KRootS.length = 5 := by show (j * 8 + 5) % 8 = 5; omega
            have e2 : k + ((j * 8 + 5 : Nat) : Int) = z + 1 + 1 + 1 + 1 + 1 := by have := HZ.out; push_cast; omega
            rw [e1, e2]; rfl
          have m6 := HasMarks.step m5 (by have := HC.out; (try simp only [Array.size_setIfInBounds]); omega) kv5
          have kv6 : .int .i64 (z + 1 + 1 + 1 + 1 + 1 + 1) = mkv (k + ((j * 8 + 6 : Nat) : Int)) (KRootS.getD ((j * 8 + 6) % KRootS.length) undef) := by
            have e1 : (j * 8 + 6) % KRootS.length = 6 := by show (j * 8 + 6) % 8 = 6; omega
            have e2 : k + ((j * 8 + 6 : Nat) : Int) = z + 1 + 1 + 1 + 1 + 1 + 1 := by have := HZ.out; push_cast; omega
            rw [e1, e2]; rfl
          have m7 := HasMarks.step m6 (by have := HC.out; (try simp only [Array.size_setIfInBounds]); omega) kv6
          have kv7 : .int .i64 (z + 1 + 1 + 1 + 1 + 1 + 1 + 1) = mkv (k + ((j * 8 + 7 : Nat) : Int)) (KRootS.getD ((j * 8 + 7) % KRootS.length) undef) := by
            have e1 : (j * 8 + 7) % KRootS.length = 7 := by show (j * 8 + 7) % 8 = 7; omega
            have e2 : k + ((j * 8 + 7 : Nat) : Int) = z + 1 + 1 + 1 + 1 + 1 + 1 + 1 := by have := HZ.out; push_cast; omega
            rw [e1, e2]; rfl
          have m8 := HasMarks.step m7 (by have := HC.out; (try simp only [Array.size_setIfInBounds]); omega) kv7
          refine ⟨j + 1, z + 1 + 1 + 1 + 1 + 1 + 1 + 1 + 1, (Array.setIfInBounds (Array.setIfInBounds (Array.setIfInBounds (Array.setIfInBounds (Array.setIfInBounds (Array.setIfInBounds (Array.setIfInBounds (Array.setIfInBounds cu (j * 8) (.int .i64 (z))) (j * 8 + 1) (.int .i64 (z + 1))) (j * 8 + 2) (.int .i64 (z + 1 + 1))) (j * 8 + 3) (.int .i64 (z + 1 + 1 + 1))) (j * 8 + 4) (.int .i64 (z + 1 + 1 + 1 + 1))) (j * 8 + 5) (.int .i64 (z + 1 + 1 + 1 + 1 + 1))) (j * 8 + 6) (.int .i64 (z + 1 + 1 + 1 + 1 + 1 + 1))) (j * 8 + 7) (.int .i64 (z + 1 + 1 + 1 + 1 + 1 + 1 + 1))), by omega, by go_num, by first | rfl | (congr 1; omega), by omega, by omega, Lib.hid (by have := HZ.out; push_cast; omega), Lib.hid (block_set (block_set (block_set (block_set (block_set (block_set (block_set (block_set HG.out)))))))), Lib.hid (by simpa using HC.out), Lib.hid ?_, Lib.hid (Chg.setCell (p := ⟨g, _, none⟩) (Chg.setCell (p := ⟨g, _, none⟩) (Chg.setCell (p := ⟨g, _, none⟩) (Chg.setCell (p := ⟨g, _, none⟩) (Chg.setCell (p := ⟨g, _, none⟩) (Chg.setCell (p := ⟨g, _, none⟩) (Chg.setCell (p := ⟨g, _, none⟩) (Chg.setCell (p := ⟨g, _, none⟩) HX.out (.inl ⟨0, rfl⟩) _) (.inl ⟨0, rfl⟩) _) (.inl ⟨0, rfl⟩) _) (.inl ⟨0, rfl⟩) _) (.inl ⟨0, rfl⟩) _) (.inl ⟨0, rfl⟩) _) (.inl ⟨0, rfl⟩) _) (.inl ⟨0, rfl⟩) _)⟩
          rw [show (j + 1) * 8 = j * 8 + 1 + 1 + 1 + 1 + 1 + 1 + 1 + 1 by omega]; exact m8
        case measure => simp [intOf]; omega
      · obtain rfl : j = n := by omega
        go_wp2_with fail
        go_ret
        exact ⟨ret_int HZ.out, HM.out.at_ HG.out, .inr ⟨g, cu, rfl, hlo, hhi, HG.out, HC.out, hnc⟩, HX.out.mono fun b _ h => ⟨hnp, h⟩⟩

set_option maxRecDepth 100000 in
set_option maxHeartbeats 4000000 in
theorem heldRootS_any (A : Option Addr) (n c : Nat) (k : Int) (w : World) (h : MarkedAt w KRootS k A (n * 8)) (h0 : 0 ≤ k) (h1 : k + n * 8 ≤ 1099511627776) :
    Calls Tryz.prog 20 #[.slice A n c, .int .i64 k] w fun e w' => e = .returned (.int .i64 (k + n * 8)) ∧ Below w.heap.size w w' := by
  have hn : n ≤ 1099511627776 := by omega
  have H := Lib.hid h; clear h
  go_enter Tryz.func20, Tryz.ntmps20
  go_wp2_with fail
  go_loopw [1, 5] (fun kk i wr => ∃ (j : Nat) (z : Int), j ≤ n ∧ i = .int .i64 j ∧ kk = .int .i64 z ∧ 0 ≤ z ∧ z ≤ 1099511627776 ∧ Hid (z = k + (j : Int) * 8) ∧ Hid (Below w.heap.size w wr)) (fun _ i _ => n - (intOf i).toNat)
  case atStart => exact ⟨0, k, Nat.zero_le _, rfl, rfl, h0, by omega, Lib.hid (by simp), Lib.hid (Below.refl _ _)⟩
  case round =>
    obtain ⟨j, z, hj, rfl, rfl, z0, z1, HZ, HB⟩ := hrel
    by_cases hlt : j < n
    · obtain ⟨b, off, rfl, hbl, hc⟩ := (H.out.below HB.out) (by omega)
      have hzb : z + 8 ≤ 1099511627776 := by have := HZ.out; omega
      have q0_0 : wr.cell? ⟨b, off + j * 8, none⟩ = some (.int .i64 (z)) := by
        have hq := hc (j * 8) (by omega)
        rw [show (j * 8) % KRootS.length = 0 by show (j * 8) % 8 = 0; omega] at hq
        have hz := HZ.out
        rw [show k + ((j * 8 : Nat) : Int) = z by push_cast; omega] at hq
        simpa [KRootS, mkv, Nat.add_assoc] using hq
      have q0_1 : wr.cell? ⟨b, off + j * 8 + 1, none⟩ = some (.int .i64 (z + 1)) := by
        have hq := hc (j * 8 + 1) (by omega)
        rw [show (j * 8 + 1) % KRootS.length = 1 by show (j * 8 + 1) % 8 = 1; omega] at hq
        have hz := HZ.out
        rw [show k + ((j * 8 + 1 : Nat) : Int) = z + 1 by push_cast; omega] at hq
        simpa [KRootS, mkv, Nat.add_assoc] using hq
      have q0_2 : wr.cell? ⟨b, off + j * 8 + 2, none⟩ = some (.int .i64 (z + 1 + 1)) := by
        have hq := hc (j * 8 + 2) (by omega)
        rw [show (j * 8 + 2) % KRootS.length = 2 by show (j * 8 + 2) % 8 = 2; omega] at hq
        have hz := HZ.out
        rw [show k + ((j * 8 + 2 : Nat) : Int) = z + 1 + 1 by push_cast; omega] at hq
        simpa [KRootS, mkv, Nat.add_assoc] using hq
      have q0_3 : wr.cell? ⟨b, off + j * 8 + 3, none⟩ = some (.int .i64 (z + 1 + 1 + 1)) := by
        have hq := hc (j * 8 + 3) (by omega)
        rw [show (j * 8 + 3) % KRootS.length = 3 by show (j * 8 + 3) % 8 = 3; omega] at hq
        have hz := HZ.out
        rw [show k + ((j * 8 + 3 : Nat) : Int) = z + 1 + 1 + 1 by push_cast; omega] at hq
        simpa [KRootS, mkv, Nat.add_assoc] using hq
      have q0_4 : wr.cell? ⟨b, off + j * 8 + 4, none⟩ = some (.int .i64 (z + 1 + 1 + 1 + 1)) := by
        have hq := hc (j * 8 + 4) (by omega)
        rw [show (j * 8 + 4) % KRootS.length = 4 by show (j * 8 + 4) % 8 = 4; omega] at hq
        have hz := HZ.out
        rw [show k + ((j * 8 + 4 : Nat) : Int) = z + 1 + 1 + 1 + 1 by push_cast; omega] at hq
        simpa [KRootS, mkv, Nat.add_assoc] using hq
      have q0_5 : wr.cell? ⟨b, off + j * 8 + 5, none⟩ = some (.int .i64 (z + 1 + 1 + 1 + 1 + 1)) := by
        have hq := hc (j * 8 + 5) (by omega)
        rw [show (j * 8 + 5) % KRootS.length = 5 by show (j * 8 + 5) % 8 = 5; omega] at hq
        have hz := HZ.out
        rw [show k + ((j * 8 + 5 : Nat) : Int) = z + 1 + 1 + 1 + 1 + 1 by push_cast; omega] at hq
        simpa [KRootS, mkv, Nat.add_assoc] using hq
      have q0_6 : wr.cell? ⟨b, off + j * 8 + 6, none⟩ = some (.int .i64 (z + 1 + 1 + 1 + 1 + 1 + 1)) := by
        have hq := hc (j * 8 + 6) (by omega)
        rw [show (j * 8 + 6) % KRootS.length = 6 by show (j * 8 + 6) % 8 = 6; omega] at hq
        have hz := HZ.out
        rw [show k + ((j * 8 + 6 : Nat) : Int) = z + 1 + 1 + 1 + 1 + 1 + 1 by push_cast; omega] at hq
        simpa [KRootS, mkv, Nat.add_assoc] using hq
      have q0_7 : wr.cell? ⟨b, off + j * 8 + 7, none⟩ = some (.int .i64 (z + 1 + 1 + 1 + 1 + 1 + 1 + 1)) := by
        have hq := hc (j * 8 + 7) (by omega)
        rw [show (j * 8 + 7) % KRootS.length = 7 by show (j * 8 + 7) % 8 = 7; omega] at hq
        have hz := HZ.out
        rw [show k + ((j * 8 + 7 : Nat) : Int) = z + 1 + 1 + 1 + 1 + 1 + 1 + 1 by push_cast; omega] at hq
        simpa [KRootS, mkv, Nat.add_assoc] using hq
      clear hc
      have j0 : (0 : Int) ≤ (j : Int) := by omega
      have j1 : (j : Int) < (n : Int) := by omega
      go_wp2_with fail
      go_roundw
      case rel => exact ⟨j + 1, z + 1 + 1 + 1 + 1 + 1 + 1 + 1 + 1, by omega, by go_num, by first | rfl | (congr 1; omega), by omega, by omega, Lib.hid (by have := HZ.out; push_cast; omega), HB⟩
      case measure => simp [intOf]; omega
    · obtain rfl : j = n := by omega
      go_wp2_with fail
      go_ret
      exact ⟨ret_int HZ.out, HB.out⟩

end Go.Proofs.YtcfgbeajdkbbcaaGreatDoor
