/- Marks on slices of the disks' types, and what is held of them. Condition: the marks are below 2^40. -/
import Derived.Test.YtgipchipcoaajaaMarkText
import Derived.Test.YtgipchipcoaajaaRg
namespace Go.Proofs.Ytgipchipcoaajaa
set_option linter.unusedVariables false
set_option linter.unusedSimpArgs false
set_option linter.unnecessarySimpa false
open Go.RowKit

def KStringS : List Value := [.string ⟨#[]⟩]
set_option maxRecDepth 100000 in
set_option maxHeartbeats 4000000 in
theorem markStringS_any (A : Option Addr) (n c : Nat) (k : Int) (w : World) (lo hi : Nat) (h : Whole w 9 1 lo hi A n c) (h0 : 0 ≤ k) (h1 : k + n ≤ 1099511627776) :
    Calls Try.prog 77 #[.slice A n c, .int .i64 k] w fun e w' => e = .returned (.int .i64 (k + n)) ∧ MarkedAt w' KStringS k A (n) ∧ Whole w' 9 1 lo hi A n c ∧ Chg (fun b => 0 < n ∧ blkOf A b) w w' := by
  by_cases hn0 : n = 0
  · subst hn0
    go_enter Try.func77, Try.ntmps77
    go_wp2_with fail
    go_loop [1, 5] (fun kk i => kk = .int .i64 k ∧ i = .int .i64 ((0 : Nat) : Int)) (fun _ _ => 0)
    case atStart => exact ⟨rfl, rfl⟩
    case round =>
      obtain ⟨rfl, rfl⟩ := hrel
      go_wp2_with fail
      go_ret
      exact ⟨ret_int (by simp), fun h => absurd h (by simp), h, Chg.refl _ _⟩
  · obtain ⟨g, cur, rfl, hlo, hhi, hg, hcs, hnc⟩ : ∃ g cur, A = some ⟨g, 0, none⟩ ∧ lo ≤ g ∧ g < hi ∧ w.heap[g]? = some (.cells cur 9 (0, 0)) ∧ cur.size = c * 1 ∧ n ≤ c ∧ c ≤ maxLen := h.resolve_left (fun h => hn0 h.1)
    have hnp : 0 < n := Nat.pos_of_ne_zero hn0
    clear h hn0
    have hgl : g < w.heap.size := (Array.getElem?_eq_some_iff.1 hg).1
    have hn : n ≤ 1099511627776 := by omega
    have HG0 := Lib.hid hg; have HC0 := Lib.hid hcs; clear hg hcs
    go_enter Try.func77, Try.ntmps77
    go_wp2_with fail
    go_loopw [1, 5] (fun kk i wr => ∃ (j : Nat) (z : Int) (cu : Array Value), j ≤ n ∧ i = .int .i64 j ∧ kk = .int .i64 z ∧ 0 ≤ z ∧ z ≤ 1099511627776 ∧ Hid (z = k + (j : Int)) ∧ Hid (wr.heap[g]? = some (.cells cu 9 (0, 0))) ∧ Hid (cu.size = c * 1) ∧ Hid (HasMarks KStringS k (j) cu) ∧ Hid (Chg (blkOf (some ⟨g, 0, none⟩)) w wr)) (fun _ i _ => n - (intOf i).toNat)
    case atStart => exact ⟨0, k, cur, Nat.zero_le _, rfl, rfl, h0, by omega, Lib.hid (by simp), HG0, HC0, Lib.hid (by first | exact HasMarks.zero _ _ _ | (rw [Nat.zero_mul]; exact HasMarks.zero _ _ _)), Lib.hid (Chg.refl _ _)⟩
    case round =>
      clear HG0 HC0
      obtain ⟨j, z, cu, hj, rfl, rfl, z0, z1, HZ, HG, HC, HM, HX⟩ := hrel
      by_cases hlt : j < n
      · have hgr : g < wr.heap.size := (Array.getElem?_eq_some_iff.1 HG.out).1
        have hzb : z + 1 ≤ 1099511627776 := by have := HZ.out; omega
        have hju : j * 1 + 1 ≤ cu.size := by rw [HC.out]; omega
        have j0 : (0 : Int) ≤ (j : Int) := by omega
        have j1 : (j : Int) < (n : Int) := by omega
        have t0_0 : wr.cell? ⟨g, j, none⟩ = some _ := block_cell HG.out (by omega)
        generalize cu[j]'_ = y0_0 at t0_0
        have f0_0 : wr.frozen? ⟨g, j, none⟩ = false := block_free HG.out _
        go_wp2_with fail
        refine (markText_any (z) _ (by omega)).mono ?_
        rintro e v1 ⟨rfl, hb1⟩
        have hg1 : v1.heap[g]? = some (.cells (cu) 9 (0, 0)) := (hb1.block g (by first | omega | (simp [World.setCell] <;> omega))).trans HG.out
        have HX1 : Hid (Chg (blkOf (some ⟨g, 0, none⟩)) w v1) := Lib.hid (Chg.trans (show Chg _ w (wr) from HX.out) (Chg.of_below hb1 _))
        have hgr1 : g < v1.heap.size := (Array.getElem?_eq_some_iff.1 hg1).1
        clear hb1
        have t1_0 : v1.cell? ⟨g, j, none⟩ = some _ := block_cell hg1 (by omega)
        generalize cu[j]'_ = y1_0 at t1_0
        have f1_0 : v1.frozen? ⟨g, j, none⟩ = false := block_free hg1 _
        have HG1 := Lib.hid hg1; clear hg1
        go_wp2_with fail
        go_roundw
        case rel =>
          have m0 := HM.out
          have kv0 : .string (mtext (z)) = mkv (k + ((j : Nat) : Int)) (KStringS.getD ((j) % KStringS.length) undef) := by
            have e1 : (j) % KStringS.length = 0 := by show (j) % 1 = 0; omega
            have e2 : k + ((j : Nat) : Int) = z := by have := HZ.out; push_cast; omega
            rw [e1, e2]; rfl
          have m1 := HasMarks.step m0 (by have := HC.out; (try simp only [Array.size_setIfInBounds]); omega) kv0
          refine ⟨j + 1, z + 1, (Array.setIfInBounds cu (j) (.string (mtext (z)))), by omega, by go_num, by first | rfl | (congr 1; omega), by omega, by omega, Lib.hid (by have := HZ.out; push_cast; omega), Lib.hid (block_set HG1.out), Lib.hid (by simpa using HC.out), Lib.hid ?_, Lib.hid (Chg.setCell (p := ⟨g, _, none⟩) HX1.out (.inl ⟨0, rfl⟩) _)⟩
          exact m1
        case measure => simp [intOf]; omega
      · obtain rfl : j = n := by omega
        go_wp2_with fail
        go_ret
        exact ⟨ret_int HZ.out, HM.out.at_ HG.out, .inr ⟨g, cu, rfl, hlo, hhi, HG.out, HC.out, hnc⟩, HX.out.mono fun b _ h => ⟨hnp, h⟩⟩

set_option maxRecDepth 100000 in
set_option maxHeartbeats 4000000 in
theorem heldStringS_any (A : Option Addr) (n c : Nat) (k : Int) (w : World) (h : MarkedAt w KStringS k A (n)) (h0 : 0 ≤ k) (h1 : k + n ≤ 1099511627776) :
    Calls Try.prog 79 #[.slice A n c, .int .i64 k] w fun e w' => e = .returned (.int .i64 (k + n)) ∧ Below w.heap.size w w' := by
  have hn : n ≤ 1099511627776 := by omega
  have H := Lib.hid h; clear h
  go_enter Try.func79, Try.ntmps79
  go_wp2_with fail
  go_loopw [1, 5] (fun kk i wr => ∃ (j : Nat) (z : Int), j ≤ n ∧ i = .int .i64 j ∧ kk = .int .i64 z ∧ 0 ≤ z ∧ z ≤ 1099511627776 ∧ Hid (z = k + (j : Int)) ∧ Hid (Below w.heap.size w wr)) (fun _ i _ => n - (intOf i).toNat)
  case atStart => exact ⟨0, k, Nat.zero_le _, rfl, rfl, h0, by omega, Lib.hid (by simp), Lib.hid (Below.refl _ _)⟩
  case round =>
    obtain ⟨j, z, hj, rfl, rfl, z0, z1, HZ, HB⟩ := hrel
    by_cases hlt : j < n
    · obtain ⟨b, off, rfl, hbl, hc⟩ := (H.out.below HB.out) (by omega)
      have hzb : z + 1 ≤ 1099511627776 := by have := HZ.out; omega
      have q0_0 : wr.cell? ⟨b, off + j, none⟩ = some (.string (mtext (z))) := by
        have hq := hc (j) (by omega)
        rw [show (j) % KStringS.length = 0 by show (j) % 1 = 0; omega] at hq
        have hz := HZ.out
        rw [show k + ((j : Nat) : Int) = z by push_cast; omega] at hq
        simpa [KStringS, mkv, Nat.add_assoc] using hq
      clear hc
      have j0 : (0 : Int) ≤ (j : Int) := by omega
      have j1 : (j : Int) < (n : Int) := by omega
      go_wp2_with fail
      apply wp_region_rg (by kernel_rfl) (false :: false :: false :: false :: false :: false :: false :: false :: false :: false :: false :: false :: true :: true :: true :: true :: true :: true :: true :: false :: false :: false :: []) [some 12, some 13, some 14, some 15, some 16, some 17, some 18] [[], [], [0, 1], [2], [], [4], [3, 5]] [StP.is _, StP.is _, StP.is _, StP.is _, StP.is _, StP.is _, StP.is _] (by kernel_rfl)
      case hobs =>
        refine ⟨fun y w' hS hF K hK => ?_, ?_⟩
        · skip -- 0: move
          simp only [fillL, cond_true, cond_false, List.getD_cons_zero, List.getD_cons_succ, StP.is, Act.put, List.setIfInBounds_toArray, List.set_cons_zero, List.set_cons_succ, Nat.reduceAdd] at hK ⊢
          refine rg_yes (by kernel_rfl) ?_
          clear hF
          go_simp
          exact hK _ _ (Ext.refl _) rfl
        refine ⟨fun y w' hS hF K hK => ?_, ?_⟩
        · skip -- 1: move
          simp only [fillL, cond_true, cond_false, List.getD_cons_zero, List.getD_cons_succ, StP.is, Act.put, List.setIfInBounds_toArray, List.set_cons_zero, List.set_cons_succ, Nat.reduceAdd] at hK ⊢
          refine rg_yes (by kernel_rfl) ?_
          clear hF
          go_simp
          exact hK _ _ (Ext.refl _) rfl
        refine ⟨fun y w' hS hF K hK => ?_, ?_⟩
        · skip -- 2: indexAddr
          have e12 : y 12 = _ := hF.1
          have e13 : y 13 = _ := hF.2.1
          simp only [fillL, cond_true, cond_false, List.getD_cons_zero, List.getD_cons_succ, StP.is, Act.put, List.setIfInBounds_toArray, List.set_cons_zero, List.set_cons_succ, Nat.reduceAdd, e12, e13] at hK ⊢
          refine rg_yes (by kernel_rfl) ?_
          clear e12 e13
          clear hF
          go_simp
          exact hK _ _ (Ext.refl _) rfl
        refine ⟨fun y w' hS hF K hK => ?_, ?_⟩
        · skip -- 3: load
          have e14 : y 14 = _ := hF.1
          simp only [fillL, cond_true, cond_false, List.getD_cons_zero, List.getD_cons_succ, StP.is, Act.put, List.setIfInBounds_toArray, List.set_cons_zero, List.set_cons_succ, Nat.reduceAdd, e14] at hK ⊢
          refine rg_yes (by kernel_rfl) ?_
          have qx0_ := (Below.cell hS hbl).trans q0_0
          clear e14
          clear hF
          go_simp
          exact hK _ _ (Ext.refl _) rfl
        refine ⟨fun y w' hS hF K hK => ?_, ?_⟩
        · skip -- 4: move
          simp only [fillL, cond_true, cond_false, List.getD_cons_zero, List.getD_cons_succ, StP.is, Act.put, List.setIfInBounds_toArray, List.set_cons_zero, List.set_cons_succ, Nat.reduceAdd] at hK ⊢
          refine rg_yes (by kernel_rfl) ?_
          clear hF
          go_simp
          exact hK _ _ (Ext.refl _) rfl
        refine ⟨fun y w' hS hF K hK => ?_, ?_⟩
        · skip -- 5: call
          have e16 : y 16 = _ := hF.1
          simp only [fillL, cond_true, cond_false, List.getD_cons_zero, List.getD_cons_succ, StP.is, Act.put, List.setIfInBounds_toArray, List.set_cons_zero, List.set_cons_succ, Nat.reduceAdd, e16] at hK ⊢
          refine rg_yes (by kernel_rfl) ?_
          clear e16
          clear hF
          go_simp
          go_at_call 124
          refine (markText_any (z) _ (by omega)).mono ?_
          rintro e w'' ⟨rfl, hb⟩
          exact hK _ _ hb rfl
        refine ⟨fun y w' hS hF K hK => ?_, ?_⟩
        · skip -- 6: binOp
          have e15 : y 15 = _ := hF.1
          have e17 : y 17 = _ := hF.2.1
          simp only [fillL, cond_true, cond_false, List.getD_cons_zero, List.getD_cons_succ, StP.is, Act.put, List.setIfInBounds_toArray, List.set_cons_zero, List.set_cons_succ, Nat.reduceAdd, e15, e17] at hK ⊢
          refine rg_yes (by kernel_rfl) ?_
          clear e15 e17
          clear hF
          go_simp
          exact hK _ _ (Ext.refl _) rfl
        trivial
      case hend =>
        intro y v1 hX hF
        have e18 : y 18 = _ := hF.2.2.2.2.2.2.1
        clear hF
        simp only [fillL, cond_true, cond_false, Nat.reduceAdd, e18]
        clear e18
        have q1_0 := (Below.cell hX hbl).trans q0_0
        have hbl1 : b < v1.heap.size := Nat.lt_of_lt_of_le hbl (Below.size hX)
        have HB1 : Hid (Below w.heap.size w v1) := Lib.hid (Below.trans HB.out (Below.mono hX (Below.size HB.out)))
        clear hX q0_0 hbl
        go_wp2_with fail
        go_roundw
        case rel => exact ⟨j + 1, z + 1, by omega, by go_num, by first | rfl | (congr 1; omega), by omega, by omega, Lib.hid (by have := HZ.out; push_cast; omega), HB1⟩
        case measure => simp [intOf]; omega
    · obtain rfl : j = n := by omega
      go_wp2_with fail
      go_ret
      exact ⟨ret_int HZ.out, HB.out⟩

def KWaitS : List Value := [.int .i64 0, .string ⟨#[]⟩]
set_option maxRecDepth 100000 in
set_option maxHeartbeats 4000000 in
theorem markWaitS_any (A : Option Addr) (n c : Nat) (k : Int) (w : World) (lo hi : Nat) (h : Whole w 78 2 lo hi A n c) (h0 : 0 ≤ k) (h1 : k + n * 2 ≤ 1099511627776) :
    Calls Try.prog 78 #[.slice A n c, .int .i64 k] w fun e w' => e = .returned (.int .i64 (k + n * 2)) ∧ MarkedAt w' KWaitS k A (n * 2) ∧ Whole w' 78 2 lo hi A n c ∧ Chg (fun b => 0 < n ∧ blkOf A b) w w' := by
  by_cases hn0 : n = 0
  · subst hn0
    go_enter Try.func78, Try.ntmps78
    go_wp2_with fail
    go_loop [1, 5] (fun kk i => kk = .int .i64 k ∧ i = .int .i64 ((0 : Nat) : Int)) (fun _ _ => 0)
    case atStart => exact ⟨rfl, rfl⟩
    case round =>
      obtain ⟨rfl, rfl⟩ := hrel
      go_wp2_with fail
      go_ret
      exact ⟨ret_int (by simp), fun h => absurd h (by simp), h, Chg.refl _ _⟩
  · obtain ⟨g, cur, rfl, hlo, hhi, hg, hcs, hnc⟩ : ∃ g cur, A = some ⟨g, 0, none⟩ ∧ lo ≤ g ∧ g < hi ∧ w.heap[g]? = some (.cells cur 78 (0, 0)) ∧ cur.size = c * 2 ∧ n ≤ c ∧ c ≤ maxLen := h.resolve_left (fun h => hn0 h.1)
    have hnp : 0 < n := Nat.pos_of_ne_zero hn0
    clear h hn0
    have hgl : g < w.heap.size := (Array.getElem?_eq_some_iff.1 hg).1
    have hn : n ≤ 1099511627776 := by omega
    have HG0 := Lib.hid hg; have HC0 := Lib.hid hcs; clear hg hcs
    go_enter Try.func78, Try.ntmps78
    go_wp2_with fail
    go_loopw [1, 5] (fun kk i wr => ∃ (j : Nat) (z : Int) (cu : Array Value), j ≤ n ∧ i = .int .i64 j ∧ kk = .int .i64 z ∧ 0 ≤ z ∧ z ≤ 1099511627776 ∧ Hid (z = k + (j : Int) * 2) ∧ Hid (wr.heap[g]? = some (.cells cu 78 (0, 0))) ∧ Hid (cu.size = c * 2) ∧ Hid (HasMarks KWaitS k (j * 2) cu) ∧ Hid (Chg (blkOf (some ⟨g, 0, none⟩)) w wr)) (fun _ i _ => n - (intOf i).toNat)
    case atStart => exact ⟨0, k, cur, Nat.zero_le _, rfl, rfl, h0, by omega, Lib.hid (by simp), HG0, HC0, Lib.hid (by first | exact HasMarks.zero _ _ _ | (rw [Nat.zero_mul]; exact HasMarks.zero _ _ _)), Lib.hid (Chg.refl _ _)⟩
    case round =>
      clear HG0 HC0
      obtain ⟨j, z, cu, hj, rfl, rfl, z0, z1, HZ, HG, HC, HM, HX⟩ := hrel
      by_cases hlt : j < n
      · have hgr : g < wr.heap.size := (Array.getElem?_eq_some_iff.1 HG.out).1
        have hzb : z + 2 ≤ 1099511627776 := by have := HZ.out; omega
        have hju : j * 2 + 2 ≤ cu.size := by rw [HC.out]; omega
        have j0 : (0 : Int) ≤ (j : Int) := by omega
        have j1 : (j : Int) < (n : Int) := by omega
        have t0_0 : wr.cell? ⟨g, j * 2, none⟩ = some _ := block_cell HG.out (by omega)
        generalize cu[j * 2]'_ = y0_0 at t0_0
        have f0_0 : wr.frozen? ⟨g, j * 2, none⟩ = false := block_free HG.out _
        have t0_1 : wr.cell? ⟨g, j * 2 + 1, none⟩ = some _ := block_cell HG.out (by omega)
        generalize cu[j * 2 + 1]'_ = y0_1 at t0_1
        have f0_1 : wr.frozen? ⟨g, j * 2 + 1, none⟩ = false := block_free HG.out _
        go_wp2_with fail
        refine (markText_any (z + 1) _ (by omega)).mono ?_
        rintro e v1 ⟨rfl, hb1⟩
        have hg1 : v1.heap[g]? = some (.cells ((Array.setIfInBounds cu (j * 2) (.int .i64 (z)))) 78 (0, 0)) := (hb1.block g (by first | omega | (simp [World.setCell] <;> omega))).trans (block_set HG.out)
        have HX1 : Hid (Chg (blkOf (some ⟨g, 0, none⟩)) w v1) := Lib.hid (Chg.trans (show Chg _ w ((World.setCell wr ⟨g, j * 2, none⟩ (.int .i64 (z)))) from (Chg.setCell (p := ⟨g, _, none⟩) HX.out (.inl ⟨0, rfl⟩) _)) (Chg.of_below hb1 _))
        have hgr1 : g < v1.heap.size := (Array.getElem?_eq_some_iff.1 hg1).1
        clear hb1
        have t1_1 : v1.cell? ⟨g, j * 2 + 1, none⟩ = some _ := block_cell hg1 (by simp; omega)
        generalize (Array.setIfInBounds cu (j * 2) (.int .i64 (z)))[j * 2 + 1]'_ = y1_1 at t1_1
        have f1_1 : v1.frozen? ⟨g, j * 2 + 1, none⟩ = false := block_free hg1 _
        have HG1 := Lib.hid hg1; clear hg1
        go_wp2_with fail
        go_roundw
        case rel =>
          have m0 := HM.out
          have kv0 : .int .i64 (z) = mkv (k + ((j * 2 : Nat) : Int)) (KWaitS.getD ((j * 2) % KWaitS.length) undef) := by
            have e1 : (j * 2) % KWaitS.length = 0 := by show (j * 2) % 2 = 0; omega
            have e2 : k + ((j * 2 : Nat) : Int) = z := by have := HZ.out; push_cast; omega
            rw [e1, e2]; rfl
          have m1 := HasMarks.step m0 (by have := HC.out; (try simp only [Array.size_setIfInBounds]); omega) kv0
          have kv1 : .string (mtext (z + 1)) = mkv (k + ((j * 2 + 1 : Nat) : Int)) (KWaitS.getD ((j * 2 + 1) % KWaitS.length) undef) := by
            have e1 : (j * 2 + 1) % KWaitS.length = 1 := by show (j * 2 + 1) % 2 = 1; omega
            have e2 : k + ((j * 2 + 1 : Nat) : Int) = z + 1 := by have := HZ.out; push_cast; omega
            rw [e1, e2]; rfl
          have m2 := HasMarks.step m1 (by have := HC.out; (try simp only [Array.size_setIfInBounds]); omega) kv1
          refine ⟨j + 1, z + 1 + 1, (Array.setIfInBounds (Array.setIfInBounds cu (j * 2) (.int .i64 (z))) (j * 2 + 1) (.string (mtext (z + 1)))), by omega, by go_num, by first | rfl | (congr 1; omega), by omega, by omega, Lib.hid (by have := HZ.out; push_cast; omega), Lib.hid (block_set HG1.out), Lib.hid (by simpa using HC.out), Lib.hid ?_, Lib.hid (Chg.setCell (p := ⟨g, _, none⟩) HX1.out (.inl ⟨0, rfl⟩) _)⟩
          rw [show (j + 1) * 2 = j * 2 + 1 + 1 by omega]; exact m2
        case measure => simp [intOf]; omega
      · obtain rfl : j = n := by omega
        go_wp2_with fail
        go_ret
        exact ⟨ret_int HZ.out, HM.out.at_ HG.out, .inr ⟨g, cu, rfl, hlo, hhi, HG.out, HC.out, hnc⟩, HX.out.mono fun b _ h => ⟨hnp, h⟩⟩

set_option maxRecDepth 100000 in
set_option maxHeartbeats 4000000 in
theorem heldWaitS_any (A : Option Addr) (n c : Nat) (k : Int) (w : World) (h : MarkedAt w KWaitS k A (n * 2)) (h0 : 0 ≤ k) (h1 : k + n * 2 ≤ 1099511627776) :
    Calls Try.prog 80 #[.slice A n c, .int .i64 k] w fun e w' => e = .returned (.int .i64 (k + n * 2)) ∧ Below w.heap.size w w' := by
  have hn : n ≤ 1099511627776 := by omega
  have H := Lib.hid h; clear h
  go_enter Try.func80, Try.ntmps80
  go_wp2_with fail
  go_loopw [1, 5] (fun kk i wr => ∃ (j : Nat) (z : Int), j ≤ n ∧ i = .int .i64 j ∧ kk = .int .i64 z ∧ 0 ≤ z ∧ z ≤ 1099511627776 ∧ Hid (z = k + (j : Int) * 2) ∧ Hid (Below w.heap.size w wr)) (fun _ i _ => n - (intOf i).toNat)
  case atStart => exact ⟨0, k, Nat.zero_le _, rfl, rfl, h0, by omega, Lib.hid (by simp), Lib.hid (Below.refl _ _)⟩
  case round =>
    obtain ⟨j, z, hj, rfl, rfl, z0, z1, HZ, HB⟩ := hrel
    by_cases hlt : j < n
    · obtain ⟨b, off, rfl, hbl, hc⟩ := (H.out.below HB.out) (by omega)
      have hzb : z + 2 ≤ 1099511627776 := by have := HZ.out; omega
      have q0_0 : wr.cell? ⟨b, off + j * 2, none⟩ = some (.int .i64 (z)) := by
        have hq := hc (j * 2) (by omega)
        rw [show (j * 2) % KWaitS.length = 0 by show (j * 2) % 2 = 0; omega] at hq
        have hz := HZ.out
        rw [show k + ((j * 2 : Nat) : Int) = z by push_cast; omega] at hq
        simpa [KWaitS, mkv, Nat.add_assoc] using hq
      have q0_1 : wr.cell? ⟨b, off + j * 2 + 1, none⟩ = some (.string (mtext (z + 1))) := by
        have hq := hc (j * 2 + 1) (by omega)
        rw [show (j * 2 + 1) % KWaitS.length = 1 by show (j * 2 + 1) % 2 = 1; omega] at hq
        have hz := HZ.out
        rw [show k + ((j * 2 + 1 : Nat) : Int) = z + 1 by push_cast; omega] at hq
        simpa [KWaitS, mkv, Nat.add_assoc] using hq
      clear hc
      have j0 : (0 : Int) ≤ (j : Int) := by omega
      have j1 : (j : Int) < (n : Int) := by omega
      go_wp2_with fail
      apply wp_region_rg (by kernel_rfl) (false :: false :: false :: false :: false :: false :: false :: false :: false :: false :: false :: false :: false :: false :: false :: false :: false :: false :: false :: false :: false :: true :: true :: true :: true :: true :: true :: true :: true :: false :: false :: false :: []) [some 21, some 22, some 23, some 24, some 25, some 26, some 27, some 28] [[], [], [0, 1], [2], [3], [], [5], [4, 6]] [StP.is _, StP.is _, StP.is _, StP.is _, StP.is _, StP.is _, StP.is _, StP.is _] (by kernel_rfl)
      case hobs =>
        refine ⟨fun y w' hS hF K hK => ?_, ?_⟩
        · skip -- 0: move
          simp only [fillL, cond_true, cond_false, List.getD_cons_zero, List.getD_cons_succ, StP.is, Act.put, List.setIfInBounds_toArray, List.set_cons_zero, List.set_cons_succ, Nat.reduceAdd] at hK ⊢
          refine rg_yes (by kernel_rfl) ?_
          clear hF
          go_simp
          exact hK _ _ (Ext.refl _) rfl
        refine ⟨fun y w' hS hF K hK => ?_, ?_⟩
        · skip -- 1: move
          simp only [fillL, cond_true, cond_false, List.getD_cons_zero, List.getD_cons_succ, StP.is, Act.put, List.setIfInBounds_toArray, List.set_cons_zero, List.set_cons_succ, Nat.reduceAdd] at hK ⊢
          refine rg_yes (by kernel_rfl) ?_
          clear hF
          go_simp
          exact hK _ _ (Ext.refl _) rfl
        refine ⟨fun y w' hS hF K hK => ?_, ?_⟩
        · skip -- 2: indexAddr
          have e21 : y 21 = _ := hF.1
          have e22 : y 22 = _ := hF.2.1
          simp only [fillL, cond_true, cond_false, List.getD_cons_zero, List.getD_cons_succ, StP.is, Act.put, List.setIfInBounds_toArray, List.set_cons_zero, List.set_cons_succ, Nat.reduceAdd, e21, e22] at hK ⊢
          refine rg_yes (by kernel_rfl) ?_
          clear e21 e22
          clear hF
          go_simp
          exact hK _ _ (Ext.refl _) rfl
        refine ⟨fun y w' hS hF K hK => ?_, ?_⟩
        · skip -- 3: fieldAddr
          have e23 : y 23 = _ := hF.1
          simp only [fillL, cond_true, cond_false, List.getD_cons_zero, List.getD_cons_succ, StP.is, Act.put, List.setIfInBounds_toArray, List.set_cons_zero, List.set_cons_succ, Nat.reduceAdd, e23] at hK ⊢
          refine rg_yes (by kernel_rfl) ?_
          clear e23
          clear hF
          go_simp
          exact hK _ _ (Ext.refl _) rfl
        refine ⟨fun y w' hS hF K hK => ?_, ?_⟩
        · skip -- 4: load
          have e24 : y 24 = _ := hF.1
          simp only [fillL, cond_true, cond_false, List.getD_cons_zero, List.getD_cons_succ, StP.is, Act.put, List.setIfInBounds_toArray, List.set_cons_zero, List.set_cons_succ, Nat.reduceAdd, e24] at hK ⊢
          refine rg_yes (by kernel_rfl) ?_
          have qx0_ := (Below.cell hS hbl).trans q0_0
          have qx1_ := (Below.cell hS hbl).trans q0_1
          clear e24
          clear hF
          go_simp
          exact hK _ _ (Ext.refl _) rfl
        refine ⟨fun y w' hS hF K hK => ?_, ?_⟩
        · skip -- 5: move
          simp only [fillL, cond_true, cond_false, List.getD_cons_zero, List.getD_cons_succ, StP.is, Act.put, List.setIfInBounds_toArray, List.set_cons_zero, List.set_cons_succ, Nat.reduceAdd] at hK ⊢
          refine rg_yes (by kernel_rfl) ?_
          clear hF
          go_simp
          exact hK _ _ (Ext.refl _) rfl
        refine ⟨fun y w' hS hF K hK => ?_, ?_⟩
        · skip -- 6: call
          have e26 : y 26 = _ := hF.1
          simp only [fillL, cond_true, cond_false, List.getD_cons_zero, List.getD_cons_succ, StP.is, Act.put, List.setIfInBounds_toArray, List.set_cons_zero, List.set_cons_succ, Nat.reduceAdd, e26] at hK ⊢
          refine rg_yes (by kernel_rfl) ?_
          clear e26
          clear hF
          go_simp
          go_at_call 124
          refine (markText_any (z + 1) _ (by omega)).mono ?_
          rintro e w'' ⟨rfl, hb⟩
          exact hK _ _ hb rfl
        refine ⟨fun y w' hS hF K hK => ?_, ?_⟩
        · skip -- 7: binOp
          have e25 : y 25 = _ := hF.1
          have e27 : y 27 = _ := hF.2.1
          simp only [fillL, cond_true, cond_false, List.getD_cons_zero, List.getD_cons_succ, StP.is, Act.put, List.setIfInBounds_toArray, List.set_cons_zero, List.set_cons_succ, Nat.reduceAdd, e25, e27] at hK ⊢
          refine rg_yes (by kernel_rfl) ?_
          clear e25 e27
          clear hF
          go_simp
          exact hK _ _ (Ext.refl _) rfl
        trivial
      case hend =>
        intro y v1 hX hF
        have e28 : y 28 = _ := hF.2.2.2.2.2.2.2.1
        clear hF
        simp only [fillL, cond_true, cond_false, Nat.reduceAdd, e28]
        clear e28
        have q1_0 := (Below.cell hX hbl).trans q0_0
        have q1_1 := (Below.cell hX hbl).trans q0_1
        have hbl1 : b < v1.heap.size := Nat.lt_of_lt_of_le hbl (Below.size hX)
        have HB1 : Hid (Below w.heap.size w v1) := Lib.hid (Below.trans HB.out (Below.mono hX (Below.size HB.out)))
        clear hX q0_0 q0_1 hbl
        go_wp2_with fail
        go_roundw
        case rel => exact ⟨j + 1, z + 1 + 1, by omega, by go_num, by first | rfl | (congr 1; omega), by omega, by omega, Lib.hid (by have := HZ.out; push_cast; omega), HB1⟩
        case measure => simp [intOf]; omega
    · obtain rfl : j = n := by omega
      go_wp2_with fail
      go_ret
      exact ⟨ret_int HZ.out, HB.out⟩

set_option maxRecDepth 100000 in
set_option maxHeartbeats 4000000 in
theorem markDisk_any (A0 : Option Addr) (n0 c0 : Nat) (A1 : Option Addr) (n1 c1 : Nat) (v_gone_ : Bool) (k : Int) (w : World) (lo hi : Nat) (k0 : Whole w 9 1 lo hi A0 n0 c0) (k1 : Whole w 78 2 lo hi A1 n1 c1) (hhi : hi ≤ w.heap.size) (h0 : 0 ≤ k) (h1 : k + n0 + n1 * 2 ≤ 1099511627776) :
    Calls Try.prog 33 #[.agg #[.slice A0 n0 c0, .slice A1 n1 c1, .bool v_gone_], .int .i64 k] w fun e w' => e = .returned (.int .i64 (k + n0 + n1 * 2)) ∧ MarkedAt w' KStringS (k) A0 (n0) ∧ MarkedAt w' KWaitS (k + n0) A1 (n1 * 2) ∧ Chg (fun b => lo ≤ b ∧ b < hi) w w' := by
  have K0_0 := Lib.hid (k0.below (bel1 (o := .cells #[.slice A0 n0 c0, .slice A1 n1 c1, .bool v_gone_] 26)) hhi); clear k0
  have K1_0 := Lib.hid (k1.below (bel1 (o := .cells #[.slice A0 n0 c0, .slice A1 n1 c1, .bool v_gone_] 26)) hhi); clear k1
  go_enter Try.func33, Try.ntmps33
  go_wp2_with fail
  have X0 : Hid (Chg (fun b => lo ≤ b ∧ b < hi) w (w.alloc (.cells #[.slice A0 n0 c0, .slice A1 n1 c1, .bool v_gone_] 26))) := Lib.hid ((Chg.refl _ _).alloc _)
  refine (markStringS_any A0 n0 c0 (k) _ lo hi K0_0.out (by omega) (by omega)).mono ?_
  rintro e w1 ⟨rfl, hm, hw, hc⟩
  have hin : ∀ b, (0 < n0 ∧ blkOf A0 b) → lo ≤ b ∧ b < hi := fun b hb => by
    rcases K0_0.out with h | ⟨g, cur, hA, a1, a2, _⟩
    · omega
    · rw [hA, blkOf_iff] at hb; obtain ⟨_, rfl⟩ := hb; exact ⟨a1, a2⟩
  have X1 : Hid (Chg (fun b => lo ≤ b ∧ b < hi) w w1) := Lib.hid (X0.out.trans (hc.mono fun b _ hb => hin b hb))
  have eb : w1.heap[w.heap.size]? = some (.cells #[.slice A0 n0 c0, .slice A1 n1 c1, .bool v_gone_] 26 (0, 0)) := (hc.block _ (by simp) (fun hb => by have := hin _ hb; omega)).trans (heap_alloc_new _ _)
  have c1_0 : w1.cell? ⟨w.heap.size, 0, none⟩ = some (.slice A0 n0 c0) := cell_of_row _ _ 0 _ _ (0, 0) eb
  have c1_1 : w1.cell? ⟨w.heap.size, 1, none⟩ = some (.slice A1 n1 c1) := cell_of_row _ _ 1 _ _ (0, 0) eb
  have c1_2 : w1.cell? ⟨w.heap.size, 2, none⟩ = some (.bool v_gone_) := cell_of_row _ _ 2 _ _ (0, 0) eb
  have E1 := Lib.hid eb; clear eb
  have M0_1 := Lib.hid hm
  have K1_1 : Hid (Whole w1 78 2 lo hi A1 n1 c1) := Lib.hid (K1_0.out.keepB fun hz b hb hlo hb3 => hc.block b (by have := X0.out.size; simp at this ⊢; omega) fun hb2 => Whole.ne K1_0.out K0_0.out (by decide) hz (K0_0.out.pos hb2.1) b hb hb2.2)
  have K0_1 := Lib.hid hw
  clear hm hw hc hin
  go_wp2_with fail
  refine (markWaitS_any A1 n1 c1 (k + n0) _ lo hi K1_1.out (by omega) (by omega)).mono ?_
  rintro e w2 ⟨rfl, hm, hw, hc⟩
  have hin : ∀ b, (0 < n1 ∧ blkOf A1 b) → lo ≤ b ∧ b < hi := fun b hb => by
    rcases K1_1.out with h | ⟨g, cur, hA, a1, a2, _⟩
    · omega
    · rw [hA, blkOf_iff] at hb; obtain ⟨_, rfl⟩ := hb; exact ⟨a1, a2⟩
  have X2 : Hid (Chg (fun b => lo ≤ b ∧ b < hi) w w2) := Lib.hid (X1.out.trans (hc.mono fun b _ hb => hin b hb))
  have eb : w2.heap[w.heap.size]? = some (.cells #[.slice A0 n0 c0, .slice A1 n1 c1, .bool v_gone_] 26 (0, 0)) := (hc.block _ (by exact (Array.getElem?_eq_some_iff.1 E1.out).1) (fun hb => by have := hin _ hb; omega)).trans E1.out
  have c2_0 : w2.cell? ⟨w.heap.size, 0, none⟩ = some (.slice A0 n0 c0) := cell_of_row _ _ 0 _ _ (0, 0) eb
  have c2_1 : w2.cell? ⟨w.heap.size, 1, none⟩ = some (.slice A1 n1 c1) := cell_of_row _ _ 1 _ _ (0, 0) eb
  have c2_2 : w2.cell? ⟨w.heap.size, 2, none⟩ = some (.bool v_gone_) := cell_of_row _ _ 2 _ _ (0, 0) eb
  have E2 := Lib.hid eb; clear eb
  clear c1_0 c1_1 c1_2
  have M1_2 := Lib.hid hm
  have M0_2 : Hid (MarkedAt w2 KStringS (k) A0 (n0)) := by
    rcases Nat.eq_zero_or_pos n0 with hz | hz
    · exact Lib.hid (fun h => absurd h (by omega))
    · exact Lib.hid (M0_1.out.keep hc.size fun b hb hlt => hc.block b hlt fun hb2 => Whole.ne K0_1.out K1_1.out (by decide) (K0_1.out.pos hz) (K1_1.out.pos hb2.1) b hb hb2.2)
  have K1_2 := Lib.hid hw
  have K0_2 : Hid (Whole w2 9 1 lo hi A0 n0 c0) := Lib.hid (K0_1.out.keepB fun hz b hb hlo hb3 => hc.block b (by have := X1.out.size; omega) fun hb2 => Whole.ne K0_1.out K1_1.out (by decide) hz (K1_1.out.pos hb2.1) b hb hb2.2)
  clear hm hw hc hin
  go_wp2_with fail
  go_ret
  exact ⟨rfl, M0_2.out, M1_2.out, X2.out⟩

set_option maxRecDepth 100000 in
set_option maxHeartbeats 4000000 in
theorem heldDisk_any (A0 : Option Addr) (n0 c0 : Nat) (A1 : Option Addr) (n1 c1 : Nat) (v_gone_ : Bool) (k : Int) (w : World) (m0 : MarkedAt w KStringS (k) A0 (n0)) (m1 : MarkedAt w KWaitS (k + n0) A1 (n1 * 2)) (h0 : 0 ≤ k) (h1 : k + n0 + n1 * 2 ≤ 1099511627776) :
    Calls Try.prog 34 #[.agg #[.slice A0 n0 c0, .slice A1 n1 c1, .bool v_gone_], .int .i64 k] w fun e w' => e = .returned (.int .i64 (k + n0 + n1 * 2)) ∧ Below w.heap.size w w' := by
  have M0 := Lib.hid m0; clear m0
  have M1 := Lib.hid m1; clear m1
  go_enter Try.func34, Try.ntmps34
  go_wp2_with fail
  refine (heldStringS_any A0 n0 c0 (k) _ (M0.out.below bel1) (by omega) (by omega)).mono ?_
  rintro e w1 ⟨rfl, hb1⟩
  have S1 : Below w.heap.size w w1 := bel1.trans (hb1.mono (by simp <;> omega))
  have c1_0 : w1.cell? ⟨w.heap.size, 0, none⟩ = some (.slice A0 n0 c0) := (hb1.cell (by simp <;> omega)).trans (by simp [go_sem])
  have c1_1 : w1.cell? ⟨w.heap.size, 1, none⟩ = some (.slice A1 n1 c1) := (hb1.cell (by simp <;> omega)).trans (by simp [go_sem])
  have c1_2 : w1.cell? ⟨w.heap.size, 2, none⟩ = some (.bool v_gone_) := (hb1.cell (by simp <;> omega)).trans (by simp [go_sem])
  have l1_0 : w.heap.size < w1.heap.size := World.block_lt_of_cell? _ _ c1_0
  have X1 : Below w.heap.size w w1 := S1
  clear hb1
  clear S1
  have d0 : decide (k + n0 < 0) = false := by simp; omega
  have d0b : ¬ (k + n0 < 0) := by omega
  go_wp2_with fail
  refine (heldWaitS_any A1 n1 c1 (k + n0) _ (M1.out.below X1) (by omega) (by omega)).mono ?_
  rintro e w2 ⟨rfl, hb2⟩
  have S2 : Below w1.heap.size w1 w2 := hb2
  have c2_0 : w2.cell? ⟨w.heap.size, 0, none⟩ = some (.slice A0 n0 c0) := (S2.cell l1_0).trans c1_0
  have c2_1 : w2.cell? ⟨w.heap.size, 1, none⟩ = some (.slice A1 n1 c1) := (S2.cell l1_0).trans c1_1
  have c2_2 : w2.cell? ⟨w.heap.size, 2, none⟩ = some (.bool v_gone_) := (S2.cell l1_0).trans c1_2
  have l2_0 : w.heap.size < w2.heap.size := World.block_lt_of_cell? _ _ c2_0
  have X2 : Below w.heap.size w w2 := X1.trans (S2.mono X1.size)
  clear c1_0 c1_1 c1_2 l1_0 X1 hb2
  clear S2
  have d1 : decide (k + n0 + n1 * 2 < 0) = false := by simp; omega
  have d1b : ¬ (k + n0 + n1 * 2 < 0) := by omega
  go_wp2_with fail
  go_ret
  exact ⟨rfl, X2⟩

end Go.Proofs.Ytgipchipcoaajaa
