/- Marks on slices of the disks' types, and what is held of them. Condition: the marks are below 2^40. -/
import Derived.Test.YtggdjiklgakfnaaGreatDoorMarkText
import Derived.Test.YtggdjiklgakfnaaGreatDoorLib
namespace Go.Proofs.YtggdjiklgakfnaaGreatDoor
set_option linter.unusedVariables false
set_option linter.unusedSimpArgs false
set_option linter.unnecessarySimpa false
open Go.RowKit

def KStringS : List Value := [.string ⟨#[]⟩]
set_option maxRecDepth 100000 in
set_option maxHeartbeats 4000000 in
theorem markStringS_any (A : Option Addr) (n c : Nat) (k : Int) (w : World) (lo hi : Nat) (h : Whole w 9 1 lo hi A n c) (h0 : 0 ≤ k) (h1 : k + n ≤ 1099511627776) :
    Calls Tryz.prog 53 #[.slice A n c, .int .i64 k] w fun e w' => e = .returned (.int .i64 (k + n)) ∧ MarkedAt w' KStringS k A (n) ∧ Whole w' 9 1 lo hi A n c ∧ Chg (fun b => 0 < n ∧ blkOf A b) w w' := by
  by_cases hn0 : n = 0
  · subst hn0
    go_enter Tryz.func53, Tryz.ntmps53
    go_wp2_with fail
    go_loop [1, 5] (fun kk i => kk = .int .i64 k ∧ i = .int .i64 ((0 : Nat) : Int)) (fun _ _ => 0)
    case atStart => exact ⟨rfl, rfl⟩
    case round =>
      obtain ⟨rfl, rfl⟩ := hrel
      go_wp2_with fail
      go_ret
      exact ⟨ret_int (by simp), fun h => absurd h (by simp), h, Chg.refl _ _⟩
  · obtain ⟨g, cur, rfl, hlo, hhi, hg, hcs, hnc⟩ : ∃ g cur, A = some ⟨g, 0, none⟩ ∧ lo ≤ g ∧ g < hi ∧ w.heap[g]? = some (.cells cur 9 (0, 0)) ∧ cur.size = c * 1 ∧ n ≤ c ∧ c ≤ maxLen := h.resolve_left (fun h => hn0 h.1)
    have hnp : 0 < n := Nat.pos_of_ne_zero hn0
    clear h hn0
    have hgl : g < w.heap.size := (Array.getElem?_eq_some_iff.1 hg).1
    have hn : n ≤ 1099511627776 := by omega
    have HG0 := Lib.hid hg; have HC0 := Lib.hid hcs; clear hg hcs
    go_enter Tryz.func53, Tryz.ntmps53
    go_wp2_with fail
    go_loopw [1, 5] (fun kk i wr => ∃ (j : Nat) (z : Int) (cu : Array Value), j ≤ n ∧ i = .int .i64 j ∧ kk = .int .i64 z ∧ 0 ≤ z ∧ z ≤ 1099511627776 ∧ Hid (z = k + (j : Int)) ∧ Hid (wr.heap[g]? = some (.cells cu 9 (0, 0))) ∧ Hid (cu.size = c * 1) ∧ Hid (HasMarks KStringS k (j) cu) ∧ Hid (Chg (blkOf (some ⟨g, 0, none⟩)) w wr)) (fun _ i _ => n - (intOf i).toNat)
    case atStart => exact ⟨0, k, cur, Nat.zero_le _, rfl, rfl, h0, by omega, Lib.hid (by simp), HG0, HC0, Lib.hid (by first | exact HasMarks.zero _ _ _ | (rw [Nat.zero_mul]; exact HasMarks.zero _ _ _)), Lib.hid (Chg.refl _ _)⟩
    case round =>
      clear HG0 HC0
      obtain ⟨j, z, cu, hj, rfl, rfl, z0, z1, HZ, HG, HC, HM, HX⟩ := hrel
      by_cases hlt : j < n
      · have hgr : g < wr.heap.size := (Array.getElem?_eq_some_iff.1 HG.out).1
        have hzb : z + 1 ≤ 1099511627776 := by have := HZ.out; omega
        have hju : j * 1 + 1 ≤ cu.size := by rw [HC.out]; omega
        have j0 : (0 : Int) ≤ (j : Int) := by omega
        have j1 : (j : Int) < (n : Int) := by omega
        have t0_0 : wr.cell? ⟨g, j, none⟩ = some _ := block_cell HG.out (by omega)
        generalize cu[j]'_ = y0_0 at t0_0
        have f0_0 : wr.frozen? ⟨g, j, none⟩ = false := block_free HG.out _
        go_wp2_with fail
        refine (markText_any (z) _ (by omega)).mono ?_
        rintro e v1 ⟨rfl, hb1⟩
        have hg1 : v1.heap[g]? = some (.cells (cu) 9 (0, 0)) := (hb1.block g (by first | omega | (simp [World.setCell] <;> omega))).trans HG.out
        have HX1 : Hid (Chg (blkOf (some ⟨g, 0, none⟩)) w v1) := Lib.hid (Chg.trans (show Chg _ w (wr) from HX.out) (Chg.of_below hb1 _))
        have hgr1 : g < v1.heap.size := (Array.getElem?_eq_some_iff.1 hg1).1
        clear hb1
        have t1_0 : v1.cell? ⟨g, j, none⟩ = some _ := block_cell hg1 (by omega)
        generalize cu[j]'_ = y1_0 at t1_0
        have f1_0 : v1.frozen? ⟨g, j, none⟩ = false := block_free hg1 _
        have HG1 := Lib.hid hg1; clear hg1
        go_wp2_with fail
        go_roundw
        case rel =>
          have m0 := HM.out
          have kv0 : .string (mtext (z)) = mkv (k + ((j : Nat) : Int)) (KStringS.getD ((j) % KStringS.length) undef) := by
            have e1 : (j) % KStringS.length = 0 := by show (j) % 1 = 0; omega
            have e2 : k + ((j : Nat) : Int) = z := by have := HZ.out; push_cast; omega
            rw [e1, e2]; rfl
          have m1 := HasMarks.step m0 (by have := HC.out; (try simp only [Array.size_setIfInBounds]); omega) kv0
          refine ⟨j + 1, z + 1, (Array.setIfInBounds cu (j) (.string (mtext (z)))), by omega, by go_num, by first | rfl | (congr 1; omega), by omega, by omega, Lib.hid (by have := HZ.out; push_cast; omega), Lib.hid (block_set HG1.out), Lib.hid (by simpa using HC.out), Lib.hid ?_, Lib.hid (Chg.setCell (p := ⟨g, _, none⟩) HX1.out (.inl ⟨0, rfl⟩) _)⟩
          exact m1
        case measure => simp [intOf]; omega
      · obtain rfl : j = n := by omega
        go_wp2_with fail
        go_ret
        exact ⟨ret_int HZ.out, HM.out.at_ HG.out, .inr ⟨g, cu, rfl, hlo, hhi, HG.out, HC.out, hnc⟩, HX.out.mono fun b _ h => ⟨hnp, h⟩⟩


def KWaitS : List Value := [.int .i64 0, .string ⟨#[]⟩]
set_option maxRecDepth 100000 in
set_option maxHeartbeats 4000000 in
theorem markWaitS_any (A : Option Addr) (n c : Nat) (k : Int) (w : World) (lo hi : Nat) (h : Whole w 99 2 lo hi A n c) (h0 : 0 ≤ k) (h1 : k + n * 2 ≤ 1099511627776) :
    Calls Tryz.prog 54 #[.slice A n c, .int .i64 k] w fun e w' => e = .returned (.int .i64 (k + n * 2)) ∧ MarkedAt w' KWaitS k A (n * 2) ∧ Whole w' 99 2 lo hi A n c ∧ Chg (fun b => 0 < n ∧ blkOf A b) w w' := by
  by_cases hn0 : n = 0
  · subst hn0
    go_enter Tryz.func54, Tryz.ntmps54
    go_wp2_with fail
    go_loop [1, 5] (fun kk i => kk = .int .i64 k ∧ i = .int .i64 ((0 : Nat) : Int)) (fun _ _ => 0)
    case atStart => exact ⟨rfl, rfl⟩
    case round =>
      obtain ⟨rfl, rfl⟩ := hrel
      go_wp2_with fail
      go_ret
      exact ⟨ret_int (by simp), fun h => absurd h (by simp), h, Chg.refl _ _⟩
  · obtain ⟨g, cur, rfl, hlo, hhi, hg, hcs, hnc⟩ : ∃ g cur, A = some ⟨g, 0, none⟩ ∧ lo ≤ g ∧ g < hi ∧ w.heap[g]? = some (.cells cur 99 (0, 0)) ∧ cur.size = c * 2 ∧ n ≤ c ∧ c ≤ maxLen := h.resolve_left (fun h => hn0 h.1)
    have hnp : 0 < n := Nat.pos_of_ne_zero hn0
    clear h hn0
    have hgl : g < w.heap.size := (Array.getElem?_eq_some_iff.1 hg).1
    have hn : n ≤ 1099511627776 := by omega
    have HG0 := Lib.hid hg; have HC0 := Lib.hid hcs; clear hg hcs
    go_enter Tryz.func54, Tryz.ntmps54
    go_wp2_with fail
    go_loopw [1, 5] (fun kk i wr => ∃ (j : Nat) (z : Int) (cu : Array Value), j ≤ n ∧ i = .int .i64 j ∧ kk = .int .i64 z ∧ 0 ≤ z ∧ z ≤ 1099511627776 ∧ Hid (z = k + (j : Int) * 2) ∧ Hid (wr.heap[g]? = some (.cells cu 99 (0, 0))) ∧ Hid (cu.size = c * 2) ∧ Hid (HasMarks KWaitS k (j * 2) cu) ∧ Hid (Chg (blkOf (some ⟨g, 0, none⟩)) w wr)) (fun _ i _ => n - (intOf i).toNat)
    case atStart => exact ⟨0, k, cur, Nat.zero_le _, rfl, rfl, h0, by omega, Lib.hid (by simp), HG0, HC0, Lib.hid (by first | exact HasMarks.zero _ _ _ | (rw [Nat.zero_mul]; exact HasMarks.zero _ _ _)), Lib.hid (Chg.refl _ _)⟩
    case round =>
      clear HG0 HC0
      obtain ⟨j, z, cu, hj, rfl, rfl, z0, z1, HZ, HG, HC, HM, HX⟩ := hrel
      by_cases hlt : j < n
      · have hgr : g < wr.heap.size := (Array.getElem?_eq_some_iff.1 HG.out).1
        have hzb : z + 2 ≤ 1099511627776 := by have := HZ.out; omega
        have hju : j * 2 + 2 ≤ cu.size := by rw [HC.out]; omega
        have j0 : (0 : Int) ≤ (j : Int) := by omega
        have j1 : (j : Int) < (n : Int) := by omega
        have t0_0 : wr.cell? ⟨g, j * 2, none⟩ = some _ := block_cell HG.out (by omega)
        generalize cu[j * 2]'_ = y0_0 at t0_0
        have f0_0 : wr.frozen? ⟨g, j * 2, none⟩ = false := block_free HG.out _
        have t0_1 : wr.cell? ⟨g, j * 2 + 1, none⟩ = some _ := block_cell HG.out (by omega)
        generalize cu[j * 2 + 1]'_ = y0_1 at t0_1
        have f0_1 : wr.frozen? ⟨g, j * 2 + 1, none⟩ = false := block_free HG.out _
        go_wp2_with fail
        refine (markText_any (z + 1) _ (by omega)).mono ?_
        rintro e v1 ⟨rfl, hb1⟩
        have hg1 : v1.heap[g]? = some (.cells ((Array.setIfInBounds cu (j * 2) (.int .i64 (z)))) 99 (0, 0)) := (hb1.block g (by first | omega | (simp [World.setCell] <;> omega))).trans (block_set HG.out)
        have HX1 : Hid (Chg (blkOf (some ⟨g, 0, none⟩)) w v1) := Lib.hid (Chg.trans (show Chg _ w ((World.setCell wr ⟨g, j * 2, none⟩ (.int .i64 (z)))) from (Chg.setCell (p := ⟨g, _, none⟩) HX.out (.inl ⟨0, rfl⟩) _)) (Chg.of_below hb1 _))
        have hgr1 : g < v1.heap.size := (Array.getElem?_eq_some_iff.1 hg1).1
        clear hb1
        have t1_1 : v1.cell? ⟨g, j * 2 + 1, none⟩ = some _ := block_cell hg1 (by simp; omega)
        generalize (Array.setIfInBounds cu (j * 2) (.int .i64 (z)))[j * 2 + 1]'_ = y1_1 at t1_1
        have f1_1 : v1.frozen? ⟨g, j * 2 + 1, none⟩ = false := block_free hg1 _
        have HG1 := Lib.hid hg1; clear hg1
        go_wp2_with fail
        go_roundw
        case rel =>
          have m0 := HM.out
          have kv0 : .int .i64 (z) = mkv (k + ((j * 2 : Nat) : Int)) (KWaitS.getD ((j * 2) % KWaitS.length) undef) := by
            have e1 : (j * 2) % KWaitS.length = 0 := by show (j * 2) % 2 = 0; omega
            have e2 : k + ((j * 2 : Nat) : Int) = z := by have := HZ.out; push_cast; omega
            rw [e1, e2]; rfl
          have m1 := HasMarks.step m0 (by have := HC.out; (try simp only [Array.size_setIfInBounds]); omega) kv0
          have kv1 : .string (mtext (z + 1)) = mkv (k + ((j * 2 + 1 : Nat) : Int)) (KWaitS.getD ((j * 2 + 1) % KWaitS.length) undef) := by
            have e1 : (j * 2 + 1) % KWaitS.length = 1 := by show (j * 2 + 1) % 2 = 1; omega
            have e2 : k + ((j * 2 + 1 : Nat) : Int) = z + 1 := by have := HZ.out; push_cast; omega
            rw [e1, e2]; rfl
          have m2 := HasMarks.step m1 (by have := HC.out; (try simp only [Array.size_setIfInBounds]); omega) kv1
          refine ⟨j + 1, z + 1 + 1, (Array.setIfInBounds (Array.setIfInBounds cu (j * 2) (.int .i64 (z))) (j * 2 + 1) (.string (mtext (z + 1)))), by omega, by go_num, by first | rfl | (congr 1; omega), by omega, by omega, Lib.hid (by have := HZ.out; push_cast; omega), Lib.hid (block_set HG1.out), Lib.hid (by simpa using HC.out), Lib.hid ?_, Lib.hid (Chg.setCell (p := ⟨g, _, none⟩) HX1.out (.inl ⟨0, rfl⟩) _)⟩
          rw [show (j + 1) * 2 = j * 2 + 1 + 1 by omega]; exact m2
        case measure => simp [intOf]; omega
      · obtain rfl : j = n := by omega
        go_wp2_with fail
        go_ret
        exact ⟨ret_int HZ.out, HM.out.at_ HG.out, .inr ⟨g, cu, rfl, hlo, hhi, HG.out, HC.out, hnc⟩, HX.out.mono fun b _ h => ⟨hnp, h⟩⟩




end Go.Proofs.YtggdjiklgakfnaaGreatDoor
