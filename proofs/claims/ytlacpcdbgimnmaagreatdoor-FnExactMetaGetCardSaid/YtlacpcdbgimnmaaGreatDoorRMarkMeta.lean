/- Marks on heads and on snapshots, and what is held of them. Condition: the marks are below 2^40. -/
import Derived.Test.YtlacpcdbgimnmaaGreatDoorRMetaAt
set_option linter.unnecessarySimpa false
set_option linter.unusedSimpArgs false
set_option linter.unusedVariables false
namespace Go.Proofs.YtlacpcdbgimnmaaGreatDoor
open Go.RowKit
theorem ChgG.set {g o : Nat} {v : Value} {a w : World} (h : Chg (fun b => b = g) a w) : Chg (fun b => b = g) a (w.setCell ⟨g, o, none⟩ v) := h.setCell (.inl rfl) v
set_option maxRecDepth 100000 in
set_option maxHeartbeats 4000000 in
theorem heldPtrS_any (A : Option Addr) (n c : Nat) (k : Int) (w : World) (h : MarkedAt w KPtrS k A (n * 5)) (h0 : 0 ≤ k) (h1 : k + n * 5 ≤ 1099511627776) :
 Calls Tryz.prog 50 #[.slice A n c, .int .i64 k] w fun e w' => e = .returned (.int .i64 (k + n * 5)) ∧ Below w.heap.size w w' := by
 have hn : n ≤ 1099511627776 := by omega
 have H := Lib.hid h; clear h
 go_enter Tryz.func50, Tryz.ntmps50
 go_wp2_with fail
 go_loopw [1, 5] (fun kk i wr => ∃ (j : Nat) (z : Int), j ≤ n ∧ i = .int .i64 j ∧ kk = .int .i64 z ∧ 0 ≤ z ∧ z ≤ 1099511627776 ∧ Hid (z = k + (j : Int) * 5) ∧ Hid (Below w.heap.size w wr)) (fun _ i _ => n - (intOf i).toNat)
 case atStart => exact ⟨0, k, Nat.zero_le _, rfl, rfl, h0, by omega, Lib.hid (by simp), Lib.hid (Below.refl _ _)⟩
 obtain ⟨j, z, hj, rfl, rfl, z0, z1, HZ, HB⟩ := hrel
 by_cases hlt : j < n
 · obtain ⟨b, off, rfl, hbl, hc⟩ := (H.out.below HB.out) (by omega)
   have hzb : z + 5 ≤ 1099511627776 := by have := HZ.out; omega
   have q0_0 : wr.cell? ⟨b, off + j * 5, none⟩ = some (.int .i64 (z)) := by
    have hq := hc (j * 5) (by omega)
    rw [show (j * 5) % KPtrS.length = 0 by show (j * 5) % 5 = 0; omega] at hq
    have hz := HZ.out
    rw [show k + ((j * 5 : Nat) : Int) = z by push_cast; omega] at hq
    simpa [KPtrS, mkv, Nat.add_assoc] using hq
   have q0_1 : wr.cell? ⟨b, off + j * 5 + 1, none⟩ = some (.int .i64 (z + 1)) := by
    have hq := hc (j * 5 + 1) (by omega)
    rw [show (j * 5 + 1) % KPtrS.length = 1 by show (j * 5 + 1) % 5 = 1; omega] at hq
    have hz := HZ.out
    rw [show k + ((j * 5 + 1 : Nat) : Int) = z + 1 by push_cast; omega] at hq
    simpa [KPtrS, mkv, Nat.add_assoc] using hq
   have q0_2 : wr.cell? ⟨b, off + j * 5 + 2, none⟩ = some (.int .i64 (z + 1 + 1)) := by
    have hq := hc (j * 5 + 2) (by omega)
    rw [show (j * 5 + 2) % KPtrS.length = 2 by show (j * 5 + 2) % 5 = 2; omega] at hq
    have hz := HZ.out
    rw [show k + ((j * 5 + 2 : Nat) : Int) = z + 1 + 1 by push_cast; omega] at hq
    simpa [KPtrS, mkv, Nat.add_assoc] using hq
   have q0_3 : wr.cell? ⟨b, off + j * 5 + 3, none⟩ = some (.int .i64 (z + 1 + 1 + 1)) := by
    have hq := hc (j * 5 + 3) (by omega)
    rw [show (j * 5 + 3) % KPtrS.length = 3 by show (j * 5 + 3) % 5 = 3; omega] at hq
    have hz := HZ.out
    rw [show k + ((j * 5 + 3 : Nat) : Int) = z + 1 + 1 + 1 by push_cast; omega] at hq
    simpa [KPtrS, mkv, Nat.add_assoc] using hq
   have q0_4 : wr.cell? ⟨b, off + j * 5 + 4, none⟩ = some (.int .i64 (z + 1 + 1 + 1 + 1)) := by
    have hq := hc (j * 5 + 4) (by omega)
    rw [show (j * 5 + 4) % KPtrS.length = 4 by show (j * 5 + 4) % 5 = 4; omega] at hq
    have hz := HZ.out
    rw [show k + ((j * 5 + 4 : Nat) : Int) = z + 1 + 1 + 1 + 1 by push_cast; omega] at hq
    simpa [KPtrS, mkv, Nat.add_assoc] using hq
   clear hc
   have j0 : (0 : Int) ≤ (j : Int) := by omega
   have j1 : (j : Int) < (n : Int) := by omega
   go_wp2_with fail
   go_roundw
   case rel => exact ⟨j + 1, z + 1 + 1 + 1 + 1 + 1, by omega, by go_num, by first | rfl | (congr 1; omega), by omega, by omega, Lib.hid (by have := HZ.out; push_cast; omega), HB⟩
   simp [intOf]; omega
 obtain rfl : j = n := by omega
 go_wp2_with fail
 go_ret
 exact ⟨ret_int HZ.out, HB.out⟩
def headM (k : Int) (m : Nat) (A : Option Addr) (c : Nat) : List Value := [.string (mtext (k)), .int .i64 (k + 1), .int .i64 (k + 1 + 1), .int .i64 (k + 1 + 1 + 1), .int .i64 (k + 1 + 1 + 1 + 1), .int .i64 (k + 1 + 1 + 1 + 1 + 1), .int .i64 (k + 1 + 1 + 1 + 1 + 1 + 1), .int .i64 (k + 1 + 1 + 1 + 1 + 1 + 1 + 1), .int .i64 (k + 1 + 1 + 1 + 1 + 1 + 1 + 1 + 1), .slice A m c, .int .i64 (k + 1 + 1 + 1 + 1 + 1 + 1 + 1 + 1 + 1 + (m : Int) * 5)]
theorem headM_len (k : Int) (m : Nat) (A : Option Addr) (c : Nat) : (headM k m A c).length = 11 := rfl
theorem headM_dp (k : Int) (m : Nat) (A : Option Addr) (c : Nat) : (headM k m A c)[9]? = some (.slice A m c) := rfl
set_option maxRecDepth 100000 in
set_option maxHeartbeats 8000000 in
theorem markHeadS_any (o : Nat → Nat) (A : Option Addr) (n c : Nat) (ns : List Nat) (k : Int) (w : World) (lo hi : Nat) (h : ArrW o 46 11 9 0 200 w lo hi A n c ns) (hn100 : n ≤ 100) (h0 : 0 ≤ k) (h1 : k + nsum 10 ns n ≤ 1099511627776) :
 Calls Tryz.prog 21 #[.slice A n c, .int .i64 k] w fun e w' => e = .returned (.int .i64 (k + nsum 10 ns n)) ∧ MarkedL headM 11 10 9 o 46 0 200 w' k A n ns ∧ Chg (fun b => lo ≤ b ∧ b < hi ∧ (o b = 200 ∨ (0 ≤ o b ∧ o b < 0 + ns.length))) w w' := by
 obtain ⟨hl, h⟩ := h
 by_cases hn0 : n = 0
 · subst hn0
   go_enter Tryz.func21, Tryz.ntmps21
   go_wp2_with fail
   go_loop [1, 5] (fun kk i => kk = .int .i64 k ∧ i = .int .i64 ((0 : Nat) : Int)) (fun _ _ => 0)
   case atStart => exact ⟨rfl, rfl⟩
   obtain ⟨rfl, rfl⟩ := hrel
   go_wp2_with fail
   go_ret
   exact ⟨ret_int (by simp [nsum]), ⟨hl, fun h => absurd h (by omega)⟩, Chg.refl _ _⟩
 obtain ⟨g, cur0, rfl, hg1, hg2, hog, hg3, hg4, hg5, hg6, hg9⟩ := h (by omega)
 have HI0 : Hid (MkI headM 11 10 9 9 o 46 0 200 w lo hi g c k ns 0 w) := Lib.hid ⟨cur0, hg3, hg4, hg9, fun l x hl => absurd hl (by omega), Chg.refl _ _⟩
 have HL := Lib.hid hl
 have HD : Hid (∀ j, j ≤ n → k + nsum 10 ns j ≤ 1099511627776) := Lib.hid (fun j hj => by have := nsum_mono 10 ns hj; omega)
 have hn40 : n ≤ 9223372036854775807 := by omega
 have HOG := Lib.hid hog
 clear h hg3 hg4 hg6 hg9 h1 hl hog
 go_enter Tryz.func21, Tryz.ntmps21
 go_wp2_with fail
 go_loopw [1, 5] (fun kk i wr => ∃ (j : Nat) (z : Int), j ≤ n ∧ i = .int .i64 j ∧ kk = .int .i64 z ∧ 0 ≤ z ∧ z ≤ 1099511627776 ∧ Hid (z = k + nsum 10 ns j) ∧ Hid (MkI headM 11 10 9 9 o 46 0 200 w lo hi g c k ns j wr)) (fun _ i _ => n - (intOf i).toNat)
 case atStart => exact ⟨0, k, Nat.zero_le _, rfl, rfl, h0, by have := HD.out 0 (by omega); simp [nsum] at this; omega, Lib.hid (by simp [nsum]), HI0⟩
 clear HI0
 obtain ⟨j, z, hj, rfl, rfl, z0, z1, HZ, HI⟩ := hrel
 by_cases hlt : j < n
 case neg =>
  obtain rfl : j = n := by omega
  obtain ⟨cur, hg, hcs, hW, hM, hC⟩ := HI.out
  have HG := Lib.hid hg; have HM := Lib.hid hM; have HC := Lib.hid hC
  clear hg hcs hW hM hC
  go_wp2_with fail
  go_ret
  exact ⟨ret_int HZ.out, ⟨HL.out, fun _ => ⟨g, cur, rfl, HOG.out, HG.out, fun l m hl => HM.out l m (by have := (List.getElem?_eq_some_iff.1 hl).1; have := HL.out; omega) hl⟩⟩, HC.out⟩
 obtain ⟨m, hx⟩ : ∃ x, ns[j]? = some x := ⟨ns[j]'(by rw [HL.out]; exact hlt), List.getElem?_eq_getElem _⟩
 obtain ⟨cur, hg, hcs, hW, hM, hC⟩ := HI.out
 obtain ⟨A0, c0, q0, K0, L0⟩ := hW j m hx
 have hgl : g < wr.heap.size := (Array.getElem?_eq_some_iff.1 hg).1
 have hbz : z + (10 + (m : Int) * 5) ≤ 1099511627776 := by have := HD.out (j + 1) (by omega); rw [nsum_succ hx] at this; have := HZ.out; push_cast at this ⊢; omega
 have hju : j * 11 + 11 ≤ cur.size := by rw [hcs]; omega
 have j0 : (0 : Int) ≤ (j : Int) := by omega
 have j1 : (j : Int) < (n : Int) := by omega
 have HG := Lib.hid hg; have HCS := Lib.hid hcs; have HWW := Lib.hid hW; have HMM := Lib.hid hM; have HCC := Lib.hid hC; have HK0 := Lib.hid K0; have HQ0 := Lib.hid q0; have HX := Lib.hid hx; have HL0 := Lib.hid L0
 clear hg hcs hW hM hC K0 q0 hx L0
 have t0_0 : wr.cell? ⟨g, j * 11, none⟩ = some _ := block_cell HG.out (by omega)
 generalize cur[j * 11]'_ = y0_0 at t0_0
 have f0_0 : wr.frozen? ⟨g, j * 11, none⟩ = false := block_free HG.out _
 have t0_1 : wr.cell? ⟨g, j * 11 + 1, none⟩ = some _ := block_cell HG.out (by omega)
 generalize cur[j * 11 + 1]'_ = y0_1 at t0_1
 have f0_1 : wr.frozen? ⟨g, j * 11 + 1, none⟩ = false := block_free HG.out _
 have t0_2 : wr.cell? ⟨g, j * 11 + 2, none⟩ = some _ := block_cell HG.out (by omega)
 generalize cur[j * 11 + 2]'_ = y0_2 at t0_2
 have f0_2 : wr.frozen? ⟨g, j * 11 + 2, none⟩ = false := block_free HG.out _
 have t0_3 : wr.cell? ⟨g, j * 11 + 3, none⟩ = some _ := block_cell HG.out (by omega)
 generalize cur[j * 11 + 3]'_ = y0_3 at t0_3
 have f0_3 : wr.frozen? ⟨g, j * 11 + 3, none⟩ = false := block_free HG.out _
 have t0_4 : wr.cell? ⟨g, j * 11 + 4, none⟩ = some _ := block_cell HG.out (by omega)
 generalize cur[j * 11 + 4]'_ = y0_4 at t0_4
 have f0_4 : wr.frozen? ⟨g, j * 11 + 4, none⟩ = false := block_free HG.out _
 have t0_5 : wr.cell? ⟨g, j * 11 + 5, none⟩ = some _ := block_cell HG.out (by omega)
 generalize cur[j * 11 + 5]'_ = y0_5 at t0_5
 have f0_5 : wr.frozen? ⟨g, j * 11 + 5, none⟩ = false := block_free HG.out _
 have t0_6 : wr.cell? ⟨g, j * 11 + 6, none⟩ = some _ := block_cell HG.out (by omega)
 generalize cur[j * 11 + 6]'_ = y0_6 at t0_6
 have f0_6 : wr.frozen? ⟨g, j * 11 + 6, none⟩ = false := block_free HG.out _
 have t0_7 : wr.cell? ⟨g, j * 11 + 7, none⟩ = some _ := block_cell HG.out (by omega)
 generalize cur[j * 11 + 7]'_ = y0_7 at t0_7
 have f0_7 : wr.frozen? ⟨g, j * 11 + 7, none⟩ = false := block_free HG.out _
 have t0_8 : wr.cell? ⟨g, j * 11 + 8, none⟩ = some _ := block_cell HG.out (by omega)
 generalize cur[j * 11 + 8]'_ = y0_8 at t0_8
 have f0_8 : wr.frozen? ⟨g, j * 11 + 8, none⟩ = false := block_free HG.out _
 have t0_9 : wr.cell? ⟨g, j * 11 + 9, none⟩ = some _ := block_cell HG.out (by omega)
 have q0_ : wr.cell? ⟨g, j * 11 + 9, none⟩ = some (.slice A0 m c0) := (cell_of_row _ _ _ _ _ (0, 0) HG.out).trans (by exact HQ0.out)
 clear t0_9
 have f0_9 : wr.frozen? ⟨g, j * 11 + 9, none⟩ = false := block_free HG.out _
 have t0_10 : wr.cell? ⟨g, j * 11 + 10, none⟩ = some _ := block_cell HG.out (by omega)
 generalize cur[j * 11 + 10]'_ = y0_10 at t0_10
 have f0_10 : wr.frozen? ⟨g, j * 11 + 10, none⟩ = false := block_free HG.out _
 go_wp2_with fail
 refine (markText_any (z) _ (by omega)).mono ?_
 rintro e v1 ⟨rfl, hb1⟩
 have hg1 : v1.heap[g]? = some (.cells (cur) 46 (0, 0)) := (hb1.block g (by first | omega | (simp [World.setCell] <;> omega))).trans HG.out
 have HX1 : Hid (Chg (fun b => b = g) wr v1) := Lib.hid (Chg.trans (show Chg _ wr (wr) from (Chg.refl (fun b => b = g) _)) (Chg.of_below hb1 _))
 have hgr1 : g < v1.heap.size := (Array.getElem?_eq_some_iff.1 hg1).1
 clear hb1
 have t1_0 : v1.cell? ⟨g, j * 11, none⟩ = some _ := block_cell hg1 (by omega)
 generalize cur[j * 11]'_ = y1_0 at t1_0
 have f1_0 : v1.frozen? ⟨g, j * 11, none⟩ = false := block_free hg1 _
 have t1_1 : v1.cell? ⟨g, j * 11 + 1, none⟩ = some _ := block_cell hg1 (by omega)
 generalize cur[j * 11 + 1]'_ = y1_1 at t1_1
 have f1_1 : v1.frozen? ⟨g, j * 11 + 1, none⟩ = false := block_free hg1 _
 have t1_2 : v1.cell? ⟨g, j * 11 + 2, none⟩ = some _ := block_cell hg1 (by omega)
 generalize cur[j * 11 + 2]'_ = y1_2 at t1_2
 have f1_2 : v1.frozen? ⟨g, j * 11 + 2, none⟩ = false := block_free hg1 _
 have t1_3 : v1.cell? ⟨g, j * 11 + 3, none⟩ = some _ := block_cell hg1 (by omega)
 generalize cur[j * 11 + 3]'_ = y1_3 at t1_3
 have f1_3 : v1.frozen? ⟨g, j * 11 + 3, none⟩ = false := block_free hg1 _
 have t1_4 : v1.cell? ⟨g, j * 11 + 4, none⟩ = some _ := block_cell hg1 (by omega)
 generalize cur[j * 11 + 4]'_ = y1_4 at t1_4
 have f1_4 : v1.frozen? ⟨g, j * 11 + 4, none⟩ = false := block_free hg1 _
 have t1_5 : v1.cell? ⟨g, j * 11 + 5, none⟩ = some _ := block_cell hg1 (by omega)
 generalize cur[j * 11 + 5]'_ = y1_5 at t1_5
 have f1_5 : v1.frozen? ⟨g, j * 11 + 5, none⟩ = false := block_free hg1 _
 have t1_6 : v1.cell? ⟨g, j * 11 + 6, none⟩ = some _ := block_cell hg1 (by omega)
 generalize cur[j * 11 + 6]'_ = y1_6 at t1_6
 have f1_6 : v1.frozen? ⟨g, j * 11 + 6, none⟩ = false := block_free hg1 _
 have t1_7 : v1.cell? ⟨g, j * 11 + 7, none⟩ = some _ := block_cell hg1 (by omega)
 generalize cur[j * 11 + 7]'_ = y1_7 at t1_7
 have f1_7 : v1.frozen? ⟨g, j * 11 + 7, none⟩ = false := block_free hg1 _
 have t1_8 : v1.cell? ⟨g, j * 11 + 8, none⟩ = some _ := block_cell hg1 (by omega)
 generalize cur[j * 11 + 8]'_ = y1_8 at t1_8
 have f1_8 : v1.frozen? ⟨g, j * 11 + 8, none⟩ = false := block_free hg1 _
 have t1_9 : v1.cell? ⟨g, j * 11 + 9, none⟩ = some _ := block_cell hg1 (by omega)
 have q1_ : v1.cell? ⟨g, j * 11 + 9, none⟩ = some (.slice A0 m c0) := (cell_of_row _ _ _ _ _ (0, 0) hg1).trans (by exact HQ0.out)
 clear t1_9
 have f1_9 : v1.frozen? ⟨g, j * 11 + 9, none⟩ = false := block_free hg1 _
 have t1_10 : v1.cell? ⟨g, j * 11 + 10, none⟩ = some _ := block_cell hg1 (by omega)
 generalize cur[j * 11 + 10]'_ = y1_10 at t1_10
 have f1_10 : v1.frozen? ⟨g, j * 11 + 10, none⟩ = false := block_free hg1 _
 have HG1 := Lib.hid hg1; clear hg1
 have HGA : Hid (((World.setCell (World.setCell (World.setCell (World.setCell (World.setCell (World.setCell (World.setCell (World.setCell (World.setCell v1 ⟨g, j * 11, none⟩ (.string (mtext (z)))) ⟨g, j * 11 + 1, none⟩ (.int .i64 (z + 1))) ⟨g, j * 11 + 2, none⟩ (.int .i64 (z + 1 + 1))) ⟨g, j * 11 + 3, none⟩ (.int .i64 (z + 1 + 1 + 1))) ⟨g, j * 11 + 4, none⟩ (.int .i64 (z + 1 + 1 + 1 + 1))) ⟨g, j * 11 + 5, none⟩ (.int .i64 (z + 1 + 1 + 1 + 1 + 1))) ⟨g, j * 11 + 6, none⟩ (.int .i64 (z + 1 + 1 + 1 + 1 + 1 + 1))) ⟨g, j * 11 + 7, none⟩ (.int .i64 (z + 1 + 1 + 1 + 1 + 1 + 1 + 1))) ⟨g, j * 11 + 8, none⟩ (.int .i64 (z + 1 + 1 + 1 + 1 + 1 + 1 + 1 + 1)))).heap[g]? = some (.cells ((Array.setIfInBounds (Array.setIfInBounds (Array.setIfInBounds (Array.setIfInBounds (Array.setIfInBounds (Array.setIfInBounds (Array.setIfInBounds (Array.setIfInBounds (Array.setIfInBounds cur (j * 11) (.string (mtext (z)))) (j * 11 + 1) (.int .i64 (z + 1))) (j * 11 + 2) (.int .i64 (z + 1 + 1))) (j * 11 + 3) (.int .i64 (z + 1 + 1 + 1))) (j * 11 + 4) (.int .i64 (z + 1 + 1 + 1 + 1))) (j * 11 + 5) (.int .i64 (z + 1 + 1 + 1 + 1 + 1))) (j * 11 + 6) (.int .i64 (z + 1 + 1 + 1 + 1 + 1 + 1))) (j * 11 + 7) (.int .i64 (z + 1 + 1 + 1 + 1 + 1 + 1 + 1))) (j * 11 + 8) (.int .i64 (z + 1 + 1 + 1 + 1 + 1 + 1 + 1 + 1)))) 46 (0, 0))) := Lib.hid (block_set (block_set (block_set (block_set (block_set (block_set (block_set (block_set (block_set HG1.out)))))))))
 have HCA : Hid (Chg (fun b => b = g) wr ((World.setCell (World.setCell (World.setCell (World.setCell (World.setCell (World.setCell (World.setCell (World.setCell (World.setCell v1 ⟨g, j * 11, none⟩ (.string (mtext (z)))) ⟨g, j * 11 + 1, none⟩ (.int .i64 (z + 1))) ⟨g, j * 11 + 2, none⟩ (.int .i64 (z + 1 + 1))) ⟨g, j * 11 + 3, none⟩ (.int .i64 (z + 1 + 1 + 1))) ⟨g, j * 11 + 4, none⟩ (.int .i64 (z + 1 + 1 + 1 + 1))) ⟨g, j * 11 + 5, none⟩ (.int .i64 (z + 1 + 1 + 1 + 1 + 1))) ⟨g, j * 11 + 6, none⟩ (.int .i64 (z + 1 + 1 + 1 + 1 + 1 + 1))) ⟨g, j * 11 + 7, none⟩ (.int .i64 (z + 1 + 1 + 1 + 1 + 1 + 1 + 1))) ⟨g, j * 11 + 8, none⟩ (.int .i64 (z + 1 + 1 + 1 + 1 + 1 + 1 + 1 + 1))))) := Lib.hid (ChgG.set (ChgG.set (ChgG.set (ChgG.set (ChgG.set (ChgG.set (ChgG.set (ChgG.set (ChgG.set HX1.out)))))))))
 have hjn : j < ns.length := by rw [HL.out]; exact hlt
 have hne : ∀ b, 0 < c0 → blkOf A0 b → b ≠ g := fun b hc hb e => by have h_ := HL0.out hc b hb; rw [e, HOG.out] at h_; have := HL.out; omega
 have HKA : Hid (Whole ((World.setCell (World.setCell (World.setCell (World.setCell (World.setCell (World.setCell (World.setCell (World.setCell (World.setCell v1 ⟨g, j * 11, none⟩ (.string (mtext (z)))) ⟨g, j * 11 + 1, none⟩ (.int .i64 (z + 1))) ⟨g, j * 11 + 2, none⟩ (.int .i64 (z + 1 + 1))) ⟨g, j * 11 + 3, none⟩ (.int .i64 (z + 1 + 1 + 1))) ⟨g, j * 11 + 4, none⟩ (.int .i64 (z + 1 + 1 + 1 + 1))) ⟨g, j * 11 + 5, none⟩ (.int .i64 (z + 1 + 1 + 1 + 1 + 1))) ⟨g, j * 11 + 6, none⟩ (.int .i64 (z + 1 + 1 + 1 + 1 + 1 + 1))) ⟨g, j * 11 + 7, none⟩ (.int .i64 (z + 1 + 1 + 1 + 1 + 1 + 1 + 1))) ⟨g, j * 11 + 8, none⟩ (.int .i64 (z + 1 + 1 + 1 + 1 + 1 + 1 + 1 + 1)))) 37 5 lo hi A0 m c0) := Lib.hid (HK0.out.sameL (fun hc b hb hlt_ => HCA.out.block b hlt_ (hne b hc hb)))
 have hzA : wr.heap.size ≤ ((World.setCell (World.setCell (World.setCell (World.setCell (World.setCell (World.setCell (World.setCell (World.setCell (World.setCell v1 ⟨g, j * 11, none⟩ (.string (mtext (z)))) ⟨g, j * 11 + 1, none⟩ (.int .i64 (z + 1))) ⟨g, j * 11 + 2, none⟩ (.int .i64 (z + 1 + 1))) ⟨g, j * 11 + 3, none⟩ (.int .i64 (z + 1 + 1 + 1))) ⟨g, j * 11 + 4, none⟩ (.int .i64 (z + 1 + 1 + 1 + 1))) ⟨g, j * 11 + 5, none⟩ (.int .i64 (z + 1 + 1 + 1 + 1 + 1))) ⟨g, j * 11 + 6, none⟩ (.int .i64 (z + 1 + 1 + 1 + 1 + 1 + 1))) ⟨g, j * 11 + 7, none⟩ (.int .i64 (z + 1 + 1 + 1 + 1 + 1 + 1 + 1))) ⟨g, j * 11 + 8, none⟩ (.int .i64 (z + 1 + 1 + 1 + 1 + 1 + 1 + 1 + 1)))).heap.size := HCA.out.size
 go_wp2_with fail
 refine (markPtrS_any A0 m c0 (z + 1 + 1 + 1 + 1 + 1 + 1 + 1 + 1 + 1) _ lo hi HKA.out (by omega) (by omega)).mono ?_
 rintro e w2 ⟨rfl, mk, wh, hc2⟩
 have hgA : g < ((World.setCell (World.setCell (World.setCell (World.setCell (World.setCell (World.setCell (World.setCell (World.setCell (World.setCell v1 ⟨g, j * 11, none⟩ (.string (mtext (z)))) ⟨g, j * 11 + 1, none⟩ (.int .i64 (z + 1))) ⟨g, j * 11 + 2, none⟩ (.int .i64 (z + 1 + 1))) ⟨g, j * 11 + 3, none⟩ (.int .i64 (z + 1 + 1 + 1))) ⟨g, j * 11 + 4, none⟩ (.int .i64 (z + 1 + 1 + 1 + 1))) ⟨g, j * 11 + 5, none⟩ (.int .i64 (z + 1 + 1 + 1 + 1 + 1))) ⟨g, j * 11 + 6, none⟩ (.int .i64 (z + 1 + 1 + 1 + 1 + 1 + 1))) ⟨g, j * 11 + 7, none⟩ (.int .i64 (z + 1 + 1 + 1 + 1 + 1 + 1 + 1))) ⟨g, j * 11 + 8, none⟩ (.int .i64 (z + 1 + 1 + 1 + 1 + 1 + 1 + 1 + 1)))).heap.size := by omega
 have hg2 : w2.heap[g]? = some (.cells ((Array.setIfInBounds (Array.setIfInBounds (Array.setIfInBounds (Array.setIfInBounds (Array.setIfInBounds (Array.setIfInBounds (Array.setIfInBounds (Array.setIfInBounds (Array.setIfInBounds cur (j * 11) (.string (mtext (z)))) (j * 11 + 1) (.int .i64 (z + 1))) (j * 11 + 2) (.int .i64 (z + 1 + 1))) (j * 11 + 3) (.int .i64 (z + 1 + 1 + 1))) (j * 11 + 4) (.int .i64 (z + 1 + 1 + 1 + 1))) (j * 11 + 5) (.int .i64 (z + 1 + 1 + 1 + 1 + 1))) (j * 11 + 6) (.int .i64 (z + 1 + 1 + 1 + 1 + 1 + 1))) (j * 11 + 7) (.int .i64 (z + 1 + 1 + 1 + 1 + 1 + 1 + 1))) (j * 11 + 8) (.int .i64 (z + 1 + 1 + 1 + 1 + 1 + 1 + 1 + 1)))) 46 (0, 0)) := (hc2.block g hgA (fun h => hne g (wh.pos h.1) h.2 rfl)).trans HGA.out
 have HMK : Hid (MarkedAt w2 KPtrS (z + ((9 : Nat) : Int)) A0 (m * 5)) := Lib.hid (by have h_ := mk; rwa [show z + 1 + 1 + 1 + 1 + 1 + 1 + 1 + 1 + 1 = z + ((9 : Nat) : Int) by omega] at h_)
 have HWH := Lib.hid wh; have HC2 := Lib.hid hc2
 have pr0 := PutRow.nil cur (j * 11)
 have pr1 := PutRow.set (n := 0) pr0 (.string (mtext (z))) rfl (by omega)
 have pr2 := PutRow.set (n := 1) pr1 (.int .i64 (z + 1)) rfl (by omega)
 have pr3 := PutRow.set (n := 2) pr2 (.int .i64 (z + 1 + 1)) rfl (by omega)
 have pr4 := PutRow.set (n := 3) pr3 (.int .i64 (z + 1 + 1 + 1)) rfl (by omega)
 have pr5 := PutRow.set (n := 4) pr4 (.int .i64 (z + 1 + 1 + 1 + 1)) rfl (by omega)
 have pr6 := PutRow.set (n := 5) pr5 (.int .i64 (z + 1 + 1 + 1 + 1 + 1)) rfl (by omega)
 have pr7 := PutRow.set (n := 6) pr6 (.int .i64 (z + 1 + 1 + 1 + 1 + 1 + 1)) rfl (by omega)
 have pr8 := PutRow.set (n := 7) pr7 (.int .i64 (z + 1 + 1 + 1 + 1 + 1 + 1 + 1)) rfl (by omega)
 have pr9 := PutRow.set (n := 8) pr8 (.int .i64 (z + 1 + 1 + 1 + 1 + 1 + 1 + 1 + 1)) rfl (by omega)
 have pr10 := PutRow.skip (n := 9) pr9 rfl HQ0.out
 have pr11 := PutRow.set (n := 10) pr10 (.int .i64 (z + 1 + 1 + 1 + 1 + 1 + 1 + 1 + 1 + 1 + (m : Int) * 5)) rfl (by omega)
 have HPR := Lib.hid pr11; clear mk wh hc2 pr0 pr1 pr2 pr3 pr4 pr5 pr6 pr7 pr8 pr9 pr10 pr11
 have u10 : w2.cell? ⟨g, j * 11 + 10, none⟩ = some _ := block_cell hg2 (by simp; omega)
 generalize ((Array.setIfInBounds (Array.setIfInBounds (Array.setIfInBounds (Array.setIfInBounds (Array.setIfInBounds (Array.setIfInBounds (Array.setIfInBounds (Array.setIfInBounds (Array.setIfInBounds cur (j * 11) (.string (mtext (z)))) (j * 11 + 1) (.int .i64 (z + 1))) (j * 11 + 2) (.int .i64 (z + 1 + 1))) (j * 11 + 3) (.int .i64 (z + 1 + 1 + 1))) (j * 11 + 4) (.int .i64 (z + 1 + 1 + 1 + 1))) (j * 11 + 5) (.int .i64 (z + 1 + 1 + 1 + 1 + 1))) (j * 11 + 6) (.int .i64 (z + 1 + 1 + 1 + 1 + 1 + 1))) (j * 11 + 7) (.int .i64 (z + 1 + 1 + 1 + 1 + 1 + 1 + 1))) (j * 11 + 8) (.int .i64 (z + 1 + 1 + 1 + 1 + 1 + 1 + 1 + 1))))[j * 11 + 10]'_ = yu10 at u10
 have uf10 := block_free hg2 (j * 11 + 10)
 have HG2 := Lib.hid hg2; have l2 : g < w2.heap.size := (Array.getElem?_eq_some_iff.1 hg2).1; clear hg2
 go_wp2_with fail
 go_roundw
 case rel =>
  refine ⟨j + 1, z + 1 + 1 + 1 + 1 + 1 + 1 + 1 + 1 + 1 + (m : Int) * 5 + 1, by omega, by go_num, by first | rfl | (congr 1; omega), by omega, by omega, Lib.hid (by have := HZ.out; have := nsum_succ (sc := 10) HX.out; push_cast at this ⊢; omega), Lib.hid ?_⟩
  exact MkI.step headM_len headM_dp (fun l hl => by omega) (wA := (World.setCell (World.setCell (World.setCell (World.setCell (World.setCell (World.setCell (World.setCell (World.setCell (World.setCell v1 ⟨g, j * 11, none⟩ (.string (mtext (z)))) ⟨g, j * 11 + 1, none⟩ (.int .i64 (z + 1))) ⟨g, j * 11 + 2, none⟩ (.int .i64 (z + 1 + 1))) ⟨g, j * 11 + 3, none⟩ (.int .i64 (z + 1 + 1 + 1))) ⟨g, j * 11 + 4, none⟩ (.int .i64 (z + 1 + 1 + 1 + 1))) ⟨g, j * 11 + 5, none⟩ (.int .i64 (z + 1 + 1 + 1 + 1 + 1))) ⟨g, j * 11 + 6, none⟩ (.int .i64 (z + 1 + 1 + 1 + 1 + 1 + 1))) ⟨g, j * 11 + 7, none⟩ (.int .i64 (z + 1 + 1 + 1 + 1 + 1 + 1 + 1))) ⟨g, j * 11 + 8, none⟩ (.int .i64 (z + 1 + 1 + 1 + 1 + 1 + 1 + 1 + 1)))) (w2 := w2) (by rw [HL.out]; exact hn100) HX.out HZ.out hg1 hg2 HOG.out HG.out HCS.out HWW.out HMM.out HCC.out HQ0.out HCA.out HMK.out HWH.out HC2.out (ChgG.set (Chg.refl (fun b => b = g) _)) (block_set HG2.out) HPR.out.1 HPR.out.2.1 HPR.out.2.2
 simp [intOf]; omega
set_option maxRecDepth 100000 in
set_option maxHeartbeats 8000000 in
theorem heldHeadS_any (o : Nat → Nat) (A : Option Addr) (n c : Nat) (ns : List Nat) (k : Int) (w : World) (h : MarkedL headM 11 10 9 o 46 0 200 w k A n ns) (hn100 : n ≤ 100) (h0 : 0 ≤ k) (h1 : k + nsum 10 ns n ≤ 1099511627776) :
 Calls Tryz.prog 23 #[.slice A n c, .int .i64 k] w fun e w' => e = .returned (.int .i64 (k + nsum 10 ns n)) ∧ Below w.heap.size w w' := by
 have HL := Lib.hid h.1
 have H := Lib.hid h; clear h
 have HD : Hid (∀ j, j ≤ n → k + nsum 10 ns j ≤ 1099511627776) := Lib.hid (fun j hj => by have := nsum_mono 10 ns hj; omega)
 have hn40 : n ≤ 9223372036854775807 := by omega
 clear h1
 go_enter Tryz.func23, Tryz.ntmps23
 go_wp2_with fail
 go_loopw [1, 5] (fun kk i wr => ∃ (j : Nat) (z : Int), j ≤ n ∧ i = .int .i64 j ∧ kk = .int .i64 z ∧ 0 ≤ z ∧ z ≤ 1099511627776 ∧ Hid (z = k + nsum 10 ns j) ∧ Hid (Below w.heap.size w wr)) (fun _ i _ => n - (intOf i).toNat)
 case atStart => exact ⟨0, k, Nat.zero_le _, rfl, rfl, h0, by have := HD.out 0 (by omega); simp [nsum] at this; omega, Lib.hid (by simp [nsum]), Lib.hid (Below.refl _ _)⟩
 obtain ⟨j, z, hj, rfl, rfl, z0, z1, HZ, HB⟩ := hrel
 by_cases hlt : j < n
 case neg =>
  obtain rfl : j = n := by omega
  go_wp2_with fail
  go_ret
  exact ⟨ret_int HZ.out, HB.out⟩
 obtain ⟨m, hx⟩ : ∃ x, ns[j]? = some x := ⟨ns[j]'(by rw [HL.out]; exact hlt), List.getElem?_eq_getElem _⟩
 obtain ⟨g, cur, rfl, _, hg, hm⟩ := (H.out.below headM_len HB.out).2 (by omega)
 obtain ⟨A0, c0, hrow, hmk, _⟩ := hm j m hx
 rw [← HZ.out] at hrow hmk
 have hgl : g < wr.heap.size := (Array.getElem?_eq_some_iff.1 hg).1
 have hbz : z + (10 + (m : Int) * 5) ≤ 1099511627776 := by have := HD.out (j + 1) (by omega); rw [nsum_succ hx] at this; have := HZ.out; push_cast at this ⊢; omega
 have HX := Lib.hid hx; have HMK := Lib.hid hmk
 have j0 : (0 : Int) ≤ (j : Int) := by omega
 have j1 : (j : Int) < (n : Int) := by omega
 have q0_0 : wr.cell? ⟨g, j * 11, none⟩ = some (.string (mtext (z))) := (cell_of_row _ _ _ _ _ (0, 0) hg).trans (hrow 0 _ rfl)
 have q0_1 : wr.cell? ⟨g, j * 11 + 1, none⟩ = some (.int .i64 (z + 1)) := (cell_of_row _ _ _ _ _ (0, 0) hg).trans (hrow 1 _ rfl)
 have q0_2 : wr.cell? ⟨g, j * 11 + 2, none⟩ = some (.int .i64 (z + 1 + 1)) := (cell_of_row _ _ _ _ _ (0, 0) hg).trans (hrow 2 _ rfl)
 have q0_3 : wr.cell? ⟨g, j * 11 + 3, none⟩ = some (.int .i64 (z + 1 + 1 + 1)) := (cell_of_row _ _ _ _ _ (0, 0) hg).trans (hrow 3 _ rfl)
 have q0_4 : wr.cell? ⟨g, j * 11 + 4, none⟩ = some (.int .i64 (z + 1 + 1 + 1 + 1)) := (cell_of_row _ _ _ _ _ (0, 0) hg).trans (hrow 4 _ rfl)
 have q0_5 : wr.cell? ⟨g, j * 11 + 5, none⟩ = some (.int .i64 (z + 1 + 1 + 1 + 1 + 1)) := (cell_of_row _ _ _ _ _ (0, 0) hg).trans (hrow 5 _ rfl)
 have q0_6 : wr.cell? ⟨g, j * 11 + 6, none⟩ = some (.int .i64 (z + 1 + 1 + 1 + 1 + 1 + 1)) := (cell_of_row _ _ _ _ _ (0, 0) hg).trans (hrow 6 _ rfl)
 have q0_7 : wr.cell? ⟨g, j * 11 + 7, none⟩ = some (.int .i64 (z + 1 + 1 + 1 + 1 + 1 + 1 + 1)) := (cell_of_row _ _ _ _ _ (0, 0) hg).trans (hrow 7 _ rfl)
 have q0_8 : wr.cell? ⟨g, j * 11 + 8, none⟩ = some (.int .i64 (z + 1 + 1 + 1 + 1 + 1 + 1 + 1 + 1)) := (cell_of_row _ _ _ _ _ (0, 0) hg).trans (hrow 8 _ rfl)
 have q0_9 : wr.cell? ⟨g, j * 11 + 9, none⟩ = some (.slice A0 m c0) := (cell_of_row _ _ _ _ _ (0, 0) hg).trans (hrow 9 _ rfl)
 have q0_10 : wr.cell? ⟨g, j * 11 + 10, none⟩ = some (.int .i64 (z + 1 + 1 + 1 + 1 + 1 + 1 + 1 + 1 + 1 + (m : Int) * 5)) := (cell_of_row _ _ _ _ _ (0, 0) hg).trans (hrow 10 _ rfl)
 clear hrow hm hx hmk hg
 go_wp2_with fail
 apply wp_region_rg (by kernel_rfl) (false :: false :: false :: false :: false :: false :: false :: false :: false :: false :: false :: false :: true :: true :: true :: true :: true :: true :: true :: true :: false :: false :: false :: false :: false :: false :: false :: false :: false :: false :: false :: false :: false :: false :: false :: false :: false :: false :: false :: false :: false :: false :: false :: false :: false :: false :: false :: false :: false :: false :: false :: false :: false :: false :: false :: false :: false :: false :: false :: false :: false :: false :: false :: false :: false :: false :: false :: false :: false :: false :: false :: false :: false :: false :: false :: false :: false :: false :: false :: false :: false :: false :: false :: false :: false :: false :: false :: false :: false :: false :: false :: false :: false :: false :: false :: false :: false :: false :: false :: false :: false :: false :: false :: false :: false :: false :: false :: false :: false :: false :: false :: false :: false :: false :: false :: false :: false :: false :: false :: false :: false :: false :: false :: false :: false :: []) [some 12, some 13, some 14, some 15, some 16, some 17, some 18, some 19] [[], [], [0, 1], [2], [3], [], [5], [4, 6]] [StP.is _, StP.is _, StP.is _, StP.is _, StP.is _, StP.is _, StP.is _, StP.is _] (by kernel_rfl)
 case hobs =>
  refine ⟨fun y w' hS hF K hK => ?_, ?_⟩
  · skip
    simp only [fillL, cond_true, cond_false, zG0, zG1, StP.is, Act.put, zS2, zS0, zS1, Nat.reduceAdd] at hK ⊢
    refine rg_yes (by kernel_rfl) ?_
    clear hF
    go_simp
    exact hK _ _ (Ext.refl _) rfl
  refine ⟨fun y w' hS hF K hK => ?_, ?_⟩
  · skip
    simp only [fillL, cond_true, cond_false, zG0, zG1, StP.is, Act.put, zS2, zS0, zS1, Nat.reduceAdd] at hK ⊢
    refine rg_yes (by kernel_rfl) ?_
    clear hF
    go_simp
    exact hK _ _ (Ext.refl _) rfl
  refine ⟨fun y w' hS hF K hK => ?_, ?_⟩
  · skip
    have e12 : y 12 = _ := hF.1
    have e13 : y 13 = _ := hF.2.1
    simp only [fillL, cond_true, cond_false, zG0, zG1, StP.is, Act.put, zS2, zS0, zS1, Nat.reduceAdd, e12, e13] at hK ⊢
    refine rg_yes (by kernel_rfl) ?_
    clear e12 e13
    clear hF
    go_simp
    exact hK _ _ (Ext.refl _) rfl
  refine ⟨fun y w' hS hF K hK => ?_, ?_⟩
  · skip
    have e14 : y 14 = _ := hF.1
    simp only [fillL, cond_true, cond_false, zG0, zG1, StP.is, Act.put, zS2, zS0, zS1, Nat.reduceAdd, e14] at hK ⊢
    refine rg_yes (by kernel_rfl) ?_
    clear e14
    clear hF
    go_simp
    exact hK _ _ (Ext.refl _) rfl
  refine ⟨fun y w' hS hF K hK => ?_, ?_⟩
  · skip
    have e15 : y 15 = _ := hF.1
    simp only [fillL, cond_true, cond_false, zG0, zG1, StP.is, Act.put, zS2, zS0, zS1, Nat.reduceAdd, e15] at hK ⊢
    refine rg_yes (by kernel_rfl) ?_
    have qx0_ := (Below.cell hS hgl).trans q0_0
    have qx1_ := (Below.cell hS hgl).trans q0_1
    have qx2_ := (Below.cell hS hgl).trans q0_2
    have qx3_ := (Below.cell hS hgl).trans q0_3
    have qx4_ := (Below.cell hS hgl).trans q0_4
    have qx5_ := (Below.cell hS hgl).trans q0_5
    have qx6_ := (Below.cell hS hgl).trans q0_6
    have qx7_ := (Below.cell hS hgl).trans q0_7
    have qx8_ := (Below.cell hS hgl).trans q0_8
    have qx9_ := (Below.cell hS hgl).trans q0_9
    have qx10_ := (Below.cell hS hgl).trans q0_10
    clear e15
    clear hF
    go_simp
    exact hK _ _ (Ext.refl _) rfl
  refine ⟨fun y w' hS hF K hK => ?_, ?_⟩
  · skip
    simp only [fillL, cond_true, cond_false, zG0, zG1, StP.is, Act.put, zS2, zS0, zS1, Nat.reduceAdd] at hK ⊢
    refine rg_yes (by kernel_rfl) ?_
    clear hF
    go_simp
    exact hK _ _ (Ext.refl _) rfl
  refine ⟨fun y w' hS hF K hK => ?_, ?_⟩
  · skip
    have e17 : y 17 = _ := hF.1
    simp only [fillL, cond_true, cond_false, zG0, zG1, StP.is, Act.put, zS2, zS0, zS1, Nat.reduceAdd, e17] at hK ⊢
    refine rg_yes (by kernel_rfl) ?_
    clear e17
    clear hF
    go_simp
    go_at_call 48
    refine (markText_any (z) _ (by omega)).mono ?_
    rintro e w'' ⟨rfl, hb⟩
    exact hK _ _ hb rfl
  refine ⟨fun y w' hS hF K hK => ?_, ?_⟩
  · skip
    have e16 : y 16 = _ := hF.1
    have e18 : y 18 = _ := hF.2.1
    simp only [fillL, cond_true, cond_false, zG0, zG1, StP.is, Act.put, zS2, zS0, zS1, Nat.reduceAdd, e16, e18] at hK ⊢
    refine rg_yes (by kernel_rfl) ?_
    clear e16 e18
    clear hF
    go_simp
    exact hK _ _ (Ext.refl _) rfl
  trivial
 intro y v1 hX hF
 have e19 : y 19 = _ := hF.2.2.2.2.2.2.2.1
 clear hF
 simp only [fillL, cond_true, cond_false, Nat.reduceAdd, e19]
 clear e19
 have q1_0 := (Below.cell hX hgl).trans q0_0
 have q1_1 := (Below.cell hX hgl).trans q0_1
 have q1_2 := (Below.cell hX hgl).trans q0_2
 have q1_3 := (Below.cell hX hgl).trans q0_3
 have q1_4 := (Below.cell hX hgl).trans q0_4
 have q1_5 := (Below.cell hX hgl).trans q0_5
 have q1_6 := (Below.cell hX hgl).trans q0_6
 have q1_7 := (Below.cell hX hgl).trans q0_7
 have q1_8 := (Below.cell hX hgl).trans q0_8
 have q1_9 := (Below.cell hX hgl).trans q0_9
 have q1_10 := (Below.cell hX hgl).trans q0_10
 have hgl1 : g < v1.heap.size := Nat.lt_of_lt_of_le hgl (Below.size hX)
 have HB1 : Hid (Below w.heap.size w v1) := Lib.hid (Below.trans HB.out (Below.mono hX (Below.size HB.out)))
 have HMK := Lib.hid (HMK.out.below hX)
 clear hX q0_0 q0_1 q0_2 q0_3 q0_4 q0_5 q0_6 q0_7 q0_8 q0_9 q0_10 hgl
 go_wp2_with fail
 refine (heldPtrS_any A0 m c0 (z + 1 + 1 + 1 + 1 + 1 + 1 + 1 + 1 + 1) _ (by have h_ := HMK.out; rwa [show z + ((9 : Nat) : Int) = z + 1 + 1 + 1 + 1 + 1 + 1 + 1 + 1 + 1 by omega] at h_) (by omega) (by omega)).mono ?_
 rintro e w2 ⟨rfl, hb2⟩
 have dk : decide (z + 1 + 1 + 1 + 1 + 1 + 1 + 1 + 1 + 1 + (m : Int) * 5 < 0) = false := by simp; omega
 have dk2 : ¬ (z + 1 + 1 + 1 + 1 + 1 + 1 + 1 + 1 + 1 + (m : Int) * 5 < 0) := by omega
 have qe_10 := (hb2.cell hgl1).trans q1_10
 have lg2 : g < w2.heap.size := Nat.lt_of_lt_of_le hgl1 hb2.size
 have HBE : Hid (Below w.heap.size w w2) := Lib.hid (Below.trans HB1.out (hb2.mono (Below.size HB1.out)))
 clear hb2 q1_0 q1_1 q1_2 q1_3 q1_4 q1_5 q1_6 q1_7 q1_8 q1_9 q1_10
 go_wp2_with fail
 go_roundw
 case rel => exact ⟨j + 1, z + 1 + 1 + 1 + 1 + 1 + 1 + 1 + 1 + 1 + (m : Int) * 5 + 1, by omega, by go_num, by first | rfl | (congr 1; omega), by omega, by omega, Lib.hid (by have := HZ.out; have := nsum_succ (sc := 10) HX.out; push_cast at this ⊢; omega), HBE⟩
 simp [intOf]; omega
def snapM (k : Int) (m : Nat) (A : Option Addr) (c : Nat) : List Value := [.int .i64 (k), .string (mtext (k + 1)), .int .i64 (k + 1 + 1), .int .i64 (k + 1 + 1 + 1), .int .i64 (k + 1 + 1 + 1 + 1), .int .i64 (k + 1 + 1 + 1 + 1 + 1), .int .i64 (k + 1 + 1 + 1 + 1 + 1 + 1), .int .i64 (k + 1 + 1 + 1 + 1 + 1 + 1 + 1), .int .i64 (k + 1 + 1 + 1 + 1 + 1 + 1 + 1 + 1), .int .i64 (k + 1 + 1 + 1 + 1 + 1 + 1 + 1 + 1 + 1), .int .i64 (k + 1 + 1 + 1 + 1 + 1 + 1 + 1 + 1 + 1 + 1), .slice A m c]
theorem snapM_len (k : Int) (m : Nat) (A : Option Addr) (c : Nat) : (snapM k m A c).length = 12 := rfl
theorem snapM_dp (k : Int) (m : Nat) (A : Option Addr) (c : Nat) : (snapM k m A c)[11]? = some (.slice A m c) := rfl
set_option maxRecDepth 100000 in
set_option maxHeartbeats 8000000 in
theorem markSnapS_any (o : Nat → Nat) (A : Option Addr) (n c : Nat) (ns : List Nat) (k : Int) (w : World) (lo hi : Nat) (h : ArrW o 44 12 11 100 201 w lo hi A n c ns) (hn100 : n ≤ 100) (h0 : 0 ≤ k) (h1 : k + nsum 11 ns n ≤ 1099511627776) :
 Calls Tryz.prog 22 #[.slice A n c, .int .i64 k] w fun e w' => e = .returned (.int .i64 (k + nsum 11 ns n)) ∧ MarkedL snapM 12 11 11 o 44 100 201 w' k A n ns ∧ Chg (fun b => lo ≤ b ∧ b < hi ∧ (o b = 201 ∨ (100 ≤ o b ∧ o b < 100 + ns.length))) w w' := by
 obtain ⟨hl, h⟩ := h
 by_cases hn0 : n = 0
 · subst hn0
   go_enter Tryz.func22, Tryz.ntmps22
   go_wp2_with fail
   go_loop [1, 5] (fun kk i => kk = .int .i64 k ∧ i = .int .i64 ((0 : Nat) : Int)) (fun _ _ => 0)
   case atStart => exact ⟨rfl, rfl⟩
   obtain ⟨rfl, rfl⟩ := hrel
   go_wp2_with fail
   go_ret
   exact ⟨ret_int (by simp [nsum]), ⟨hl, fun h => absurd h (by omega)⟩, Chg.refl _ _⟩
 obtain ⟨g, cur0, rfl, hg1, hg2, hog, hg3, hg4, hg5, hg6, hg9⟩ := h (by omega)
 have HI0 : Hid (MkI snapM 12 11 11 11 o 44 100 201 w lo hi g c k ns 0 w) := Lib.hid ⟨cur0, hg3, hg4, hg9, fun l x hl => absurd hl (by omega), Chg.refl _ _⟩
 have HL := Lib.hid hl
 have HD : Hid (∀ j, j ≤ n → k + nsum 11 ns j ≤ 1099511627776) := Lib.hid (fun j hj => by have := nsum_mono 11 ns hj; omega)
 have hn40 : n ≤ 9223372036854775807 := by omega
 have HOG := Lib.hid hog
 clear h hg3 hg4 hg6 hg9 h1 hl hog
 go_enter Tryz.func22, Tryz.ntmps22
 go_wp2_with fail
 go_loopw [1, 5] (fun kk i wr => ∃ (j : Nat) (z : Int), j ≤ n ∧ i = .int .i64 j ∧ kk = .int .i64 z ∧ 0 ≤ z ∧ z ≤ 1099511627776 ∧ Hid (z = k + nsum 11 ns j) ∧ Hid (MkI snapM 12 11 11 11 o 44 100 201 w lo hi g c k ns j wr)) (fun _ i _ => n - (intOf i).toNat)
 case atStart => exact ⟨0, k, Nat.zero_le _, rfl, rfl, h0, by have := HD.out 0 (by omega); simp [nsum] at this; omega, Lib.hid (by simp [nsum]), HI0⟩
 clear HI0
 obtain ⟨j, z, hj, rfl, rfl, z0, z1, HZ, HI⟩ := hrel
 by_cases hlt : j < n
 case neg =>
  obtain rfl : j = n := by omega
  obtain ⟨cur, hg, hcs, hW, hM, hC⟩ := HI.out
  have HG := Lib.hid hg; have HM := Lib.hid hM; have HC := Lib.hid hC
  clear hg hcs hW hM hC
  go_wp2_with fail
  go_ret
  exact ⟨ret_int HZ.out, ⟨HL.out, fun _ => ⟨g, cur, rfl, HOG.out, HG.out, fun l m hl => HM.out l m (by have := (List.getElem?_eq_some_iff.1 hl).1; have := HL.out; omega) hl⟩⟩, HC.out⟩
 obtain ⟨m, hx⟩ : ∃ x, ns[j]? = some x := ⟨ns[j]'(by rw [HL.out]; exact hlt), List.getElem?_eq_getElem _⟩
 obtain ⟨cur, hg, hcs, hW, hM, hC⟩ := HI.out
 obtain ⟨A0, c0, q0, K0, L0⟩ := hW j m hx
 have hgl : g < wr.heap.size := (Array.getElem?_eq_some_iff.1 hg).1
 have hbz : z + (11 + (m : Int) * 5) ≤ 1099511627776 := by have := HD.out (j + 1) (by omega); rw [nsum_succ hx] at this; have := HZ.out; push_cast at this ⊢; omega
 have hju : j * 12 + 12 ≤ cur.size := by rw [hcs]; omega
 have j0 : (0 : Int) ≤ (j : Int) := by omega
 have j1 : (j : Int) < (n : Int) := by omega
 have HG := Lib.hid hg; have HCS := Lib.hid hcs; have HWW := Lib.hid hW; have HMM := Lib.hid hM; have HCC := Lib.hid hC; have HK0 := Lib.hid K0; have HQ0 := Lib.hid q0; have HX := Lib.hid hx; have HL0 := Lib.hid L0
 clear hg hcs hW hM hC K0 q0 hx L0
 have t0_0 : wr.cell? ⟨g, j * 12, none⟩ = some _ := block_cell HG.out (by omega)
 generalize cur[j * 12]'_ = y0_0 at t0_0
 have f0_0 : wr.frozen? ⟨g, j * 12, none⟩ = false := block_free HG.out _
 have t0_1 : wr.cell? ⟨g, j * 12 + 1, none⟩ = some _ := block_cell HG.out (by omega)
 generalize cur[j * 12 + 1]'_ = y0_1 at t0_1
 have f0_1 : wr.frozen? ⟨g, j * 12 + 1, none⟩ = false := block_free HG.out _
 have t0_2 : wr.cell? ⟨g, j * 12 + 2, none⟩ = some _ := block_cell HG.out (by omega)
 generalize cur[j * 12 + 2]'_ = y0_2 at t0_2
 have f0_2 : wr.frozen? ⟨g, j * 12 + 2, none⟩ = false := block_free HG.out _
 have t0_3 : wr.cell? ⟨g, j * 12 + 3, none⟩ = some _ := block_cell HG.out (by omega)
 generalize cur[j * 12 + 3]'_ = y0_3 at t0_3
 have f0_3 : wr.frozen? ⟨g, j * 12 + 3, none⟩ = false := block_free HG.out _
 have t0_4 : wr.cell? ⟨g, j * 12 + 4, none⟩ = some _ := block_cell HG.out (by omega)
 generalize cur[j * 12 + 4]'_ = y0_4 at t0_4
 have f0_4 : wr.frozen? ⟨g, j * 12 + 4, none⟩ = false := block_free HG.out _
 have t0_5 : wr.cell? ⟨g, j * 12 + 5, none⟩ = some _ := block_cell HG.out (by omega)
 generalize cur[j * 12 + 5]'_ = y0_5 at t0_5
 have f0_5 : wr.frozen? ⟨g, j * 12 + 5, none⟩ = false := block_free HG.out _
 have t0_6 : wr.cell? ⟨g, j * 12 + 6, none⟩ = some _ := block_cell HG.out (by omega)
 generalize cur[j * 12 + 6]'_ = y0_6 at t0_6
 have f0_6 : wr.frozen? ⟨g, j * 12 + 6, none⟩ = false := block_free HG.out _
 have t0_7 : wr.cell? ⟨g, j * 12 + 7, none⟩ = some _ := block_cell HG.out (by omega)
 generalize cur[j * 12 + 7]'_ = y0_7 at t0_7
 have f0_7 : wr.frozen? ⟨g, j * 12 + 7, none⟩ = false := block_free HG.out _
 have t0_8 : wr.cell? ⟨g, j * 12 + 8, none⟩ = some _ := block_cell HG.out (by omega)
 generalize cur[j * 12 + 8]'_ = y0_8 at t0_8
 have f0_8 : wr.frozen? ⟨g, j * 12 + 8, none⟩ = false := block_free HG.out _
 have t0_9 : wr.cell? ⟨g, j * 12 + 9, none⟩ = some _ := block_cell HG.out (by omega)
 generalize cur[j * 12 + 9]'_ = y0_9 at t0_9
 have f0_9 : wr.frozen? ⟨g, j * 12 + 9, none⟩ = false := block_free HG.out _
 have t0_10 : wr.cell? ⟨g, j * 12 + 10, none⟩ = some _ := block_cell HG.out (by omega)
 generalize cur[j * 12 + 10]'_ = y0_10 at t0_10
 have f0_10 : wr.frozen? ⟨g, j * 12 + 10, none⟩ = false := block_free HG.out _
 have t0_11 : wr.cell? ⟨g, j * 12 + 11, none⟩ = some _ := block_cell HG.out (by omega)
 have q0_ : wr.cell? ⟨g, j * 12 + 11, none⟩ = some (.slice A0 m c0) := (cell_of_row _ _ _ _ _ (0, 0) HG.out).trans (by exact HQ0.out)
 clear t0_11
 have f0_11 : wr.frozen? ⟨g, j * 12 + 11, none⟩ = false := block_free HG.out _
 go_wp2_with fail
 refine (markText_any (z + 1) _ (by omega)).mono ?_
 rintro e v1 ⟨rfl, hb1⟩
 have hg1 : v1.heap[g]? = some (.cells ((Array.setIfInBounds cur (j * 12) (.int .i64 (z)))) 44 (0, 0)) := (hb1.block g (by first | omega | (simp [World.setCell] <;> omega))).trans (block_set HG.out)
 have HX1 : Hid (Chg (fun b => b = g) wr v1) := Lib.hid (Chg.trans (show Chg _ wr ((World.setCell wr ⟨g, j * 12, none⟩ (.int .i64 (z)))) from (ChgG.set (Chg.refl (fun b => b = g) _))) (Chg.of_below hb1 _))
 have hgr1 : g < v1.heap.size := (Array.getElem?_eq_some_iff.1 hg1).1
 clear hb1
 have t1_1 : v1.cell? ⟨g, j * 12 + 1, none⟩ = some _ := block_cell hg1 (by simp; omega)
 generalize (Array.setIfInBounds cur (j * 12) (.int .i64 (z)))[j * 12 + 1]'_ = y1_1 at t1_1
 have f1_1 : v1.frozen? ⟨g, j * 12 + 1, none⟩ = false := block_free hg1 _
 have t1_2 : v1.cell? ⟨g, j * 12 + 2, none⟩ = some _ := block_cell hg1 (by simp; omega)
 generalize (Array.setIfInBounds cur (j * 12) (.int .i64 (z)))[j * 12 + 2]'_ = y1_2 at t1_2
 have f1_2 : v1.frozen? ⟨g, j * 12 + 2, none⟩ = false := block_free hg1 _
 have t1_3 : v1.cell? ⟨g, j * 12 + 3, none⟩ = some _ := block_cell hg1 (by simp; omega)
 generalize (Array.setIfInBounds cur (j * 12) (.int .i64 (z)))[j * 12 + 3]'_ = y1_3 at t1_3
 have f1_3 : v1.frozen? ⟨g, j * 12 + 3, none⟩ = false := block_free hg1 _
 have t1_4 : v1.cell? ⟨g, j * 12 + 4, none⟩ = some _ := block_cell hg1 (by simp; omega)
 generalize (Array.setIfInBounds cur (j * 12) (.int .i64 (z)))[j * 12 + 4]'_ = y1_4 at t1_4
 have f1_4 : v1.frozen? ⟨g, j * 12 + 4, none⟩ = false := block_free hg1 _
 have t1_5 : v1.cell? ⟨g, j * 12 + 5, none⟩ = some _ := block_cell hg1 (by simp; omega)
 generalize (Array.setIfInBounds cur (j * 12) (.int .i64 (z)))[j * 12 + 5]'_ = y1_5 at t1_5
 have f1_5 : v1.frozen? ⟨g, j * 12 + 5, none⟩ = false := block_free hg1 _
 have t1_6 : v1.cell? ⟨g, j * 12 + 6, none⟩ = some _ := block_cell hg1 (by simp; omega)
 generalize (Array.setIfInBounds cur (j * 12) (.int .i64 (z)))[j * 12 + 6]'_ = y1_6 at t1_6
 have f1_6 : v1.frozen? ⟨g, j * 12 + 6, none⟩ = false := block_free hg1 _
 have t1_7 : v1.cell? ⟨g, j * 12 + 7, none⟩ = some _ := block_cell hg1 (by simp; omega)
 generalize (Array.setIfInBounds cur (j * 12) (.int .i64 (z)))[j * 12 + 7]'_ = y1_7 at t1_7
 have f1_7 : v1.frozen? ⟨g, j * 12 + 7, none⟩ = false := block_free hg1 _
 have t1_8 : v1.cell? ⟨g, j * 12 + 8, none⟩ = some _ := block_cell hg1 (by simp; omega)
 generalize (Array.setIfInBounds cur (j * 12) (.int .i64 (z)))[j * 12 + 8]'_ = y1_8 at t1_8
 have f1_8 : v1.frozen? ⟨g, j * 12 + 8, none⟩ = false := block_free hg1 _
 have t1_9 : v1.cell? ⟨g, j * 12 + 9, none⟩ = some _ := block_cell hg1 (by simp; omega)
 generalize (Array.setIfInBounds cur (j * 12) (.int .i64 (z)))[j * 12 + 9]'_ = y1_9 at t1_9
 have f1_9 : v1.frozen? ⟨g, j * 12 + 9, none⟩ = false := block_free hg1 _
 have t1_10 : v1.cell? ⟨g, j * 12 + 10, none⟩ = some _ := block_cell hg1 (by simp; omega)
 generalize (Array.setIfInBounds cur (j * 12) (.int .i64 (z)))[j * 12 + 10]'_ = y1_10 at t1_10
 have f1_10 : v1.frozen? ⟨g, j * 12 + 10, none⟩ = false := block_free hg1 _
 have t1_11 : v1.cell? ⟨g, j * 12 + 11, none⟩ = some _ := block_cell hg1 (by simp; omega)
 have q1_ : v1.cell? ⟨g, j * 12 + 11, none⟩ = some (.slice A0 m c0) := (cell_of_row _ _ _ _ _ (0, 0) hg1).trans (by simp only [Array.getElem?_setIfInBounds]; (repeat rw [if_neg (by omega)]); exact HQ0.out)
 clear t1_11
 have f1_11 : v1.frozen? ⟨g, j * 12 + 11, none⟩ = false := block_free hg1 _
 have HG1 := Lib.hid hg1; clear hg1
 have HGA : Hid (((World.setCell (World.setCell (World.setCell (World.setCell (World.setCell (World.setCell (World.setCell (World.setCell (World.setCell (World.setCell v1 ⟨g, j * 12 + 1, none⟩ (.string (mtext (z + 1)))) ⟨g, j * 12 + 2, none⟩ (.int .i64 (z + 1 + 1))) ⟨g, j * 12 + 3, none⟩ (.int .i64 (z + 1 + 1 + 1))) ⟨g, j * 12 + 4, none⟩ (.int .i64 (z + 1 + 1 + 1 + 1))) ⟨g, j * 12 + 5, none⟩ (.int .i64 (z + 1 + 1 + 1 + 1 + 1))) ⟨g, j * 12 + 6, none⟩ (.int .i64 (z + 1 + 1 + 1 + 1 + 1 + 1))) ⟨g, j * 12 + 7, none⟩ (.int .i64 (z + 1 + 1 + 1 + 1 + 1 + 1 + 1))) ⟨g, j * 12 + 8, none⟩ (.int .i64 (z + 1 + 1 + 1 + 1 + 1 + 1 + 1 + 1))) ⟨g, j * 12 + 9, none⟩ (.int .i64 (z + 1 + 1 + 1 + 1 + 1 + 1 + 1 + 1 + 1))) ⟨g, j * 12 + 10, none⟩ (.int .i64 (z + 1 + 1 + 1 + 1 + 1 + 1 + 1 + 1 + 1 + 1)))).heap[g]? = some (.cells ((Array.setIfInBounds (Array.setIfInBounds (Array.setIfInBounds (Array.setIfInBounds (Array.setIfInBounds (Array.setIfInBounds (Array.setIfInBounds (Array.setIfInBounds (Array.setIfInBounds (Array.setIfInBounds (Array.setIfInBounds cur (j * 12) (.int .i64 (z))) (j * 12 + 1) (.string (mtext (z + 1)))) (j * 12 + 2) (.int .i64 (z + 1 + 1))) (j * 12 + 3) (.int .i64 (z + 1 + 1 + 1))) (j * 12 + 4) (.int .i64 (z + 1 + 1 + 1 + 1))) (j * 12 + 5) (.int .i64 (z + 1 + 1 + 1 + 1 + 1))) (j * 12 + 6) (.int .i64 (z + 1 + 1 + 1 + 1 + 1 + 1))) (j * 12 + 7) (.int .i64 (z + 1 + 1 + 1 + 1 + 1 + 1 + 1))) (j * 12 + 8) (.int .i64 (z + 1 + 1 + 1 + 1 + 1 + 1 + 1 + 1))) (j * 12 + 9) (.int .i64 (z + 1 + 1 + 1 + 1 + 1 + 1 + 1 + 1 + 1))) (j * 12 + 10) (.int .i64 (z + 1 + 1 + 1 + 1 + 1 + 1 + 1 + 1 + 1 + 1)))) 44 (0, 0))) := Lib.hid (block_set (block_set (block_set (block_set (block_set (block_set (block_set (block_set (block_set (block_set HG1.out))))))))))
 have HCA : Hid (Chg (fun b => b = g) wr ((World.setCell (World.setCell (World.setCell (World.setCell (World.setCell (World.setCell (World.setCell (World.setCell (World.setCell (World.setCell v1 ⟨g, j * 12 + 1, none⟩ (.string (mtext (z + 1)))) ⟨g, j * 12 + 2, none⟩ (.int .i64 (z + 1 + 1))) ⟨g, j * 12 + 3, none⟩ (.int .i64 (z + 1 + 1 + 1))) ⟨g, j * 12 + 4, none⟩ (.int .i64 (z + 1 + 1 + 1 + 1))) ⟨g, j * 12 + 5, none⟩ (.int .i64 (z + 1 + 1 + 1 + 1 + 1))) ⟨g, j * 12 + 6, none⟩ (.int .i64 (z + 1 + 1 + 1 + 1 + 1 + 1))) ⟨g, j * 12 + 7, none⟩ (.int .i64 (z + 1 + 1 + 1 + 1 + 1 + 1 + 1))) ⟨g, j * 12 + 8, none⟩ (.int .i64 (z + 1 + 1 + 1 + 1 + 1 + 1 + 1 + 1))) ⟨g, j * 12 + 9, none⟩ (.int .i64 (z + 1 + 1 + 1 + 1 + 1 + 1 + 1 + 1 + 1))) ⟨g, j * 12 + 10, none⟩ (.int .i64 (z + 1 + 1 + 1 + 1 + 1 + 1 + 1 + 1 + 1 + 1))))) := Lib.hid (ChgG.set (ChgG.set (ChgG.set (ChgG.set (ChgG.set (ChgG.set (ChgG.set (ChgG.set (ChgG.set (ChgG.set HX1.out))))))))))
 have hjn : j < ns.length := by rw [HL.out]; exact hlt
 have hne : ∀ b, 0 < c0 → blkOf A0 b → b ≠ g := fun b hc hb e => by have h_ := HL0.out hc b hb; rw [e, HOG.out] at h_; have := HL.out; omega
 have HKA : Hid (Whole ((World.setCell (World.setCell (World.setCell (World.setCell (World.setCell (World.setCell (World.setCell (World.setCell (World.setCell (World.setCell v1 ⟨g, j * 12 + 1, none⟩ (.string (mtext (z + 1)))) ⟨g, j * 12 + 2, none⟩ (.int .i64 (z + 1 + 1))) ⟨g, j * 12 + 3, none⟩ (.int .i64 (z + 1 + 1 + 1))) ⟨g, j * 12 + 4, none⟩ (.int .i64 (z + 1 + 1 + 1 + 1))) ⟨g, j * 12 + 5, none⟩ (.int .i64 (z + 1 + 1 + 1 + 1 + 1))) ⟨g, j * 12 + 6, none⟩ (.int .i64 (z + 1 + 1 + 1 + 1 + 1 + 1))) ⟨g, j * 12 + 7, none⟩ (.int .i64 (z + 1 + 1 + 1 + 1 + 1 + 1 + 1))) ⟨g, j * 12 + 8, none⟩ (.int .i64 (z + 1 + 1 + 1 + 1 + 1 + 1 + 1 + 1))) ⟨g, j * 12 + 9, none⟩ (.int .i64 (z + 1 + 1 + 1 + 1 + 1 + 1 + 1 + 1 + 1))) ⟨g, j * 12 + 10, none⟩ (.int .i64 (z + 1 + 1 + 1 + 1 + 1 + 1 + 1 + 1 + 1 + 1)))) 37 5 lo hi A0 m c0) := Lib.hid (HK0.out.sameL (fun hc b hb hlt_ => HCA.out.block b hlt_ (hne b hc hb)))
 have hzA : wr.heap.size ≤ ((World.setCell (World.setCell (World.setCell (World.setCell (World.setCell (World.setCell (World.setCell (World.setCell (World.setCell (World.setCell v1 ⟨g, j * 12 + 1, none⟩ (.string (mtext (z + 1)))) ⟨g, j * 12 + 2, none⟩ (.int .i64 (z + 1 + 1))) ⟨g, j * 12 + 3, none⟩ (.int .i64 (z + 1 + 1 + 1))) ⟨g, j * 12 + 4, none⟩ (.int .i64 (z + 1 + 1 + 1 + 1))) ⟨g, j * 12 + 5, none⟩ (.int .i64 (z + 1 + 1 + 1 + 1 + 1))) ⟨g, j * 12 + 6, none⟩ (.int .i64 (z + 1 + 1 + 1 + 1 + 1 + 1))) ⟨g, j * 12 + 7, none⟩ (.int .i64 (z + 1 + 1 + 1 + 1 + 1 + 1 + 1))) ⟨g, j * 12 + 8, none⟩ (.int .i64 (z + 1 + 1 + 1 + 1 + 1 + 1 + 1 + 1))) ⟨g, j * 12 + 9, none⟩ (.int .i64 (z + 1 + 1 + 1 + 1 + 1 + 1 + 1 + 1 + 1))) ⟨g, j * 12 + 10, none⟩ (.int .i64 (z + 1 + 1 + 1 + 1 + 1 + 1 + 1 + 1 + 1 + 1)))).heap.size := HCA.out.size
 go_wp2_with fail
 refine (markPtrS_any A0 m c0 (z + 1 + 1 + 1 + 1 + 1 + 1 + 1 + 1 + 1 + 1 + 1) _ lo hi HKA.out (by omega) (by omega)).mono ?_
 rintro e w2 ⟨rfl, mk, wh, hc2⟩
 have hgA : g < ((World.setCell (World.setCell (World.setCell (World.setCell (World.setCell (World.setCell (World.setCell (World.setCell (World.setCell (World.setCell v1 ⟨g, j * 12 + 1, none⟩ (.string (mtext (z + 1)))) ⟨g, j * 12 + 2, none⟩ (.int .i64 (z + 1 + 1))) ⟨g, j * 12 + 3, none⟩ (.int .i64 (z + 1 + 1 + 1))) ⟨g, j * 12 + 4, none⟩ (.int .i64 (z + 1 + 1 + 1 + 1))) ⟨g, j * 12 + 5, none⟩ (.int .i64 (z + 1 + 1 + 1 + 1 + 1))) ⟨g, j * 12 + 6, none⟩ (.int .i64 (z + 1 + 1 + 1 + 1 + 1 + 1))) ⟨g, j * 12 + 7, none⟩ (.int .i64 (z + 1 + 1 + 1 + 1 + 1 + 1 + 1))) ⟨g, j * 12 + 8, none⟩ (.int .i64 (z + 1 + 1 + 1 + 1 + 1 + 1 + 1 + 1))) ⟨g, j * 12 + 9, none⟩ (.int .i64 (z + 1 + 1 + 1 + 1 + 1 + 1 + 1 + 1 + 1))) ⟨g, j * 12 + 10, none⟩ (.int .i64 (z + 1 + 1 + 1 + 1 + 1 + 1 + 1 + 1 + 1 + 1)))).heap.size := by omega
 have hg2 : w2.heap[g]? = some (.cells ((Array.setIfInBounds (Array.setIfInBounds (Array.setIfInBounds (Array.setIfInBounds (Array.setIfInBounds (Array.setIfInBounds (Array.setIfInBounds (Array.setIfInBounds (Array.setIfInBounds (Array.setIfInBounds (Array.setIfInBounds cur (j * 12) (.int .i64 (z))) (j * 12 + 1) (.string (mtext (z + 1)))) (j * 12 + 2) (.int .i64 (z + 1 + 1))) (j * 12 + 3) (.int .i64 (z + 1 + 1 + 1))) (j * 12 + 4) (.int .i64 (z + 1 + 1 + 1 + 1))) (j * 12 + 5) (.int .i64 (z + 1 + 1 + 1 + 1 + 1))) (j * 12 + 6) (.int .i64 (z + 1 + 1 + 1 + 1 + 1 + 1))) (j * 12 + 7) (.int .i64 (z + 1 + 1 + 1 + 1 + 1 + 1 + 1))) (j * 12 + 8) (.int .i64 (z + 1 + 1 + 1 + 1 + 1 + 1 + 1 + 1))) (j * 12 + 9) (.int .i64 (z + 1 + 1 + 1 + 1 + 1 + 1 + 1 + 1 + 1))) (j * 12 + 10) (.int .i64 (z + 1 + 1 + 1 + 1 + 1 + 1 + 1 + 1 + 1 + 1)))) 44 (0, 0)) := (hc2.block g hgA (fun h => hne g (wh.pos h.1) h.2 rfl)).trans HGA.out
 have HMK : Hid (MarkedAt w2 KPtrS (z + ((11 : Nat) : Int)) A0 (m * 5)) := Lib.hid (by have h_ := mk; rwa [show z + 1 + 1 + 1 + 1 + 1 + 1 + 1 + 1 + 1 + 1 + 1 = z + ((11 : Nat) : Int) by omega] at h_)
 have HWH := Lib.hid wh; have HC2 := Lib.hid hc2
 have pr0 := PutRow.nil cur (j * 12)
 have pr1 := PutRow.set (n := 0) pr0 (.int .i64 (z)) rfl (by omega)
 have pr2 := PutRow.set (n := 1) pr1 (.string (mtext (z + 1))) rfl (by omega)
 have pr3 := PutRow.set (n := 2) pr2 (.int .i64 (z + 1 + 1)) rfl (by omega)
 have pr4 := PutRow.set (n := 3) pr3 (.int .i64 (z + 1 + 1 + 1)) rfl (by omega)
 have pr5 := PutRow.set (n := 4) pr4 (.int .i64 (z + 1 + 1 + 1 + 1)) rfl (by omega)
 have pr6 := PutRow.set (n := 5) pr5 (.int .i64 (z + 1 + 1 + 1 + 1 + 1)) rfl (by omega)
 have pr7 := PutRow.set (n := 6) pr6 (.int .i64 (z + 1 + 1 + 1 + 1 + 1 + 1)) rfl (by omega)
 have pr8 := PutRow.set (n := 7) pr7 (.int .i64 (z + 1 + 1 + 1 + 1 + 1 + 1 + 1)) rfl (by omega)
 have pr9 := PutRow.set (n := 8) pr8 (.int .i64 (z + 1 + 1 + 1 + 1 + 1 + 1 + 1 + 1)) rfl (by omega)
 have pr10 := PutRow.set (n := 9) pr9 (.int .i64 (z + 1 + 1 + 1 + 1 + 1 + 1 + 1 + 1 + 1)) rfl (by omega)
 have pr11 := PutRow.set (n := 10) pr10 (.int .i64 (z + 1 + 1 + 1 + 1 + 1 + 1 + 1 + 1 + 1 + 1)) rfl (by omega)
 have pr12 := PutRow.skip (n := 11) pr11 rfl HQ0.out
 have HPR := Lib.hid pr12; clear mk wh hc2 pr0 pr1 pr2 pr3 pr4 pr5 pr6 pr7 pr8 pr9 pr10 pr11 pr12
 have HG2 := Lib.hid hg2; have l2 : g < w2.heap.size := (Array.getElem?_eq_some_iff.1 hg2).1; clear hg2
 go_wp2_with fail
 go_roundw
 case rel =>
  refine ⟨j + 1, z + 1 + 1 + 1 + 1 + 1 + 1 + 1 + 1 + 1 + 1 + 1 + (m : Int) * 5, by omega, by go_num, by first | rfl | (congr 1; omega), by omega, by omega, Lib.hid (by have := HZ.out; have := nsum_succ (sc := 11) HX.out; push_cast at this ⊢; omega), Lib.hid ?_⟩
  exact MkI.step snapM_len snapM_dp (fun l hl => by omega) (wA := (World.setCell (World.setCell (World.setCell (World.setCell (World.setCell (World.setCell (World.setCell (World.setCell (World.setCell (World.setCell v1 ⟨g, j * 12 + 1, none⟩ (.string (mtext (z + 1)))) ⟨g, j * 12 + 2, none⟩ (.int .i64 (z + 1 + 1))) ⟨g, j * 12 + 3, none⟩ (.int .i64 (z + 1 + 1 + 1))) ⟨g, j * 12 + 4, none⟩ (.int .i64 (z + 1 + 1 + 1 + 1))) ⟨g, j * 12 + 5, none⟩ (.int .i64 (z + 1 + 1 + 1 + 1 + 1))) ⟨g, j * 12 + 6, none⟩ (.int .i64 (z + 1 + 1 + 1 + 1 + 1 + 1))) ⟨g, j * 12 + 7, none⟩ (.int .i64 (z + 1 + 1 + 1 + 1 + 1 + 1 + 1))) ⟨g, j * 12 + 8, none⟩ (.int .i64 (z + 1 + 1 + 1 + 1 + 1 + 1 + 1 + 1))) ⟨g, j * 12 + 9, none⟩ (.int .i64 (z + 1 + 1 + 1 + 1 + 1 + 1 + 1 + 1 + 1))) ⟨g, j * 12 + 10, none⟩ (.int .i64 (z + 1 + 1 + 1 + 1 + 1 + 1 + 1 + 1 + 1 + 1)))) (w2 := w2) (by rw [HL.out]; exact hn100) HX.out HZ.out hg1 hg2 HOG.out HG.out HCS.out HWW.out HMM.out HCC.out HQ0.out HCA.out HMK.out HWH.out HC2.out (Chg.refl (fun b => b = g) _) HG2.out HPR.out.1 HPR.out.2.1 HPR.out.2.2
 simp [intOf]; omega
set_option maxRecDepth 100000 in
set_option maxHeartbeats 8000000 in
theorem heldSnapS_any (o : Nat → Nat) (A : Option Addr) (n c : Nat) (ns : List Nat) (k : Int) (w : World) (h : MarkedL snapM 12 11 11 o 44 100 201 w k A n ns) (hn100 : n ≤ 100) (h0 : 0 ≤ k) (h1 : k + nsum 11 ns n ≤ 1099511627776) :
 Calls Tryz.prog 24 #[.slice A n c, .int .i64 k] w fun e w' => e = .returned (.int .i64 (k + nsum 11 ns n)) ∧ Below w.heap.size w w' := by
 have HL := Lib.hid h.1
 have H := Lib.hid h; clear h
 have HD : Hid (∀ j, j ≤ n → k + nsum 11 ns j ≤ 1099511627776) := Lib.hid (fun j hj => by have := nsum_mono 11 ns hj; omega)
 have hn40 : n ≤ 9223372036854775807 := by omega
 clear h1
 go_enter Tryz.func24, Tryz.ntmps24
 go_wp2_with fail
 go_loopw [1, 5] (fun kk i wr => ∃ (j : Nat) (z : Int), j ≤ n ∧ i = .int .i64 j ∧ kk = .int .i64 z ∧ 0 ≤ z ∧ z ≤ 1099511627776 ∧ Hid (z = k + nsum 11 ns j) ∧ Hid (Below w.heap.size w wr)) (fun _ i _ => n - (intOf i).toNat)
 case atStart => exact ⟨0, k, Nat.zero_le _, rfl, rfl, h0, by have := HD.out 0 (by omega); simp [nsum] at this; omega, Lib.hid (by simp [nsum]), Lib.hid (Below.refl _ _)⟩
 obtain ⟨j, z, hj, rfl, rfl, z0, z1, HZ, HB⟩ := hrel
 by_cases hlt : j < n
 case neg =>
  obtain rfl : j = n := by omega
  go_wp2_with fail
  go_ret
  exact ⟨ret_int HZ.out, HB.out⟩
 obtain ⟨m, hx⟩ : ∃ x, ns[j]? = some x := ⟨ns[j]'(by rw [HL.out]; exact hlt), List.getElem?_eq_getElem _⟩
 obtain ⟨g, cur, rfl, _, hg, hm⟩ := (H.out.below snapM_len HB.out).2 (by omega)
 obtain ⟨A0, c0, hrow, hmk, _⟩ := hm j m hx
 rw [← HZ.out] at hrow hmk
 have hgl : g < wr.heap.size := (Array.getElem?_eq_some_iff.1 hg).1
 have hbz : z + (11 + (m : Int) * 5) ≤ 1099511627776 := by have := HD.out (j + 1) (by omega); rw [nsum_succ hx] at this; have := HZ.out; push_cast at this ⊢; omega
 have HX := Lib.hid hx; have HMK := Lib.hid hmk
 have j0 : (0 : Int) ≤ (j : Int) := by omega
 have j1 : (j : Int) < (n : Int) := by omega
 have q0_0 : wr.cell? ⟨g, j * 12, none⟩ = some (.int .i64 (z)) := (cell_of_row _ _ _ _ _ (0, 0) hg).trans (hrow 0 _ rfl)
 have q0_1 : wr.cell? ⟨g, j * 12 + 1, none⟩ = some (.string (mtext (z + 1))) := (cell_of_row _ _ _ _ _ (0, 0) hg).trans (hrow 1 _ rfl)
 have q0_2 : wr.cell? ⟨g, j * 12 + 2, none⟩ = some (.int .i64 (z + 1 + 1)) := (cell_of_row _ _ _ _ _ (0, 0) hg).trans (hrow 2 _ rfl)
 have q0_3 : wr.cell? ⟨g, j * 12 + 3, none⟩ = some (.int .i64 (z + 1 + 1 + 1)) := (cell_of_row _ _ _ _ _ (0, 0) hg).trans (hrow 3 _ rfl)
 have q0_4 : wr.cell? ⟨g, j * 12 + 4, none⟩ = some (.int .i64 (z + 1 + 1 + 1 + 1)) := (cell_of_row _ _ _ _ _ (0, 0) hg).trans (hrow 4 _ rfl)
 have q0_5 : wr.cell? ⟨g, j * 12 + 5, none⟩ = some (.int .i64 (z + 1 + 1 + 1 + 1 + 1)) := (cell_of_row _ _ _ _ _ (0, 0) hg).trans (hrow 5 _ rfl)
 have q0_6 : wr.cell? ⟨g, j * 12 + 6, none⟩ = some (.int .i64 (z + 1 + 1 + 1 + 1 + 1 + 1)) := (cell_of_row _ _ _ _ _ (0, 0) hg).trans (hrow 6 _ rfl)
 have q0_7 : wr.cell? ⟨g, j * 12 + 7, none⟩ = some (.int .i64 (z + 1 + 1 + 1 + 1 + 1 + 1 + 1)) := (cell_of_row _ _ _ _ _ (0, 0) hg).trans (hrow 7 _ rfl)
 have q0_8 : wr.cell? ⟨g, j * 12 + 8, none⟩ = some (.int .i64 (z + 1 + 1 + 1 + 1 + 1 + 1 + 1 + 1)) := (cell_of_row _ _ _ _ _ (0, 0) hg).trans (hrow 8 _ rfl)
 have q0_9 : wr.cell? ⟨g, j * 12 + 9, none⟩ = some (.int .i64 (z + 1 + 1 + 1 + 1 + 1 + 1 + 1 + 1 + 1)) := (cell_of_row _ _ _ _ _ (0, 0) hg).trans (hrow 9 _ rfl)
 have q0_10 : wr.cell? ⟨g, j * 12 + 10, none⟩ = some (.int .i64 (z + 1 + 1 + 1 + 1 + 1 + 1 + 1 + 1 + 1 + 1)) := (cell_of_row _ _ _ _ _ (0, 0) hg).trans (hrow 10 _ rfl)
 have q0_11 : wr.cell? ⟨g, j * 12 + 11, none⟩ = some (.slice A0 m c0) := (cell_of_row _ _ _ _ _ (0, 0) hg).trans (hrow 11 _ rfl)
 clear hrow hm hx hmk hg
 go_wp2_with fail
 apply wp_region_rg (by kernel_rfl) (false :: false :: false :: false :: false :: false :: false :: false :: false :: false :: false :: false :: false :: false :: false :: false :: false :: false :: false :: false :: false :: true :: true :: true :: true :: true :: true :: true :: true :: false :: false :: false :: false :: false :: false :: false :: false :: false :: false :: false :: false :: false :: false :: false :: false :: false :: false :: false :: false :: false :: false :: false :: false :: false :: false :: false :: false :: false :: false :: false :: false :: false :: false :: false :: false :: false :: false :: false :: false :: false :: false :: false :: false :: false :: false :: false :: false :: false :: false :: false :: false :: false :: false :: false :: false :: false :: false :: false :: false :: false :: false :: false :: false :: false :: false :: false :: false :: false :: false :: false :: false :: false :: false :: false :: false :: false :: false :: false :: false :: false :: false :: false :: false :: false :: false :: false :: false :: false :: false :: false :: false :: false :: false :: false :: false :: false :: false :: false :: false :: false :: false :: false :: false :: false :: []) [some 21, some 22, some 23, some 24, some 25, some 26, some 27, some 28] [[], [], [0, 1], [2], [3], [], [5], [4, 6]] [StP.is _, StP.is _, StP.is _, StP.is _, StP.is _, StP.is _, StP.is _, StP.is _] (by kernel_rfl)
 case hobs =>
  refine ⟨fun y w' hS hF K hK => ?_, ?_⟩
  · skip
    simp only [fillL, cond_true, cond_false, zG0, zG1, StP.is, Act.put, zS2, zS0, zS1, Nat.reduceAdd] at hK ⊢
    refine rg_yes (by kernel_rfl) ?_
    clear hF
    go_simp
    exact hK _ _ (Ext.refl _) rfl
  refine ⟨fun y w' hS hF K hK => ?_, ?_⟩
  · skip
    simp only [fillL, cond_true, cond_false, zG0, zG1, StP.is, Act.put, zS2, zS0, zS1, Nat.reduceAdd] at hK ⊢
    refine rg_yes (by kernel_rfl) ?_
    clear hF
    go_simp
    exact hK _ _ (Ext.refl _) rfl
  refine ⟨fun y w' hS hF K hK => ?_, ?_⟩
  · skip
    have e21 : y 21 = _ := hF.1
    have e22 : y 22 = _ := hF.2.1
    simp only [fillL, cond_true, cond_false, zG0, zG1, StP.is, Act.put, zS2, zS0, zS1, Nat.reduceAdd, e21, e22] at hK ⊢
    refine rg_yes (by kernel_rfl) ?_
    clear e21 e22
    clear hF
    go_simp
    exact hK _ _ (Ext.refl _) rfl
  refine ⟨fun y w' hS hF K hK => ?_, ?_⟩
  · skip
    have e23 : y 23 = _ := hF.1
    simp only [fillL, cond_true, cond_false, zG0, zG1, StP.is, Act.put, zS2, zS0, zS1, Nat.reduceAdd, e23] at hK ⊢
    refine rg_yes (by kernel_rfl) ?_
    clear e23
    clear hF
    go_simp
    exact hK _ _ (Ext.refl _) rfl
  refine ⟨fun y w' hS hF K hK => ?_, ?_⟩
  · skip
    have e24 : y 24 = _ := hF.1
    simp only [fillL, cond_true, cond_false, zG0, zG1, StP.is, Act.put, zS2, zS0, zS1, Nat.reduceAdd, e24] at hK ⊢
    refine rg_yes (by kernel_rfl) ?_
    have qx0_ := (Below.cell hS hgl).trans q0_0
    have qx1_ := (Below.cell hS hgl).trans q0_1
    have qx2_ := (Below.cell hS hgl).trans q0_2
    have qx3_ := (Below.cell hS hgl).trans q0_3
    have qx4_ := (Below.cell hS hgl).trans q0_4
    have qx5_ := (Below.cell hS hgl).trans q0_5
    have qx6_ := (Below.cell hS hgl).trans q0_6
    have qx7_ := (Below.cell hS hgl).trans q0_7
    have qx8_ := (Below.cell hS hgl).trans q0_8
    have qx9_ := (Below.cell hS hgl).trans q0_9
    have qx10_ := (Below.cell hS hgl).trans q0_10
    have qx11_ := (Below.cell hS hgl).trans q0_11
    clear e24
    clear hF
    go_simp
    exact hK _ _ (Ext.refl _) rfl
  refine ⟨fun y w' hS hF K hK => ?_, ?_⟩
  · skip
    simp only [fillL, cond_true, cond_false, zG0, zG1, StP.is, Act.put, zS2, zS0, zS1, Nat.reduceAdd] at hK ⊢
    refine rg_yes (by kernel_rfl) ?_
    clear hF
    go_simp
    exact hK _ _ (Ext.refl _) rfl
  refine ⟨fun y w' hS hF K hK => ?_, ?_⟩
  · skip
    have e26 : y 26 = _ := hF.1
    simp only [fillL, cond_true, cond_false, zG0, zG1, StP.is, Act.put, zS2, zS0, zS1, Nat.reduceAdd, e26] at hK ⊢
    refine rg_yes (by kernel_rfl) ?_
    clear e26
    clear hF
    go_simp
    go_at_call 48
    refine (markText_any (z + 1) _ (by omega)).mono ?_
    rintro e w'' ⟨rfl, hb⟩
    exact hK _ _ hb rfl
  refine ⟨fun y w' hS hF K hK => ?_, ?_⟩
  · skip
    have e25 : y 25 = _ := hF.1
    have e27 : y 27 = _ := hF.2.1
    simp only [fillL, cond_true, cond_false, zG0, zG1, StP.is, Act.put, zS2, zS0, zS1, Nat.reduceAdd, e25, e27] at hK ⊢
    refine rg_yes (by kernel_rfl) ?_
    clear e25 e27
    clear hF
    go_simp
    exact hK _ _ (Ext.refl _) rfl
  trivial
 intro y v1 hX hF
 have e28 : y 28 = _ := hF.2.2.2.2.2.2.2.1
 clear hF
 simp only [fillL, cond_true, cond_false, Nat.reduceAdd, e28]
 clear e28
 have q1_0 := (Below.cell hX hgl).trans q0_0
 have q1_1 := (Below.cell hX hgl).trans q0_1
 have q1_2 := (Below.cell hX hgl).trans q0_2
 have q1_3 := (Below.cell hX hgl).trans q0_3
 have q1_4 := (Below.cell hX hgl).trans q0_4
 have q1_5 := (Below.cell hX hgl).trans q0_5
 have q1_6 := (Below.cell hX hgl).trans q0_6
 have q1_7 := (Below.cell hX hgl).trans q0_7
 have q1_8 := (Below.cell hX hgl).trans q0_8
 have q1_9 := (Below.cell hX hgl).trans q0_9
 have q1_10 := (Below.cell hX hgl).trans q0_10
 have q1_11 := (Below.cell hX hgl).trans q0_11
 have hgl1 : g < v1.heap.size := Nat.lt_of_lt_of_le hgl (Below.size hX)
 have HB1 : Hid (Below w.heap.size w v1) := Lib.hid (Below.trans HB.out (Below.mono hX (Below.size HB.out)))
 have HMK := Lib.hid (HMK.out.below hX)
 clear hX q0_0 q0_1 q0_2 q0_3 q0_4 q0_5 q0_6 q0_7 q0_8 q0_9 q0_10 q0_11 hgl
 go_wp2_with fail
 refine (heldPtrS_any A0 m c0 (z + 1 + 1 + 1 + 1 + 1 + 1 + 1 + 1 + 1 + 1 + 1) _ (by have h_ := HMK.out; rwa [show z + ((11 : Nat) : Int) = z + 1 + 1 + 1 + 1 + 1 + 1 + 1 + 1 + 1 + 1 + 1 by omega] at h_) (by omega) (by omega)).mono ?_
 rintro e w2 ⟨rfl, hb2⟩
 have dk : decide (z + 1 + 1 + 1 + 1 + 1 + 1 + 1 + 1 + 1 + 1 + 1 + (m : Int) * 5 < 0) = false := by simp; omega
 have dk2 : ¬ (z + 1 + 1 + 1 + 1 + 1 + 1 + 1 + 1 + 1 + 1 + 1 + (m : Int) * 5 < 0) := by omega
 have lg2 : g < w2.heap.size := Nat.lt_of_lt_of_le hgl1 hb2.size
 have HBE : Hid (Below w.heap.size w w2) := Lib.hid (Below.trans HB1.out (hb2.mono (Below.size HB1.out)))
 clear hb2 q1_0 q1_1 q1_2 q1_3 q1_4 q1_5 q1_6 q1_7 q1_8 q1_9 q1_10 q1_11
 go_wp2_with fail
 go_roundw
 case rel => exact ⟨j + 1, z + 1 + 1 + 1 + 1 + 1 + 1 + 1 + 1 + 1 + 1 + 1 + (m : Int) * 5, by omega, by go_num, by first | rfl | (congr 1; omega), by omega, by omega, Lib.hid (by have := HZ.out; have := nsum_succ (sc := 11) HX.out; push_cast at this ⊢; omega), HBE⟩
 simp [intOf]; omega
end Go.Proofs.YtlacpcdbgimnmaaGreatDoor
