/- to at the disks' types: a copy in new memory, arrays whole. No condition. -/
import Derived.Test.YtggdjiklgakfnaaGreatDoorTypes
import Derived.Test.YtggdjiklgakfnaaGreatDoorDiskCopy
import Derived.Test.YtggdjiklgakfnaaGreatDoorChecked
namespace Go.Proofs.YtggdjiklgakfnaaGreatDoor
set_option linter.unusedVariables false
set_option linter.unusedSimpArgs false
set_option linter.unnecessarySimpa false
open Go.RowKit

def sizeWait (x : WaitD) : Nat := x.2.size
def sizeDisk (x : DiskD) : Nat := x.1.length + (x.1.map ByteArray.size).sum + x.2.1.length + (x.2.1.map sizeWait).sum
theorem info_StringS : (Tryz.prog.info? 9).map (fun i => (i.zero, i.size, i.bytes)) = some (some (.string ByteArray.empty), 1, 16) := by kernel_rfl
theorem make_StringS (n : Nat) (hn : n ≤ 1048576) (w : World) :
    (Instr.makeSlice 67 (.int .i64 (n : Int)) (.int .i64 (n : Int))).run Tryz.prog w = .ok (.slice (some ⟨w.heap.size, 0, none⟩) n n) (w.alloc (.cells (madeCells #[.string ByteArray.empty] (n)) 9)) := by
  obtain ⟨i, hi, hz, hs, hb⟩ := info_parts info_StringS
  have hr := run_make (P := Tryz.prog) w 67 9 i (.string ByteArray.empty) Tryz.underlying67 hi hz .i64 .i64 n n (by omega) (by omega) (by rw [hb]; omega) (by omega)
  simp only [Int.toNat_natCast, hs, Nat.mul_one] at hr
  exact hr

set_option maxRecDepth 100000 in
set_option maxHeartbeats 2000000 in
theorem toStringS_any (A : Option Addr) (n c : Nat) (xs : List ByteArray) (w : World) (lo hi : Nat) (h : SliceR StrR 1 w lo hi A n c xs) (hz : xs.length + (xs.map ByteArray.size).sum ≤ 1048576) :
    Calls Tryz.prog 81 #[.slice A n c] w (NewW StrR 1 9 w n xs) := by
  have hl := Lib.hid h.len
  have hn : n ≤ 1048576 := by have := h.len; omega
  have HZ := Lib.hid hz
  clear hz
  have hmk := make_StringS n hn w
  have H := Lib.hid h
  clear h
  go_enter Tryz.func81, Tryz.ntmps81
  go_wp2_with fail
  have hrow : ∃ cur, (w.alloc (.cells (madeCells #[.string ByteArray.empty] (n)) 9)).heap[w.heap.size]? = some (.cells cur 9 (0, 0)) ∧ cur.size = n * 1 := ⟨_, heap_alloc_new w _, by rw [size_madeCells]; omega⟩
  generalize hW : w.alloc (.cells (madeCells #[.string ByteArray.empty] (n)) 9) = w1 at *
  have hb1 : Below w.heap.size w w1 := by rw [← hW]; exact bel1
  have hs1 : w.heap.size < w1.heap.size := by rw [← hW]; simp
  clear hW hmk
  have rel0 : ∃ cur, w1.heap[w.heap.size]? = some (.cells cur 9 (0, 0)) ∧ cur.size = n * 1 ∧ Hid (RowR StrR 1 w1 (w.heap.size + 1) w1.heap.size cur 0 xs) := by
    obtain ⟨cur, h1, h2⟩ := hrow
    exact ⟨cur, h1, h2, Lib.hid (fun j x hj => absurd hj (by omega))⟩
  clear hrow
  go_loopw [4] (fun i wr => ∃ k : Nat, k ≤ n ∧ i = .int .i64 k ∧ Below w.heap.size w wr ∧ w.heap.size < wr.heap.size ∧ ∃ cur, wr.heap[w.heap.size]? = some (.cells cur 9 (0, 0)) ∧ cur.size = n * 1 ∧ Hid (RowR StrR 1 wr (w.heap.size + 1) wr.heap.size cur k xs)) (fun i _ => n - (intOf i).toNat)
  case atStart => exact ⟨0, Nat.zero_le _, rfl, hb1, hs1, rel0⟩
  case round =>
    clear rel0 hb1 hs1
    obtain ⟨k, hk, rfl, hB, hS, cur, hg, hcs, HR⟩ := hrel
    by_cases hlt : k < n
    · obtain ⟨x, hx⟩ : ∃ x, xs[k]? = some x := ⟨xs[k]'(by rw [hl.out]; exact hlt), List.getElem?_eq_getElem _⟩
      obtain ⟨b, off, rfl, _, _, bl, hc⟩ := (SliceR.below H.out hB (StrR.below hB H.out.lo_le)).at_ (by omega)
      obtain ⟨cs, hcl, hcc, hr⟩ := hc k x hx
      clear hc
      have hhi : hi ≤ wr.heap.size := Nat.le_trans H.out.lo_le hB.size
      obtain ⟨rfl, hm⟩ := hr
      have q0 := hcc 0 _ rfl
      simp only [Nat.add_zero, Nat.mul_one] at q0
      clear hcc hcl
      have k0 : (0 : Int) ≤ (k : Int) := by omega
      have k1 : (k : Int) < (n : Int) := by omega
      have HX := Lib.hid hx
      clear hx
      have HG := Lib.hid hg
      have hkn : k * 1 + 1 ≤ cur.size := by rw [hcs]; omega
      have HC := Lib.hid hcs
      clear hg hcs
      have hg2 := HG.out
      have hs2 := hS
      have hB2 := hB
      have t0 : wr.cell? ⟨w.heap.size, k, none⟩ = some _ := block_cell hg2 (by omega)
      have f0 : wr.frozen? ⟨w.heap.size, k, none⟩ = false := block_free hg2 _
      have HG2 := Lib.hid hg2
      clear hg2
      generalize cur[k]'_ = z0 at t0
      go_wp2_with fail
      go_roundw
      case rel =>
        have hput : putAt cur (k * 1) [.string x] = (cur.setIfInBounds (k) (.string x)) := by simp only [putAt, Nat.add_assoc, Nat.reduceAdd, Nat.mul_one]
        refine ⟨k + 1, by omega, by go_num, Below.setCell (p := ⟨w.heap.size, _, none⟩) (hB2) (Nat.le_refl _) _, by simpa using hs2, (cur.setIfInBounds (k) (.string x)), block_set (HG2.out), (by rw [← hput, putAt_size]; exact HC.out), Lib.hid ?_⟩
        rw [← hput]
        refine RowR.step (n := n) HR.out HX.out rfl HC.out hlt ?_ ?_
        · exact ⟨rfl, hm⟩
        · exact fun _ _ h => h
      case measure => simp [intOf]; omega
    · obtain rfl : k = n := by omega
      have hfin := RowR.slice (lo := w.heap.size) (hi := wr.heap.size) (c := k) (fun j x hj hx => (HR.out j x hj hx).imp fun cs h => ⟨h.1, h.2.1, StrR.wide (Nat.le_succ _) (Nat.le_refl _) (Nat.le_refl _) _ _ h.2.2⟩) hl.out (by unfold maxLen; omega) (Nat.le_refl _) hg (Nat.le_refl _) hS (Nat.le_refl _)
      have HF := Lib.hid hfin; have HG := Lib.hid hg; have HC := Lib.hid hcs
      clear hfin HR hg hcs
      go_wp2_with fail
      go_ret
      exact ⟨_, _, rfl, HF.out, .inr ⟨_, _, rfl, Nat.le_refl _, hS, HG.out, HC.out, Nat.le_refl _, by unfold maxLen; omega⟩, hB⟩

set_option maxRecDepth 100000 in
set_option maxHeartbeats 2000000 in
theorem toWait_any (cs : List Value) (x : WaitD) (w w0 : World) (lo hi : Nat) (h : WaitR w0 lo hi cs x) :
    Calls Tryz.prog 104 #[.agg cs.toArray] w fun e w' => e = .returned (.agg cs.toArray) ∧ Below w.heap.size w w' := by
  obtain ⟨at_, text_⟩ := x
  obtain ⟨rfl, ha0⟩ := h
  show Calls Tryz.prog 104 #[.agg #[.int .i64 at_, .string text_]] w _
  clear ha0
  go_enter Tryz.func104, Tryz.ntmps104
  go_wp2
  exact bodyPost_ret (v := .agg #[.int .i64 at_, .string text_]) (by simp [results, Tryz.results104, go_sem]) rfl ⟨rfl, by repeat (first | exact Below.refl _ _ | assumption | refine Below.setCell ?_ (by simp <;> omega) _ | refine Below.alloc ?_ (by simp <;> omega) _)⟩

theorem info_WaitS : (Tryz.prog.info? 99).map (fun i => (i.zero, i.size, i.bytes)) = some (some (.agg #[.int .i64 0, .string ⟨#[]⟩]), 2, 24) := by kernel_rfl
theorem make_WaitS (n : Nat) (hn : n ≤ 1048576) (w : World) :
    (Instr.makeSlice 68 (.int .i64 (n : Int)) (.int .i64 (n : Int))).run Tryz.prog w = .ok (.slice (some ⟨w.heap.size, 0, none⟩) n n) (w.alloc (.cells (madeCells #[.int .i64 0, .string ⟨#[]⟩] (n * 2)) 99)) := by
  obtain ⟨i, hi, hz, hs, hb⟩ := info_parts info_WaitS
  have hr := run_make (P := Tryz.prog) w 68 99 i (.agg #[.int .i64 0, .string ⟨#[]⟩]) Tryz.underlying68 hi hz .i64 .i64 n n (by omega) (by omega) (by rw [hb]; omega) (by omega)
  simp only [Int.toNat_natCast, hs] at hr
  exact hr

set_option maxRecDepth 100000 in
set_option maxHeartbeats 2000000 in
theorem toWaitS_any (A : Option Addr) (n c : Nat) (xs : List WaitD) (w : World) (lo hi : Nat) (h : SliceR WaitR 2 w lo hi A n c xs) (hz : xs.length + (xs.map sizeWait).sum ≤ 1048576) :
    Calls Tryz.prog 82 #[.slice A n c] w (NewW WaitR 2 99 w n xs) := by
  have hl := Lib.hid h.len
  have hn : n ≤ 1048576 := by have := h.len; omega
  have HZ := Lib.hid hz
  clear hz
  have hmk := make_WaitS n hn w
  have H := Lib.hid h
  clear h
  go_enter Tryz.func82, Tryz.ntmps82
  go_wp2_with fail
  have hrow : ∃ cur, (w.alloc (.cells (madeCells #[.int .i64 0, .string ⟨#[]⟩] (n * 2)) 99)).heap[w.heap.size]? = some (.cells cur 99 (0, 0)) ∧ cur.size = n * 2 := ⟨_, heap_alloc_new w _, size_madeCells _ _⟩
  generalize hW : w.alloc (.cells (madeCells #[.int .i64 0, .string ⟨#[]⟩] (n * 2)) 99) = w1 at *
  have hb1 : Below w.heap.size w w1 := by rw [← hW]; exact bel1
  have hs1 : w.heap.size < w1.heap.size := by rw [← hW]; simp
  clear hW hmk
  have rel0 : ∃ cur, w1.heap[w.heap.size]? = some (.cells cur 99 (0, 0)) ∧ cur.size = n * 2 ∧ Hid (RowR WaitR 2 w1 (w.heap.size + 1) w1.heap.size cur 0 xs) := by
    obtain ⟨cur, h1, h2⟩ := hrow
    exact ⟨cur, h1, h2, Lib.hid (fun j x hj => absurd hj (by omega))⟩
  clear hrow
  go_loopw [4] (fun i wr => ∃ k : Nat, k ≤ n ∧ i = .int .i64 k ∧ Below w.heap.size w wr ∧ w.heap.size < wr.heap.size ∧ ∃ cur, wr.heap[w.heap.size]? = some (.cells cur 99 (0, 0)) ∧ cur.size = n * 2 ∧ Hid (RowR WaitR 2 wr (w.heap.size + 1) wr.heap.size cur k xs)) (fun i _ => n - (intOf i).toNat)
  case atStart => exact ⟨0, Nat.zero_le _, rfl, hb1, hs1, rel0⟩
  case round =>
    clear rel0 hb1 hs1
    obtain ⟨k, hk, rfl, hB, hS, cur, hg, hcs, HR⟩ := hrel
    by_cases hlt : k < n
    · obtain ⟨x, hx⟩ : ∃ x, xs[k]? = some x := ⟨xs[k]'(by rw [hl.out]; exact hlt), List.getElem?_eq_getElem _⟩
      obtain ⟨b, off, rfl, _, _, bl, hc⟩ := (SliceR.below H.out hB (WaitR.below hB H.out.lo_le)).at_ (by omega)
      obtain ⟨cs, hcl, hcc, hr⟩ := hc k x hx
      clear hc
      have hhi : hi ≤ wr.heap.size := Nat.le_trans H.out.lo_le hB.size
      obtain ⟨at_, text_⟩ := x
      have hr0 := hr
      obtain ⟨rfl, ha0⟩ := hr0
      have G := Lib.hid hr
      have q0 := hcc 0 _ rfl
      have q1 := hcc 1 _ rfl
      simp only [Nat.add_zero] at q0
      clear hcc hcl hr ha0
      have k0 : (0 : Int) ≤ (k : Int) := by omega
      have k1 : (k : Int) < (n : Int) := by omega
      have HX := Lib.hid hx
      clear hx
      have HG := Lib.hid hg
      have hkn : k * 2 + 2 ≤ cur.size := by rw [hcs]; omega
      have HC := Lib.hid hcs
      clear hg hcs
      go_wp2_with fail
      refine (toWait_any [.int .i64 at_, .string text_] _ _ wr _ _ G.out).mono ?_
      rintro e w2 ⟨rfl, hb2⟩
      have hg2 := (hb2.block _ hS).trans HG.out
      have hs2 : w.heap.size < w2.heap.size := Nat.lt_of_lt_of_le hS hb2.size
      have hB2 : Below w.heap.size w w2 := hB.trans (hb2.mono hB.size)
      have HK := Lib.hid hb2
      clear hb2 bl q0 q1
      have t0 : w2.cell? ⟨w.heap.size, k * 2, none⟩ = some _ := block_cell hg2 (by omega)
      have f0 : w2.frozen? ⟨w.heap.size, k * 2, none⟩ = false := block_free hg2 _
      have t1 : w2.cell? ⟨w.heap.size, k * 2 + 1, none⟩ = some _ := block_cell hg2 (by omega)
      have f1 : w2.frozen? ⟨w.heap.size, k * 2 + 1, none⟩ = false := block_free hg2 _
      have HG2 := Lib.hid hg2
      clear hg2
      generalize cur[k * 2]'_ = z0 at t0
      generalize cur[k * 2 + 1]'_ = z1 at t1
      go_wp2_with fail
      go_roundw
      case rel =>
        have hput : putAt cur (k * 2) [.int .i64 at_, .string text_] = ((cur.setIfInBounds (k * 2) (.int .i64 at_)).setIfInBounds (k * 2 + 1) (.string text_)) := by simp only [putAt, Nat.add_assoc, Nat.reduceAdd]
        refine ⟨k + 1, by omega, by go_num, Below.setCell (p := ⟨w.heap.size, _, none⟩) (Below.setCell (p := ⟨w.heap.size, _, none⟩) (hB2) (Nat.le_refl _) _) (Nat.le_refl _) _, by simpa using hs2, ((cur.setIfInBounds (k * 2) (.int .i64 at_)).setIfInBounds (k * 2 + 1) (.string text_)), block_set (block_set (HG2.out)), (by rw [← hput, putAt_size]; exact HC.out), Lib.hid ?_⟩
        rw [← hput]
        refine RowR.step (n := n) HR.out HX.out rfl HC.out hlt ?_ ?_
        · exact G.out
        · exact fun _ _ h => h
      case measure => simp [intOf]; omega
    · obtain rfl : k = n := by omega
      have hfin := RowR.slice (lo := w.heap.size) (hi := wr.heap.size) (c := k) (fun j x hj hx => (HR.out j x hj hx).imp fun cs h => ⟨h.1, h.2.1, WaitR.wide (Nat.le_succ _) (Nat.le_refl _) (Nat.le_refl _) _ _ h.2.2⟩) hl.out (by unfold maxLen; omega) (Nat.le_refl _) hg (Nat.le_refl _) hS (Nat.le_refl _)
      have HF := Lib.hid hfin; have HG := Lib.hid hg; have HC := Lib.hid hcs
      clear hfin HR hg hcs
      go_wp2_with fail
      go_ret
      exact ⟨_, _, rfl, HF.out, .inr ⟨_, _, rfl, Nat.le_refl _, hS, HG.out, HC.out, Nat.le_refl _, by unfold maxLen; omega⟩, hB⟩

set_option maxRecDepth 100000 in
set_option maxHeartbeats 2000000 in
theorem toDisk_any (cs : List Value) (x : DiskD) (w : World) (lo hi : Nat) (h : DiskR w lo hi cs x) (hz : sizeDisk x ≤ 1048576) :
    Calls Tryz.prog 50 #[.agg cs.toArray] w (NewR DiskN w x) := by
  obtain ⟨cells_, waits_, gone_⟩ := x
  obtain ⟨Aa0, na0, ca0, Aa1, na1, ca1, rfl, ha0, ha1⟩ := h
  show Calls Tryz.prog 50 #[.agg #[.slice Aa0 na0 ca0, .slice Aa1 na1 ca1, .bool gone_]] w _
  have Hha0 := Lib.hid ha0
  clear ha0
  have Hha1 := Lib.hid ha1
  clear ha1
  have hz : cells_.length + (cells_.map ByteArray.size).sum + waits_.length + (waits_.map sizeWait).sum ≤ 1048576 := hz
  have HZ := Lib.hid hz
  have hl0 := Hha0.out.len
  have hl1 := Hha1.out.len
  go_enter Tryz.func50, Tryz.ntmps50
  go_wp2_with fail
  have l1 : w.heap.size ≤ w.heap.size + 1 := Nat.le_add_right _ _
  have l2 : w.heap.size ≤ w.heap.size + 1 + 1 := by omega
  have m1 : w.heap.size + 1 < w.heap.size + 3 := by omega
  have m2 : w.heap.size + 1 + 1 < w.heap.size + 3 := by omega
  have n02 : w.heap.size ≠ w.heap.size + 1 + 1 := by omega
  have n12 : w.heap.size + 1 ≠ w.heap.size + 1 + 1 := by omega
  have Y1 : ∀ W, Below w.heap.size w W → SliceR StrR 1 W lo hi Aa0 na0 ca0 cells_ := fun W hb => SliceR.below Hha0.out hb (StrR.below hb Hha0.out.lo_le)
  refine ((toStringS_any _ _ _ cells_ _ lo hi (Y1 _ (bel3)) (by have := HZ.out; have := Hha0.out.len; clear HZ; omega)).mono ?_)
  rintro e w1 ⟨B1, d1, rfl, S1, K1, hb1⟩
  clear Y1
  have X1 : Below w.heap.size w w1 := Below.trans (bel3) (hb1.mono (by simp <;> omega))
  have b1_0 : w1.heap[w.heap.size]? = some (.cells #[.slice Aa0 na0 ca0, .slice Aa1 na1 ca1, .bool gone_] 83 (0, 0)) := (hb1.block _ (by simp <;> omega)).trans al3_0
  have b1_1 : w1.heap[w.heap.size + 1]? = some (.cells #[.slice none 0 0, .slice none 0 0, .bool false] 70 (0, 0)) := (hb1.block _ (by simp <;> omega)).trans al3_1
  have b1_2 : w1.heap[w.heap.size + 1 + 1]? = some (.cells #[.slice none 0 0, .slice none 0 0, .bool false] 70 (0, 0)) := (hb1.block _ (by simp <;> omega)).trans al3_2
  have z1 : w.heap.size + 3 ≤ w1.heap.size := by have := hb1.size; simp at this; omega
  have S1 := SliceR.wide (lo' := w.heap.size + 3) (hi' := w1.heap.size) S1 (by simp [World.setCell] <;> omega) (Nat.le_refl _) (Nat.le_refl _) (StrR.wide (by simp [World.setCell] <;> omega) (Nat.le_refl _) (Nat.le_refl _))
  have K1 := Whole.wide (lo' := w.heap.size + 3) (hi' := w1.heap.size) K1 (by simp [World.setCell] <;> omega) (Nat.le_refl _)
  have c1_0_0 : w1.cell? ⟨w.heap.size, 0, none⟩ = some (.slice Aa0 na0 ca0) := cell_of_row _ _ 0 _ _ (0, 0) b1_0
  have c1_0_1 : w1.cell? ⟨w.heap.size, 1, none⟩ = some (.slice Aa1 na1 ca1) := cell_of_row _ _ 1 _ _ (0, 0) b1_0
  have c1_0_2 : w1.cell? ⟨w.heap.size, 2, none⟩ = some (.bool gone_) := cell_of_row _ _ 2 _ _ (0, 0) b1_0
  have c1_1_0 : w1.cell? ⟨w.heap.size + 1, 0, none⟩ = some (.slice none 0 0) := cell_of_row _ _ 0 _ _ (0, 0) b1_1
  have c1_1_1 : w1.cell? ⟨w.heap.size + 1, 1, none⟩ = some (.slice none 0 0) := cell_of_row _ _ 1 _ _ (0, 0) b1_1
  have c1_1_2 : w1.cell? ⟨w.heap.size + 1, 2, none⟩ = some (.bool false) := cell_of_row _ _ 2 _ _ (0, 0) b1_1
  have f1_1_0 := block_free b1_1 0
  have f1_1_1 := block_free b1_1 1
  have f1_1_2 := block_free b1_1 2
  have c1_2_0 : w1.cell? ⟨w.heap.size + 1 + 1, 0, none⟩ = some (.slice none 0 0) := cell_of_row _ _ 0 _ _ (0, 0) b1_2
  have c1_2_1 : w1.cell? ⟨w.heap.size + 1 + 1, 1, none⟩ = some (.slice none 0 0) := cell_of_row _ _ 1 _ _ (0, 0) b1_2
  have c1_2_2 : w1.cell? ⟨w.heap.size + 1 + 1, 2, none⟩ = some (.bool false) := cell_of_row _ _ 2 _ _ (0, 0) b1_2
  have f1_2_0 := block_free b1_2 0
  have f1_2_1 := block_free b1_2 1
  have f1_2_2 := block_free b1_2 2
  have HB1_0 := Lib.hid b1_0
  have HB1_1 := Lib.hid b1_1
  have HB1_2 := Lib.hid b1_2
  clear b1_0 b1_1 b1_2 hb1
  have T1 := Lib.hid S1; clear S1
  have U1 := Lib.hid K1; clear K1
  go_wp2_with fail
  have b1_0 := HB1_0.out
  have b1_1 := HB1_1.out
  have b1_2 := HB1_2.out
  have S1 := T1.out; clear T1
  have K1 := U1.out; clear U1
  have Y2 : ∀ W, Below w.heap.size w W → SliceR WaitR 2 W lo hi Aa1 na1 ca1 waits_ := fun W hb => SliceR.below Hha1.out hb (WaitR.below hb Hha1.out.lo_le)
  refine ((toWaitS_any _ _ _ waits_ _ lo hi (Y2 _ ((Below.setCell (p := ⟨w.heap.size + 1 + 1, 0, none⟩) X1 l2 _))) (by have := HZ.out; have := Hha1.out.len; clear HZ; omega)).mono ?_)
  rintro e w2 ⟨B2, d2, rfl, S2, K2, hb2⟩
  clear Y2
  have X2 : Below w.heap.size w w2 := Below.trans ((Below.setCell (p := ⟨w.heap.size + 1 + 1, 0, none⟩) X1 l2 _)) (hb2.mono (by simp <;> omega))
  have b2_0 : w2.heap[w.heap.size]? = some (.cells #[.slice Aa0 na0 ca0, .slice Aa1 na1 ca1, .bool gone_] 83 (0, 0)) := (hb2.block _ (by simp <;> omega)).trans ((heap_far n02).trans (b1_0))
  have b2_1 : w2.heap[w.heap.size + 1]? = some (.cells #[.slice none 0 0, .slice none 0 0, .bool false] 70 (0, 0)) := (hb2.block _ (by simp <;> omega)).trans ((heap_far n12).trans (b1_1))
  have b2_2 : w2.heap[w.heap.size + 1 + 1]? = some (.cells #[.slice B1 na0 d1, .slice none 0 0, .bool false] 70 (0, 0)) := (hb2.block _ (by simp <;> omega)).trans ((block_set (b1_2)).trans (by rfl))
  have z2 : w.heap.size + 3 ≤ w2.heap.size := by have := hb2.size; simp [World.setCell] at this; omega
  have S1 := SliceR.far S1 (Step.setCell (p := ⟨w.heap.size + 1 + 1, 0, none⟩) (Step.refl _ _) m2 _) hb2 (fun a b => StrR.keep a b) (fun a b c => StrR.wide a b c)
  have K1 := Whole.far K1 (Step.setCell (p := ⟨w.heap.size + 1 + 1, 0, none⟩) (Step.refl _ _) m2 _) hb2
  have S2 := SliceR.wide (lo' := w.heap.size + 3) (hi' := w2.heap.size) S2 (by simp [World.setCell] <;> omega) (Nat.le_refl _) (Nat.le_refl _) (WaitR.wide (by simp [World.setCell] <;> omega) (Nat.le_refl _) (Nat.le_refl _))
  have K2 := Whole.wide (lo' := w.heap.size + 3) (hi' := w2.heap.size) K2 (by simp [World.setCell] <;> omega) (Nat.le_refl _)
  clear c1_0_0 c1_0_1 c1_0_2 c1_1_0 c1_1_1 c1_1_2 f1_1_0 f1_1_1 f1_1_2 c1_2_0 c1_2_1 c1_2_2 f1_2_0 f1_2_1 f1_2_2
  have c2_0_0 : w2.cell? ⟨w.heap.size, 0, none⟩ = some (.slice Aa0 na0 ca0) := cell_of_row _ _ 0 _ _ (0, 0) b2_0
  have c2_0_1 : w2.cell? ⟨w.heap.size, 1, none⟩ = some (.slice Aa1 na1 ca1) := cell_of_row _ _ 1 _ _ (0, 0) b2_0
  have c2_0_2 : w2.cell? ⟨w.heap.size, 2, none⟩ = some (.bool gone_) := cell_of_row _ _ 2 _ _ (0, 0) b2_0
  have c2_1_0 : w2.cell? ⟨w.heap.size + 1, 0, none⟩ = some (.slice none 0 0) := cell_of_row _ _ 0 _ _ (0, 0) b2_1
  have c2_1_1 : w2.cell? ⟨w.heap.size + 1, 1, none⟩ = some (.slice none 0 0) := cell_of_row _ _ 1 _ _ (0, 0) b2_1
  have c2_1_2 : w2.cell? ⟨w.heap.size + 1, 2, none⟩ = some (.bool false) := cell_of_row _ _ 2 _ _ (0, 0) b2_1
  have f2_1_0 := block_free b2_1 0
  have f2_1_1 := block_free b2_1 1
  have f2_1_2 := block_free b2_1 2
  have c2_2_0 : w2.cell? ⟨w.heap.size + 1 + 1, 0, none⟩ = some (.slice B1 na0 d1) := cell_of_row _ _ 0 _ _ (0, 0) b2_2
  have c2_2_1 : w2.cell? ⟨w.heap.size + 1 + 1, 1, none⟩ = some (.slice none 0 0) := cell_of_row _ _ 1 _ _ (0, 0) b2_2
  have c2_2_2 : w2.cell? ⟨w.heap.size + 1 + 1, 2, none⟩ = some (.bool false) := cell_of_row _ _ 2 _ _ (0, 0) b2_2
  have f2_2_0 := block_free b2_2 0
  have f2_2_1 := block_free b2_2 1
  have f2_2_2 := block_free b2_2 2
  have HB2_0 := Lib.hid b2_0
  have HB2_1 := Lib.hid b2_1
  have HB2_2 := Lib.hid b2_2
  clear b2_0 b2_1 b2_2 HB1_0 HB1_1 HB1_2 hb2 X1 z1
  have T1 := Lib.hid S1; clear S1 ; have T2 := Lib.hid S2; clear S2
  have U1 := Lib.hid K1; clear K1 ; have U2 := Lib.hid K2; clear K2
  go_wp2_with fail
  have b2_0 := HB2_0.out
  have b2_1 := HB2_1.out
  have b2_2 := HB2_2.out
  have S1 := T1.out; clear T1
  have S2 := T2.out; clear T2
  have K1 := U1.out; clear U1
  have K2 := U2.out; clear U2
  exact bodyPost_ret (v := .agg #[.slice B1 na0 d1, .slice B2 na1 d2, .bool gone_]) (by simp [results, Tryz.results50, go_sem, c2_1_0, f2_1_0, c2_1_1, f2_1_1, c2_1_2, f2_1_2]) rfl ⟨[.slice B1 na0 d1, .slice B2 na1 d2, .bool gone_], rfl, ⟨_, _, _, _, _, _, rfl, (SliceR.far S1 (Step.setCell (p := ⟨w.heap.size + 1, 2, none⟩) (Step.setCell (p := ⟨w.heap.size + 1, 1, none⟩) (Step.setCell (p := ⟨w.heap.size + 1, 0, none⟩) (Step.setCell (p := ⟨w.heap.size + 1 + 1, 2, none⟩) (Step.setCell (p := ⟨w.heap.size + 1 + 1, 1, none⟩) (Step.refl _ _) m2 _) m2 _) m1 _) m1 _) m1 _) (Below.refl _ _) (fun a b => StrR.keep a b) (fun a b c => StrR.wide a b c)).wide (by omega) (Nat.le_refl _) (Nat.le_refl _) (StrR.wide (by omega) (Nat.le_refl _) (Nat.le_refl _)), (Whole.far K1 (Step.setCell (p := ⟨w.heap.size + 1, 2, none⟩) (Step.setCell (p := ⟨w.heap.size + 1, 1, none⟩) (Step.setCell (p := ⟨w.heap.size + 1, 0, none⟩) (Step.setCell (p := ⟨w.heap.size + 1 + 1, 2, none⟩) (Step.setCell (p := ⟨w.heap.size + 1 + 1, 1, none⟩) (Step.refl _ _) m2 _) m2 _) m1 _) m1 _) m1 _) (Below.refl _ _)).wide (by omega) (Nat.le_refl _), (SliceR.far S2 (Step.setCell (p := ⟨w.heap.size + 1, 2, none⟩) (Step.setCell (p := ⟨w.heap.size + 1, 1, none⟩) (Step.setCell (p := ⟨w.heap.size + 1, 0, none⟩) (Step.setCell (p := ⟨w.heap.size + 1 + 1, 2, none⟩) (Step.setCell (p := ⟨w.heap.size + 1 + 1, 1, none⟩) (Step.refl _ _) m2 _) m2 _) m1 _) m1 _) m1 _) (Below.refl _ _) (fun a b => WaitR.keep a b) (fun a b c => WaitR.wide a b c)).wide (by omega) (Nat.le_refl _) (Nat.le_refl _) (WaitR.wide (by omega) (Nat.le_refl _) (Nat.le_refl _)), (Whole.far K2 (Step.setCell (p := ⟨w.heap.size + 1, 2, none⟩) (Step.setCell (p := ⟨w.heap.size + 1, 1, none⟩) (Step.setCell (p := ⟨w.heap.size + 1, 0, none⟩) (Step.setCell (p := ⟨w.heap.size + 1 + 1, 2, none⟩) (Step.setCell (p := ⟨w.heap.size + 1 + 1, 1, none⟩) (Step.refl _ _) m2 _) m2 _) m1 _) m1 _) m1 _) (Below.refl _ _)).wide (by omega) (Nat.le_refl _)⟩, (Below.setCell (p := ⟨w.heap.size + 1, 2, none⟩) (Below.setCell (p := ⟨w.heap.size + 1, 1, none⟩) (Below.setCell (p := ⟨w.heap.size + 1, 0, none⟩) (Below.setCell (p := ⟨w.heap.size + 1 + 1, 2, none⟩) (Below.setCell (p := ⟨w.heap.size + 1 + 1, 1, none⟩) X2 l2 _) l2 _) l1 _) l1 _) l1 _)⟩

end Go.Proofs.YtggdjiklgakfnaaGreatDoor
