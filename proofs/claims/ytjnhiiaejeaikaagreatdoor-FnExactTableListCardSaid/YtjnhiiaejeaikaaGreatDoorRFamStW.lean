/- to at stores, with arrays that lie whole. No condition. -/
import Derived.Test.YtjnhiiaejeaikaaGreatDoorRFamSt
import Derived.Test.YtjnhiiaejeaikaaGreatDoorRMarkSt
import Derived.Test.YtjnhiiaejeaikaaGreatDoorChecked
set_option linter.unnecessarySimpa false
set_option linter.unusedSimpArgs false
set_option linter.unusedVariables false
namespace Go.Proofs.YtjnhiiaejeaikaaGreatDoor
open Go.RowKit
def SpaceN : Reads SpaceD := fun w lo hi cs x => ∃ (A0 : Option Addr) (n0 c0 : Nat) (A1 : Option Addr) (n1 c1 : Nat), cs = [.slice A0 n0 c0, .slice A1 n1 c1] ∧ SliceR IntR 1 w lo hi A0 n0 c0 x.1 ∧ Whole w 3 1 lo hi A0 n0 c0 ∧ SliceR IntR 1 w lo hi A1 n1 c1 x.2 ∧ Whole w 3 1 lo hi A1 n1 c1
def StoreN : Reads StoreD := fun w lo hi cs x => ∃ (A0 : Option Addr) (n0 c0 : Nat) (A1 : Option Addr) (n1 c1 : Nat) (A2 : Option Addr) (n2 c2 : Nat) (A3 : Option Addr) (n3 c3 : Nat) (A4 : Option Addr) (n4 c4 : Nat), cs = [.slice A0 n0 c0, .slice A1 n1 c1, .slice A2 n2 c2, .int .i64 x.2.2.1, .slice A3 n3 c3, .int .i64 x.2.2.2.2.1, .slice A4 n4 c4, .bool x.2.2.2.2.2.2] ∧ SliceR StrR 1 w lo hi A0 n0 c0 x.1 ∧ Whole w 9 1 lo hi A0 n0 c0 ∧ SliceR IntR 1 w lo hi A1 n1 c1 x.2.1.1 ∧ Whole w 3 1 lo hi A1 n1 c1 ∧ SliceR IntR 1 w lo hi A2 n2 c2 x.2.1.2 ∧ Whole w 3 1 lo hi A2 n2 c2 ∧ SliceR PtrR 5 w lo hi A3 n3 c3 x.2.2.2.1 ∧ Whole w 41 5 lo hi A3 n3 c3 ∧ SliceR PtrR 5 w lo hi A4 n4 c4 x.2.2.2.2.2.1 ∧ Whole w 41 5 lo hi A4 n4 c4
theorem StoreN.r {w : World} {lo hi : Nat} {cs : List Value} {x : StoreD} (h : StoreN w lo hi cs x) : StoreR w lo hi cs x := by
 obtain ⟨A0, n0, c0, A1, n1, c1, A2, n2, c2, A3, n3, c3, A4, n4, c4, rfl, h0, h1, h2, h3, h4, h5, h6, h7, h8, h9⟩ := h
 exact ⟨A0, n0, c0, A1, n1, c1, A2, n2, c2, A3, n3, c3, A4, n4, c4, rfl, h0, h2, h4, h6, h8⟩
theorem StoreN.keep {w w' : World} {lo hi : Nat} (hs : Same lo hi w w') (hz : w.heap.size ≤ w'.heap.size) (cs : List Value) (x : StoreD) (h : StoreN w lo hi cs x) : StoreN w' lo hi cs x := by
 obtain ⟨A0, n0, c0, A1, n1, c1, A2, n2, c2, A3, n3, c3, A4, n4, c4, rfl, h0, h1, h2, h3, h4, h5, h6, h7, h8, h9⟩ := h
 exact ⟨A0, n0, c0, A1, n1, c1, A2, n2, c2, A3, n3, c3, A4, n4, c4, rfl, h0.keep hs hz (StrR.keep hs hz), h1.keep hs, h2.keep hs hz (IntR.keep hs hz), h3.keep hs, h4.keep hs hz (IntR.keep hs hz), h5.keep hs, h6.keep hs hz (PtrR.keep hs hz), h7.keep hs, h8.keep hs hz (PtrR.keep hs hz), h9.keep hs⟩
theorem StoreN.below {w w' : World} {lo hi : Nat} (hb : Below w.heap.size w w') (hhi : hi ≤ w.heap.size) (cs : List Value) (x : StoreD) (h : StoreN w lo hi cs x) : StoreN w' lo hi cs x := StoreN.keep (Same.of_below hb hhi) hb.size cs x h
theorem info_StringSW : (Tryz.prog.info? 9).map (fun i => (i.zero, i.size, i.bytes)) = some (some (.string ByteArray.empty), 1, 16) := by kernel_rfl
theorem make_StringSW (n : Nat) (hn : n ≤ 1048576) (w : World) :
 (Instr.makeSlice 22 (.int .i64 (n : Int)) (.int .i64 (n : Int))).run Tryz.prog w = .ok (.slice (some ⟨w.heap.size, 0, none⟩) n n) (w.alloc (.cells (madeCells #[.string ByteArray.empty] (n)) 9)) := by
 obtain ⟨i, hi, hz, hs, hb⟩ := info_parts info_StringSW
 have hr := run_make (P := Tryz.prog) w 22 9 i (.string ByteArray.empty) Tryz.underlying22 hi hz .i64 .i64 n n (by omega) (by omega) (by rw [hb]; omega) (by omega)
 simp only [Int.toNat_natCast, hs, Nat.mul_one] at hr
 exact hr
set_option maxRecDepth 100000 in
set_option maxHeartbeats 2000000 in
theorem toStringSW_any (A : Option Addr) (n c : Nat) (xs : List ByteArray) (w : World) (lo hi : Nat) (h : SliceR StrR 1 w lo hi A n c xs) (hz : xs.length + (xs.map ByteArray.size).sum ≤ 1048576) :
 Calls Tryz.prog 28 #[.slice A n c] w (NewW StrR 1 9 w n xs) := by
 have hl := Lib.hid h.len
 have hn : n ≤ 1048576 := by have := h.len; omega
 have HZ := Lib.hid hz
 clear hz
 have hmk := make_StringSW n hn w
 have H := Lib.hid h
 clear h
 go_enter Tryz.func28, Tryz.ntmps28
 go_wp2_with fail
 have hrow : ∃ cur, (w.alloc (.cells (madeCells #[.string ByteArray.empty] (n)) 9)).heap[w.heap.size]? = some (.cells cur 9 (0, 0)) ∧ cur.size = n * 1 := ⟨_, heap_alloc_new w _, by rw [size_madeCells]; omega⟩
 generalize hW : w.alloc (.cells (madeCells #[.string ByteArray.empty] (n)) 9) = w1 at *
 have hb1 : Below w.heap.size w w1 := by rw [← hW]; exact bel1
 have hs1 : w.heap.size < w1.heap.size := by rw [← hW]; simp
 clear hW hmk
 have rel0 : ∃ cur, w1.heap[w.heap.size]? = some (.cells cur 9 (0, 0)) ∧ cur.size = n * 1 ∧ Hid (RowR StrR 1 w1 (w.heap.size + 1) w1.heap.size cur 0 xs) := by
  obtain ⟨cur, h1, h2⟩ := hrow
  exact ⟨cur, h1, h2, Lib.hid (fun j x hj => absurd hj (by omega))⟩
 clear hrow
 go_loopw [4] (fun i wr => ∃ k : Nat, k ≤ n ∧ i = .int .i64 k ∧ Below w.heap.size w wr ∧ w.heap.size < wr.heap.size ∧ ∃ cur, wr.heap[w.heap.size]? = some (.cells cur 9 (0, 0)) ∧ cur.size = n * 1 ∧ Hid (RowR StrR 1 wr (w.heap.size + 1) wr.heap.size cur k xs)) (fun i _ => n - (intOf i).toNat)
 case atStart => exact ⟨0, Nat.zero_le _, rfl, hb1, hs1, rel0⟩
 clear rel0 hb1 hs1
 obtain ⟨k, hk, rfl, hB, hS, cur, hg, hcs, HR⟩ := hrel
 by_cases hlt : k < n
 · obtain ⟨x, hx⟩ : ∃ x, xs[k]? = some x := ⟨xs[k]'(by rw [hl.out]; exact hlt), List.getElem?_eq_getElem _⟩
   obtain ⟨b, off, rfl, _, _, bl, hc⟩ := (SliceR.below H.out hB (StrR.below hB H.out.lo_le)).at_ (by omega)
   obtain ⟨cs, hcl, hcc, hr⟩ := hc k x hx
   clear hc
   have hhi : hi ≤ wr.heap.size := Nat.le_trans H.out.lo_le hB.size
   obtain ⟨rfl, hm⟩ := hr
   have q0 := hcc 0 _ rfl
   simp only [Nat.add_zero, Nat.mul_one] at q0
   clear hcc hcl
   have k0 : (0 : Int) ≤ (k : Int) := by omega
   have k1 : (k : Int) < (n : Int) := by omega
   have HX := Lib.hid hx
   clear hx
   have HG := Lib.hid hg
   have hkn : k * 1 + 1 ≤ cur.size := by rw [hcs]; omega
   have HC := Lib.hid hcs
   clear hg hcs
   have hg2 := HG.out
   have hs2 := hS
   have hB2 := hB
   have t0 : wr.cell? ⟨w.heap.size, k, none⟩ = some _ := block_cell hg2 (by omega)
   have f0 : wr.frozen? ⟨w.heap.size, k, none⟩ = false := block_free hg2 _
   have HG2 := Lib.hid hg2
   clear hg2
   generalize cur[k]'_ = z0 at t0
   go_wp2_with fail
   go_roundw
   case rel =>
    have hput : putAt cur (k * 1) [.string x] = (cur.setIfInBounds (k) (.string x)) := by simp only [putAt, Nat.add_assoc, Nat.reduceAdd, Nat.mul_one]
    refine ⟨k + 1, by omega, by go_num, Below.setCell (p := ⟨w.heap.size, _, none⟩) (hB2) (Nat.le_refl _) _, by simpa using hs2, (cur.setIfInBounds (k) (.string x)), block_set (HG2.out), (by rw [← hput, putAt_size]; exact HC.out), Lib.hid ?_⟩
    rw [← hput]
    refine RowR.step (n := n) HR.out HX.out rfl HC.out hlt ?_ ?_
    · exact ⟨rfl, hm⟩
    exact fun _ _ h => h
   simp [intOf]; omega
 obtain rfl : k = n := by omega
 have hfin := RowR.slice (lo := w.heap.size) (hi := wr.heap.size) (c := k) (fun j x hj hx => (HR.out j x hj hx).imp fun cs h => ⟨h.1, h.2.1, StrR.wide (Nat.le_succ _) (Nat.le_refl _) (Nat.le_refl _) _ _ h.2.2⟩) hl.out (by unfold maxLen; omega) (Nat.le_refl _) hg (Nat.le_refl _) hS (Nat.le_refl _)
 have HF := Lib.hid hfin; have HG := Lib.hid hg; have HC := Lib.hid hcs
 clear hfin HR hg hcs
 go_wp2_with fail
 go_ret
 exact ⟨_, _, rfl, HF.out, .inr ⟨_, _, rfl, Nat.le_refl _, hS, HG.out, HC.out, Nat.le_refl _, by unfold maxLen; omega⟩, hB⟩
theorem info_IntSW : (Tryz.prog.info? 3).map (fun i => (i.zero, i.size, i.bytes)) = some (some (.int .i64 0), 1, 8) := by kernel_rfl
theorem make_IntSW (n : Nat) (hn : n ≤ 1048576) (w : World) :
 (Instr.makeSlice 23 (.int .i64 (n : Int)) (.int .i64 (n : Int))).run Tryz.prog w = .ok (.slice (some ⟨w.heap.size, 0, none⟩) n n) (w.alloc (.cells (madeCells #[.int .i64 0] (n)) 3)) := by
 obtain ⟨i, hi, hz, hs, hb⟩ := info_parts info_IntSW
 have hr := run_make (P := Tryz.prog) w 23 3 i (.int .i64 0) Tryz.underlying23 hi hz .i64 .i64 n n (by omega) (by omega) (by rw [hb]; omega) (by omega)
 simp only [Int.toNat_natCast, hs, Nat.mul_one] at hr
 exact hr
set_option maxRecDepth 100000 in
set_option maxHeartbeats 2000000 in
theorem toIntSW_any (A : Option Addr) (n c : Nat) (xs : List Int) (w : World) (lo hi : Nat) (h : SliceR IntR 1 w lo hi A n c xs) (hz : xs.length ≤ 1048576) :
 Calls Tryz.prog 49 #[.slice A n c] w (NewW IntR 1 3 w n xs) := by
 have hl := Lib.hid h.len
 have hn : n ≤ 1048576 := by have := h.len; omega
 have HZ := Lib.hid hz
 clear hz
 have hmk := make_IntSW n hn w
 have H := Lib.hid h
 clear h
 go_enter Tryz.func49, Tryz.ntmps49
 go_wp2_with fail
 have hrow : ∃ cur, (w.alloc (.cells (madeCells #[.int .i64 0] (n)) 3)).heap[w.heap.size]? = some (.cells cur 3 (0, 0)) ∧ cur.size = n * 1 := ⟨_, heap_alloc_new w _, by rw [size_madeCells]; omega⟩
 generalize hW : w.alloc (.cells (madeCells #[.int .i64 0] (n)) 3) = w1 at *
 have hb1 : Below w.heap.size w w1 := by rw [← hW]; exact bel1
 have hs1 : w.heap.size < w1.heap.size := by rw [← hW]; simp
 clear hW hmk
 have rel0 : ∃ cur, w1.heap[w.heap.size]? = some (.cells cur 3 (0, 0)) ∧ cur.size = n * 1 ∧ Hid (RowR IntR 1 w1 (w.heap.size + 1) w1.heap.size cur 0 xs) := by
  obtain ⟨cur, h1, h2⟩ := hrow
  exact ⟨cur, h1, h2, Lib.hid (fun j x hj => absurd hj (by omega))⟩
 clear hrow
 go_loopw [4] (fun i wr => ∃ k : Nat, k ≤ n ∧ i = .int .i64 k ∧ Below w.heap.size w wr ∧ w.heap.size < wr.heap.size ∧ ∃ cur, wr.heap[w.heap.size]? = some (.cells cur 3 (0, 0)) ∧ cur.size = n * 1 ∧ Hid (RowR IntR 1 wr (w.heap.size + 1) wr.heap.size cur k xs)) (fun i _ => n - (intOf i).toNat)
 case atStart => exact ⟨0, Nat.zero_le _, rfl, hb1, hs1, rel0⟩
 clear rel0 hb1 hs1
 obtain ⟨k, hk, rfl, hB, hS, cur, hg, hcs, HR⟩ := hrel
 by_cases hlt : k < n
 · obtain ⟨x, hx⟩ : ∃ x, xs[k]? = some x := ⟨xs[k]'(by rw [hl.out]; exact hlt), List.getElem?_eq_getElem _⟩
   obtain ⟨b, off, rfl, _, _, bl, hc⟩ := (SliceR.below H.out hB (IntR.below hB H.out.lo_le)).at_ (by omega)
   obtain ⟨cs, hcl, hcc, hr⟩ := hc k x hx
   clear hc
   have hhi : hi ≤ wr.heap.size := Nat.le_trans H.out.lo_le hB.size
   obtain rfl := hr
   have q0 := hcc 0 _ rfl
   simp only [Nat.add_zero, Nat.mul_one] at q0
   clear hcc hcl
   have k0 : (0 : Int) ≤ (k : Int) := by omega
   have k1 : (k : Int) < (n : Int) := by omega
   have HX := Lib.hid hx
   clear hx
   have HG := Lib.hid hg
   have hkn : k * 1 + 1 ≤ cur.size := by rw [hcs]; omega
   have HC := Lib.hid hcs
   clear hg hcs
   have hg2 := HG.out
   have hs2 := hS
   have hB2 := hB
   have t0 : wr.cell? ⟨w.heap.size, k, none⟩ = some _ := block_cell hg2 (by omega)
   have f0 : wr.frozen? ⟨w.heap.size, k, none⟩ = false := block_free hg2 _
   have HG2 := Lib.hid hg2
   clear hg2
   generalize cur[k]'_ = z0 at t0
   go_wp2_with fail
   go_roundw
   case rel =>
    have hput : putAt cur (k * 1) [.int .i64 x] = (cur.setIfInBounds (k) (.int .i64 x)) := by simp only [putAt, Nat.add_assoc, Nat.reduceAdd, Nat.mul_one]
    refine ⟨k + 1, by omega, by go_num, Below.setCell (p := ⟨w.heap.size, _, none⟩) (hB2) (Nat.le_refl _) _, by simpa using hs2, (cur.setIfInBounds (k) (.int .i64 x)), block_set (HG2.out), (by rw [← hput, putAt_size]; exact HC.out), Lib.hid ?_⟩
    rw [← hput]
    refine RowR.step (n := n) HR.out HX.out rfl HC.out hlt ?_ ?_
    · rfl
    exact fun _ _ h => h
   simp [intOf]; omega
 obtain rfl : k = n := by omega
 have hfin := RowR.slice (lo := w.heap.size) (hi := wr.heap.size) (c := k) (fun j x hj hx => (HR.out j x hj hx).imp fun cs h => ⟨h.1, h.2.1, IntR.wide (Nat.le_succ _) (Nat.le_refl _) (Nat.le_refl _) _ _ h.2.2⟩) hl.out (by unfold maxLen; omega) (Nat.le_refl _) hg (Nat.le_refl _) hS (Nat.le_refl _)
 have HF := Lib.hid hfin; have HG := Lib.hid hg; have HC := Lib.hid hcs
 clear hfin HR hg hcs
 go_wp2_with fail
 go_ret
 exact ⟨_, _, rfl, HF.out, .inr ⟨_, _, rfl, Nat.le_refl _, hS, HG.out, HC.out, Nat.le_refl _, by unfold maxLen; omega⟩, hB⟩
theorem info_PtrSW : (Tryz.prog.info? 41).map (fun i => (i.zero, i.size, i.bytes)) = some (some (.agg #[.int .i64 0, .int .i64 0, .int .i64 0, .int .i64 0, .int .i64 0]), 5, 40) := by kernel_rfl
theorem make_PtrSW (n : Nat) (hn : n ≤ 1048576) (w : World) :
 (Instr.makeSlice 37 (.int .i64 (n : Int)) (.int .i64 (n : Int))).run Tryz.prog w = .ok (.slice (some ⟨w.heap.size, 0, none⟩) n n) (w.alloc (.cells (madeCells #[.int .i64 0, .int .i64 0, .int .i64 0, .int .i64 0, .int .i64 0] (n * 5)) 41)) := by
 obtain ⟨i, hi, hz, hs, hb⟩ := info_parts info_PtrSW
 have hr := run_make (P := Tryz.prog) w 37 41 i (.agg #[.int .i64 0, .int .i64 0, .int .i64 0, .int .i64 0, .int .i64 0]) Tryz.underlying37 hi hz .i64 .i64 n n (by omega) (by omega) (by rw [hb]; omega) (by omega)
 simp only [Int.toNat_natCast, hs] at hr
 exact hr
set_option maxRecDepth 100000 in
set_option maxHeartbeats 2000000 in
theorem toPtrSW_any (A : Option Addr) (n c : Nat) (xs : List PtrD) (w : World) (lo hi : Nat) (h : SliceR PtrR 5 w lo hi A n c xs) (hz : xs.length ≤ 1048576) :
 Calls Tryz.prog 30 #[.slice A n c] w (NewW PtrR 5 41 w n xs) := by
 have hl := Lib.hid h.len
 have hn : n ≤ 1048576 := by have := h.len; omega
 have HZ := Lib.hid hz
 clear hz
 have hmk := make_PtrSW n hn w
 have H := Lib.hid h
 clear h
 go_enter Tryz.func30, Tryz.ntmps30
 go_wp2_with fail
 have hrow : ∃ cur, (w.alloc (.cells (madeCells #[.int .i64 0, .int .i64 0, .int .i64 0, .int .i64 0, .int .i64 0] (n * 5)) 41)).heap[w.heap.size]? = some (.cells cur 41 (0, 0)) ∧ cur.size = n * 5 := ⟨_, heap_alloc_new w _, size_madeCells _ _⟩
 generalize hW : w.alloc (.cells (madeCells #[.int .i64 0, .int .i64 0, .int .i64 0, .int .i64 0, .int .i64 0] (n * 5)) 41) = w1 at *
 have hb1 : Below w.heap.size w w1 := by rw [← hW]; exact bel1
 have hs1 : w.heap.size < w1.heap.size := by rw [← hW]; simp
 clear hW hmk
 have rel0 : ∃ cur, w1.heap[w.heap.size]? = some (.cells cur 41 (0, 0)) ∧ cur.size = n * 5 ∧ Hid (RowR PtrR 5 w1 (w.heap.size + 1) w1.heap.size cur 0 xs) := by
  obtain ⟨cur, h1, h2⟩ := hrow
  exact ⟨cur, h1, h2, Lib.hid (fun j x hj => absurd hj (by omega))⟩
 clear hrow
 go_loopw [4] (fun i wr => ∃ k : Nat, k ≤ n ∧ i = .int .i64 k ∧ Below w.heap.size w wr ∧ w.heap.size < wr.heap.size ∧ ∃ cur, wr.heap[w.heap.size]? = some (.cells cur 41 (0, 0)) ∧ cur.size = n * 5 ∧ Hid (RowR PtrR 5 wr (w.heap.size + 1) wr.heap.size cur k xs)) (fun i _ => n - (intOf i).toNat)
 case atStart => exact ⟨0, Nat.zero_le _, rfl, hb1, hs1, rel0⟩
 clear rel0 hb1 hs1
 obtain ⟨k, hk, rfl, hB, hS, cur, hg, hcs, HR⟩ := hrel
 by_cases hlt : k < n
 · obtain ⟨x, hx⟩ : ∃ x, xs[k]? = some x := ⟨xs[k]'(by rw [hl.out]; exact hlt), List.getElem?_eq_getElem _⟩
   obtain ⟨b, off, rfl, _, _, bl, hc⟩ := (SliceR.below H.out hB (PtrR.below hB H.out.lo_le)).at_ (by omega)
   obtain ⟨cs, hcl, hcc, hr⟩ := hc k x hx
   clear hc
   have hhi : hi ≤ wr.heap.size := Nat.le_trans H.out.lo_le hB.size
   obtain ⟨at_, birth_, size_, sum_, level_⟩ := x
   have hr0 := hr
   obtain rfl := hr0
   have G := Lib.hid hr
   have q0 := hcc 0 _ rfl
   have q1 := hcc 1 _ rfl
   have q2 := hcc 2 _ rfl
   have q3 := hcc 3 _ rfl
   have q4 := hcc 4 _ rfl
   simp only [Nat.add_zero] at q0
   clear hcc hcl hr
   have k0 : (0 : Int) ≤ (k : Int) := by omega
   have k1 : (k : Int) < (n : Int) := by omega
   have HX := Lib.hid hx
   clear hx
   have HG := Lib.hid hg
   have hkn : k * 5 + 5 ≤ cur.size := by rw [hcs]; omega
   have HC := Lib.hid hcs
   clear hg hcs
   go_wp2_with fail
   refine (toPtrF_any [.int .i64 at_, .int .i64 birth_, .int .i64 size_, .int .i64 sum_, .int .i64 level_] _ _ wr _ _ G.out).mono ?_
   rintro e w2 ⟨rfl, hb2⟩
   have hg2 := (hb2.block _ hS).trans HG.out
   have hs2 : w.heap.size < w2.heap.size := Nat.lt_of_lt_of_le hS hb2.size
   have hB2 : Below w.heap.size w w2 := hB.trans (hb2.mono hB.size)
   have HK := Lib.hid hb2
   clear hb2 bl q0 q1 q2 q3 q4
   have t0 : w2.cell? ⟨w.heap.size, k * 5, none⟩ = some _ := block_cell hg2 (by omega)
   have f0 : w2.frozen? ⟨w.heap.size, k * 5, none⟩ = false := block_free hg2 _
   have t1 : w2.cell? ⟨w.heap.size, k * 5 + 1, none⟩ = some _ := block_cell hg2 (by omega)
   have f1 : w2.frozen? ⟨w.heap.size, k * 5 + 1, none⟩ = false := block_free hg2 _
   have t2 : w2.cell? ⟨w.heap.size, k * 5 + 2, none⟩ = some _ := block_cell hg2 (by omega)
   have f2 : w2.frozen? ⟨w.heap.size, k * 5 + 2, none⟩ = false := block_free hg2 _
   have t3 : w2.cell? ⟨w.heap.size, k * 5 + 3, none⟩ = some _ := block_cell hg2 (by omega)
   have f3 : w2.frozen? ⟨w.heap.size, k * 5 + 3, none⟩ = false := block_free hg2 _
   have t4 : w2.cell? ⟨w.heap.size, k * 5 + 4, none⟩ = some _ := block_cell hg2 (by omega)
   have f4 : w2.frozen? ⟨w.heap.size, k * 5 + 4, none⟩ = false := block_free hg2 _
   have HG2 := Lib.hid hg2
   clear hg2
   generalize cur[k * 5]'_ = z0 at t0
   generalize cur[k * 5 + 1]'_ = z1 at t1
   generalize cur[k * 5 + 2]'_ = z2 at t2
   generalize cur[k * 5 + 3]'_ = z3 at t3
   generalize cur[k * 5 + 4]'_ = z4 at t4
   go_wp2_with fail
   go_roundw
   case rel =>
    have hput : putAt cur (k * 5) [.int .i64 at_, .int .i64 birth_, .int .i64 size_, .int .i64 sum_, .int .i64 level_] = (((((cur.setIfInBounds (k * 5) (.int .i64 at_)).setIfInBounds (k * 5 + 1) (.int .i64 birth_)).setIfInBounds (k * 5 + 2) (.int .i64 size_)).setIfInBounds (k * 5 + 3) (.int .i64 sum_)).setIfInBounds (k * 5 + 4) (.int .i64 level_)) := by simp only [putAt, Nat.add_assoc, Nat.reduceAdd]
    refine ⟨k + 1, by omega, by go_num, Below.setCell (p := ⟨w.heap.size, _, none⟩) (Below.setCell (p := ⟨w.heap.size, _, none⟩) (Below.setCell (p := ⟨w.heap.size, _, none⟩) (Below.setCell (p := ⟨w.heap.size, _, none⟩) (Below.setCell (p := ⟨w.heap.size, _, none⟩) (hB2) (Nat.le_refl _) _) (Nat.le_refl _) _) (Nat.le_refl _) _) (Nat.le_refl _) _) (Nat.le_refl _) _, by simpa using hs2, (((((cur.setIfInBounds (k * 5) (.int .i64 at_)).setIfInBounds (k * 5 + 1) (.int .i64 birth_)).setIfInBounds (k * 5 + 2) (.int .i64 size_)).setIfInBounds (k * 5 + 3) (.int .i64 sum_)).setIfInBounds (k * 5 + 4) (.int .i64 level_)), block_set (block_set (block_set (block_set (block_set (HG2.out))))), (by rw [← hput, putAt_size]; exact HC.out), Lib.hid ?_⟩
    rw [← hput]
    refine RowR.step (n := n) HR.out HX.out rfl HC.out hlt ?_ ?_
    · exact G.out
    exact fun _ _ h => h
   simp [intOf]; omega
 obtain rfl : k = n := by omega
 have hfin := RowR.slice (lo := w.heap.size) (hi := wr.heap.size) (c := k) (fun j x hj hx => (HR.out j x hj hx).imp fun cs h => ⟨h.1, h.2.1, PtrR.wide (Nat.le_succ _) (Nat.le_refl _) (Nat.le_refl _) _ _ h.2.2⟩) hl.out (by unfold maxLen; omega) (Nat.le_refl _) hg (Nat.le_refl _) hS (Nat.le_refl _)
 have HF := Lib.hid hfin; have HG := Lib.hid hg; have HC := Lib.hid hcs
 clear hfin HR hg hcs
 go_wp2_with fail
 go_ret
 exact ⟨_, _, rfl, HF.out, .inr ⟨_, _, rfl, Nat.le_refl _, hS, HG.out, HC.out, Nat.le_refl _, by unfold maxLen; omega⟩, hB⟩
set_option maxRecDepth 100000 in
set_option maxHeartbeats 2000000 in
theorem toSpaceW_any (cs : List Value) (x : SpaceD) (w : World) (lo hi : Nat) (h : SpaceR w lo hi cs x) (hz : sizeSpace x ≤ 1048576) :
 Calls Tryz.prog 29 #[.agg cs.toArray] w (NewR SpaceN w x) := by
 obtain ⟨refs_, last_⟩ := x
 obtain ⟨Aa0, na0, ca0, Aa1, na1, ca1, rfl, ha0, ha1⟩ := h
 show Calls Tryz.prog 29 #[.agg #[.slice Aa0 na0 ca0, .slice Aa1 na1 ca1]] w _
 have Hha0 := Lib.hid ha0
 clear ha0
 have Hha1 := Lib.hid ha1
 clear ha1
 have hz : refs_.length + last_.length ≤ 1048576 := hz
 have HZ := Lib.hid hz
 have hl0 := Hha0.out.len
 have hl1 := Hha1.out.len
 go_enter Tryz.func29, Tryz.ntmps29
 go_wp2_with fail
 have l1 : w.heap.size ≤ w.heap.size + 1 := Nat.le_add_right _ _
 have l2 : w.heap.size ≤ w.heap.size + 1 + 1 := by omega
 have m1 : w.heap.size + 1 < w.heap.size + 3 := by omega
 have m2 : w.heap.size + 1 + 1 < w.heap.size + 3 := by omega
 have n02 : w.heap.size ≠ w.heap.size + 1 + 1 := by omega
 have n12 : w.heap.size + 1 ≠ w.heap.size + 1 + 1 := by omega
 have Y1 : ∀ W, Below w.heap.size w W → SliceR IntR 1 W lo hi Aa0 na0 ca0 refs_ := fun W hb => SliceR.below Hha0.out hb (IntR.below hb Hha0.out.lo_le)
 refine ((toIntSW_any _ _ _ refs_ _ lo hi (Y1 _ (bel3)) (by have := HZ.out; have := Hha0.out.len; clear HZ; omega)).mono ?_)
 rintro e w1 ⟨B1, d1, rfl, S1, K1, hb1⟩
 clear Y1
 have X1 : Below w.heap.size w w1 := Below.trans (bel3) (hb1.mono (by simp <;> omega))
 have b1_0 : w1.heap[w.heap.size]? = some (.cells #[.slice Aa0 na0 ca0, .slice Aa1 na1 ca1] 25 (0, 0)) := (hb1.block _ (by simp <;> omega)).trans al3_0
 have b1_1 : w1.heap[w.heap.size + 1]? = some (.cells #[.slice none 0 0, .slice none 0 0] 36 (0, 0)) := (hb1.block _ (by simp <;> omega)).trans al3_1
 have b1_2 : w1.heap[w.heap.size + 1 + 1]? = some (.cells #[.slice none 0 0, .slice none 0 0] 36 (0, 0)) := (hb1.block _ (by simp <;> omega)).trans al3_2
 have z1 : w.heap.size + 3 ≤ w1.heap.size := by have := hb1.size; simp at this; omega
 have S1 := SliceR.wide (lo' := w.heap.size + 3) (hi' := w1.heap.size) S1 (by simp [World.setCell] <;> omega) (Nat.le_refl _) (Nat.le_refl _) (IntR.wide (by simp [World.setCell] <;> omega) (Nat.le_refl _) (Nat.le_refl _))
 have K1 := Whole.wide (lo' := w.heap.size + 3) (hi' := w1.heap.size) K1 (by simp [World.setCell] <;> omega) (Nat.le_refl _)
 have c1_0_0 := celR 0 b1_0
 have c1_0_1 := celR 1 b1_0
 have c1_1_0 := celR 0 b1_1
 have c1_1_1 := celR 1 b1_1
 have f1_1_0 := block_free b1_1 0
 have f1_1_1 := block_free b1_1 1
 have c1_2_0 := celR 0 b1_2
 have c1_2_1 := celR 1 b1_2
 have f1_2_0 := block_free b1_2 0
 have f1_2_1 := block_free b1_2 1
 have HB1_0 := Lib.hid b1_0
 have HB1_1 := Lib.hid b1_1
 have HB1_2 := Lib.hid b1_2
 clear b1_0 b1_1 b1_2 hb1
 have T1 := Lib.hid S1; clear S1
 have U1 := Lib.hid K1; clear K1
 go_wp2_with fail
 have b1_0 := HB1_0.out
 have b1_1 := HB1_1.out
 have b1_2 := HB1_2.out
 have S1 := T1.out; clear T1
 have K1 := U1.out; clear U1
 have Y2 : ∀ W, Below w.heap.size w W → SliceR IntR 1 W lo hi Aa1 na1 ca1 last_ := fun W hb => SliceR.below Hha1.out hb (IntR.below hb Hha1.out.lo_le)
 refine ((toIntSW_any _ _ _ last_ _ lo hi (Y2 _ ((Below.setCell (p := ⟨w.heap.size + 1 + 1, 0, none⟩) X1 l2 _))) (by have := HZ.out; have := Hha1.out.len; clear HZ; omega)).mono ?_)
 rintro e w2 ⟨B2, d2, rfl, S2, K2, hb2⟩
 clear Y2
 have X2 : Below w.heap.size w w2 := Below.trans ((Below.setCell (p := ⟨w.heap.size + 1 + 1, 0, none⟩) X1 l2 _)) (hb2.mono (by simp <;> omega))
 have b2_0 : w2.heap[w.heap.size]? = some (.cells #[.slice Aa0 na0 ca0, .slice Aa1 na1 ca1] 25 (0, 0)) := (hb2.block _ (by simp <;> omega)).trans ((heap_far n02).trans (b1_0))
 have b2_1 : w2.heap[w.heap.size + 1]? = some (.cells #[.slice none 0 0, .slice none 0 0] 36 (0, 0)) := (hb2.block _ (by simp <;> omega)).trans ((heap_far n12).trans (b1_1))
 have b2_2 : w2.heap[w.heap.size + 1 + 1]? = some (.cells #[.slice B1 na0 d1, .slice none 0 0] 36 (0, 0)) := (hb2.block _ (by simp <;> omega)).trans ((block_set (b1_2)).trans (by rfl))
 have z2 : w.heap.size + 3 ≤ w2.heap.size := by have := hb2.size; simp [World.setCell] at this; omega
 have S1 := SliceR.far S1 (Step.setCell (p := ⟨w.heap.size + 1 + 1, 0, none⟩) (Step.refl _ _) m2 _) hb2 (fun a b => IntR.keep a b) (fun a b c => IntR.wide a b c)
 have K1 := Whole.far K1 (Step.setCell (p := ⟨w.heap.size + 1 + 1, 0, none⟩) (Step.refl _ _) m2 _) hb2
 have S2 := SliceR.wide (lo' := w.heap.size + 3) (hi' := w2.heap.size) S2 (by simp [World.setCell] <;> omega) (Nat.le_refl _) (Nat.le_refl _) (IntR.wide (by simp [World.setCell] <;> omega) (Nat.le_refl _) (Nat.le_refl _))
 have K2 := Whole.wide (lo' := w.heap.size + 3) (hi' := w2.heap.size) K2 (by simp [World.setCell] <;> omega) (Nat.le_refl _)
 clear c1_0_0 c1_0_1 c1_1_0 c1_1_1 f1_1_0 f1_1_1 c1_2_0 c1_2_1 f1_2_0 f1_2_1
 have c2_0_0 := celR 0 b2_0
 have c2_0_1 := celR 1 b2_0
 have c2_1_0 := celR 0 b2_1
 have c2_1_1 := celR 1 b2_1
 have f2_1_0 := block_free b2_1 0
 have f2_1_1 := block_free b2_1 1
 have c2_2_0 := celR 0 b2_2
 have c2_2_1 := celR 1 b2_2
 have f2_2_0 := block_free b2_2 0
 have f2_2_1 := block_free b2_2 1
 have HB2_0 := Lib.hid b2_0
 have HB2_1 := Lib.hid b2_1
 have HB2_2 := Lib.hid b2_2
 clear b2_0 b2_1 b2_2 HB1_0 HB1_1 HB1_2 hb2 X1 z1
 have T1 := Lib.hid S1; clear S1 ; have T2 := Lib.hid S2; clear S2
 have U1 := Lib.hid K1; clear K1 ; have U2 := Lib.hid K2; clear K2
 go_wp2_with fail
 have b2_0 := HB2_0.out
 have b2_1 := HB2_1.out
 have b2_2 := HB2_2.out
 have S1 := T1.out; clear T1
 have S2 := T2.out; clear T2
 have K1 := U1.out; clear U1
 have K2 := U2.out; clear U2
 exact bodyPost_ret (v := .agg #[.slice B1 na0 d1, .slice B2 na1 d2]) (by simp [results, Tryz.results29, go_sem, c2_1_0, f2_1_0, c2_1_1, f2_1_1]) rfl ⟨[.slice B1 na0 d1, .slice B2 na1 d2], rfl, ⟨_, _, _, _, _, _, rfl, (SliceR.far S1 (Step.setCell (p := ⟨w.heap.size + 1, 1, none⟩) (Step.setCell (p := ⟨w.heap.size + 1, 0, none⟩) (Step.setCell (p := ⟨w.heap.size + 1 + 1, 1, none⟩) (Step.refl _ _) m2 _) m1 _) m1 _) (Below.refl _ _) (fun a b => IntR.keep a b) (fun a b c => IntR.wide a b c)).wide (by omega) (Nat.le_refl _) (Nat.le_refl _) (IntR.wide (by omega) (Nat.le_refl _) (Nat.le_refl _)), (Whole.far K1 (Step.setCell (p := ⟨w.heap.size + 1, 1, none⟩) (Step.setCell (p := ⟨w.heap.size + 1, 0, none⟩) (Step.setCell (p := ⟨w.heap.size + 1 + 1, 1, none⟩) (Step.refl _ _) m2 _) m1 _) m1 _) (Below.refl _ _)).wide (by omega) (Nat.le_refl _), (SliceR.far S2 (Step.setCell (p := ⟨w.heap.size + 1, 1, none⟩) (Step.setCell (p := ⟨w.heap.size + 1, 0, none⟩) (Step.setCell (p := ⟨w.heap.size + 1 + 1, 1, none⟩) (Step.refl _ _) m2 _) m1 _) m1 _) (Below.refl _ _) (fun a b => IntR.keep a b) (fun a b c => IntR.wide a b c)).wide (by omega) (Nat.le_refl _) (Nat.le_refl _) (IntR.wide (by omega) (Nat.le_refl _) (Nat.le_refl _)), (Whole.far K2 (Step.setCell (p := ⟨w.heap.size + 1, 1, none⟩) (Step.setCell (p := ⟨w.heap.size + 1, 0, none⟩) (Step.setCell (p := ⟨w.heap.size + 1 + 1, 1, none⟩) (Step.refl _ _) m2 _) m1 _) m1 _) (Below.refl _ _)).wide (by omega) (Nat.le_refl _)⟩, (Below.setCell (p := ⟨w.heap.size + 1, 1, none⟩) (Below.setCell (p := ⟨w.heap.size + 1, 0, none⟩) (Below.setCell (p := ⟨w.heap.size + 1 + 1, 1, none⟩) X2 l2 _) l1 _) l1 _)⟩
set_option maxRecDepth 100000 in
set_option maxHeartbeats 2000000 in
theorem toStoreW_any (cs : List Value) (x : StoreD) (w : World) (lo hi : Nat) (h : StoreR w lo hi cs x) (hz : sizeStore x ≤ 1048576) :
 Calls Tryz.prog 9 #[.agg cs.toArray] w (NewR StoreN w x) := by
 obtain ⟨rows_, ⟨space_refs_, space_last_⟩, txg_, gone_, keep_, dead_, same_⟩ := x
 obtain ⟨Aa0, na0, ca0, Aa1, na1, ca1, Aa2, na2, ca2, Aa3, na3, ca3, Aa4, na4, ca4, rfl, ha0, ha1, ha2, ha3, ha4⟩ := h
 show Calls Tryz.prog 9 #[.agg #[.slice Aa0 na0 ca0, .slice Aa1 na1 ca1, .slice Aa2 na2 ca2, .int .i64 txg_, .slice Aa3 na3 ca3, .int .i64 keep_, .slice Aa4 na4 ca4, .bool same_]] w _
 have Hha0 := Lib.hid ha0
 clear ha0
 have Hha1 := Lib.hid ha1
 clear ha1
 have Hha2 := Lib.hid ha2
 clear ha2
 have Hha3 := Lib.hid ha3
 clear ha3
 have Hha4 := Lib.hid ha4
 clear ha4
 have hz : rows_.length + (rows_.map ByteArray.size).sum + space_refs_.length + space_last_.length + gone_.length + dead_.length ≤ 1048576 := hz
 have HZ := Lib.hid hz
 have hl0 := Hha0.out.len
 have hl1 := Hha1.out.len
 have hl2 := Hha2.out.len
 have hl3 := Hha3.out.len
 have hl4 := Hha4.out.len
 go_enter Tryz.func9, Tryz.ntmps9
 go_wp2_with fail
 have l1 : w.heap.size ≤ w.heap.size + 1 := Nat.le_add_right _ _
 have l2 : w.heap.size ≤ w.heap.size + 1 + 1 := by omega
 have m1 : w.heap.size + 1 < w.heap.size + 3 := by omega
 have m2 : w.heap.size + 1 + 1 < w.heap.size + 3 := by omega
 have n02 : w.heap.size ≠ w.heap.size + 1 + 1 := by omega
 have n12 : w.heap.size + 1 ≠ w.heap.size + 1 + 1 := by omega
 have Y1 : ∀ W, Below w.heap.size w W → SliceR StrR 1 W lo hi Aa0 na0 ca0 rows_ := fun W hb => SliceR.below Hha0.out hb (StrR.below hb Hha0.out.lo_le)
 refine ((toStringSW_any _ _ _ rows_ _ lo hi (Y1 _ (bel3)) (by have := HZ.out; have := Hha0.out.len; clear HZ; omega)).mono ?_)
 rintro e w1 ⟨B1, d1, rfl, S1, K1, hb1⟩
 clear Y1
 have X1 : Below w.heap.size w w1 := Below.trans (bel3) (hb1.mono (by simp <;> omega))
 have b1_0 : w1.heap[w.heap.size]? = some (.cells #[.slice Aa0 na0 ca0, .slice Aa1 na1 ca1, .slice Aa2 na2 ca2, .int .i64 txg_, .slice Aa3 na3 ca3, .int .i64 keep_, .slice Aa4 na4 ca4, .bool same_] 28 (0, 0)) := (hb1.block _ (by simp <;> omega)).trans al3_0
 have b1_1 : w1.heap[w.heap.size + 1]? = some (.cells #[.slice none 0 0, .slice none 0 0, .slice none 0 0, .int .i64 0, .slice none 0 0, .int .i64 0, .slice none 0 0, .bool false] 39 (0, 0)) := (hb1.block _ (by simp <;> omega)).trans al3_1
 have b1_2 : w1.heap[w.heap.size + 1 + 1]? = some (.cells #[.slice none 0 0, .slice none 0 0, .slice none 0 0, .int .i64 0, .slice none 0 0, .int .i64 0, .slice none 0 0, .bool false] 39 (0, 0)) := (hb1.block _ (by simp <;> omega)).trans al3_2
 have z1 : w.heap.size + 3 ≤ w1.heap.size := by have := hb1.size; simp at this; omega
 have S1 := SliceR.wide (lo' := w.heap.size + 3) (hi' := w1.heap.size) S1 (by simp [World.setCell] <;> omega) (Nat.le_refl _) (Nat.le_refl _) (StrR.wide (by simp [World.setCell] <;> omega) (Nat.le_refl _) (Nat.le_refl _))
 have K1 := Whole.wide (lo' := w.heap.size + 3) (hi' := w1.heap.size) K1 (by simp [World.setCell] <;> omega) (Nat.le_refl _)
 have c1_0_0 := celR 0 b1_0
 have c1_0_1 := celR 1 b1_0
 have c1_0_2 := celR 2 b1_0
 have c1_0_3 := celR 3 b1_0
 have c1_0_4 := celR 4 b1_0
 have c1_0_5 := celR 5 b1_0
 have c1_0_6 := celR 6 b1_0
 have c1_0_7 := celR 7 b1_0
 have c1_1_0 := celR 0 b1_1
 have c1_1_1 := celR 1 b1_1
 have c1_1_2 := celR 2 b1_1
 have c1_1_3 := celR 3 b1_1
 have c1_1_4 := celR 4 b1_1
 have c1_1_5 := celR 5 b1_1
 have c1_1_6 := celR 6 b1_1
 have c1_1_7 := celR 7 b1_1
 have f1_1_0 := block_free b1_1 0
 have f1_1_1 := block_free b1_1 1
 have f1_1_2 := block_free b1_1 2
 have f1_1_3 := block_free b1_1 3
 have f1_1_4 := block_free b1_1 4
 have f1_1_5 := block_free b1_1 5
 have f1_1_6 := block_free b1_1 6
 have f1_1_7 := block_free b1_1 7
 have c1_2_0 := celR 0 b1_2
 have c1_2_1 := celR 1 b1_2
 have c1_2_2 := celR 2 b1_2
 have c1_2_3 := celR 3 b1_2
 have c1_2_4 := celR 4 b1_2
 have c1_2_5 := celR 5 b1_2
 have c1_2_6 := celR 6 b1_2
 have c1_2_7 := celR 7 b1_2
 have f1_2_0 := block_free b1_2 0
 have f1_2_1 := block_free b1_2 1
 have f1_2_2 := block_free b1_2 2
 have f1_2_3 := block_free b1_2 3
 have f1_2_4 := block_free b1_2 4
 have f1_2_5 := block_free b1_2 5
 have f1_2_6 := block_free b1_2 6
 have f1_2_7 := block_free b1_2 7
 have HB1_0 := Lib.hid b1_0
 have HB1_1 := Lib.hid b1_1
 have HB1_2 := Lib.hid b1_2
 clear b1_0 b1_1 b1_2 hb1
 have T1 := Lib.hid S1; clear S1
 have U1 := Lib.hid K1; clear K1
 go_wp2_with fail
 have b1_0 := HB1_0.out
 have b1_1 := HB1_1.out
 have b1_2 := HB1_2.out
 have S1 := T1.out; clear T1
 have K1 := U1.out; clear U1
 have Y2 : ∀ W, Below w.heap.size w W → SpaceR W 0 W.heap.size [.slice Aa1 na1 ca1, .slice Aa2 na2 ca2] (space_refs_, space_last_) := fun W hb => ⟨_, _, _, _, _, _, rfl, SliceR.wide (SliceR.below Hha1.out hb (IntR.below hb Hha1.out.lo_le)) (Nat.zero_le _) (Nat.le_trans Hha1.out.lo_le hb.size) (Nat.le_refl _) (IntR.wide (Nat.zero_le _) (Nat.le_trans Hha1.out.lo_le hb.size) (Nat.le_refl _)), SliceR.wide (SliceR.below Hha2.out hb (IntR.below hb Hha2.out.lo_le)) (Nat.zero_le _) (Nat.le_trans Hha2.out.lo_le hb.size) (Nat.le_refl _) (IntR.wide (Nat.zero_le _) (Nat.le_trans Hha2.out.lo_le hb.size) (Nat.le_refl _))⟩
 refine ((toSpaceW_any [.slice Aa1 na1 ca1, .slice Aa2 na2 ca2] (space_refs_, space_last_) _ 0 _ (Y2 _ ((Below.setCell (p := ⟨w.heap.size + 1 + 1, 0, none⟩) X1 l2 _))) (by show space_refs_.length + space_last_.length ≤ 1048576; have := HZ.out; clear HZ; omega)).mono ?_)
 rintro e w2 ⟨cs_, rfl, hr_, hb2⟩
 clear Y2
 obtain ⟨B2a, m2a, d2a, B2b, m2b, d2b, rfl, S2a, K2a, S2b, K2b⟩ := hr_
 obtain rfl : na1 = m2a := by have h_ : space_refs_.length = m2a := S2a.len; have := hl1; omega
 obtain rfl : na2 = m2b := by have h_ : space_last_.length = m2b := S2b.len; have := hl2; omega
 have X2 : Below w.heap.size w w2 := Below.trans ((Below.setCell (p := ⟨w.heap.size + 1 + 1, 0, none⟩) X1 l2 _)) (hb2.mono (by simp <;> omega))
 have b2_0 : w2.heap[w.heap.size]? = some (.cells #[.slice Aa0 na0 ca0, .slice Aa1 na1 ca1, .slice Aa2 na2 ca2, .int .i64 txg_, .slice Aa3 na3 ca3, .int .i64 keep_, .slice Aa4 na4 ca4, .bool same_] 28 (0, 0)) := (hb2.block _ (by simp <;> omega)).trans ((heap_far n02).trans (b1_0))
 have b2_1 : w2.heap[w.heap.size + 1]? = some (.cells #[.slice none 0 0, .slice none 0 0, .slice none 0 0, .int .i64 0, .slice none 0 0, .int .i64 0, .slice none 0 0, .bool false] 39 (0, 0)) := (hb2.block _ (by simp <;> omega)).trans ((heap_far n12).trans (b1_1))
 have b2_2 : w2.heap[w.heap.size + 1 + 1]? = some (.cells #[.slice B1 na0 d1, .slice none 0 0, .slice none 0 0, .int .i64 0, .slice none 0 0, .int .i64 0, .slice none 0 0, .bool false] 39 (0, 0)) := (hb2.block _ (by simp <;> omega)).trans ((block_set (b1_2)).trans (by rfl))
 have z2 : w.heap.size + 3 ≤ w2.heap.size := by have := hb2.size; simp [World.setCell] at this; omega
 have S1 := SliceR.far S1 (Step.setCell (p := ⟨w.heap.size + 1 + 1, 0, none⟩) (Step.refl _ _) m2 _) hb2 (fun a b => StrR.keep a b) (fun a b c => StrR.wide a b c)
 have K1 := Whole.far K1 (Step.setCell (p := ⟨w.heap.size + 1 + 1, 0, none⟩) (Step.refl _ _) m2 _) hb2
 have S2a := SliceR.wide (lo' := w.heap.size + 3) (hi' := w2.heap.size) S2a (by simp [World.setCell] <;> omega) (Nat.le_refl _) (Nat.le_refl _) (IntR.wide (by simp [World.setCell] <;> omega) (Nat.le_refl _) (Nat.le_refl _))
 have K2a := Whole.wide (lo' := w.heap.size + 3) (hi' := w2.heap.size) K2a (by simp [World.setCell] <;> omega) (Nat.le_refl _)
 have S2b := SliceR.wide (lo' := w.heap.size + 3) (hi' := w2.heap.size) S2b (by simp [World.setCell] <;> omega) (Nat.le_refl _) (Nat.le_refl _) (IntR.wide (by simp [World.setCell] <;> omega) (Nat.le_refl _) (Nat.le_refl _))
 have K2b := Whole.wide (lo' := w.heap.size + 3) (hi' := w2.heap.size) K2b (by simp [World.setCell] <;> omega) (Nat.le_refl _)
 clear c1_0_0 c1_0_1 c1_0_2 c1_0_3 c1_0_4 c1_0_5 c1_0_6 c1_0_7 c1_1_0 c1_1_1 c1_1_2 c1_1_3 c1_1_4 c1_1_5 c1_1_6 c1_1_7 f1_1_0 f1_1_1 f1_1_2 f1_1_3 f1_1_4 f1_1_5 f1_1_6 f1_1_7 c1_2_0 c1_2_1 c1_2_2 c1_2_3 c1_2_4 c1_2_5 c1_2_6 c1_2_7 f1_2_0 f1_2_1 f1_2_2 f1_2_3 f1_2_4 f1_2_5 f1_2_6 f1_2_7
 have c2_0_0 := celR 0 b2_0
 have c2_0_1 := celR 1 b2_0
 have c2_0_2 := celR 2 b2_0
 have c2_0_3 := celR 3 b2_0
 have c2_0_4 := celR 4 b2_0
 have c2_0_5 := celR 5 b2_0
 have c2_0_6 := celR 6 b2_0
 have c2_0_7 := celR 7 b2_0
 have c2_1_0 := celR 0 b2_1
 have c2_1_1 := celR 1 b2_1
 have c2_1_2 := celR 2 b2_1
 have c2_1_3 := celR 3 b2_1
 have c2_1_4 := celR 4 b2_1
 have c2_1_5 := celR 5 b2_1
 have c2_1_6 := celR 6 b2_1
 have c2_1_7 := celR 7 b2_1
 have f2_1_0 := block_free b2_1 0
 have f2_1_1 := block_free b2_1 1
 have f2_1_2 := block_free b2_1 2
 have f2_1_3 := block_free b2_1 3
 have f2_1_4 := block_free b2_1 4
 have f2_1_5 := block_free b2_1 5
 have f2_1_6 := block_free b2_1 6
 have f2_1_7 := block_free b2_1 7
 have c2_2_0 := celR 0 b2_2
 have c2_2_1 := celR 1 b2_2
 have c2_2_2 := celR 2 b2_2
 have c2_2_3 := celR 3 b2_2
 have c2_2_4 := celR 4 b2_2
 have c2_2_5 := celR 5 b2_2
 have c2_2_6 := celR 6 b2_2
 have c2_2_7 := celR 7 b2_2
 have f2_2_0 := block_free b2_2 0
 have f2_2_1 := block_free b2_2 1
 have f2_2_2 := block_free b2_2 2
 have f2_2_3 := block_free b2_2 3
 have f2_2_4 := block_free b2_2 4
 have f2_2_5 := block_free b2_2 5
 have f2_2_6 := block_free b2_2 6
 have f2_2_7 := block_free b2_2 7
 have HB2_0 := Lib.hid b2_0
 have HB2_1 := Lib.hid b2_1
 have HB2_2 := Lib.hid b2_2
 clear b2_0 b2_1 b2_2 HB1_0 HB1_1 HB1_2 hb2 X1 z1
 have T1 := Lib.hid S1; clear S1 ; have T2a := Lib.hid S2a; clear S2a ; have T2b := Lib.hid S2b; clear S2b
 have U1 := Lib.hid K1; clear K1 ; have U2a := Lib.hid K2a; clear K2a ; have U2b := Lib.hid K2b; clear K2b
 go_wp2_with fail
 have b2_0 := HB2_0.out
 have b2_1 := HB2_1.out
 have b2_2 := HB2_2.out
 have S1 := T1.out; clear T1
 have S2a := T2a.out; clear T2a
 have S2b := T2b.out; clear T2b
 have K1 := U1.out; clear U1
 have K2a := U2a.out; clear U2a
 have K2b := U2b.out; clear U2b
 have Y3 : ∀ W, Below w.heap.size w W → SliceR PtrR 5 W lo hi Aa3 na3 ca3 gone_ := fun W hb => SliceR.below Hha3.out hb (PtrR.below hb Hha3.out.lo_le)
 refine ((toPtrSW_any _ _ _ gone_ _ lo hi (Y3 _ ((Below.setCell (p := ⟨w.heap.size + 1 + 1, 3, none⟩) (Below.setCell (p := ⟨w.heap.size + 1 + 1, 2, none⟩) (Below.setCell (p := ⟨w.heap.size + 1 + 1, 1, none⟩) X2 l2 _) l2 _) l2 _))) (by have := HZ.out; have := Hha3.out.len; clear HZ; omega)).mono ?_)
 rintro e w3 ⟨B3, d3, rfl, S3, K3, hb3⟩
 clear Y3
 have X3 : Below w.heap.size w w3 := Below.trans ((Below.setCell (p := ⟨w.heap.size + 1 + 1, 3, none⟩) (Below.setCell (p := ⟨w.heap.size + 1 + 1, 2, none⟩) (Below.setCell (p := ⟨w.heap.size + 1 + 1, 1, none⟩) X2 l2 _) l2 _) l2 _)) (hb3.mono (by simp <;> omega))
 have b3_0 : w3.heap[w.heap.size]? = some (.cells #[.slice Aa0 na0 ca0, .slice Aa1 na1 ca1, .slice Aa2 na2 ca2, .int .i64 txg_, .slice Aa3 na3 ca3, .int .i64 keep_, .slice Aa4 na4 ca4, .bool same_] 28 (0, 0)) := (hb3.block _ (by simp <;> omega)).trans ((heap_far n02).trans ((heap_far n02).trans ((heap_far n02).trans (b2_0))))
 have b3_1 : w3.heap[w.heap.size + 1]? = some (.cells #[.slice none 0 0, .slice none 0 0, .slice none 0 0, .int .i64 0, .slice none 0 0, .int .i64 0, .slice none 0 0, .bool false] 39 (0, 0)) := (hb3.block _ (by simp <;> omega)).trans ((heap_far n12).trans ((heap_far n12).trans ((heap_far n12).trans (b2_1))))
 have b3_2 : w3.heap[w.heap.size + 1 + 1]? = some (.cells #[.slice B1 na0 d1, .slice B2a na1 d2a, .slice B2b na2 d2b, .int .i64 txg_, .slice none 0 0, .int .i64 0, .slice none 0 0, .bool false] 39 (0, 0)) := (hb3.block _ (by simp <;> omega)).trans ((block_set (block_set (block_set (b2_2)))).trans (by rfl))
 have z3 : w.heap.size + 3 ≤ w3.heap.size := by have := hb3.size; simp [World.setCell] at this; omega
 have S1 := SliceR.far S1 (Step.setCell (p := ⟨w.heap.size + 1 + 1, 3, none⟩) (Step.setCell (p := ⟨w.heap.size + 1 + 1, 2, none⟩) (Step.setCell (p := ⟨w.heap.size + 1 + 1, 1, none⟩) (Step.refl _ _) m2 _) m2 _) m2 _) hb3 (fun a b => StrR.keep a b) (fun a b c => StrR.wide a b c)
 have K1 := Whole.far K1 (Step.setCell (p := ⟨w.heap.size + 1 + 1, 3, none⟩) (Step.setCell (p := ⟨w.heap.size + 1 + 1, 2, none⟩) (Step.setCell (p := ⟨w.heap.size + 1 + 1, 1, none⟩) (Step.refl _ _) m2 _) m2 _) m2 _) hb3
 have S2a := SliceR.far S2a (Step.setCell (p := ⟨w.heap.size + 1 + 1, 3, none⟩) (Step.setCell (p := ⟨w.heap.size + 1 + 1, 2, none⟩) (Step.setCell (p := ⟨w.heap.size + 1 + 1, 1, none⟩) (Step.refl _ _) m2 _) m2 _) m2 _) hb3 (fun a b => IntR.keep a b) (fun a b c => IntR.wide a b c)
 have K2a := Whole.far K2a (Step.setCell (p := ⟨w.heap.size + 1 + 1, 3, none⟩) (Step.setCell (p := ⟨w.heap.size + 1 + 1, 2, none⟩) (Step.setCell (p := ⟨w.heap.size + 1 + 1, 1, none⟩) (Step.refl _ _) m2 _) m2 _) m2 _) hb3
 have S2b := SliceR.far S2b (Step.setCell (p := ⟨w.heap.size + 1 + 1, 3, none⟩) (Step.setCell (p := ⟨w.heap.size + 1 + 1, 2, none⟩) (Step.setCell (p := ⟨w.heap.size + 1 + 1, 1, none⟩) (Step.refl _ _) m2 _) m2 _) m2 _) hb3 (fun a b => IntR.keep a b) (fun a b c => IntR.wide a b c)
 have K2b := Whole.far K2b (Step.setCell (p := ⟨w.heap.size + 1 + 1, 3, none⟩) (Step.setCell (p := ⟨w.heap.size + 1 + 1, 2, none⟩) (Step.setCell (p := ⟨w.heap.size + 1 + 1, 1, none⟩) (Step.refl _ _) m2 _) m2 _) m2 _) hb3
 have S3 := SliceR.wide (lo' := w.heap.size + 3) (hi' := w3.heap.size) S3 (by simp [World.setCell] <;> omega) (Nat.le_refl _) (Nat.le_refl _) (PtrR.wide (by simp [World.setCell] <;> omega) (Nat.le_refl _) (Nat.le_refl _))
 have K3 := Whole.wide (lo' := w.heap.size + 3) (hi' := w3.heap.size) K3 (by simp [World.setCell] <;> omega) (Nat.le_refl _)
 clear c2_0_0 c2_0_1 c2_0_2 c2_0_3 c2_0_4 c2_0_5 c2_0_6 c2_0_7 c2_1_0 c2_1_1 c2_1_2 c2_1_3 c2_1_4 c2_1_5 c2_1_6 c2_1_7 f2_1_0 f2_1_1 f2_1_2 f2_1_3 f2_1_4 f2_1_5 f2_1_6 f2_1_7 c2_2_0 c2_2_1 c2_2_2 c2_2_3 c2_2_4 c2_2_5 c2_2_6 c2_2_7 f2_2_0 f2_2_1 f2_2_2 f2_2_3 f2_2_4 f2_2_5 f2_2_6 f2_2_7
 have c3_0_0 := celR 0 b3_0
 have c3_0_1 := celR 1 b3_0
 have c3_0_2 := celR 2 b3_0
 have c3_0_3 := celR 3 b3_0
 have c3_0_4 := celR 4 b3_0
 have c3_0_5 := celR 5 b3_0
 have c3_0_6 := celR 6 b3_0
 have c3_0_7 := celR 7 b3_0
 have c3_1_0 := celR 0 b3_1
 have c3_1_1 := celR 1 b3_1
 have c3_1_2 := celR 2 b3_1
 have c3_1_3 := celR 3 b3_1
 have c3_1_4 := celR 4 b3_1
 have c3_1_5 := celR 5 b3_1
 have c3_1_6 := celR 6 b3_1
 have c3_1_7 := celR 7 b3_1
 have f3_1_0 := block_free b3_1 0
 have f3_1_1 := block_free b3_1 1
 have f3_1_2 := block_free b3_1 2
 have f3_1_3 := block_free b3_1 3
 have f3_1_4 := block_free b3_1 4
 have f3_1_5 := block_free b3_1 5
 have f3_1_6 := block_free b3_1 6
 have f3_1_7 := block_free b3_1 7
 have c3_2_0 := celR 0 b3_2
 have c3_2_1 := celR 1 b3_2
 have c3_2_2 := celR 2 b3_2
 have c3_2_3 := celR 3 b3_2
 have c3_2_4 := celR 4 b3_2
 have c3_2_5 := celR 5 b3_2
 have c3_2_6 := celR 6 b3_2
 have c3_2_7 := celR 7 b3_2
 have f3_2_0 := block_free b3_2 0
 have f3_2_1 := block_free b3_2 1
 have f3_2_2 := block_free b3_2 2
 have f3_2_3 := block_free b3_2 3
 have f3_2_4 := block_free b3_2 4
 have f3_2_5 := block_free b3_2 5
 have f3_2_6 := block_free b3_2 6
 have f3_2_7 := block_free b3_2 7
 have HB3_0 := Lib.hid b3_0
 have HB3_1 := Lib.hid b3_1
 have HB3_2 := Lib.hid b3_2
 clear b3_0 b3_1 b3_2 HB2_0 HB2_1 HB2_2 hb3 X2 z2
 have T1 := Lib.hid S1; clear S1 ; have T2a := Lib.hid S2a; clear S2a ; have T2b := Lib.hid S2b; clear S2b ; have T3 := Lib.hid S3; clear S3
 have U1 := Lib.hid K1; clear K1 ; have U2a := Lib.hid K2a; clear K2a ; have U2b := Lib.hid K2b; clear K2b ; have U3 := Lib.hid K3; clear K3
 go_wp2_with fail
 have b3_0 := HB3_0.out
 have b3_1 := HB3_1.out
 have b3_2 := HB3_2.out
 have S1 := T1.out; clear T1
 have S2a := T2a.out; clear T2a
 have S2b := T2b.out; clear T2b
 have S3 := T3.out; clear T3
 have K1 := U1.out; clear U1
 have K2a := U2a.out; clear U2a
 have K2b := U2b.out; clear U2b
 have K3 := U3.out; clear U3
 have Y4 : ∀ W, Below w.heap.size w W → SliceR PtrR 5 W lo hi Aa4 na4 ca4 dead_ := fun W hb => SliceR.below Hha4.out hb (PtrR.below hb Hha4.out.lo_le)
 refine ((toPtrSW_any _ _ _ dead_ _ lo hi (Y4 _ ((Below.setCell (p := ⟨w.heap.size + 1 + 1, 5, none⟩) (Below.setCell (p := ⟨w.heap.size + 1 + 1, 4, none⟩) X3 l2 _) l2 _))) (by have := HZ.out; have := Hha4.out.len; clear HZ; omega)).mono ?_)
 rintro e w4 ⟨B4, d4, rfl, S4, K4, hb4⟩
 clear Y4
 have X4 : Below w.heap.size w w4 := Below.trans ((Below.setCell (p := ⟨w.heap.size + 1 + 1, 5, none⟩) (Below.setCell (p := ⟨w.heap.size + 1 + 1, 4, none⟩) X3 l2 _) l2 _)) (hb4.mono (by simp <;> omega))
 have b4_0 : w4.heap[w.heap.size]? = some (.cells #[.slice Aa0 na0 ca0, .slice Aa1 na1 ca1, .slice Aa2 na2 ca2, .int .i64 txg_, .slice Aa3 na3 ca3, .int .i64 keep_, .slice Aa4 na4 ca4, .bool same_] 28 (0, 0)) := (hb4.block _ (by simp <;> omega)).trans ((heap_far n02).trans ((heap_far n02).trans (b3_0)))
 have b4_1 : w4.heap[w.heap.size + 1]? = some (.cells #[.slice none 0 0, .slice none 0 0, .slice none 0 0, .int .i64 0, .slice none 0 0, .int .i64 0, .slice none 0 0, .bool false] 39 (0, 0)) := (hb4.block _ (by simp <;> omega)).trans ((heap_far n12).trans ((heap_far n12).trans (b3_1)))
 have b4_2 : w4.heap[w.heap.size + 1 + 1]? = some (.cells #[.slice B1 na0 d1, .slice B2a na1 d2a, .slice B2b na2 d2b, .int .i64 txg_, .slice B3 na3 d3, .int .i64 keep_, .slice none 0 0, .bool false] 39 (0, 0)) := (hb4.block _ (by simp <;> omega)).trans ((block_set (block_set (b3_2))).trans (by rfl))
 have z4 : w.heap.size + 3 ≤ w4.heap.size := by have := hb4.size; simp [World.setCell] at this; omega
 have S1 := SliceR.far S1 (Step.setCell (p := ⟨w.heap.size + 1 + 1, 5, none⟩) (Step.setCell (p := ⟨w.heap.size + 1 + 1, 4, none⟩) (Step.refl _ _) m2 _) m2 _) hb4 (fun a b => StrR.keep a b) (fun a b c => StrR.wide a b c)
 have K1 := Whole.far K1 (Step.setCell (p := ⟨w.heap.size + 1 + 1, 5, none⟩) (Step.setCell (p := ⟨w.heap.size + 1 + 1, 4, none⟩) (Step.refl _ _) m2 _) m2 _) hb4
 have S2a := SliceR.far S2a (Step.setCell (p := ⟨w.heap.size + 1 + 1, 5, none⟩) (Step.setCell (p := ⟨w.heap.size + 1 + 1, 4, none⟩) (Step.refl _ _) m2 _) m2 _) hb4 (fun a b => IntR.keep a b) (fun a b c => IntR.wide a b c)
 have K2a := Whole.far K2a (Step.setCell (p := ⟨w.heap.size + 1 + 1, 5, none⟩) (Step.setCell (p := ⟨w.heap.size + 1 + 1, 4, none⟩) (Step.refl _ _) m2 _) m2 _) hb4
 have S2b := SliceR.far S2b (Step.setCell (p := ⟨w.heap.size + 1 + 1, 5, none⟩) (Step.setCell (p := ⟨w.heap.size + 1 + 1, 4, none⟩) (Step.refl _ _) m2 _) m2 _) hb4 (fun a b => IntR.keep a b) (fun a b c => IntR.wide a b c)
 have K2b := Whole.far K2b (Step.setCell (p := ⟨w.heap.size + 1 + 1, 5, none⟩) (Step.setCell (p := ⟨w.heap.size + 1 + 1, 4, none⟩) (Step.refl _ _) m2 _) m2 _) hb4
 have S3 := SliceR.far S3 (Step.setCell (p := ⟨w.heap.size + 1 + 1, 5, none⟩) (Step.setCell (p := ⟨w.heap.size + 1 + 1, 4, none⟩) (Step.refl _ _) m2 _) m2 _) hb4 (fun a b => PtrR.keep a b) (fun a b c => PtrR.wide a b c)
 have K3 := Whole.far K3 (Step.setCell (p := ⟨w.heap.size + 1 + 1, 5, none⟩) (Step.setCell (p := ⟨w.heap.size + 1 + 1, 4, none⟩) (Step.refl _ _) m2 _) m2 _) hb4
 have S4 := SliceR.wide (lo' := w.heap.size + 3) (hi' := w4.heap.size) S4 (by simp [World.setCell] <;> omega) (Nat.le_refl _) (Nat.le_refl _) (PtrR.wide (by simp [World.setCell] <;> omega) (Nat.le_refl _) (Nat.le_refl _))
 have K4 := Whole.wide (lo' := w.heap.size + 3) (hi' := w4.heap.size) K4 (by simp [World.setCell] <;> omega) (Nat.le_refl _)
 clear c3_0_0 c3_0_1 c3_0_2 c3_0_3 c3_0_4 c3_0_5 c3_0_6 c3_0_7 c3_1_0 c3_1_1 c3_1_2 c3_1_3 c3_1_4 c3_1_5 c3_1_6 c3_1_7 f3_1_0 f3_1_1 f3_1_2 f3_1_3 f3_1_4 f3_1_5 f3_1_6 f3_1_7 c3_2_0 c3_2_1 c3_2_2 c3_2_3 c3_2_4 c3_2_5 c3_2_6 c3_2_7 f3_2_0 f3_2_1 f3_2_2 f3_2_3 f3_2_4 f3_2_5 f3_2_6 f3_2_7
 have c4_0_0 := celR 0 b4_0
 have c4_0_1 := celR 1 b4_0
 have c4_0_2 := celR 2 b4_0
 have c4_0_3 := celR 3 b4_0
 have c4_0_4 := celR 4 b4_0
 have c4_0_5 := celR 5 b4_0
 have c4_0_6 := celR 6 b4_0
 have c4_0_7 := celR 7 b4_0
 have c4_1_0 := celR 0 b4_1
 have c4_1_1 := celR 1 b4_1
 have c4_1_2 := celR 2 b4_1
 have c4_1_3 := celR 3 b4_1
 have c4_1_4 := celR 4 b4_1
 have c4_1_5 := celR 5 b4_1
 have c4_1_6 := celR 6 b4_1
 have c4_1_7 := celR 7 b4_1
 have f4_1_0 := block_free b4_1 0
 have f4_1_1 := block_free b4_1 1
 have f4_1_2 := block_free b4_1 2
 have f4_1_3 := block_free b4_1 3
 have f4_1_4 := block_free b4_1 4
 have f4_1_5 := block_free b4_1 5
 have f4_1_6 := block_free b4_1 6
 have f4_1_7 := block_free b4_1 7
 have c4_2_0 := celR 0 b4_2
 have c4_2_1 := celR 1 b4_2
 have c4_2_2 := celR 2 b4_2
 have c4_2_3 := celR 3 b4_2
 have c4_2_4 := celR 4 b4_2
 have c4_2_5 := celR 5 b4_2
 have c4_2_6 := celR 6 b4_2
 have c4_2_7 := celR 7 b4_2
 have f4_2_0 := block_free b4_2 0
 have f4_2_1 := block_free b4_2 1
 have f4_2_2 := block_free b4_2 2
 have f4_2_3 := block_free b4_2 3
 have f4_2_4 := block_free b4_2 4
 have f4_2_5 := block_free b4_2 5
 have f4_2_6 := block_free b4_2 6
 have f4_2_7 := block_free b4_2 7
 have HB4_0 := Lib.hid b4_0
 have HB4_1 := Lib.hid b4_1
 have HB4_2 := Lib.hid b4_2
 clear b4_0 b4_1 b4_2 HB3_0 HB3_1 HB3_2 hb4 X3 z3
 have T1 := Lib.hid S1; clear S1 ; have T2a := Lib.hid S2a; clear S2a ; have T2b := Lib.hid S2b; clear S2b ; have T3 := Lib.hid S3; clear S3 ; have T4 := Lib.hid S4; clear S4
 have U1 := Lib.hid K1; clear K1 ; have U2a := Lib.hid K2a; clear K2a ; have U2b := Lib.hid K2b; clear K2b ; have U3 := Lib.hid K3; clear K3 ; have U4 := Lib.hid K4; clear K4
 go_wp2_with fail
 have b4_0 := HB4_0.out
 have b4_1 := HB4_1.out
 have b4_2 := HB4_2.out
 have S1 := T1.out; clear T1
 have S2a := T2a.out; clear T2a
 have S2b := T2b.out; clear T2b
 have S3 := T3.out; clear T3
 have S4 := T4.out; clear T4
 have K1 := U1.out; clear U1
 have K2a := U2a.out; clear U2a
 have K2b := U2b.out; clear U2b
 have K3 := U3.out; clear U3
 have K4 := U4.out; clear U4
 exact bodyPost_ret (v := .agg #[.slice B1 na0 d1, .slice B2a na1 d2a, .slice B2b na2 d2b, .int .i64 txg_, .slice B3 na3 d3, .int .i64 keep_, .slice B4 na4 d4, .bool same_]) (by simp [results, Tryz.results9, go_sem, c4_1_0, f4_1_0, c4_1_1, f4_1_1, c4_1_2, f4_1_2, c4_1_3, f4_1_3, c4_1_4, f4_1_4, c4_1_5, f4_1_5, c4_1_6, f4_1_6, c4_1_7, f4_1_7]) rfl ⟨[.slice B1 na0 d1, .slice B2a na1 d2a, .slice B2b na2 d2b, .int .i64 txg_, .slice B3 na3 d3, .int .i64 keep_, .slice B4 na4 d4, .bool same_], rfl, ⟨_, _, _, _, _, _, _, _, _, _, _, _, _, _, _, rfl, (SliceR.far S1 (Step.setCell (p := ⟨w.heap.size + 1, 7, none⟩) (Step.setCell (p := ⟨w.heap.size + 1, 6, none⟩) (Step.setCell (p := ⟨w.heap.size + 1, 5, none⟩) (Step.setCell (p := ⟨w.heap.size + 1, 4, none⟩) (Step.setCell (p := ⟨w.heap.size + 1, 3, none⟩) (Step.setCell (p := ⟨w.heap.size + 1, 2, none⟩) (Step.setCell (p := ⟨w.heap.size + 1, 1, none⟩) (Step.setCell (p := ⟨w.heap.size + 1, 0, none⟩) (Step.setCell (p := ⟨w.heap.size + 1 + 1, 7, none⟩) (Step.setCell (p := ⟨w.heap.size + 1 + 1, 6, none⟩) (Step.refl _ _) m2 _) m2 _) m1 _) m1 _) m1 _) m1 _) m1 _) m1 _) m1 _) m1 _) (Below.refl _ _) (fun a b => StrR.keep a b) (fun a b c => StrR.wide a b c)).wide (by omega) (Nat.le_refl _) (Nat.le_refl _) (StrR.wide (by omega) (Nat.le_refl _) (Nat.le_refl _)), (Whole.far K1 (Step.setCell (p := ⟨w.heap.size + 1, 7, none⟩) (Step.setCell (p := ⟨w.heap.size + 1, 6, none⟩) (Step.setCell (p := ⟨w.heap.size + 1, 5, none⟩) (Step.setCell (p := ⟨w.heap.size + 1, 4, none⟩) (Step.setCell (p := ⟨w.heap.size + 1, 3, none⟩) (Step.setCell (p := ⟨w.heap.size + 1, 2, none⟩) (Step.setCell (p := ⟨w.heap.size + 1, 1, none⟩) (Step.setCell (p := ⟨w.heap.size + 1, 0, none⟩) (Step.setCell (p := ⟨w.heap.size + 1 + 1, 7, none⟩) (Step.setCell (p := ⟨w.heap.size + 1 + 1, 6, none⟩) (Step.refl _ _) m2 _) m2 _) m1 _) m1 _) m1 _) m1 _) m1 _) m1 _) m1 _) m1 _) (Below.refl _ _)).wide (by omega) (Nat.le_refl _), (SliceR.far S2a (Step.setCell (p := ⟨w.heap.size + 1, 7, none⟩) (Step.setCell (p := ⟨w.heap.size + 1, 6, none⟩) (Step.setCell (p := ⟨w.heap.size + 1, 5, none⟩) (Step.setCell (p := ⟨w.heap.size + 1, 4, none⟩) (Step.setCell (p := ⟨w.heap.size + 1, 3, none⟩) (Step.setCell (p := ⟨w.heap.size + 1, 2, none⟩) (Step.setCell (p := ⟨w.heap.size + 1, 1, none⟩) (Step.setCell (p := ⟨w.heap.size + 1, 0, none⟩) (Step.setCell (p := ⟨w.heap.size + 1 + 1, 7, none⟩) (Step.setCell (p := ⟨w.heap.size + 1 + 1, 6, none⟩) (Step.refl _ _) m2 _) m2 _) m1 _) m1 _) m1 _) m1 _) m1 _) m1 _) m1 _) m1 _) (Below.refl _ _) (fun a b => IntR.keep a b) (fun a b c => IntR.wide a b c)).wide (by omega) (Nat.le_refl _) (Nat.le_refl _) (IntR.wide (by omega) (Nat.le_refl _) (Nat.le_refl _)), (Whole.far K2a (Step.setCell (p := ⟨w.heap.size + 1, 7, none⟩) (Step.setCell (p := ⟨w.heap.size + 1, 6, none⟩) (Step.setCell (p := ⟨w.heap.size + 1, 5, none⟩) (Step.setCell (p := ⟨w.heap.size + 1, 4, none⟩) (Step.setCell (p := ⟨w.heap.size + 1, 3, none⟩) (Step.setCell (p := ⟨w.heap.size + 1, 2, none⟩) (Step.setCell (p := ⟨w.heap.size + 1, 1, none⟩) (Step.setCell (p := ⟨w.heap.size + 1, 0, none⟩) (Step.setCell (p := ⟨w.heap.size + 1 + 1, 7, none⟩) (Step.setCell (p := ⟨w.heap.size + 1 + 1, 6, none⟩) (Step.refl _ _) m2 _) m2 _) m1 _) m1 _) m1 _) m1 _) m1 _) m1 _) m1 _) m1 _) (Below.refl _ _)).wide (by omega) (Nat.le_refl _), (SliceR.far S2b (Step.setCell (p := ⟨w.heap.size + 1, 7, none⟩) (Step.setCell (p := ⟨w.heap.size + 1, 6, none⟩) (Step.setCell (p := ⟨w.heap.size + 1, 5, none⟩) (Step.setCell (p := ⟨w.heap.size + 1, 4, none⟩) (Step.setCell (p := ⟨w.heap.size + 1, 3, none⟩) (Step.setCell (p := ⟨w.heap.size + 1, 2, none⟩) (Step.setCell (p := ⟨w.heap.size + 1, 1, none⟩) (Step.setCell (p := ⟨w.heap.size + 1, 0, none⟩) (Step.setCell (p := ⟨w.heap.size + 1 + 1, 7, none⟩) (Step.setCell (p := ⟨w.heap.size + 1 + 1, 6, none⟩) (Step.refl _ _) m2 _) m2 _) m1 _) m1 _) m1 _) m1 _) m1 _) m1 _) m1 _) m1 _) (Below.refl _ _) (fun a b => IntR.keep a b) (fun a b c => IntR.wide a b c)).wide (by omega) (Nat.le_refl _) (Nat.le_refl _) (IntR.wide (by omega) (Nat.le_refl _) (Nat.le_refl _)), (Whole.far K2b (Step.setCell (p := ⟨w.heap.size + 1, 7, none⟩) (Step.setCell (p := ⟨w.heap.size + 1, 6, none⟩) (Step.setCell (p := ⟨w.heap.size + 1, 5, none⟩) (Step.setCell (p := ⟨w.heap.size + 1, 4, none⟩) (Step.setCell (p := ⟨w.heap.size + 1, 3, none⟩) (Step.setCell (p := ⟨w.heap.size + 1, 2, none⟩) (Step.setCell (p := ⟨w.heap.size + 1, 1, none⟩) (Step.setCell (p := ⟨w.heap.size + 1, 0, none⟩) (Step.setCell (p := ⟨w.heap.size + 1 + 1, 7, none⟩) (Step.setCell (p := ⟨w.heap.size + 1 + 1, 6, none⟩) (Step.refl _ _) m2 _) m2 _) m1 _) m1 _) m1 _) m1 _) m1 _) m1 _) m1 _) m1 _) (Below.refl _ _)).wide (by omega) (Nat.le_refl _), (SliceR.far S3 (Step.setCell (p := ⟨w.heap.size + 1, 7, none⟩) (Step.setCell (p := ⟨w.heap.size + 1, 6, none⟩) (Step.setCell (p := ⟨w.heap.size + 1, 5, none⟩) (Step.setCell (p := ⟨w.heap.size + 1, 4, none⟩) (Step.setCell (p := ⟨w.heap.size + 1, 3, none⟩) (Step.setCell (p := ⟨w.heap.size + 1, 2, none⟩) (Step.setCell (p := ⟨w.heap.size + 1, 1, none⟩) (Step.setCell (p := ⟨w.heap.size + 1, 0, none⟩) (Step.setCell (p := ⟨w.heap.size + 1 + 1, 7, none⟩) (Step.setCell (p := ⟨w.heap.size + 1 + 1, 6, none⟩) (Step.refl _ _) m2 _) m2 _) m1 _) m1 _) m1 _) m1 _) m1 _) m1 _) m1 _) m1 _) (Below.refl _ _) (fun a b => PtrR.keep a b) (fun a b c => PtrR.wide a b c)).wide (by omega) (Nat.le_refl _) (Nat.le_refl _) (PtrR.wide (by omega) (Nat.le_refl _) (Nat.le_refl _)), (Whole.far K3 (Step.setCell (p := ⟨w.heap.size + 1, 7, none⟩) (Step.setCell (p := ⟨w.heap.size + 1, 6, none⟩) (Step.setCell (p := ⟨w.heap.size + 1, 5, none⟩) (Step.setCell (p := ⟨w.heap.size + 1, 4, none⟩) (Step.setCell (p := ⟨w.heap.size + 1, 3, none⟩) (Step.setCell (p := ⟨w.heap.size + 1, 2, none⟩) (Step.setCell (p := ⟨w.heap.size + 1, 1, none⟩) (Step.setCell (p := ⟨w.heap.size + 1, 0, none⟩) (Step.setCell (p := ⟨w.heap.size + 1 + 1, 7, none⟩) (Step.setCell (p := ⟨w.heap.size + 1 + 1, 6, none⟩) (Step.refl _ _) m2 _) m2 _) m1 _) m1 _) m1 _) m1 _) m1 _) m1 _) m1 _) m1 _) (Below.refl _ _)).wide (by omega) (Nat.le_refl _), (SliceR.far S4 (Step.setCell (p := ⟨w.heap.size + 1, 7, none⟩) (Step.setCell (p := ⟨w.heap.size + 1, 6, none⟩) (Step.setCell (p := ⟨w.heap.size + 1, 5, none⟩) (Step.setCell (p := ⟨w.heap.size + 1, 4, none⟩) (Step.setCell (p := ⟨w.heap.size + 1, 3, none⟩) (Step.setCell (p := ⟨w.heap.size + 1, 2, none⟩) (Step.setCell (p := ⟨w.heap.size + 1, 1, none⟩) (Step.setCell (p := ⟨w.heap.size + 1, 0, none⟩) (Step.setCell (p := ⟨w.heap.size + 1 + 1, 7, none⟩) (Step.setCell (p := ⟨w.heap.size + 1 + 1, 6, none⟩) (Step.refl _ _) m2 _) m2 _) m1 _) m1 _) m1 _) m1 _) m1 _) m1 _) m1 _) m1 _) (Below.refl _ _) (fun a b => PtrR.keep a b) (fun a b c => PtrR.wide a b c)).wide (by omega) (Nat.le_refl _) (Nat.le_refl _) (PtrR.wide (by omega) (Nat.le_refl _) (Nat.le_refl _)), (Whole.far K4 (Step.setCell (p := ⟨w.heap.size + 1, 7, none⟩) (Step.setCell (p := ⟨w.heap.size + 1, 6, none⟩) (Step.setCell (p := ⟨w.heap.size + 1, 5, none⟩) (Step.setCell (p := ⟨w.heap.size + 1, 4, none⟩) (Step.setCell (p := ⟨w.heap.size + 1, 3, none⟩) (Step.setCell (p := ⟨w.heap.size + 1, 2, none⟩) (Step.setCell (p := ⟨w.heap.size + 1, 1, none⟩) (Step.setCell (p := ⟨w.heap.size + 1, 0, none⟩) (Step.setCell (p := ⟨w.heap.size + 1 + 1, 7, none⟩) (Step.setCell (p := ⟨w.heap.size + 1 + 1, 6, none⟩) (Step.refl _ _) m2 _) m2 _) m1 _) m1 _) m1 _) m1 _) m1 _) m1 _) m1 _) m1 _) (Below.refl _ _)).wide (by omega) (Nat.le_refl _)⟩, (Below.setCell (p := ⟨w.heap.size + 1, 7, none⟩) (Below.setCell (p := ⟨w.heap.size + 1, 6, none⟩) (Below.setCell (p := ⟨w.heap.size + 1, 5, none⟩) (Below.setCell (p := ⟨w.heap.size + 1, 4, none⟩) (Below.setCell (p := ⟨w.heap.size + 1, 3, none⟩) (Below.setCell (p := ⟨w.heap.size + 1, 2, none⟩) (Below.setCell (p := ⟨w.heap.size + 1, 1, none⟩) (Below.setCell (p := ⟨w.heap.size + 1, 0, none⟩) (Below.setCell (p := ⟨w.heap.size + 1 + 1, 7, none⟩) (Below.setCell (p := ⟨w.heap.size + 1 + 1, 6, none⟩) X4 l2 _) l2 _) l1 _) l1 _) l1 _) l1 _) l1 _) l1 _) l1 _) l1 _)⟩
theorem Whole.after {w w' : World} {t t' : TypeId} {sz sz' lo hi lo' hi' : Nat} {A B : Option Addr} {n c m d : Nat} (h : Whole w t sz lo hi A n c) (h2 : Whole w' t sz lo hi A n c) (hc : Chg (fun b => 0 < n ∧ blkOf A b) w w') (k : Whole w t' sz' lo' hi' B m d) : Whole w' t' sz' lo' hi' B m d := by
 rcases k with k | ⟨g, cur, rfl, k1, k2, k3, k4, k5⟩
 · exact .inl k
 by_cases hb : 0 < n ∧ blkOf A g
 · rcases h with h | ⟨g', cur', rfl, h1, h2', h3, h4, h5⟩
   · omega
   have e := hb.2; rw [blkOf_iff] at e; subst e
   rw [h3] at k3
   injection k3 with e; injection e with e1 e2; subst e1 e2
   rcases h2 with h | ⟨g'', cur'', hA, _, _, q3, q4, _⟩
   · omega
   injection hA with hA; injection hA with hA; subst hA
   exact .inr ⟨_, cur'', rfl, k1, k2, q3, by omega, k5⟩
 exact .inr ⟨g, cur, rfl, k1, k2, (hc.block g (Array.getElem?_eq_some_iff.1 k3).1 hb).trans k3, k4, k5⟩
theorem Whole.chgIn {w w' w2 : World} {T : TypeId} {sz lo hi : Nat} {A : Option Addr} {n c : Nat} (h : Whole w2 T sz lo hi A n c) (hc : Chg (fun b => 0 < n ∧ blkOf A b) w w') : Chg (fun b => lo ≤ b ∧ b < hi) w w' :=
 hc.mono fun b _ hb => by
  rcases h with ⟨h0, _⟩ | ⟨g, cur, rfl, h1, h2, _⟩
  · omega
  have := hb.2; rw [blkOf_iff] at this; subst this; exact ⟨h1, h2⟩
def KeepsW (w w' : World) : Prop := ∀ (t sz lo hi : Nat) (B : Option Addr) (m d : Nat), Whole w t sz lo hi B m d → Whole w' t sz lo hi B m d
theorem KeepsW.below {w w' : World} (hb : Below w.heap.size w w') : KeepsW w w' := fun t sz lo hi B m d k => by
 rcases k with k | ⟨g, cur, k0, k1, k2, k3, k4⟩
 · exact .inl k
 exact .inr ⟨g, cur, k0, k1, k2, (hb.block g (Array.getElem?_eq_some_iff.1 k3).1).trans k3, k4⟩
theorem KeepsW.trans {w w' w2 : World} (h : KeepsW w w') (h2 : KeepsW w' w2) : KeepsW w w2 := fun t sz lo hi B m d k => h2 _ _ _ _ _ _ _ (h _ _ _ _ _ _ _ k)
theorem KeepsW.after {w w' : World} {t sz lo hi : Nat} {A : Option Addr} {n c : Nat} (h : Whole w t sz lo hi A n c) (h2 : Whole w' t sz lo hi A n c) (hc : Chg (fun b => 0 < n ∧ blkOf A b) w w') : KeepsW w w' := fun _ _ _ _ _ _ _ k => h.after h2 hc k
def KIntS : List Value := [.int .i64 0]
set_option maxRecDepth 100000 in
set_option maxHeartbeats 4000000 in
theorem markIntSW_any (A : Option Addr) (n c : Nat) (k : Int) (w : World) (lo hi : Nat) (h : Whole w 3 1 lo hi A n c) (h0 : 0 ≤ k) (h1 : k + n ≤ 1099511627776) :
 Calls Tryz.prog 15 #[.slice A n c, .int .i64 k] w fun e w' => e = .returned (.int .i64 (k + n)) ∧ MarkedAt w' KIntS k A (n) ∧ Whole w' 3 1 lo hi A n c ∧ Chg (fun b => 0 < n ∧ blkOf A b) w w' := by
 by_cases hn0 : n = 0
 · subst hn0
   go_enter Tryz.func15, Tryz.ntmps15
   go_wp2_with fail
   go_loop [1, 5] (fun kk i => kk = .int .i64 k ∧ i = .int .i64 ((0 : Nat) : Int)) (fun _ _ => 0)
   case atStart => exact ⟨rfl, rfl⟩
   obtain ⟨rfl, rfl⟩ := hrel
   go_wp2_with fail
   go_ret
   exact ⟨ret_int (by simp), fun h => absurd h (by simp), h, Chg.refl _ _⟩
 obtain ⟨g, cur, rfl, hlo, hhi, hg, hcs, hnc⟩ : ∃ g cur, A = some ⟨g, 0, none⟩ ∧ lo ≤ g ∧ g < hi ∧ w.heap[g]? = some (.cells cur 3 (0, 0)) ∧ cur.size = c * 1 ∧ n ≤ c ∧ c ≤ maxLen := h.resolve_left (fun h => hn0 h.1)
 have hnp : 0 < n := Nat.pos_of_ne_zero hn0
 clear h hn0
 have hgl : g < w.heap.size := (Array.getElem?_eq_some_iff.1 hg).1
 have hn : n ≤ 1099511627776 := by omega
 have HG0 := Lib.hid hg; have HC0 := Lib.hid hcs; clear hg hcs
 go_enter Tryz.func15, Tryz.ntmps15
 go_wp2_with fail
 go_loopw [1, 5] (fun kk i wr => ∃ (j : Nat) (z : Int) (cu : Array Value), j ≤ n ∧ i = .int .i64 j ∧ kk = .int .i64 z ∧ 0 ≤ z ∧ z ≤ 1099511627776 ∧ Hid (z = k + (j : Int)) ∧ Hid (wr.heap[g]? = some (.cells cu 3 (0, 0))) ∧ Hid (cu.size = c * 1) ∧ Hid (HasMarks KIntS k (j) cu) ∧ Hid (Chg (blkOf (some ⟨g, 0, none⟩)) w wr)) (fun _ i _ => n - (intOf i).toNat)
 case atStart => exact ⟨0, k, cur, Nat.zero_le _, rfl, rfl, h0, by omega, Lib.hid (by simp), HG0, HC0, Lib.hid (by first | exact HasMarks.zero _ _ _ | (rw [Nat.zero_mul]; exact HasMarks.zero _ _ _)), Lib.hid (Chg.refl _ _)⟩
 clear HG0 HC0
 obtain ⟨j, z, cu, hj, rfl, rfl, z0, z1, HZ, HG, HC, HM, HX⟩ := hrel
 by_cases hlt : j < n
 · have hgr : g < wr.heap.size := (Array.getElem?_eq_some_iff.1 HG.out).1
   have hzb : z + 1 ≤ 1099511627776 := by have := HZ.out; omega
   have hju : j * 1 + 1 ≤ cu.size := by rw [HC.out]; omega
   have j0 : (0 : Int) ≤ (j : Int) := by omega
   have j1 : (j : Int) < (n : Int) := by omega
   have t0_0 : wr.cell? ⟨g, j, none⟩ = some _ := block_cell HG.out (by omega)
   generalize cu[j]'_ = y0_0 at t0_0
   have f0_0 : wr.frozen? ⟨g, j, none⟩ = false := block_free HG.out _
   go_wp2_with fail
   go_roundw
   case rel =>
    have m0 := HM.out
    have kv0 : .int .i64 (z) = mkv (k + ((j : Nat) : Int)) (KIntS.getD ((j) % KIntS.length) undef) := by
     have e1 : (j) % KIntS.length = 0 := by show (j) % 1 = 0; omega
     have e2 : k + ((j : Nat) : Int) = z := by have := HZ.out; push_cast; omega
     rw [e1, e2]; rfl
    have m1 := HasMarks.step m0 (by have := HC.out; (try simp only [Array.size_setIfInBounds]); omega) kv0
    refine ⟨j + 1, z + 1, (Array.setIfInBounds cu (j) (.int .i64 (z))), by omega, by go_num, by first | rfl | (congr 1; omega), by omega, by omega, Lib.hid (by have := HZ.out; push_cast; omega), Lib.hid (block_set HG.out), Lib.hid (by simpa using HC.out), Lib.hid ?_, Lib.hid (Chg.setCell (p := ⟨g, _, none⟩) HX.out (.inl ⟨0, rfl⟩) _)⟩
    exact m1
   simp [intOf]; omega
 obtain rfl : j = n := by omega
 go_wp2_with fail
 go_ret
 exact ⟨ret_int HZ.out, HM.out.at_ HG.out, .inr ⟨g, cu, rfl, hlo, hhi, HG.out, HC.out, hnc⟩, HX.out.mono fun b _ h => ⟨hnp, h⟩⟩
set_option maxRecDepth 100000 in
set_option maxHeartbeats 4000000 in
theorem heldIntSW_any (A : Option Addr) (n c : Nat) (k : Int) (w : World) (h : MarkedAt w KIntS k A (n)) (h0 : 0 ≤ k) (h1 : k + n ≤ 1099511627776) :
 Calls Tryz.prog 16 #[.slice A n c, .int .i64 k] w fun e w' => e = .returned (.int .i64 (k + n)) ∧ Below w.heap.size w w' := by
 have hn : n ≤ 1099511627776 := by omega
 have H := Lib.hid h; clear h
 go_enter Tryz.func16, Tryz.ntmps16
 go_wp2_with fail
 go_loopw [1, 5] (fun kk i wr => ∃ (j : Nat) (z : Int), j ≤ n ∧ i = .int .i64 j ∧ kk = .int .i64 z ∧ 0 ≤ z ∧ z ≤ 1099511627776 ∧ Hid (z = k + (j : Int)) ∧ Hid (Below w.heap.size w wr)) (fun _ i _ => n - (intOf i).toNat)
 case atStart => exact ⟨0, k, Nat.zero_le _, rfl, rfl, h0, by omega, Lib.hid (by simp), Lib.hid (Below.refl _ _)⟩
 obtain ⟨j, z, hj, rfl, rfl, z0, z1, HZ, HB⟩ := hrel
 by_cases hlt : j < n
 · obtain ⟨b, off, rfl, hbl, hc⟩ := (H.out.below HB.out) (by omega)
   have hzb : z + 1 ≤ 1099511627776 := by have := HZ.out; omega
   have q0_0 : wr.cell? ⟨b, off + j, none⟩ = some (.int .i64 (z)) := by
    have hq := hc (j) (by omega)
    rw [show (j) % KIntS.length = 0 by show (j) % 1 = 0; omega] at hq
    have hz := HZ.out
    rw [show k + ((j : Nat) : Int) = z by push_cast; omega] at hq
    simpa [KIntS, mkv, Nat.add_assoc] using hq
   clear hc
   have j0 : (0 : Int) ≤ (j : Int) := by omega
   have j1 : (j : Int) < (n : Int) := by omega
   go_wp2_with fail
   go_roundw
   case rel => exact ⟨j + 1, z + 1, by omega, by go_num, by first | rfl | (congr 1; omega), by omega, by omega, Lib.hid (by have := HZ.out; push_cast; omega), HB⟩
   simp [intOf]; omega
 obtain rfl : j = n := by omega
 go_wp2_with fail
 go_ret
 exact ⟨ret_int HZ.out, HB.out⟩
set_option maxRecDepth 100000 in
set_option maxHeartbeats 4000000 in
theorem markSpaceW_any (A0 : Option Addr) (n0 c0 : Nat) (A1 : Option Addr) (n1 c1 : Nat) (k : Int) (w : World) (lo hi : Nat) (k0 : Whole w 3 1 lo hi A0 n0 c0) (k1 : Whole w 3 1 lo hi A1 n1 c1) (hhi : hi ≤ w.heap.size) (h0 : 0 ≤ k) (h1 : k + n0 + n1 ≤ 1099511627776) :
 Calls Tryz.prog 37 #[.agg #[.slice A0 n0 c0, .slice A1 n1 c1], .int .i64 k] w fun e w' => e = .returned (.int .i64 (k + n0 + n1)) ∧ KeepsW w w' ∧ Chg (fun b => lo ≤ b ∧ b < hi) w w' := by
 have Q0 : Hid (KeepsW w (w.alloc (.cells #[.slice A0 n0 c0, .slice A1 n1 c1] 36))) := Lib.hid (KeepsW.below bel1)
 have K0_0 := Lib.hid (Q0.out _ _ _ _ _ _ _ k0); clear k0
 have K1_0 := Lib.hid (Q0.out _ _ _ _ _ _ _ k1); clear k1
 go_enter Tryz.func37, Tryz.ntmps37
 go_wp2_with fail
 have X0 : Hid (Chg (fun b => lo ≤ b ∧ b < hi) w (w.alloc (.cells #[.slice A0 n0 c0, .slice A1 n1 c1] 36))) := Lib.hid ((Chg.refl _ _).alloc _)
 refine (markIntSW_any A0 n0 c0 (k) _ lo hi K0_0.out (by omega) (by omega)).mono ?_
 rintro e w1 ⟨rfl, _, hw, hc0⟩
 have hc := K0_0.out.chgIn hc0
 have hk := KeepsW.after K0_0.out hw hc0
 clear hc0 hw
 have K0_1 := Lib.hid (hk _ _ _ _ _ _ _ K0_0.out)
 have K1_1 := Lib.hid (hk _ _ _ _ _ _ _ K1_0.out)
 have Q1 := Lib.hid (Q0.out.trans hk)
 have eb : w1.heap[w.heap.size]? = some (.cells #[.slice A0 n0 c0, .slice A1 n1 c1] 36 (0, 0)) := (hc.block _ (by simp) (fun hb => by have := hb.2; omega)).trans (heap_alloc_new _ _)
 have c1_0 := celR 0 eb
 have c1_1 := celR 1 eb
 have E1 := Lib.hid eb; clear eb
 have X1 : Hid (Chg (fun b => lo ≤ b ∧ b < hi) w w1) := Lib.hid (X0.out.trans hc)
 clear hc hk
 go_wp2_with fail
 refine (markIntSW_any A1 n1 c1 (k + n0) _ lo hi K1_1.out (by omega) (by omega)).mono ?_
 rintro e w2 ⟨rfl, _, hw, hc0⟩
 have hc := K1_1.out.chgIn hc0
 have hk := KeepsW.after K1_1.out hw hc0
 clear hc0 hw
 have K0_2 := Lib.hid (hk _ _ _ _ _ _ _ K0_1.out)
 have K1_2 := Lib.hid (hk _ _ _ _ _ _ _ K1_1.out)
 have Q2 := Lib.hid (Q1.out.trans hk)
 have eb : w2.heap[w.heap.size]? = some (.cells #[.slice A0 n0 c0, .slice A1 n1 c1] 36 (0, 0)) := (hc.block _ (by exact (Array.getElem?_eq_some_iff.1 E1.out).1) (fun hb => by have := hb.2; omega)).trans E1.out
 have c2_0 := celR 0 eb
 have c2_1 := celR 1 eb
 have E2 := Lib.hid eb; clear eb
 have X2 : Hid (Chg (fun b => lo ≤ b ∧ b < hi) w w2) := Lib.hid (X1.out.trans hc)
 clear hc hk c1_0 c1_1
 go_wp2_with fail
 go_ret
 exact ⟨rfl, Q2.out, X2.out⟩
set_option maxRecDepth 100000 in
set_option maxHeartbeats 4000000 in
theorem markStoreW_any (A0 : Option Addr) (n0 c0 : Nat) (A1 : Option Addr) (n1 c1 : Nat) (A2 : Option Addr) (n2 c2 : Nat) (A3 : Option Addr) (n3 c3 : Nat) (A4 : Option Addr) (n4 c4 : Nat) (v_txg_ v_keep_ : Int) (v_same_ : Bool) (k : Int) (w : World) (lo hi : Nat) (k0 : Whole w 9 1 lo hi A0 n0 c0) (k1 : Whole w 3 1 lo hi A1 n1 c1) (k2 : Whole w 3 1 lo hi A2 n2 c2) (k3 : Whole w 41 5 lo hi A3 n3 c3) (k4 : Whole w 41 5 lo hi A4 n4 c4) (hhi : hi ≤ w.heap.size) (h0 : 0 ≤ k) (h1 : k + n0 + n1 + n2 + n3 * 5 + n4 * 5 ≤ 1099511627776) :
 Calls Tryz.prog 14 #[.agg #[.slice A0 n0 c0, .slice A1 n1 c1, .slice A2 n2 c2, .int .i64 v_txg_, .slice A3 n3 c3, .int .i64 v_keep_, .slice A4 n4 c4, .bool v_same_], .int .i64 k] w fun e w' => e = .returned (.int .i64 (k + n0 + n1 + n2 + n3 * 5 + n4 * 5)) ∧ KeepsW w w' ∧ Chg (fun b => lo ≤ b ∧ b < hi) w w' := by
 have Q0 : Hid (KeepsW w (w.alloc (.cells #[.slice A0 n0 c0, .slice A1 n1 c1, .slice A2 n2 c2, .int .i64 v_txg_, .slice A3 n3 c3, .int .i64 v_keep_, .slice A4 n4 c4, .bool v_same_] 39))) := Lib.hid (KeepsW.below bel1)
 have K0_0 := Lib.hid (Q0.out _ _ _ _ _ _ _ k0); clear k0
 have K1_0 := Lib.hid (Q0.out _ _ _ _ _ _ _ k1); clear k1
 have K2_0 := Lib.hid (Q0.out _ _ _ _ _ _ _ k2); clear k2
 have K3_0 := Lib.hid (Q0.out _ _ _ _ _ _ _ k3); clear k3
 have K4_0 := Lib.hid (Q0.out _ _ _ _ _ _ _ k4); clear k4
 go_enter Tryz.func14, Tryz.ntmps14
 go_wp2_with fail
 have X0 : Hid (Chg (fun b => lo ≤ b ∧ b < hi) w (w.alloc (.cells #[.slice A0 n0 c0, .slice A1 n1 c1, .slice A2 n2 c2, .int .i64 v_txg_, .slice A3 n3 c3, .int .i64 v_keep_, .slice A4 n4 c4, .bool v_same_] 39))) := Lib.hid ((Chg.refl _ _).alloc _)
 refine (markStringS_any A0 n0 c0 (k) _ lo hi K0_0.out (by omega) (by omega)).mono ?_
 rintro e w1 ⟨rfl, _, hw, hc0⟩
 have hc := K0_0.out.chgIn hc0
 have hk := KeepsW.after K0_0.out hw hc0
 clear hc0 hw
 have K0_1 := Lib.hid (hk _ _ _ _ _ _ _ K0_0.out)
 have K1_1 := Lib.hid (hk _ _ _ _ _ _ _ K1_0.out)
 have K2_1 := Lib.hid (hk _ _ _ _ _ _ _ K2_0.out)
 have K3_1 := Lib.hid (hk _ _ _ _ _ _ _ K3_0.out)
 have K4_1 := Lib.hid (hk _ _ _ _ _ _ _ K4_0.out)
 have Q1 := Lib.hid (Q0.out.trans hk)
 have eb : w1.heap[w.heap.size]? = some (.cells #[.slice A0 n0 c0, .slice A1 n1 c1, .slice A2 n2 c2, .int .i64 v_txg_, .slice A3 n3 c3, .int .i64 v_keep_, .slice A4 n4 c4, .bool v_same_] 39 (0, 0)) := (hc.block _ (by simp) (fun hb => by have := hb.2; omega)).trans (heap_alloc_new _ _)
 have c1_0 := celR 0 eb
 have c1_1 := celR 1 eb
 have c1_2 := celR 2 eb
 have c1_3 := celR 3 eb
 have c1_4 := celR 4 eb
 have c1_5 := celR 5 eb
 have c1_6 := celR 6 eb
 have c1_7 := celR 7 eb
 have E1 := Lib.hid eb; clear eb
 have X1 : Hid (Chg (fun b => lo ≤ b ∧ b < hi) w w1) := Lib.hid (X0.out.trans hc)
 clear hc hk
 go_wp2_with fail
 refine (markSpaceW_any A1 n1 c1 A2 n2 c2 (k + n0) _ lo hi K1_1.out K2_1.out (Nat.le_trans hhi X1.out.size) (by omega) (by omega)).mono ?_
 rintro e w2 ⟨rfl, hk, hc⟩
 have K0_2 := Lib.hid (hk _ _ _ _ _ _ _ K0_1.out)
 have K1_2 := Lib.hid (hk _ _ _ _ _ _ _ K1_1.out)
 have K2_2 := Lib.hid (hk _ _ _ _ _ _ _ K2_1.out)
 have K3_2 := Lib.hid (hk _ _ _ _ _ _ _ K3_1.out)
 have K4_2 := Lib.hid (hk _ _ _ _ _ _ _ K4_1.out)
 have Q2 := Lib.hid (Q1.out.trans hk)
 have eb : w2.heap[w.heap.size]? = some (.cells #[.slice A0 n0 c0, .slice A1 n1 c1, .slice A2 n2 c2, .int .i64 v_txg_, .slice A3 n3 c3, .int .i64 v_keep_, .slice A4 n4 c4, .bool v_same_] 39 (0, 0)) := (hc.block _ (by exact (Array.getElem?_eq_some_iff.1 E1.out).1) (fun hb => by have := hb.2; omega)).trans E1.out
 have c2_0 := celR 0 eb
 have c2_1 := celR 1 eb
 have c2_2 := celR 2 eb
 have c2_3 := celR 3 eb
 have c2_4 := celR 4 eb
 have c2_5 := celR 5 eb
 have c2_6 := celR 6 eb
 have c2_7 := celR 7 eb
 have E2 := Lib.hid eb; clear eb
 have X2 : Hid (Chg (fun b => lo ≤ b ∧ b < hi) w w2) := Lib.hid (X1.out.trans hc)
 clear hc hk c1_0 c1_1 c1_2 c1_3 c1_4 c1_5 c1_6 c1_7
 go_wp2_with fail
 refine (markPtrS_any A3 n3 c3 (k + n0 + n1 + n2) _ lo hi K3_2.out (by omega) (by omega)).mono ?_
 rintro e w3 ⟨rfl, _, hw, hc0⟩
 have hc := K3_2.out.chgIn hc0
 have hk := KeepsW.after K3_2.out hw hc0
 clear hc0 hw
 have K0_3 := Lib.hid (hk _ _ _ _ _ _ _ K0_2.out)
 have K1_3 := Lib.hid (hk _ _ _ _ _ _ _ K1_2.out)
 have K2_3 := Lib.hid (hk _ _ _ _ _ _ _ K2_2.out)
 have K3_3 := Lib.hid (hk _ _ _ _ _ _ _ K3_2.out)
 have K4_3 := Lib.hid (hk _ _ _ _ _ _ _ K4_2.out)
 have Q3 := Lib.hid (Q2.out.trans hk)
 have eb : w3.heap[w.heap.size]? = some (.cells #[.slice A0 n0 c0, .slice A1 n1 c1, .slice A2 n2 c2, .int .i64 v_txg_, .slice A3 n3 c3, .int .i64 v_keep_, .slice A4 n4 c4, .bool v_same_] 39 (0, 0)) := (hc.block _ (by exact (Array.getElem?_eq_some_iff.1 E2.out).1) (fun hb => by have := hb.2; omega)).trans E2.out
 have c3_0 := celR 0 eb
 have c3_1 := celR 1 eb
 have c3_2 := celR 2 eb
 have c3_3 := celR 3 eb
 have c3_4 := celR 4 eb
 have c3_5 := celR 5 eb
 have c3_6 := celR 6 eb
 have c3_7 := celR 7 eb
 have E3 := Lib.hid eb; clear eb
 have X3 : Hid (Chg (fun b => lo ≤ b ∧ b < hi) w w3) := Lib.hid (X2.out.trans hc)
 clear hc hk c2_0 c2_1 c2_2 c2_3 c2_4 c2_5 c2_6 c2_7
 go_wp2_with fail
 refine (markPtrS_any A4 n4 c4 (k + n0 + n1 + n2 + n3 * 5) _ lo hi K4_3.out (by omega) (by omega)).mono ?_
 rintro e w4 ⟨rfl, _, hw, hc0⟩
 have hc := K4_3.out.chgIn hc0
 have hk := KeepsW.after K4_3.out hw hc0
 clear hc0 hw
 have K0_4 := Lib.hid (hk _ _ _ _ _ _ _ K0_3.out)
 have K1_4 := Lib.hid (hk _ _ _ _ _ _ _ K1_3.out)
 have K2_4 := Lib.hid (hk _ _ _ _ _ _ _ K2_3.out)
 have K3_4 := Lib.hid (hk _ _ _ _ _ _ _ K3_3.out)
 have K4_4 := Lib.hid (hk _ _ _ _ _ _ _ K4_3.out)
 have Q4 := Lib.hid (Q3.out.trans hk)
 have eb : w4.heap[w.heap.size]? = some (.cells #[.slice A0 n0 c0, .slice A1 n1 c1, .slice A2 n2 c2, .int .i64 v_txg_, .slice A3 n3 c3, .int .i64 v_keep_, .slice A4 n4 c4, .bool v_same_] 39 (0, 0)) := (hc.block _ (by exact (Array.getElem?_eq_some_iff.1 E3.out).1) (fun hb => by have := hb.2; omega)).trans E3.out
 have c4_0 := celR 0 eb
 have c4_1 := celR 1 eb
 have c4_2 := celR 2 eb
 have c4_3 := celR 3 eb
 have c4_4 := celR 4 eb
 have c4_5 := celR 5 eb
 have c4_6 := celR 6 eb
 have c4_7 := celR 7 eb
 have E4 := Lib.hid eb; clear eb
 have X4 : Hid (Chg (fun b => lo ≤ b ∧ b < hi) w w4) := Lib.hid (X3.out.trans hc)
 clear hc hk c3_0 c3_1 c3_2 c3_3 c3_4 c3_5 c3_6 c3_7
 go_wp2_with fail
 go_ret
 exact ⟨rfl, Q4.out, X4.out⟩
end Go.Proofs.YtjnhiiaejeaikaaGreatDoor
