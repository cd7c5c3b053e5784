/- DiskFlush and DiskCrash of the program. No condition on the memory; a disk that is valid. -/
import Derived.Test.YtgipchipcoaajaaSettle
namespace Go.Proofs.Ytgipchipcoaajaa
set_option linter.unusedSimpArgs false
set_option linter.unnecessarySimpa false
open Go.RowKit
set_option linter.unusedVariables false
def flushF (_ : Nat) (x : WaitD) (_ : ByteArray) : ByteArray := x.2
def keepF (_ : Nat) (_ : WaitD) (t : ByteArray) : ByteArray := t
set_option maxHeartbeats 1000000 in
theorem flush1_any (i : Nat) (a : Int) (s t : ByteArray) (w : World) :
    Calls Try.prog 68 #[.int .i64 (i : Int), .agg #[.int .i64 a, .string s], .string t] w fun e w' => e = .returned (.string (flushF i (a, s) t)) ∧ Below w.heap.size w w' := by
  go_enter Try.func68, Try.ntmps68
  go_wp2_with fail
  go_ret
  exact ⟨rfl, bel1⟩
set_option maxRecDepth 100000 in
set_option maxHeartbeats 2000000 in
theorem diskFlush_any (cs : List Value) (x : DiskD) (w : World) (lo hi : Nat) (h : DiskR w lo hi cs x) (hok : diskOk x = true) :
    Calls Try.prog 27 #[.agg cs.toArray] w (NewR DiskN w (settleD flushF x)) := by
  have H := Lib.hid h; have HOK := Lib.hid hok
  obtain ⟨sd, hsd⟩ : ∃ d, d = settleD flushF x := ⟨_, rfl⟩
  rw [← hsd]
  have HSD := Lib.hid hsd; clear hsd
  obtain ⟨gone, hgone⟩ : ∃ g, g = x.2.2 := ⟨_, rfl⟩
  obtain ⟨A0, n0, c0, A1, n1, c1, rfl, h0, h1⟩ := h
  rw [← hgone] at H ⊢; clear hgone
  have HLE := Lib.hid h0.lo_le
  show Calls Try.prog 27 #[.agg #[.slice A0 n0 c0, .slice A1 n1 c1, .bool gone]] w _
  clear h0 h1 hok
  go_enter Try.func27, Try.ntmps27
  go_wp2_with fail
  refine (diskOk_any _ x _ lo hi (DiskR.below bel2 HLE.out _ _ H.out)).mono ?_
  rw [HOK.out]
  rintro e w1 ⟨rfl, hb1⟩
  have X1 : Below w.heap.size w w1 := bel2.trans (hb1.mono (by simp <;> omega))
  have q0 : w1.cell? ⟨w.heap.size, 0, none⟩ = some (.slice A0 n0 c0) := (hb1.cell (by simp <;> omega)).trans (by simp [go_sem])
  have q1 : w1.cell? ⟨w.heap.size, 1, none⟩ = some (.slice A1 n1 c1) := (hb1.cell (by simp <;> omega)).trans (by simp [go_sem])
  have q2 : w1.cell? ⟨w.heap.size, 2, none⟩ = some (.bool gone) := (hb1.cell (by simp <;> omega)).trans (by simp [go_sem])
  have hq : w1.heap[w.heap.size + 1]? = some (.cells #[.slice none 0 0, .slice none 0 0, .bool false] 26 (0, 0)) := (hb1.block _ (by simp)).trans (by have := heap_alloc_new (w.alloc (.cells #[.slice A0 n0 c0, .slice A1 n1 c1, .bool gone] 26)) (.cells #[.slice none 0 0, .slice none 0 0, .bool false] 26); simpa using this)
  have HX1 := Lib.hid X1; have HQ := Lib.hid hq
  have z1 : w.heap.size + 2 ≤ w1.heap.size := by have := hb1.size; simp at this; omega
  clear hb1 hq
  go_wp2_with fail
  refine (settleFlush_any _ x _ lo hi (DiskR.below HX1.out HLE.out _ _ H.out) HOK.out flushF (fun _ _ _ h _ => h) (fun i a s t w' _ _ _ _ => flush1_any i a s t w')).mono ?_
  rw [← HSD.out]
  rintro e w2 ⟨cs2, rfl, hN2, hb2⟩
  have HN2 := Lib.hid hN2
  obtain ⟨B0, m0, d0, B1, m1, d1, rfl, -⟩ := hN2
  have z2 := hb2.size
  have hq2 := (hb2.block (w.heap.size + 1) (by omega)).trans HQ.out
  have HX2 := Lib.hid (HX1.out.trans (hb2.mono HX1.out.size))
  have fz := fun o => block_free hq2 o
  have fz0 := fz 0; have fz1 := fz 1; have fz2 := fz 2
  have r0 := cell_of_row _ _ 0 _ _ (0, 0) hq2; have r1 := cell_of_row _ _ 1 _ _ (0, 0) hq2; have r2 := cell_of_row _ _ 2 _ _ (0, 0) hq2
  have hst := setT_3 (x0 := .slice B0 m0 d0) (x1 := .slice B1 m1 d1) (x2 := .bool sd.2.2) hq2
  have s0 := cell_of_row _ _ 0 _ _ (0, 0) hst; have s1 := cell_of_row _ _ 1 _ _ (0, 0) hst; have s2 := cell_of_row _ _ 2 _ _ (0, 0) hst
  clear fz hst hq2 hb2 q0 q1 q2
  go_wp2_with fail
  refine bodyPost_ret (v := .agg #[.slice B0 m0 d0, .slice B1 m1 d1, .bool sd.2.2]) (by simp [results, Try.results27, go_sem, s0, s1, s2]) rfl ⟨_, rfl, ?_, ?_⟩
  · refine DiskN.wide (show w.heap.size ≤ w1.heap.size by omega) (by simp [World.setCell]) (Nat.le_refl _) _ _ (DiskN.keep (w := w2) (lo := w1.heap.size) (hi := w2.heap.size) (Same.setCell (p := ⟨w.heap.size + 1, 2, none⟩) (Same.setCell (p := ⟨w.heap.size + 1, 1, none⟩) (Same.setCell (p := ⟨w.heap.size + 1, 0, none⟩) (Same.refl _ _ _) (.inl (by simp <;> omega)) _) (.inl (by simp <;> omega)) _) (.inl (by simp <;> omega)) _) (by simp [World.setCell]) _ _ HN2.out)
  · exact Below.setCell (p := ⟨w.heap.size + 1, 2, none⟩) (Below.setCell (p := ⟨w.heap.size + 1, 1, none⟩) (Below.setCell (p := ⟨w.heap.size + 1, 0, none⟩) HX2.out (by simp) _) (by simp) _) (by simp) _
theorem bits_all : ∀ j : Nat, j < 60 → (bits .and .i64 (1152921504606846975 / 2 ^ j) 1 == 1) = true := by decide +kernel
theorem bits_none : ∀ j : Nat, j < 60 → (bits .and .i64 (0 / 2 ^ j) 1 == 1) = false := by decide +kernel
set_option maxHeartbeats 1000000 in
theorem crashAll1_any (b0 b1 i : Nat) (a : Int) (s t : ByteArray) (w : World) (h0 : w.cell? ⟨b0, 0, none⟩ = some (.int .i64 1152921504606846975)) (h1 : w.cell? ⟨b1, 0, none⟩ = some (.int .i64 (-1))) (hl0 : b0 < w.heap.size) (hl1 : b1 < w.heap.size) (hs : s.size ≤ 200) (ht : t.size ≤ 200) (hi : i < 120) :
    Calls Try.prog 69 #[.int .i64 (i : Int), .agg #[.int .i64 a, .string s], .string t, .pointer (some ⟨b0, 0, none⟩), .pointer (some ⟨b1, 0, none⟩)] w fun e w' => e = .returned (.string (flushF i (a, s) t)) ∧ Below w.heap.size w w' := by
  have i0 : (0 : Int) ≤ (i : Int) := by omega
  have hbit := bits_all (i % 60) (Nat.mod_lt _ (by omega))
  have hi1 : ((i : Int) == -1) = false := by rw [beq_eq_false_iff_ne]; omega
  go_enter Try.func69, Try.ntmps69
  go_wp2_with fail
  go_ret
  exact ⟨rfl, bel1⟩
set_option maxRecDepth 100000 in
set_option maxHeartbeats 2000000 in
theorem crashAll_any (cs : List Value) (x : DiskD) (w : World) (lo hi : Nat) (h : DiskR w lo hi cs x) (hok : diskOk x = true) :
    Calls Try.prog 28 #[.agg cs.toArray, .int .i64 1152921504606846975, .int .i64 (-1)] w (NewR DiskN w (settleD flushF x)) := by
  have H := Lib.hid h; have HOK := Lib.hid hok
  obtain ⟨sd, hsd⟩ : ∃ d, d = settleD flushF x := ⟨_, rfl⟩
  rw [← hsd]
  have HSD := Lib.hid hsd; clear hsd
  obtain ⟨gone, hgone⟩ : ∃ g, g = x.2.2 := ⟨_, rfl⟩
  obtain ⟨A0, n0, c0, A1, n1, c1, rfl, h0, h1⟩ := h
  rw [← hgone] at H ⊢; clear hgone
  have HLE := Lib.hid h0.lo_le
  show Calls Try.prog 28 #[.agg #[.slice A0 n0 c0, .slice A1 n1 c1, .bool gone], .int .i64 1152921504606846975, .int .i64 (-1)] w _
  clear h0 h1 hok
  go_enter Try.func28, Try.ntmps28
  go_wp2_with fail
  obtain ⟨W, hW⟩ : ∃ W, W = (((w.alloc (.cells #[.slice A0 n0 c0, .slice A1 n1 c1, .bool gone] 26)).alloc (.cells #[.int .i64 1152921504606846975] 3)).alloc (.cells #[.int .i64 (-1)] 3)).alloc (.cells #[.slice none 0 0, .slice none 0 0, .bool false] 26) := ⟨_, rfl⟩
  have XW : Below w.heap.size w W := by rw [hW]; exact ((((Below.refl _ w).alloc (Nat.le_refl _) _).alloc (by simp) _).alloc (by simp <;> omega) _).alloc (by simp <;> omega) _
  have zW : W.heap.size = w.heap.size + 4 := by rw [hW]; simp
  have kd : W.heap[w.heap.size]? = some (.cells #[.slice A0 n0 c0, .slice A1 n1 c1, .bool gone] 26 (0, 0)) := by rw [hW]; exact (Below.heap_alloc _ _ _ (by simp <;> omega)).trans ((Below.heap_alloc _ _ _ (by simp <;> omega)).trans ((Below.heap_alloc _ _ _ (by simp)).trans (heap_alloc_new _ _)))
  have kk : W.heap[w.heap.size + 1]? = some (.cells #[.int .i64 1152921504606846975] 3 (0, 0)) := by rw [hW]; exact (Below.heap_alloc _ _ _ (by simp <;> omega)).trans ((Below.heap_alloc _ _ _ (by simp)).trans (by have := heap_alloc_new (w.alloc (.cells #[.slice A0 n0 c0, .slice A1 n1 c1, .bool gone] 26)) (.cells #[.int .i64 1152921504606846975] 3); simpa using this))
  have kt : W.heap[w.heap.size + 1 + 1]? = some (.cells #[.int .i64 (-1)] 3 (0, 0)) := by rw [hW]; exact (Below.heap_alloc _ _ _ (by simp)).trans (by have := heap_alloc_new ((w.alloc (.cells #[.slice A0 n0 c0, .slice A1 n1 c1, .bool gone] 26)).alloc (.cells #[.int .i64 1152921504606846975] 3)) (.cells #[.int .i64 (-1)] 3); simpa using this)
  have kr : W.heap[w.heap.size + 1 + 1 + 1]? = some (.cells #[.slice none 0 0, .slice none 0 0, .bool false] 26 (0, 0)) := by rw [hW]; have := heap_alloc_new (((w.alloc (.cells #[.slice A0 n0 c0, .slice A1 n1 c1, .bool gone] 26)).alloc (.cells #[.int .i64 1152921504606846975] 3)).alloc (.cells #[.int .i64 (-1)] 3)) (.cells #[.slice none 0 0, .slice none 0 0, .bool false] 26); simpa using this
  rw [← hW]
  clear hW
  refine (diskOk_any _ x _ lo hi (DiskR.below XW HLE.out _ _ H.out)).mono ?_
  rw [HOK.out]
  rintro e w1 ⟨rfl, hb1⟩
  have z1 := hb1.size
  have X1 : Below w.heap.size w w1 := XW.trans (hb1.mono (by omega))
  have kd1 := (hb1.block _ (by omega)).trans kd; have kk1 := (hb1.block _ (by omega)).trans kk; have kt1 := (hb1.block _ (by omega)).trans kt
  have HQ := Lib.hid ((hb1.block _ (by omega)).trans kr)
  have q0 := cell_of_row _ _ 0 _ _ (0, 0) kd1; have q1 := cell_of_row _ _ 1 _ _ (0, 0) kd1; have q2 := cell_of_row _ _ 2 _ _ (0, 0) kd1
  have v0 := cell_of_row _ _ 0 _ _ (0, 0) kk1; have v1 := cell_of_row _ _ 0 _ _ (0, 0) kt1
  have V0 := Lib.hid v0; have V1 := Lib.hid v1
  have HX1 := Lib.hid X1
  clear hb1 kd kk kt kr kd1 kk1 kt1 X1 XW
  go_wp2_with fail
  refine (settleCrash_any (w.heap.size + 1) (w.heap.size + 1 + 1) _ x _ lo hi (DiskR.below HX1.out HLE.out _ _ H.out) HOK.out flushF (fun _ _ _ h h' => by first | exact h | exact h') (fun i a s t w' hb hi hs ht => crashAll1_any _ _ i a s t w' ((hb.cell (by simp <;> omega)).trans V0.out) ((hb.cell (by simp <;> omega)).trans V1.out) (by have := hb.size; omega) (by have := hb.size; omega) hs ht hi)).mono ?_
  rw [← HSD.out]
  rintro e w2 ⟨cs2, rfl, hN2, hb2⟩
  have HN2 := Lib.hid hN2
  obtain ⟨B0, m0, d0, B1, m1, d1, rfl, -⟩ := hN2
  have z2 := hb2.size
  have hq2 := (hb2.block (w.heap.size + 1 + 1 + 1) (by omega)).trans HQ.out
  have HX2 := Lib.hid (HX1.out.trans (hb2.mono HX1.out.size))
  have fz := fun o => block_free hq2 o
  have fz0 := fz 0; have fz1 := fz 1; have fz2 := fz 2
  have r0 := cell_of_row _ _ 0 _ _ (0, 0) hq2; have r1 := cell_of_row _ _ 1 _ _ (0, 0) hq2; have r2 := cell_of_row _ _ 2 _ _ (0, 0) hq2
  have hst := setT_3 (x0 := .slice B0 m0 d0) (x1 := .slice B1 m1 d1) (x2 := .bool sd.2.2) hq2
  have s0 := cell_of_row _ _ 0 _ _ (0, 0) hst; have s1 := cell_of_row _ _ 1 _ _ (0, 0) hst; have s2 := cell_of_row _ _ 2 _ _ (0, 0) hst
  clear fz hst hq2 hb2 q0 q1 q2 v0 v1
  go_wp2_with fail
  refine bodyPost_ret (v := .agg #[.slice B0 m0 d0, .slice B1 m1 d1, .bool sd.2.2]) (by simp [results, Try.results28, go_sem, s0, s1, s2]) rfl ⟨_, rfl, ?_, ?_⟩
  · refine DiskN.wide (show w.heap.size ≤ w1.heap.size by omega) (by simp [World.setCell]) (Nat.le_refl _) _ _ (DiskN.keep (w := w2) (lo := w1.heap.size) (hi := w2.heap.size) (Same.setCell (p := ⟨w.heap.size + 1 + 1 + 1, 2, none⟩) (Same.setCell (p := ⟨w.heap.size + 1 + 1 + 1, 1, none⟩) (Same.setCell (p := ⟨w.heap.size + 1 + 1 + 1, 0, none⟩) (Same.refl _ _ _) (.inl (by simp <;> omega)) _) (.inl (by simp <;> omega)) _) (.inl (by simp <;> omega)) _) (by simp [World.setCell]) _ _ HN2.out)
  · exact Below.setCell (p := ⟨w.heap.size + 1 + 1 + 1, 2, none⟩) (Below.setCell (p := ⟨w.heap.size + 1 + 1 + 1, 1, none⟩) (Below.setCell (p := ⟨w.heap.size + 1 + 1 + 1, 0, none⟩) HX2.out (by simp <;> omega) _) (by simp <;> omega) _) (by simp <;> omega) _
set_option maxHeartbeats 1000000 in
theorem crashNone1_any (b0 b1 i : Nat) (a : Int) (s t : ByteArray) (w : World) (h0 : w.cell? ⟨b0, 0, none⟩ = some (.int .i64 0)) (h1 : w.cell? ⟨b1, 0, none⟩ = some (.int .i64 (-1))) (hl0 : b0 < w.heap.size) (hl1 : b1 < w.heap.size) (hs : s.size ≤ 200) (ht : t.size ≤ 200) (hi : i < 120) :
    Calls Try.prog 69 #[.int .i64 (i : Int), .agg #[.int .i64 a, .string s], .string t, .pointer (some ⟨b0, 0, none⟩), .pointer (some ⟨b1, 0, none⟩)] w fun e w' => e = .returned (.string (keepF i (a, s) t)) ∧ Below w.heap.size w w' := by
  have i0 : (0 : Int) ≤ (i : Int) := by omega
  have hbit := bits_none (i % 60) (Nat.mod_lt _ (by omega))
  have hi1 : ((i : Int) == -1) = false := by rw [beq_eq_false_iff_ne]; omega
  go_enter Try.func69, Try.ntmps69
  go_wp2_with fail
  go_ret
  exact ⟨rfl, bel1⟩
set_option maxRecDepth 100000 in
set_option maxHeartbeats 2000000 in
theorem crashNone_any (cs : List Value) (x : DiskD) (w : World) (lo hi : Nat) (h : DiskR w lo hi cs x) (hok : diskOk x = true) :
    Calls Try.prog 28 #[.agg cs.toArray, .int .i64 0, .int .i64 (-1)] w (NewR DiskN w (settleD keepF x)) := by
  have H := Lib.hid h; have HOK := Lib.hid hok
  obtain ⟨sd, hsd⟩ : ∃ d, d = settleD keepF x := ⟨_, rfl⟩
  rw [← hsd]
  have HSD := Lib.hid hsd; clear hsd
  obtain ⟨gone, hgone⟩ : ∃ g, g = x.2.2 := ⟨_, rfl⟩
  obtain ⟨A0, n0, c0, A1, n1, c1, rfl, h0, h1⟩ := h
  rw [← hgone] at H ⊢; clear hgone
  have HLE := Lib.hid h0.lo_le
  show Calls Try.prog 28 #[.agg #[.slice A0 n0 c0, .slice A1 n1 c1, .bool gone], .int .i64 0, .int .i64 (-1)] w _
  clear h0 h1 hok
  go_enter Try.func28, Try.ntmps28
  go_wp2_with fail
  obtain ⟨W, hW⟩ : ∃ W, W = (((w.alloc (.cells #[.slice A0 n0 c0, .slice A1 n1 c1, .bool gone] 26)).alloc (.cells #[.int .i64 0] 3)).alloc (.cells #[.int .i64 (-1)] 3)).alloc (.cells #[.slice none 0 0, .slice none 0 0, .bool false] 26) := ⟨_, rfl⟩
  have XW : Below w.heap.size w W := by rw [hW]; exact ((((Below.refl _ w).alloc (Nat.le_refl _) _).alloc (by simp) _).alloc (by simp <;> omega) _).alloc (by simp <;> omega) _
  have zW : W.heap.size = w.heap.size + 4 := by rw [hW]; simp
  have kd : W.heap[w.heap.size]? = some (.cells #[.slice A0 n0 c0, .slice A1 n1 c1, .bool gone] 26 (0, 0)) := by rw [hW]; exact (Below.heap_alloc _ _ _ (by simp <;> omega)).trans ((Below.heap_alloc _ _ _ (by simp <;> omega)).trans ((Below.heap_alloc _ _ _ (by simp)).trans (heap_alloc_new _ _)))
  have kk : W.heap[w.heap.size + 1]? = some (.cells #[.int .i64 0] 3 (0, 0)) := by rw [hW]; exact (Below.heap_alloc _ _ _ (by simp <;> omega)).trans ((Below.heap_alloc _ _ _ (by simp)).trans (by have := heap_alloc_new (w.alloc (.cells #[.slice A0 n0 c0, .slice A1 n1 c1, .bool gone] 26)) (.cells #[.int .i64 0] 3); simpa using this))
  have kt : W.heap[w.heap.size + 1 + 1]? = some (.cells #[.int .i64 (-1)] 3 (0, 0)) := by rw [hW]; exact (Below.heap_alloc _ _ _ (by simp)).trans (by have := heap_alloc_new ((w.alloc (.cells #[.slice A0 n0 c0, .slice A1 n1 c1, .bool gone] 26)).alloc (.cells #[.int .i64 0] 3)) (.cells #[.int .i64 (-1)] 3); simpa using this)
  have kr : W.heap[w.heap.size + 1 + 1 + 1]? = some (.cells #[.slice none 0 0, .slice none 0 0, .bool false] 26 (0, 0)) := by rw [hW]; have := heap_alloc_new (((w.alloc (.cells #[.slice A0 n0 c0, .slice A1 n1 c1, .bool gone] 26)).alloc (.cells #[.int .i64 0] 3)).alloc (.cells #[.int .i64 (-1)] 3)) (.cells #[.slice none 0 0, .slice none 0 0, .bool false] 26); simpa using this
  rw [← hW]
  clear hW
  refine (diskOk_any _ x _ lo hi (DiskR.below XW HLE.out _ _ H.out)).mono ?_
  rw [HOK.out]
  rintro e w1 ⟨rfl, hb1⟩
  have z1 := hb1.size
  have X1 : Below w.heap.size w w1 := XW.trans (hb1.mono (by omega))
  have kd1 := (hb1.block _ (by omega)).trans kd; have kk1 := (hb1.block _ (by omega)).trans kk; have kt1 := (hb1.block _ (by omega)).trans kt
  have HQ := Lib.hid ((hb1.block _ (by omega)).trans kr)
  have q0 := cell_of_row _ _ 0 _ _ (0, 0) kd1; have q1 := cell_of_row _ _ 1 _ _ (0, 0) kd1; have q2 := cell_of_row _ _ 2 _ _ (0, 0) kd1
  have v0 := cell_of_row _ _ 0 _ _ (0, 0) kk1; have v1 := cell_of_row _ _ 0 _ _ (0, 0) kt1
  have V0 := Lib.hid v0; have V1 := Lib.hid v1
  have HX1 := Lib.hid X1
  clear hb1 kd kk kt kr kd1 kk1 kt1 X1 XW
  go_wp2_with fail
  refine (settleCrash_any (w.heap.size + 1) (w.heap.size + 1 + 1) _ x _ lo hi (DiskR.below HX1.out HLE.out _ _ H.out) HOK.out keepF (fun _ _ _ h h' => by first | exact h | exact h') (fun i a s t w' hb hi hs ht => crashNone1_any _ _ i a s t w' ((hb.cell (by simp <;> omega)).trans V0.out) ((hb.cell (by simp <;> omega)).trans V1.out) (by have := hb.size; omega) (by have := hb.size; omega) hs ht hi)).mono ?_
  rw [← HSD.out]
  rintro e w2 ⟨cs2, rfl, hN2, hb2⟩
  have HN2 := Lib.hid hN2
  obtain ⟨B0, m0, d0, B1, m1, d1, rfl, -⟩ := hN2
  have z2 := hb2.size
  have hq2 := (hb2.block (w.heap.size + 1 + 1 + 1) (by omega)).trans HQ.out
  have HX2 := Lib.hid (HX1.out.trans (hb2.mono HX1.out.size))
  have fz := fun o => block_free hq2 o
  have fz0 := fz 0; have fz1 := fz 1; have fz2 := fz 2
  have r0 := cell_of_row _ _ 0 _ _ (0, 0) hq2; have r1 := cell_of_row _ _ 1 _ _ (0, 0) hq2; have r2 := cell_of_row _ _ 2 _ _ (0, 0) hq2
  have hst := setT_3 (x0 := .slice B0 m0 d0) (x1 := .slice B1 m1 d1) (x2 := .bool sd.2.2) hq2
  have s0 := cell_of_row _ _ 0 _ _ (0, 0) hst; have s1 := cell_of_row _ _ 1 _ _ (0, 0) hst; have s2 := cell_of_row _ _ 2 _ _ (0, 0) hst
  clear fz hst hq2 hb2 q0 q1 q2 v0 v1
  go_wp2_with fail
  refine bodyPost_ret (v := .agg #[.slice B0 m0 d0, .slice B1 m1 d1, .bool sd.2.2]) (by simp [results, Try.results28, go_sem, s0, s1, s2]) rfl ⟨_, rfl, ?_, ?_⟩
  · refine DiskN.wide (show w.heap.size ≤ w1.heap.size by omega) (by simp [World.setCell]) (Nat.le_refl _) _ _ (DiskN.keep (w := w2) (lo := w1.heap.size) (hi := w2.heap.size) (Same.setCell (p := ⟨w.heap.size + 1 + 1 + 1, 2, none⟩) (Same.setCell (p := ⟨w.heap.size + 1 + 1 + 1, 1, none⟩) (Same.setCell (p := ⟨w.heap.size + 1 + 1 + 1, 0, none⟩) (Same.refl _ _ _) (.inl (by simp <;> omega)) _) (.inl (by simp <;> omega)) _) (.inl (by simp <;> omega)) _) (by simp [World.setCell]) _ _ HN2.out)
  · exact Below.setCell (p := ⟨w.heap.size + 1 + 1 + 1, 2, none⟩) (Below.setCell (p := ⟨w.heap.size + 1 + 1 + 1, 1, none⟩) (Below.setCell (p := ⟨w.heap.size + 1 + 1 + 1, 0, none⟩) HX2.out (by simp <;> omega) _) (by simp <;> omega) _) (by simp <;> omega) _
end Go.Proofs.Ytgipchipcoaajaa
