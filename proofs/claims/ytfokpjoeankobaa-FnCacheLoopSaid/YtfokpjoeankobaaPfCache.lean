/- pfCache at equal caches. No condition. -/
import Derived.Test.YtfokpjoeankobaaCacheHas
import Derived.Test.YtfokpjoeankobaaCacheNew
namespace Go.Proofs.Ytfokpjoeankobaa
set_option linter.unusedVariables false
set_option linter.unusedSimpArgs false
set_option linter.unnecessarySimpa false
open Go.RowKit
theorem eqInts_same (xs : List Int) : eqInts xs xs = true := (eqInts_iff _ _).2 rfl
set_option maxRecDepth 100000 in
set_option maxHeartbeats 2000000 in
theorem pfCache_yes (cs cs' : List Value) (x : CacheD) (w : World) (lo hi lo' hi' : Nat) (h : CacheR w lo hi cs x) (h' : CacheR w lo' hi' cs' x) :
    Calls Try.prog 8 #[.agg cs.toArray, .agg cs'.toArray] w fun e w' => e = .returned (.bool true) ∧ Below w.heap.size w w' := by
  obtain ⟨room_, goal_, once_, often_, past_, former_⟩ := x
  obtain ⟨Aa0, na0, ca0, Aa1, na1, ca1, Aa2, na2, ca2, Aa3, na3, ca3, rfl, ha0, ha1, ha2, ha3⟩ := h
  obtain ⟨Ab0, nb0, cb0, Ab1, nb1, cb1, Ab2, nb2, cb2, Ab3, nb3, cb3, rfl, hb0, hb1, hb2, hb3⟩ := h'
  show Calls Try.prog 8 #[.agg #[.int .i64 room_, .int .i64 goal_, .slice Aa0 na0 ca0, .slice Aa1 na1 ca1, .slice Aa2 na2 ca2, .slice Aa3 na3 ca3], .agg #[.int .i64 room_, .int .i64 goal_, .slice Ab0 nb0 cb0, .slice Ab1 nb1 cb1, .slice Ab2 nb2 cb2, .slice Ab3 nb3 cb3]] w _
  have Hha0 := Lib.hid (SliceR.ints ha0); clear ha0
  have Hha1 := Lib.hid (SliceR.ints ha1); clear ha1
  have Hha2 := Lib.hid (SliceR.ints ha2); clear ha2
  have Hha3 := Lib.hid (SliceR.ints ha3); clear ha3
  have Hhb0 := Lib.hid (SliceR.ints hb0); clear hb0
  have Hhb1 := Lib.hid (SliceR.ints hb1); clear hb1
  have Hhb2 := Lib.hid (SliceR.ints hb2); clear hb2
  have Hhb3 := Lib.hid (SliceR.ints hb3); clear hb3
  have E0 := eqInts_same
  go_enter Try.func8, Try.ntmps8
  go_wp2_with fail
  refine (pfInts_any _ _ _ _ _ _ once_ once_ _ (Hha0.out.below bel2) (Hhb0.out.below bel2)).mono ?_
  rw [E0]
  rintro e w1 ⟨rfl, hq1⟩
  have hb1 := hq1.nil_below; clear hq1
  have S1 : Below w.heap.size w w1 := bel2.trans (hb1.mono (by simp <;> omega))
  have c1_0 : w1.cell? ⟨w.heap.size, 0, none⟩ = some (.int .i64 room_) := (hb1.cell (by simp <;> omega)).trans (by simp [go_sem])
  have c1_1 : w1.cell? ⟨w.heap.size, 1, none⟩ = some (.int .i64 goal_) := (hb1.cell (by simp <;> omega)).trans (by simp [go_sem])
  have c1_2 : w1.cell? ⟨w.heap.size, 2, none⟩ = some (.slice Aa0 na0 ca0) := (hb1.cell (by simp <;> omega)).trans (by simp [go_sem])
  have c1_3 : w1.cell? ⟨w.heap.size, 3, none⟩ = some (.slice Aa1 na1 ca1) := (hb1.cell (by simp <;> omega)).trans (by simp [go_sem])
  have c1_4 : w1.cell? ⟨w.heap.size, 4, none⟩ = some (.slice Aa2 na2 ca2) := (hb1.cell (by simp <;> omega)).trans (by simp [go_sem])
  have c1_5 : w1.cell? ⟨w.heap.size, 5, none⟩ = some (.slice Aa3 na3 ca3) := (hb1.cell (by simp <;> omega)).trans (by simp [go_sem])
  have c1_6 : w1.cell? ⟨w.heap.size + 1, 0, none⟩ = some (.int .i64 room_) := (hb1.cell (by simp <;> omega)).trans (by simp [go_sem])
  have c1_7 : w1.cell? ⟨w.heap.size + 1, 1, none⟩ = some (.int .i64 goal_) := (hb1.cell (by simp <;> omega)).trans (by simp [go_sem])
  have c1_8 : w1.cell? ⟨w.heap.size + 1, 2, none⟩ = some (.slice Ab0 nb0 cb0) := (hb1.cell (by simp <;> omega)).trans (by simp [go_sem])
  have c1_9 : w1.cell? ⟨w.heap.size + 1, 3, none⟩ = some (.slice Ab1 nb1 cb1) := (hb1.cell (by simp <;> omega)).trans (by simp [go_sem])
  have c1_10 : w1.cell? ⟨w.heap.size + 1, 4, none⟩ = some (.slice Ab2 nb2 cb2) := (hb1.cell (by simp <;> omega)).trans (by simp [go_sem])
  have c1_11 : w1.cell? ⟨w.heap.size + 1, 5, none⟩ = some (.slice Ab3 nb3 cb3) := (hb1.cell (by simp <;> omega)).trans (by simp [go_sem])
  have l1_0 : w.heap.size < w1.heap.size := World.block_lt_of_cell? _ _ c1_0
  have l1_1 : w.heap.size + 1 < w1.heap.size := World.block_lt_of_cell? _ _ c1_6
  have X1 : Below w.heap.size w w1 := S1
  clear hb1
  clear S1
  go_wp2_with fail
  refine (pfInts_any _ _ _ _ _ _ often_ often_ _ (Hha1.out.below X1) (Hhb1.out.below X1)).mono ?_
  rw [E0]
  rintro e w2 ⟨rfl, hq2⟩
  have hb2 := hq2.nil_below; clear hq2
  have S2 : Below w1.heap.size w1 w2 := hb2
  have c2_0 : w2.cell? ⟨w.heap.size, 0, none⟩ = some (.int .i64 room_) := (S2.cell l1_0).trans c1_0
  have c2_1 : w2.cell? ⟨w.heap.size, 1, none⟩ = some (.int .i64 goal_) := (S2.cell l1_0).trans c1_1
  have c2_2 : w2.cell? ⟨w.heap.size, 2, none⟩ = some (.slice Aa0 na0 ca0) := (S2.cell l1_0).trans c1_2
  have c2_3 : w2.cell? ⟨w.heap.size, 3, none⟩ = some (.slice Aa1 na1 ca1) := (S2.cell l1_0).trans c1_3
  have c2_4 : w2.cell? ⟨w.heap.size, 4, none⟩ = some (.slice Aa2 na2 ca2) := (S2.cell l1_0).trans c1_4
  have c2_5 : w2.cell? ⟨w.heap.size, 5, none⟩ = some (.slice Aa3 na3 ca3) := (S2.cell l1_0).trans c1_5
  have c2_6 : w2.cell? ⟨w.heap.size + 1, 0, none⟩ = some (.int .i64 room_) := (S2.cell l1_1).trans c1_6
  have c2_7 : w2.cell? ⟨w.heap.size + 1, 1, none⟩ = some (.int .i64 goal_) := (S2.cell l1_1).trans c1_7
  have c2_8 : w2.cell? ⟨w.heap.size + 1, 2, none⟩ = some (.slice Ab0 nb0 cb0) := (S2.cell l1_1).trans c1_8
  have c2_9 : w2.cell? ⟨w.heap.size + 1, 3, none⟩ = some (.slice Ab1 nb1 cb1) := (S2.cell l1_1).trans c1_9
  have c2_10 : w2.cell? ⟨w.heap.size + 1, 4, none⟩ = some (.slice Ab2 nb2 cb2) := (S2.cell l1_1).trans c1_10
  have c2_11 : w2.cell? ⟨w.heap.size + 1, 5, none⟩ = some (.slice Ab3 nb3 cb3) := (S2.cell l1_1).trans c1_11
  have l2_0 : w.heap.size < w2.heap.size := World.block_lt_of_cell? _ _ c2_0
  have l2_1 : w.heap.size + 1 < w2.heap.size := World.block_lt_of_cell? _ _ c2_6
  have X2 : Below w.heap.size w w2 := X1.trans (S2.mono X1.size)
  clear c1_0 c1_1 c1_2 c1_3 c1_4 c1_5 c1_6 c1_7 c1_8 c1_9 c1_10 c1_11 l1_0 l1_1 X1 hb2
  clear S2
  go_wp2_with fail
  refine (pfInts_any _ _ _ _ _ _ past_ past_ _ (Hha2.out.below X2) (Hhb2.out.below X2)).mono ?_
  rw [E0]
  rintro e w3 ⟨rfl, hq3⟩
  have hb3 := hq3.nil_below; clear hq3
  have S3 : Below w2.heap.size w2 w3 := hb3
  have c3_0 : w3.cell? ⟨w.heap.size, 0, none⟩ = some (.int .i64 room_) := (S3.cell l2_0).trans c2_0
  have c3_1 : w3.cell? ⟨w.heap.size, 1, none⟩ = some (.int .i64 goal_) := (S3.cell l2_0).trans c2_1
  have c3_2 : w3.cell? ⟨w.heap.size, 2, none⟩ = some (.slice Aa0 na0 ca0) := (S3.cell l2_0).trans c2_2
  have c3_3 : w3.cell? ⟨w.heap.size, 3, none⟩ = some (.slice Aa1 na1 ca1) := (S3.cell l2_0).trans c2_3
  have c3_4 : w3.cell? ⟨w.heap.size, 4, none⟩ = some (.slice Aa2 na2 ca2) := (S3.cell l2_0).trans c2_4
  have c3_5 : w3.cell? ⟨w.heap.size, 5, none⟩ = some (.slice Aa3 na3 ca3) := (S3.cell l2_0).trans c2_5
  have c3_6 : w3.cell? ⟨w.heap.size + 1, 0, none⟩ = some (.int .i64 room_) := (S3.cell l2_1).trans c2_6
  have c3_7 : w3.cell? ⟨w.heap.size + 1, 1, none⟩ = some (.int .i64 goal_) := (S3.cell l2_1).trans c2_7
  have c3_8 : w3.cell? ⟨w.heap.size + 1, 2, none⟩ = some (.slice Ab0 nb0 cb0) := (S3.cell l2_1).trans c2_8
  have c3_9 : w3.cell? ⟨w.heap.size + 1, 3, none⟩ = some (.slice Ab1 nb1 cb1) := (S3.cell l2_1).trans c2_9
  have c3_10 : w3.cell? ⟨w.heap.size + 1, 4, none⟩ = some (.slice Ab2 nb2 cb2) := (S3.cell l2_1).trans c2_10
  have c3_11 : w3.cell? ⟨w.heap.size + 1, 5, none⟩ = some (.slice Ab3 nb3 cb3) := (S3.cell l2_1).trans c2_11
  have l3_0 : w.heap.size < w3.heap.size := World.block_lt_of_cell? _ _ c3_0
  have l3_1 : w.heap.size + 1 < w3.heap.size := World.block_lt_of_cell? _ _ c3_6
  have X3 : Below w.heap.size w w3 := X2.trans (S3.mono X2.size)
  clear c2_0 c2_1 c2_2 c2_3 c2_4 c2_5 c2_6 c2_7 c2_8 c2_9 c2_10 c2_11 l2_0 l2_1 X2 hb3
  clear S3
  go_wp2_with fail
  refine (pfInts_any _ _ _ _ _ _ former_ former_ _ (Hha3.out.below X3) (Hhb3.out.below X3)).mono ?_
  rw [E0]
  rintro e w4 ⟨rfl, hq4⟩
  have hb4 := hq4.nil_below; clear hq4
  have S4 : Below w3.heap.size w3 w4 := hb4
  have c4_0 : w4.cell? ⟨w.heap.size, 0, none⟩ = some (.int .i64 room_) := (S4.cell l3_0).trans c3_0
  have c4_1 : w4.cell? ⟨w.heap.size, 1, none⟩ = some (.int .i64 goal_) := (S4.cell l3_0).trans c3_1
  have c4_2 : w4.cell? ⟨w.heap.size, 2, none⟩ = some (.slice Aa0 na0 ca0) := (S4.cell l3_0).trans c3_2
  have c4_3 : w4.cell? ⟨w.heap.size, 3, none⟩ = some (.slice Aa1 na1 ca1) := (S4.cell l3_0).trans c3_3
  have c4_4 : w4.cell? ⟨w.heap.size, 4, none⟩ = some (.slice Aa2 na2 ca2) := (S4.cell l3_0).trans c3_4
  have c4_5 : w4.cell? ⟨w.heap.size, 5, none⟩ = some (.slice Aa3 na3 ca3) := (S4.cell l3_0).trans c3_5
  have c4_6 : w4.cell? ⟨w.heap.size + 1, 0, none⟩ = some (.int .i64 room_) := (S4.cell l3_1).trans c3_6
  have c4_7 : w4.cell? ⟨w.heap.size + 1, 1, none⟩ = some (.int .i64 goal_) := (S4.cell l3_1).trans c3_7
  have c4_8 : w4.cell? ⟨w.heap.size + 1, 2, none⟩ = some (.slice Ab0 nb0 cb0) := (S4.cell l3_1).trans c3_8
  have c4_9 : w4.cell? ⟨w.heap.size + 1, 3, none⟩ = some (.slice Ab1 nb1 cb1) := (S4.cell l3_1).trans c3_9
  have c4_10 : w4.cell? ⟨w.heap.size + 1, 4, none⟩ = some (.slice Ab2 nb2 cb2) := (S4.cell l3_1).trans c3_10
  have c4_11 : w4.cell? ⟨w.heap.size + 1, 5, none⟩ = some (.slice Ab3 nb3 cb3) := (S4.cell l3_1).trans c3_11
  have l4_0 : w.heap.size < w4.heap.size := World.block_lt_of_cell? _ _ c4_0
  have l4_1 : w.heap.size + 1 < w4.heap.size := World.block_lt_of_cell? _ _ c4_6
  have X4 : Below w.heap.size w w4 := X3.trans (S4.mono X3.size)
  clear c3_0 c3_1 c3_2 c3_3 c3_4 c3_5 c3_6 c3_7 c3_8 c3_9 c3_10 c3_11 l3_0 l3_1 X3 hb4
  clear S4
  go_wp2_with fail
  go_ret
  exact ⟨rfl, X4⟩
end Go.Proofs.Ytfokpjoeankobaa
