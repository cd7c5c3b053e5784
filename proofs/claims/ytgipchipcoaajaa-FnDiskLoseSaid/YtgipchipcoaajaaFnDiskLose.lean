/- FnDiskLose: the walk. No condition. -/
import Derived.Test.YtgipchipcoaajaaDiskLose
import Derived.Test.YtgipchipcoaajaaFrame
namespace Go.Proofs.Ytgipchipcoaajaa
set_option linter.unusedVariables false
set_option linter.unusedSimpArgs false
set_option linter.unnecessarySimpa false
open Go.RowKit

theorem lose_facts : diskOk loseD = true ∧ loseD.2.2 = true ∧ loseD.2.1 = [] := ⟨by decide +kernel, rfl, rfl⟩
theorem lose_write (a : Int) (s : ByteArray) : writeD loseD a s = loseD ∧ writeOk loseD a s = false := by
  have h : writeGo loseD a s = false := by simp [writeGo, loseD]
  constructor
  · unfold writeD; rw [if_pos lose_facts.1, h]; rfl
  · unfold writeOk; rw [h, Bool.and_false]
set_option maxRecDepth 100000 in
set_option maxHeartbeats 8000000 in
theorem fnDiskLose_walk (A : Option Addr) (n c : Nat) (zs : List Int) (w : World) (hz : BytesIn w A n c zs) :
    Calls Try.prog 3 #[.slice A n c] w fun e w' => e = .returned (.bool true) ∧ Below w.heap.size w w' := by
  by_cases hn : n ≤ 1048576
  rotate_left
  · have d0 : (1048576 : Int) < (n : Int) := by omega
    go_enter Try.func3, Try.ntmps3
    go_wp2_with fail
    go_ret
    exact ⟨rfl, Below.refl _ _⟩
  have d0 : ¬ (1048576 : Int) < (n : Int) := by omega
  obtain ⟨L, hL⟩ : ∃ L, L = loseD := ⟨_, rfl⟩
  have HL := Lib.hid hL
  have HE1 : Hid (diskOk L = true) := Lib.hid (by rw [hL]; exact lose_facts.1)
  have HE2 : Hid (L.2.2 = true) := Lib.hid (by rw [hL]; exact lose_facts.2.1)
  have HE3 : Hid (L.2.1 = []) := Lib.hid (by rw [hL]; exact lose_facts.2.2)
  have HE4 : Hid (∀ a s, writeD L a s = L) := Lib.hid (by rw [hL]; exact fun a s => (lose_write a s).1)
  have HE5 : Hid (∀ a s, writeOk L a s = false) := Lib.hid (by rw [hL]; exact fun a s => (lose_write a s).2)
  clear hL hz
  go_enter Try.func3, Try.ntmps3
  go_wp2_with fail
  refine (diskLose_any _).mono ?_
  rw [← HL.out]
  rintro e w1 ⟨cs, rfl, hr, hb⟩
  have S1 : Below w.heap.size w w1 := hb
  have X1 : Below w.heap.size w w1 := S1
  clear hb
  clear S1
  have hr2 := hr.r
  obtain ⟨Aa, na, ca, Ba, ma, da, rfl, _, _, _, _⟩ := hr
  have Da_1 := Lib.hid (And.intro (Nat.le_refl w1.heap.size) hr2); clear hr2
  have obDa_1 : w1.heap.size ≤ w1.heap.size := by have := Da_1.out.1; omega
  go_wp2_with fail
  refine (spDiskLose_any _).mono ?_
  rw [← HL.out]
  rintro e w2 ⟨cs, rfl, hr, hb⟩
  have hr : DiskN w2 (w1.heap.size + 1) w2.heap.size cs L := by simpa using hr
  have S2 : Below w1.heap.size w1 w2 := bel1.trans (hb.mono (by simp <;> omega))
  have c2_0 : w2.cell? ⟨w1.heap.size, 0, none⟩ = some (.slice Aa na ca) := (hb.cell (by simp <;> omega)).trans (by simp [go_sem])
  have c2_1 : w2.cell? ⟨w1.heap.size, 1, none⟩ = some (.slice Ba ma da) := (hb.cell (by simp <;> omega)).trans (by simp [go_sem])
  have c2_2 : w2.cell? ⟨w1.heap.size, 2, none⟩ = some (.bool L.2.2) := (hb.cell (by simp <;> omega)).trans (by simp [go_sem])
  have l2_0 : w1.heap.size < w2.heap.size := World.block_lt_of_cell? _ _ c2_0
  have X2 : Below w.heap.size w w2 := X1.trans (S2.mono X1.size)
  have Da_2 : Hid (w1.heap.size ≤ w2.heap.size ∧ DiskR w2 w.heap.size w1.heap.size [.slice Aa na ca, .slice Ba ma da, .bool L.2.2] L) := Lib.hid ⟨Nat.le_trans Da_1.out.1 S2.size, DiskR.below S2 Da_1.out.1 _ _ Da_1.out.2⟩
  clear Da_1 X1 hb
  clear S2
  have hr2 := hr.r
  obtain ⟨Ab, nb, cb, Bb, mb, db, rfl, _, _, _, _⟩ := hr
  have Db_2 := Lib.hid (And.intro (Nat.le_refl w2.heap.size) hr2); clear hr2
  have obDa_2 : w1.heap.size ≤ w2.heap.size := by have := Da_2.out.1; omega
  have obDb_3 : w2.heap.size ≤ w2.heap.size := by have := Db_2.out.1; omega
  go_wp2_with fail
  refine (pfDisk_bare _ _ L _ _ _ _ _ (DiskR.below bel1 Da_2.out.1 _ _ Da_2.out.2) (DiskR.below bel1 Db_2.out.1 _ _ Db_2.out.2) HE3.out).mono ?_
  rintro e w3 ⟨rfl, hb⟩
  have S3 : Below w2.heap.size w2 w3 := bel1.trans (hb.mono (by simp <;> omega))
  have c3_0 : w3.cell? ⟨w1.heap.size, 0, none⟩ = some (.slice Aa na ca) := (S3.cell l2_0).trans c2_0
  have c3_1 : w3.cell? ⟨w1.heap.size, 1, none⟩ = some (.slice Ba ma da) := (S3.cell l2_0).trans c2_1
  have c3_2 : w3.cell? ⟨w1.heap.size, 2, none⟩ = some (.bool L.2.2) := (S3.cell l2_0).trans c2_2
  have c3_3 : w3.cell? ⟨w2.heap.size, 0, none⟩ = some (.slice Ab nb cb) := (hb.cell (by simp <;> omega)).trans (by simp [go_sem])
  have c3_4 : w3.cell? ⟨w2.heap.size, 1, none⟩ = some (.slice Bb mb db) := (hb.cell (by simp <;> omega)).trans (by simp [go_sem])
  have c3_5 : w3.cell? ⟨w2.heap.size, 2, none⟩ = some (.bool L.2.2) := (hb.cell (by simp <;> omega)).trans (by simp [go_sem])
  have l3_0 : w1.heap.size < w3.heap.size := World.block_lt_of_cell? _ _ c3_0
  have l3_1 : w2.heap.size < w3.heap.size := World.block_lt_of_cell? _ _ c3_3
  have X3 : Below w.heap.size w w3 := X2.trans (S3.mono X2.size)
  have Da_3 : Hid (w1.heap.size ≤ w3.heap.size ∧ DiskR w3 w.heap.size w1.heap.size [.slice Aa na ca, .slice Ba ma da, .bool L.2.2] L) := Lib.hid ⟨Nat.le_trans Da_2.out.1 S3.size, DiskR.below S3 Da_2.out.1 _ _ Da_2.out.2⟩
  have Db_3 : Hid (w2.heap.size ≤ w3.heap.size ∧ DiskR w3 (w1.heap.size + 1) w2.heap.size [.slice Ab nb cb, .slice Bb mb db, .bool L.2.2] L) := Lib.hid ⟨Nat.le_trans Db_2.out.1 S3.size, DiskR.below S3 Db_2.out.1 _ _ Db_2.out.2⟩
  clear c2_0 c2_1 c2_2 l2_0 Da_2 Db_2 X2 hb
  clear S3
  go_wp2_with fail
  refine (diskRead_lost _ L _ _ _ _ (DiskR.below (Below.refl _ _) Da_3.out.1 _ _ Da_3.out.2) HE2.out).mono ?_
  rintro e w4 ⟨rfl, hb⟩
  have S4 : Below w3.heap.size w3 w4 := hb
  have c4_0 : w4.cell? ⟨w1.heap.size, 0, none⟩ = some (.slice Aa na ca) := (S4.cell l3_0).trans c3_0
  have c4_1 : w4.cell? ⟨w1.heap.size, 1, none⟩ = some (.slice Ba ma da) := (S4.cell l3_0).trans c3_1
  have c4_2 : w4.cell? ⟨w1.heap.size, 2, none⟩ = some (.bool L.2.2) := (S4.cell l3_0).trans c3_2
  have c4_3 : w4.cell? ⟨w2.heap.size, 0, none⟩ = some (.slice Ab nb cb) := (S4.cell l3_1).trans c3_3
  have c4_4 : w4.cell? ⟨w2.heap.size, 1, none⟩ = some (.slice Bb mb db) := (S4.cell l3_1).trans c3_4
  have c4_5 : w4.cell? ⟨w2.heap.size, 2, none⟩ = some (.bool L.2.2) := (S4.cell l3_1).trans c3_5
  have l4_0 : w1.heap.size < w4.heap.size := World.block_lt_of_cell? _ _ c4_0
  have l4_1 : w2.heap.size < w4.heap.size := World.block_lt_of_cell? _ _ c4_3
  have X4 : Below w.heap.size w w4 := X3.trans (S4.mono X3.size)
  have Da_4 : Hid (w1.heap.size ≤ w4.heap.size ∧ DiskR w4 w.heap.size w1.heap.size [.slice Aa na ca, .slice Ba ma da, .bool L.2.2] L) := Lib.hid ⟨Nat.le_trans Da_3.out.1 S4.size, DiskR.below S4 Da_3.out.1 _ _ Da_3.out.2⟩
  have Db_4 : Hid (w2.heap.size ≤ w4.heap.size ∧ DiskR w4 (w1.heap.size + 1) w2.heap.size [.slice Ab nb cb, .slice Bb mb db, .bool L.2.2] L) := Lib.hid ⟨Nat.le_trans Db_3.out.1 S4.size, DiskR.below S4 Db_3.out.1 _ _ Db_3.out.2⟩
  clear c3_0 c3_1 c3_2 c3_3 c3_4 c3_5 l3_0 l3_1 Da_3 Db_3 X3 hb
  clear S4
  go_wp2_with fail
  refine (diskWrite_any _ L _ _ _ _ _ (DiskR.below (Below.refl _ _) Da_4.out.1 _ _ Da_4.out.2) (by unfold maxLen; decide)).mono ?_
  rw [HE4.out, HE5.out]
  rintro e w5 ⟨cs, rfl, hr, hb⟩
  have hr : DiskN w5 w4.heap.size w5.heap.size cs L := by simpa using hr
  have S5 : Below w4.heap.size w4 w5 := hb
  have c5_0 : w5.cell? ⟨w1.heap.size, 0, none⟩ = some (.slice Aa na ca) := (S5.cell l4_0).trans c4_0
  have c5_1 : w5.cell? ⟨w1.heap.size, 1, none⟩ = some (.slice Ba ma da) := (S5.cell l4_0).trans c4_1
  have c5_2 : w5.cell? ⟨w1.heap.size, 2, none⟩ = some (.bool L.2.2) := (S5.cell l4_0).trans c4_2
  have c5_3 : w5.cell? ⟨w2.heap.size, 0, none⟩ = some (.slice Ab nb cb) := (S5.cell l4_1).trans c4_3
  have c5_4 : w5.cell? ⟨w2.heap.size, 1, none⟩ = some (.slice Bb mb db) := (S5.cell l4_1).trans c4_4
  have c5_5 : w5.cell? ⟨w2.heap.size, 2, none⟩ = some (.bool L.2.2) := (S5.cell l4_1).trans c4_5
  have l5_0 : w1.heap.size < w5.heap.size := World.block_lt_of_cell? _ _ c5_0
  have l5_1 : w2.heap.size < w5.heap.size := World.block_lt_of_cell? _ _ c5_3
  have X5 : Below w.heap.size w w5 := X4.trans (S5.mono X4.size)
  have Da_5 : Hid (w1.heap.size ≤ w5.heap.size ∧ DiskR w5 w.heap.size w1.heap.size [.slice Aa na ca, .slice Ba ma da, .bool L.2.2] L) := Lib.hid ⟨Nat.le_trans Da_4.out.1 S5.size, DiskR.below S5 Da_4.out.1 _ _ Da_4.out.2⟩
  have Db_5 : Hid (w2.heap.size ≤ w5.heap.size ∧ DiskR w5 (w1.heap.size + 1) w2.heap.size [.slice Ab nb cb, .slice Bb mb db, .bool L.2.2] L) := Lib.hid ⟨Nat.le_trans Db_4.out.1 S5.size, DiskR.below S5 Db_4.out.1 _ _ Db_4.out.2⟩
  clear c4_0 c4_1 c4_2 c4_3 c4_4 c4_5 l4_0 l4_1 Da_4 Db_4 X4 hb
  clear S5
  have hr2 := hr.r
  obtain ⟨Ag, ng, cg, Bg, mg, dg, rfl, _, _, _, _⟩ := hr
  have Dg_5 := Lib.hid (And.intro (Nat.le_refl w5.heap.size) hr2); clear hr2
  have obDa_4 : w1.heap.size ≤ w5.heap.size := by have := Da_5.out.1; omega
  have obDb_5 : w2.heap.size ≤ w5.heap.size := by have := Db_5.out.1; omega
  have obDg_6 : w5.heap.size ≤ w5.heap.size := by have := Dg_5.out.1; omega
  go_wp2_with fail
  refine (diskOk_any _ L _ _ _ (DiskR.below bel1 Da_5.out.1 _ _ Da_5.out.2)).mono ?_
  rw [HE1.out]
  rintro e w6 ⟨rfl, hb⟩
  have S6 : Below w5.heap.size w5 w6 := bel1.trans (hb.mono (by simp <;> omega))
  have c6_0 : w6.cell? ⟨w1.heap.size, 0, none⟩ = some (.slice Aa na ca) := (S6.cell l5_0).trans c5_0
  have c6_1 : w6.cell? ⟨w1.heap.size, 1, none⟩ = some (.slice Ba ma da) := (S6.cell l5_0).trans c5_1
  have c6_2 : w6.cell? ⟨w1.heap.size, 2, none⟩ = some (.bool L.2.2) := (S6.cell l5_0).trans c5_2
  have c6_3 : w6.cell? ⟨w2.heap.size, 0, none⟩ = some (.slice Ab nb cb) := (S6.cell l5_1).trans c5_3
  have c6_4 : w6.cell? ⟨w2.heap.size, 1, none⟩ = some (.slice Bb mb db) := (S6.cell l5_1).trans c5_4
  have c6_5 : w6.cell? ⟨w2.heap.size, 2, none⟩ = some (.bool L.2.2) := (S6.cell l5_1).trans c5_5
  have c6_6 : w6.cell? ⟨w5.heap.size, 0, none⟩ = some (.slice Ag ng cg) := (hb.cell (by simp <;> omega)).trans (by simp [go_sem])
  have c6_7 : w6.cell? ⟨w5.heap.size, 1, none⟩ = some (.slice Bg mg dg) := (hb.cell (by simp <;> omega)).trans (by simp [go_sem])
  have c6_8 : w6.cell? ⟨w5.heap.size, 2, none⟩ = some (.bool L.2.2) := (hb.cell (by simp <;> omega)).trans (by simp [go_sem])
  have l6_0 : w1.heap.size < w6.heap.size := World.block_lt_of_cell? _ _ c6_0
  have l6_1 : w2.heap.size < w6.heap.size := World.block_lt_of_cell? _ _ c6_3
  have l6_2 : w5.heap.size < w6.heap.size := World.block_lt_of_cell? _ _ c6_6
  have X6 : Below w.heap.size w w6 := X5.trans (S6.mono X5.size)
  have Da_6 : Hid (w1.heap.size ≤ w6.heap.size ∧ DiskR w6 w.heap.size w1.heap.size [.slice Aa na ca, .slice Ba ma da, .bool L.2.2] L) := Lib.hid ⟨Nat.le_trans Da_5.out.1 S6.size, DiskR.below S6 Da_5.out.1 _ _ Da_5.out.2⟩
  have Db_6 : Hid (w2.heap.size ≤ w6.heap.size ∧ DiskR w6 (w1.heap.size + 1) w2.heap.size [.slice Ab nb cb, .slice Bb mb db, .bool L.2.2] L) := Lib.hid ⟨Nat.le_trans Db_5.out.1 S6.size, DiskR.below S6 Db_5.out.1 _ _ Db_5.out.2⟩
  have Dg_6 : Hid (w5.heap.size ≤ w6.heap.size ∧ DiskR w6 w4.heap.size w5.heap.size [.slice Ag ng cg, .slice Bg mg dg, .bool L.2.2] L) := Lib.hid ⟨Nat.le_trans Dg_5.out.1 S6.size, DiskR.below S6 Dg_5.out.1 _ _ Dg_5.out.2⟩
  clear c5_0 c5_1 c5_2 c5_3 c5_4 c5_5 l5_0 l5_1 Da_5 Db_5 Dg_5 X5 hb
  clear S6
  go_wp2_with fail
  refine (pfDisk_bare _ _ L _ _ _ _ _ (DiskR.below (Below.refl _ _) Dg_6.out.1 _ _ Dg_6.out.2) (DiskR.below (Below.refl _ _) Da_6.out.1 _ _ Da_6.out.2) HE3.out).mono ?_
  rintro e w7 ⟨rfl, hb⟩
  have S7 : Below w6.heap.size w6 w7 := hb
  have c7_0 : w7.cell? ⟨w1.heap.size, 0, none⟩ = some (.slice Aa na ca) := (S7.cell l6_0).trans c6_0
  have c7_1 : w7.cell? ⟨w1.heap.size, 1, none⟩ = some (.slice Ba ma da) := (S7.cell l6_0).trans c6_1
  have c7_2 : w7.cell? ⟨w1.heap.size, 2, none⟩ = some (.bool L.2.2) := (S7.cell l6_0).trans c6_2
  have c7_3 : w7.cell? ⟨w2.heap.size, 0, none⟩ = some (.slice Ab nb cb) := (S7.cell l6_1).trans c6_3
  have c7_4 : w7.cell? ⟨w2.heap.size, 1, none⟩ = some (.slice Bb mb db) := (S7.cell l6_1).trans c6_4
  have c7_5 : w7.cell? ⟨w2.heap.size, 2, none⟩ = some (.bool L.2.2) := (S7.cell l6_1).trans c6_5
  have c7_6 : w7.cell? ⟨w5.heap.size, 0, none⟩ = some (.slice Ag ng cg) := (S7.cell l6_2).trans c6_6
  have c7_7 : w7.cell? ⟨w5.heap.size, 1, none⟩ = some (.slice Bg mg dg) := (S7.cell l6_2).trans c6_7
  have c7_8 : w7.cell? ⟨w5.heap.size, 2, none⟩ = some (.bool L.2.2) := (S7.cell l6_2).trans c6_8
  have l7_0 : w1.heap.size < w7.heap.size := World.block_lt_of_cell? _ _ c7_0
  have l7_1 : w2.heap.size < w7.heap.size := World.block_lt_of_cell? _ _ c7_3
  have l7_2 : w5.heap.size < w7.heap.size := World.block_lt_of_cell? _ _ c7_6
  have X7 : Below w.heap.size w w7 := X6.trans (S7.mono X6.size)
  have Da_7 : Hid (w1.heap.size ≤ w7.heap.size ∧ DiskR w7 w.heap.size w1.heap.size [.slice Aa na ca, .slice Ba ma da, .bool L.2.2] L) := Lib.hid ⟨Nat.le_trans Da_6.out.1 S7.size, DiskR.below S7 Da_6.out.1 _ _ Da_6.out.2⟩
  have Db_7 : Hid (w2.heap.size ≤ w7.heap.size ∧ DiskR w7 (w1.heap.size + 1) w2.heap.size [.slice Ab nb cb, .slice Bb mb db, .bool L.2.2] L) := Lib.hid ⟨Nat.le_trans Db_6.out.1 S7.size, DiskR.below S7 Db_6.out.1 _ _ Db_6.out.2⟩
  have Dg_7 : Hid (w5.heap.size ≤ w7.heap.size ∧ DiskR w7 w4.heap.size w5.heap.size [.slice Ag ng cg, .slice Bg mg dg, .bool L.2.2] L) := Lib.hid ⟨Nat.le_trans Dg_6.out.1 S7.size, DiskR.below S7 Dg_6.out.1 _ _ Dg_6.out.2⟩
  clear c6_0 c6_1 c6_2 c6_3 c6_4 c6_5 c6_6 c6_7 c6_8 l6_0 l6_1 l6_2 Da_6 Db_6 Dg_6 X6 hb
  clear S7
  go_wp2_with fail
  go_ret
  exact ⟨rfl, X7⟩
end Go.Proofs.Ytgipchipcoaajaa
