/- FnCacheNew: the walk. No condition. -/
import Derived.Test.YtodibogijnjlaaaPfCache
import Derived.Test.YtodibogijnjlaaaRd
namespace Go.Proofs.Ytodibogijnjlaaa
set_option linter.unusedVariables false
set_option linter.unusedSimpArgs false
set_option linter.unnecessarySimpa false
open Go.RowKit
/-- A drawn number. -/
def DrawnInt (lo hi : Int) (w : World) (e : Ending) (w' : World) : Prop := ∃ x : Int, e = .returned (.int .i64 x) ∧ lo ≤ x ∧ x ≤ hi ∧ Below w.heap.size w w'
set_option maxRecDepth 100000 in
set_option maxHeartbeats 2000000 in
theorem drawCacheNew_any (A : Option Addr) (n c : Nat) (zs : List Int) (w : World) (h : BytesIn w A n c zs) : Calls Try.prog 21 #[.slice A n c] w (DrawnInt (-1) 9 w) := by
  go_enter Try.func21, Try.ntmps21
  go_wp2_with fail
  refine (l6Open_any A n c zs _ h).mono ?_
  rintro e w1 ⟨m, c', ys, rfl, hr, hb1⟩
  have hp1 := hr.2.2.2.1
  go_wp2_with fail
  refine (pick_any w1 _ A m c' ys 0 11 hr (by omega) (by omega) (by omega)).mono ?_
  rintro e w2 ⟨r, rfl, hr2, rd2, hc2, hz2⟩
  have hr2 := hr2 (by omega)
  have r0 : (0 : Int) ≤ (r : Int) := by omega
  go_wp2_with fail
  go_ret
  exact ⟨_, rfl, by omega, by omega, hb1.trans (hc2.below (fun k _ hk => by simp at hk; omega) hb1.size)⟩
theorem cacheNew_ok {x : Int} (h : inB x 1 8 = true) : cacheOkB (roomOf x, 0, [], [], [], []) = true ∧ roomOf x = x ∧ ∀ row, cacheHasB (roomOf x, 0, [], [], [], []) row = false := by
  have hx : 1 ≤ x ∧ x ≤ 8 := by unfold inB at h; simpa using h
  have hr : roomOf x = x := by unfold roomOf; rw [if_pos h]
  refine ⟨?_, hr, fun row => ?_⟩
  · rw [hr]
    unfold cacheOkB
    simp only [h, List.length_nil, List.append_nil]
    rw [inB_yes (by omega), rowsOk_yes (fun i hi => absurd hi (by simp))]
    simp; omega
  · unfold cacheHasB
    have : ∀ v, hasI [] v = false := fun v => by unfold hasI; simp
    simp [this]
set_option maxRecDepth 100000 in
set_option maxHeartbeats 4000000 in
theorem fnCacheNew_walk (A : Option Addr) (n c : Nat) (zs : List Int) (w : World) (hz : BytesIn w A n c zs) :
    Calls Try.prog 5 #[.slice A n c] w fun e w' => e = .returned (.bool true) ∧ Below w.heap.size w w' := by
  by_cases hn : n ≤ 1048576
  rotate_left
  · go_enter Try.func5, Try.ntmps5
    go_wp2_with fail
    go_ret
    exact ⟨rfl, Below.refl _ _⟩
  go_enter Try.func5, Try.ntmps5
  go_wp2_with fail
  refine (drawCacheNew_any A n c zs _ hz).mono ?_
  rintro e w1 ⟨x, rfl, hx1, hx9, hb1⟩
  have S1 : Below w.heap.size w w1 := hb1
  have X1 : Below w.heap.size w w1 := S1
  clear hb1
  clear S1
  go_wp2_with fail
  have HN := Lib.hid (cacheNew_ok (x := x))
  have R1 := Lib.hid (cacheNew_any x); have R2 := Lib.hid (spCacheNew_any x)
  refine (R1.out _).mono ?_
  rintro e w2 ⟨rfl, hb2⟩
  have S2 : Below w1.heap.size w1 w2 := hb2
  have X2 : Below w.heap.size w w2 := X1.trans (S2.mono X1.size)
  clear X1 hb2
  clear S2
  go_wp2_with fail
  refine (R2.out _).mono ?_
  rintro e w3 ⟨B0, B1, B2, B3, rfl, hb3⟩
  have S3 : Below w2.heap.size w2 w3 := bel1.trans (hb3.mono (by simp <;> omega))
  have c3_0 : w3.cell? ⟨w2.heap.size, 0, none⟩ = some (.int .i64 (roomOf x)) := (hb3.cell (by simp <;> omega)).trans (by simp [go_sem])
  have c3_1 : w3.cell? ⟨w2.heap.size, 1, none⟩ = some (.int .i64 0) := (hb3.cell (by simp <;> omega)).trans (by simp [go_sem])
  have c3_2 : w3.cell? ⟨w2.heap.size, 2, none⟩ = some (.slice none 0 0) := (hb3.cell (by simp <;> omega)).trans (by simp [go_sem])
  have c3_3 : w3.cell? ⟨w2.heap.size, 3, none⟩ = some (.slice none 0 0) := (hb3.cell (by simp <;> omega)).trans (by simp [go_sem])
  have c3_4 : w3.cell? ⟨w2.heap.size, 4, none⟩ = some (.slice none 0 0) := (hb3.cell (by simp <;> omega)).trans (by simp [go_sem])
  have c3_5 : w3.cell? ⟨w2.heap.size, 5, none⟩ = some (.slice none 0 0) := (hb3.cell (by simp <;> omega)).trans (by simp [go_sem])
  have l3_0 : w2.heap.size < w3.heap.size := World.block_lt_of_cell? _ _ c3_0
  have X3 : Below w.heap.size w w3 := X2.trans (S3.mono X2.size)
  clear X2 hb3
  clear S3
  go_wp2_with fail
  refine (pfCache_yes [.int .i64 (roomOf x), .int .i64 0, .slice none 0 0, .slice none 0 0, .slice none 0 0, .slice none 0 0] [.int .i64 (roomOf x), .int .i64 0, .slice B0 0 0, .slice B1 0 0, .slice B2 0 0, .slice B3 0 0] (roomOf x, 0, [], [], [], []) _ 0 0 0 0 noCache noCache).mono ?_
  rintro e w4 ⟨rfl, hb4⟩
  have S4 : Below w3.heap.size w3 w4 := bel1.trans (hb4.mono (by simp <;> omega))
  have c4_0 : w4.cell? ⟨w2.heap.size, 0, none⟩ = some (.int .i64 (roomOf x)) := (S4.cell l3_0).trans c3_0
  have c4_1 : w4.cell? ⟨w2.heap.size, 1, none⟩ = some (.int .i64 0) := (S4.cell l3_0).trans c3_1
  have c4_2 : w4.cell? ⟨w2.heap.size, 2, none⟩ = some (.slice none 0 0) := (S4.cell l3_0).trans c3_2
  have c4_3 : w4.cell? ⟨w2.heap.size, 3, none⟩ = some (.slice none 0 0) := (S4.cell l3_0).trans c3_3
  have c4_4 : w4.cell? ⟨w2.heap.size, 4, none⟩ = some (.slice none 0 0) := (S4.cell l3_0).trans c3_4
  have c4_5 : w4.cell? ⟨w2.heap.size, 5, none⟩ = some (.slice none 0 0) := (S4.cell l3_0).trans c3_5
  have c4_6 : w4.cell? ⟨w3.heap.size, 0, none⟩ = some (.int .i64 (roomOf x)) := (hb4.cell (by simp <;> omega)).trans (by simp [go_sem])
  have c4_7 : w4.cell? ⟨w3.heap.size, 1, none⟩ = some (.int .i64 0) := (hb4.cell (by simp <;> omega)).trans (by simp [go_sem])
  have c4_8 : w4.cell? ⟨w3.heap.size, 2, none⟩ = some (.slice B0 0 0) := (hb4.cell (by simp <;> omega)).trans (by simp [go_sem])
  have c4_9 : w4.cell? ⟨w3.heap.size, 3, none⟩ = some (.slice B1 0 0) := (hb4.cell (by simp <;> omega)).trans (by simp [go_sem])
  have c4_10 : w4.cell? ⟨w3.heap.size, 4, none⟩ = some (.slice B2 0 0) := (hb4.cell (by simp <;> omega)).trans (by simp [go_sem])
  have c4_11 : w4.cell? ⟨w3.heap.size, 5, none⟩ = some (.slice B3 0 0) := (hb4.cell (by simp <;> omega)).trans (by simp [go_sem])
  have l4_0 : w2.heap.size < w4.heap.size := World.block_lt_of_cell? _ _ c4_0
  have l4_1 : w3.heap.size < w4.heap.size := World.block_lt_of_cell? _ _ c4_6
  have X4 : Below w.heap.size w w4 := X3.trans (S4.mono X3.size)
  clear c3_0 c3_1 c3_2 c3_3 c3_4 c3_5 l3_0 X3 hb4
  clear S4
  cases hok : inB x 1 8
  · go_wp2_with fail
    go_ret
    exact ⟨rfl, X4⟩
  have HP := Lib.hid (HN.out hok)
  have HX : Hid (roomOf x = x) := Lib.hid HP.out.2.1
  go_wp2_with fail
  refine (cacheOk_any [.int .i64 (roomOf x), .int .i64 0, .slice none 0 0, .slice none 0 0, .slice none 0 0, .slice none 0 0] (roomOf x, 0, [], [], [], []) _ 0 0 noCache (by simp [sizeCache])).mono ?_
  rintro e w5 ⟨rfl, hb5⟩
  have S5 : Below w4.heap.size w4 w5 := hb5
  have c5_0 : w5.cell? ⟨w2.heap.size, 0, none⟩ = some (.int .i64 (roomOf x)) := (S5.cell l4_0).trans c4_0
  have c5_1 : w5.cell? ⟨w2.heap.size, 1, none⟩ = some (.int .i64 0) := (S5.cell l4_0).trans c4_1
  have c5_2 : w5.cell? ⟨w2.heap.size, 2, none⟩ = some (.slice none 0 0) := (S5.cell l4_0).trans c4_2
  have c5_3 : w5.cell? ⟨w2.heap.size, 3, none⟩ = some (.slice none 0 0) := (S5.cell l4_0).trans c4_3
  have c5_4 : w5.cell? ⟨w2.heap.size, 4, none⟩ = some (.slice none 0 0) := (S5.cell l4_0).trans c4_4
  have c5_5 : w5.cell? ⟨w2.heap.size, 5, none⟩ = some (.slice none 0 0) := (S5.cell l4_0).trans c4_5
  have c5_6 : w5.cell? ⟨w3.heap.size, 0, none⟩ = some (.int .i64 (roomOf x)) := (S5.cell l4_1).trans c4_6
  have c5_7 : w5.cell? ⟨w3.heap.size, 1, none⟩ = some (.int .i64 0) := (S5.cell l4_1).trans c4_7
  have c5_8 : w5.cell? ⟨w3.heap.size, 2, none⟩ = some (.slice B0 0 0) := (S5.cell l4_1).trans c4_8
  have c5_9 : w5.cell? ⟨w3.heap.size, 3, none⟩ = some (.slice B1 0 0) := (S5.cell l4_1).trans c4_9
  have c5_10 : w5.cell? ⟨w3.heap.size, 4, none⟩ = some (.slice B2 0 0) := (S5.cell l4_1).trans c4_10
  have c5_11 : w5.cell? ⟨w3.heap.size, 5, none⟩ = some (.slice B3 0 0) := (S5.cell l4_1).trans c4_11
  have l5_0 : w2.heap.size < w5.heap.size := World.block_lt_of_cell? _ _ c5_0
  have l5_1 : w3.heap.size < w5.heap.size := World.block_lt_of_cell? _ _ c5_6
  have X5 : Below w.heap.size w w5 := X4.trans (S5.mono X4.size)
  clear c4_0 c4_1 c4_2 c4_3 c4_4 c4_5 c4_6 c4_7 c4_8 c4_9 c4_10 c4_11 l4_0 l4_1 X4 hb5
  clear S5
  rw [HP.out.1]
  have HH := Lib.hid (fun row w => cacheHas_any [.int .i64 (roomOf x), .int .i64 0, .slice none 0 0, .slice none 0 0, .slice none 0 0, .slice none 0 0] (roomOf x, 0, [], [], [], []) row w 0 0 noCache (by simp [sizeCache]))
  go_wp2_with fail
  refine (HH.out _ _).mono ?_
  rintro e w6 ⟨rfl, hb6⟩
  have S6 : Below w5.heap.size w5 w6 := hb6
  have c6_0 : w6.cell? ⟨w2.heap.size, 0, none⟩ = some (.int .i64 (roomOf x)) := (S6.cell l5_0).trans c5_0
  have c6_1 : w6.cell? ⟨w2.heap.size, 1, none⟩ = some (.int .i64 0) := (S6.cell l5_0).trans c5_1
  have c6_2 : w6.cell? ⟨w2.heap.size, 2, none⟩ = some (.slice none 0 0) := (S6.cell l5_0).trans c5_2
  have c6_3 : w6.cell? ⟨w2.heap.size, 3, none⟩ = some (.slice none 0 0) := (S6.cell l5_0).trans c5_3
  have c6_4 : w6.cell? ⟨w2.heap.size, 4, none⟩ = some (.slice none 0 0) := (S6.cell l5_0).trans c5_4
  have c6_5 : w6.cell? ⟨w2.heap.size, 5, none⟩ = some (.slice none 0 0) := (S6.cell l5_0).trans c5_5
  have c6_6 : w6.cell? ⟨w3.heap.size, 0, none⟩ = some (.int .i64 (roomOf x)) := (S6.cell l5_1).trans c5_6
  have c6_7 : w6.cell? ⟨w3.heap.size, 1, none⟩ = some (.int .i64 0) := (S6.cell l5_1).trans c5_7
  have c6_8 : w6.cell? ⟨w3.heap.size, 2, none⟩ = some (.slice B0 0 0) := (S6.cell l5_1).trans c5_8
  have c6_9 : w6.cell? ⟨w3.heap.size, 3, none⟩ = some (.slice B1 0 0) := (S6.cell l5_1).trans c5_9
  have c6_10 : w6.cell? ⟨w3.heap.size, 4, none⟩ = some (.slice B2 0 0) := (S6.cell l5_1).trans c5_10
  have c6_11 : w6.cell? ⟨w3.heap.size, 5, none⟩ = some (.slice B3 0 0) := (S6.cell l5_1).trans c5_11
  have l6_0 : w2.heap.size < w6.heap.size := World.block_lt_of_cell? _ _ c6_0
  have l6_1 : w3.heap.size < w6.heap.size := World.block_lt_of_cell? _ _ c6_6
  have X6 : Below w.heap.size w w6 := X5.trans (S6.mono X5.size)
  clear c5_0 c5_1 c5_2 c5_3 c5_4 c5_5 c5_6 c5_7 c5_8 c5_9 c5_10 c5_11 l5_0 l5_1 X5 hb6
  clear S6
  rw [HP.out.2.2]
  go_wp2_with fail
  go_ret
  exact ⟨ret_bool (by rw [HX.out]; simp), X6⟩
end Go.Proofs.Ytodibogijnjlaaa
