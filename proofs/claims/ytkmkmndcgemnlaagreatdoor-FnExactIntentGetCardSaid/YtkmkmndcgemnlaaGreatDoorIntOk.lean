/- IntentOk of the program and of the reference. Condition: the library's length lies in memory. -/
import Derived.Test.YtkmkmndcgemnlaaGreatDoorOpOk2
namespace Go.Proofs.YtkmkmndcgemnlaaGreatDoor
set_option linter.unusedVariables false
set_option linter.unusedSimpArgs false
set_option linter.unnecessarySimpa false
open Go Go.Lib Go.RowKit

theorem intB_eq (g q : Int) (h : Str) (o : OpS) : intB (g, q, h, o) = (inB g 1 900 && (inB q 1 4 && (namB h && opB o))) := rfl
set_option maxRecDepth 100000 in
set_option maxHeartbeats 4000000 in
theorem spIntOk_any (g q : Int) (h : Str) (kd : Int) (p t : Str) (a : Int) (x : Str) (w : World) (hh : h.length ≤ 3000000000) (hp : p.length ≤ 3000000000) (ht : t.length ≤ 3000000000) (hx : x.length ≤ 3000000000) : Calls Tryz.prog 37 #[.agg #[.int .i64 g, .int .i64 q, .string (strB h), .int .i64 kd, .string (strB p), .string (strB t), .int .i64 a, .string (strB x)]] w fun e w' => e = .returned (.bool (intB (g, q, h, kd, p, t, a, x))) ∧ Below w.heap.size w w' := by
  have HRES := Lib.hid (intB_eq g q h (kd, p, t, a, x))
  generalize intB (g, q, h, kd, p, t, a, x) = res at *
  go_enter Tryz.func37, Tryz.ntmps37
  go_wp2_with fail
  refine (l6In_any g 1 900 _).mono ?_
  obtain ⟨b1, hb1⟩ : ∃ b, b = inB g 1 900 := ⟨_, rfl⟩
  rw [← hb1]
  have B1 := Lib.hid hb1; clear hb1
  rintro e w' ⟨rfl, rfl⟩
  cases b1
  · have HF := Lib.hid (show res = false by rw [HRES.out]; simp [B1.out.symm])
    go_wp2_with fail
    go_ret
    exact ⟨ret_bool HF.out.symm, bel1⟩
  go_wp2_with fail
  refine (l6In_any q 1 4 _).mono ?_
  obtain ⟨b2, hb2⟩ : ∃ b, b = inB q 1 4 := ⟨_, rfl⟩
  rw [← hb2]
  have B2 := Lib.hid hb2; clear hb2
  rintro e w' ⟨rfl, rfl⟩
  cases b2
  · have HF := Lib.hid (show res = false by rw [HRES.out]; simp [B1.out.symm, B2.out.symm])
    go_wp2_with fail
    go_ret
    exact ⟨ret_bool HF.out.symm, bel1⟩
  go_wp2_with fail
  refine (spNameOk_any h _ (by omega)).mono ?_
  obtain ⟨b3, hb3⟩ : ∃ b, b = namB h := ⟨_, rfl⟩
  rw [← hb3]
  have B3 := Lib.hid hb3; clear hb3
  rintro e w' ⟨rfl, rfl⟩
  cases b3
  · have HF := Lib.hid (show res = false by rw [HRES.out]; simp [B1.out.symm, B2.out.symm, B3.out.symm])
    go_wp2_with fail
    go_ret
    exact ⟨ret_bool HF.out.symm, bel1⟩
  go_wp2_with fail
  refine (spOpOk_any kd p t a x _ hp ht hx).mono ?_
  obtain ⟨b4, hb4⟩ : ∃ b, b = opB (kd, p, t, a, x) := ⟨_, rfl⟩
  rw [← hb4]
  have HF := Lib.hid (show res = b4 by rw [HRES.out, hb4]; simp [B1.out.symm, B2.out.symm, B3.out.symm])
  clear hb4
  rintro e w2 ⟨rfl, hb2⟩
  have HB2 := Lib.hid (Below.trans bel1 (hb2.mono (by first | exact (bel1).size | simp)))
  clear hb2
  go_wp2_with fail
  go_ret
  exact ⟨ret_bool HF.out.symm, HB2.out⟩
set_option maxRecDepth 100000 in
set_option maxHeartbeats 4000000 in
theorem intOk_any (g q : Int) (h : Str) (kd : Int) (p t : Str) (a : Int) (x : Str) (w : World) (hm : MLen w) (hh : h.length ≤ 3000000000) (hp : p.length ≤ 3000000000) (ht : t.length ≤ 3000000000) (hx : x.length ≤ 3000000000) : Calls Tryz.prog 16 #[.agg #[.int .i64 g, .int .i64 q, .string (strB h), .int .i64 kd, .string (strB p), .string (strB t), .int .i64 a, .string (strB x)]] w fun e w' => e = .returned (.bool (intB (g, q, h, kd, p, t, a, x))) ∧ Below w.heap.size w w' := by
  have HRES := Lib.hid (intB_eq g q h (kd, p, t, a, x))
  generalize intB (g, q, h, kd, p, t, a, x) = res at *
  go_enter Tryz.func16, Tryz.ntmps16
  go_wp2_with fail
  refine (within_any g 1 900 _).mono ?_
  obtain ⟨b1, hb1⟩ : ∃ b, b = inB g 1 900 := ⟨_, rfl⟩
  rw [← hb1]
  have B1 := Lib.hid hb1; clear hb1
  rintro e w' ⟨rfl, rfl⟩
  cases b1
  · have HF := Lib.hid (show res = false by rw [HRES.out]; simp [B1.out.symm])
    go_wp2_with fail
    go_ret
    exact ⟨ret_bool HF.out.symm, bel1⟩
  go_wp2_with fail
  refine (within_any q 1 4 _).mono ?_
  obtain ⟨b2, hb2⟩ : ∃ b, b = inB q 1 4 := ⟨_, rfl⟩
  rw [← hb2]
  have B2 := Lib.hid hb2; clear hb2
  rintro e w' ⟨rfl, rfl⟩
  cases b2
  · have HF := Lib.hid (show res = false by rw [HRES.out]; simp [B1.out.symm, B2.out.symm])
    go_wp2_with fail
    go_ret
    exact ⟨ret_bool HF.out.symm, bel1⟩
  go_wp2_with fail
  refine (nameOk_any h _).mono ?_
  obtain ⟨b3, hb3⟩ : ∃ b, b = namB h := ⟨_, rfl⟩
  rw [← hb3]
  have B3 := Lib.hid hb3; clear hb3
  rintro e w1 ⟨rfl, hb1⟩
  have HB1 := Lib.hid (bel1.trans (hb1.mono (by simp)))
  have c1_0 : w1.cell? ⟨w.heap.size, 0, none⟩ = some (.int .i64 g) := (hb1.cell (by simp)).trans (by simp [go_sem])
  have c1_1 : w1.cell? ⟨w.heap.size, 1, none⟩ = some (.int .i64 q) := (hb1.cell (by simp)).trans (by simp [go_sem])
  have c1_2 : w1.cell? ⟨w.heap.size, 2, none⟩ = some (.string (strB h)) := (hb1.cell (by simp)).trans (by simp [go_sem])
  have c1_3 : w1.cell? ⟨w.heap.size, 3, none⟩ = some (.int .i64 kd) := (hb1.cell (by simp)).trans (by simp [go_sem])
  have c1_4 : w1.cell? ⟨w.heap.size, 4, none⟩ = some (.string (strB p)) := (hb1.cell (by simp)).trans (by simp [go_sem])
  have c1_5 : w1.cell? ⟨w.heap.size, 5, none⟩ = some (.string (strB t)) := (hb1.cell (by simp)).trans (by simp [go_sem])
  have c1_6 : w1.cell? ⟨w.heap.size, 6, none⟩ = some (.int .i64 a) := (hb1.cell (by simp)).trans (by simp [go_sem])
  have c1_7 : w1.cell? ⟨w.heap.size, 7, none⟩ = some (.string (strB x)) := (hb1.cell (by simp)).trans (by simp [go_sem])
  have l1 : w.heap.size < w1.heap.size := World.block_lt_of_cell? w1 _ c1_0
  clear hb1
  cases b3
  · have HF := Lib.hid (show res = false by rw [HRES.out]; simp [B1.out.symm, B2.out.symm, B3.out.symm])
    go_wp2_with fail
    go_ret
    exact ⟨ret_bool HF.out.symm, HB1.out⟩
  go_wp2_with fail
  refine (opOk_any kd p t a x w1 (hm.below HB1.out) hp ht hx).mono ?_
  obtain ⟨b4, hb4⟩ : ∃ b, b = opB (kd, p, t, a, x) := ⟨_, rfl⟩
  rw [← hb4]
  have HF := Lib.hid (show res = b4 by rw [HRES.out, hb4]; simp [B1.out.symm, B2.out.symm, B3.out.symm])
  clear hb4
  rintro e w2 ⟨rfl, hb2⟩
  have HB2 := Lib.hid (Below.trans HB1.out (hb2.mono (by first | exact (HB1.out).size | simp)))
  clear hb2
  go_wp2_with fail
  go_ret
  exact ⟨ret_bool HF.out.symm, HB2.out⟩
end Go.Proofs.YtkmkmndcgemnlaaGreatDoor
