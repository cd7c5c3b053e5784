/- Arguments of struct types, opened to data. No condition. -/
import Derived.Test.YtkmkmndcgemnlaaDoorTypes
import Derived.Test.YtkmkmndcgemnlaaDoorChecked
import Derived.Test.YtkmkmndcgemnlaaDoorRows
namespace Go.Proofs.YtkmkmndcgemnlaaDoor
set_option linter.unusedVariables false
set_option linter.unusedSimpArgs false
set_option linter.unnecessarySimpa false
open Go.ChangeShapes Go.WideShapes Go.ChangeAt Go.RowKit







theorem openOp {H : Type} {enc : TypeId × Value → H} {w : World} {base : Nat} {spare : Nat → Bool} {held : Bool} {fuel : Nat} {cs : List Value} {y : DataW H × List MemPlace}
  (h : DataW.trod enc Tryd.prog w base spare held fuel 23 cs = some y) : ∃ x, OpR w 0 w.heap.size cs x ∧ cs.length = 5 := by
  obtain ⟨xs, k, _, _, hl, hxl, hg⟩ := DataW.trod_struct Tryd.underlying23 h
  have hl : cs.length = 5 := hl.trans (by kernel_rfl)
  obtain ⟨v0, v1, v2, v3, v4, rfl⟩ := list5 hl
  clear hl h
  have z0 : Tryd.prog.cellsOf 3 = 1 := by kernel_rfl
  have k0 : DataW.trod enc Tryd.prog w base spare held k 3 (List.take (Tryd.prog.cellsOf 3) (List.drop 0 [v0, v1, v2, v3, v4])) = xs[0]? := hg 0 _ rfl
  rw [z0] at k0
  simp only [List.drop_succ_cons, List.drop_zero, List.take_succ_cons, List.take_zero] at k0
  obtain ⟨y0, g0⟩ : ∃ y, DataW.trod enc Tryd.prog w base spare held k 3 [v0] = some y := ⟨xs[0]'(by rw [hxl]; decide), k0.trans (List.getElem?_eq_getElem _)⟩
  have z1 : Tryd.prog.cellsOf 9 = 1 := by kernel_rfl
  have k1 : DataW.trod enc Tryd.prog w base spare held k 9 (List.take (Tryd.prog.cellsOf 9) (List.drop 1 [v0, v1, v2, v3, v4])) = xs[1]? := hg 1 _ rfl
  rw [z1] at k1
  simp only [List.drop_succ_cons, List.drop_zero, List.take_succ_cons, List.take_zero] at k1
  obtain ⟨y1, g1⟩ : ∃ y, DataW.trod enc Tryd.prog w base spare held k 9 [v1] = some y := ⟨xs[1]'(by rw [hxl]; decide), k1.trans (List.getElem?_eq_getElem _)⟩
  have z2 : Tryd.prog.cellsOf 9 = 1 := by kernel_rfl
  have k2 : DataW.trod enc Tryd.prog w base spare held k 9 (List.take (Tryd.prog.cellsOf 9) (List.drop 2 [v0, v1, v2, v3, v4])) = xs[2]? := hg 2 _ rfl
  rw [z2] at k2
  simp only [List.drop_succ_cons, List.drop_zero, List.take_succ_cons, List.take_zero] at k2
  obtain ⟨y2, g2⟩ : ∃ y, DataW.trod enc Tryd.prog w base spare held k 9 [v2] = some y := ⟨xs[2]'(by rw [hxl]; decide), k2.trans (List.getElem?_eq_getElem _)⟩
  have z3 : Tryd.prog.cellsOf 3 = 1 := by kernel_rfl
  have k3 : DataW.trod enc Tryd.prog w base spare held k 3 (List.take (Tryd.prog.cellsOf 3) (List.drop 3 [v0, v1, v2, v3, v4])) = xs[3]? := hg 3 _ rfl
  rw [z3] at k3
  simp only [List.drop_succ_cons, List.drop_zero, List.take_succ_cons, List.take_zero] at k3
  obtain ⟨y3, g3⟩ : ∃ y, DataW.trod enc Tryd.prog w base spare held k 3 [v3] = some y := ⟨xs[3]'(by rw [hxl]; decide), k3.trans (List.getElem?_eq_getElem _)⟩
  have z4 : Tryd.prog.cellsOf 9 = 1 := by kernel_rfl
  have k4 : DataW.trod enc Tryd.prog w base spare held k 9 (List.take (Tryd.prog.cellsOf 9) (List.drop 4 [v0, v1, v2, v3, v4])) = xs[4]? := hg 4 _ rfl
  rw [z4] at k4
  simp only [List.drop_succ_cons, List.drop_zero, List.take_succ_cons, List.take_zero] at k4
  obtain ⟨y4, g4⟩ : ∃ y, DataW.trod enc Tryd.prog w base spare held k 9 [v4] = some y := ⟨xs[4]'(by rw [hxl]; decide), k4.trans (List.getElem?_eq_getElem _)⟩
  obtain ⟨x0, e0, _⟩ := DataW.trod_int Tryd.underlying3 g0
  obtain rfl : v0 = .int .i64 x0 := by simpa using e0
  obtain ⟨x1, e1, _, m1⟩ := DataW.trod_string Tryd.underlying9 g1
  obtain rfl : v1 = .string x1 := by simpa using e1
  obtain ⟨x2, e2, _, m2⟩ := DataW.trod_string Tryd.underlying9 g2
  obtain rfl : v2 = .string x2 := by simpa using e2
  obtain ⟨x3, e3, _⟩ := DataW.trod_int Tryd.underlying3 g3
  obtain rfl : v3 = .int .i64 x3 := by simpa using e3
  obtain ⟨x4, e4, _, m4⟩ := DataW.trod_string Tryd.underlying9 g4
  obtain rfl : v4 = .string x4 := by simpa using e4
  exact ⟨(x0, x1, x2, x3, x4), ⟨rfl, m1, m2, m4⟩, rfl⟩










theorem openIntent {H : Type} {enc : TypeId × Value → H} {w : World} {base : Nat} {spare : Nat → Bool} {held : Bool} {fuel : Nat} {cs : List Value} {y : DataW H × List MemPlace}
  (h : DataW.trod enc Tryd.prog w base spare held fuel 25 cs = some y) : ∃ x, IntentR w 0 w.heap.size cs x ∧ cs.length = 8 := by
  obtain ⟨xs, k, _, _, hl, hxl, hg⟩ := DataW.trod_struct Tryd.underlying25 h
  have hl : cs.length = 8 := hl.trans (by kernel_rfl)
  obtain ⟨v0, v1, v2, v3, v4, v5, v6, v7, rfl⟩ := list8 hl
  clear hl h
  have z0 : Tryd.prog.cellsOf 3 = 1 := by kernel_rfl
  have k0 : DataW.trod enc Tryd.prog w base spare held k 3 (List.take (Tryd.prog.cellsOf 3) (List.drop 0 [v0, v1, v2, v3, v4, v5, v6, v7])) = xs[0]? := hg 0 _ rfl
  rw [z0] at k0
  simp only [List.drop_succ_cons, List.drop_zero, List.take_succ_cons, List.take_zero] at k0
  obtain ⟨y0, g0⟩ : ∃ y, DataW.trod enc Tryd.prog w base spare held k 3 [v0] = some y := ⟨xs[0]'(by rw [hxl]; decide), k0.trans (List.getElem?_eq_getElem _)⟩
  have z1 : Tryd.prog.cellsOf 3 = 1 := by kernel_rfl
  have k1 : DataW.trod enc Tryd.prog w base spare held k 3 (List.take (Tryd.prog.cellsOf 3) (List.drop 1 [v0, v1, v2, v3, v4, v5, v6, v7])) = xs[1]? := hg 1 _ rfl
  rw [z1] at k1
  simp only [List.drop_succ_cons, List.drop_zero, List.take_succ_cons, List.take_zero] at k1
  obtain ⟨y1, g1⟩ : ∃ y, DataW.trod enc Tryd.prog w base spare held k 3 [v1] = some y := ⟨xs[1]'(by rw [hxl]; decide), k1.trans (List.getElem?_eq_getElem _)⟩
  have z2 : Tryd.prog.cellsOf 9 = 1 := by kernel_rfl
  have k2 : DataW.trod enc Tryd.prog w base spare held k 9 (List.take (Tryd.prog.cellsOf 9) (List.drop 2 [v0, v1, v2, v3, v4, v5, v6, v7])) = xs[2]? := hg 2 _ rfl
  rw [z2] at k2
  simp only [List.drop_succ_cons, List.drop_zero, List.take_succ_cons, List.take_zero] at k2
  obtain ⟨y2, g2⟩ : ∃ y, DataW.trod enc Tryd.prog w base spare held k 9 [v2] = some y := ⟨xs[2]'(by rw [hxl]; decide), k2.trans (List.getElem?_eq_getElem _)⟩
  have z3 : Tryd.prog.cellsOf 23 = 5 := by kernel_rfl
  have k3 : DataW.trod enc Tryd.prog w base spare held k 23 (List.take (Tryd.prog.cellsOf 23) (List.drop 3 [v0, v1, v2, v3, v4, v5, v6, v7])) = xs[3]? := hg 3 _ rfl
  rw [z3] at k3
  simp only [List.drop_succ_cons, List.drop_zero, List.take_succ_cons, List.take_zero] at k3
  obtain ⟨y3, g3⟩ : ∃ y, DataW.trod enc Tryd.prog w base spare held k 23 [v3, v4, v5, v6, v7] = some y := ⟨xs[3]'(by rw [hxl]; decide), k3.trans (List.getElem?_eq_getElem _)⟩
  obtain ⟨x0, e0, _⟩ := DataW.trod_int Tryd.underlying3 g0
  obtain rfl : v0 = .int .i64 x0 := by simpa using e0
  obtain ⟨x1, e1, _⟩ := DataW.trod_int Tryd.underlying3 g1
  obtain rfl : v1 = .int .i64 x1 := by simpa using e1
  obtain ⟨x2, e2, _, m2⟩ := DataW.trod_string Tryd.underlying9 g2
  obtain rfl : v2 = .string x2 := by simpa using e2
  obtain ⟨x3, r3, _⟩ := openOp g3
  obtain ⟨q3, r3_0, r3_1, r3_2⟩ := r3
  simp only [List.cons.injEq, and_true] at q3
  obtain ⟨rfl, rfl, rfl, rfl, rfl⟩ := q3
  exact ⟨(x0, x1, x2, x3), ⟨rfl, m2, r3_0, r3_1, r3_2⟩, rfl⟩


end Go.Proofs.YtkmkmndcgemnlaaDoor
