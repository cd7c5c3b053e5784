/- Arguments of struct types, opened to data. No condition. -/
import Derived.Test.YtlacpcdbgimnmaaDoorTypes
import Derived.Test.YtlacpcdbgimnmaaDoorChecked
import Derived.Test.YtlacpcdbgimnmaaDoorRows
namespace Go.Proofs.YtlacpcdbgimnmaaDoor
set_option linter.unusedVariables false
set_option linter.unusedSimpArgs false
set_option linter.unnecessarySimpa false
open Go.ChangeShapes Go.WideShapes Go.ChangeAt Go.RowKit

theorem openPtr {H : Type} {enc : TypeId × Value → H} {w : World} {base : Nat} {spare : Nat → Bool} {held : Bool} {fuel : Nat} {cs : List Value} {y : DataW H × List MemPlace}
  (h : DataW.trod enc Tryd.prog w base spare held fuel 61 cs = some y) : ∃ x, PtrR w 0 w.heap.size cs x ∧ cs.length = 5 := by
  obtain ⟨xs, k, _, _, hl, hxl, hg⟩ := DataW.trod_struct Tryd.underlying61 h
  have hl : cs.length = 5 := hl.trans (by kernel_rfl)
  obtain ⟨v0, v1, v2, v3, v4, rfl⟩ := list5 hl
  clear hl h
  have z0 : Tryd.prog.cellsOf 3 = 1 := by kernel_rfl
  have k0 : DataW.trod enc Tryd.prog w base spare held k 3 (List.take (Tryd.prog.cellsOf 3) (List.drop 0 [v0, v1, v2, v3, v4])) = xs[0]? := hg 0 _ rfl
  rw [z0] at k0
  simp only [List.drop_succ_cons, List.drop_zero, List.take_succ_cons, List.take_zero] at k0
  obtain ⟨y0, g0⟩ : ∃ y, DataW.trod enc Tryd.prog w base spare held k 3 [v0] = some y := ⟨xs[0]'(by rw [hxl]; decide), k0.trans (List.getElem?_eq_getElem _)⟩
  have z1 : Tryd.prog.cellsOf 3 = 1 := by kernel_rfl
  have k1 : DataW.trod enc Tryd.prog w base spare held k 3 (List.take (Tryd.prog.cellsOf 3) (List.drop 1 [v0, v1, v2, v3, v4])) = xs[1]? := hg 1 _ rfl
  rw [z1] at k1
  simp only [List.drop_succ_cons, List.drop_zero, List.take_succ_cons, List.take_zero] at k1
  obtain ⟨y1, g1⟩ : ∃ y, DataW.trod enc Tryd.prog w base spare held k 3 [v1] = some y := ⟨xs[1]'(by rw [hxl]; decide), k1.trans (List.getElem?_eq_getElem _)⟩
  have z2 : Tryd.prog.cellsOf 3 = 1 := by kernel_rfl
  have k2 : DataW.trod enc Tryd.prog w base spare held k 3 (List.take (Tryd.prog.cellsOf 3) (List.drop 2 [v0, v1, v2, v3, v4])) = xs[2]? := hg 2 _ rfl
  rw [z2] at k2
  simp only [List.drop_succ_cons, List.drop_zero, List.take_succ_cons, List.take_zero] at k2
  obtain ⟨y2, g2⟩ : ∃ y, DataW.trod enc Tryd.prog w base spare held k 3 [v2] = some y := ⟨xs[2]'(by rw [hxl]; decide), k2.trans (List.getElem?_eq_getElem _)⟩
  have z3 : Tryd.prog.cellsOf 3 = 1 := by kernel_rfl
  have k3 : DataW.trod enc Tryd.prog w base spare held k 3 (List.take (Tryd.prog.cellsOf 3) (List.drop 3 [v0, v1, v2, v3, v4])) = xs[3]? := hg 3 _ rfl
  rw [z3] at k3
  simp only [List.drop_succ_cons, List.drop_zero, List.take_succ_cons, List.take_zero] at k3
  obtain ⟨y3, g3⟩ : ∃ y, DataW.trod enc Tryd.prog w base spare held k 3 [v3] = some y := ⟨xs[3]'(by rw [hxl]; decide), k3.trans (List.getElem?_eq_getElem _)⟩
  have z4 : Tryd.prog.cellsOf 3 = 1 := by kernel_rfl
  have k4 : DataW.trod enc Tryd.prog w base spare held k 3 (List.take (Tryd.prog.cellsOf 3) (List.drop 4 [v0, v1, v2, v3, v4])) = xs[4]? := hg 4 _ rfl
  rw [z4] at k4
  simp only [List.drop_succ_cons, List.drop_zero, List.take_succ_cons, List.take_zero] at k4
  obtain ⟨y4, g4⟩ : ∃ y, DataW.trod enc Tryd.prog w base spare held k 3 [v4] = some y := ⟨xs[4]'(by rw [hxl]; decide), k4.trans (List.getElem?_eq_getElem _)⟩
  obtain ⟨x0, e0, _⟩ := DataW.trod_int Tryd.underlying3 g0
  obtain rfl : v0 = .int .i64 x0 := by simpa using e0
  obtain ⟨x1, e1, _⟩ := DataW.trod_int Tryd.underlying3 g1
  obtain rfl : v1 = .int .i64 x1 := by simpa using e1
  obtain ⟨x2, e2, _⟩ := DataW.trod_int Tryd.underlying3 g2
  obtain rfl : v2 = .int .i64 x2 := by simpa using e2
  obtain ⟨x3, e3, _⟩ := DataW.trod_int Tryd.underlying3 g3
  obtain rfl : v3 = .int .i64 x3 := by simpa using e3
  obtain ⟨x4, e4, _⟩ := DataW.trod_int Tryd.underlying3 g4
  obtain rfl : v4 = .int .i64 x4 := by simpa using e4
  exact ⟨(x0, x1, x2, x3, x4), rfl, rfl⟩

theorem openTree {H : Type} {enc : TypeId × Value → H} {w : World} {base : Nat} {spare : Nat → Bool} {held : Bool} {fuel : Nat} {cs : List Value} {y : DataW H × List MemPlace}
  (h : DataW.trod enc Tryd.prog w base spare held fuel 63 cs = some y) : ∃ x, TreeR w 0 w.heap.size cs x ∧ cs.length = 7 := by
  obtain ⟨xs, k, _, _, hl, hxl, hg⟩ := DataW.trod_struct Tryd.underlying63 h
  have hl : cs.length = 7 := hl.trans (by kernel_rfl)
  obtain ⟨v0, v1, v2, v3, v4, v5, v6, rfl⟩ := list7 hl
  clear hl h
  have z0 : Tryd.prog.cellsOf 61 = 5 := by kernel_rfl
  have k0 : DataW.trod enc Tryd.prog w base spare held k 61 (List.take (Tryd.prog.cellsOf 61) (List.drop 0 [v0, v1, v2, v3, v4, v5, v6])) = xs[0]? := hg 0 _ rfl
  rw [z0] at k0
  simp only [List.drop_succ_cons, List.drop_zero, List.take_succ_cons, List.take_zero] at k0
  obtain ⟨y0, g0⟩ : ∃ y, DataW.trod enc Tryd.prog w base spare held k 61 [v0, v1, v2, v3, v4] = some y := ⟨xs[0]'(by rw [hxl]; decide), k0.trans (List.getElem?_eq_getElem _)⟩
  have z1 : Tryd.prog.cellsOf 3 = 1 := by kernel_rfl
  have k1 : DataW.trod enc Tryd.prog w base spare held k 3 (List.take (Tryd.prog.cellsOf 3) (List.drop 5 [v0, v1, v2, v3, v4, v5, v6])) = xs[1]? := hg 1 _ rfl
  rw [z1] at k1
  simp only [List.drop_succ_cons, List.drop_zero, List.take_succ_cons, List.take_zero] at k1
  obtain ⟨y1, g1⟩ : ∃ y, DataW.trod enc Tryd.prog w base spare held k 3 [v5] = some y := ⟨xs[1]'(by rw [hxl]; decide), k1.trans (List.getElem?_eq_getElem _)⟩
  have z2 : Tryd.prog.cellsOf 3 = 1 := by kernel_rfl
  have k2 : DataW.trod enc Tryd.prog w base spare held k 3 (List.take (Tryd.prog.cellsOf 3) (List.drop 6 [v0, v1, v2, v3, v4, v5, v6])) = xs[2]? := hg 2 _ rfl
  rw [z2] at k2
  simp only [List.drop_succ_cons, List.drop_zero, List.take_succ_cons, List.take_zero] at k2
  obtain ⟨y2, g2⟩ : ∃ y, DataW.trod enc Tryd.prog w base spare held k 3 [v6] = some y := ⟨xs[2]'(by rw [hxl]; decide), k2.trans (List.getElem?_eq_getElem _)⟩
  obtain ⟨x0, r0, _⟩ := openPtr g0
  unfold PtrR at r0
  simp only [List.cons.injEq, and_true] at r0
  obtain ⟨rfl, rfl, rfl, rfl, rfl⟩ := r0
  obtain ⟨x1, e1, _⟩ := DataW.trod_int Tryd.underlying3 g1
  obtain rfl : v5 = .int .i64 x1 := by simpa using e1
  obtain ⟨x2, e2, _⟩ := DataW.trod_int Tryd.underlying3 g2
  obtain rfl : v6 = .int .i64 x2 := by simpa using e2
  exact ⟨(x0, x1, x2), rfl, rfl⟩









theorem openHead {H : Type} {enc : TypeId × Value → H} {w : World} {base : Nat} {spare : Nat → Bool} {held : Bool} {fuel : Nat} {cs : List Value} {y : DataW H × List MemPlace}
  (h : DataW.trod enc Tryd.prog w base spare held fuel 66 cs = some y) : ∃ x, HeadR w 0 w.heap.size cs x ∧ cs.length = 11 := by
  obtain ⟨xs, k, _, _, hl, hxl, hg⟩ := DataW.trod_struct Tryd.underlying66 h
  have hl : cs.length = 11 := hl.trans (by kernel_rfl)
  obtain ⟨v0, v1, v2, v3, v4, v5, v6, v7, v8, v9, v10, rfl⟩ := list11 hl
  clear hl h
  have z0 : Tryd.prog.cellsOf 9 = 1 := by kernel_rfl
  have k0 : DataW.trod enc Tryd.prog w base spare held k 9 (List.take (Tryd.prog.cellsOf 9) (List.drop 0 [v0, v1, v2, v3, v4, v5, v6, v7, v8, v9, v10])) = xs[0]? := hg 0 _ rfl
  rw [z0] at k0
  simp only [List.drop_succ_cons, List.drop_zero, List.take_succ_cons, List.take_zero] at k0
  obtain ⟨y0, g0⟩ : ∃ y, DataW.trod enc Tryd.prog w base spare held k 9 [v0] = some y := ⟨xs[0]'(by rw [hxl]; decide), k0.trans (List.getElem?_eq_getElem _)⟩
  have z1 : Tryd.prog.cellsOf 3 = 1 := by kernel_rfl
  have k1 : DataW.trod enc Tryd.prog w base spare held k 3 (List.take (Tryd.prog.cellsOf 3) (List.drop 1 [v0, v1, v2, v3, v4, v5, v6, v7, v8, v9, v10])) = xs[1]? := hg 1 _ rfl
  rw [z1] at k1
  simp only [List.drop_succ_cons, List.drop_zero, List.take_succ_cons, List.take_zero] at k1
  obtain ⟨y1, g1⟩ : ∃ y, DataW.trod enc Tryd.prog w base spare held k 3 [v1] = some y := ⟨xs[1]'(by rw [hxl]; decide), k1.trans (List.getElem?_eq_getElem _)⟩
  have z2 : Tryd.prog.cellsOf 63 = 7 := by kernel_rfl
  have k2 : DataW.trod enc Tryd.prog w base spare held k 63 (List.take (Tryd.prog.cellsOf 63) (List.drop 2 [v0, v1, v2, v3, v4, v5, v6, v7, v8, v9, v10])) = xs[2]? := hg 2 _ rfl
  rw [z2] at k2
  simp only [List.drop_succ_cons, List.drop_zero, List.take_succ_cons, List.take_zero] at k2
  obtain ⟨y2, g2⟩ : ∃ y, DataW.trod enc Tryd.prog w base spare held k 63 [v2, v3, v4, v5, v6, v7, v8] = some y := ⟨xs[2]'(by rw [hxl]; decide), k2.trans (List.getElem?_eq_getElem _)⟩
  have z3 : Tryd.prog.cellsOf 64 = 1 := by kernel_rfl
  have k3 : DataW.trod enc Tryd.prog w base spare held k 64 (List.take (Tryd.prog.cellsOf 64) (List.drop 9 [v0, v1, v2, v3, v4, v5, v6, v7, v8, v9, v10])) = xs[3]? := hg 3 _ rfl
  rw [z3] at k3
  simp only [List.drop_succ_cons, List.drop_zero, List.take_succ_cons, List.take_zero] at k3
  obtain ⟨y3, g3⟩ : ∃ y, DataW.trod enc Tryd.prog w base spare held k 64 [v9] = some y := ⟨xs[3]'(by rw [hxl]; decide), k3.trans (List.getElem?_eq_getElem _)⟩
  have z4 : Tryd.prog.cellsOf 3 = 1 := by kernel_rfl
  have k4 : DataW.trod enc Tryd.prog w base spare held k 3 (List.take (Tryd.prog.cellsOf 3) (List.drop 10 [v0, v1, v2, v3, v4, v5, v6, v7, v8, v9, v10])) = xs[4]? := hg 4 _ rfl
  rw [z4] at k4
  simp only [List.drop_succ_cons, List.drop_zero, List.take_succ_cons, List.take_zero] at k4
  obtain ⟨y4, g4⟩ : ∃ y, DataW.trod enc Tryd.prog w base spare held k 3 [v10] = some y := ⟨xs[4]'(by rw [hxl]; decide), k4.trans (List.getElem?_eq_getElem _)⟩
  obtain ⟨x0, e0, _, m0⟩ := DataW.trod_string Tryd.underlying9 g0
  obtain rfl : v0 = .string x0 := by simpa using e0
  obtain ⟨x1, e1, _⟩ := DataW.trod_int Tryd.underlying3 g1
  obtain rfl : v1 = .int .i64 x1 := by simpa using e1
  obtain ⟨x2, r2, _⟩ := openTree g2
  unfold TreeR at r2
  simp only [List.cons.injEq, and_true] at r2
  obtain ⟨rfl, rfl, rfl, rfl, rfl, rfl, rfl⟩ := r2
  obtain ⟨A3, n3, c3, x3, e3, s3⟩ := open_sliceR (R := PtrR) (sz := 5) Tryd.underlying64 (by kernel_rfl) (by decide) (fun n cs y h => openPtr h) g3
  obtain rfl : v9 = .slice A3 n3 c3 := by simpa using e3
  obtain ⟨x4, e4, _⟩ := DataW.trod_int Tryd.underlying3 g4
  obtain rfl : v10 = .int .i64 x4 := by simpa using e4
  exact ⟨(x0, x1, x2, x3, x4), ⟨A3, n3, c3, rfl, m0, s3⟩, rfl⟩

theorem openSnap {H : Type} {enc : TypeId × Value → H} {w : World} {base : Nat} {spare : Nat → Bool} {held : Bool} {fuel : Nat} {cs : List Value} {y : DataW H × List MemPlace}
  (h : DataW.trod enc Tryd.prog w base spare held fuel 69 cs = some y) : ∃ x, SnapR w 0 w.heap.size cs x ∧ cs.length = 12 := by
  obtain ⟨xs, k, _, _, hl, hxl, hg⟩ := DataW.trod_struct Tryd.underlying69 h
  have hl : cs.length = 12 := hl.trans (by kernel_rfl)
  obtain ⟨v0, v1, v2, v3, v4, v5, v6, v7, v8, v9, v10, v11, rfl⟩ := list12 hl
  clear hl h
  have z0 : Tryd.prog.cellsOf 3 = 1 := by kernel_rfl
  have k0 : DataW.trod enc Tryd.prog w base spare held k 3 (List.take (Tryd.prog.cellsOf 3) (List.drop 0 [v0, v1, v2, v3, v4, v5, v6, v7, v8, v9, v10, v11])) = xs[0]? := hg 0 _ rfl
  rw [z0] at k0
  simp only [List.drop_succ_cons, List.drop_zero, List.take_succ_cons, List.take_zero] at k0
  obtain ⟨y0, g0⟩ : ∃ y, DataW.trod enc Tryd.prog w base spare held k 3 [v0] = some y := ⟨xs[0]'(by rw [hxl]; decide), k0.trans (List.getElem?_eq_getElem _)⟩
  have z1 : Tryd.prog.cellsOf 9 = 1 := by kernel_rfl
  have k1 : DataW.trod enc Tryd.prog w base spare held k 9 (List.take (Tryd.prog.cellsOf 9) (List.drop 1 [v0, v1, v2, v3, v4, v5, v6, v7, v8, v9, v10, v11])) = xs[1]? := hg 1 _ rfl
  rw [z1] at k1
  simp only [List.drop_succ_cons, List.drop_zero, List.take_succ_cons, List.take_zero] at k1
  obtain ⟨y1, g1⟩ : ∃ y, DataW.trod enc Tryd.prog w base spare held k 9 [v1] = some y := ⟨xs[1]'(by rw [hxl]; decide), k1.trans (List.getElem?_eq_getElem _)⟩
  have z2 : Tryd.prog.cellsOf 3 = 1 := by kernel_rfl
  have k2 : DataW.trod enc Tryd.prog w base spare held k 3 (List.take (Tryd.prog.cellsOf 3) (List.drop 2 [v0, v1, v2, v3, v4, v5, v6, v7, v8, v9, v10, v11])) = xs[2]? := hg 2 _ rfl
  rw [z2] at k2
  simp only [List.drop_succ_cons, List.drop_zero, List.take_succ_cons, List.take_zero] at k2
  obtain ⟨y2, g2⟩ : ∃ y, DataW.trod enc Tryd.prog w base spare held k 3 [v2] = some y := ⟨xs[2]'(by rw [hxl]; decide), k2.trans (List.getElem?_eq_getElem _)⟩
  have z3 : Tryd.prog.cellsOf 3 = 1 := by kernel_rfl
  have k3 : DataW.trod enc Tryd.prog w base spare held k 3 (List.take (Tryd.prog.cellsOf 3) (List.drop 3 [v0, v1, v2, v3, v4, v5, v6, v7, v8, v9, v10, v11])) = xs[3]? := hg 3 _ rfl
  rw [z3] at k3
  simp only [List.drop_succ_cons, List.drop_zero, List.take_succ_cons, List.take_zero] at k3
  obtain ⟨y3, g3⟩ : ∃ y, DataW.trod enc Tryd.prog w base spare held k 3 [v3] = some y := ⟨xs[3]'(by rw [hxl]; decide), k3.trans (List.getElem?_eq_getElem _)⟩
  have z4 : Tryd.prog.cellsOf 63 = 7 := by kernel_rfl
  have k4 : DataW.trod enc Tryd.prog w base spare held k 63 (List.take (Tryd.prog.cellsOf 63) (List.drop 4 [v0, v1, v2, v3, v4, v5, v6, v7, v8, v9, v10, v11])) = xs[4]? := hg 4 _ rfl
  rw [z4] at k4
  simp only [List.drop_succ_cons, List.drop_zero, List.take_succ_cons, List.take_zero] at k4
  obtain ⟨y4, g4⟩ : ∃ y, DataW.trod enc Tryd.prog w base spare held k 63 [v4, v5, v6, v7, v8, v9, v10] = some y := ⟨xs[4]'(by rw [hxl]; decide), k4.trans (List.getElem?_eq_getElem _)⟩
  have z5 : Tryd.prog.cellsOf 64 = 1 := by kernel_rfl
  have k5 : DataW.trod enc Tryd.prog w base spare held k 64 (List.take (Tryd.prog.cellsOf 64) (List.drop 11 [v0, v1, v2, v3, v4, v5, v6, v7, v8, v9, v10, v11])) = xs[5]? := hg 5 _ rfl
  rw [z5] at k5
  simp only [List.drop_succ_cons, List.drop_zero, List.take_succ_cons, List.take_zero] at k5
  obtain ⟨y5, g5⟩ : ∃ y, DataW.trod enc Tryd.prog w base spare held k 64 [v11] = some y := ⟨xs[5]'(by rw [hxl]; decide), k5.trans (List.getElem?_eq_getElem _)⟩
  obtain ⟨x0, e0, _⟩ := DataW.trod_int Tryd.underlying3 g0
  obtain rfl : v0 = .int .i64 x0 := by simpa using e0
  obtain ⟨x1, e1, _, m1⟩ := DataW.trod_string Tryd.underlying9 g1
  obtain rfl : v1 = .string x1 := by simpa using e1
  obtain ⟨x2, e2, _⟩ := DataW.trod_int Tryd.underlying3 g2
  obtain rfl : v2 = .int .i64 x2 := by simpa using e2
  obtain ⟨x3, e3, _⟩ := DataW.trod_int Tryd.underlying3 g3
  obtain rfl : v3 = .int .i64 x3 := by simpa using e3
  obtain ⟨x4, r4, _⟩ := openTree g4
  unfold TreeR at r4
  simp only [List.cons.injEq, and_true] at r4
  obtain ⟨rfl, rfl, rfl, rfl, rfl, rfl, rfl⟩ := r4
  obtain ⟨A5, n5, c5, x5, e5, s5⟩ := open_sliceR (R := PtrR) (sz := 5) Tryd.underlying64 (by kernel_rfl) (by decide) (fun n cs y h => openPtr h) g5
  obtain rfl : v11 = .slice A5 n5 c5 := by simpa using e5
  exact ⟨(x0, x1, x2, x3, x4, x5), ⟨A5, n5, c5, rfl, m1, s5⟩, rfl⟩

theorem openMeta {H : Type} {enc : TypeId × Value → H} {w : World} {base : Nat} {spare : Nat → Bool} {held : Bool} {fuel : Nat} {cs : List Value} {y : DataW H × List MemPlace}
  (h : DataW.trod enc Tryd.prog w base spare held fuel 25 cs = some y) : ∃ x, MetaR w 0 w.heap.size cs x ∧ cs.length = 4 := by
  obtain ⟨xs, k, _, _, hl, hxl, hg⟩ := DataW.trod_struct Tryd.underlying25 h
  have hl : cs.length = 4 := hl.trans (by kernel_rfl)
  obtain ⟨v0, v1, v2, v3, rfl⟩ := list4 hl
  clear hl h
  have z0 : Tryd.prog.cellsOf 22 = 1 := by kernel_rfl
  have k0 : DataW.trod enc Tryd.prog w base spare held k 22 (List.take (Tryd.prog.cellsOf 22) (List.drop 0 [v0, v1, v2, v3])) = xs[0]? := hg 0 _ rfl
  rw [z0] at k0
  simp only [List.drop_succ_cons, List.drop_zero, List.take_succ_cons, List.take_zero] at k0
  obtain ⟨y0, g0⟩ : ∃ y, DataW.trod enc Tryd.prog w base spare held k 22 [v0] = some y := ⟨xs[0]'(by rw [hxl]; decide), k0.trans (List.getElem?_eq_getElem _)⟩
  have z1 : Tryd.prog.cellsOf 23 = 1 := by kernel_rfl
  have k1 : DataW.trod enc Tryd.prog w base spare held k 23 (List.take (Tryd.prog.cellsOf 23) (List.drop 1 [v0, v1, v2, v3])) = xs[1]? := hg 1 _ rfl
  rw [z1] at k1
  simp only [List.drop_succ_cons, List.drop_zero, List.take_succ_cons, List.take_zero] at k1
  obtain ⟨y1, g1⟩ : ∃ y, DataW.trod enc Tryd.prog w base spare held k 23 [v1] = some y := ⟨xs[1]'(by rw [hxl]; decide), k1.trans (List.getElem?_eq_getElem _)⟩
  have z2 : Tryd.prog.cellsOf 3 = 1 := by kernel_rfl
  have k2 : DataW.trod enc Tryd.prog w base spare held k 3 (List.take (Tryd.prog.cellsOf 3) (List.drop 2 [v0, v1, v2, v3])) = xs[2]? := hg 2 _ rfl
  rw [z2] at k2
  simp only [List.drop_succ_cons, List.drop_zero, List.take_succ_cons, List.take_zero] at k2
  obtain ⟨y2, g2⟩ : ∃ y, DataW.trod enc Tryd.prog w base spare held k 3 [v2] = some y := ⟨xs[2]'(by rw [hxl]; decide), k2.trans (List.getElem?_eq_getElem _)⟩
  have z3 : Tryd.prog.cellsOf 4 = 1 := by kernel_rfl
  have k3 : DataW.trod enc Tryd.prog w base spare held k 4 (List.take (Tryd.prog.cellsOf 4) (List.drop 3 [v0, v1, v2, v3])) = xs[3]? := hg 3 _ rfl
  rw [z3] at k3
  simp only [List.drop_succ_cons, List.drop_zero, List.take_succ_cons, List.take_zero] at k3
  obtain ⟨y3, g3⟩ : ∃ y, DataW.trod enc Tryd.prog w base spare held k 4 [v3] = some y := ⟨xs[3]'(by rw [hxl]; decide), k3.trans (List.getElem?_eq_getElem _)⟩
  obtain ⟨A0, n0, c0, x0, e0, s0⟩ := open_sliceR (R := HeadR) (sz := 11) Tryd.underlying22 (by kernel_rfl) (by decide) (fun n cs y h => openHead h) g0
  obtain rfl : v0 = .slice A0 n0 c0 := by simpa using e0
  obtain ⟨A1, n1, c1, x1, e1, s1⟩ := open_sliceR (R := SnapR) (sz := 12) Tryd.underlying23 (by kernel_rfl) (by decide) (fun n cs y h => openSnap h) g1
  obtain rfl : v1 = .slice A1 n1 c1 := by simpa using e1
  obtain ⟨x2, e2, _⟩ := DataW.trod_int Tryd.underlying3 g2
  obtain rfl : v2 = .int .i64 x2 := by simpa using e2
  obtain ⟨x3, e3, _⟩ := DataW.trod_bool Tryd.underlying4 g3
  obtain rfl : v3 = .bool x3 := by simpa using e3
  exact ⟨(x0, x1, x2, x3), ⟨A0, n0, c0, A1, n1, c1, rfl, s0, s1⟩, rfl⟩






end Go.Proofs.YtlacpcdbgimnmaaDoor
