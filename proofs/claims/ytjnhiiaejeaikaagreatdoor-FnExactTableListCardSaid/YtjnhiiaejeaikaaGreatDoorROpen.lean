/- Arguments of struct types, opened to data. No condition. -/
import Derived.Test.YtjnhiiaejeaikaaGreatDoorRTypes
import Derived.Test.YtjnhiiaejeaikaaGreatDoorChecked
import Derived.Test.YtjnhiiaejeaikaaGreatDoorRows
set_option linter.unnecessarySimpa false
set_option linter.unusedSimpArgs false
set_option linter.unusedVariables false
namespace Go.Proofs.YtjnhiiaejeaikaaGreatDoor
open Go.ChangeShapes Go.WideShapes Go.ChangeAt Go.RowKit
theorem openPtr {H : Type} {enc : TypeId × Value → H} {w : World} {base : Nat} {spare : Nat → Bool} {held : Bool} {fuel : Nat} {cs : List Value} {y : DataW H × List MemPlace}
 (h : DataW.trod enc Tryz.prog w base spare held fuel 30 cs = some y) : ∃ x, PtrR w 0 w.heap.size cs x ∧ cs.length = 5 := by
 obtain ⟨xs, k, _, _, hl, hxl, hg⟩ := DataW.trod_struct Tryz.underlying30 h
 have hl : cs.length = 5 := hl.trans (by kernel_rfl)
 obtain ⟨v0, v1, v2, v3, v4, rfl⟩ := list5 hl
 clear hl h
 have z0 : Tryz.prog.cellsOf 3 = 1 := by kernel_rfl
 have k0 : DataW.trod enc Tryz.prog w base spare held k 3 (List.take (Tryz.prog.cellsOf 3) (List.drop 0 [v0, v1, v2, v3, v4])) = xs[0]? := hg 0 _ rfl
 rw [z0] at k0
 simp only [List.drop_succ_cons, List.drop_zero, List.take_succ_cons, List.take_zero] at k0
 obtain ⟨y0, g0⟩ : ∃ y, DataW.trod enc Tryz.prog w base spare held k 3 [v0] = some y := ⟨xs[0]'(by rw [hxl]; decide), k0.trans (List.getElem?_eq_getElem _)⟩
 have z1 : Tryz.prog.cellsOf 3 = 1 := by kernel_rfl
 have k1 : DataW.trod enc Tryz.prog w base spare held k 3 (List.take (Tryz.prog.cellsOf 3) (List.drop 1 [v0, v1, v2, v3, v4])) = xs[1]? := hg 1 _ rfl
 rw [z1] at k1
 simp only [List.drop_succ_cons, List.drop_zero, List.take_succ_cons, List.take_zero] at k1
 obtain ⟨y1, g1⟩ : ∃ y, DataW.trod enc Tryz.prog w base spare held k 3 [v1] = some y := ⟨xs[1]'(by rw [hxl]; decide), k1.trans (List.getElem?_eq_getElem _)⟩
 have z2 : Tryz.prog.cellsOf 3 = 1 := by kernel_rfl
 have k2 : DataW.trod enc Tryz.prog w base spare held k 3 (List.take (Tryz.prog.cellsOf 3) (List.drop 2 [v0, v1, v2, v3, v4])) = xs[2]? := hg 2 _ rfl
 rw [z2] at k2
 simp only [List.drop_succ_cons, List.drop_zero, List.take_succ_cons, List.take_zero] at k2
 obtain ⟨y2, g2⟩ : ∃ y, DataW.trod enc Tryz.prog w base spare held k 3 [v2] = some y := ⟨xs[2]'(by rw [hxl]; decide), k2.trans (List.getElem?_eq_getElem _)⟩
 have z3 : Tryz.prog.cellsOf 3 = 1 := by kernel_rfl
 have k3 : DataW.trod enc Tryz.prog w base spare held k 3 (List.take (Tryz.prog.cellsOf 3) (List.drop 3 [v0, v1, v2, v3, v4])) = xs[3]? := hg 3 _ rfl
 rw [z3] at k3
 simp only [List.drop_succ_cons, List.drop_zero, List.take_succ_cons, List.take_zero] at k3
 obtain ⟨y3, g3⟩ : ∃ y, DataW.trod enc Tryz.prog w base spare held k 3 [v3] = some y := ⟨xs[3]'(by rw [hxl]; decide), k3.trans (List.getElem?_eq_getElem _)⟩
 have z4 : Tryz.prog.cellsOf 3 = 1 := by kernel_rfl
 have k4 : DataW.trod enc Tryz.prog w base spare held k 3 (List.take (Tryz.prog.cellsOf 3) (List.drop 4 [v0, v1, v2, v3, v4])) = xs[4]? := hg 4 _ rfl
 rw [z4] at k4
 simp only [List.drop_succ_cons, List.drop_zero, List.take_succ_cons, List.take_zero] at k4
 obtain ⟨y4, g4⟩ : ∃ y, DataW.trod enc Tryz.prog w base spare held k 3 [v4] = some y := ⟨xs[4]'(by rw [hxl]; decide), k4.trans (List.getElem?_eq_getElem _)⟩
 obtain ⟨x0, e0, _⟩ := DataW.trod_int Tryz.underlying3 g0
 obtain rfl : v0 = .int .i64 x0 := by simpa using e0
 obtain ⟨x1, e1, _⟩ := DataW.trod_int Tryz.underlying3 g1
 obtain rfl : v1 = .int .i64 x1 := by simpa using e1
 obtain ⟨x2, e2, _⟩ := DataW.trod_int Tryz.underlying3 g2
 obtain rfl : v2 = .int .i64 x2 := by simpa using e2
 obtain ⟨x3, e3, _⟩ := DataW.trod_int Tryz.underlying3 g3
 obtain rfl : v3 = .int .i64 x3 := by simpa using e3
 obtain ⟨x4, e4, _⟩ := DataW.trod_int Tryz.underlying3 g4
 obtain rfl : v4 = .int .i64 x4 := by simpa using e4
 exact ⟨(x0, x1, x2, x3, x4), rfl, rfl⟩
theorem openTree {H : Type} {enc : TypeId × Value → H} {w : World} {base : Nat} {spare : Nat → Bool} {held : Bool} {fuel : Nat} {cs : List Value} {y : DataW H × List MemPlace}
 (h : DataW.trod enc Tryz.prog w base spare held fuel 32 cs = some y) : ∃ x, TreeR w 0 w.heap.size cs x ∧ cs.length = 7 := by
 obtain ⟨xs, k, _, _, hl, hxl, hg⟩ := DataW.trod_struct Tryz.underlying32 h
 have hl : cs.length = 7 := hl.trans (by kernel_rfl)
 obtain ⟨v0, v1, v2, v3, v4, v5, v6, rfl⟩ := list7 hl
 clear hl h
 have z0 : Tryz.prog.cellsOf 30 = 5 := by kernel_rfl
 have k0 : DataW.trod enc Tryz.prog w base spare held k 30 (List.take (Tryz.prog.cellsOf 30) (List.drop 0 [v0, v1, v2, v3, v4, v5, v6])) = xs[0]? := hg 0 _ rfl
 rw [z0] at k0
 simp only [List.drop_succ_cons, List.drop_zero, List.take_succ_cons, List.take_zero] at k0
 obtain ⟨y0, g0⟩ : ∃ y, DataW.trod enc Tryz.prog w base spare held k 30 [v0, v1, v2, v3, v4] = some y := ⟨xs[0]'(by rw [hxl]; decide), k0.trans (List.getElem?_eq_getElem _)⟩
 have z1 : Tryz.prog.cellsOf 3 = 1 := by kernel_rfl
 have k1 : DataW.trod enc Tryz.prog w base spare held k 3 (List.take (Tryz.prog.cellsOf 3) (List.drop 5 [v0, v1, v2, v3, v4, v5, v6])) = xs[1]? := hg 1 _ rfl
 rw [z1] at k1
 simp only [List.drop_succ_cons, List.drop_zero, List.take_succ_cons, List.take_zero] at k1
 obtain ⟨y1, g1⟩ : ∃ y, DataW.trod enc Tryz.prog w base spare held k 3 [v5] = some y := ⟨xs[1]'(by rw [hxl]; decide), k1.trans (List.getElem?_eq_getElem _)⟩
 have z2 : Tryz.prog.cellsOf 3 = 1 := by kernel_rfl
 have k2 : DataW.trod enc Tryz.prog w base spare held k 3 (List.take (Tryz.prog.cellsOf 3) (List.drop 6 [v0, v1, v2, v3, v4, v5, v6])) = xs[2]? := hg 2 _ rfl
 rw [z2] at k2
 simp only [List.drop_succ_cons, List.drop_zero, List.take_succ_cons, List.take_zero] at k2
 obtain ⟨y2, g2⟩ : ∃ y, DataW.trod enc Tryz.prog w base spare held k 3 [v6] = some y := ⟨xs[2]'(by rw [hxl]; decide), k2.trans (List.getElem?_eq_getElem _)⟩
 obtain ⟨x0, r0, _⟩ := openPtr g0
 unfold PtrR at r0
 simp only [List.cons.injEq, and_true] at r0
 obtain ⟨rfl, rfl, rfl, rfl, rfl⟩ := r0
 obtain ⟨x1, e1, _⟩ := DataW.trod_int Tryz.underlying3 g1
 obtain rfl : v5 = .int .i64 x1 := by simpa using e1
 obtain ⟨x2, e2, _⟩ := DataW.trod_int Tryz.underlying3 g2
 obtain rfl : v6 = .int .i64 x2 := by simpa using e2
 exact ⟨(x0, x1, x2), rfl, rfl⟩
theorem openSpace {H : Type} {enc : TypeId × Value → H} {w : World} {base : Nat} {spare : Nat → Bool} {held : Bool} {fuel : Nat} {cs : List Value} {y : DataW H × List MemPlace}
 (h : DataW.trod enc Tryz.prog w base spare held fuel 25 cs = some y) : ∃ x, SpaceR w 0 w.heap.size cs x ∧ cs.length = 2 := by
 obtain ⟨xs, k, _, _, hl, hxl, hg⟩ := DataW.trod_struct Tryz.underlying25 h
 have hl : cs.length = 2 := hl.trans (by kernel_rfl)
 obtain ⟨v0, v1, rfl⟩ := list2 hl
 clear hl h
 have z0 : Tryz.prog.cellsOf 23 = 1 := by kernel_rfl
 have k0 : DataW.trod enc Tryz.prog w base spare held k 23 (List.take (Tryz.prog.cellsOf 23) (List.drop 0 [v0, v1])) = xs[0]? := hg 0 _ rfl
 rw [z0] at k0
 simp only [List.drop_succ_cons, List.drop_zero, List.take_succ_cons, List.take_zero] at k0
 obtain ⟨y0, g0⟩ : ∃ y, DataW.trod enc Tryz.prog w base spare held k 23 [v0] = some y := ⟨xs[0]'(by rw [hxl]; decide), k0.trans (List.getElem?_eq_getElem _)⟩
 have z1 : Tryz.prog.cellsOf 23 = 1 := by kernel_rfl
 have k1 : DataW.trod enc Tryz.prog w base spare held k 23 (List.take (Tryz.prog.cellsOf 23) (List.drop 1 [v0, v1])) = xs[1]? := hg 1 _ rfl
 rw [z1] at k1
 simp only [List.drop_succ_cons, List.drop_zero, List.take_succ_cons, List.take_zero] at k1
 obtain ⟨y1, g1⟩ : ∃ y, DataW.trod enc Tryz.prog w base spare held k 23 [v1] = some y := ⟨xs[1]'(by rw [hxl]; decide), k1.trans (List.getElem?_eq_getElem _)⟩
 obtain ⟨A0, n0, c0, x0, e0, s0⟩ := open_sliceR (R := IntR) (sz := 1) Tryz.underlying23 (by kernel_rfl) (by decide) (fun n cs y h => open_intR Tryz.underlying3 h) g0
 obtain rfl : v0 = .slice A0 n0 c0 := by simpa using e0
 obtain ⟨A1, n1, c1, x1, e1, s1⟩ := open_sliceR (R := IntR) (sz := 1) Tryz.underlying23 (by kernel_rfl) (by decide) (fun n cs y h => open_intR Tryz.underlying3 h) g1
 obtain rfl : v1 = .slice A1 n1 c1 := by simpa using e1
 exact ⟨(x0, x1), ⟨A0, n0, c0, A1, n1, c1, rfl, s0, s1⟩, rfl⟩
theorem openStore {H : Type} {enc : TypeId × Value → H} {w : World} {base : Nat} {spare : Nat → Bool} {held : Bool} {fuel : Nat} {cs : List Value} {y : DataW H × List MemPlace}
 (h : DataW.trod enc Tryz.prog w base spare held fuel 28 cs = some y) : ∃ x, StoreR w 0 w.heap.size cs x ∧ cs.length = 8 := by
 obtain ⟨xs, k, _, _, hl, hxl, hg⟩ := DataW.trod_struct Tryz.underlying28 h
 have hl : cs.length = 8 := hl.trans (by kernel_rfl)
 obtain ⟨v0, v1, v2, v3, v4, v5, v6, v7, rfl⟩ := list8 hl
 clear hl h
 have z0 : Tryz.prog.cellsOf 22 = 1 := by kernel_rfl
 have k0 : DataW.trod enc Tryz.prog w base spare held k 22 (List.take (Tryz.prog.cellsOf 22) (List.drop 0 [v0, v1, v2, v3, v4, v5, v6, v7])) = xs[0]? := hg 0 _ rfl
 rw [z0] at k0
 simp only [List.drop_succ_cons, List.drop_zero, List.take_succ_cons, List.take_zero] at k0
 obtain ⟨y0, g0⟩ : ∃ y, DataW.trod enc Tryz.prog w base spare held k 22 [v0] = some y := ⟨xs[0]'(by rw [hxl]; decide), k0.trans (List.getElem?_eq_getElem _)⟩
 have z1 : Tryz.prog.cellsOf 25 = 2 := by kernel_rfl
 have k1 : DataW.trod enc Tryz.prog w base spare held k 25 (List.take (Tryz.prog.cellsOf 25) (List.drop 1 [v0, v1, v2, v3, v4, v5, v6, v7])) = xs[1]? := hg 1 _ rfl
 rw [z1] at k1
 simp only [List.drop_succ_cons, List.drop_zero, List.take_succ_cons, List.take_zero] at k1
 obtain ⟨y1, g1⟩ : ∃ y, DataW.trod enc Tryz.prog w base spare held k 25 [v1, v2] = some y := ⟨xs[1]'(by rw [hxl]; decide), k1.trans (List.getElem?_eq_getElem _)⟩
 have z2 : Tryz.prog.cellsOf 3 = 1 := by kernel_rfl
 have k2 : DataW.trod enc Tryz.prog w base spare held k 3 (List.take (Tryz.prog.cellsOf 3) (List.drop 3 [v0, v1, v2, v3, v4, v5, v6, v7])) = xs[2]? := hg 2 _ rfl
 rw [z2] at k2
 simp only [List.drop_succ_cons, List.drop_zero, List.take_succ_cons, List.take_zero] at k2
 obtain ⟨y2, g2⟩ : ∃ y, DataW.trod enc Tryz.prog w base spare held k 3 [v3] = some y := ⟨xs[2]'(by rw [hxl]; decide), k2.trans (List.getElem?_eq_getElem _)⟩
 have z3 : Tryz.prog.cellsOf 26 = 1 := by kernel_rfl
 have k3 : DataW.trod enc Tryz.prog w base spare held k 26 (List.take (Tryz.prog.cellsOf 26) (List.drop 4 [v0, v1, v2, v3, v4, v5, v6, v7])) = xs[3]? := hg 3 _ rfl
 rw [z3] at k3
 simp only [List.drop_succ_cons, List.drop_zero, List.take_succ_cons, List.take_zero] at k3
 obtain ⟨y3, g3⟩ : ∃ y, DataW.trod enc Tryz.prog w base spare held k 26 [v4] = some y := ⟨xs[3]'(by rw [hxl]; decide), k3.trans (List.getElem?_eq_getElem _)⟩
 have z4 : Tryz.prog.cellsOf 3 = 1 := by kernel_rfl
 have k4 : DataW.trod enc Tryz.prog w base spare held k 3 (List.take (Tryz.prog.cellsOf 3) (List.drop 5 [v0, v1, v2, v3, v4, v5, v6, v7])) = xs[4]? := hg 4 _ rfl
 rw [z4] at k4
 simp only [List.drop_succ_cons, List.drop_zero, List.take_succ_cons, List.take_zero] at k4
 obtain ⟨y4, g4⟩ : ∃ y, DataW.trod enc Tryz.prog w base spare held k 3 [v5] = some y := ⟨xs[4]'(by rw [hxl]; decide), k4.trans (List.getElem?_eq_getElem _)⟩
 have z5 : Tryz.prog.cellsOf 26 = 1 := by kernel_rfl
 have k5 : DataW.trod enc Tryz.prog w base spare held k 26 (List.take (Tryz.prog.cellsOf 26) (List.drop 6 [v0, v1, v2, v3, v4, v5, v6, v7])) = xs[5]? := hg 5 _ rfl
 rw [z5] at k5
 simp only [List.drop_succ_cons, List.drop_zero, List.take_succ_cons, List.take_zero] at k5
 obtain ⟨y5, g5⟩ : ∃ y, DataW.trod enc Tryz.prog w base spare held k 26 [v6] = some y := ⟨xs[5]'(by rw [hxl]; decide), k5.trans (List.getElem?_eq_getElem _)⟩
 have z6 : Tryz.prog.cellsOf 4 = 1 := by kernel_rfl
 have k6 : DataW.trod enc Tryz.prog w base spare held k 4 (List.take (Tryz.prog.cellsOf 4) (List.drop 7 [v0, v1, v2, v3, v4, v5, v6, v7])) = xs[6]? := hg 6 _ rfl
 rw [z6] at k6
 simp only [List.drop_succ_cons, List.drop_zero, List.take_succ_cons, List.take_zero] at k6
 obtain ⟨y6, g6⟩ : ∃ y, DataW.trod enc Tryz.prog w base spare held k 4 [v7] = some y := ⟨xs[6]'(by rw [hxl]; decide), k6.trans (List.getElem?_eq_getElem _)⟩
 obtain ⟨A0, n0, c0, x0, e0, s0⟩ := open_sliceR (R := StrR) (sz := 1) Tryz.underlying22 (by kernel_rfl) (by decide) (fun n cs y h => open_strR Tryz.underlying9 h) g0
 obtain rfl : v0 = .slice A0 n0 c0 := by simpa using e0
 obtain ⟨x1, r1, _⟩ := openSpace g1
 obtain ⟨A1_0, n1_0, c1_0, A1_1, n1_1, c1_1, q1, r1_0, r1_1⟩ := r1
 simp only [List.cons.injEq, and_true] at q1
 obtain ⟨rfl, rfl⟩ := q1
 obtain ⟨x2, e2, _⟩ := DataW.trod_int Tryz.underlying3 g2
 obtain rfl : v3 = .int .i64 x2 := by simpa using e2
 obtain ⟨A3, n3, c3, x3, e3, s3⟩ := open_sliceR (R := PtrR) (sz := 5) Tryz.underlying26 (by kernel_rfl) (by decide) (fun n cs y h => openPtr h) g3
 obtain rfl : v4 = .slice A3 n3 c3 := by simpa using e3
 obtain ⟨x4, e4, _⟩ := DataW.trod_int Tryz.underlying3 g4
 obtain rfl : v5 = .int .i64 x4 := by simpa using e4
 obtain ⟨A5, n5, c5, x5, e5, s5⟩ := open_sliceR (R := PtrR) (sz := 5) Tryz.underlying26 (by kernel_rfl) (by decide) (fun n cs y h => openPtr h) g5
 obtain rfl : v6 = .slice A5 n5 c5 := by simpa using e5
 obtain ⟨x6, e6, _⟩ := DataW.trod_bool Tryz.underlying4 g6
 obtain rfl : v7 = .bool x6 := by simpa using e6
 exact ⟨(x0, x1, x2, x3, x4, x5, x6), ⟨A0, n0, c0, A1_0, n1_0, c1_0, A1_1, n1_1, c1_1, A3, n3, c3, A5, n5, c5, rfl, s0, r1_0, r1_1, s3, s5⟩, rfl⟩
end Go.Proofs.YtjnhiiaejeaikaaGreatDoor
