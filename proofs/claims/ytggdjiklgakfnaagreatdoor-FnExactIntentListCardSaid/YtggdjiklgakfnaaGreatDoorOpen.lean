/- Arguments of struct types, opened to data. No condition. -/
import Derived.Test.YtggdjiklgakfnaaGreatDoorTypes
import Derived.Test.YtggdjiklgakfnaaGreatDoorChecked
import Derived.Test.YtggdjiklgakfnaaGreatDoorRows
namespace Go.Proofs.YtggdjiklgakfnaaGreatDoor
set_option linter.unusedVariables false
set_option linter.unusedSimpArgs false
set_option linter.unnecessarySimpa false
open Go.ChangeShapes Go.WideShapes Go.ChangeAt Go.RowKit














theorem openWait {H : Type} {enc : TypeId × Value → H} {w : World} {base : Nat} {spare : Nat → Bool} {held : Bool} {fuel : Nat} {cs : List Value} {y : DataW H × List MemPlace}
  (h : DataW.trod enc Tryz.prog w base spare held fuel 132 cs = some y) : ∃ x, WaitR w 0 w.heap.size cs x ∧ cs.length = 2 := by
  obtain ⟨xs, k, _, _, hl, hxl, hg⟩ := DataW.trod_struct Tryz.underlying132 h
  have hl : cs.length = 2 := hl.trans (by kernel_rfl)
  obtain ⟨v0, v1, rfl⟩ := list2 hl
  clear hl h
  have z0 : Tryz.prog.cellsOf 3 = 1 := by kernel_rfl
  have k0 : DataW.trod enc Tryz.prog w base spare held k 3 (List.take (Tryz.prog.cellsOf 3) (List.drop 0 [v0, v1])) = xs[0]? := hg 0 _ rfl
  rw [z0] at k0
  simp only [List.drop_succ_cons, List.drop_zero, List.take_succ_cons, List.take_zero] at k0
  obtain ⟨y0, g0⟩ : ∃ y, DataW.trod enc Tryz.prog w base spare held k 3 [v0] = some y := ⟨xs[0]'(by rw [hxl]; decide), k0.trans (List.getElem?_eq_getElem _)⟩
  have z1 : Tryz.prog.cellsOf 9 = 1 := by kernel_rfl
  have k1 : DataW.trod enc Tryz.prog w base spare held k 9 (List.take (Tryz.prog.cellsOf 9) (List.drop 1 [v0, v1])) = xs[1]? := hg 1 _ rfl
  rw [z1] at k1
  simp only [List.drop_succ_cons, List.drop_zero, List.take_succ_cons, List.take_zero] at k1
  obtain ⟨y1, g1⟩ : ∃ y, DataW.trod enc Tryz.prog w base spare held k 9 [v1] = some y := ⟨xs[1]'(by rw [hxl]; decide), k1.trans (List.getElem?_eq_getElem _)⟩
  obtain ⟨x0, e0, _⟩ := DataW.trod_int Tryz.underlying3 g0
  obtain rfl : v0 = .int .i64 x0 := by simpa using e0
  obtain ⟨x1, e1, _, m1⟩ := DataW.trod_string Tryz.underlying9 g1
  obtain rfl : v1 = .string x1 := by simpa using e1
  exact ⟨(x0, x1), ⟨rfl, m1⟩, rfl⟩

theorem openDisk {H : Type} {enc : TypeId × Value → H} {w : World} {base : Nat} {spare : Nat → Bool} {held : Bool} {fuel : Nat} {cs : List Value} {y : DataW H × List MemPlace}
  (h : DataW.trod enc Tryz.prog w base spare held fuel 83 cs = some y) : ∃ x, DiskR w 0 w.heap.size cs x ∧ cs.length = 3 := by
  obtain ⟨xs, k, _, _, hl, hxl, hg⟩ := DataW.trod_struct Tryz.underlying83 h
  have hl : cs.length = 3 := hl.trans (by kernel_rfl)
  obtain ⟨v0, v1, v2, rfl⟩ := list3 hl
  clear hl h
  have z0 : Tryz.prog.cellsOf 67 = 1 := by kernel_rfl
  have k0 : DataW.trod enc Tryz.prog w base spare held k 67 (List.take (Tryz.prog.cellsOf 67) (List.drop 0 [v0, v1, v2])) = xs[0]? := hg 0 _ rfl
  rw [z0] at k0
  simp only [List.drop_succ_cons, List.drop_zero, List.take_succ_cons, List.take_zero] at k0
  obtain ⟨y0, g0⟩ : ∃ y, DataW.trod enc Tryz.prog w base spare held k 67 [v0] = some y := ⟨xs[0]'(by rw [hxl]; decide), k0.trans (List.getElem?_eq_getElem _)⟩
  have z1 : Tryz.prog.cellsOf 81 = 1 := by kernel_rfl
  have k1 : DataW.trod enc Tryz.prog w base spare held k 81 (List.take (Tryz.prog.cellsOf 81) (List.drop 1 [v0, v1, v2])) = xs[1]? := hg 1 _ rfl
  rw [z1] at k1
  simp only [List.drop_succ_cons, List.drop_zero, List.take_succ_cons, List.take_zero] at k1
  obtain ⟨y1, g1⟩ : ∃ y, DataW.trod enc Tryz.prog w base spare held k 81 [v1] = some y := ⟨xs[1]'(by rw [hxl]; decide), k1.trans (List.getElem?_eq_getElem _)⟩
  have z2 : Tryz.prog.cellsOf 4 = 1 := by kernel_rfl
  have k2 : DataW.trod enc Tryz.prog w base spare held k 4 (List.take (Tryz.prog.cellsOf 4) (List.drop 2 [v0, v1, v2])) = xs[2]? := hg 2 _ rfl
  rw [z2] at k2
  simp only [List.drop_succ_cons, List.drop_zero, List.take_succ_cons, List.take_zero] at k2
  obtain ⟨y2, g2⟩ : ∃ y, DataW.trod enc Tryz.prog w base spare held k 4 [v2] = some y := ⟨xs[2]'(by rw [hxl]; decide), k2.trans (List.getElem?_eq_getElem _)⟩
  obtain ⟨A0, n0, c0, x0, e0, s0⟩ := open_sliceR (R := StrR) (sz := 1) Tryz.underlying67 (by kernel_rfl) (by decide) (fun n cs y h => open_strR Tryz.underlying9 h) g0
  obtain rfl : v0 = .slice A0 n0 c0 := by simpa using e0
  obtain ⟨A1, n1, c1, x1, e1, s1⟩ := open_sliceR (R := WaitR) (sz := 2) Tryz.underlying81 (by kernel_rfl) (by decide) (fun n cs y h => openWait h) g1
  obtain rfl : v1 = .slice A1 n1 c1 := by simpa using e1
  obtain ⟨x2, e2, _⟩ := DataW.trod_bool Tryz.underlying4 g2
  obtain rfl : v2 = .bool x2 := by simpa using e2
  exact ⟨(x0, x1, x2), ⟨A0, n0, c0, A1, n1, c1, rfl, s0, s1⟩, rfl⟩

theorem openRaid {H : Type} {enc : TypeId × Value → H} {w : World} {base : Nat} {spare : Nat → Bool} {held : Bool} {fuel : Nat} {cs : List Value} {y : DataW H × List MemPlace}
  (h : DataW.trod enc Tryz.prog w base spare held fuel 39 cs = some y) : ∃ x, RaidR w 0 w.heap.size cs x ∧ cs.length = 1 := by
  obtain ⟨xs, k, _, _, hl, hxl, hg⟩ := DataW.trod_struct Tryz.underlying39 h
  have hl : cs.length = 1 := hl.trans (by kernel_rfl)
  obtain ⟨v0, rfl⟩ := list1 hl
  clear hl h
  have z0 : Tryz.prog.cellsOf 37 = 1 := by kernel_rfl
  have k0 : DataW.trod enc Tryz.prog w base spare held k 37 (List.take (Tryz.prog.cellsOf 37) (List.drop 0 [v0])) = xs[0]? := hg 0 _ rfl
  rw [z0] at k0
  simp only [List.drop_succ_cons, List.drop_zero, List.take_succ_cons, List.take_zero] at k0
  obtain ⟨y0, g0⟩ : ∃ y, DataW.trod enc Tryz.prog w base spare held k 37 [v0] = some y := ⟨xs[0]'(by rw [hxl]; decide), k0.trans (List.getElem?_eq_getElem _)⟩
  obtain ⟨A0, n0, c0, x0, e0, s0⟩ := open_sliceR (R := DiskR) (sz := 3) Tryz.underlying37 (by kernel_rfl) (by decide) (fun n cs y h => openDisk h) g0
  obtain rfl : v0 = .slice A0 n0 c0 := by simpa using e0
  exact ⟨x0, ⟨A0, n0, c0, rfl, s0⟩, rfl⟩



end Go.Proofs.YtggdjiklgakfnaaGreatDoor
