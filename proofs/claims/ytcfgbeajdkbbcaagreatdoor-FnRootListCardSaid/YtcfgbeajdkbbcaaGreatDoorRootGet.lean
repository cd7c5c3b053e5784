/- RootGet both: the root that a text is the text of. Condition: the variables that the library reads lie as the row says; the text is at most 2^40 bytes. -/
import Derived.Test.YtcfgbeajdkbbcaaGreatDoorTreeOf
import Derived.Test.YtcfgbeajdkbbcaaGreatDoorRootPlain
namespace Go.Proofs.YtcfgbeajdkbbcaaGreatDoor
set_option linter.unusedVariables false
set_option linter.unusedSimpArgs false
set_option linter.unnecessarySimpa false
open Go Go.Lib Go.RowKit

theorem GotNum_def (s : Str) (w : World) : GotNum s w = fun e w' => e = .returned (.tuple #[.int .i64 (((numGet s).getD 0 : Nat) : Int), .bool (numGet s).isSome]) ∧ Below w.heap.size w w' := rfl
def GotRoot (s : Str) (w : World) (e : Ending) (w' : World) : Prop :=
  ∃ (t a b c d l dd n : Int) (ok : Bool), e = .returned (.tuple #[.agg #[.int .i64 t, .int .i64 a, .int .i64 b, .int .i64 c, .int .i64 d, .int .i64 l, .int .i64 dd, .int .i64 n], .bool ok]) ∧ rootIs s t a b c d l dd n ok ∧ Below w.heap.size w w'
theorem strs6 {xs : List Str} (h : xs.length = 6) : ∃ x0 x1 x2 x3 x4 x5, xs = [x0, x1, x2, x3, x4, x5] := by
  match xs, h with
  | [x0, x1, x2, x3, x4, x5], _ => exact ⟨x0, x1, x2, x3, x4, x5, rfl⟩
theorem rec_le {s : Str} {l : List Str} (h : IsRec s l) {f : Str} (hf : f ∈ l) : f.length ≤ 2048 := by
  have := encs_mem hf
  rw [h.1] at this
  have := h.2.2
  omega
set_option maxRecDepth 100000 in
set_option maxHeartbeats 4000000 in
theorem rootGet_any (s : Str) (w : World) (he : Env w) (hs : s.length ≤ 1099511627776) : Calls Tryz.prog 49 #[.string (strB s)] w (GotRoot s w) := by
  go_enter Tryz.func49, Tryz.ntmps49
  go_wp2_with fail
  refine (fieldsGet_any s _ (he.below (Below.alloc (Below.refl _ _) (by first | exact Nat.le_refl _ | (simp [World.setCell] <;> omega)) _)) hs).mono ?_
  rintro e w1 (⟨fl, A, cp, hR, rfl, hI, hb1⟩ | ⟨hno, ⟨A, cp, rfl⟩, hb1⟩)
  case inr =>
    have HNO := Lib.hid (root_no hno); clear hno
    have zz1 : w.heap.size + 1 ≤ w1.heap.size := by have := hb1.size; simp [World.setCell] at this; omega
    have YY1 : Below w.heap.size w (World.alloc w (.cells #[.int .i64 0, .int .i64 0, .int .i64 0, .int .i64 0, .int .i64 0, .int .i64 0, .int .i64 0, .int .i64 0] 31)) := (Below.alloc (Below.refl _ _) (by first | exact Nat.le_refl _ | (simp [World.setCell] <;> omega)) _)
    have X1 : Below w.heap.size w w1 := YY1.trans (hb1.mono YY1.size)
    clear YY1
    have b1_0 : Hid (w1.heap[w.heap.size]? = some (.cells #[.int .i64 0, .int .i64 0, .int .i64 0, .int .i64 0, .int .i64 0, .int .i64 0, .int .i64 0, .int .i64 0] 31 (0, 0))) := Lib.hid ((hb1.block _ (by first | omega | (simp [World.setCell] <;> omega))).trans (show _ from by have := heap_alloc_new w (.cells #[.int .i64 0, .int .i64 0, .int .i64 0, .int .i64 0, .int .i64 0, .int .i64 0, .int .i64 0, .int .i64 0] 31); simpa [World.setCell] using this))
    clear hb1
    have l1_0 : w.heap.size < w1.heap.size := (Array.getElem?_eq_some_iff.1 b1_0.out).1
    have c1_0_0 : w1.cell? ⟨w.heap.size, 0, none⟩ = some (.int .i64 0) := cell_of_row _ _ 0 _ _ (0, 0) b1_0.out
    have f1_0_0 : w1.frozen? ⟨w.heap.size, 0, none⟩ = false := block_free b1_0.out _
    have c1_0_1 : w1.cell? ⟨w.heap.size, 1, none⟩ = some (.int .i64 0) := cell_of_row _ _ 1 _ _ (0, 0) b1_0.out
    have f1_0_1 : w1.frozen? ⟨w.heap.size, 1, none⟩ = false := block_free b1_0.out _
    have c1_0_2 : w1.cell? ⟨w.heap.size, 2, none⟩ = some (.int .i64 0) := cell_of_row _ _ 2 _ _ (0, 0) b1_0.out
    have f1_0_2 : w1.frozen? ⟨w.heap.size, 2, none⟩ = false := block_free b1_0.out _
    have c1_0_3 : w1.cell? ⟨w.heap.size, 3, none⟩ = some (.int .i64 0) := cell_of_row _ _ 3 _ _ (0, 0) b1_0.out
    have f1_0_3 : w1.frozen? ⟨w.heap.size, 3, none⟩ = false := block_free b1_0.out _
    have c1_0_4 : w1.cell? ⟨w.heap.size, 4, none⟩ = some (.int .i64 0) := cell_of_row _ _ 4 _ _ (0, 0) b1_0.out
    have f1_0_4 : w1.frozen? ⟨w.heap.size, 4, none⟩ = false := block_free b1_0.out _
    have c1_0_5 : w1.cell? ⟨w.heap.size, 5, none⟩ = some (.int .i64 0) := cell_of_row _ _ 5 _ _ (0, 0) b1_0.out
    have f1_0_5 : w1.frozen? ⟨w.heap.size, 5, none⟩ = false := block_free b1_0.out _
    have c1_0_6 : w1.cell? ⟨w.heap.size, 6, none⟩ = some (.int .i64 0) := cell_of_row _ _ 6 _ _ (0, 0) b1_0.out
    have f1_0_6 : w1.frozen? ⟨w.heap.size, 6, none⟩ = false := block_free b1_0.out _
    have c1_0_7 : w1.cell? ⟨w.heap.size, 7, none⟩ = some (.int .i64 0) := cell_of_row _ _ 7 _ _ (0, 0) b1_0.out
    have f1_0_7 : w1.frozen? ⟨w.heap.size, 7, none⟩ = false := block_free b1_0.out _
    have HRR : Hid ((w1).heap[w.heap.size]? = some (.cells #[.int .i64 0, .int .i64 0, .int .i64 0, .int .i64 0, .int .i64 0, .int .i64 0, .int .i64 0, .int .i64 0] 31 (0, 0))) := Lib.hid (b1_0.out)
    have HBL : Hid (Below w.heap.size w w1) := Lib.hid X1
    go_wp2_with fail
    have hst := set_8 (x0 := .int .i64 0) (x1 := .int .i64 0) (x2 := .int .i64 0) (x3 := .int .i64 0) (x4 := .int .i64 0) (x5 := .int .i64 0) (x6 := .int .i64 0) (x7 := .int .i64 0) HRR.out
    have r0 := cell_of_row _ _ 0 _ _ (0, 0) hst
    have r1 := cell_of_row _ _ 1 _ _ (0, 0) hst
    have r2 := cell_of_row _ _ 2 _ _ (0, 0) hst
    have r3 := cell_of_row _ _ 3 _ _ (0, 0) hst
    have r4 := cell_of_row _ _ 4 _ _ (0, 0) hst
    have r5 := cell_of_row _ _ 5 _ _ (0, 0) hst
    have r6 := cell_of_row _ _ 6 _ _ (0, 0) hst
    have r7 := cell_of_row _ _ 7 _ _ (0, 0) hst
    clear hst
    exact bodyPost_ret (v := .tuple #[.agg #[.int .i64 0, .int .i64 0, .int .i64 0, .int .i64 0, .int .i64 0, .int .i64 0, .int .i64 0, .int .i64 0], .bool false]) (by simp [results, Tryz.results49, go_sem, r0, r1, r2, r3, r4, r5, r6, r7]) rfl (⟨_, _, _, _, _, _, _, _, _, rfl, HNO.out, (Below.setCell (p := ⟨w.heap.size, 7, none⟩) (Below.setCell (p := ⟨w.heap.size, 6, none⟩) (Below.setCell (p := ⟨w.heap.size, 5, none⟩) (Below.setCell (p := ⟨w.heap.size, 4, none⟩) (Below.setCell (p := ⟨w.heap.size, 3, none⟩) (Below.setCell (p := ⟨w.heap.size, 2, none⟩) (Below.setCell (p := ⟨w.heap.size, 1, none⟩) (Below.setCell (p := ⟨w.heap.size, 0, none⟩) HBL.out (Nat.le_refl _) _) (Nat.le_refl _) _) (Nat.le_refl _) _) (Nat.le_refl _) _) (Nat.le_refl _) _) (Nat.le_refl _) _) (Nat.le_refl _) _) (Nat.le_refl _) _)⟩)
  have HR := Lib.hid hR; clear hR
  have HI1 := Lib.hid hI; clear hI
  have zz1 : w.heap.size + 1 ≤ w1.heap.size := by have := hb1.size; simp [World.setCell] at this; omega
  have YY1 : Below w.heap.size w (World.alloc w (.cells #[.int .i64 0, .int .i64 0, .int .i64 0, .int .i64 0, .int .i64 0, .int .i64 0, .int .i64 0, .int .i64 0] 31)) := (Below.alloc (Below.refl _ _) (by first | exact Nat.le_refl _ | (simp [World.setCell] <;> omega)) _)
  have X1 : Below w.heap.size w w1 := YY1.trans (hb1.mono YY1.size)
  clear YY1
  have b1_0 : Hid (w1.heap[w.heap.size]? = some (.cells #[.int .i64 0, .int .i64 0, .int .i64 0, .int .i64 0, .int .i64 0, .int .i64 0, .int .i64 0, .int .i64 0] 31 (0, 0))) := Lib.hid ((hb1.block _ (by first | omega | (simp [World.setCell] <;> omega))).trans (show _ from by have := heap_alloc_new w (.cells #[.int .i64 0, .int .i64 0, .int .i64 0, .int .i64 0, .int .i64 0, .int .i64 0, .int .i64 0, .int .i64 0] 31); simpa [World.setCell] using this))
  clear hb1
  have l1_0 : w.heap.size < w1.heap.size := (Array.getElem?_eq_some_iff.1 b1_0.out).1
  have c1_0_0 : w1.cell? ⟨w.heap.size, 0, none⟩ = some (.int .i64 0) := cell_of_row _ _ 0 _ _ (0, 0) b1_0.out
  have f1_0_0 : w1.frozen? ⟨w.heap.size, 0, none⟩ = false := block_free b1_0.out _
  have c1_0_1 : w1.cell? ⟨w.heap.size, 1, none⟩ = some (.int .i64 0) := cell_of_row _ _ 1 _ _ (0, 0) b1_0.out
  have f1_0_1 : w1.frozen? ⟨w.heap.size, 1, none⟩ = false := block_free b1_0.out _
  have c1_0_2 : w1.cell? ⟨w.heap.size, 2, none⟩ = some (.int .i64 0) := cell_of_row _ _ 2 _ _ (0, 0) b1_0.out
  have f1_0_2 : w1.frozen? ⟨w.heap.size, 2, none⟩ = false := block_free b1_0.out _
  have c1_0_3 : w1.cell? ⟨w.heap.size, 3, none⟩ = some (.int .i64 0) := cell_of_row _ _ 3 _ _ (0, 0) b1_0.out
  have f1_0_3 : w1.frozen? ⟨w.heap.size, 3, none⟩ = false := block_free b1_0.out _
  have c1_0_4 : w1.cell? ⟨w.heap.size, 4, none⟩ = some (.int .i64 0) := cell_of_row _ _ 4 _ _ (0, 0) b1_0.out
  have f1_0_4 : w1.frozen? ⟨w.heap.size, 4, none⟩ = false := block_free b1_0.out _
  have c1_0_5 : w1.cell? ⟨w.heap.size, 5, none⟩ = some (.int .i64 0) := cell_of_row _ _ 5 _ _ (0, 0) b1_0.out
  have f1_0_5 : w1.frozen? ⟨w.heap.size, 5, none⟩ = false := block_free b1_0.out _
  have c1_0_6 : w1.cell? ⟨w.heap.size, 6, none⟩ = some (.int .i64 0) := cell_of_row _ _ 6 _ _ (0, 0) b1_0.out
  have f1_0_6 : w1.frozen? ⟨w.heap.size, 6, none⟩ = false := block_free b1_0.out _
  have c1_0_7 : w1.cell? ⟨w.heap.size, 7, none⟩ = some (.int .i64 0) := cell_of_row _ _ 7 _ _ (0, 0) b1_0.out
  have f1_0_7 : w1.frozen? ⟨w.heap.size, 7, none⟩ = false := block_free b1_0.out _
  by_cases hl : fl.length = 6
  case neg =>
    have HNO := Lib.hid (root_len HR.out hl)
    have hnb : ((fl.length : Int) == 6) = false := by simp; omega
    have hnc : ¬ (fl.length : Int) = 6 := by omega
    clear hl
    have HRR : Hid ((w1).heap[w.heap.size]? = some (.cells #[.int .i64 0, .int .i64 0, .int .i64 0, .int .i64 0, .int .i64 0, .int .i64 0, .int .i64 0, .int .i64 0] 31 (0, 0))) := Lib.hid (b1_0.out)
    have HBL : Hid (Below w.heap.size w w1) := Lib.hid X1
    go_wp2_with fail
    have hst := set_8 (x0 := .int .i64 0) (x1 := .int .i64 0) (x2 := .int .i64 0) (x3 := .int .i64 0) (x4 := .int .i64 0) (x5 := .int .i64 0) (x6 := .int .i64 0) (x7 := .int .i64 0) HRR.out
    have r0 := cell_of_row _ _ 0 _ _ (0, 0) hst
    have r1 := cell_of_row _ _ 1 _ _ (0, 0) hst
    have r2 := cell_of_row _ _ 2 _ _ (0, 0) hst
    have r3 := cell_of_row _ _ 3 _ _ (0, 0) hst
    have r4 := cell_of_row _ _ 4 _ _ (0, 0) hst
    have r5 := cell_of_row _ _ 5 _ _ (0, 0) hst
    have r6 := cell_of_row _ _ 6 _ _ (0, 0) hst
    have r7 := cell_of_row _ _ 7 _ _ (0, 0) hst
    clear hst
    exact bodyPost_ret (v := .tuple #[.agg #[.int .i64 0, .int .i64 0, .int .i64 0, .int .i64 0, .int .i64 0, .int .i64 0, .int .i64 0, .int .i64 0], .bool false]) (by simp [results, Tryz.results49, go_sem, r0, r1, r2, r3, r4, r5, r6, r7]) rfl (⟨_, _, _, _, _, _, _, _, _, rfl, HNO.out, (Below.setCell (p := ⟨w.heap.size, 7, none⟩) (Below.setCell (p := ⟨w.heap.size, 6, none⟩) (Below.setCell (p := ⟨w.heap.size, 5, none⟩) (Below.setCell (p := ⟨w.heap.size, 4, none⟩) (Below.setCell (p := ⟨w.heap.size, 3, none⟩) (Below.setCell (p := ⟨w.heap.size, 2, none⟩) (Below.setCell (p := ⟨w.heap.size, 1, none⟩) (Below.setCell (p := ⟨w.heap.size, 0, none⟩) HBL.out (Nat.le_refl _) _) (Nat.le_refl _) _) (Nat.le_refl _) _) (Nat.le_refl _) _) (Nat.le_refl _) _) (Nat.le_refl _) _) (Nat.le_refl _) _) (Nat.le_refl _) _)⟩)
  obtain ⟨y0, y1, y2, y3, y4, y5, rfl⟩ := strs6 hl
  rw [hl]
  have hcp : 6 ≤ cp := HI1.out.le
  have hc2 : ¬ cp = 2 := by omega
  obtain ⟨g, rfl, hgB, lg1, e1⟩ := HI1.out.cellB (j := 1) rfl
  obtain ⟨g2, e2', _, _, e2⟩ := HI1.out.cellB (j := 2) rfl
  obtain ⟨g3, e3', _, _, e3⟩ := HI1.out.cellB (j := 3) rfl
  obtain ⟨g4, e4', _, _, e4⟩ := HI1.out.cellB (j := 4) rfl
  injection e2' with e2'; injection e2' with e2'; subst e2'
  injection e3' with e3'; injection e3' with e3'; subst e3'
  injection e4' with e4'; injection e4' with e4'; subst e4'
  have hl1 := rec_le HR.out (f := y1) (by simp)
  have hl2 := rec_le HR.out (f := y2) (by simp)
  have hl3 := rec_le HR.out (f := y3) (by simp)
  have hl4 := rec_le HR.out (f := y4) (by simp)
  have E2 := Lib.hid e2; have E3 := Lib.hid e3; have E4 := Lib.hid e4
  clear hl HI1 e2 e3 e4
  obtain ⟨n1, hn1⟩ : ∃ n, n = (numGet y1).getD 0 := ⟨_, rfl⟩
  obtain ⟨b1, hb1'⟩ : ∃ n, n = (numGet y1).isSome := ⟨_, rfl⟩
  obtain ⟨n3, hn3⟩ : ∃ n, n = (numGet y3).getD 0 := ⟨_, rfl⟩
  obtain ⟨n4, hn4⟩ : ∃ n, n = (numGet y4).getD 0 := ⟨_, rfl⟩
  have HN1 := Lib.hid hn1; have HBB1 := Lib.hid hb1'; have HN3 := Lib.hid hn3; have HN4 := Lib.hid hn4
  clear hn1 hb1' hn3 hn4
  have cc1 : ((2 : Int) ≤ (5 : Int)) := by omega
  have cc2 : ((5 : Int) ≤ (cp : Int)) := by omega
  go_wp2_with fail
  refine (numGet_any y1 _ (he.below X1) (by omega)).mono ?_
  rw [GotNum_def, ← HN1.out, ← HBB1.out]
  rintro e w2 ⟨rfl, hb2⟩
  have E2 := Lib.hid ((hb2.cell lg1).trans E2.out); have E3 := Lib.hid ((hb2.cell lg1).trans E3.out); have E4 := Lib.hid ((hb2.cell lg1).trans E4.out)
  have lg2 := Nat.lt_of_lt_of_le lg1 hb2.size
  have zz2 : w1.heap.size ≤ w2.heap.size := by have := hb2.size; simpa [World.setCell] using this
  have YY2 : Below w.heap.size w w1 := X1
  have X2 : Below w.heap.size w w2 := YY2.trans (hb2.mono YY2.size)
  clear YY2
  have b2_0 : Hid (w2.heap[w.heap.size]? = some (.cells #[.int .i64 0, .int .i64 0, .int .i64 0, .int .i64 0, .int .i64 0, .int .i64 0, .int .i64 0, .int .i64 0] 31 (0, 0))) := Lib.hid ((hb2.block _ (by first | omega | (simp [World.setCell] <;> omega))).trans b1_0.out)
  clear b1_0 X1 zz1 l1_0 c1_0_0 f1_0_0 c1_0_1 f1_0_1 c1_0_2 f1_0_2 c1_0_3 f1_0_3 c1_0_4 f1_0_4 c1_0_5 f1_0_5 c1_0_6 f1_0_6 c1_0_7 f1_0_7 hb2
  have l2_0 : w.heap.size < w2.heap.size := (Array.getElem?_eq_some_iff.1 b2_0.out).1
  have c2_0_0 : w2.cell? ⟨w.heap.size, 0, none⟩ = some (.int .i64 0) := cell_of_row _ _ 0 _ _ (0, 0) b2_0.out
  have f2_0_0 : w2.frozen? ⟨w.heap.size, 0, none⟩ = false := block_free b2_0.out _
  have c2_0_1 : w2.cell? ⟨w.heap.size, 1, none⟩ = some (.int .i64 0) := cell_of_row _ _ 1 _ _ (0, 0) b2_0.out
  have f2_0_1 : w2.frozen? ⟨w.heap.size, 1, none⟩ = false := block_free b2_0.out _
  have c2_0_2 : w2.cell? ⟨w.heap.size, 2, none⟩ = some (.int .i64 0) := cell_of_row _ _ 2 _ _ (0, 0) b2_0.out
  have f2_0_2 : w2.frozen? ⟨w.heap.size, 2, none⟩ = false := block_free b2_0.out _
  have c2_0_3 : w2.cell? ⟨w.heap.size, 3, none⟩ = some (.int .i64 0) := cell_of_row _ _ 3 _ _ (0, 0) b2_0.out
  have f2_0_3 : w2.frozen? ⟨w.heap.size, 3, none⟩ = false := block_free b2_0.out _
  have c2_0_4 : w2.cell? ⟨w.heap.size, 4, none⟩ = some (.int .i64 0) := cell_of_row _ _ 4 _ _ (0, 0) b2_0.out
  have f2_0_4 : w2.frozen? ⟨w.heap.size, 4, none⟩ = false := block_free b2_0.out _
  have c2_0_5 : w2.cell? ⟨w.heap.size, 5, none⟩ = some (.int .i64 0) := cell_of_row _ _ 5 _ _ (0, 0) b2_0.out
  have f2_0_5 : w2.frozen? ⟨w.heap.size, 5, none⟩ = false := block_free b2_0.out _
  have c2_0_6 : w2.cell? ⟨w.heap.size, 6, none⟩ = some (.int .i64 0) := cell_of_row _ _ 6 _ _ (0, 0) b2_0.out
  have f2_0_6 : w2.frozen? ⟨w.heap.size, 6, none⟩ = false := block_free b2_0.out _
  have c2_0_7 : w2.cell? ⟨w.heap.size, 7, none⟩ = some (.int .i64 0) := cell_of_row _ _ 7 _ _ (0, 0) b2_0.out
  have f2_0_7 : w2.frozen? ⟨w.heap.size, 7, none⟩ = false := block_free b2_0.out _
  clear e1
  go_wp2_with fail
  refine (treeOf_any g 2 _ y2 y3 y4 _ (he.below X2) E2.out E3.out E4.out (by omega) (by omega) (by omega)).mono ?_
  obtain ⟨b3, hb3'⟩ : ∃ n, n = (numGet y3).isSome := ⟨_, rfl⟩
  obtain ⟨b4, hb4'⟩ : ∃ n, n = (numGet y4).isSome := ⟨_, rfl⟩
  have HBB3 := Lib.hid hb3'; have HBB4 := Lib.hid hb4'
  rintro e w3 ⟨a, b, c, d, l, ok, hp, rfl, hb3⟩
  rw [← HN3.out, ← HN4.out, ← hb3', ← hb4']
  clear hb3' hb4'
  have HSIX : Hid (Six s (numGet y1) a b c d l ok (numGet y3) (numGet y4)) := Lib.hid ⟨y0, y1, y2, y3, y4, y5, HR.out, rfl, hp, rfl, rfl⟩
  clear hp
  have zz3 : w2.heap.size ≤ w3.heap.size := by have := hb3.size; simpa [World.setCell] using this
  have YY3 : Below w.heap.size w w2 := X2
  have X3 : Below w.heap.size w w3 := YY3.trans (hb3.mono YY3.size)
  clear YY3
  have b3_0 : Hid (w3.heap[w.heap.size]? = some (.cells #[.int .i64 0, .int .i64 0, .int .i64 0, .int .i64 0, .int .i64 0, .int .i64 0, .int .i64 0, .int .i64 0] 31 (0, 0))) := Lib.hid ((hb3.block _ (by first | omega | (simp [World.setCell] <;> omega))).trans b2_0.out)
  clear b2_0 X2 zz2 l2_0 c2_0_0 f2_0_0 c2_0_1 f2_0_1 c2_0_2 f2_0_2 c2_0_3 f2_0_3 c2_0_4 f2_0_4 c2_0_5 f2_0_5 c2_0_6 f2_0_6 c2_0_7 f2_0_7 hb3
  have l3_0 : w.heap.size < w3.heap.size := (Array.getElem?_eq_some_iff.1 b3_0.out).1
  have c3_0_0 : w3.cell? ⟨w.heap.size, 0, none⟩ = some (.int .i64 0) := cell_of_row _ _ 0 _ _ (0, 0) b3_0.out
  have f3_0_0 : w3.frozen? ⟨w.heap.size, 0, none⟩ = false := block_free b3_0.out _
  have c3_0_1 : w3.cell? ⟨w.heap.size, 1, none⟩ = some (.int .i64 0) := cell_of_row _ _ 1 _ _ (0, 0) b3_0.out
  have f3_0_1 : w3.frozen? ⟨w.heap.size, 1, none⟩ = false := block_free b3_0.out _
  have c3_0_2 : w3.cell? ⟨w.heap.size, 2, none⟩ = some (.int .i64 0) := cell_of_row _ _ 2 _ _ (0, 0) b3_0.out
  have f3_0_2 : w3.frozen? ⟨w.heap.size, 2, none⟩ = false := block_free b3_0.out _
  have c3_0_3 : w3.cell? ⟨w.heap.size, 3, none⟩ = some (.int .i64 0) := cell_of_row _ _ 3 _ _ (0, 0) b3_0.out
  have f3_0_3 : w3.frozen? ⟨w.heap.size, 3, none⟩ = false := block_free b3_0.out _
  have c3_0_4 : w3.cell? ⟨w.heap.size, 4, none⟩ = some (.int .i64 0) := cell_of_row _ _ 4 _ _ (0, 0) b3_0.out
  have f3_0_4 : w3.frozen? ⟨w.heap.size, 4, none⟩ = false := block_free b3_0.out _
  have c3_0_5 : w3.cell? ⟨w.heap.size, 5, none⟩ = some (.int .i64 0) := cell_of_row _ _ 5 _ _ (0, 0) b3_0.out
  have f3_0_5 : w3.frozen? ⟨w.heap.size, 5, none⟩ = false := block_free b3_0.out _
  have c3_0_6 : w3.cell? ⟨w.heap.size, 6, none⟩ = some (.int .i64 0) := cell_of_row _ _ 6 _ _ (0, 0) b3_0.out
  have f3_0_6 : w3.frozen? ⟨w.heap.size, 6, none⟩ = false := block_free b3_0.out _
  have c3_0_7 : w3.cell? ⟨w.heap.size, 7, none⟩ = some (.int .i64 0) := cell_of_row _ _ 7 _ _ (0, 0) b3_0.out
  have f3_0_7 : w3.frozen? ⟨w.heap.size, 7, none⟩ = false := block_free b3_0.out _
  obtain ⟨okt, hokt⟩ : ∃ x, x = (ok && b3 && b4) := ⟨_, rfl⟩
  rw [← hokt]
  have HOKT := Lib.hid hokt; clear hokt E2 E3 E4 lg1 lg2
  cases b1
  case false =>
    have HNO := Lib.hid (HSIX.out.bad (fun h => by have := HBB1.out; rw [h.1] at this; cases this))
    have HRR : Hid ((w3).heap[w.heap.size]? = some (.cells #[.int .i64 0, .int .i64 0, .int .i64 0, .int .i64 0, .int .i64 0, .int .i64 0, .int .i64 0, .int .i64 0] 31 (0, 0))) := Lib.hid (b3_0.out)
    have HBL : Hid (Below w.heap.size w w3) := Lib.hid X3
    go_wp2_with fail
    have hst := set_8 (x0 := .int .i64 0) (x1 := .int .i64 0) (x2 := .int .i64 0) (x3 := .int .i64 0) (x4 := .int .i64 0) (x5 := .int .i64 0) (x6 := .int .i64 0) (x7 := .int .i64 0) HRR.out
    have hst := (Below.heap_alloc _ (.cells #[.int .i64 a, .int .i64 b, .int .i64 c, .int .i64 d, .int .i64 l, .int .i64 (n3 : Int), .int .i64 (n4 : Int)] 29) _ (Array.getElem?_eq_some_iff.1 hst).1).trans hst
    have hst := (Below.heap_alloc _ (.cells #[.int .i64 (n1 : Int), .int .i64 a, .int .i64 b, .int .i64 c, .int .i64 d, .int .i64 l, .int .i64 (n3 : Int), .int .i64 (n4 : Int)] 31) _ (Array.getElem?_eq_some_iff.1 hst).1).trans hst
    have r0 := cell_of_row _ _ 0 _ _ (0, 0) hst
    have r1 := cell_of_row _ _ 1 _ _ (0, 0) hst
    have r2 := cell_of_row _ _ 2 _ _ (0, 0) hst
    have r3 := cell_of_row _ _ 3 _ _ (0, 0) hst
    have r4 := cell_of_row _ _ 4 _ _ (0, 0) hst
    have r5 := cell_of_row _ _ 5 _ _ (0, 0) hst
    have r6 := cell_of_row _ _ 6 _ _ (0, 0) hst
    have r7 := cell_of_row _ _ 7 _ _ (0, 0) hst
    clear hst
    exact bodyPost_ret (v := .tuple #[.agg #[.int .i64 0, .int .i64 0, .int .i64 0, .int .i64 0, .int .i64 0, .int .i64 0, .int .i64 0, .int .i64 0], .bool false]) (by simp [results, Tryz.results49, go_sem, r0, r1, r2, r3, r4, r5, r6, r7]) rfl (⟨_, _, _, _, _, _, _, _, _, rfl, HNO.out, (Below.alloc (Below.alloc (Below.setCell (p := ⟨w.heap.size, 7, none⟩) (Below.setCell (p := ⟨w.heap.size, 6, none⟩) (Below.setCell (p := ⟨w.heap.size, 5, none⟩) (Below.setCell (p := ⟨w.heap.size, 4, none⟩) (Below.setCell (p := ⟨w.heap.size, 3, none⟩) (Below.setCell (p := ⟨w.heap.size, 2, none⟩) (Below.setCell (p := ⟨w.heap.size, 1, none⟩) (Below.setCell (p := ⟨w.heap.size, 0, none⟩) HBL.out (Nat.le_refl _) _) (Nat.le_refl _) _) (Nat.le_refl _) _) (Nat.le_refl _) _) (Nat.le_refl _) _) (Nat.le_refl _) _) (Nat.le_refl _) _) (Nat.le_refl _) _) (by have hz := (HBL.out).size; simp [World.setCell] <;> omega) _) (by have hz := (HBL.out).size; simp [World.setCell] <;> omega) _)⟩)
  cases okt
  case false =>
    have HNO := Lib.hid (HSIX.out.bad (fun h => by have := HOKT.out; rw [HBB3.out, HBB4.out, h.2.1, h.2.2.1, h.2.2.2] at this; cases this))
    have HRR : Hid ((w3).heap[w.heap.size]? = some (.cells #[.int .i64 0, .int .i64 0, .int .i64 0, .int .i64 0, .int .i64 0, .int .i64 0, .int .i64 0, .int .i64 0] 31 (0, 0))) := Lib.hid (b3_0.out)
    have HBL : Hid (Below w.heap.size w w3) := Lib.hid X3
    go_wp2_with fail
    have hst := set_8 (x0 := .int .i64 0) (x1 := .int .i64 0) (x2 := .int .i64 0) (x3 := .int .i64 0) (x4 := .int .i64 0) (x5 := .int .i64 0) (x6 := .int .i64 0) (x7 := .int .i64 0) HRR.out
    have hst := (Below.heap_alloc _ (.cells #[.int .i64 a, .int .i64 b, .int .i64 c, .int .i64 d, .int .i64 l, .int .i64 (n3 : Int), .int .i64 (n4 : Int)] 29) _ (Array.getElem?_eq_some_iff.1 hst).1).trans hst
    have hst := (Below.heap_alloc _ (.cells #[.int .i64 (n1 : Int), .int .i64 a, .int .i64 b, .int .i64 c, .int .i64 d, .int .i64 l, .int .i64 (n3 : Int), .int .i64 (n4 : Int)] 31) _ (Array.getElem?_eq_some_iff.1 hst).1).trans hst
    have r0 := cell_of_row _ _ 0 _ _ (0, 0) hst
    have r1 := cell_of_row _ _ 1 _ _ (0, 0) hst
    have r2 := cell_of_row _ _ 2 _ _ (0, 0) hst
    have r3 := cell_of_row _ _ 3 _ _ (0, 0) hst
    have r4 := cell_of_row _ _ 4 _ _ (0, 0) hst
    have r5 := cell_of_row _ _ 5 _ _ (0, 0) hst
    have r6 := cell_of_row _ _ 6 _ _ (0, 0) hst
    have r7 := cell_of_row _ _ 7 _ _ (0, 0) hst
    clear hst
    exact bodyPost_ret (v := .tuple #[.agg #[.int .i64 0, .int .i64 0, .int .i64 0, .int .i64 0, .int .i64 0, .int .i64 0, .int .i64 0, .int .i64 0], .bool false]) (by simp [results, Tryz.results49, go_sem, r0, r1, r2, r3, r4, r5, r6, r7]) rfl (⟨_, _, _, _, _, _, _, _, _, rfl, HNO.out, (Below.alloc (Below.alloc (Below.setCell (p := ⟨w.heap.size, 7, none⟩) (Below.setCell (p := ⟨w.heap.size, 6, none⟩) (Below.setCell (p := ⟨w.heap.size, 5, none⟩) (Below.setCell (p := ⟨w.heap.size, 4, none⟩) (Below.setCell (p := ⟨w.heap.size, 3, none⟩) (Below.setCell (p := ⟨w.heap.size, 2, none⟩) (Below.setCell (p := ⟨w.heap.size, 1, none⟩) (Below.setCell (p := ⟨w.heap.size, 0, none⟩) HBL.out (Nat.le_refl _) _) (Nat.le_refl _) _) (Nat.le_refl _) _) (Nat.le_refl _) _) (Nat.le_refl _) _) (Nat.le_refl _) _) (Nat.le_refl _) _) (Nat.le_refl _) _) (by have hz := (HBL.out).size; simp [World.setCell] <;> omega) _) (by have hz := (HBL.out).size; simp [World.setCell] <;> omega) _)⟩)
  go_wp2_with fail
  refine (rootPut_any (n1 : Int) a b c d l (n3 : Int) (n4 : Int) _ (he.below (Below.alloc (Below.alloc X3 (by have := X3.size; simp [World.setCell] <;> omega) _) (by have := X3.size; simp [World.setCell] <;> omega) _)).tab).mono ?_
  rintro e w4 ⟨rfl, hb4⟩
  have zz4 : w3.heap.size + 2 ≤ w4.heap.size := by have := hb4.size; simp [World.setCell] at this; omega
  have YY4 : Below w.heap.size w (World.alloc (World.alloc w3 (.cells #[.int .i64 a, .int .i64 b, .int .i64 c, .int .i64 d, .int .i64 l, .int .i64 (n3 : Int), .int .i64 (n4 : Int)] 29)) (.cells #[.int .i64 (n1 : Int), .int .i64 a, .int .i64 b, .int .i64 c, .int .i64 d, .int .i64 l, .int .i64 (n3 : Int), .int .i64 (n4 : Int)] 31)) := (Below.alloc (Below.alloc X3 (by have := X3.size; simp [World.setCell] <;> omega) _) (by have := X3.size; simp [World.setCell] <;> omega) _)
  have X4 : Below w.heap.size w w4 := YY4.trans (hb4.mono YY4.size)
  clear YY4
  have b4_0 : Hid (w4.heap[w.heap.size]? = some (.cells #[.int .i64 0, .int .i64 0, .int .i64 0, .int .i64 0, .int .i64 0, .int .i64 0, .int .i64 0, .int .i64 0] 31 (0, 0))) := Lib.hid ((hb4.block _ (by first | omega | (simp [World.setCell] <;> omega))).trans ((Below.heap_alloc _ _ _ (by first | omega | (simp [World.setCell] <;> omega))).trans ((Below.heap_alloc _ _ _ (by first | omega | (simp [World.setCell] <;> omega))).trans b3_0.out)))
  have b4_1 : Hid (w4.heap[w3.heap.size]? = some (.cells #[.int .i64 a, .int .i64 b, .int .i64 c, .int .i64 d, .int .i64 l, .int .i64 (n3 : Int), .int .i64 (n4 : Int)] 29 (0, 0))) := Lib.hid ((hb4.block _ (by first | omega | (simp [World.setCell] <;> omega))).trans ((Below.heap_alloc _ _ _ (by first | omega | (simp [World.setCell] <;> omega))).trans (show _ from by have := heap_alloc_new w3 (.cells #[.int .i64 a, .int .i64 b, .int .i64 c, .int .i64 d, .int .i64 l, .int .i64 (n3 : Int), .int .i64 (n4 : Int)] 29); simpa [World.setCell] using this)))
  have b4_2 : Hid (w4.heap[w3.heap.size + 1]? = some (.cells #[.int .i64 (n1 : Int), .int .i64 a, .int .i64 b, .int .i64 c, .int .i64 d, .int .i64 l, .int .i64 (n3 : Int), .int .i64 (n4 : Int)] 31 (0, 0))) := Lib.hid ((hb4.block _ (by first | omega | (simp [World.setCell] <;> omega))).trans (show _ from by have := heap_alloc_new (World.alloc w3 (.cells #[.int .i64 a, .int .i64 b, .int .i64 c, .int .i64 d, .int .i64 l, .int .i64 (n3 : Int), .int .i64 (n4 : Int)] 29)) (.cells #[.int .i64 (n1 : Int), .int .i64 a, .int .i64 b, .int .i64 c, .int .i64 d, .int .i64 l, .int .i64 (n3 : Int), .int .i64 (n4 : Int)] 31); simpa [World.setCell] using this))
  clear b3_0 X3 zz3 l3_0 c3_0_0 f3_0_0 c3_0_1 f3_0_1 c3_0_2 f3_0_2 c3_0_3 f3_0_3 c3_0_4 f3_0_4 c3_0_5 f3_0_5 c3_0_6 f3_0_6 c3_0_7 f3_0_7 hb4
  have l4_0 : w.heap.size < w4.heap.size := (Array.getElem?_eq_some_iff.1 b4_0.out).1
  have c4_0_0 : w4.cell? ⟨w.heap.size, 0, none⟩ = some (.int .i64 0) := cell_of_row _ _ 0 _ _ (0, 0) b4_0.out
  have f4_0_0 : w4.frozen? ⟨w.heap.size, 0, none⟩ = false := block_free b4_0.out _
  have c4_0_1 : w4.cell? ⟨w.heap.size, 1, none⟩ = some (.int .i64 0) := cell_of_row _ _ 1 _ _ (0, 0) b4_0.out
  have f4_0_1 : w4.frozen? ⟨w.heap.size, 1, none⟩ = false := block_free b4_0.out _
  have c4_0_2 : w4.cell? ⟨w.heap.size, 2, none⟩ = some (.int .i64 0) := cell_of_row _ _ 2 _ _ (0, 0) b4_0.out
  have f4_0_2 : w4.frozen? ⟨w.heap.size, 2, none⟩ = false := block_free b4_0.out _
  have c4_0_3 : w4.cell? ⟨w.heap.size, 3, none⟩ = some (.int .i64 0) := cell_of_row _ _ 3 _ _ (0, 0) b4_0.out
  have f4_0_3 : w4.frozen? ⟨w.heap.size, 3, none⟩ = false := block_free b4_0.out _
  have c4_0_4 : w4.cell? ⟨w.heap.size, 4, none⟩ = some (.int .i64 0) := cell_of_row _ _ 4 _ _ (0, 0) b4_0.out
  have f4_0_4 : w4.frozen? ⟨w.heap.size, 4, none⟩ = false := block_free b4_0.out _
  have c4_0_5 : w4.cell? ⟨w.heap.size, 5, none⟩ = some (.int .i64 0) := cell_of_row _ _ 5 _ _ (0, 0) b4_0.out
  have f4_0_5 : w4.frozen? ⟨w.heap.size, 5, none⟩ = false := block_free b4_0.out _
  have c4_0_6 : w4.cell? ⟨w.heap.size, 6, none⟩ = some (.int .i64 0) := cell_of_row _ _ 6 _ _ (0, 0) b4_0.out
  have f4_0_6 : w4.frozen? ⟨w.heap.size, 6, none⟩ = false := block_free b4_0.out _
  have c4_0_7 : w4.cell? ⟨w.heap.size, 7, none⟩ = some (.int .i64 0) := cell_of_row _ _ 7 _ _ (0, 0) b4_0.out
  have f4_0_7 : w4.frozen? ⟨w.heap.size, 7, none⟩ = false := block_free b4_0.out _
  have l4_1 : w3.heap.size < w4.heap.size := (Array.getElem?_eq_some_iff.1 b4_1.out).1
  have c4_1_0 : w4.cell? ⟨w3.heap.size, 0, none⟩ = some (.int .i64 a) := cell_of_row _ _ 0 _ _ (0, 0) b4_1.out
  have f4_1_0 : w4.frozen? ⟨w3.heap.size, 0, none⟩ = false := block_free b4_1.out _
  have c4_1_1 : w4.cell? ⟨w3.heap.size, 1, none⟩ = some (.int .i64 b) := cell_of_row _ _ 1 _ _ (0, 0) b4_1.out
  have f4_1_1 : w4.frozen? ⟨w3.heap.size, 1, none⟩ = false := block_free b4_1.out _
  have c4_1_2 : w4.cell? ⟨w3.heap.size, 2, none⟩ = some (.int .i64 c) := cell_of_row _ _ 2 _ _ (0, 0) b4_1.out
  have f4_1_2 : w4.frozen? ⟨w3.heap.size, 2, none⟩ = false := block_free b4_1.out _
  have c4_1_3 : w4.cell? ⟨w3.heap.size, 3, none⟩ = some (.int .i64 d) := cell_of_row _ _ 3 _ _ (0, 0) b4_1.out
  have f4_1_3 : w4.frozen? ⟨w3.heap.size, 3, none⟩ = false := block_free b4_1.out _
  have c4_1_4 : w4.cell? ⟨w3.heap.size, 4, none⟩ = some (.int .i64 l) := cell_of_row _ _ 4 _ _ (0, 0) b4_1.out
  have f4_1_4 : w4.frozen? ⟨w3.heap.size, 4, none⟩ = false := block_free b4_1.out _
  have c4_1_5 : w4.cell? ⟨w3.heap.size, 5, none⟩ = some (.int .i64 (n3 : Int)) := cell_of_row _ _ 5 _ _ (0, 0) b4_1.out
  have f4_1_5 : w4.frozen? ⟨w3.heap.size, 5, none⟩ = false := block_free b4_1.out _
  have c4_1_6 : w4.cell? ⟨w3.heap.size, 6, none⟩ = some (.int .i64 (n4 : Int)) := cell_of_row _ _ 6 _ _ (0, 0) b4_1.out
  have f4_1_6 : w4.frozen? ⟨w3.heap.size, 6, none⟩ = false := block_free b4_1.out _
  have l4_2 : w3.heap.size + 1 < w4.heap.size := (Array.getElem?_eq_some_iff.1 b4_2.out).1
  have c4_2_0 : w4.cell? ⟨w3.heap.size + 1, 0, none⟩ = some (.int .i64 (n1 : Int)) := cell_of_row _ _ 0 _ _ (0, 0) b4_2.out
  have f4_2_0 : w4.frozen? ⟨w3.heap.size + 1, 0, none⟩ = false := block_free b4_2.out _
  have c4_2_1 : w4.cell? ⟨w3.heap.size + 1, 1, none⟩ = some (.int .i64 a) := cell_of_row _ _ 1 _ _ (0, 0) b4_2.out
  have f4_2_1 : w4.frozen? ⟨w3.heap.size + 1, 1, none⟩ = false := block_free b4_2.out _
  have c4_2_2 : w4.cell? ⟨w3.heap.size + 1, 2, none⟩ = some (.int .i64 b) := cell_of_row _ _ 2 _ _ (0, 0) b4_2.out
  have f4_2_2 : w4.frozen? ⟨w3.heap.size + 1, 2, none⟩ = false := block_free b4_2.out _
  have c4_2_3 : w4.cell? ⟨w3.heap.size + 1, 3, none⟩ = some (.int .i64 c) := cell_of_row _ _ 3 _ _ (0, 0) b4_2.out
  have f4_2_3 : w4.frozen? ⟨w3.heap.size + 1, 3, none⟩ = false := block_free b4_2.out _
  have c4_2_4 : w4.cell? ⟨w3.heap.size + 1, 4, none⟩ = some (.int .i64 d) := cell_of_row _ _ 4 _ _ (0, 0) b4_2.out
  have f4_2_4 : w4.frozen? ⟨w3.heap.size + 1, 4, none⟩ = false := block_free b4_2.out _
  have c4_2_5 : w4.cell? ⟨w3.heap.size + 1, 5, none⟩ = some (.int .i64 l) := cell_of_row _ _ 5 _ _ (0, 0) b4_2.out
  have f4_2_5 : w4.frozen? ⟨w3.heap.size + 1, 5, none⟩ = false := block_free b4_2.out _
  have c4_2_6 : w4.cell? ⟨w3.heap.size + 1, 6, none⟩ = some (.int .i64 (n3 : Int)) := cell_of_row _ _ 6 _ _ (0, 0) b4_2.out
  have f4_2_6 : w4.frozen? ⟨w3.heap.size + 1, 6, none⟩ = false := block_free b4_2.out _
  have c4_2_7 : w4.cell? ⟨w3.heap.size + 1, 7, none⟩ = some (.int .i64 (n4 : Int)) := cell_of_row _ _ 7 _ _ (0, 0) b4_2.out
  have f4_2_7 : w4.frozen? ⟨w3.heap.size + 1, 7, none⟩ = false := block_free b4_2.out _
  by_cases hps : rootS (n1 : Int) a b c d l (n3 : Int) (n4 : Int) = s
  case neg =>
    have HNO := Lib.hid (HSIX.out.no_text (by rw [← HN1.out, ← HN3.out, ← HN4.out]; exact hps))
    have hq : ((strB (rootS (n1 : Int) a b c d l (n3 : Int) (n4 : Int))).toList == (strB s).toList) = false := by rw [strB_list, strB_list]; simpa using hps
    clear hps
    have HRR : Hid ((w4).heap[w.heap.size]? = some (.cells #[.int .i64 0, .int .i64 0, .int .i64 0, .int .i64 0, .int .i64 0, .int .i64 0, .int .i64 0, .int .i64 0] 31 (0, 0))) := Lib.hid (b4_0.out)
    have HBL : Hid (Below w.heap.size w w4) := Lib.hid X4
    go_wp2_with fail
    have hst := set_8 (x0 := .int .i64 0) (x1 := .int .i64 0) (x2 := .int .i64 0) (x3 := .int .i64 0) (x4 := .int .i64 0) (x5 := .int .i64 0) (x6 := .int .i64 0) (x7 := .int .i64 0) HRR.out
    have r0 := cell_of_row _ _ 0 _ _ (0, 0) hst
    have r1 := cell_of_row _ _ 1 _ _ (0, 0) hst
    have r2 := cell_of_row _ _ 2 _ _ (0, 0) hst
    have r3 := cell_of_row _ _ 3 _ _ (0, 0) hst
    have r4 := cell_of_row _ _ 4 _ _ (0, 0) hst
    have r5 := cell_of_row _ _ 5 _ _ (0, 0) hst
    have r6 := cell_of_row _ _ 6 _ _ (0, 0) hst
    have r7 := cell_of_row _ _ 7 _ _ (0, 0) hst
    clear hst
    exact bodyPost_ret (v := .tuple #[.agg #[.int .i64 0, .int .i64 0, .int .i64 0, .int .i64 0, .int .i64 0, .int .i64 0, .int .i64 0, .int .i64 0], .bool false]) (by simp [results, Tryz.results49, go_sem, r0, r1, r2, r3, r4, r5, r6, r7]) rfl (⟨_, _, _, _, _, _, _, _, _, rfl, HNO.out, (Below.setCell (p := ⟨w.heap.size, 7, none⟩) (Below.setCell (p := ⟨w.heap.size, 6, none⟩) (Below.setCell (p := ⟨w.heap.size, 5, none⟩) (Below.setCell (p := ⟨w.heap.size, 4, none⟩) (Below.setCell (p := ⟨w.heap.size, 3, none⟩) (Below.setCell (p := ⟨w.heap.size, 2, none⟩) (Below.setCell (p := ⟨w.heap.size, 1, none⟩) (Below.setCell (p := ⟨w.heap.size, 0, none⟩) HBL.out (Nat.le_refl _) _) (Nat.le_refl _) _) (Nat.le_refl _) _) (Nat.le_refl _) _) (Nat.le_refl _) _) (Nat.le_refl _) _) (Nat.le_refl _) _) (Nat.le_refl _) _)⟩)
  have HY : Hid (rootIs s (n1 : Int) a b c d l (n3 : Int) (n4 : Int) true) := Lib.hid (by have := HSIX.out.yes (by rw [← HN1.out, ← HN3.out, ← HN4.out]; exact hps); rw [← HN1.out, ← HN3.out, ← HN4.out] at this; exact this)
  have hq : ((strB (rootS (n1 : Int) a b c d l (n3 : Int) (n4 : Int))).toList == (strB s).toList) = true := by rw [hps]; simp
  clear hps
  have HRR : Hid ((w4).heap[w.heap.size]? = some (.cells #[.int .i64 0, .int .i64 0, .int .i64 0, .int .i64 0, .int .i64 0, .int .i64 0, .int .i64 0, .int .i64 0] 31 (0, 0))) := Lib.hid (b4_0.out)
  have HBL : Hid (Below w.heap.size w w4) := Lib.hid X4
  go_wp2_with fail
  have hst := set_8 (x0 := .int .i64 (n1 : Int)) (x1 := .int .i64 a) (x2 := .int .i64 b) (x3 := .int .i64 c) (x4 := .int .i64 d) (x5 := .int .i64 l) (x6 := .int .i64 (n3 : Int)) (x7 := .int .i64 (n4 : Int)) HRR.out
  have r0 := cell_of_row _ _ 0 _ _ (0, 0) hst
  have r1 := cell_of_row _ _ 1 _ _ (0, 0) hst
  have r2 := cell_of_row _ _ 2 _ _ (0, 0) hst
  have r3 := cell_of_row _ _ 3 _ _ (0, 0) hst
  have r4 := cell_of_row _ _ 4 _ _ (0, 0) hst
  have r5 := cell_of_row _ _ 5 _ _ (0, 0) hst
  have r6 := cell_of_row _ _ 6 _ _ (0, 0) hst
  have r7 := cell_of_row _ _ 7 _ _ (0, 0) hst
  clear hst
  exact bodyPost_ret (v := .tuple #[.agg #[.int .i64 (n1 : Int), .int .i64 a, .int .i64 b, .int .i64 c, .int .i64 d, .int .i64 l, .int .i64 (n3 : Int), .int .i64 (n4 : Int)], .bool true]) (by simp [results, Tryz.results49, go_sem, r0, r1, r2, r3, r4, r5, r6, r7]) rfl (⟨_, _, _, _, _, _, _, _, _, rfl, HY.out, (Below.setCell (p := ⟨w.heap.size, 7, none⟩) (Below.setCell (p := ⟨w.heap.size, 6, none⟩) (Below.setCell (p := ⟨w.heap.size, 5, none⟩) (Below.setCell (p := ⟨w.heap.size, 4, none⟩) (Below.setCell (p := ⟨w.heap.size, 3, none⟩) (Below.setCell (p := ⟨w.heap.size, 2, none⟩) (Below.setCell (p := ⟨w.heap.size, 1, none⟩) (Below.setCell (p := ⟨w.heap.size, 0, none⟩) HBL.out (Nat.le_refl _) _) (Nat.le_refl _) _) (Nat.le_refl _) _) (Nat.le_refl _) _) (Nat.le_refl _) _) (Nat.le_refl _) _) (Nat.le_refl _) _) (Nat.le_refl _) _)⟩)
set_option maxRecDepth 100000 in
set_option maxHeartbeats 4000000 in
theorem spRootGet_any (s : Str) (w : World) (hs : s.length ≤ 1099511627776) : Calls Tryz.prog 43 #[.string (strB s)] w (GotRoot s w) := by
  go_enter Tryz.func43, Tryz.ntmps43
  go_wp2_with fail
  refine (spFieldsGet_any s _ hs).mono ?_
  rintro e w1 (⟨fl, A, cp, hR, rfl, hI, hb1⟩ | ⟨hno, ⟨A, cp, rfl⟩, hb1⟩)
  case inr =>
    have HNO := Lib.hid (root_no hno); clear hno
    have zz1 : w.heap.size + 1 ≤ w1.heap.size := by have := hb1.size; simp [World.setCell] at this; omega
    have YY1 : Below w.heap.size w (World.alloc w (.cells #[.int .i64 0, .int .i64 0, .int .i64 0, .int .i64 0, .int .i64 0, .int .i64 0, .int .i64 0, .int .i64 0] 31)) := (Below.alloc (Below.refl _ _) (by first | exact Nat.le_refl _ | (simp [World.setCell] <;> omega)) _)
    have X1 : Below w.heap.size w w1 := YY1.trans (hb1.mono YY1.size)
    clear YY1
    have b1_0 : Hid (w1.heap[w.heap.size]? = some (.cells #[.int .i64 0, .int .i64 0, .int .i64 0, .int .i64 0, .int .i64 0, .int .i64 0, .int .i64 0, .int .i64 0] 31 (0, 0))) := Lib.hid ((hb1.block _ (by first | omega | (simp [World.setCell] <;> omega))).trans (show _ from by have := heap_alloc_new w (.cells #[.int .i64 0, .int .i64 0, .int .i64 0, .int .i64 0, .int .i64 0, .int .i64 0, .int .i64 0, .int .i64 0] 31); simpa [World.setCell] using this))
    clear hb1
    have l1_0 : w.heap.size < w1.heap.size := (Array.getElem?_eq_some_iff.1 b1_0.out).1
    have c1_0_0 : w1.cell? ⟨w.heap.size, 0, none⟩ = some (.int .i64 0) := cell_of_row _ _ 0 _ _ (0, 0) b1_0.out
    have f1_0_0 : w1.frozen? ⟨w.heap.size, 0, none⟩ = false := block_free b1_0.out _
    have c1_0_1 : w1.cell? ⟨w.heap.size, 1, none⟩ = some (.int .i64 0) := cell_of_row _ _ 1 _ _ (0, 0) b1_0.out
    have f1_0_1 : w1.frozen? ⟨w.heap.size, 1, none⟩ = false := block_free b1_0.out _
    have c1_0_2 : w1.cell? ⟨w.heap.size, 2, none⟩ = some (.int .i64 0) := cell_of_row _ _ 2 _ _ (0, 0) b1_0.out
    have f1_0_2 : w1.frozen? ⟨w.heap.size, 2, none⟩ = false := block_free b1_0.out _
    have c1_0_3 : w1.cell? ⟨w.heap.size, 3, none⟩ = some (.int .i64 0) := cell_of_row _ _ 3 _ _ (0, 0) b1_0.out
    have f1_0_3 : w1.frozen? ⟨w.heap.size, 3, none⟩ = false := block_free b1_0.out _
    have c1_0_4 : w1.cell? ⟨w.heap.size, 4, none⟩ = some (.int .i64 0) := cell_of_row _ _ 4 _ _ (0, 0) b1_0.out
    have f1_0_4 : w1.frozen? ⟨w.heap.size, 4, none⟩ = false := block_free b1_0.out _
    have c1_0_5 : w1.cell? ⟨w.heap.size, 5, none⟩ = some (.int .i64 0) := cell_of_row _ _ 5 _ _ (0, 0) b1_0.out
    have f1_0_5 : w1.frozen? ⟨w.heap.size, 5, none⟩ = false := block_free b1_0.out _
    have c1_0_6 : w1.cell? ⟨w.heap.size, 6, none⟩ = some (.int .i64 0) := cell_of_row _ _ 6 _ _ (0, 0) b1_0.out
    have f1_0_6 : w1.frozen? ⟨w.heap.size, 6, none⟩ = false := block_free b1_0.out _
    have c1_0_7 : w1.cell? ⟨w.heap.size, 7, none⟩ = some (.int .i64 0) := cell_of_row _ _ 7 _ _ (0, 0) b1_0.out
    have f1_0_7 : w1.frozen? ⟨w.heap.size, 7, none⟩ = false := block_free b1_0.out _
    have HRR : Hid ((w1).heap[w.heap.size]? = some (.cells #[.int .i64 0, .int .i64 0, .int .i64 0, .int .i64 0, .int .i64 0, .int .i64 0, .int .i64 0, .int .i64 0] 31 (0, 0))) := Lib.hid (b1_0.out)
    have HBL : Hid (Below w.heap.size w w1) := Lib.hid X1
    go_wp2_with fail
    have hst := set_8 (x0 := .int .i64 0) (x1 := .int .i64 0) (x2 := .int .i64 0) (x3 := .int .i64 0) (x4 := .int .i64 0) (x5 := .int .i64 0) (x6 := .int .i64 0) (x7 := .int .i64 0) HRR.out
    have r0 := cell_of_row _ _ 0 _ _ (0, 0) hst
    have r1 := cell_of_row _ _ 1 _ _ (0, 0) hst
    have r2 := cell_of_row _ _ 2 _ _ (0, 0) hst
    have r3 := cell_of_row _ _ 3 _ _ (0, 0) hst
    have r4 := cell_of_row _ _ 4 _ _ (0, 0) hst
    have r5 := cell_of_row _ _ 5 _ _ (0, 0) hst
    have r6 := cell_of_row _ _ 6 _ _ (0, 0) hst
    have r7 := cell_of_row _ _ 7 _ _ (0, 0) hst
    clear hst
    exact bodyPost_ret (v := .tuple #[.agg #[.int .i64 0, .int .i64 0, .int .i64 0, .int .i64 0, .int .i64 0, .int .i64 0, .int .i64 0, .int .i64 0], .bool false]) (by simp [results, Tryz.results43, go_sem, r0, r1, r2, r3, r4, r5, r6, r7]) rfl (⟨_, _, _, _, _, _, _, _, _, rfl, HNO.out, (Below.setCell (p := ⟨w.heap.size, 7, none⟩) (Below.setCell (p := ⟨w.heap.size, 6, none⟩) (Below.setCell (p := ⟨w.heap.size, 5, none⟩) (Below.setCell (p := ⟨w.heap.size, 4, none⟩) (Below.setCell (p := ⟨w.heap.size, 3, none⟩) (Below.setCell (p := ⟨w.heap.size, 2, none⟩) (Below.setCell (p := ⟨w.heap.size, 1, none⟩) (Below.setCell (p := ⟨w.heap.size, 0, none⟩) HBL.out (Nat.le_refl _) _) (Nat.le_refl _) _) (Nat.le_refl _) _) (Nat.le_refl _) _) (Nat.le_refl _) _) (Nat.le_refl _) _) (Nat.le_refl _) _) (Nat.le_refl _) _)⟩)
  have HR := Lib.hid hR; clear hR
  have HI1 := Lib.hid hI; clear hI
  have zz1 : w.heap.size + 1 ≤ w1.heap.size := by have := hb1.size; simp [World.setCell] at this; omega
  have YY1 : Below w.heap.size w (World.alloc w (.cells #[.int .i64 0, .int .i64 0, .int .i64 0, .int .i64 0, .int .i64 0, .int .i64 0, .int .i64 0, .int .i64 0] 31)) := (Below.alloc (Below.refl _ _) (by first | exact Nat.le_refl _ | (simp [World.setCell] <;> omega)) _)
  have X1 : Below w.heap.size w w1 := YY1.trans (hb1.mono YY1.size)
  clear YY1
  have b1_0 : Hid (w1.heap[w.heap.size]? = some (.cells #[.int .i64 0, .int .i64 0, .int .i64 0, .int .i64 0, .int .i64 0, .int .i64 0, .int .i64 0, .int .i64 0] 31 (0, 0))) := Lib.hid ((hb1.block _ (by first | omega | (simp [World.setCell] <;> omega))).trans (show _ from by have := heap_alloc_new w (.cells #[.int .i64 0, .int .i64 0, .int .i64 0, .int .i64 0, .int .i64 0, .int .i64 0, .int .i64 0, .int .i64 0] 31); simpa [World.setCell] using this))
  clear hb1
  have l1_0 : w.heap.size < w1.heap.size := (Array.getElem?_eq_some_iff.1 b1_0.out).1
  have c1_0_0 : w1.cell? ⟨w.heap.size, 0, none⟩ = some (.int .i64 0) := cell_of_row _ _ 0 _ _ (0, 0) b1_0.out
  have f1_0_0 : w1.frozen? ⟨w.heap.size, 0, none⟩ = false := block_free b1_0.out _
  have c1_0_1 : w1.cell? ⟨w.heap.size, 1, none⟩ = some (.int .i64 0) := cell_of_row _ _ 1 _ _ (0, 0) b1_0.out
  have f1_0_1 : w1.frozen? ⟨w.heap.size, 1, none⟩ = false := block_free b1_0.out _
  have c1_0_2 : w1.cell? ⟨w.heap.size, 2, none⟩ = some (.int .i64 0) := cell_of_row _ _ 2 _ _ (0, 0) b1_0.out
  have f1_0_2 : w1.frozen? ⟨w.heap.size, 2, none⟩ = false := block_free b1_0.out _
  have c1_0_3 : w1.cell? ⟨w.heap.size, 3, none⟩ = some (.int .i64 0) := cell_of_row _ _ 3 _ _ (0, 0) b1_0.out
  have f1_0_3 : w1.frozen? ⟨w.heap.size, 3, none⟩ = false := block_free b1_0.out _
  have c1_0_4 : w1.cell? ⟨w.heap.size, 4, none⟩ = some (.int .i64 0) := cell_of_row _ _ 4 _ _ (0, 0) b1_0.out
  have f1_0_4 : w1.frozen? ⟨w.heap.size, 4, none⟩ = false := block_free b1_0.out _
  have c1_0_5 : w1.cell? ⟨w.heap.size, 5, none⟩ = some (.int .i64 0) := cell_of_row _ _ 5 _ _ (0, 0) b1_0.out
  have f1_0_5 : w1.frozen? ⟨w.heap.size, 5, none⟩ = false := block_free b1_0.out _
  have c1_0_6 : w1.cell? ⟨w.heap.size, 6, none⟩ = some (.int .i64 0) := cell_of_row _ _ 6 _ _ (0, 0) b1_0.out
  have f1_0_6 : w1.frozen? ⟨w.heap.size, 6, none⟩ = false := block_free b1_0.out _
  have c1_0_7 : w1.cell? ⟨w.heap.size, 7, none⟩ = some (.int .i64 0) := cell_of_row _ _ 7 _ _ (0, 0) b1_0.out
  have f1_0_7 : w1.frozen? ⟨w.heap.size, 7, none⟩ = false := block_free b1_0.out _
  by_cases hl : fl.length = 6
  case neg =>
    have HNO := Lib.hid (root_len HR.out hl)
    have hnb : ((fl.length : Int) == 6) = false := by simp; omega
    have hnc : ¬ (fl.length : Int) = 6 := by omega
    clear hl
    have HRR : Hid ((w1).heap[w.heap.size]? = some (.cells #[.int .i64 0, .int .i64 0, .int .i64 0, .int .i64 0, .int .i64 0, .int .i64 0, .int .i64 0, .int .i64 0] 31 (0, 0))) := Lib.hid (b1_0.out)
    have HBL : Hid (Below w.heap.size w w1) := Lib.hid X1
    go_wp2_with fail
    have hst := set_8 (x0 := .int .i64 0) (x1 := .int .i64 0) (x2 := .int .i64 0) (x3 := .int .i64 0) (x4 := .int .i64 0) (x5 := .int .i64 0) (x6 := .int .i64 0) (x7 := .int .i64 0) HRR.out
    have r0 := cell_of_row _ _ 0 _ _ (0, 0) hst
    have r1 := cell_of_row _ _ 1 _ _ (0, 0) hst
    have r2 := cell_of_row _ _ 2 _ _ (0, 0) hst
    have r3 := cell_of_row _ _ 3 _ _ (0, 0) hst
    have r4 := cell_of_row _ _ 4 _ _ (0, 0) hst
    have r5 := cell_of_row _ _ 5 _ _ (0, 0) hst
    have r6 := cell_of_row _ _ 6 _ _ (0, 0) hst
    have r7 := cell_of_row _ _ 7 _ _ (0, 0) hst
    clear hst
    exact bodyPost_ret (v := .tuple #[.agg #[.int .i64 0, .int .i64 0, .int .i64 0, .int .i64 0, .int .i64 0, .int .i64 0, .int .i64 0, .int .i64 0], .bool false]) (by simp [results, Tryz.results43, go_sem, r0, r1, r2, r3, r4, r5, r6, r7]) rfl (⟨_, _, _, _, _, _, _, _, _, rfl, HNO.out, (Below.setCell (p := ⟨w.heap.size, 7, none⟩) (Below.setCell (p := ⟨w.heap.size, 6, none⟩) (Below.setCell (p := ⟨w.heap.size, 5, none⟩) (Below.setCell (p := ⟨w.heap.size, 4, none⟩) (Below.setCell (p := ⟨w.heap.size, 3, none⟩) (Below.setCell (p := ⟨w.heap.size, 2, none⟩) (Below.setCell (p := ⟨w.heap.size, 1, none⟩) (Below.setCell (p := ⟨w.heap.size, 0, none⟩) HBL.out (Nat.le_refl _) _) (Nat.le_refl _) _) (Nat.le_refl _) _) (Nat.le_refl _) _) (Nat.le_refl _) _) (Nat.le_refl _) _) (Nat.le_refl _) _) (Nat.le_refl _) _)⟩)
  obtain ⟨y0, y1, y2, y3, y4, y5, rfl⟩ := strs6 hl
  rw [hl]
  have hcp : 6 ≤ cp := HI1.out.le
  have hc2 : ¬ cp = 2 := by omega
  obtain ⟨g, rfl, hgB, lg1, e1⟩ := HI1.out.cellB (j := 1) rfl
  obtain ⟨g2, e2', _, _, e2⟩ := HI1.out.cellB (j := 2) rfl
  obtain ⟨g3, e3', _, _, e3⟩ := HI1.out.cellB (j := 3) rfl
  obtain ⟨g4, e4', _, _, e4⟩ := HI1.out.cellB (j := 4) rfl
  injection e2' with e2'; injection e2' with e2'; subst e2'
  injection e3' with e3'; injection e3' with e3'; subst e3'
  injection e4' with e4'; injection e4' with e4'; subst e4'
  have hl1 := rec_le HR.out (f := y1) (by simp)
  have hl2 := rec_le HR.out (f := y2) (by simp)
  have hl3 := rec_le HR.out (f := y3) (by simp)
  have hl4 := rec_le HR.out (f := y4) (by simp)
  have E2 := Lib.hid e2; have E3 := Lib.hid e3; have E4 := Lib.hid e4
  clear hl HI1 e2 e3 e4
  obtain ⟨n1, hn1⟩ : ∃ n, n = (numGet y1).getD 0 := ⟨_, rfl⟩
  obtain ⟨b1, hb1'⟩ : ∃ n, n = (numGet y1).isSome := ⟨_, rfl⟩
  obtain ⟨n3, hn3⟩ : ∃ n, n = (numGet y3).getD 0 := ⟨_, rfl⟩
  obtain ⟨n4, hn4⟩ : ∃ n, n = (numGet y4).getD 0 := ⟨_, rfl⟩
  have HN1 := Lib.hid hn1; have HBB1 := Lib.hid hb1'; have HN3 := Lib.hid hn3; have HN4 := Lib.hid hn4
  clear hn1 hb1' hn3 hn4
  have cc1 : ((2 : Int) ≤ (5 : Int)) := by omega
  have cc2 : ((5 : Int) ≤ (cp : Int)) := by omega
  go_wp2_with fail
  refine (l21Back_any g 2 _ y2 y3 y4 _  E2.out E3.out E4.out (by omega) (by omega) (by omega)).mono ?_
  rintro e w2 ⟨a, b, c, d, l, ok, hp, rfl, hb2⟩
  rw [← HN3.out, ← HN4.out]
  have HSIX : Hid (Six s (numGet y1) a b c d l ok (numGet y3) (numGet y4)) := Lib.hid ⟨y0, y1, y2, y3, y4, y5, HR.out, rfl, hp, rfl, rfl⟩
  clear hp
  have e1 := (hb2.cell lg1).trans e1
  have lg2 := Nat.lt_of_lt_of_le lg1 hb2.size
  have zz2 : w1.heap.size ≤ w2.heap.size := by have := hb2.size; simpa [World.setCell] using this
  have YY2 : Below w.heap.size w w1 := X1
  have X2 : Below w.heap.size w w2 := YY2.trans (hb2.mono YY2.size)
  clear YY2
  have b2_0 : Hid (w2.heap[w.heap.size]? = some (.cells #[.int .i64 0, .int .i64 0, .int .i64 0, .int .i64 0, .int .i64 0, .int .i64 0, .int .i64 0, .int .i64 0] 31 (0, 0))) := Lib.hid ((hb2.block _ (by first | omega | (simp [World.setCell] <;> omega))).trans b1_0.out)
  clear b1_0 X1 zz1 l1_0 c1_0_0 f1_0_0 c1_0_1 f1_0_1 c1_0_2 f1_0_2 c1_0_3 f1_0_3 c1_0_4 f1_0_4 c1_0_5 f1_0_5 c1_0_6 f1_0_6 c1_0_7 f1_0_7 hb2
  have l2_0 : w.heap.size < w2.heap.size := (Array.getElem?_eq_some_iff.1 b2_0.out).1
  have c2_0_0 : w2.cell? ⟨w.heap.size, 0, none⟩ = some (.int .i64 0) := cell_of_row _ _ 0 _ _ (0, 0) b2_0.out
  have f2_0_0 : w2.frozen? ⟨w.heap.size, 0, none⟩ = false := block_free b2_0.out _
  have c2_0_1 : w2.cell? ⟨w.heap.size, 1, none⟩ = some (.int .i64 0) := cell_of_row _ _ 1 _ _ (0, 0) b2_0.out
  have f2_0_1 : w2.frozen? ⟨w.heap.size, 1, none⟩ = false := block_free b2_0.out _
  have c2_0_2 : w2.cell? ⟨w.heap.size, 2, none⟩ = some (.int .i64 0) := cell_of_row _ _ 2 _ _ (0, 0) b2_0.out
  have f2_0_2 : w2.frozen? ⟨w.heap.size, 2, none⟩ = false := block_free b2_0.out _
  have c2_0_3 : w2.cell? ⟨w.heap.size, 3, none⟩ = some (.int .i64 0) := cell_of_row _ _ 3 _ _ (0, 0) b2_0.out
  have f2_0_3 : w2.frozen? ⟨w.heap.size, 3, none⟩ = false := block_free b2_0.out _
  have c2_0_4 : w2.cell? ⟨w.heap.size, 4, none⟩ = some (.int .i64 0) := cell_of_row _ _ 4 _ _ (0, 0) b2_0.out
  have f2_0_4 : w2.frozen? ⟨w.heap.size, 4, none⟩ = false := block_free b2_0.out _
  have c2_0_5 : w2.cell? ⟨w.heap.size, 5, none⟩ = some (.int .i64 0) := cell_of_row _ _ 5 _ _ (0, 0) b2_0.out
  have f2_0_5 : w2.frozen? ⟨w.heap.size, 5, none⟩ = false := block_free b2_0.out _
  have c2_0_6 : w2.cell? ⟨w.heap.size, 6, none⟩ = some (.int .i64 0) := cell_of_row _ _ 6 _ _ (0, 0) b2_0.out
  have f2_0_6 : w2.frozen? ⟨w.heap.size, 6, none⟩ = false := block_free b2_0.out _
  have c2_0_7 : w2.cell? ⟨w.heap.size, 7, none⟩ = some (.int .i64 0) := cell_of_row _ _ 7 _ _ (0, 0) b2_0.out
  have f2_0_7 : w2.frozen? ⟨w.heap.size, 7, none⟩ = false := block_free b2_0.out _
  have ord : w.heap.size < w2.heap.size := l2_0
  go_wp2_with fail
  refine (spNumGet_any y1 _ (by omega)).mono ?_
  rw [GotNum_def, ← HN1.out, ← HBB1.out]
  rintro e w3 ⟨rfl, hb3⟩
  have zz3 : w2.heap.size + 1 ≤ w3.heap.size := by have := hb3.size; simp [World.setCell] at this; omega
  have YY3 : Below w.heap.size w (World.alloc w2 (.cells #[.int .i64 0, .int .i64 a, .int .i64 b, .int .i64 c, .int .i64 d, .int .i64 l, .int .i64 (n3 : Int), .int .i64 (n4 : Int)] 31)) := (Below.alloc X2 (by have := X2.size; simp [World.setCell] <;> omega) _)
  have X3 : Below w.heap.size w w3 := YY3.trans (hb3.mono YY3.size)
  clear YY3
  have b3_0 : Hid (w3.heap[w.heap.size]? = some (.cells #[.int .i64 0, .int .i64 0, .int .i64 0, .int .i64 0, .int .i64 0, .int .i64 0, .int .i64 0, .int .i64 0] 31 (0, 0))) := Lib.hid ((hb3.block _ (by first | omega | (simp [World.setCell] <;> omega))).trans ((Below.heap_alloc _ _ _ (by first | omega | (simp [World.setCell] <;> omega))).trans b2_0.out))
  have b3_1 : Hid (w3.heap[w2.heap.size]? = some (.cells #[.int .i64 0, .int .i64 a, .int .i64 b, .int .i64 c, .int .i64 d, .int .i64 l, .int .i64 (n3 : Int), .int .i64 (n4 : Int)] 31 (0, 0))) := Lib.hid ((hb3.block _ (by first | omega | (simp [World.setCell] <;> omega))).trans (show _ from by have := heap_alloc_new w2 (.cells #[.int .i64 0, .int .i64 a, .int .i64 b, .int .i64 c, .int .i64 d, .int .i64 l, .int .i64 (n3 : Int), .int .i64 (n4 : Int)] 31); simpa [World.setCell] using this))
  clear b2_0 X2 zz2 l2_0 c2_0_0 f2_0_0 c2_0_1 f2_0_1 c2_0_2 f2_0_2 c2_0_3 f2_0_3 c2_0_4 f2_0_4 c2_0_5 f2_0_5 c2_0_6 f2_0_6 c2_0_7 f2_0_7 hb3
  have l3_0 : w.heap.size < w3.heap.size := (Array.getElem?_eq_some_iff.1 b3_0.out).1
  have c3_0_0 : w3.cell? ⟨w.heap.size, 0, none⟩ = some (.int .i64 0) := cell_of_row _ _ 0 _ _ (0, 0) b3_0.out
  have f3_0_0 : w3.frozen? ⟨w.heap.size, 0, none⟩ = false := block_free b3_0.out _
  have c3_0_1 : w3.cell? ⟨w.heap.size, 1, none⟩ = some (.int .i64 0) := cell_of_row _ _ 1 _ _ (0, 0) b3_0.out
  have f3_0_1 : w3.frozen? ⟨w.heap.size, 1, none⟩ = false := block_free b3_0.out _
  have c3_0_2 : w3.cell? ⟨w.heap.size, 2, none⟩ = some (.int .i64 0) := cell_of_row _ _ 2 _ _ (0, 0) b3_0.out
  have f3_0_2 : w3.frozen? ⟨w.heap.size, 2, none⟩ = false := block_free b3_0.out _
  have c3_0_3 : w3.cell? ⟨w.heap.size, 3, none⟩ = some (.int .i64 0) := cell_of_row _ _ 3 _ _ (0, 0) b3_0.out
  have f3_0_3 : w3.frozen? ⟨w.heap.size, 3, none⟩ = false := block_free b3_0.out _
  have c3_0_4 : w3.cell? ⟨w.heap.size, 4, none⟩ = some (.int .i64 0) := cell_of_row _ _ 4 _ _ (0, 0) b3_0.out
  have f3_0_4 : w3.frozen? ⟨w.heap.size, 4, none⟩ = false := block_free b3_0.out _
  have c3_0_5 : w3.cell? ⟨w.heap.size, 5, none⟩ = some (.int .i64 0) := cell_of_row _ _ 5 _ _ (0, 0) b3_0.out
  have f3_0_5 : w3.frozen? ⟨w.heap.size, 5, none⟩ = false := block_free b3_0.out _
  have c3_0_6 : w3.cell? ⟨w.heap.size, 6, none⟩ = some (.int .i64 0) := cell_of_row _ _ 6 _ _ (0, 0) b3_0.out
  have f3_0_6 : w3.frozen? ⟨w.heap.size, 6, none⟩ = false := block_free b3_0.out _
  have c3_0_7 : w3.cell? ⟨w.heap.size, 7, none⟩ = some (.int .i64 0) := cell_of_row _ _ 7 _ _ (0, 0) b3_0.out
  have f3_0_7 : w3.frozen? ⟨w.heap.size, 7, none⟩ = false := block_free b3_0.out _
  have l3_1 : w2.heap.size < w3.heap.size := (Array.getElem?_eq_some_iff.1 b3_1.out).1
  have c3_1_0 : w3.cell? ⟨w2.heap.size, 0, none⟩ = some (.int .i64 0) := cell_of_row _ _ 0 _ _ (0, 0) b3_1.out
  have f3_1_0 : w3.frozen? ⟨w2.heap.size, 0, none⟩ = false := block_free b3_1.out _
  have c3_1_1 : w3.cell? ⟨w2.heap.size, 1, none⟩ = some (.int .i64 a) := cell_of_row _ _ 1 _ _ (0, 0) b3_1.out
  have f3_1_1 : w3.frozen? ⟨w2.heap.size, 1, none⟩ = false := block_free b3_1.out _
  have c3_1_2 : w3.cell? ⟨w2.heap.size, 2, none⟩ = some (.int .i64 b) := cell_of_row _ _ 2 _ _ (0, 0) b3_1.out
  have f3_1_2 : w3.frozen? ⟨w2.heap.size, 2, none⟩ = false := block_free b3_1.out _
  have c3_1_3 : w3.cell? ⟨w2.heap.size, 3, none⟩ = some (.int .i64 c) := cell_of_row _ _ 3 _ _ (0, 0) b3_1.out
  have f3_1_3 : w3.frozen? ⟨w2.heap.size, 3, none⟩ = false := block_free b3_1.out _
  have c3_1_4 : w3.cell? ⟨w2.heap.size, 4, none⟩ = some (.int .i64 d) := cell_of_row _ _ 4 _ _ (0, 0) b3_1.out
  have f3_1_4 : w3.frozen? ⟨w2.heap.size, 4, none⟩ = false := block_free b3_1.out _
  have c3_1_5 : w3.cell? ⟨w2.heap.size, 5, none⟩ = some (.int .i64 l) := cell_of_row _ _ 5 _ _ (0, 0) b3_1.out
  have f3_1_5 : w3.frozen? ⟨w2.heap.size, 5, none⟩ = false := block_free b3_1.out _
  have c3_1_6 : w3.cell? ⟨w2.heap.size, 6, none⟩ = some (.int .i64 (n3 : Int)) := cell_of_row _ _ 6 _ _ (0, 0) b3_1.out
  have f3_1_6 : w3.frozen? ⟨w2.heap.size, 6, none⟩ = false := block_free b3_1.out _
  have c3_1_7 : w3.cell? ⟨w2.heap.size, 7, none⟩ = some (.int .i64 (n4 : Int)) := cell_of_row _ _ 7 _ _ (0, 0) b3_1.out
  have f3_1_7 : w3.frozen? ⟨w2.heap.size, 7, none⟩ = false := block_free b3_1.out _
  clear e1 lg1 lg2 E2 E3 E4
  go_wp2_with fail
  refine (spRootOk_any (n1 : Int) a b c d l (n3 : Int) (n4 : Int) _).mono ?_
  obtain ⟨rk, hrk⟩ : ∃ x, x = rootOkB (n1 : Int) a b c d l (n3 : Int) (n4 : Int) := ⟨_, rfl⟩
  rw [← hrk]
  have HRK := Lib.hid hrk; clear hrk
  rintro e w4 ⟨rfl, hb4⟩
  have zz4 : w3.heap.size ≤ w4.heap.size := by have := hb4.size; simpa [World.setCell] using this
  have YY4 : Below w.heap.size w (World.setCell w3 ⟨w2.heap.size, 0, none⟩ (.int .i64 (n1 : Int))) := (Below.setCell (p := ⟨w2.heap.size, 0, none⟩) X3 (by have := X3.size; simp <;> omega) _)
  have X4 : Below w.heap.size w w4 := YY4.trans (hb4.mono YY4.size)
  clear YY4
  have b4_0 : Hid (w4.heap[w.heap.size]? = some (.cells #[.int .i64 0, .int .i64 0, .int .i64 0, .int .i64 0, .int .i64 0, .int .i64 0, .int .i64 0, .int .i64 0] 31 (0, 0))) := Lib.hid ((hb4.block _ (by first | omega | (simp [World.setCell] <;> omega))).trans ((heap_far (by first | omega | (simp <;> omega))).trans b3_0.out))
  have b4_1 : Hid (w4.heap[w2.heap.size]? = some (.cells #[.int .i64 (n1 : Int), .int .i64 a, .int .i64 b, .int .i64 c, .int .i64 d, .int .i64 l, .int .i64 (n3 : Int), .int .i64 (n4 : Int)] 31 (0, 0))) := Lib.hid ((hb4.block _ (by first | omega | (simp [World.setCell] <;> omega))).trans (block_set b3_1.out))
  clear b3_0 b3_1 X3 zz3 l3_0 c3_0_0 f3_0_0 c3_0_1 f3_0_1 c3_0_2 f3_0_2 c3_0_3 f3_0_3 c3_0_4 f3_0_4 c3_0_5 f3_0_5 c3_0_6 f3_0_6 c3_0_7 f3_0_7 l3_1 c3_1_0 f3_1_0 c3_1_1 f3_1_1 c3_1_2 f3_1_2 c3_1_3 f3_1_3 c3_1_4 f3_1_4 c3_1_5 f3_1_5 c3_1_6 f3_1_6 c3_1_7 f3_1_7 hb4
  have l4_0 : w.heap.size < w4.heap.size := (Array.getElem?_eq_some_iff.1 b4_0.out).1
  have c4_0_0 : w4.cell? ⟨w.heap.size, 0, none⟩ = some (.int .i64 0) := cell_of_row _ _ 0 _ _ (0, 0) b4_0.out
  have f4_0_0 : w4.frozen? ⟨w.heap.size, 0, none⟩ = false := block_free b4_0.out _
  have c4_0_1 : w4.cell? ⟨w.heap.size, 1, none⟩ = some (.int .i64 0) := cell_of_row _ _ 1 _ _ (0, 0) b4_0.out
  have f4_0_1 : w4.frozen? ⟨w.heap.size, 1, none⟩ = false := block_free b4_0.out _
  have c4_0_2 : w4.cell? ⟨w.heap.size, 2, none⟩ = some (.int .i64 0) := cell_of_row _ _ 2 _ _ (0, 0) b4_0.out
  have f4_0_2 : w4.frozen? ⟨w.heap.size, 2, none⟩ = false := block_free b4_0.out _
  have c4_0_3 : w4.cell? ⟨w.heap.size, 3, none⟩ = some (.int .i64 0) := cell_of_row _ _ 3 _ _ (0, 0) b4_0.out
  have f4_0_3 : w4.frozen? ⟨w.heap.size, 3, none⟩ = false := block_free b4_0.out _
  have c4_0_4 : w4.cell? ⟨w.heap.size, 4, none⟩ = some (.int .i64 0) := cell_of_row _ _ 4 _ _ (0, 0) b4_0.out
  have f4_0_4 : w4.frozen? ⟨w.heap.size, 4, none⟩ = false := block_free b4_0.out _
  have c4_0_5 : w4.cell? ⟨w.heap.size, 5, none⟩ = some (.int .i64 0) := cell_of_row _ _ 5 _ _ (0, 0) b4_0.out
  have f4_0_5 : w4.frozen? ⟨w.heap.size, 5, none⟩ = false := block_free b4_0.out _
  have c4_0_6 : w4.cell? ⟨w.heap.size, 6, none⟩ = some (.int .i64 0) := cell_of_row _ _ 6 _ _ (0, 0) b4_0.out
  have f4_0_6 : w4.frozen? ⟨w.heap.size, 6, none⟩ = false := block_free b4_0.out _
  have c4_0_7 : w4.cell? ⟨w.heap.size, 7, none⟩ = some (.int .i64 0) := cell_of_row _ _ 7 _ _ (0, 0) b4_0.out
  have f4_0_7 : w4.frozen? ⟨w.heap.size, 7, none⟩ = false := block_free b4_0.out _
  have l4_1 : w2.heap.size < w4.heap.size := (Array.getElem?_eq_some_iff.1 b4_1.out).1
  have c4_1_0 : w4.cell? ⟨w2.heap.size, 0, none⟩ = some (.int .i64 (n1 : Int)) := cell_of_row _ _ 0 _ _ (0, 0) b4_1.out
  have f4_1_0 : w4.frozen? ⟨w2.heap.size, 0, none⟩ = false := block_free b4_1.out _
  have c4_1_1 : w4.cell? ⟨w2.heap.size, 1, none⟩ = some (.int .i64 a) := cell_of_row _ _ 1 _ _ (0, 0) b4_1.out
  have f4_1_1 : w4.frozen? ⟨w2.heap.size, 1, none⟩ = false := block_free b4_1.out _
  have c4_1_2 : w4.cell? ⟨w2.heap.size, 2, none⟩ = some (.int .i64 b) := cell_of_row _ _ 2 _ _ (0, 0) b4_1.out
  have f4_1_2 : w4.frozen? ⟨w2.heap.size, 2, none⟩ = false := block_free b4_1.out _
  have c4_1_3 : w4.cell? ⟨w2.heap.size, 3, none⟩ = some (.int .i64 c) := cell_of_row _ _ 3 _ _ (0, 0) b4_1.out
  have f4_1_3 : w4.frozen? ⟨w2.heap.size, 3, none⟩ = false := block_free b4_1.out _
  have c4_1_4 : w4.cell? ⟨w2.heap.size, 4, none⟩ = some (.int .i64 d) := cell_of_row _ _ 4 _ _ (0, 0) b4_1.out
  have f4_1_4 : w4.frozen? ⟨w2.heap.size, 4, none⟩ = false := block_free b4_1.out _
  have c4_1_5 : w4.cell? ⟨w2.heap.size, 5, none⟩ = some (.int .i64 l) := cell_of_row _ _ 5 _ _ (0, 0) b4_1.out
  have f4_1_5 : w4.frozen? ⟨w2.heap.size, 5, none⟩ = false := block_free b4_1.out _
  have c4_1_6 : w4.cell? ⟨w2.heap.size, 6, none⟩ = some (.int .i64 (n3 : Int)) := cell_of_row _ _ 6 _ _ (0, 0) b4_1.out
  have f4_1_6 : w4.frozen? ⟨w2.heap.size, 6, none⟩ = false := block_free b4_1.out _
  have c4_1_7 : w4.cell? ⟨w2.heap.size, 7, none⟩ = some (.int .i64 (n4 : Int)) := cell_of_row _ _ 7 _ _ (0, 0) b4_1.out
  have f4_1_7 : w4.frozen? ⟨w2.heap.size, 7, none⟩ = false := block_free b4_1.out _
  cases rk
  case false =>
    have HNO := Lib.hid (HSIX.out.no_ok (by rw [← HN1.out, ← HN3.out, ← HN4.out]; exact HRK.out.symm))
    have HRR : Hid ((w4).heap[w.heap.size]? = some (.cells #[.int .i64 0, .int .i64 0, .int .i64 0, .int .i64 0, .int .i64 0, .int .i64 0, .int .i64 0, .int .i64 0] 31 (0, 0))) := Lib.hid (b4_0.out)
    have HBL : Hid (Below w.heap.size w w4) := Lib.hid X4
    go_wp2_with fail
    have hst := set_8 (x0 := .int .i64 0) (x1 := .int .i64 0) (x2 := .int .i64 0) (x3 := .int .i64 0) (x4 := .int .i64 0) (x5 := .int .i64 0) (x6 := .int .i64 0) (x7 := .int .i64 0) HRR.out
    have r0 := cell_of_row _ _ 0 _ _ (0, 0) hst
    have r1 := cell_of_row _ _ 1 _ _ (0, 0) hst
    have r2 := cell_of_row _ _ 2 _ _ (0, 0) hst
    have r3 := cell_of_row _ _ 3 _ _ (0, 0) hst
    have r4 := cell_of_row _ _ 4 _ _ (0, 0) hst
    have r5 := cell_of_row _ _ 5 _ _ (0, 0) hst
    have r6 := cell_of_row _ _ 6 _ _ (0, 0) hst
    have r7 := cell_of_row _ _ 7 _ _ (0, 0) hst
    clear hst
    exact bodyPost_ret (v := .tuple #[.agg #[.int .i64 0, .int .i64 0, .int .i64 0, .int .i64 0, .int .i64 0, .int .i64 0, .int .i64 0, .int .i64 0], .bool false]) (by simp [results, Tryz.results43, go_sem, r0, r1, r2, r3, r4, r5, r6, r7]) rfl (⟨_, _, _, _, _, _, _, _, _, rfl, HNO.out, (Below.setCell (p := ⟨w.heap.size, 7, none⟩) (Below.setCell (p := ⟨w.heap.size, 6, none⟩) (Below.setCell (p := ⟨w.heap.size, 5, none⟩) (Below.setCell (p := ⟨w.heap.size, 4, none⟩) (Below.setCell (p := ⟨w.heap.size, 3, none⟩) (Below.setCell (p := ⟨w.heap.size, 2, none⟩) (Below.setCell (p := ⟨w.heap.size, 1, none⟩) (Below.setCell (p := ⟨w.heap.size, 0, none⟩) HBL.out (Nat.le_refl _) _) (Nat.le_refl _) _) (Nat.le_refl _) _) (Nat.le_refl _) _) (Nat.le_refl _) _) (Nat.le_refl _) _) (Nat.le_refl _) _) (Nat.le_refl _) _)⟩)
  go_wp2_with fail
  refine (spRootPut_any (n1 : Int) a b c d l (n3 : Int) (n4 : Int) _).mono ?_
  rintro e w5 ⟨rfl, hb5⟩
  have zz5 : w4.heap.size ≤ w5.heap.size := by have := hb5.size; simpa [World.setCell] using this
  have YY5 : Below w.heap.size w w4 := X4
  have X5 : Below w.heap.size w w5 := YY5.trans (hb5.mono YY5.size)
  clear YY5
  have b5_0 : Hid (w5.heap[w.heap.size]? = some (.cells #[.int .i64 0, .int .i64 0, .int .i64 0, .int .i64 0, .int .i64 0, .int .i64 0, .int .i64 0, .int .i64 0] 31 (0, 0))) := Lib.hid ((hb5.block _ (by first | omega | (simp [World.setCell] <;> omega))).trans b4_0.out)
  have b5_1 : Hid (w5.heap[w2.heap.size]? = some (.cells #[.int .i64 (n1 : Int), .int .i64 a, .int .i64 b, .int .i64 c, .int .i64 d, .int .i64 l, .int .i64 (n3 : Int), .int .i64 (n4 : Int)] 31 (0, 0))) := Lib.hid ((hb5.block _ (by first | omega | (simp [World.setCell] <;> omega))).trans b4_1.out)
  clear b4_0 b4_1 X4 zz4 l4_0 c4_0_0 f4_0_0 c4_0_1 f4_0_1 c4_0_2 f4_0_2 c4_0_3 f4_0_3 c4_0_4 f4_0_4 c4_0_5 f4_0_5 c4_0_6 f4_0_6 c4_0_7 f4_0_7 l4_1 c4_1_0 f4_1_0 c4_1_1 f4_1_1 c4_1_2 f4_1_2 c4_1_3 f4_1_3 c4_1_4 f4_1_4 c4_1_5 f4_1_5 c4_1_6 f4_1_6 c4_1_7 f4_1_7 hb5
  have l5_0 : w.heap.size < w5.heap.size := (Array.getElem?_eq_some_iff.1 b5_0.out).1
  have c5_0_0 : w5.cell? ⟨w.heap.size, 0, none⟩ = some (.int .i64 0) := cell_of_row _ _ 0 _ _ (0, 0) b5_0.out
  have f5_0_0 : w5.frozen? ⟨w.heap.size, 0, none⟩ = false := block_free b5_0.out _
  have c5_0_1 : w5.cell? ⟨w.heap.size, 1, none⟩ = some (.int .i64 0) := cell_of_row _ _ 1 _ _ (0, 0) b5_0.out
  have f5_0_1 : w5.frozen? ⟨w.heap.size, 1, none⟩ = false := block_free b5_0.out _
  have c5_0_2 : w5.cell? ⟨w.heap.size, 2, none⟩ = some (.int .i64 0) := cell_of_row _ _ 2 _ _ (0, 0) b5_0.out
  have f5_0_2 : w5.frozen? ⟨w.heap.size, 2, none⟩ = false := block_free b5_0.out _
  have c5_0_3 : w5.cell? ⟨w.heap.size, 3, none⟩ = some (.int .i64 0) := cell_of_row _ _ 3 _ _ (0, 0) b5_0.out
  have f5_0_3 : w5.frozen? ⟨w.heap.size, 3, none⟩ = false := block_free b5_0.out _
  have c5_0_4 : w5.cell? ⟨w.heap.size, 4, none⟩ = some (.int .i64 0) := cell_of_row _ _ 4 _ _ (0, 0) b5_0.out
  have f5_0_4 : w5.frozen? ⟨w.heap.size, 4, none⟩ = false := block_free b5_0.out _
  have c5_0_5 : w5.cell? ⟨w.heap.size, 5, none⟩ = some (.int .i64 0) := cell_of_row _ _ 5 _ _ (0, 0) b5_0.out
  have f5_0_5 : w5.frozen? ⟨w.heap.size, 5, none⟩ = false := block_free b5_0.out _
  have c5_0_6 : w5.cell? ⟨w.heap.size, 6, none⟩ = some (.int .i64 0) := cell_of_row _ _ 6 _ _ (0, 0) b5_0.out
  have f5_0_6 : w5.frozen? ⟨w.heap.size, 6, none⟩ = false := block_free b5_0.out _
  have c5_0_7 : w5.cell? ⟨w.heap.size, 7, none⟩ = some (.int .i64 0) := cell_of_row _ _ 7 _ _ (0, 0) b5_0.out
  have f5_0_7 : w5.frozen? ⟨w.heap.size, 7, none⟩ = false := block_free b5_0.out _
  have l5_1 : w2.heap.size < w5.heap.size := (Array.getElem?_eq_some_iff.1 b5_1.out).1
  have c5_1_0 : w5.cell? ⟨w2.heap.size, 0, none⟩ = some (.int .i64 (n1 : Int)) := cell_of_row _ _ 0 _ _ (0, 0) b5_1.out
  have f5_1_0 : w5.frozen? ⟨w2.heap.size, 0, none⟩ = false := block_free b5_1.out _
  have c5_1_1 : w5.cell? ⟨w2.heap.size, 1, none⟩ = some (.int .i64 a) := cell_of_row _ _ 1 _ _ (0, 0) b5_1.out
  have f5_1_1 : w5.frozen? ⟨w2.heap.size, 1, none⟩ = false := block_free b5_1.out _
  have c5_1_2 : w5.cell? ⟨w2.heap.size, 2, none⟩ = some (.int .i64 b) := cell_of_row _ _ 2 _ _ (0, 0) b5_1.out
  have f5_1_2 : w5.frozen? ⟨w2.heap.size, 2, none⟩ = false := block_free b5_1.out _
  have c5_1_3 : w5.cell? ⟨w2.heap.size, 3, none⟩ = some (.int .i64 c) := cell_of_row _ _ 3 _ _ (0, 0) b5_1.out
  have f5_1_3 : w5.frozen? ⟨w2.heap.size, 3, none⟩ = false := block_free b5_1.out _
  have c5_1_4 : w5.cell? ⟨w2.heap.size, 4, none⟩ = some (.int .i64 d) := cell_of_row _ _ 4 _ _ (0, 0) b5_1.out
  have f5_1_4 : w5.frozen? ⟨w2.heap.size, 4, none⟩ = false := block_free b5_1.out _
  have c5_1_5 : w5.cell? ⟨w2.heap.size, 5, none⟩ = some (.int .i64 l) := cell_of_row _ _ 5 _ _ (0, 0) b5_1.out
  have f5_1_5 : w5.frozen? ⟨w2.heap.size, 5, none⟩ = false := block_free b5_1.out _
  have c5_1_6 : w5.cell? ⟨w2.heap.size, 6, none⟩ = some (.int .i64 (n3 : Int)) := cell_of_row _ _ 6 _ _ (0, 0) b5_1.out
  have f5_1_6 : w5.frozen? ⟨w2.heap.size, 6, none⟩ = false := block_free b5_1.out _
  have c5_1_7 : w5.cell? ⟨w2.heap.size, 7, none⟩ = some (.int .i64 (n4 : Int)) := cell_of_row _ _ 7 _ _ (0, 0) b5_1.out
  have f5_1_7 : w5.frozen? ⟨w2.heap.size, 7, none⟩ = false := block_free b5_1.out _
  by_cases hps : rootS (n1 : Int) a b c d l (n3 : Int) (n4 : Int) = s
  case neg =>
    have HNO := Lib.hid (HSIX.out.no_text (by rw [← HN1.out, ← HN3.out, ← HN4.out]; exact hps))
    have hq : ((strB (rootS (n1 : Int) a b c d l (n3 : Int) (n4 : Int))).toList == (strB s).toList) = false := by rw [strB_list, strB_list]; simpa using hps
    clear hps
    have HRR : Hid ((w5).heap[w.heap.size]? = some (.cells #[.int .i64 0, .int .i64 0, .int .i64 0, .int .i64 0, .int .i64 0, .int .i64 0, .int .i64 0, .int .i64 0] 31 (0, 0))) := Lib.hid (b5_0.out)
    have HBL : Hid (Below w.heap.size w w5) := Lib.hid X5
    go_wp2_with fail
    have hst := set_8 (x0 := .int .i64 0) (x1 := .int .i64 0) (x2 := .int .i64 0) (x3 := .int .i64 0) (x4 := .int .i64 0) (x5 := .int .i64 0) (x6 := .int .i64 0) (x7 := .int .i64 0) HRR.out
    have r0 := cell_of_row _ _ 0 _ _ (0, 0) hst
    have r1 := cell_of_row _ _ 1 _ _ (0, 0) hst
    have r2 := cell_of_row _ _ 2 _ _ (0, 0) hst
    have r3 := cell_of_row _ _ 3 _ _ (0, 0) hst
    have r4 := cell_of_row _ _ 4 _ _ (0, 0) hst
    have r5 := cell_of_row _ _ 5 _ _ (0, 0) hst
    have r6 := cell_of_row _ _ 6 _ _ (0, 0) hst
    have r7 := cell_of_row _ _ 7 _ _ (0, 0) hst
    clear hst
    exact bodyPost_ret (v := .tuple #[.agg #[.int .i64 0, .int .i64 0, .int .i64 0, .int .i64 0, .int .i64 0, .int .i64 0, .int .i64 0, .int .i64 0], .bool false]) (by simp [results, Tryz.results43, go_sem, r0, r1, r2, r3, r4, r5, r6, r7]) rfl (⟨_, _, _, _, _, _, _, _, _, rfl, HNO.out, (Below.setCell (p := ⟨w.heap.size, 7, none⟩) (Below.setCell (p := ⟨w.heap.size, 6, none⟩) (Below.setCell (p := ⟨w.heap.size, 5, none⟩) (Below.setCell (p := ⟨w.heap.size, 4, none⟩) (Below.setCell (p := ⟨w.heap.size, 3, none⟩) (Below.setCell (p := ⟨w.heap.size, 2, none⟩) (Below.setCell (p := ⟨w.heap.size, 1, none⟩) (Below.setCell (p := ⟨w.heap.size, 0, none⟩) HBL.out (Nat.le_refl _) _) (Nat.le_refl _) _) (Nat.le_refl _) _) (Nat.le_refl _) _) (Nat.le_refl _) _) (Nat.le_refl _) _) (Nat.le_refl _) _) (Nat.le_refl _) _)⟩)
  have HY : Hid (rootIs s (n1 : Int) a b c d l (n3 : Int) (n4 : Int) true) := Lib.hid (by have := HSIX.out.yes (by rw [← HN1.out, ← HN3.out, ← HN4.out]; exact hps); rw [← HN1.out, ← HN3.out, ← HN4.out] at this; exact this)
  have hq : ((strB (rootS (n1 : Int) a b c d l (n3 : Int) (n4 : Int))).toList == (strB s).toList) = true := by rw [hps]; simp
  clear hps
  have HRR : Hid ((w5).heap[w.heap.size]? = some (.cells #[.int .i64 0, .int .i64 0, .int .i64 0, .int .i64 0, .int .i64 0, .int .i64 0, .int .i64 0, .int .i64 0] 31 (0, 0))) := Lib.hid (b5_0.out)
  have HBL : Hid (Below w.heap.size w w5) := Lib.hid X5
  go_wp2_with fail
  have hst := set_8 (x0 := .int .i64 (n1 : Int)) (x1 := .int .i64 a) (x2 := .int .i64 b) (x3 := .int .i64 c) (x4 := .int .i64 d) (x5 := .int .i64 l) (x6 := .int .i64 (n3 : Int)) (x7 := .int .i64 (n4 : Int)) HRR.out
  have r0 := cell_of_row _ _ 0 _ _ (0, 0) hst
  have r1 := cell_of_row _ _ 1 _ _ (0, 0) hst
  have r2 := cell_of_row _ _ 2 _ _ (0, 0) hst
  have r3 := cell_of_row _ _ 3 _ _ (0, 0) hst
  have r4 := cell_of_row _ _ 4 _ _ (0, 0) hst
  have r5 := cell_of_row _ _ 5 _ _ (0, 0) hst
  have r6 := cell_of_row _ _ 6 _ _ (0, 0) hst
  have r7 := cell_of_row _ _ 7 _ _ (0, 0) hst
  clear hst
  exact bodyPost_ret (v := .tuple #[.agg #[.int .i64 (n1 : Int), .int .i64 a, .int .i64 b, .int .i64 c, .int .i64 d, .int .i64 l, .int .i64 (n3 : Int), .int .i64 (n4 : Int)], .bool true]) (by simp [results, Tryz.results43, go_sem, r0, r1, r2, r3, r4, r5, r6, r7]) rfl (⟨_, _, _, _, _, _, _, _, _, rfl, HY.out, (Below.setCell (p := ⟨w.heap.size, 7, none⟩) (Below.setCell (p := ⟨w.heap.size, 6, none⟩) (Below.setCell (p := ⟨w.heap.size, 5, none⟩) (Below.setCell (p := ⟨w.heap.size, 4, none⟩) (Below.setCell (p := ⟨w.heap.size, 3, none⟩) (Below.setCell (p := ⟨w.heap.size, 2, none⟩) (Below.setCell (p := ⟨w.heap.size, 1, none⟩) (Below.setCell (p := ⟨w.heap.size, 0, none⟩) HBL.out (Nat.le_refl _) _) (Nat.le_refl _) _) (Nat.le_refl _) _) (Nat.le_refl _) _) (Nat.le_refl _) _) (Nat.le_refl _) _) (Nat.le_refl _) _) (Nat.le_refl _) _)⟩)
end Go.Proofs.YtcfgbeajdkbbcaaGreatDoor
