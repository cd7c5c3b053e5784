/- Drawn roots: l93Root. No condition. -/
import Derived.Test.YtcfgbeajdkbbcaaGreatDoorDrawPtr
namespace Go.Proofs.YtcfgbeajdkbbcaaGreatDoor
set_option linter.unnecessarySimpa false
open Go.RowKit
set_option linter.unusedVariables false
set_option linter.unusedSimpArgs false
theorem setR_8 {w : World} {r T : Nat} {v0 v1 v2 v3 v4 v5 v6 v7 x0 x1 x2 x3 x4 x5 x6 x7 : Value} (h : w.heap[r]? = some (.cells #[v0, v1, v2, v3, v4, v5, v6, v7] T (0, 0))) :
    ((((((((w.setCell ⟨r, 0, none⟩ x0).setCell ⟨r, 1, none⟩ x1).setCell ⟨r, 2, none⟩ x2).setCell ⟨r, 3, none⟩ x3).setCell ⟨r, 4, none⟩ x4).setCell ⟨r, 5, none⟩ x5).setCell ⟨r, 6, none⟩ x6).setCell ⟨r, 7, none⟩ x7).heap[r]? = some (.cells #[x0, x1, x2, x3, x4, x5, x6, x7] T (0, 0)) := by
  have h1 : (w.setCell ⟨r, 0, none⟩ x0).heap[r]? = some (.cells #[x0, v1, v2, v3, v4, v5, v6, v7] T (0, 0)) := block_set (o := 0) (v := x0) h
  have h2 : ((w.setCell ⟨r, 0, none⟩ x0).setCell ⟨r, 1, none⟩ x1).heap[r]? = some (.cells #[x0, x1, v2, v3, v4, v5, v6, v7] T (0, 0)) := block_set (o := 1) (v := x1) h1
  have h3 : (((w.setCell ⟨r, 0, none⟩ x0).setCell ⟨r, 1, none⟩ x1).setCell ⟨r, 2, none⟩ x2).heap[r]? = some (.cells #[x0, x1, x2, v3, v4, v5, v6, v7] T (0, 0)) := block_set (o := 2) (v := x2) h2
  have h4 : ((((w.setCell ⟨r, 0, none⟩ x0).setCell ⟨r, 1, none⟩ x1).setCell ⟨r, 2, none⟩ x2).setCell ⟨r, 3, none⟩ x3).heap[r]? = some (.cells #[x0, x1, x2, x3, v4, v5, v6, v7] T (0, 0)) := block_set (o := 3) (v := x3) h3
  have h5 : (((((w.setCell ⟨r, 0, none⟩ x0).setCell ⟨r, 1, none⟩ x1).setCell ⟨r, 2, none⟩ x2).setCell ⟨r, 3, none⟩ x3).setCell ⟨r, 4, none⟩ x4).heap[r]? = some (.cells #[x0, x1, x2, x3, x4, v5, v6, v7] T (0, 0)) := block_set (o := 4) (v := x4) h4
  have h6 : ((((((w.setCell ⟨r, 0, none⟩ x0).setCell ⟨r, 1, none⟩ x1).setCell ⟨r, 2, none⟩ x2).setCell ⟨r, 3, none⟩ x3).setCell ⟨r, 4, none⟩ x4).setCell ⟨r, 5, none⟩ x5).heap[r]? = some (.cells #[x0, x1, x2, x3, x4, x5, v6, v7] T (0, 0)) := block_set (o := 5) (v := x5) h5
  have h7 : (((((((w.setCell ⟨r, 0, none⟩ x0).setCell ⟨r, 1, none⟩ x1).setCell ⟨r, 2, none⟩ x2).setCell ⟨r, 3, none⟩ x3).setCell ⟨r, 4, none⟩ x4).setCell ⟨r, 5, none⟩ x5).setCell ⟨r, 6, none⟩ x6).heap[r]? = some (.cells #[x0, x1, x2, x3, x4, x5, x6, v7] T (0, 0)) := block_set (o := 6) (v := x6) h6
  have h8 : ((((((((w.setCell ⟨r, 0, none⟩ x0).setCell ⟨r, 1, none⟩ x1).setCell ⟨r, 2, none⟩ x2).setCell ⟨r, 3, none⟩ x3).setCell ⟨r, 4, none⟩ x4).setCell ⟨r, 5, none⟩ x5).setCell ⟨r, 6, none⟩ x6).setCell ⟨r, 7, none⟩ x7).heap[r]? = some (.cells #[x0, x1, x2, x3, x4, x5, x6, x7] T (0, 0)) := block_set (o := 7) (v := x7) h7
  exact h8
/-- A root drawn. -/
def PickedRoot (w : World) (p : Nat) (A : Option Addr) (n c : Nat) (zs : List Int) (k : Nat) (e : Ending) (w' : World) : Prop :=
  ∃ (t a b s m l d y : Int) (k' : Nat), e = .returned (.agg #[.int .i64 t, .int .i64 a, .int .i64 b, .int .i64 s, .int .i64 m, .int .i64 l, .int .i64 d, .int .i64 y]) ∧ k' ≤ k + 40 ∧ Rd w' p A n c zs k' ∧ Chg (· ∈ [p]) w w'
set_option maxRecDepth 100000 in
set_option maxHeartbeats 4000000 in
theorem l93Root_any (w : World) (p : Nat) (A : Option Addr) (n c : Nat) (zs : List Int) (k : Nat) (h : Rd w p A n c zs k) (hk : k ≤ 700000) :
    Calls Tryz.prog 54 #[.pointer (some ⟨p, 0, none⟩)] w (PickedRoot w p A n c zs k) := by
  have hp := h.2.2.2.1
  go_enter Tryz.func54, Tryz.ntmps54
  go_wp2_with fail
  refine (pick_any _ p A n c zs (k) 9 (Rd.below h bel1) (by omega) (by omega) (by omega)).mono ?_
  rintro e w1 ⟨q1, rfl, hq1, rd1, hc1, hz1⟩
  have hq1 := hq1 (by omega)
  clear hz1
  have zz1 : w.heap.size + 1 ≤ w1.heap.size := by have := hc1.size; (try simp [World.setCell] at this); omega
  have X1 : Hid (Chg (· ∈ [p]) w w1) := Lib.hid ((Chg.alloc (Chg.refl _ _) _).trans hc1)
  have b1_0 : Hid (w1.heap[w.heap.size]? = some (.cells #[.int .i64 0, .int .i64 0, .int .i64 0, .int .i64 0, .int .i64 0, .int .i64 0, .int .i64 0, .int .i64 0] 31 (0, 0))) := Lib.hid ((hc1.block _ (by first | omega | (simp [World.setCell] <;> omega)) (by simp <;> omega)).trans (show _ from by have := heap_alloc_new w (.cells #[.int .i64 0, .int .i64 0, .int .i64 0, .int .i64 0, .int .i64 0, .int .i64 0, .int .i64 0, .int .i64 0] 31); simpa [World.setCell] using this))
  have R1 : Hid (Rd w1 p A n c zs (k + 1)) := Lib.hid rd1
  have pl1 : p < w1.heap.size := by omega
  clear hc1 rd1
  have l1_0 : w.heap.size < w1.heap.size := (Array.getElem?_eq_some_iff.1 b1_0.out).1
  have c1_0_0 : w1.cell? ⟨w.heap.size, 0, none⟩ = some (.int .i64 0) := cell_of_row _ _ 0 _ _ (0, 0) b1_0.out
  have f1_0_0 : w1.frozen? ⟨w.heap.size, 0, none⟩ = false := block_free b1_0.out _
  have c1_0_1 : w1.cell? ⟨w.heap.size, 1, none⟩ = some (.int .i64 0) := cell_of_row _ _ 1 _ _ (0, 0) b1_0.out
  have f1_0_1 : w1.frozen? ⟨w.heap.size, 1, none⟩ = false := block_free b1_0.out _
  have c1_0_2 : w1.cell? ⟨w.heap.size, 2, none⟩ = some (.int .i64 0) := cell_of_row _ _ 2 _ _ (0, 0) b1_0.out
  have f1_0_2 : w1.frozen? ⟨w.heap.size, 2, none⟩ = false := block_free b1_0.out _
  have c1_0_3 : w1.cell? ⟨w.heap.size, 3, none⟩ = some (.int .i64 0) := cell_of_row _ _ 3 _ _ (0, 0) b1_0.out
  have f1_0_3 : w1.frozen? ⟨w.heap.size, 3, none⟩ = false := block_free b1_0.out _
  have c1_0_4 : w1.cell? ⟨w.heap.size, 4, none⟩ = some (.int .i64 0) := cell_of_row _ _ 4 _ _ (0, 0) b1_0.out
  have f1_0_4 : w1.frozen? ⟨w.heap.size, 4, none⟩ = false := block_free b1_0.out _
  have c1_0_5 : w1.cell? ⟨w.heap.size, 5, none⟩ = some (.int .i64 0) := cell_of_row _ _ 5 _ _ (0, 0) b1_0.out
  have f1_0_5 : w1.frozen? ⟨w.heap.size, 5, none⟩ = false := block_free b1_0.out _
  have c1_0_6 : w1.cell? ⟨w.heap.size, 6, none⟩ = some (.int .i64 0) := cell_of_row _ _ 6 _ _ (0, 0) b1_0.out
  have f1_0_6 : w1.frozen? ⟨w.heap.size, 6, none⟩ = false := block_free b1_0.out _
  have c1_0_7 : w1.cell? ⟨w.heap.size, 7, none⟩ = some (.int .i64 0) := cell_of_row _ _ 7 _ _ (0, 0) b1_0.out
  have f1_0_7 : w1.frozen? ⟨w.heap.size, 7, none⟩ = false := block_free b1_0.out _
  go_wp2_with fail
  refine (l91Ptr_any _ p A n c zs (k + 1) R1.out (by omega)).mono ?_
  rintro e w2 ⟨a, b, s, m, l, k2, rfl, hk2, rd2, hc2⟩
  have zz2 : w1.heap.size + 0 ≤ w2.heap.size := by have := hc2.size; (try simp [World.setCell] at this); omega
  have X2 : Hid (Chg (· ∈ [p]) w w2) := Lib.hid (X1.out.trans hc2)
  have b2_0 : Hid (w2.heap[w.heap.size]? = some (.cells #[.int .i64 0, .int .i64 0, .int .i64 0, .int .i64 0, .int .i64 0, .int .i64 0, .int .i64 0, .int .i64 0] 31 (0, 0))) := Lib.hid ((hc2.block _ (by first | omega | (simp [World.setCell] <;> omega)) (by simp <;> omega)).trans b1_0.out)
  have R2 : Hid (Rd w2 p A n c zs (k2)) := Lib.hid rd2
  have pl2 : p < w2.heap.size := by omega
  clear b1_0 X1 R1 pl1 l1_0 c1_0_0 f1_0_0 c1_0_1 f1_0_1 c1_0_2 f1_0_2 c1_0_3 f1_0_3 c1_0_4 f1_0_4 c1_0_5 f1_0_5 c1_0_6 f1_0_6 c1_0_7 f1_0_7 hc2 rd2
  have l2_0 : w.heap.size < w2.heap.size := (Array.getElem?_eq_some_iff.1 b2_0.out).1
  have c2_0_0 : w2.cell? ⟨w.heap.size, 0, none⟩ = some (.int .i64 0) := cell_of_row _ _ 0 _ _ (0, 0) b2_0.out
  have f2_0_0 : w2.frozen? ⟨w.heap.size, 0, none⟩ = false := block_free b2_0.out _
  have c2_0_1 : w2.cell? ⟨w.heap.size, 1, none⟩ = some (.int .i64 0) := cell_of_row _ _ 1 _ _ (0, 0) b2_0.out
  have f2_0_1 : w2.frozen? ⟨w.heap.size, 1, none⟩ = false := block_free b2_0.out _
  have c2_0_2 : w2.cell? ⟨w.heap.size, 2, none⟩ = some (.int .i64 0) := cell_of_row _ _ 2 _ _ (0, 0) b2_0.out
  have f2_0_2 : w2.frozen? ⟨w.heap.size, 2, none⟩ = false := block_free b2_0.out _
  have c2_0_3 : w2.cell? ⟨w.heap.size, 3, none⟩ = some (.int .i64 0) := cell_of_row _ _ 3 _ _ (0, 0) b2_0.out
  have f2_0_3 : w2.frozen? ⟨w.heap.size, 3, none⟩ = false := block_free b2_0.out _
  have c2_0_4 : w2.cell? ⟨w.heap.size, 4, none⟩ = some (.int .i64 0) := cell_of_row _ _ 4 _ _ (0, 0) b2_0.out
  have f2_0_4 : w2.frozen? ⟨w.heap.size, 4, none⟩ = false := block_free b2_0.out _
  have c2_0_5 : w2.cell? ⟨w.heap.size, 5, none⟩ = some (.int .i64 0) := cell_of_row _ _ 5 _ _ (0, 0) b2_0.out
  have f2_0_5 : w2.frozen? ⟨w.heap.size, 5, none⟩ = false := block_free b2_0.out _
  have c2_0_6 : w2.cell? ⟨w.heap.size, 6, none⟩ = some (.int .i64 0) := cell_of_row _ _ 6 _ _ (0, 0) b2_0.out
  have f2_0_6 : w2.frozen? ⟨w.heap.size, 6, none⟩ = false := block_free b2_0.out _
  have c2_0_7 : w2.cell? ⟨w.heap.size, 7, none⟩ = some (.int .i64 0) := cell_of_row _ _ 7 _ _ (0, 0) b2_0.out
  have f2_0_7 : w2.frozen? ⟨w.heap.size, 7, none⟩ = false := block_free b2_0.out _
  go_wp2_with fail
  refine (pick_any _ p A n c zs (k2) 3 R2.out (by omega) (by omega) (by omega)).mono ?_
  rintro e w3 ⟨q3, rfl, hq3, rd3, hc3, hz3⟩
  have hq3 := hq3 (by omega)
  clear hz3
  have zz3 : w2.heap.size + 0 ≤ w3.heap.size := by have := hc3.size; (try simp [World.setCell] at this); omega
  have X3 : Hid (Chg (· ∈ [p]) w w3) := Lib.hid (X2.out.trans hc3)
  have b3_0 : Hid (w3.heap[w.heap.size]? = some (.cells #[.int .i64 0, .int .i64 0, .int .i64 0, .int .i64 0, .int .i64 0, .int .i64 0, .int .i64 0, .int .i64 0] 31 (0, 0))) := Lib.hid ((hc3.block _ (by first | omega | (simp [World.setCell] <;> omega)) (by simp <;> omega)).trans b2_0.out)
  have R3 : Hid (Rd w3 p A n c zs (k2 + 1)) := Lib.hid rd3
  have pl3 : p < w3.heap.size := by omega
  clear b2_0 X2 R2 pl2 l2_0 c2_0_0 f2_0_0 c2_0_1 f2_0_1 c2_0_2 f2_0_2 c2_0_3 f2_0_3 c2_0_4 f2_0_4 c2_0_5 f2_0_5 c2_0_6 f2_0_6 c2_0_7 f2_0_7 hc3 rd3
  have l3_0 : w.heap.size < w3.heap.size := (Array.getElem?_eq_some_iff.1 b3_0.out).1
  have c3_0_0 : w3.cell? ⟨w.heap.size, 0, none⟩ = some (.int .i64 0) := cell_of_row _ _ 0 _ _ (0, 0) b3_0.out
  have f3_0_0 : w3.frozen? ⟨w.heap.size, 0, none⟩ = false := block_free b3_0.out _
  have c3_0_1 : w3.cell? ⟨w.heap.size, 1, none⟩ = some (.int .i64 0) := cell_of_row _ _ 1 _ _ (0, 0) b3_0.out
  have f3_0_1 : w3.frozen? ⟨w.heap.size, 1, none⟩ = false := block_free b3_0.out _
  have c3_0_2 : w3.cell? ⟨w.heap.size, 2, none⟩ = some (.int .i64 0) := cell_of_row _ _ 2 _ _ (0, 0) b3_0.out
  have f3_0_2 : w3.frozen? ⟨w.heap.size, 2, none⟩ = false := block_free b3_0.out _
  have c3_0_3 : w3.cell? ⟨w.heap.size, 3, none⟩ = some (.int .i64 0) := cell_of_row _ _ 3 _ _ (0, 0) b3_0.out
  have f3_0_3 : w3.frozen? ⟨w.heap.size, 3, none⟩ = false := block_free b3_0.out _
  have c3_0_4 : w3.cell? ⟨w.heap.size, 4, none⟩ = some (.int .i64 0) := cell_of_row _ _ 4 _ _ (0, 0) b3_0.out
  have f3_0_4 : w3.frozen? ⟨w.heap.size, 4, none⟩ = false := block_free b3_0.out _
  have c3_0_5 : w3.cell? ⟨w.heap.size, 5, none⟩ = some (.int .i64 0) := cell_of_row _ _ 5 _ _ (0, 0) b3_0.out
  have f3_0_5 : w3.frozen? ⟨w.heap.size, 5, none⟩ = false := block_free b3_0.out _
  have c3_0_6 : w3.cell? ⟨w.heap.size, 6, none⟩ = some (.int .i64 0) := cell_of_row _ _ 6 _ _ (0, 0) b3_0.out
  have f3_0_6 : w3.frozen? ⟨w.heap.size, 6, none⟩ = false := block_free b3_0.out _
  have c3_0_7 : w3.cell? ⟨w.heap.size, 7, none⟩ = some (.int .i64 0) := cell_of_row _ _ 7 _ _ (0, 0) b3_0.out
  have f3_0_7 : w3.frozen? ⟨w.heap.size, 7, none⟩ = false := block_free b3_0.out _
  go_wp2_with fail
  refine (pick_any _ p A n c zs (k2 + 1) 16 R3.out (by omega) (by omega) (by omega)).mono ?_
  rintro e w4 ⟨q4, rfl, hq4, rd4, hc4, hz4⟩
  have hq4 := hq4 (by omega)
  clear hz4
  have zz4 : w3.heap.size + 0 ≤ w4.heap.size := by have := hc4.size; (try simp [World.setCell] at this); omega
  have X4 : Hid (Chg (· ∈ [p]) w w4) := Lib.hid (X3.out.trans hc4)
  have b4_0 : Hid (w4.heap[w.heap.size]? = some (.cells #[.int .i64 0, .int .i64 0, .int .i64 0, .int .i64 0, .int .i64 0, .int .i64 0, .int .i64 0, .int .i64 0] 31 (0, 0))) := Lib.hid ((hc4.block _ (by first | omega | (simp [World.setCell] <;> omega)) (by simp <;> omega)).trans b3_0.out)
  have R4 : Hid (Rd w4 p A n c zs (k2 + 1 + 1)) := Lib.hid rd4
  have pl4 : p < w4.heap.size := by omega
  clear b3_0 X3 R3 pl3 l3_0 c3_0_0 f3_0_0 c3_0_1 f3_0_1 c3_0_2 f3_0_2 c3_0_3 f3_0_3 c3_0_4 f3_0_4 c3_0_5 f3_0_5 c3_0_6 f3_0_6 c3_0_7 f3_0_7 hc4 rd4
  have l4_0 : w.heap.size < w4.heap.size := (Array.getElem?_eq_some_iff.1 b4_0.out).1
  have c4_0_0 : w4.cell? ⟨w.heap.size, 0, none⟩ = some (.int .i64 0) := cell_of_row _ _ 0 _ _ (0, 0) b4_0.out
  have f4_0_0 : w4.frozen? ⟨w.heap.size, 0, none⟩ = false := block_free b4_0.out _
  have c4_0_1 : w4.cell? ⟨w.heap.size, 1, none⟩ = some (.int .i64 0) := cell_of_row _ _ 1 _ _ (0, 0) b4_0.out
  have f4_0_1 : w4.frozen? ⟨w.heap.size, 1, none⟩ = false := block_free b4_0.out _
  have c4_0_2 : w4.cell? ⟨w.heap.size, 2, none⟩ = some (.int .i64 0) := cell_of_row _ _ 2 _ _ (0, 0) b4_0.out
  have f4_0_2 : w4.frozen? ⟨w.heap.size, 2, none⟩ = false := block_free b4_0.out _
  have c4_0_3 : w4.cell? ⟨w.heap.size, 3, none⟩ = some (.int .i64 0) := cell_of_row _ _ 3 _ _ (0, 0) b4_0.out
  have f4_0_3 : w4.frozen? ⟨w.heap.size, 3, none⟩ = false := block_free b4_0.out _
  have c4_0_4 : w4.cell? ⟨w.heap.size, 4, none⟩ = some (.int .i64 0) := cell_of_row _ _ 4 _ _ (0, 0) b4_0.out
  have f4_0_4 : w4.frozen? ⟨w.heap.size, 4, none⟩ = false := block_free b4_0.out _
  have c4_0_5 : w4.cell? ⟨w.heap.size, 5, none⟩ = some (.int .i64 0) := cell_of_row _ _ 5 _ _ (0, 0) b4_0.out
  have f4_0_5 : w4.frozen? ⟨w.heap.size, 5, none⟩ = false := block_free b4_0.out _
  have c4_0_6 : w4.cell? ⟨w.heap.size, 6, none⟩ = some (.int .i64 0) := cell_of_row _ _ 6 _ _ (0, 0) b4_0.out
  have f4_0_6 : w4.frozen? ⟨w.heap.size, 6, none⟩ = false := block_free b4_0.out _
  have c4_0_7 : w4.cell? ⟨w.heap.size, 7, none⟩ = some (.int .i64 0) := cell_of_row _ _ 7 _ _ (0, 0) b4_0.out
  have f4_0_7 : w4.frozen? ⟨w.heap.size, 7, none⟩ = false := block_free b4_0.out _
  go_wp2_with fail
  refine (pick_any _ p A n c zs (k2 + 1 + 1) 16 (Rd.below R4.out bel1) (by omega) (by omega) (by omega)).mono ?_
  rintro e w5 ⟨q5, rfl, hq5, rd5, hc5, hz5⟩
  have hq5 := hq5 (by omega)
  clear hz5
  have zz5 : w4.heap.size + 1 ≤ w5.heap.size := by have := hc5.size; (try simp [World.setCell] at this); omega
  have X5 : Hid (Chg (· ∈ [p]) w w5) := Lib.hid ((Chg.alloc X4.out _).trans hc5)
  have b5_0 : Hid (w5.heap[w.heap.size]? = some (.cells #[.int .i64 0, .int .i64 0, .int .i64 0, .int .i64 0, .int .i64 0, .int .i64 0, .int .i64 0, .int .i64 0] 31 (0, 0))) := Lib.hid ((hc5.block _ (by first | omega | (simp [World.setCell] <;> omega)) (by simp <;> omega)).trans ((Below.heap_alloc _ _ _ (by first | omega | (simp [World.setCell] <;> omega))).trans b4_0.out))
  have b5_1 : Hid (w5.heap[w4.heap.size]? = some (.cells #[.int .i64 (1 + (q1 : Int)), .int .i64 a, .int .i64 b, .int .i64 s, .int .i64 m, .int .i64 l, .int .i64 (q3 : Int), .int .i64 (1 + (q4 : Int))] 31 (0, 0))) := Lib.hid ((hc5.block _ (by first | omega | (simp [World.setCell] <;> omega)) (by simp <;> omega)).trans (show _ from by have := heap_alloc_new w4 (.cells #[.int .i64 (1 + (q1 : Int)), .int .i64 a, .int .i64 b, .int .i64 s, .int .i64 m, .int .i64 l, .int .i64 (q3 : Int), .int .i64 (1 + (q4 : Int))] 31); simpa [World.setCell] using this))
  have R5 : Hid (Rd w5 p A n c zs (k2 + 1 + 1 + 1)) := Lib.hid rd5
  have pl5 : p < w5.heap.size := by omega
  clear b4_0 X4 R4 pl4 l4_0 c4_0_0 f4_0_0 c4_0_1 f4_0_1 c4_0_2 f4_0_2 c4_0_3 f4_0_3 c4_0_4 f4_0_4 c4_0_5 f4_0_5 c4_0_6 f4_0_6 c4_0_7 f4_0_7 hc5 rd5
  have l5_0 : w.heap.size < w5.heap.size := (Array.getElem?_eq_some_iff.1 b5_0.out).1
  have c5_0_0 : w5.cell? ⟨w.heap.size, 0, none⟩ = some (.int .i64 0) := cell_of_row _ _ 0 _ _ (0, 0) b5_0.out
  have f5_0_0 : w5.frozen? ⟨w.heap.size, 0, none⟩ = false := block_free b5_0.out _
  have c5_0_1 : w5.cell? ⟨w.heap.size, 1, none⟩ = some (.int .i64 0) := cell_of_row _ _ 1 _ _ (0, 0) b5_0.out
  have f5_0_1 : w5.frozen? ⟨w.heap.size, 1, none⟩ = false := block_free b5_0.out _
  have c5_0_2 : w5.cell? ⟨w.heap.size, 2, none⟩ = some (.int .i64 0) := cell_of_row _ _ 2 _ _ (0, 0) b5_0.out
  have f5_0_2 : w5.frozen? ⟨w.heap.size, 2, none⟩ = false := block_free b5_0.out _
  have c5_0_3 : w5.cell? ⟨w.heap.size, 3, none⟩ = some (.int .i64 0) := cell_of_row _ _ 3 _ _ (0, 0) b5_0.out
  have f5_0_3 : w5.frozen? ⟨w.heap.size, 3, none⟩ = false := block_free b5_0.out _
  have c5_0_4 : w5.cell? ⟨w.heap.size, 4, none⟩ = some (.int .i64 0) := cell_of_row _ _ 4 _ _ (0, 0) b5_0.out
  have f5_0_4 : w5.frozen? ⟨w.heap.size, 4, none⟩ = false := block_free b5_0.out _
  have c5_0_5 : w5.cell? ⟨w.heap.size, 5, none⟩ = some (.int .i64 0) := cell_of_row _ _ 5 _ _ (0, 0) b5_0.out
  have f5_0_5 : w5.frozen? ⟨w.heap.size, 5, none⟩ = false := block_free b5_0.out _
  have c5_0_6 : w5.cell? ⟨w.heap.size, 6, none⟩ = some (.int .i64 0) := cell_of_row _ _ 6 _ _ (0, 0) b5_0.out
  have f5_0_6 : w5.frozen? ⟨w.heap.size, 6, none⟩ = false := block_free b5_0.out _
  have c5_0_7 : w5.cell? ⟨w.heap.size, 7, none⟩ = some (.int .i64 0) := cell_of_row _ _ 7 _ _ (0, 0) b5_0.out
  have f5_0_7 : w5.frozen? ⟨w.heap.size, 7, none⟩ = false := block_free b5_0.out _
  have l5_1 : w4.heap.size < w5.heap.size := (Array.getElem?_eq_some_iff.1 b5_1.out).1
  have c5_1_0 : w5.cell? ⟨w4.heap.size, 0, none⟩ = some (.int .i64 (1 + (q1 : Int))) := cell_of_row _ _ 0 _ _ (0, 0) b5_1.out
  have f5_1_0 : w5.frozen? ⟨w4.heap.size, 0, none⟩ = false := block_free b5_1.out _
  have c5_1_1 : w5.cell? ⟨w4.heap.size, 1, none⟩ = some (.int .i64 a) := cell_of_row _ _ 1 _ _ (0, 0) b5_1.out
  have f5_1_1 : w5.frozen? ⟨w4.heap.size, 1, none⟩ = false := block_free b5_1.out _
  have c5_1_2 : w5.cell? ⟨w4.heap.size, 2, none⟩ = some (.int .i64 b) := cell_of_row _ _ 2 _ _ (0, 0) b5_1.out
  have f5_1_2 : w5.frozen? ⟨w4.heap.size, 2, none⟩ = false := block_free b5_1.out _
  have c5_1_3 : w5.cell? ⟨w4.heap.size, 3, none⟩ = some (.int .i64 s) := cell_of_row _ _ 3 _ _ (0, 0) b5_1.out
  have f5_1_3 : w5.frozen? ⟨w4.heap.size, 3, none⟩ = false := block_free b5_1.out _
  have c5_1_4 : w5.cell? ⟨w4.heap.size, 4, none⟩ = some (.int .i64 m) := cell_of_row _ _ 4 _ _ (0, 0) b5_1.out
  have f5_1_4 : w5.frozen? ⟨w4.heap.size, 4, none⟩ = false := block_free b5_1.out _
  have c5_1_5 : w5.cell? ⟨w4.heap.size, 5, none⟩ = some (.int .i64 l) := cell_of_row _ _ 5 _ _ (0, 0) b5_1.out
  have f5_1_5 : w5.frozen? ⟨w4.heap.size, 5, none⟩ = false := block_free b5_1.out _
  have c5_1_6 : w5.cell? ⟨w4.heap.size, 6, none⟩ = some (.int .i64 (q3 : Int)) := cell_of_row _ _ 6 _ _ (0, 0) b5_1.out
  have f5_1_6 : w5.frozen? ⟨w4.heap.size, 6, none⟩ = false := block_free b5_1.out _
  have c5_1_7 : w5.cell? ⟨w4.heap.size, 7, none⟩ = some (.int .i64 (1 + (q4 : Int))) := cell_of_row _ _ 7 _ _ (0, 0) b5_1.out
  have f5_1_7 : w5.frozen? ⟨w4.heap.size, 7, none⟩ = false := block_free b5_1.out _
  have hv0 : (0 : Int) ≤ (q5 : Int) := by omega
  by_cases h0 : q5 = 0
  case pos =>
    have e0 : ((q5 : Int) == 0) = true := by simp [h0]
    clear h0
    go_wp2_with fail
    refine (pick_any _ p A n c zs (k2 + 1 + 1 + 1) 3 (Rd.below R5.out bel1) (by omega) (by omega) (by omega)).mono ?_
    rintro e w6 ⟨q9, rfl, hq9, rd6, hc6, hz6⟩
    have hq9 := hq9 (by omega)
    clear hz6
    obtain ⟨x, hx⟩ := lit_int (r := q9) (litInts [0, 900, 901]) hc6 rfl (by omega) (by simp; omega)
    have hq90 : (0 : Int) ≤ (q9 : Int) := by omega
    have hq91 : (q9 : Int) < 3 := by omega
    have zz6 : w5.heap.size + 1 ≤ w6.heap.size := by have := hc6.size; (try simp [World.setCell] at this); omega
    have X6 : Hid (Chg (· ∈ [p]) w w6) := Lib.hid ((Chg.alloc X5.out _).trans hc6)
    have b6_0 : Hid (w6.heap[w.heap.size]? = some (.cells #[.int .i64 0, .int .i64 0, .int .i64 0, .int .i64 0, .int .i64 0, .int .i64 0, .int .i64 0, .int .i64 0] 31 (0, 0))) := Lib.hid ((hc6.block _ (by first | omega | (simp [World.setCell] <;> omega)) (by simp <;> omega)).trans ((Below.heap_alloc _ _ _ (by first | omega | (simp [World.setCell] <;> omega))).trans b5_0.out))
    have b6_1 : Hid (w6.heap[w4.heap.size]? = some (.cells #[.int .i64 (1 + (q1 : Int)), .int .i64 a, .int .i64 b, .int .i64 s, .int .i64 m, .int .i64 l, .int .i64 (q3 : Int), .int .i64 (1 + (q4 : Int))] 31 (0, 0))) := Lib.hid ((hc6.block _ (by first | omega | (simp [World.setCell] <;> omega)) (by simp <;> omega)).trans ((Below.heap_alloc _ _ _ (by first | omega | (simp [World.setCell] <;> omega))).trans b5_1.out))
    have R6 : Hid (Rd w6 p A n c zs (k2 + 1 + 1 + 1 + 1)) := Lib.hid rd6
    have pl6 : p < w6.heap.size := by omega
    clear b5_0 b5_1 X5 R5 pl5 hc6 rd6
    have l6_0 : w.heap.size < w6.heap.size := (Array.getElem?_eq_some_iff.1 b6_0.out).1
    have c6_0_0 : w6.cell? ⟨w.heap.size, 0, none⟩ = some (.int .i64 0) := cell_of_row _ _ 0 _ _ (0, 0) b6_0.out
    have f6_0_0 : w6.frozen? ⟨w.heap.size, 0, none⟩ = false := block_free b6_0.out _
    have c6_0_1 : w6.cell? ⟨w.heap.size, 1, none⟩ = some (.int .i64 0) := cell_of_row _ _ 1 _ _ (0, 0) b6_0.out
    have f6_0_1 : w6.frozen? ⟨w.heap.size, 1, none⟩ = false := block_free b6_0.out _
    have c6_0_2 : w6.cell? ⟨w.heap.size, 2, none⟩ = some (.int .i64 0) := cell_of_row _ _ 2 _ _ (0, 0) b6_0.out
    have f6_0_2 : w6.frozen? ⟨w.heap.size, 2, none⟩ = false := block_free b6_0.out _
    have c6_0_3 : w6.cell? ⟨w.heap.size, 3, none⟩ = some (.int .i64 0) := cell_of_row _ _ 3 _ _ (0, 0) b6_0.out
    have f6_0_3 : w6.frozen? ⟨w.heap.size, 3, none⟩ = false := block_free b6_0.out _
    have c6_0_4 : w6.cell? ⟨w.heap.size, 4, none⟩ = some (.int .i64 0) := cell_of_row _ _ 4 _ _ (0, 0) b6_0.out
    have f6_0_4 : w6.frozen? ⟨w.heap.size, 4, none⟩ = false := block_free b6_0.out _
    have c6_0_5 : w6.cell? ⟨w.heap.size, 5, none⟩ = some (.int .i64 0) := cell_of_row _ _ 5 _ _ (0, 0) b6_0.out
    have f6_0_5 : w6.frozen? ⟨w.heap.size, 5, none⟩ = false := block_free b6_0.out _
    have c6_0_6 : w6.cell? ⟨w.heap.size, 6, none⟩ = some (.int .i64 0) := cell_of_row _ _ 6 _ _ (0, 0) b6_0.out
    have f6_0_6 : w6.frozen? ⟨w.heap.size, 6, none⟩ = false := block_free b6_0.out _
    have c6_0_7 : w6.cell? ⟨w.heap.size, 7, none⟩ = some (.int .i64 0) := cell_of_row _ _ 7 _ _ (0, 0) b6_0.out
    have f6_0_7 : w6.frozen? ⟨w.heap.size, 7, none⟩ = false := block_free b6_0.out _
    have l6_1 : w4.heap.size < w6.heap.size := (Array.getElem?_eq_some_iff.1 b6_1.out).1
    have c6_1_0 : w6.cell? ⟨w4.heap.size, 0, none⟩ = some (.int .i64 (1 + (q1 : Int))) := cell_of_row _ _ 0 _ _ (0, 0) b6_1.out
    have f6_1_0 : w6.frozen? ⟨w4.heap.size, 0, none⟩ = false := block_free b6_1.out _
    have c6_1_1 : w6.cell? ⟨w4.heap.size, 1, none⟩ = some (.int .i64 a) := cell_of_row _ _ 1 _ _ (0, 0) b6_1.out
    have f6_1_1 : w6.frozen? ⟨w4.heap.size, 1, none⟩ = false := block_free b6_1.out _
    have c6_1_2 : w6.cell? ⟨w4.heap.size, 2, none⟩ = some (.int .i64 b) := cell_of_row _ _ 2 _ _ (0, 0) b6_1.out
    have f6_1_2 : w6.frozen? ⟨w4.heap.size, 2, none⟩ = false := block_free b6_1.out _
    have c6_1_3 : w6.cell? ⟨w4.heap.size, 3, none⟩ = some (.int .i64 s) := cell_of_row _ _ 3 _ _ (0, 0) b6_1.out
    have f6_1_3 : w6.frozen? ⟨w4.heap.size, 3, none⟩ = false := block_free b6_1.out _
    have c6_1_4 : w6.cell? ⟨w4.heap.size, 4, none⟩ = some (.int .i64 m) := cell_of_row _ _ 4 _ _ (0, 0) b6_1.out
    have f6_1_4 : w6.frozen? ⟨w4.heap.size, 4, none⟩ = false := block_free b6_1.out _
    have c6_1_5 : w6.cell? ⟨w4.heap.size, 5, none⟩ = some (.int .i64 l) := cell_of_row _ _ 5 _ _ (0, 0) b6_1.out
    have f6_1_5 : w6.frozen? ⟨w4.heap.size, 5, none⟩ = false := block_free b6_1.out _
    have c6_1_6 : w6.cell? ⟨w4.heap.size, 6, none⟩ = some (.int .i64 (q3 : Int)) := cell_of_row _ _ 6 _ _ (0, 0) b6_1.out
    have f6_1_6 : w6.frozen? ⟨w4.heap.size, 6, none⟩ = false := block_free b6_1.out _
    have c6_1_7 : w6.cell? ⟨w4.heap.size, 7, none⟩ = some (.int .i64 (1 + (q4 : Int))) := cell_of_row _ _ 7 _ _ (0, 0) b6_1.out
    have f6_1_7 : w6.frozen? ⟨w4.heap.size, 7, none⟩ = false := block_free b6_1.out _
    go_wp2_with fail
    have hrr : ((World.setCell w6 ⟨w4.heap.size, 0, none⟩ (.int .i64 x))).heap[w.heap.size]? = some (.cells #[.int .i64 0, .int .i64 0, .int .i64 0, .int .i64 0, .int .i64 0, .int .i64 0, .int .i64 0, .int .i64 0] 31 (0, 0)) := ((heap_far (by first | omega | (simp <;> omega))).trans b6_0.out)
    have hst := setR_8 (x0 := .int .i64 x) (x1 := .int .i64 a) (x2 := .int .i64 b) (x3 := .int .i64 s) (x4 := .int .i64 m) (x5 := .int .i64 l) (x6 := .int .i64 (q3 : Int)) (x7 := .int .i64 (1 + (q4 : Int))) hrr
    clear hrr
    have r0 := cell_of_row _ _ 0 _ _ (0, 0) hst
    have r1 := cell_of_row _ _ 1 _ _ (0, 0) hst
    have r2 := cell_of_row _ _ 2 _ _ (0, 0) hst
    have r3 := cell_of_row _ _ 3 _ _ (0, 0) hst
    have r4 := cell_of_row _ _ 4 _ _ (0, 0) hst
    have r5 := cell_of_row _ _ 5 _ _ (0, 0) hst
    have r6 := cell_of_row _ _ 6 _ _ (0, 0) hst
    have r7 := cell_of_row _ _ 7 _ _ (0, 0) hst
    clear hst
    exact bodyPost_ret (v := .agg #[.int .i64 x, .int .i64 a, .int .i64 b, .int .i64 s, .int .i64 m, .int .i64 l, .int .i64 (q3 : Int), .int .i64 (1 + (q4 : Int))]) (by simp [results, Tryz.results54, go_sem, r0, r1, r2, r3, r4, r5, r6, r7]) rfl ⟨_, _, _, _, _, _, _, _, _, rfl, by omega, (Rd.set h (Rd.set h (Rd.set h (Rd.set h (Rd.set h (Rd.set h (Rd.set h (Rd.set h (Rd.set h R6.out (a := ⟨w4.heap.size, 0, none⟩) (by first | exact Nat.le_refl _ | (dsimp only; omega)) _) (a := ⟨w.heap.size, 0, none⟩) (by first | exact Nat.le_refl _ | (dsimp only; omega)) _) (a := ⟨w.heap.size, 1, none⟩) (by first | exact Nat.le_refl _ | (dsimp only; omega)) _) (a := ⟨w.heap.size, 2, none⟩) (by first | exact Nat.le_refl _ | (dsimp only; omega)) _) (a := ⟨w.heap.size, 3, none⟩) (by first | exact Nat.le_refl _ | (dsimp only; omega)) _) (a := ⟨w.heap.size, 4, none⟩) (by first | exact Nat.le_refl _ | (dsimp only; omega)) _) (a := ⟨w.heap.size, 5, none⟩) (by first | exact Nat.le_refl _ | (dsimp only; omega)) _) (a := ⟨w.heap.size, 6, none⟩) (by first | exact Nat.le_refl _ | (dsimp only; omega)) _) (a := ⟨w.heap.size, 7, none⟩) (by first | exact Nat.le_refl _ | (dsimp only; omega)) _), (Chg.setCell (p := ⟨w.heap.size, 7, none⟩) (Chg.setCell (p := ⟨w.heap.size, 6, none⟩) (Chg.setCell (p := ⟨w.heap.size, 5, none⟩) (Chg.setCell (p := ⟨w.heap.size, 4, none⟩) (Chg.setCell (p := ⟨w.heap.size, 3, none⟩) (Chg.setCell (p := ⟨w.heap.size, 2, none⟩) (Chg.setCell (p := ⟨w.heap.size, 1, none⟩) (Chg.setCell (p := ⟨w.heap.size, 0, none⟩) (Chg.setCell (p := ⟨w4.heap.size, 0, none⟩) X6.out (.inr (by first | exact Nat.le_refl _ | (dsimp only; omega))) _) (.inr (by first | exact Nat.le_refl _ | (dsimp only; omega))) _) (.inr (by first | exact Nat.le_refl _ | (dsimp only; omega))) _) (.inr (by first | exact Nat.le_refl _ | (dsimp only; omega))) _) (.inr (by first | exact Nat.le_refl _ | (dsimp only; omega))) _) (.inr (by first | exact Nat.le_refl _ | (dsimp only; omega))) _) (.inr (by first | exact Nat.le_refl _ | (dsimp only; omega))) _) (.inr (by first | exact Nat.le_refl _ | (dsimp only; omega))) _) (.inr (by first | exact Nat.le_refl _ | (dsimp only; omega))) _)⟩
  have e0 : ((q5 : Int) == 0) = false := by simp; omega
  have g0 : ¬ q5 = 0 := h0; clear h0
  by_cases h1 : q5 = 1
  case pos =>
    have e1 : ((q5 : Int) == 1) = true := by rw [h1]; rfl
    clear h1
    go_wp2_with fail
    refine (pick_any _ p A n c zs (k2 + 1 + 1 + 1) 2 (Rd.below R5.out bel1) (by omega) (by omega) (by omega)).mono ?_
    rintro e w6 ⟨q9, rfl, hq9, rd6, hc6, hz6⟩
    have hq9 := hq9 (by omega)
    clear hz6
    obtain ⟨x, hx⟩ := lit_int (r := q9) (litInts [-1, 3]) hc6 rfl (by omega) (by simp; omega)
    have hq90 : (0 : Int) ≤ (q9 : Int) := by omega
    have hq91 : (q9 : Int) < 2 := by omega
    have zz6 : w5.heap.size + 1 ≤ w6.heap.size := by have := hc6.size; (try simp [World.setCell] at this); omega
    have X6 : Hid (Chg (· ∈ [p]) w w6) := Lib.hid ((Chg.alloc X5.out _).trans hc6)
    have b6_0 : Hid (w6.heap[w.heap.size]? = some (.cells #[.int .i64 0, .int .i64 0, .int .i64 0, .int .i64 0, .int .i64 0, .int .i64 0, .int .i64 0, .int .i64 0] 31 (0, 0))) := Lib.hid ((hc6.block _ (by first | omega | (simp [World.setCell] <;> omega)) (by simp <;> omega)).trans ((Below.heap_alloc _ _ _ (by first | omega | (simp [World.setCell] <;> omega))).trans b5_0.out))
    have b6_1 : Hid (w6.heap[w4.heap.size]? = some (.cells #[.int .i64 (1 + (q1 : Int)), .int .i64 a, .int .i64 b, .int .i64 s, .int .i64 m, .int .i64 l, .int .i64 (q3 : Int), .int .i64 (1 + (q4 : Int))] 31 (0, 0))) := Lib.hid ((hc6.block _ (by first | omega | (simp [World.setCell] <;> omega)) (by simp <;> omega)).trans ((Below.heap_alloc _ _ _ (by first | omega | (simp [World.setCell] <;> omega))).trans b5_1.out))
    have R6 : Hid (Rd w6 p A n c zs (k2 + 1 + 1 + 1 + 1)) := Lib.hid rd6
    have pl6 : p < w6.heap.size := by omega
    clear b5_0 b5_1 X5 R5 pl5 hc6 rd6
    have l6_0 : w.heap.size < w6.heap.size := (Array.getElem?_eq_some_iff.1 b6_0.out).1
    have c6_0_0 : w6.cell? ⟨w.heap.size, 0, none⟩ = some (.int .i64 0) := cell_of_row _ _ 0 _ _ (0, 0) b6_0.out
    have f6_0_0 : w6.frozen? ⟨w.heap.size, 0, none⟩ = false := block_free b6_0.out _
    have c6_0_1 : w6.cell? ⟨w.heap.size, 1, none⟩ = some (.int .i64 0) := cell_of_row _ _ 1 _ _ (0, 0) b6_0.out
    have f6_0_1 : w6.frozen? ⟨w.heap.size, 1, none⟩ = false := block_free b6_0.out _
    have c6_0_2 : w6.cell? ⟨w.heap.size, 2, none⟩ = some (.int .i64 0) := cell_of_row _ _ 2 _ _ (0, 0) b6_0.out
    have f6_0_2 : w6.frozen? ⟨w.heap.size, 2, none⟩ = false := block_free b6_0.out _
    have c6_0_3 : w6.cell? ⟨w.heap.size, 3, none⟩ = some (.int .i64 0) := cell_of_row _ _ 3 _ _ (0, 0) b6_0.out
    have f6_0_3 : w6.frozen? ⟨w.heap.size, 3, none⟩ = false := block_free b6_0.out _
    have c6_0_4 : w6.cell? ⟨w.heap.size, 4, none⟩ = some (.int .i64 0) := cell_of_row _ _ 4 _ _ (0, 0) b6_0.out
    have f6_0_4 : w6.frozen? ⟨w.heap.size, 4, none⟩ = false := block_free b6_0.out _
    have c6_0_5 : w6.cell? ⟨w.heap.size, 5, none⟩ = some (.int .i64 0) := cell_of_row _ _ 5 _ _ (0, 0) b6_0.out
    have f6_0_5 : w6.frozen? ⟨w.heap.size, 5, none⟩ = false := block_free b6_0.out _
    have c6_0_6 : w6.cell? ⟨w.heap.size, 6, none⟩ = some (.int .i64 0) := cell_of_row _ _ 6 _ _ (0, 0) b6_0.out
    have f6_0_6 : w6.frozen? ⟨w.heap.size, 6, none⟩ = false := block_free b6_0.out _
    have c6_0_7 : w6.cell? ⟨w.heap.size, 7, none⟩ = some (.int .i64 0) := cell_of_row _ _ 7 _ _ (0, 0) b6_0.out
    have f6_0_7 : w6.frozen? ⟨w.heap.size, 7, none⟩ = false := block_free b6_0.out _
    have l6_1 : w4.heap.size < w6.heap.size := (Array.getElem?_eq_some_iff.1 b6_1.out).1
    have c6_1_0 : w6.cell? ⟨w4.heap.size, 0, none⟩ = some (.int .i64 (1 + (q1 : Int))) := cell_of_row _ _ 0 _ _ (0, 0) b6_1.out
    have f6_1_0 : w6.frozen? ⟨w4.heap.size, 0, none⟩ = false := block_free b6_1.out _
    have c6_1_1 : w6.cell? ⟨w4.heap.size, 1, none⟩ = some (.int .i64 a) := cell_of_row _ _ 1 _ _ (0, 0) b6_1.out
    have f6_1_1 : w6.frozen? ⟨w4.heap.size, 1, none⟩ = false := block_free b6_1.out _
    have c6_1_2 : w6.cell? ⟨w4.heap.size, 2, none⟩ = some (.int .i64 b) := cell_of_row _ _ 2 _ _ (0, 0) b6_1.out
    have f6_1_2 : w6.frozen? ⟨w4.heap.size, 2, none⟩ = false := block_free b6_1.out _
    have c6_1_3 : w6.cell? ⟨w4.heap.size, 3, none⟩ = some (.int .i64 s) := cell_of_row _ _ 3 _ _ (0, 0) b6_1.out
    have f6_1_3 : w6.frozen? ⟨w4.heap.size, 3, none⟩ = false := block_free b6_1.out _
    have c6_1_4 : w6.cell? ⟨w4.heap.size, 4, none⟩ = some (.int .i64 m) := cell_of_row _ _ 4 _ _ (0, 0) b6_1.out
    have f6_1_4 : w6.frozen? ⟨w4.heap.size, 4, none⟩ = false := block_free b6_1.out _
    have c6_1_5 : w6.cell? ⟨w4.heap.size, 5, none⟩ = some (.int .i64 l) := cell_of_row _ _ 5 _ _ (0, 0) b6_1.out
    have f6_1_5 : w6.frozen? ⟨w4.heap.size, 5, none⟩ = false := block_free b6_1.out _
    have c6_1_6 : w6.cell? ⟨w4.heap.size, 6, none⟩ = some (.int .i64 (q3 : Int)) := cell_of_row _ _ 6 _ _ (0, 0) b6_1.out
    have f6_1_6 : w6.frozen? ⟨w4.heap.size, 6, none⟩ = false := block_free b6_1.out _
    have c6_1_7 : w6.cell? ⟨w4.heap.size, 7, none⟩ = some (.int .i64 (1 + (q4 : Int))) := cell_of_row _ _ 7 _ _ (0, 0) b6_1.out
    have f6_1_7 : w6.frozen? ⟨w4.heap.size, 7, none⟩ = false := block_free b6_1.out _
    go_wp2_with fail
    have hrr : ((World.setCell w6 ⟨w4.heap.size, 6, none⟩ (.int .i64 x))).heap[w.heap.size]? = some (.cells #[.int .i64 0, .int .i64 0, .int .i64 0, .int .i64 0, .int .i64 0, .int .i64 0, .int .i64 0, .int .i64 0] 31 (0, 0)) := ((heap_far (by first | omega | (simp <;> omega))).trans b6_0.out)
    have hst := setR_8 (x0 := .int .i64 (1 + (q1 : Int))) (x1 := .int .i64 a) (x2 := .int .i64 b) (x3 := .int .i64 s) (x4 := .int .i64 m) (x5 := .int .i64 l) (x6 := .int .i64 x) (x7 := .int .i64 (1 + (q4 : Int))) hrr
    clear hrr
    have r0 := cell_of_row _ _ 0 _ _ (0, 0) hst
    have r1 := cell_of_row _ _ 1 _ _ (0, 0) hst
    have r2 := cell_of_row _ _ 2 _ _ (0, 0) hst
    have r3 := cell_of_row _ _ 3 _ _ (0, 0) hst
    have r4 := cell_of_row _ _ 4 _ _ (0, 0) hst
    have r5 := cell_of_row _ _ 5 _ _ (0, 0) hst
    have r6 := cell_of_row _ _ 6 _ _ (0, 0) hst
    have r7 := cell_of_row _ _ 7 _ _ (0, 0) hst
    clear hst
    exact bodyPost_ret (v := .agg #[.int .i64 (1 + (q1 : Int)), .int .i64 a, .int .i64 b, .int .i64 s, .int .i64 m, .int .i64 l, .int .i64 x, .int .i64 (1 + (q4 : Int))]) (by simp [results, Tryz.results54, go_sem, r0, r1, r2, r3, r4, r5, r6, r7]) rfl ⟨_, _, _, _, _, _, _, _, _, rfl, by omega, (Rd.set h (Rd.set h (Rd.set h (Rd.set h (Rd.set h (Rd.set h (Rd.set h (Rd.set h (Rd.set h R6.out (a := ⟨w4.heap.size, 6, none⟩) (by first | exact Nat.le_refl _ | (dsimp only; omega)) _) (a := ⟨w.heap.size, 0, none⟩) (by first | exact Nat.le_refl _ | (dsimp only; omega)) _) (a := ⟨w.heap.size, 1, none⟩) (by first | exact Nat.le_refl _ | (dsimp only; omega)) _) (a := ⟨w.heap.size, 2, none⟩) (by first | exact Nat.le_refl _ | (dsimp only; omega)) _) (a := ⟨w.heap.size, 3, none⟩) (by first | exact Nat.le_refl _ | (dsimp only; omega)) _) (a := ⟨w.heap.size, 4, none⟩) (by first | exact Nat.le_refl _ | (dsimp only; omega)) _) (a := ⟨w.heap.size, 5, none⟩) (by first | exact Nat.le_refl _ | (dsimp only; omega)) _) (a := ⟨w.heap.size, 6, none⟩) (by first | exact Nat.le_refl _ | (dsimp only; omega)) _) (a := ⟨w.heap.size, 7, none⟩) (by first | exact Nat.le_refl _ | (dsimp only; omega)) _), (Chg.setCell (p := ⟨w.heap.size, 7, none⟩) (Chg.setCell (p := ⟨w.heap.size, 6, none⟩) (Chg.setCell (p := ⟨w.heap.size, 5, none⟩) (Chg.setCell (p := ⟨w.heap.size, 4, none⟩) (Chg.setCell (p := ⟨w.heap.size, 3, none⟩) (Chg.setCell (p := ⟨w.heap.size, 2, none⟩) (Chg.setCell (p := ⟨w.heap.size, 1, none⟩) (Chg.setCell (p := ⟨w.heap.size, 0, none⟩) (Chg.setCell (p := ⟨w4.heap.size, 6, none⟩) X6.out (.inr (by first | exact Nat.le_refl _ | (dsimp only; omega))) _) (.inr (by first | exact Nat.le_refl _ | (dsimp only; omega))) _) (.inr (by first | exact Nat.le_refl _ | (dsimp only; omega))) _) (.inr (by first | exact Nat.le_refl _ | (dsimp only; omega))) _) (.inr (by first | exact Nat.le_refl _ | (dsimp only; omega))) _) (.inr (by first | exact Nat.le_refl _ | (dsimp only; omega))) _) (.inr (by first | exact Nat.le_refl _ | (dsimp only; omega))) _) (.inr (by first | exact Nat.le_refl _ | (dsimp only; omega))) _) (.inr (by first | exact Nat.le_refl _ | (dsimp only; omega))) _)⟩
  have e1 : ((q5 : Int) == 1) = false := by simp; omega
  have g1 : ¬ q5 = 1 := h1; clear h1
  by_cases h2 : q5 = 2
  case pos =>
    have e2 : ((q5 : Int) == 2) = true := by rw [h2]; rfl
    clear h2
    go_wp2_with fail
    refine (pick_any _ p A n c zs (k2 + 1 + 1 + 1) 2 (Rd.below R5.out bel1) (by omega) (by omega) (by omega)).mono ?_
    rintro e w6 ⟨q9, rfl, hq9, rd6, hc6, hz6⟩
    have hq9 := hq9 (by omega)
    clear hz6
    obtain ⟨x, hx⟩ := lit_int (r := q9) (litInts [0, 17]) hc6 rfl (by omega) (by simp; omega)
    have hq90 : (0 : Int) ≤ (q9 : Int) := by omega
    have hq91 : (q9 : Int) < 2 := by omega
    have zz6 : w5.heap.size + 1 ≤ w6.heap.size := by have := hc6.size; (try simp [World.setCell] at this); omega
    have X6 : Hid (Chg (· ∈ [p]) w w6) := Lib.hid ((Chg.alloc X5.out _).trans hc6)
    have b6_0 : Hid (w6.heap[w.heap.size]? = some (.cells #[.int .i64 0, .int .i64 0, .int .i64 0, .int .i64 0, .int .i64 0, .int .i64 0, .int .i64 0, .int .i64 0] 31 (0, 0))) := Lib.hid ((hc6.block _ (by first | omega | (simp [World.setCell] <;> omega)) (by simp <;> omega)).trans ((Below.heap_alloc _ _ _ (by first | omega | (simp [World.setCell] <;> omega))).trans b5_0.out))
    have b6_1 : Hid (w6.heap[w4.heap.size]? = some (.cells #[.int .i64 (1 + (q1 : Int)), .int .i64 a, .int .i64 b, .int .i64 s, .int .i64 m, .int .i64 l, .int .i64 (q3 : Int), .int .i64 (1 + (q4 : Int))] 31 (0, 0))) := Lib.hid ((hc6.block _ (by first | omega | (simp [World.setCell] <;> omega)) (by simp <;> omega)).trans ((Below.heap_alloc _ _ _ (by first | omega | (simp [World.setCell] <;> omega))).trans b5_1.out))
    have R6 : Hid (Rd w6 p A n c zs (k2 + 1 + 1 + 1 + 1)) := Lib.hid rd6
    have pl6 : p < w6.heap.size := by omega
    clear b5_0 b5_1 X5 R5 pl5 hc6 rd6
    have l6_0 : w.heap.size < w6.heap.size := (Array.getElem?_eq_some_iff.1 b6_0.out).1
    have c6_0_0 : w6.cell? ⟨w.heap.size, 0, none⟩ = some (.int .i64 0) := cell_of_row _ _ 0 _ _ (0, 0) b6_0.out
    have f6_0_0 : w6.frozen? ⟨w.heap.size, 0, none⟩ = false := block_free b6_0.out _
    have c6_0_1 : w6.cell? ⟨w.heap.size, 1, none⟩ = some (.int .i64 0) := cell_of_row _ _ 1 _ _ (0, 0) b6_0.out
    have f6_0_1 : w6.frozen? ⟨w.heap.size, 1, none⟩ = false := block_free b6_0.out _
    have c6_0_2 : w6.cell? ⟨w.heap.size, 2, none⟩ = some (.int .i64 0) := cell_of_row _ _ 2 _ _ (0, 0) b6_0.out
    have f6_0_2 : w6.frozen? ⟨w.heap.size, 2, none⟩ = false := block_free b6_0.out _
    have c6_0_3 : w6.cell? ⟨w.heap.size, 3, none⟩ = some (.int .i64 0) := cell_of_row _ _ 3 _ _ (0, 0) b6_0.out
    have f6_0_3 : w6.frozen? ⟨w.heap.size, 3, none⟩ = false := block_free b6_0.out _
    have c6_0_4 : w6.cell? ⟨w.heap.size, 4, none⟩ = some (.int .i64 0) := cell_of_row _ _ 4 _ _ (0, 0) b6_0.out
    have f6_0_4 : w6.frozen? ⟨w.heap.size, 4, none⟩ = false := block_free b6_0.out _
    have c6_0_5 : w6.cell? ⟨w.heap.size, 5, none⟩ = some (.int .i64 0) := cell_of_row _ _ 5 _ _ (0, 0) b6_0.out
    have f6_0_5 : w6.frozen? ⟨w.heap.size, 5, none⟩ = false := block_free b6_0.out _
    have c6_0_6 : w6.cell? ⟨w.heap.size, 6, none⟩ = some (.int .i64 0) := cell_of_row _ _ 6 _ _ (0, 0) b6_0.out
    have f6_0_6 : w6.frozen? ⟨w.heap.size, 6, none⟩ = false := block_free b6_0.out _
    have c6_0_7 : w6.cell? ⟨w.heap.size, 7, none⟩ = some (.int .i64 0) := cell_of_row _ _ 7 _ _ (0, 0) b6_0.out
    have f6_0_7 : w6.frozen? ⟨w.heap.size, 7, none⟩ = false := block_free b6_0.out _
    have l6_1 : w4.heap.size < w6.heap.size := (Array.getElem?_eq_some_iff.1 b6_1.out).1
    have c6_1_0 : w6.cell? ⟨w4.heap.size, 0, none⟩ = some (.int .i64 (1 + (q1 : Int))) := cell_of_row _ _ 0 _ _ (0, 0) b6_1.out
    have f6_1_0 : w6.frozen? ⟨w4.heap.size, 0, none⟩ = false := block_free b6_1.out _
    have c6_1_1 : w6.cell? ⟨w4.heap.size, 1, none⟩ = some (.int .i64 a) := cell_of_row _ _ 1 _ _ (0, 0) b6_1.out
    have f6_1_1 : w6.frozen? ⟨w4.heap.size, 1, none⟩ = false := block_free b6_1.out _
    have c6_1_2 : w6.cell? ⟨w4.heap.size, 2, none⟩ = some (.int .i64 b) := cell_of_row _ _ 2 _ _ (0, 0) b6_1.out
    have f6_1_2 : w6.frozen? ⟨w4.heap.size, 2, none⟩ = false := block_free b6_1.out _
    have c6_1_3 : w6.cell? ⟨w4.heap.size, 3, none⟩ = some (.int .i64 s) := cell_of_row _ _ 3 _ _ (0, 0) b6_1.out
    have f6_1_3 : w6.frozen? ⟨w4.heap.size, 3, none⟩ = false := block_free b6_1.out _
    have c6_1_4 : w6.cell? ⟨w4.heap.size, 4, none⟩ = some (.int .i64 m) := cell_of_row _ _ 4 _ _ (0, 0) b6_1.out
    have f6_1_4 : w6.frozen? ⟨w4.heap.size, 4, none⟩ = false := block_free b6_1.out _
    have c6_1_5 : w6.cell? ⟨w4.heap.size, 5, none⟩ = some (.int .i64 l) := cell_of_row _ _ 5 _ _ (0, 0) b6_1.out
    have f6_1_5 : w6.frozen? ⟨w4.heap.size, 5, none⟩ = false := block_free b6_1.out _
    have c6_1_6 : w6.cell? ⟨w4.heap.size, 6, none⟩ = some (.int .i64 (q3 : Int)) := cell_of_row _ _ 6 _ _ (0, 0) b6_1.out
    have f6_1_6 : w6.frozen? ⟨w4.heap.size, 6, none⟩ = false := block_free b6_1.out _
    have c6_1_7 : w6.cell? ⟨w4.heap.size, 7, none⟩ = some (.int .i64 (1 + (q4 : Int))) := cell_of_row _ _ 7 _ _ (0, 0) b6_1.out
    have f6_1_7 : w6.frozen? ⟨w4.heap.size, 7, none⟩ = false := block_free b6_1.out _
    go_wp2_with fail
    have hrr : ((World.setCell w6 ⟨w4.heap.size, 7, none⟩ (.int .i64 x))).heap[w.heap.size]? = some (.cells #[.int .i64 0, .int .i64 0, .int .i64 0, .int .i64 0, .int .i64 0, .int .i64 0, .int .i64 0, .int .i64 0] 31 (0, 0)) := ((heap_far (by first | omega | (simp <;> omega))).trans b6_0.out)
    have hst := setR_8 (x0 := .int .i64 (1 + (q1 : Int))) (x1 := .int .i64 a) (x2 := .int .i64 b) (x3 := .int .i64 s) (x4 := .int .i64 m) (x5 := .int .i64 l) (x6 := .int .i64 (q3 : Int)) (x7 := .int .i64 x) hrr
    clear hrr
    have r0 := cell_of_row _ _ 0 _ _ (0, 0) hst
    have r1 := cell_of_row _ _ 1 _ _ (0, 0) hst
    have r2 := cell_of_row _ _ 2 _ _ (0, 0) hst
    have r3 := cell_of_row _ _ 3 _ _ (0, 0) hst
    have r4 := cell_of_row _ _ 4 _ _ (0, 0) hst
    have r5 := cell_of_row _ _ 5 _ _ (0, 0) hst
    have r6 := cell_of_row _ _ 6 _ _ (0, 0) hst
    have r7 := cell_of_row _ _ 7 _ _ (0, 0) hst
    clear hst
    exact bodyPost_ret (v := .agg #[.int .i64 (1 + (q1 : Int)), .int .i64 a, .int .i64 b, .int .i64 s, .int .i64 m, .int .i64 l, .int .i64 (q3 : Int), .int .i64 x]) (by simp [results, Tryz.results54, go_sem, r0, r1, r2, r3, r4, r5, r6, r7]) rfl ⟨_, _, _, _, _, _, _, _, _, rfl, by omega, (Rd.set h (Rd.set h (Rd.set h (Rd.set h (Rd.set h (Rd.set h (Rd.set h (Rd.set h (Rd.set h R6.out (a := ⟨w4.heap.size, 7, none⟩) (by first | exact Nat.le_refl _ | (dsimp only; omega)) _) (a := ⟨w.heap.size, 0, none⟩) (by first | exact Nat.le_refl _ | (dsimp only; omega)) _) (a := ⟨w.heap.size, 1, none⟩) (by first | exact Nat.le_refl _ | (dsimp only; omega)) _) (a := ⟨w.heap.size, 2, none⟩) (by first | exact Nat.le_refl _ | (dsimp only; omega)) _) (a := ⟨w.heap.size, 3, none⟩) (by first | exact Nat.le_refl _ | (dsimp only; omega)) _) (a := ⟨w.heap.size, 4, none⟩) (by first | exact Nat.le_refl _ | (dsimp only; omega)) _) (a := ⟨w.heap.size, 5, none⟩) (by first | exact Nat.le_refl _ | (dsimp only; omega)) _) (a := ⟨w.heap.size, 6, none⟩) (by first | exact Nat.le_refl _ | (dsimp only; omega)) _) (a := ⟨w.heap.size, 7, none⟩) (by first | exact Nat.le_refl _ | (dsimp only; omega)) _), (Chg.setCell (p := ⟨w.heap.size, 7, none⟩) (Chg.setCell (p := ⟨w.heap.size, 6, none⟩) (Chg.setCell (p := ⟨w.heap.size, 5, none⟩) (Chg.setCell (p := ⟨w.heap.size, 4, none⟩) (Chg.setCell (p := ⟨w.heap.size, 3, none⟩) (Chg.setCell (p := ⟨w.heap.size, 2, none⟩) (Chg.setCell (p := ⟨w.heap.size, 1, none⟩) (Chg.setCell (p := ⟨w.heap.size, 0, none⟩) (Chg.setCell (p := ⟨w4.heap.size, 7, none⟩) X6.out (.inr (by first | exact Nat.le_refl _ | (dsimp only; omega))) _) (.inr (by first | exact Nat.le_refl _ | (dsimp only; omega))) _) (.inr (by first | exact Nat.le_refl _ | (dsimp only; omega))) _) (.inr (by first | exact Nat.le_refl _ | (dsimp only; omega))) _) (.inr (by first | exact Nat.le_refl _ | (dsimp only; omega))) _) (.inr (by first | exact Nat.le_refl _ | (dsimp only; omega))) _) (.inr (by first | exact Nat.le_refl _ | (dsimp only; omega))) _) (.inr (by first | exact Nat.le_refl _ | (dsimp only; omega))) _) (.inr (by first | exact Nat.le_refl _ | (dsimp only; omega))) _)⟩
  have e2 : ((q5 : Int) == 2) = false := by simp; omega
  have g2 : ¬ q5 = 2 := h2; clear h2
  go_wp2_with fail
  have hrr : (w5).heap[w.heap.size]? = some (.cells #[.int .i64 0, .int .i64 0, .int .i64 0, .int .i64 0, .int .i64 0, .int .i64 0, .int .i64 0, .int .i64 0] 31 (0, 0)) := b5_0.out
  have hst := setR_8 (x0 := .int .i64 (1 + (q1 : Int))) (x1 := .int .i64 a) (x2 := .int .i64 b) (x3 := .int .i64 s) (x4 := .int .i64 m) (x5 := .int .i64 l) (x6 := .int .i64 (q3 : Int)) (x7 := .int .i64 (1 + (q4 : Int))) hrr
  clear hrr
  have r0 := cell_of_row _ _ 0 _ _ (0, 0) hst
  have r1 := cell_of_row _ _ 1 _ _ (0, 0) hst
  have r2 := cell_of_row _ _ 2 _ _ (0, 0) hst
  have r3 := cell_of_row _ _ 3 _ _ (0, 0) hst
  have r4 := cell_of_row _ _ 4 _ _ (0, 0) hst
  have r5 := cell_of_row _ _ 5 _ _ (0, 0) hst
  have r6 := cell_of_row _ _ 6 _ _ (0, 0) hst
  have r7 := cell_of_row _ _ 7 _ _ (0, 0) hst
  clear hst
  exact bodyPost_ret (v := .agg #[.int .i64 (1 + (q1 : Int)), .int .i64 a, .int .i64 b, .int .i64 s, .int .i64 m, .int .i64 l, .int .i64 (q3 : Int), .int .i64 (1 + (q4 : Int))]) (by simp [results, Tryz.results54, go_sem, r0, r1, r2, r3, r4, r5, r6, r7]) rfl ⟨_, _, _, _, _, _, _, _, _, rfl, by omega, (Rd.set h (Rd.set h (Rd.set h (Rd.set h (Rd.set h (Rd.set h (Rd.set h (Rd.set h R5.out (a := ⟨w.heap.size, 0, none⟩) (by first | exact Nat.le_refl _ | (dsimp only; omega)) _) (a := ⟨w.heap.size, 1, none⟩) (by first | exact Nat.le_refl _ | (dsimp only; omega)) _) (a := ⟨w.heap.size, 2, none⟩) (by first | exact Nat.le_refl _ | (dsimp only; omega)) _) (a := ⟨w.heap.size, 3, none⟩) (by first | exact Nat.le_refl _ | (dsimp only; omega)) _) (a := ⟨w.heap.size, 4, none⟩) (by first | exact Nat.le_refl _ | (dsimp only; omega)) _) (a := ⟨w.heap.size, 5, none⟩) (by first | exact Nat.le_refl _ | (dsimp only; omega)) _) (a := ⟨w.heap.size, 6, none⟩) (by first | exact Nat.le_refl _ | (dsimp only; omega)) _) (a := ⟨w.heap.size, 7, none⟩) (by first | exact Nat.le_refl _ | (dsimp only; omega)) _), (Chg.setCell (p := ⟨w.heap.size, 7, none⟩) (Chg.setCell (p := ⟨w.heap.size, 6, none⟩) (Chg.setCell (p := ⟨w.heap.size, 5, none⟩) (Chg.setCell (p := ⟨w.heap.size, 4, none⟩) (Chg.setCell (p := ⟨w.heap.size, 3, none⟩) (Chg.setCell (p := ⟨w.heap.size, 2, none⟩) (Chg.setCell (p := ⟨w.heap.size, 1, none⟩) (Chg.setCell (p := ⟨w.heap.size, 0, none⟩) X5.out (.inr (by first | exact Nat.le_refl _ | (dsimp only; omega))) _) (.inr (by first | exact Nat.le_refl _ | (dsimp only; omega))) _) (.inr (by first | exact Nat.le_refl _ | (dsimp only; omega))) _) (.inr (by first | exact Nat.le_refl _ | (dsimp only; omega))) _) (.inr (by first | exact Nat.le_refl _ | (dsimp only; omega))) _) (.inr (by first | exact Nat.le_refl _ | (dsimp only; omega))) _) (.inr (by first | exact Nat.le_refl _ | (dsimp only; omega))) _) (.inr (by first | exact Nat.le_refl _ | (dsimp only; omega))) _)⟩
end Go.Proofs.YtcfgbeajdkbbcaaGreatDoor
