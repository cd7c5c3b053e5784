/- Drawn intents. No condition. -/
import Derived.Test.YtkmkmndcgemnlaaDoorDrawOp
import Derived.Test.YtkmkmndcgemnlaaDoorNames
namespace Go.Proofs.YtkmkmndcgemnlaaDoor
set_option linter.unnecessarySimpa false
open Go.RowKit
set_option linter.unusedVariables false
set_option linter.unusedSimpArgs false
theorem setI_8 {w : World} {r T : Nat} {v0 v1 v2 v3 v4 v5 v6 v7 x0 x1 x2 x3 x4 x5 x6 x7 : Value} (h : w.heap[r]? = some (.cells #[v0, v1, v2, v3, v4, v5, v6, v7] T (0, 0))) :
    ((((((((w.setCell ⟨r, 0, none⟩ x0).setCell ⟨r, 1, none⟩ x1).setCell ⟨r, 2, none⟩ x2).setCell ⟨r, 3, none⟩ x3).setCell ⟨r, 4, none⟩ x4).setCell ⟨r, 5, none⟩ x5).setCell ⟨r, 6, none⟩ x6).setCell ⟨r, 7, none⟩ x7).heap[r]? = some (.cells #[x0, x1, x2, x3, x4, x5, x6, x7] T (0, 0)) := by
  have h1 : (w.setCell ⟨r, 0, none⟩ x0).heap[r]? = some (.cells #[x0, v1, v2, v3, v4, v5, v6, v7] T (0, 0)) := block_set (o := 0) (v := x0) h
  have h2 : ((w.setCell ⟨r, 0, none⟩ x0).setCell ⟨r, 1, none⟩ x1).heap[r]? = some (.cells #[x0, x1, v2, v3, v4, v5, v6, v7] T (0, 0)) := block_set (o := 1) (v := x1) h1
  have h3 : (((w.setCell ⟨r, 0, none⟩ x0).setCell ⟨r, 1, none⟩ x1).setCell ⟨r, 2, none⟩ x2).heap[r]? = some (.cells #[x0, x1, x2, v3, v4, v5, v6, v7] T (0, 0)) := block_set (o := 2) (v := x2) h2
  have h4 : ((((w.setCell ⟨r, 0, none⟩ x0).setCell ⟨r, 1, none⟩ x1).setCell ⟨r, 2, none⟩ x2).setCell ⟨r, 3, none⟩ x3).heap[r]? = some (.cells #[x0, x1, x2, x3, v4, v5, v6, v7] T (0, 0)) := block_set (o := 3) (v := x3) h3
  have h5 : (((((w.setCell ⟨r, 0, none⟩ x0).setCell ⟨r, 1, none⟩ x1).setCell ⟨r, 2, none⟩ x2).setCell ⟨r, 3, none⟩ x3).setCell ⟨r, 4, none⟩ x4).heap[r]? = some (.cells #[x0, x1, x2, x3, x4, v5, v6, v7] T (0, 0)) := block_set (o := 4) (v := x4) h4
  have h6 : ((((((w.setCell ⟨r, 0, none⟩ x0).setCell ⟨r, 1, none⟩ x1).setCell ⟨r, 2, none⟩ x2).setCell ⟨r, 3, none⟩ x3).setCell ⟨r, 4, none⟩ x4).setCell ⟨r, 5, none⟩ x5).heap[r]? = some (.cells #[x0, x1, x2, x3, x4, x5, v6, v7] T (0, 0)) := block_set (o := 5) (v := x5) h5
  have h7 : (((((((w.setCell ⟨r, 0, none⟩ x0).setCell ⟨r, 1, none⟩ x1).setCell ⟨r, 2, none⟩ x2).setCell ⟨r, 3, none⟩ x3).setCell ⟨r, 4, none⟩ x4).setCell ⟨r, 5, none⟩ x5).setCell ⟨r, 6, none⟩ x6).heap[r]? = some (.cells #[x0, x1, x2, x3, x4, x5, x6, v7] T (0, 0)) := block_set (o := 6) (v := x6) h6
  have h8 : ((((((((w.setCell ⟨r, 0, none⟩ x0).setCell ⟨r, 1, none⟩ x1).setCell ⟨r, 2, none⟩ x2).setCell ⟨r, 3, none⟩ x3).setCell ⟨r, 4, none⟩ x4).setCell ⟨r, 5, none⟩ x5).setCell ⟨r, 6, none⟩ x6).setCell ⟨r, 7, none⟩ x7).heap[r]? = some (.cells #[x0, x1, x2, x3, x4, x5, x6, x7] T (0, 0)) := block_set (o := 7) (v := x7) h7
  exact h8
/-- A drawn intent. -/
def PickedInt (w : World) (p : Nat) (A : Option Addr) (n c : Nat) (zs : List Int) (k : Nat) (e : Ending) (w' : World) : Prop :=
  ∃ (g q : Int) (h : ByteArray) (x : Int) (s t : ByteArray) (a : Int) (u : ByteArray) (k' : Nat), e = .returned (.agg #[.int .i64 g, .int .i64 q, .string h, .int .i64 x, .string s, .string t, .int .i64 a, .string u]) ∧ h.size ≤ 100 ∧ s.size ≤ 100 ∧ t.size ≤ 100 ∧ u.size ≤ 100 ∧ k' ≤ k + 1500 ∧ Rd w' p A n c zs k' ∧ Chg (· ∈ [p]) w w'
set_option maxRecDepth 100000 in
set_option maxHeartbeats 8000000 in
theorem l93Intent_any (w : World) (p : Nat) (A : Option Addr) (n c : Nat) (zs : List Int) (k : Nat) (h : Rd w p A n c zs k) (hk : k ≤ 700000) :
    Calls Tryd.prog 22 #[.pointer (some ⟨p, 0, none⟩)] w (PickedInt w p A n c zs k) := by
  have hp0 := h.2.2.2.1
  go_enter Tryd.func22, Tryd.ntmps22
  go_wp2_with fail
  refine (pick_any _ p A n c zs (k) 5 (Rd.below h bel1) (by omega) (by omega) (by omega)).mono ?_
  rintro e w1 ⟨v1, rfl, hv1, rd1, hc1, hz1⟩
  have hv1 := hv1 (by omega)
  clear hz1
  have zz1 : w.heap.size + 1 ≤ w1.heap.size := by have := hc1.size; (try simp [World.setCell] at this); omega
  have X1 : Hid (Chg (· ∈ [p]) w w1) := Lib.hid ((Chg.alloc (Chg.refl _ _) _).trans hc1)
  have b1_0 : Hid (w1.heap[w.heap.size]? = some (.cells #[.int .i64 0, .int .i64 0, .string ⟨#[]⟩, .int .i64 0, .string ⟨#[]⟩, .string ⟨#[]⟩, .int .i64 0, .string ⟨#[]⟩] 30 (0, 0))) := Lib.hid ((hc1.block _ (by first | omega | (simp [World.setCell] <;> omega)) (by simp <;> omega)).trans (show _ from by have := heap_alloc_new w (.cells #[.int .i64 0, .int .i64 0, .string ⟨#[]⟩, .int .i64 0, .string ⟨#[]⟩, .string ⟨#[]⟩, .int .i64 0, .string ⟨#[]⟩] 30); simpa [World.setCell] using this))
  have R1 : Hid (Rd w1 p A n c zs (k + 1)) := Lib.hid rd1
  have pl1 : p < w1.heap.size := by omega
  clear hc1 rd1
  have l1_0 : w.heap.size < w1.heap.size := (Array.getElem?_eq_some_iff.1 b1_0.out).1
  have c1_0_0 : w1.cell? ⟨w.heap.size, 0, none⟩ = some (.int .i64 0) := cell_of_row _ _ 0 _ _ (0, 0) b1_0.out
  have f1_0_0 : w1.frozen? ⟨w.heap.size, 0, none⟩ = false := block_free b1_0.out _
  have c1_0_1 : w1.cell? ⟨w.heap.size, 1, none⟩ = some (.int .i64 0) := cell_of_row _ _ 1 _ _ (0, 0) b1_0.out
  have f1_0_1 : w1.frozen? ⟨w.heap.size, 1, none⟩ = false := block_free b1_0.out _
  have c1_0_2 : w1.cell? ⟨w.heap.size, 2, none⟩ = some (.string ⟨#[]⟩) := cell_of_row _ _ 2 _ _ (0, 0) b1_0.out
  have f1_0_2 : w1.frozen? ⟨w.heap.size, 2, none⟩ = false := block_free b1_0.out _
  have c1_0_3 : w1.cell? ⟨w.heap.size, 3, none⟩ = some (.int .i64 0) := cell_of_row _ _ 3 _ _ (0, 0) b1_0.out
  have f1_0_3 : w1.frozen? ⟨w.heap.size, 3, none⟩ = false := block_free b1_0.out _
  have c1_0_4 : w1.cell? ⟨w.heap.size, 4, none⟩ = some (.string ⟨#[]⟩) := cell_of_row _ _ 4 _ _ (0, 0) b1_0.out
  have f1_0_4 : w1.frozen? ⟨w.heap.size, 4, none⟩ = false := block_free b1_0.out _
  have c1_0_5 : w1.cell? ⟨w.heap.size, 5, none⟩ = some (.string ⟨#[]⟩) := cell_of_row _ _ 5 _ _ (0, 0) b1_0.out
  have f1_0_5 : w1.frozen? ⟨w.heap.size, 5, none⟩ = false := block_free b1_0.out _
  have c1_0_6 : w1.cell? ⟨w.heap.size, 6, none⟩ = some (.int .i64 0) := cell_of_row _ _ 6 _ _ (0, 0) b1_0.out
  have f1_0_6 : w1.frozen? ⟨w.heap.size, 6, none⟩ = false := block_free b1_0.out _
  have c1_0_7 : w1.cell? ⟨w.heap.size, 7, none⟩ = some (.string ⟨#[]⟩) := cell_of_row _ _ 7 _ _ (0, 0) b1_0.out
  have f1_0_7 : w1.frozen? ⟨w.heap.size, 7, none⟩ = false := block_free b1_0.out _
  go_wp2_with fail
  refine (pick_any _ p A n c zs (k + 1) 4 R1.out (by omega) (by omega) (by omega)).mono ?_
  rintro e w2 ⟨v2, rfl, hv2, rd2, hc2, hz2⟩
  have hv2 := hv2 (by omega)
  clear hz2
  have zz2 : w1.heap.size + 0 ≤ w2.heap.size := by have := hc2.size; (try simp [World.setCell] at this); omega
  have X2 : Hid (Chg (· ∈ [p]) w w2) := Lib.hid (X1.out.trans hc2)
  have b2_0 : Hid (w2.heap[w.heap.size]? = some (.cells #[.int .i64 0, .int .i64 0, .string ⟨#[]⟩, .int .i64 0, .string ⟨#[]⟩, .string ⟨#[]⟩, .int .i64 0, .string ⟨#[]⟩] 30 (0, 0))) := Lib.hid ((hc2.block _ (by first | omega | (simp [World.setCell] <;> omega)) (by simp <;> omega)).trans b1_0.out)
  have R2 : Hid (Rd w2 p A n c zs (k + 1 + 1)) := Lib.hid rd2
  have pl2 : p < w2.heap.size := by omega
  clear b1_0 X1 R1 pl1 l1_0 c1_0_0 f1_0_0 c1_0_1 f1_0_1 c1_0_2 f1_0_2 c1_0_3 f1_0_3 c1_0_4 f1_0_4 c1_0_5 f1_0_5 c1_0_6 f1_0_6 c1_0_7 f1_0_7 hc2 rd2
  have l2_0 : w.heap.size < w2.heap.size := (Array.getElem?_eq_some_iff.1 b2_0.out).1
  have c2_0_0 : w2.cell? ⟨w.heap.size, 0, none⟩ = some (.int .i64 0) := cell_of_row _ _ 0 _ _ (0, 0) b2_0.out
  have f2_0_0 : w2.frozen? ⟨w.heap.size, 0, none⟩ = false := block_free b2_0.out _
  have c2_0_1 : w2.cell? ⟨w.heap.size, 1, none⟩ = some (.int .i64 0) := cell_of_row _ _ 1 _ _ (0, 0) b2_0.out
  have f2_0_1 : w2.frozen? ⟨w.heap.size, 1, none⟩ = false := block_free b2_0.out _
  have c2_0_2 : w2.cell? ⟨w.heap.size, 2, none⟩ = some (.string ⟨#[]⟩) := cell_of_row _ _ 2 _ _ (0, 0) b2_0.out
  have f2_0_2 : w2.frozen? ⟨w.heap.size, 2, none⟩ = false := block_free b2_0.out _
  have c2_0_3 : w2.cell? ⟨w.heap.size, 3, none⟩ = some (.int .i64 0) := cell_of_row _ _ 3 _ _ (0, 0) b2_0.out
  have f2_0_3 : w2.frozen? ⟨w.heap.size, 3, none⟩ = false := block_free b2_0.out _
  have c2_0_4 : w2.cell? ⟨w.heap.size, 4, none⟩ = some (.string ⟨#[]⟩) := cell_of_row _ _ 4 _ _ (0, 0) b2_0.out
  have f2_0_4 : w2.frozen? ⟨w.heap.size, 4, none⟩ = false := block_free b2_0.out _
  have c2_0_5 : w2.cell? ⟨w.heap.size, 5, none⟩ = some (.string ⟨#[]⟩) := cell_of_row _ _ 5 _ _ (0, 0) b2_0.out
  have f2_0_5 : w2.frozen? ⟨w.heap.size, 5, none⟩ = false := block_free b2_0.out _
  have c2_0_6 : w2.cell? ⟨w.heap.size, 6, none⟩ = some (.int .i64 0) := cell_of_row _ _ 6 _ _ (0, 0) b2_0.out
  have f2_0_6 : w2.frozen? ⟨w.heap.size, 6, none⟩ = false := block_free b2_0.out _
  have c2_0_7 : w2.cell? ⟨w.heap.size, 7, none⟩ = some (.string ⟨#[]⟩) := cell_of_row _ _ 7 _ _ (0, 0) b2_0.out
  have f2_0_7 : w2.frozen? ⟨w.heap.size, 7, none⟩ = false := block_free b2_0.out _
  go_wp2_with fail
  refine (l93Head_any _ p A n c zs (k + 1 + 1) R2.out (by omega)).mono ?_
  rintro e w3 ⟨hd, k3, rfl, hhd, hk3, rd3, hc3⟩
  have zz3 : w2.heap.size + 0 ≤ w3.heap.size := by have := hc3.size; (try simp [World.setCell] at this); omega
  have X3 : Hid (Chg (· ∈ [p]) w w3) := Lib.hid (X2.out.trans hc3)
  have b3_0 : Hid (w3.heap[w.heap.size]? = some (.cells #[.int .i64 0, .int .i64 0, .string ⟨#[]⟩, .int .i64 0, .string ⟨#[]⟩, .string ⟨#[]⟩, .int .i64 0, .string ⟨#[]⟩] 30 (0, 0))) := Lib.hid ((hc3.block _ (by first | omega | (simp [World.setCell] <;> omega)) (by simp <;> omega)).trans b2_0.out)
  have R3 : Hid (Rd w3 p A n c zs (k3)) := Lib.hid rd3
  have pl3 : p < w3.heap.size := by omega
  clear b2_0 X2 R2 pl2 l2_0 c2_0_0 f2_0_0 c2_0_1 f2_0_1 c2_0_2 f2_0_2 c2_0_3 f2_0_3 c2_0_4 f2_0_4 c2_0_5 f2_0_5 c2_0_6 f2_0_6 c2_0_7 f2_0_7 hc3 rd3
  have l3_0 : w.heap.size < w3.heap.size := (Array.getElem?_eq_some_iff.1 b3_0.out).1
  have c3_0_0 : w3.cell? ⟨w.heap.size, 0, none⟩ = some (.int .i64 0) := cell_of_row _ _ 0 _ _ (0, 0) b3_0.out
  have f3_0_0 : w3.frozen? ⟨w.heap.size, 0, none⟩ = false := block_free b3_0.out _
  have c3_0_1 : w3.cell? ⟨w.heap.size, 1, none⟩ = some (.int .i64 0) := cell_of_row _ _ 1 _ _ (0, 0) b3_0.out
  have f3_0_1 : w3.frozen? ⟨w.heap.size, 1, none⟩ = false := block_free b3_0.out _
  have c3_0_2 : w3.cell? ⟨w.heap.size, 2, none⟩ = some (.string ⟨#[]⟩) := cell_of_row _ _ 2 _ _ (0, 0) b3_0.out
  have f3_0_2 : w3.frozen? ⟨w.heap.size, 2, none⟩ = false := block_free b3_0.out _
  have c3_0_3 : w3.cell? ⟨w.heap.size, 3, none⟩ = some (.int .i64 0) := cell_of_row _ _ 3 _ _ (0, 0) b3_0.out
  have f3_0_3 : w3.frozen? ⟨w.heap.size, 3, none⟩ = false := block_free b3_0.out _
  have c3_0_4 : w3.cell? ⟨w.heap.size, 4, none⟩ = some (.string ⟨#[]⟩) := cell_of_row _ _ 4 _ _ (0, 0) b3_0.out
  have f3_0_4 : w3.frozen? ⟨w.heap.size, 4, none⟩ = false := block_free b3_0.out _
  have c3_0_5 : w3.cell? ⟨w.heap.size, 5, none⟩ = some (.string ⟨#[]⟩) := cell_of_row _ _ 5 _ _ (0, 0) b3_0.out
  have f3_0_5 : w3.frozen? ⟨w.heap.size, 5, none⟩ = false := block_free b3_0.out _
  have c3_0_6 : w3.cell? ⟨w.heap.size, 6, none⟩ = some (.int .i64 0) := cell_of_row _ _ 6 _ _ (0, 0) b3_0.out
  have f3_0_6 : w3.frozen? ⟨w.heap.size, 6, none⟩ = false := block_free b3_0.out _
  have c3_0_7 : w3.cell? ⟨w.heap.size, 7, none⟩ = some (.string ⟨#[]⟩) := cell_of_row _ _ 7 _ _ (0, 0) b3_0.out
  have f3_0_7 : w3.frozen? ⟨w.heap.size, 7, none⟩ = false := block_free b3_0.out _
  go_wp2_with fail
  refine (l92Op_any _ p A n c zs (k3) R3.out (by omega)).mono ?_
  rintro e w4 ⟨x, s, t, a, u, k4, rfl, hs, ht, hu, hk4, rd4, hc4⟩
  have zz4 : w3.heap.size + 0 ≤ w4.heap.size := by have := hc4.size; (try simp [World.setCell] at this); omega
  have X4 : Hid (Chg (· ∈ [p]) w w4) := Lib.hid (X3.out.trans hc4)
  have b4_0 : Hid (w4.heap[w.heap.size]? = some (.cells #[.int .i64 0, .int .i64 0, .string ⟨#[]⟩, .int .i64 0, .string ⟨#[]⟩, .string ⟨#[]⟩, .int .i64 0, .string ⟨#[]⟩] 30 (0, 0))) := Lib.hid ((hc4.block _ (by first | omega | (simp [World.setCell] <;> omega)) (by simp <;> omega)).trans b3_0.out)
  have R4 : Hid (Rd w4 p A n c zs (k4)) := Lib.hid rd4
  have pl4 : p < w4.heap.size := by omega
  clear b3_0 X3 R3 pl3 l3_0 c3_0_0 f3_0_0 c3_0_1 f3_0_1 c3_0_2 f3_0_2 c3_0_3 f3_0_3 c3_0_4 f3_0_4 c3_0_5 f3_0_5 c3_0_6 f3_0_6 c3_0_7 f3_0_7 hc4 rd4
  have l4_0 : w.heap.size < w4.heap.size := (Array.getElem?_eq_some_iff.1 b4_0.out).1
  have c4_0_0 : w4.cell? ⟨w.heap.size, 0, none⟩ = some (.int .i64 0) := cell_of_row _ _ 0 _ _ (0, 0) b4_0.out
  have f4_0_0 : w4.frozen? ⟨w.heap.size, 0, none⟩ = false := block_free b4_0.out _
  have c4_0_1 : w4.cell? ⟨w.heap.size, 1, none⟩ = some (.int .i64 0) := cell_of_row _ _ 1 _ _ (0, 0) b4_0.out
  have f4_0_1 : w4.frozen? ⟨w.heap.size, 1, none⟩ = false := block_free b4_0.out _
  have c4_0_2 : w4.cell? ⟨w.heap.size, 2, none⟩ = some (.string ⟨#[]⟩) := cell_of_row _ _ 2 _ _ (0, 0) b4_0.out
  have f4_0_2 : w4.frozen? ⟨w.heap.size, 2, none⟩ = false := block_free b4_0.out _
  have c4_0_3 : w4.cell? ⟨w.heap.size, 3, none⟩ = some (.int .i64 0) := cell_of_row _ _ 3 _ _ (0, 0) b4_0.out
  have f4_0_3 : w4.frozen? ⟨w.heap.size, 3, none⟩ = false := block_free b4_0.out _
  have c4_0_4 : w4.cell? ⟨w.heap.size, 4, none⟩ = some (.string ⟨#[]⟩) := cell_of_row _ _ 4 _ _ (0, 0) b4_0.out
  have f4_0_4 : w4.frozen? ⟨w.heap.size, 4, none⟩ = false := block_free b4_0.out _
  have c4_0_5 : w4.cell? ⟨w.heap.size, 5, none⟩ = some (.string ⟨#[]⟩) := cell_of_row _ _ 5 _ _ (0, 0) b4_0.out
  have f4_0_5 : w4.frozen? ⟨w.heap.size, 5, none⟩ = false := block_free b4_0.out _
  have c4_0_6 : w4.cell? ⟨w.heap.size, 6, none⟩ = some (.int .i64 0) := cell_of_row _ _ 6 _ _ (0, 0) b4_0.out
  have f4_0_6 : w4.frozen? ⟨w.heap.size, 6, none⟩ = false := block_free b4_0.out _
  have c4_0_7 : w4.cell? ⟨w.heap.size, 7, none⟩ = some (.string ⟨#[]⟩) := cell_of_row _ _ 7 _ _ (0, 0) b4_0.out
  have f4_0_7 : w4.frozen? ⟨w.heap.size, 7, none⟩ = false := block_free b4_0.out _
  go_wp2_with fail
  refine (pick_any _ p A n c zs (k4) 16 (Rd.below R4.out bel1) (by omega) (by omega) (by omega)).mono ?_
  rintro e w5 ⟨v3, rfl, hv3, rd5, hc5, hz5⟩
  have hv3 := hv3 (by omega)
  clear hz5
  have zz5 : w4.heap.size + 1 ≤ w5.heap.size := by have := hc5.size; (try simp [World.setCell] at this); omega
  have X5 : Hid (Chg (· ∈ [p]) w w5) := Lib.hid ((Chg.alloc X4.out _).trans hc5)
  have b5_0 : Hid (w5.heap[w.heap.size]? = some (.cells #[.int .i64 0, .int .i64 0, .string ⟨#[]⟩, .int .i64 0, .string ⟨#[]⟩, .string ⟨#[]⟩, .int .i64 0, .string ⟨#[]⟩] 30 (0, 0))) := Lib.hid ((hc5.block _ (by first | omega | (simp [World.setCell] <;> omega)) (by simp <;> omega)).trans ((Below.heap_alloc _ _ _ (by first | omega | (simp [World.setCell] <;> omega))).trans b4_0.out))
  have b5_1 : Hid (w5.heap[w4.heap.size]? = some (.cells #[.int .i64 (1 + (v1 : Int)), .int .i64 (1 + (v2 : Int)), .string hd, .int .i64 x, .string s, .string t, .int .i64 a, .string u] 30 (0, 0))) := Lib.hid ((hc5.block _ (by first | omega | (simp [World.setCell] <;> omega)) (by simp <;> omega)).trans (show _ from by have := heap_alloc_new w4 (.cells #[.int .i64 (1 + (v1 : Int)), .int .i64 (1 + (v2 : Int)), .string hd, .int .i64 x, .string s, .string t, .int .i64 a, .string u] 30); simpa [World.setCell] using this))
  have R5 : Hid (Rd w5 p A n c zs (k4 + 1)) := Lib.hid rd5
  have pl5 : p < w5.heap.size := by omega
  clear b4_0 X4 R4 pl4 l4_0 c4_0_0 f4_0_0 c4_0_1 f4_0_1 c4_0_2 f4_0_2 c4_0_3 f4_0_3 c4_0_4 f4_0_4 c4_0_5 f4_0_5 c4_0_6 f4_0_6 c4_0_7 f4_0_7 hc5 rd5
  have l5_0 : w.heap.size < w5.heap.size := (Array.getElem?_eq_some_iff.1 b5_0.out).1
  have c5_0_0 : w5.cell? ⟨w.heap.size, 0, none⟩ = some (.int .i64 0) := cell_of_row _ _ 0 _ _ (0, 0) b5_0.out
  have f5_0_0 : w5.frozen? ⟨w.heap.size, 0, none⟩ = false := block_free b5_0.out _
  have c5_0_1 : w5.cell? ⟨w.heap.size, 1, none⟩ = some (.int .i64 0) := cell_of_row _ _ 1 _ _ (0, 0) b5_0.out
  have f5_0_1 : w5.frozen? ⟨w.heap.size, 1, none⟩ = false := block_free b5_0.out _
  have c5_0_2 : w5.cell? ⟨w.heap.size, 2, none⟩ = some (.string ⟨#[]⟩) := cell_of_row _ _ 2 _ _ (0, 0) b5_0.out
  have f5_0_2 : w5.frozen? ⟨w.heap.size, 2, none⟩ = false := block_free b5_0.out _
  have c5_0_3 : w5.cell? ⟨w.heap.size, 3, none⟩ = some (.int .i64 0) := cell_of_row _ _ 3 _ _ (0, 0) b5_0.out
  have f5_0_3 : w5.frozen? ⟨w.heap.size, 3, none⟩ = false := block_free b5_0.out _
  have c5_0_4 : w5.cell? ⟨w.heap.size, 4, none⟩ = some (.string ⟨#[]⟩) := cell_of_row _ _ 4 _ _ (0, 0) b5_0.out
  have f5_0_4 : w5.frozen? ⟨w.heap.size, 4, none⟩ = false := block_free b5_0.out _
  have c5_0_5 : w5.cell? ⟨w.heap.size, 5, none⟩ = some (.string ⟨#[]⟩) := cell_of_row _ _ 5 _ _ (0, 0) b5_0.out
  have f5_0_5 : w5.frozen? ⟨w.heap.size, 5, none⟩ = false := block_free b5_0.out _
  have c5_0_6 : w5.cell? ⟨w.heap.size, 6, none⟩ = some (.int .i64 0) := cell_of_row _ _ 6 _ _ (0, 0) b5_0.out
  have f5_0_6 : w5.frozen? ⟨w.heap.size, 6, none⟩ = false := block_free b5_0.out _
  have c5_0_7 : w5.cell? ⟨w.heap.size, 7, none⟩ = some (.string ⟨#[]⟩) := cell_of_row _ _ 7 _ _ (0, 0) b5_0.out
  have f5_0_7 : w5.frozen? ⟨w.heap.size, 7, none⟩ = false := block_free b5_0.out _
  have l5_1 : w4.heap.size < w5.heap.size := (Array.getElem?_eq_some_iff.1 b5_1.out).1
  have c5_1_0 : w5.cell? ⟨w4.heap.size, 0, none⟩ = some (.int .i64 (1 + (v1 : Int))) := cell_of_row _ _ 0 _ _ (0, 0) b5_1.out
  have f5_1_0 : w5.frozen? ⟨w4.heap.size, 0, none⟩ = false := block_free b5_1.out _
  have c5_1_1 : w5.cell? ⟨w4.heap.size, 1, none⟩ = some (.int .i64 (1 + (v2 : Int))) := cell_of_row _ _ 1 _ _ (0, 0) b5_1.out
  have f5_1_1 : w5.frozen? ⟨w4.heap.size, 1, none⟩ = false := block_free b5_1.out _
  have c5_1_2 : w5.cell? ⟨w4.heap.size, 2, none⟩ = some (.string hd) := cell_of_row _ _ 2 _ _ (0, 0) b5_1.out
  have f5_1_2 : w5.frozen? ⟨w4.heap.size, 2, none⟩ = false := block_free b5_1.out _
  have c5_1_3 : w5.cell? ⟨w4.heap.size, 3, none⟩ = some (.int .i64 x) := cell_of_row _ _ 3 _ _ (0, 0) b5_1.out
  have f5_1_3 : w5.frozen? ⟨w4.heap.size, 3, none⟩ = false := block_free b5_1.out _
  have c5_1_4 : w5.cell? ⟨w4.heap.size, 4, none⟩ = some (.string s) := cell_of_row _ _ 4 _ _ (0, 0) b5_1.out
  have f5_1_4 : w5.frozen? ⟨w4.heap.size, 4, none⟩ = false := block_free b5_1.out _
  have c5_1_5 : w5.cell? ⟨w4.heap.size, 5, none⟩ = some (.string t) := cell_of_row _ _ 5 _ _ (0, 0) b5_1.out
  have f5_1_5 : w5.frozen? ⟨w4.heap.size, 5, none⟩ = false := block_free b5_1.out _
  have c5_1_6 : w5.cell? ⟨w4.heap.size, 6, none⟩ = some (.int .i64 a) := cell_of_row _ _ 6 _ _ (0, 0) b5_1.out
  have f5_1_6 : w5.frozen? ⟨w4.heap.size, 6, none⟩ = false := block_free b5_1.out _
  have c5_1_7 : w5.cell? ⟨w4.heap.size, 7, none⟩ = some (.string u) := cell_of_row _ _ 7 _ _ (0, 0) b5_1.out
  have f5_1_7 : w5.frozen? ⟨w4.heap.size, 7, none⟩ = false := block_free b5_1.out _
  have hv4 : v3 = 0 ∨ v3 = 1 ∨ (v3 ≠ 0 ∧ v3 ≠ 1) := by omega
  clear hv3
  rcases hv4 with hv | hv | ⟨hv0, hv1⟩
  · skip
    have u0 : ((v3 : Int) == 0) = true := by simp [hv]
    have u1 : ((v3 : Int) == 1) = false := by simp [hv]
    clear hv
    go_wp2_with fail
    refine (pick_any _ p A n c zs (k4 + 1) 3 (Rd.below R5.out bel1) (by omega) (by omega) (by omega)).mono ?_
    rintro e w6 ⟨v5, rfl, hv5, rd6, hc6, hz6⟩
    have hv5 := hv5 (by omega)
    clear hz6
    obtain ⟨z, hz⟩ := lit_int (r := v5) (litInts [0, 900, 901]) hc6 rfl (by omega) (by simp; omega)
    have hv50 : (0 : Int) ≤ (v5 : Int) := by omega
    have hv51 : (v5 : Int) < 3 := by omega
    have zz6 : w5.heap.size + 1 ≤ w6.heap.size := by have := hc6.size; (try simp [World.setCell] at this); omega
    have X6 : Hid (Chg (· ∈ [p]) w w6) := Lib.hid ((Chg.alloc X5.out _).trans hc6)
    have b6_0 : Hid (w6.heap[w.heap.size]? = some (.cells #[.int .i64 0, .int .i64 0, .string ⟨#[]⟩, .int .i64 0, .string ⟨#[]⟩, .string ⟨#[]⟩, .int .i64 0, .string ⟨#[]⟩] 30 (0, 0))) := Lib.hid ((hc6.block _ (by first | omega | (simp [World.setCell] <;> omega)) (by simp <;> omega)).trans ((Below.heap_alloc _ _ _ (by first | omega | (simp [World.setCell] <;> omega))).trans b5_0.out))
    have b6_1 : Hid (w6.heap[w4.heap.size]? = some (.cells #[.int .i64 (1 + (v1 : Int)), .int .i64 (1 + (v2 : Int)), .string hd, .int .i64 x, .string s, .string t, .int .i64 a, .string u] 30 (0, 0))) := Lib.hid ((hc6.block _ (by first | omega | (simp [World.setCell] <;> omega)) (by simp <;> omega)).trans ((Below.heap_alloc _ _ _ (by first | omega | (simp [World.setCell] <;> omega))).trans b5_1.out))
    have R6 : Hid (Rd w6 p A n c zs (k4 + 1 + 1)) := Lib.hid rd6
    have pl6 : p < w6.heap.size := by omega
    clear b5_0 b5_1 X5 R5 pl5 l5_0 c5_0_0 f5_0_0 c5_0_1 f5_0_1 c5_0_2 f5_0_2 c5_0_3 f5_0_3 c5_0_4 f5_0_4 c5_0_5 f5_0_5 c5_0_6 f5_0_6 c5_0_7 f5_0_7 l5_1 c5_1_0 f5_1_0 c5_1_1 f5_1_1 c5_1_2 f5_1_2 c5_1_3 f5_1_3 c5_1_4 f5_1_4 c5_1_5 f5_1_5 c5_1_6 f5_1_6 c5_1_7 f5_1_7 hc6 rd6
    have l6_0 : w.heap.size < w6.heap.size := (Array.getElem?_eq_some_iff.1 b6_0.out).1
    have c6_0_0 : w6.cell? ⟨w.heap.size, 0, none⟩ = some (.int .i64 0) := cell_of_row _ _ 0 _ _ (0, 0) b6_0.out
    have f6_0_0 : w6.frozen? ⟨w.heap.size, 0, none⟩ = false := block_free b6_0.out _
    have c6_0_1 : w6.cell? ⟨w.heap.size, 1, none⟩ = some (.int .i64 0) := cell_of_row _ _ 1 _ _ (0, 0) b6_0.out
    have f6_0_1 : w6.frozen? ⟨w.heap.size, 1, none⟩ = false := block_free b6_0.out _
    have c6_0_2 : w6.cell? ⟨w.heap.size, 2, none⟩ = some (.string ⟨#[]⟩) := cell_of_row _ _ 2 _ _ (0, 0) b6_0.out
    have f6_0_2 : w6.frozen? ⟨w.heap.size, 2, none⟩ = false := block_free b6_0.out _
    have c6_0_3 : w6.cell? ⟨w.heap.size, 3, none⟩ = some (.int .i64 0) := cell_of_row _ _ 3 _ _ (0, 0) b6_0.out
    have f6_0_3 : w6.frozen? ⟨w.heap.size, 3, none⟩ = false := block_free b6_0.out _
    have c6_0_4 : w6.cell? ⟨w.heap.size, 4, none⟩ = some (.string ⟨#[]⟩) := cell_of_row _ _ 4 _ _ (0, 0) b6_0.out
    have f6_0_4 : w6.frozen? ⟨w.heap.size, 4, none⟩ = false := block_free b6_0.out _
    have c6_0_5 : w6.cell? ⟨w.heap.size, 5, none⟩ = some (.string ⟨#[]⟩) := cell_of_row _ _ 5 _ _ (0, 0) b6_0.out
    have f6_0_5 : w6.frozen? ⟨w.heap.size, 5, none⟩ = false := block_free b6_0.out _
    have c6_0_6 : w6.cell? ⟨w.heap.size, 6, none⟩ = some (.int .i64 0) := cell_of_row _ _ 6 _ _ (0, 0) b6_0.out
    have f6_0_6 : w6.frozen? ⟨w.heap.size, 6, none⟩ = false := block_free b6_0.out _
    have c6_0_7 : w6.cell? ⟨w.heap.size, 7, none⟩ = some (.string ⟨#[]⟩) := cell_of_row _ _ 7 _ _ (0, 0) b6_0.out
    have f6_0_7 : w6.frozen? ⟨w.heap.size, 7, none⟩ = false := block_free b6_0.out _
    have l6_1 : w4.heap.size < w6.heap.size := (Array.getElem?_eq_some_iff.1 b6_1.out).1
    have c6_1_0 : w6.cell? ⟨w4.heap.size, 0, none⟩ = some (.int .i64 (1 + (v1 : Int))) := cell_of_row _ _ 0 _ _ (0, 0) b6_1.out
    have f6_1_0 : w6.frozen? ⟨w4.heap.size, 0, none⟩ = false := block_free b6_1.out _
    have c6_1_1 : w6.cell? ⟨w4.heap.size, 1, none⟩ = some (.int .i64 (1 + (v2 : Int))) := cell_of_row _ _ 1 _ _ (0, 0) b6_1.out
    have f6_1_1 : w6.frozen? ⟨w4.heap.size, 1, none⟩ = false := block_free b6_1.out _
    have c6_1_2 : w6.cell? ⟨w4.heap.size, 2, none⟩ = some (.string hd) := cell_of_row _ _ 2 _ _ (0, 0) b6_1.out
    have f6_1_2 : w6.frozen? ⟨w4.heap.size, 2, none⟩ = false := block_free b6_1.out _
    have c6_1_3 : w6.cell? ⟨w4.heap.size, 3, none⟩ = some (.int .i64 x) := cell_of_row _ _ 3 _ _ (0, 0) b6_1.out
    have f6_1_3 : w6.frozen? ⟨w4.heap.size, 3, none⟩ = false := block_free b6_1.out _
    have c6_1_4 : w6.cell? ⟨w4.heap.size, 4, none⟩ = some (.string s) := cell_of_row _ _ 4 _ _ (0, 0) b6_1.out
    have f6_1_4 : w6.frozen? ⟨w4.heap.size, 4, none⟩ = false := block_free b6_1.out _
    have c6_1_5 : w6.cell? ⟨w4.heap.size, 5, none⟩ = some (.string t) := cell_of_row _ _ 5 _ _ (0, 0) b6_1.out
    have f6_1_5 : w6.frozen? ⟨w4.heap.size, 5, none⟩ = false := block_free b6_1.out _
    have c6_1_6 : w6.cell? ⟨w4.heap.size, 6, none⟩ = some (.int .i64 a) := cell_of_row _ _ 6 _ _ (0, 0) b6_1.out
    have f6_1_6 : w6.frozen? ⟨w4.heap.size, 6, none⟩ = false := block_free b6_1.out _
    have c6_1_7 : w6.cell? ⟨w4.heap.size, 7, none⟩ = some (.string u) := cell_of_row _ _ 7 _ _ (0, 0) b6_1.out
    have f6_1_7 : w6.frozen? ⟨w4.heap.size, 7, none⟩ = false := block_free b6_1.out _
    go_wp2_with fail
    have hrr : ((World.setCell w6 ⟨w4.heap.size, 0, none⟩ (.int .i64 z))).heap[w.heap.size]? = some (.cells #[.int .i64 0, .int .i64 0, .string ⟨#[]⟩, .int .i64 0, .string ⟨#[]⟩, .string ⟨#[]⟩, .int .i64 0, .string ⟨#[]⟩] 30 (0, 0)) := ((heap_far (by first | omega | (simp <;> omega))).trans b6_0.out)
    have hst := setI_8 (x0 := .int .i64 z) (x1 := .int .i64 (1 + (v2 : Int))) (x2 := .string hd) (x3 := .int .i64 x) (x4 := .string s) (x5 := .string t) (x6 := .int .i64 a) (x7 := .string u) hrr
    clear hrr
    have r0 := cell_of_row _ _ 0 _ _ (0, 0) hst
    have r1 := cell_of_row _ _ 1 _ _ (0, 0) hst
    have r2 := cell_of_row _ _ 2 _ _ (0, 0) hst
    have r3 := cell_of_row _ _ 3 _ _ (0, 0) hst
    have r4 := cell_of_row _ _ 4 _ _ (0, 0) hst
    have r5 := cell_of_row _ _ 5 _ _ (0, 0) hst
    have r6 := cell_of_row _ _ 6 _ _ (0, 0) hst
    have r7 := cell_of_row _ _ 7 _ _ (0, 0) hst
    clear hst
    exact bodyPost_ret (v := .agg #[.int .i64 z, .int .i64 (1 + (v2 : Int)), .string hd, .int .i64 x, .string s, .string t, .int .i64 a, .string u]) (by simp [results, Tryd.results22, go_sem, r0, r1, r2, r3, r4, r5, r6, r7]) rfl (⟨_, _, _, _, _, _, _, _, _, rfl, by omega, by omega, by omega, by omega, by omega, (Rd.set h (Rd.set h (Rd.set h (Rd.set h (Rd.set h (Rd.set h (Rd.set h (Rd.set h (Rd.set h R6.out (a := ⟨w4.heap.size, 0, none⟩) (by first | exact Nat.le_refl _ | (dsimp only; omega)) _) (a := ⟨w.heap.size, 0, none⟩) (by first | exact Nat.le_refl _ | (dsimp only; omega)) _) (a := ⟨w.heap.size, 1, none⟩) (by first | exact Nat.le_refl _ | (dsimp only; omega)) _) (a := ⟨w.heap.size, 2, none⟩) (by first | exact Nat.le_refl _ | (dsimp only; omega)) _) (a := ⟨w.heap.size, 3, none⟩) (by first | exact Nat.le_refl _ | (dsimp only; omega)) _) (a := ⟨w.heap.size, 4, none⟩) (by first | exact Nat.le_refl _ | (dsimp only; omega)) _) (a := ⟨w.heap.size, 5, none⟩) (by first | exact Nat.le_refl _ | (dsimp only; omega)) _) (a := ⟨w.heap.size, 6, none⟩) (by first | exact Nat.le_refl _ | (dsimp only; omega)) _) (a := ⟨w.heap.size, 7, none⟩) (by first | exact Nat.le_refl _ | (dsimp only; omega)) _), (Chg.setCell (p := ⟨w.heap.size, 7, none⟩) (Chg.setCell (p := ⟨w.heap.size, 6, none⟩) (Chg.setCell (p := ⟨w.heap.size, 5, none⟩) (Chg.setCell (p := ⟨w.heap.size, 4, none⟩) (Chg.setCell (p := ⟨w.heap.size, 3, none⟩) (Chg.setCell (p := ⟨w.heap.size, 2, none⟩) (Chg.setCell (p := ⟨w.heap.size, 1, none⟩) (Chg.setCell (p := ⟨w.heap.size, 0, none⟩) (Chg.setCell (p := ⟨w4.heap.size, 0, none⟩) X6.out (.inr (by first | exact Nat.le_refl _ | (dsimp only; omega))) _) (.inr (by first | exact Nat.le_refl _ | (dsimp only; omega))) _) (.inr (by first | exact Nat.le_refl _ | (dsimp only; omega))) _) (.inr (by first | exact Nat.le_refl _ | (dsimp only; omega))) _) (.inr (by first | exact Nat.le_refl _ | (dsimp only; omega))) _) (.inr (by first | exact Nat.le_refl _ | (dsimp only; omega))) _) (.inr (by first | exact Nat.le_refl _ | (dsimp only; omega))) _) (.inr (by first | exact Nat.le_refl _ | (dsimp only; omega))) _) (.inr (by first | exact Nat.le_refl _ | (dsimp only; omega))) _)⟩)
  · skip
    have u0 : ((v3 : Int) == 0) = false := by simp [hv]
    have u1 : ((v3 : Int) == 1) = true := by simp [hv]
    clear hv
    go_wp2_with fail
    refine (pick_any _ p A n c zs (k4 + 1) 2 (Rd.below R5.out bel1) (by omega) (by omega) (by omega)).mono ?_
    rintro e w6 ⟨v5, rfl, hv5, rd6, hc6, hz6⟩
    have hv5 := hv5 (by omega)
    clear hz6
    obtain ⟨z, hz⟩ := lit_int (r := v5) (litInts [0, 5]) hc6 rfl (by omega) (by simp; omega)
    have hv50 : (0 : Int) ≤ (v5 : Int) := by omega
    have hv51 : (v5 : Int) < 2 := by omega
    have zz6 : w5.heap.size + 1 ≤ w6.heap.size := by have := hc6.size; (try simp [World.setCell] at this); omega
    have X6 : Hid (Chg (· ∈ [p]) w w6) := Lib.hid ((Chg.alloc X5.out _).trans hc6)
    have b6_0 : Hid (w6.heap[w.heap.size]? = some (.cells #[.int .i64 0, .int .i64 0, .string ⟨#[]⟩, .int .i64 0, .string ⟨#[]⟩, .string ⟨#[]⟩, .int .i64 0, .string ⟨#[]⟩] 30 (0, 0))) := Lib.hid ((hc6.block _ (by first | omega | (simp [World.setCell] <;> omega)) (by simp <;> omega)).trans ((Below.heap_alloc _ _ _ (by first | omega | (simp [World.setCell] <;> omega))).trans b5_0.out))
    have b6_1 : Hid (w6.heap[w4.heap.size]? = some (.cells #[.int .i64 (1 + (v1 : Int)), .int .i64 (1 + (v2 : Int)), .string hd, .int .i64 x, .string s, .string t, .int .i64 a, .string u] 30 (0, 0))) := Lib.hid ((hc6.block _ (by first | omega | (simp [World.setCell] <;> omega)) (by simp <;> omega)).trans ((Below.heap_alloc _ _ _ (by first | omega | (simp [World.setCell] <;> omega))).trans b5_1.out))
    have R6 : Hid (Rd w6 p A n c zs (k4 + 1 + 1)) := Lib.hid rd6
    have pl6 : p < w6.heap.size := by omega
    clear b5_0 b5_1 X5 R5 pl5 l5_0 c5_0_0 f5_0_0 c5_0_1 f5_0_1 c5_0_2 f5_0_2 c5_0_3 f5_0_3 c5_0_4 f5_0_4 c5_0_5 f5_0_5 c5_0_6 f5_0_6 c5_0_7 f5_0_7 l5_1 c5_1_0 f5_1_0 c5_1_1 f5_1_1 c5_1_2 f5_1_2 c5_1_3 f5_1_3 c5_1_4 f5_1_4 c5_1_5 f5_1_5 c5_1_6 f5_1_6 c5_1_7 f5_1_7 hc6 rd6
    have l6_0 : w.heap.size < w6.heap.size := (Array.getElem?_eq_some_iff.1 b6_0.out).1
    have c6_0_0 : w6.cell? ⟨w.heap.size, 0, none⟩ = some (.int .i64 0) := cell_of_row _ _ 0 _ _ (0, 0) b6_0.out
    have f6_0_0 : w6.frozen? ⟨w.heap.size, 0, none⟩ = false := block_free b6_0.out _
    have c6_0_1 : w6.cell? ⟨w.heap.size, 1, none⟩ = some (.int .i64 0) := cell_of_row _ _ 1 _ _ (0, 0) b6_0.out
    have f6_0_1 : w6.frozen? ⟨w.heap.size, 1, none⟩ = false := block_free b6_0.out _
    have c6_0_2 : w6.cell? ⟨w.heap.size, 2, none⟩ = some (.string ⟨#[]⟩) := cell_of_row _ _ 2 _ _ (0, 0) b6_0.out
    have f6_0_2 : w6.frozen? ⟨w.heap.size, 2, none⟩ = false := block_free b6_0.out _
    have c6_0_3 : w6.cell? ⟨w.heap.size, 3, none⟩ = some (.int .i64 0) := cell_of_row _ _ 3 _ _ (0, 0) b6_0.out
    have f6_0_3 : w6.frozen? ⟨w.heap.size, 3, none⟩ = false := block_free b6_0.out _
    have c6_0_4 : w6.cell? ⟨w.heap.size, 4, none⟩ = some (.string ⟨#[]⟩) := cell_of_row _ _ 4 _ _ (0, 0) b6_0.out
    have f6_0_4 : w6.frozen? ⟨w.heap.size, 4, none⟩ = false := block_free b6_0.out _
    have c6_0_5 : w6.cell? ⟨w.heap.size, 5, none⟩ = some (.string ⟨#[]⟩) := cell_of_row _ _ 5 _ _ (0, 0) b6_0.out
    have f6_0_5 : w6.frozen? ⟨w.heap.size, 5, none⟩ = false := block_free b6_0.out _
    have c6_0_6 : w6.cell? ⟨w.heap.size, 6, none⟩ = some (.int .i64 0) := cell_of_row _ _ 6 _ _ (0, 0) b6_0.out
    have f6_0_6 : w6.frozen? ⟨w.heap.size, 6, none⟩ = false := block_free b6_0.out _
    have c6_0_7 : w6.cell? ⟨w.heap.size, 7, none⟩ = some (.string ⟨#[]⟩) := cell_of_row _ _ 7 _ _ (0, 0) b6_0.out
    have f6_0_7 : w6.frozen? ⟨w.heap.size, 7, none⟩ = false := block_free b6_0.out _
    have l6_1 : w4.heap.size < w6.heap.size := (Array.getElem?_eq_some_iff.1 b6_1.out).1
    have c6_1_0 : w6.cell? ⟨w4.heap.size, 0, none⟩ = some (.int .i64 (1 + (v1 : Int))) := cell_of_row _ _ 0 _ _ (0, 0) b6_1.out
    have f6_1_0 : w6.frozen? ⟨w4.heap.size, 0, none⟩ = false := block_free b6_1.out _
    have c6_1_1 : w6.cell? ⟨w4.heap.size, 1, none⟩ = some (.int .i64 (1 + (v2 : Int))) := cell_of_row _ _ 1 _ _ (0, 0) b6_1.out
    have f6_1_1 : w6.frozen? ⟨w4.heap.size, 1, none⟩ = false := block_free b6_1.out _
    have c6_1_2 : w6.cell? ⟨w4.heap.size, 2, none⟩ = some (.string hd) := cell_of_row _ _ 2 _ _ (0, 0) b6_1.out
    have f6_1_2 : w6.frozen? ⟨w4.heap.size, 2, none⟩ = false := block_free b6_1.out _
    have c6_1_3 : w6.cell? ⟨w4.heap.size, 3, none⟩ = some (.int .i64 x) := cell_of_row _ _ 3 _ _ (0, 0) b6_1.out
    have f6_1_3 : w6.frozen? ⟨w4.heap.size, 3, none⟩ = false := block_free b6_1.out _
    have c6_1_4 : w6.cell? ⟨w4.heap.size, 4, none⟩ = some (.string s) := cell_of_row _ _ 4 _ _ (0, 0) b6_1.out
    have f6_1_4 : w6.frozen? ⟨w4.heap.size, 4, none⟩ = false := block_free b6_1.out _
    have c6_1_5 : w6.cell? ⟨w4.heap.size, 5, none⟩ = some (.string t) := cell_of_row _ _ 5 _ _ (0, 0) b6_1.out
    have f6_1_5 : w6.frozen? ⟨w4.heap.size, 5, none⟩ = false := block_free b6_1.out _
    have c6_1_6 : w6.cell? ⟨w4.heap.size, 6, none⟩ = some (.int .i64 a) := cell_of_row _ _ 6 _ _ (0, 0) b6_1.out
    have f6_1_6 : w6.frozen? ⟨w4.heap.size, 6, none⟩ = false := block_free b6_1.out _
    have c6_1_7 : w6.cell? ⟨w4.heap.size, 7, none⟩ = some (.string u) := cell_of_row _ _ 7 _ _ (0, 0) b6_1.out
    have f6_1_7 : w6.frozen? ⟨w4.heap.size, 7, none⟩ = false := block_free b6_1.out _
    go_wp2_with fail
    have hrr : ((World.setCell w6 ⟨w4.heap.size, 1, none⟩ (.int .i64 z))).heap[w.heap.size]? = some (.cells #[.int .i64 0, .int .i64 0, .string ⟨#[]⟩, .int .i64 0, .string ⟨#[]⟩, .string ⟨#[]⟩, .int .i64 0, .string ⟨#[]⟩] 30 (0, 0)) := ((heap_far (by first | omega | (simp <;> omega))).trans b6_0.out)
    have hst := setI_8 (x0 := .int .i64 (1 + (v1 : Int))) (x1 := .int .i64 z) (x2 := .string hd) (x3 := .int .i64 x) (x4 := .string s) (x5 := .string t) (x6 := .int .i64 a) (x7 := .string u) hrr
    clear hrr
    have r0 := cell_of_row _ _ 0 _ _ (0, 0) hst
    have r1 := cell_of_row _ _ 1 _ _ (0, 0) hst
    have r2 := cell_of_row _ _ 2 _ _ (0, 0) hst
    have r3 := cell_of_row _ _ 3 _ _ (0, 0) hst
    have r4 := cell_of_row _ _ 4 _ _ (0, 0) hst
    have r5 := cell_of_row _ _ 5 _ _ (0, 0) hst
    have r6 := cell_of_row _ _ 6 _ _ (0, 0) hst
    have r7 := cell_of_row _ _ 7 _ _ (0, 0) hst
    clear hst
    exact bodyPost_ret (v := .agg #[.int .i64 (1 + (v1 : Int)), .int .i64 z, .string hd, .int .i64 x, .string s, .string t, .int .i64 a, .string u]) (by simp [results, Tryd.results22, go_sem, r0, r1, r2, r3, r4, r5, r6, r7]) rfl (⟨_, _, _, _, _, _, _, _, _, rfl, by omega, by omega, by omega, by omega, by omega, (Rd.set h (Rd.set h (Rd.set h (Rd.set h (Rd.set h (Rd.set h (Rd.set h (Rd.set h (Rd.set h R6.out (a := ⟨w4.heap.size, 1, none⟩) (by first | exact Nat.le_refl _ | (dsimp only; omega)) _) (a := ⟨w.heap.size, 0, none⟩) (by first | exact Nat.le_refl _ | (dsimp only; omega)) _) (a := ⟨w.heap.size, 1, none⟩) (by first | exact Nat.le_refl _ | (dsimp only; omega)) _) (a := ⟨w.heap.size, 2, none⟩) (by first | exact Nat.le_refl _ | (dsimp only; omega)) _) (a := ⟨w.heap.size, 3, none⟩) (by first | exact Nat.le_refl _ | (dsimp only; omega)) _) (a := ⟨w.heap.size, 4, none⟩) (by first | exact Nat.le_refl _ | (dsimp only; omega)) _) (a := ⟨w.heap.size, 5, none⟩) (by first | exact Nat.le_refl _ | (dsimp only; omega)) _) (a := ⟨w.heap.size, 6, none⟩) (by first | exact Nat.le_refl _ | (dsimp only; omega)) _) (a := ⟨w.heap.size, 7, none⟩) (by first | exact Nat.le_refl _ | (dsimp only; omega)) _), (Chg.setCell (p := ⟨w.heap.size, 7, none⟩) (Chg.setCell (p := ⟨w.heap.size, 6, none⟩) (Chg.setCell (p := ⟨w.heap.size, 5, none⟩) (Chg.setCell (p := ⟨w.heap.size, 4, none⟩) (Chg.setCell (p := ⟨w.heap.size, 3, none⟩) (Chg.setCell (p := ⟨w.heap.size, 2, none⟩) (Chg.setCell (p := ⟨w.heap.size, 1, none⟩) (Chg.setCell (p := ⟨w.heap.size, 0, none⟩) (Chg.setCell (p := ⟨w4.heap.size, 1, none⟩) X6.out (.inr (by first | exact Nat.le_refl _ | (dsimp only; omega))) _) (.inr (by first | exact Nat.le_refl _ | (dsimp only; omega))) _) (.inr (by first | exact Nat.le_refl _ | (dsimp only; omega))) _) (.inr (by first | exact Nat.le_refl _ | (dsimp only; omega))) _) (.inr (by first | exact Nat.le_refl _ | (dsimp only; omega))) _) (.inr (by first | exact Nat.le_refl _ | (dsimp only; omega))) _) (.inr (by first | exact Nat.le_refl _ | (dsimp only; omega))) _) (.inr (by first | exact Nat.le_refl _ | (dsimp only; omega))) _) (.inr (by first | exact Nat.le_refl _ | (dsimp only; omega))) _)⟩)
  · skip
    have u0 : ((v3 : Int) == 0) = false := by simp; omega
    have u1 : ((v3 : Int) == 1) = false := by simp; omega
    clear hv0 hv1
    go_wp2_with fail
    have hrr : (w5).heap[w.heap.size]? = some (.cells #[.int .i64 0, .int .i64 0, .string ⟨#[]⟩, .int .i64 0, .string ⟨#[]⟩, .string ⟨#[]⟩, .int .i64 0, .string ⟨#[]⟩] 30 (0, 0)) := b5_0.out
    have hst := setI_8 (x0 := .int .i64 (1 + (v1 : Int))) (x1 := .int .i64 (1 + (v2 : Int))) (x2 := .string hd) (x3 := .int .i64 x) (x4 := .string s) (x5 := .string t) (x6 := .int .i64 a) (x7 := .string u) hrr
    clear hrr
    have r0 := cell_of_row _ _ 0 _ _ (0, 0) hst
    have r1 := cell_of_row _ _ 1 _ _ (0, 0) hst
    have r2 := cell_of_row _ _ 2 _ _ (0, 0) hst
    have r3 := cell_of_row _ _ 3 _ _ (0, 0) hst
    have r4 := cell_of_row _ _ 4 _ _ (0, 0) hst
    have r5 := cell_of_row _ _ 5 _ _ (0, 0) hst
    have r6 := cell_of_row _ _ 6 _ _ (0, 0) hst
    have r7 := cell_of_row _ _ 7 _ _ (0, 0) hst
    clear hst
    exact bodyPost_ret (v := .agg #[.int .i64 (1 + (v1 : Int)), .int .i64 (1 + (v2 : Int)), .string hd, .int .i64 x, .string s, .string t, .int .i64 a, .string u]) (by simp [results, Tryd.results22, go_sem, r0, r1, r2, r3, r4, r5, r6, r7]) rfl (⟨_, _, _, _, _, _, _, _, _, rfl, by omega, by omega, by omega, by omega, by omega, (Rd.set h (Rd.set h (Rd.set h (Rd.set h (Rd.set h (Rd.set h (Rd.set h (Rd.set h R5.out (a := ⟨w.heap.size, 0, none⟩) (by first | exact Nat.le_refl _ | (dsimp only; omega)) _) (a := ⟨w.heap.size, 1, none⟩) (by first | exact Nat.le_refl _ | (dsimp only; omega)) _) (a := ⟨w.heap.size, 2, none⟩) (by first | exact Nat.le_refl _ | (dsimp only; omega)) _) (a := ⟨w.heap.size, 3, none⟩) (by first | exact Nat.le_refl _ | (dsimp only; omega)) _) (a := ⟨w.heap.size, 4, none⟩) (by first | exact Nat.le_refl _ | (dsimp only; omega)) _) (a := ⟨w.heap.size, 5, none⟩) (by first | exact Nat.le_refl _ | (dsimp only; omega)) _) (a := ⟨w.heap.size, 6, none⟩) (by first | exact Nat.le_refl _ | (dsimp only; omega)) _) (a := ⟨w.heap.size, 7, none⟩) (by first | exact Nat.le_refl _ | (dsimp only; omega)) _), (Chg.setCell (p := ⟨w.heap.size, 7, none⟩) (Chg.setCell (p := ⟨w.heap.size, 6, none⟩) (Chg.setCell (p := ⟨w.heap.size, 5, none⟩) (Chg.setCell (p := ⟨w.heap.size, 4, none⟩) (Chg.setCell (p := ⟨w.heap.size, 3, none⟩) (Chg.setCell (p := ⟨w.heap.size, 2, none⟩) (Chg.setCell (p := ⟨w.heap.size, 1, none⟩) (Chg.setCell (p := ⟨w.heap.size, 0, none⟩) X5.out (.inr (by first | exact Nat.le_refl _ | (dsimp only; omega))) _) (.inr (by first | exact Nat.le_refl _ | (dsimp only; omega))) _) (.inr (by first | exact Nat.le_refl _ | (dsimp only; omega))) _) (.inr (by first | exact Nat.le_refl _ | (dsimp only; omega))) _) (.inr (by first | exact Nat.le_refl _ | (dsimp only; omega))) _) (.inr (by first | exact Nat.le_refl _ | (dsimp only; omega))) _) (.inr (by first | exact Nat.le_refl _ | (dsimp only; omega))) _) (.inr (by first | exact Nat.le_refl _ | (dsimp only; omega))) _)⟩)
def GotIntV (w : World) (e : Ending) (w' : World) : Prop :=
  ∃ (g q : Int) (h : Str) (x : Int) (s t : Str) (a : Int) (u : Str), e = .returned (.agg #[.int .i64 g, .int .i64 q, .string (strB h), .int .i64 x, .string (strB s), .string (strB t), .int .i64 a, .string (strB u)]) ∧ h.length ≤ 3000000000 ∧ s.length ≤ 3000000000 ∧ t.length ≤ 3000000000 ∧ u.length ≤ 3000000000 ∧ Below w.heap.size w w'
theorem BytesIn.deepI {w w' : World} {A : Option Addr} {n c : Nat} {zs : List Int} (h : BytesIn w A n c zs) (hb : Below w.heap.size w w') : BytesIn w' A n c zs := by
  obtain ⟨h1, h2, h3, h4, h5⟩ := h
  refine ⟨h1, h2, h3, h4, fun hn => ?_⟩
  obtain ⟨b, off, hA, hc⟩ := h5 hn
  exact ⟨b, off, hA, fun j hj => (hb.cell (World.block_lt_of_cell? w _ (hc j hj))).trans (hc j hj)⟩
set_option maxRecDepth 100000 in
set_option maxHeartbeats 1000000 in
theorem drawIntentOk_any (A : Option Addr) (n c : Nat) (zs : List Int) (w : World) (h : BytesIn w A n c zs) : Calls Tryd.prog 10 #[.slice A n c] w (GotIntV w) := by
  go_enter Tryd.func10, Tryd.ntmps10
  go_wp2_with fail
  refine (l6Open_any A n c zs _ ?_).mono ?_
  · exact BytesIn.deepI h ((Below.refl _ _).alloc (Nat.le_refl _) _)
  rintro e w1 ⟨m', c', ys, rfl, hr, hb1⟩
  have s1 := hb1.size
  have hp1 := hr.2.2.2.1
  have hq1 : w1.heap[w.heap.size]? = some (.cells #[.int .i64 0, .int .i64 0, .string ⟨#[]⟩, .int .i64 0, .string ⟨#[]⟩, .string ⟨#[]⟩, .int .i64 0, .string ⟨#[]⟩] 30 (0, 0)) := (hb1.block _ (by simp)).trans (heap_alloc_new _ _)
  simp at s1 hr hp1
  have hb2 : Below w.heap.size w w1 := ((Below.refl _ _).alloc (Nat.le_refl _) _).trans (hb1.mono (by simp))
  clear hb1
  go_wp2_with fail
  refine (l93Intent_any w1 _ A m' c' ys 0 hr (by omega)).mono ?_
  rintro e w2 ⟨g, q, h, x, s, t, a, u, k', rfl, hh, hs, ht, hu, hk', hr2, hc⟩
  obtain ⟨h, rfl⟩ : ∃ z, h = strB z := ⟨h.data.toList, (strB_data _).symm⟩
  obtain ⟨s, rfl⟩ : ∃ z, s = strB z := ⟨s.data.toList, (strB_data _).symm⟩
  obtain ⟨t, rfl⟩ : ∃ z, t = strB z := ⟨t.data.toList, (strB_data _).symm⟩
  obtain ⟨u, rfl⟩ : ∃ z, u = strB z := ⟨u.data.toList, (strB_data _).symm⟩
  rw [strB_size] at hh hs ht hu
  have hq2 := (hc.block w.heap.size (by omega) (by simp)).trans hq1
  have hb3 : Below w.heap.size w w2 := hb2.trans (hc.below (fun k _ hk => by simp at hk; omega) hb2.size)
  have f0 : ∀ o, w2.frozen? ⟨w.heap.size, o, none⟩ = false := fun o => block_free hq2 o
  have g0 := f0 0; have g1 := f0 1; have g2 := f0 2; have g3 := f0 3; have g4 := f0 4; have g5 := f0 5; have g6 := f0 6; have g7 := f0 7
  have c0 := cell_of_row _ _ 0 _ _ (0, 0) hq2; have c1 := cell_of_row _ _ 1 _ _ (0, 0) hq2; have c2 := cell_of_row _ _ 2 _ _ (0, 0) hq2; have c3 := cell_of_row _ _ 3 _ _ (0, 0) hq2; have c4 := cell_of_row _ _ 4 _ _ (0, 0) hq2; have c5 := cell_of_row _ _ 5 _ _ (0, 0) hq2; have c6 := cell_of_row _ _ 6 _ _ (0, 0) hq2; have c7 := cell_of_row _ _ 7 _ _ (0, 0) hq2
  clear f0 hr2 hc hb2 hr hq1
  go_wp2_with fail
  have hst := setI_8 (x0 := .int .i64 g) (x1 := .int .i64 q) (x2 := .string (strB h)) (x3 := .int .i64 x) (x4 := .string (strB s)) (x5 := .string (strB t)) (x6 := .int .i64 a) (x7 := .string (strB u)) hq2
  have r0 := cell_of_row _ _ 0 _ _ (0, 0) hst; have r1 := cell_of_row _ _ 1 _ _ (0, 0) hst; have r2 := cell_of_row _ _ 2 _ _ (0, 0) hst; have r3 := cell_of_row _ _ 3 _ _ (0, 0) hst; have r4 := cell_of_row _ _ 4 _ _ (0, 0) hst; have r5 := cell_of_row _ _ 5 _ _ (0, 0) hst; have r6 := cell_of_row _ _ 6 _ _ (0, 0) hst; have r7 := cell_of_row _ _ 7 _ _ (0, 0) hst
  clear hst
  exact bodyPost_ret (v := .agg #[.int .i64 g, .int .i64 q, .string (strB h), .int .i64 x, .string (strB s), .string (strB t), .int .i64 a, .string (strB u)]) (by simp [results, Tryd.results10, go_sem, r0, r1, r2, r3, r4, r5, r6, r7]) rfl
    ⟨_, _, _, _, _, _, _, _, rfl, by omega, by omega, by omega, by omega, (Below.setCell (p := ⟨w.heap.size, 7, none⟩) (Below.setCell (p := ⟨w.heap.size, 6, none⟩) (Below.setCell (p := ⟨w.heap.size, 5, none⟩) (Below.setCell (p := ⟨w.heap.size, 4, none⟩) (Below.setCell (p := ⟨w.heap.size, 3, none⟩) (Below.setCell (p := ⟨w.heap.size, 2, none⟩) (Below.setCell (p := ⟨w.heap.size, 1, none⟩) (Below.setCell (p := ⟨w.heap.size, 0, none⟩) hb3 (Nat.le_refl _) _) (Nat.le_refl _) _) (Nat.le_refl _) _) (Nat.le_refl _) _) (Nat.le_refl _) _) (Nat.le_refl _) _) (Nat.le_refl _) _) (Nat.le_refl _) _)⟩
end Go.Proofs.YtkmkmndcgemnlaaDoor
