/- SumOf and PtrOf of the reference. No condition. -/
import Derived.Test.YtfokpjoeankobaaRaidWrite
import Derived.Test.YtfokpjoeankobaaRecs
import Derived.Test.YtfokpjoeankobaaPtr
namespace Go.Proofs.Ytfokpjoeankobaa
set_option linter.unnecessarySimpa false
open Go Go.Lib Go.RowKit
set_option linter.unusedVariables false
set_option linter.unusedSimpArgs false
theorem str_getR {s : ByteArray} {j : Nat} (h : j < s.size) : ∃ (c : UInt8) (x : Nat), s.data.toList[j]? = some c ∧ x = c.toNat ∧ x < 256 ∧ (s[j]'h).toNat = x := by
  refine ⟨s[j]'h, _, ?_, rfl, UInt8.toNat_lt _, rfl⟩
  have h2 : j < s.data.size := h
  have h3 : j < s.data.toList.length := by rw [Array.length_toList]; exact h2
  rw [List.getElem?_eq_getElem h3]
  rfl
theorem take_allR (s : ByteArray) : s.data.toList.take s.size = s.data.toList := by
  apply List.take_of_length_le
  rw [Array.length_toList]
  exact Nat.le_refl _
set_option maxRecDepth 100000 in
set_option maxHeartbeats 2000000 in
theorem spSumOfR_any (s : ByteArray) (hs : s.size ≤ 9223372036854775807) (w : World) :
    Calls Try.prog 65 #[.string s] w fun e w' => e = .returned (.int .i64 (sumL s.data.toList : Nat)) ∧ w = w' := by
  go_enter Try.func65, Try.ntmps65
  go_wp2_with fail
  go_loopw [3, 4, 5] (fun a b i wr => ∃ (j p1 p2 : Nat), a = .int .i64 (p1 : Int) ∧ b = .int .i64 (p2 : Int) ∧ i = .int .i64 (j : Int) ∧ j ≤ s.size ∧ p1 < 9973 ∧ p2 < 9973 ∧ Hid (sum2 (s.data.toList.take j) = (p1, p2)) ∧ SameW wr w) (fun _ _ i _ => s.size - (RowKit.intOf i).toNat)
  case atStart => exact ⟨0, 1, 0, rfl, rfl, rfl, Nat.zero_le _, by omega, by omega, Lib.hid rfl, SameW.refl _⟩
  case round =>
    obtain ⟨j, p1, p2, rfl, rfl, rfl, hj, h1, h2, HS, hw⟩ := hrel
    have hw := hw.out
    subst hw
    by_cases hlt : j < s.size
    · have hd : ((j : Nat) : Int) < (s.size : Int) := by omega
      obtain ⟨c, x, hc, hx, hx2, hg⟩ := str_getR hlt
      have HS2 : Hid (sum2 (s.data.toList.take (j + 1)) = ((p1 + x + 1) % 9973, ((p1 + x + 1) % 9973 + p2) % 9973)) := Lib.hid (by rw [sum2_take _ _ _ hc, HS.out, hx]; rfl)
      clear hc hx HS
      go_wp2_with fail
      go_roundw
      case rel => exact ⟨j + 1, (p1 + x + 1) % 9973, ((p1 + x + 1) % 9973 + p2) % 9973, by simp [hg], by simp [hg, Int.add_comm], by simp, by omega, Nat.mod_lt _ (by decide), Nat.mod_lt _ (by decide), HS2, SameW.refl _⟩
      case measure => simp [RowKit.intOf]; omega
    · have hd : ¬ ((j : Nat) : Int) < (s.size : Int) := by omega
      obtain rfl : j = s.size := by omega
      have HE : Hid (sumL s.data.toList = p1 * 9973 + p2) := Lib.hid (by unfold sumL; rw [← take_allR s, HS.out])
      go_wp2_with fail
      go_ret
      exact ⟨ret_int (by rw [HE.out]; simp), rfl⟩
theorem l2BlockR_any (s : ByteArray) (w : World) : Calls Try.prog 64 #[.string s] w fun e w' => e = .returned (.bool (inB (s.size : Int) 1 128)) ∧ w = w' := by
  go_enter Try.func64, Try.ntmps64
  go_wp2_with fail
  refine (l6In_any _ _ _ _).mono ?_
  rintro e w1 ⟨rfl, rfl⟩
  go_wp2_with fail
  go_ret
  exact ⟨rfl, rfl⟩
theorem set_5R {w : World} {r T : Nat} {v0 v1 v2 v3 v4 x0 x1 x2 x3 x4 : Value} (h : w.heap[r]? = some (.cells #[v0, v1, v2, v3, v4] T (0, 0))) :
    (((((w.setCell ⟨r, 0, none⟩ x0).setCell ⟨r, 1, none⟩ x1).setCell ⟨r, 2, none⟩ x2).setCell ⟨r, 3, none⟩ x3).setCell ⟨r, 4, none⟩ x4).heap[r]? = some (.cells #[x0, x1, x2, x3, x4] T (0, 0)) := by
  have h1 : (w.setCell ⟨r, 0, none⟩ x0).heap[r]? = some (.cells #[x0, v1, v2, v3, v4] T (0, 0)) := block_set (o := 0) (v := x0) h
  have h2 : ((w.setCell ⟨r, 0, none⟩ x0).setCell ⟨r, 1, none⟩ x1).heap[r]? = some (.cells #[x0, x1, v2, v3, v4] T (0, 0)) := block_set (o := 1) (v := x1) h1
  have h3 : (((w.setCell ⟨r, 0, none⟩ x0).setCell ⟨r, 1, none⟩ x1).setCell ⟨r, 2, none⟩ x2).heap[r]? = some (.cells #[x0, x1, x2, v3, v4] T (0, 0)) := block_set (o := 2) (v := x2) h2
  have h4 : ((((w.setCell ⟨r, 0, none⟩ x0).setCell ⟨r, 1, none⟩ x1).setCell ⟨r, 2, none⟩ x2).setCell ⟨r, 3, none⟩ x3).heap[r]? = some (.cells #[x0, x1, x2, x3, v4] T (0, 0)) := block_set (o := 3) (v := x3) h3
  have h5 : (((((w.setCell ⟨r, 0, none⟩ x0).setCell ⟨r, 1, none⟩ x1).setCell ⟨r, 2, none⟩ x2).setCell ⟨r, 3, none⟩ x3).setCell ⟨r, 4, none⟩ x4).heap[r]? = some (.cells #[x0, x1, x2, x3, x4] T (0, 0)) := block_set (o := 4) (v := x4) h4
  exact h5
def GotPtrOfR (a0 : Int) (w : World) (e : Ending) (w' : World) : Prop := ∃ (a b s m l : Int) (ok : Bool), e = .returned (.tuple #[.agg #[.int .i64 a, .int .i64 b, .int .i64 s, .int .i64 m, .int .i64 l], .bool ok]) ∧ (a = a0 ∨ a = 0) ∧ Below w.heap.size w w'
set_option maxRecDepth 100000 in
set_option maxHeartbeats 2000000 in
theorem spPtrOfR_any (a b l : Int) (s : ByteArray) (w : World) (hs : s.size ≤ 9223372036854775807) : Calls Try.prog 44 #[.int .i64 a, .int .i64 b, .int .i64 l, .string s] w (GotPtrOfR a w) := by
  go_enter Try.func44, Try.ntmps44
  go_wp2_with fail
  refine (l2BlockR_any s _).mono ?_
  generalize inB (s.size : Int) 1 128 = bb
  rintro e w1 ⟨rfl, hw1⟩
  have hb1 : Below ((World.alloc (World.alloc w (.cells #[.int .i64 0, .int .i64 0, .int .i64 0, .int .i64 0, .int .i64 0] 79)) (.cells #[.int .i64 a, .int .i64 b, .int .i64 (s.size : Int), .int .i64 0, .int .i64 l] 79))).heap.size ((World.alloc (World.alloc w (.cells #[.int .i64 0, .int .i64 0, .int .i64 0, .int .i64 0, .int .i64 0] 79)) (.cells #[.int .i64 a, .int .i64 b, .int .i64 (s.size : Int), .int .i64 0, .int .i64 l] 79))) w1 := by rw [← hw1]; exact Below.refl _ _
  clear hw1
  have zz1 : w.heap.size + 2 ≤ w1.heap.size := by have := hb1.size; simp [World.setCell] at this; omega
  have YY1 : Below w.heap.size w (World.alloc (World.alloc w (.cells #[.int .i64 0, .int .i64 0, .int .i64 0, .int .i64 0, .int .i64 0] 79)) (.cells #[.int .i64 a, .int .i64 b, .int .i64 (s.size : Int), .int .i64 0, .int .i64 l] 79)) := (Below.alloc (Below.alloc (Below.refl _ _) (by first | exact Nat.le_refl _ | (simp [World.setCell] <;> omega)) _) (by first | exact Nat.le_refl _ | (simp [World.setCell] <;> omega)) _)
  have X1 : Below w.heap.size w w1 := YY1.trans (hb1.mono YY1.size)
  clear YY1
  have b1_0 : Hid (w1.heap[w.heap.size]? = some (.cells #[.int .i64 0, .int .i64 0, .int .i64 0, .int .i64 0, .int .i64 0] 79 (0, 0))) := Lib.hid ((hb1.block _ (by first | omega | (simp [World.setCell] <;> omega))).trans ((Below.heap_alloc _ _ _ (by first | omega | (simp [World.setCell] <;> omega))).trans (show _ from by have := heap_alloc_new w (.cells #[.int .i64 0, .int .i64 0, .int .i64 0, .int .i64 0, .int .i64 0] 79); simpa [World.setCell] using this)))
  have b1_1 : Hid (w1.heap[w.heap.size + 1]? = some (.cells #[.int .i64 a, .int .i64 b, .int .i64 (s.size : Int), .int .i64 0, .int .i64 l] 79 (0, 0))) := Lib.hid ((hb1.block _ (by first | omega | (simp [World.setCell] <;> omega))).trans (show _ from by have := heap_alloc_new (World.alloc w (.cells #[.int .i64 0, .int .i64 0, .int .i64 0, .int .i64 0, .int .i64 0] 79)) (.cells #[.int .i64 a, .int .i64 b, .int .i64 (s.size : Int), .int .i64 0, .int .i64 l] 79); simpa [World.setCell] using this))
  clear hb1
  have l1_0 : w.heap.size < w1.heap.size := (Array.getElem?_eq_some_iff.1 b1_0.out).1
  have c1_0_0 : w1.cell? ⟨w.heap.size, 0, none⟩ = some (.int .i64 0) := cell_of_row _ _ 0 _ _ (0, 0) b1_0.out
  have f1_0_0 : w1.frozen? ⟨w.heap.size, 0, none⟩ = false := block_free b1_0.out _
  have c1_0_1 : w1.cell? ⟨w.heap.size, 1, none⟩ = some (.int .i64 0) := cell_of_row _ _ 1 _ _ (0, 0) b1_0.out
  have f1_0_1 : w1.frozen? ⟨w.heap.size, 1, none⟩ = false := block_free b1_0.out _
  have c1_0_2 : w1.cell? ⟨w.heap.size, 2, none⟩ = some (.int .i64 0) := cell_of_row _ _ 2 _ _ (0, 0) b1_0.out
  have f1_0_2 : w1.frozen? ⟨w.heap.size, 2, none⟩ = false := block_free b1_0.out _
  have c1_0_3 : w1.cell? ⟨w.heap.size, 3, none⟩ = some (.int .i64 0) := cell_of_row _ _ 3 _ _ (0, 0) b1_0.out
  have f1_0_3 : w1.frozen? ⟨w.heap.size, 3, none⟩ = false := block_free b1_0.out _
  have c1_0_4 : w1.cell? ⟨w.heap.size, 4, none⟩ = some (.int .i64 0) := cell_of_row _ _ 4 _ _ (0, 0) b1_0.out
  have f1_0_4 : w1.frozen? ⟨w.heap.size, 4, none⟩ = false := block_free b1_0.out _
  have l1_1 : w.heap.size + 1 < w1.heap.size := (Array.getElem?_eq_some_iff.1 b1_1.out).1
  have c1_1_0 : w1.cell? ⟨w.heap.size + 1, 0, none⟩ = some (.int .i64 a) := cell_of_row _ _ 0 _ _ (0, 0) b1_1.out
  have f1_1_0 : w1.frozen? ⟨w.heap.size + 1, 0, none⟩ = false := block_free b1_1.out _
  have c1_1_1 : w1.cell? ⟨w.heap.size + 1, 1, none⟩ = some (.int .i64 b) := cell_of_row _ _ 1 _ _ (0, 0) b1_1.out
  have f1_1_1 : w1.frozen? ⟨w.heap.size + 1, 1, none⟩ = false := block_free b1_1.out _
  have c1_1_2 : w1.cell? ⟨w.heap.size + 1, 2, none⟩ = some (.int .i64 (s.size : Int)) := cell_of_row _ _ 2 _ _ (0, 0) b1_1.out
  have f1_1_2 : w1.frozen? ⟨w.heap.size + 1, 2, none⟩ = false := block_free b1_1.out _
  have c1_1_3 : w1.cell? ⟨w.heap.size + 1, 3, none⟩ = some (.int .i64 0) := cell_of_row _ _ 3 _ _ (0, 0) b1_1.out
  have f1_1_3 : w1.frozen? ⟨w.heap.size + 1, 3, none⟩ = false := block_free b1_1.out _
  have c1_1_4 : w1.cell? ⟨w.heap.size + 1, 4, none⟩ = some (.int .i64 l) := cell_of_row _ _ 4 _ _ (0, 0) b1_1.out
  have f1_1_4 : w1.frozen? ⟨w.heap.size + 1, 4, none⟩ = false := block_free b1_1.out _
  cases bb
  case false =>
    have HRR : Hid ((w1).heap[w.heap.size]? = some (.cells #[.int .i64 0, .int .i64 0, .int .i64 0, .int .i64 0, .int .i64 0] 79 (0, 0))) := Lib.hid (b1_0.out)
    have HBL : Hid (Below w.heap.size w w1) := Lib.hid X1
    go_wp2_with fail
    have hst := set_5R (x0 := .int .i64 0) (x1 := .int .i64 0) (x2 := .int .i64 0) (x3 := .int .i64 0) (x4 := .int .i64 0) HRR.out
    have r0 := cell_of_row _ _ 0 _ _ (0, 0) hst
    have r1 := cell_of_row _ _ 1 _ _ (0, 0) hst
    have r2 := cell_of_row _ _ 2 _ _ (0, 0) hst
    have r3 := cell_of_row _ _ 3 _ _ (0, 0) hst
    have r4 := cell_of_row _ _ 4 _ _ (0, 0) hst
    clear hst
    exact bodyPost_ret (v := .tuple #[.agg #[.int .i64 0, .int .i64 0, .int .i64 0, .int .i64 0, .int .i64 0], .bool false]) (by simp [results, Try.results44, go_sem, r0, r1, r2, r3, r4]) rfl (⟨_, _, _, _, _, _, rfl, (by first | exact .inl rfl | exact .inr rfl), (Below.setCell (p := ⟨w.heap.size, 4, none⟩) (Below.setCell (p := ⟨w.heap.size, 3, none⟩) (Below.setCell (p := ⟨w.heap.size, 2, none⟩) (Below.setCell (p := ⟨w.heap.size, 1, none⟩) (Below.setCell (p := ⟨w.heap.size, 0, none⟩) HBL.out (Nat.le_refl _) _) (Nat.le_refl _) _) (Nat.le_refl _) _) (Nat.le_refl _) _) (Nat.le_refl _) _)⟩)
  go_wp2_with fail
  refine (spSumOfR_any s hs _).mono ?_
  generalize ((sumL s.data.toList : Nat) : Int) = m
  rintro e w2 ⟨rfl, hw2⟩
  have hb2 : Below w1.heap.size w1 w2 := by rw [← hw2]; exact Below.refl _ _
  clear hw2
  have zz2 : w1.heap.size ≤ w2.heap.size := by have := hb2.size; simpa [World.setCell] using this
  have YY2 : Below w.heap.size w w1 := X1
  have X2 : Below w.heap.size w w2 := YY2.trans (hb2.mono YY2.size)
  clear YY2
  have b2_0 : Hid (w2.heap[w.heap.size]? = some (.cells #[.int .i64 0, .int .i64 0, .int .i64 0, .int .i64 0, .int .i64 0] 79 (0, 0))) := Lib.hid ((hb2.block _ (by first | omega | (simp [World.setCell] <;> omega))).trans b1_0.out)
  have b2_1 : Hid (w2.heap[w.heap.size + 1]? = some (.cells #[.int .i64 a, .int .i64 b, .int .i64 (s.size : Int), .int .i64 0, .int .i64 l] 79 (0, 0))) := Lib.hid ((hb2.block _ (by first | omega | (simp [World.setCell] <;> omega))).trans b1_1.out)
  clear b1_0 b1_1 X1 zz1 l1_0 c1_0_0 f1_0_0 c1_0_1 f1_0_1 c1_0_2 f1_0_2 c1_0_3 f1_0_3 c1_0_4 f1_0_4 l1_1 c1_1_0 f1_1_0 c1_1_1 f1_1_1 c1_1_2 f1_1_2 c1_1_3 f1_1_3 c1_1_4 f1_1_4 hb2
  have l2_0 : w.heap.size < w2.heap.size := (Array.getElem?_eq_some_iff.1 b2_0.out).1
  have c2_0_0 : w2.cell? ⟨w.heap.size, 0, none⟩ = some (.int .i64 0) := cell_of_row _ _ 0 _ _ (0, 0) b2_0.out
  have f2_0_0 : w2.frozen? ⟨w.heap.size, 0, none⟩ = false := block_free b2_0.out _
  have c2_0_1 : w2.cell? ⟨w.heap.size, 1, none⟩ = some (.int .i64 0) := cell_of_row _ _ 1 _ _ (0, 0) b2_0.out
  have f2_0_1 : w2.frozen? ⟨w.heap.size, 1, none⟩ = false := block_free b2_0.out _
  have c2_0_2 : w2.cell? ⟨w.heap.size, 2, none⟩ = some (.int .i64 0) := cell_of_row _ _ 2 _ _ (0, 0) b2_0.out
  have f2_0_2 : w2.frozen? ⟨w.heap.size, 2, none⟩ = false := block_free b2_0.out _
  have c2_0_3 : w2.cell? ⟨w.heap.size, 3, none⟩ = some (.int .i64 0) := cell_of_row _ _ 3 _ _ (0, 0) b2_0.out
  have f2_0_3 : w2.frozen? ⟨w.heap.size, 3, none⟩ = false := block_free b2_0.out _
  have c2_0_4 : w2.cell? ⟨w.heap.size, 4, none⟩ = some (.int .i64 0) := cell_of_row _ _ 4 _ _ (0, 0) b2_0.out
  have f2_0_4 : w2.frozen? ⟨w.heap.size, 4, none⟩ = false := block_free b2_0.out _
  have l2_1 : w.heap.size + 1 < w2.heap.size := (Array.getElem?_eq_some_iff.1 b2_1.out).1
  have c2_1_0 : w2.cell? ⟨w.heap.size + 1, 0, none⟩ = some (.int .i64 a) := cell_of_row _ _ 0 _ _ (0, 0) b2_1.out
  have f2_1_0 : w2.frozen? ⟨w.heap.size + 1, 0, none⟩ = false := block_free b2_1.out _
  have c2_1_1 : w2.cell? ⟨w.heap.size + 1, 1, none⟩ = some (.int .i64 b) := cell_of_row _ _ 1 _ _ (0, 0) b2_1.out
  have f2_1_1 : w2.frozen? ⟨w.heap.size + 1, 1, none⟩ = false := block_free b2_1.out _
  have c2_1_2 : w2.cell? ⟨w.heap.size + 1, 2, none⟩ = some (.int .i64 (s.size : Int)) := cell_of_row _ _ 2 _ _ (0, 0) b2_1.out
  have f2_1_2 : w2.frozen? ⟨w.heap.size + 1, 2, none⟩ = false := block_free b2_1.out _
  have c2_1_3 : w2.cell? ⟨w.heap.size + 1, 3, none⟩ = some (.int .i64 0) := cell_of_row _ _ 3 _ _ (0, 0) b2_1.out
  have f2_1_3 : w2.frozen? ⟨w.heap.size + 1, 3, none⟩ = false := block_free b2_1.out _
  have c2_1_4 : w2.cell? ⟨w.heap.size + 1, 4, none⟩ = some (.int .i64 l) := cell_of_row _ _ 4 _ _ (0, 0) b2_1.out
  have f2_1_4 : w2.frozen? ⟨w.heap.size + 1, 4, none⟩ = false := block_free b2_1.out _
  go_wp2_with fail
  refine (spPtrOk_any a b (s.size : Int) m l _).mono ?_
  generalize ptrOkB a b (s.size : Int) m l = bk
  rintro e w3 ⟨rfl, hb3⟩
  have zz3 : w2.heap.size ≤ w3.heap.size := by have := hb3.size; simpa [World.setCell] using this
  have YY3 : Below w.heap.size w (World.setCell w2 ⟨w.heap.size + 1, 3, none⟩ (.int .i64 m)) := (Below.setCell (p := ⟨w.heap.size + 1, 3, none⟩) X2 (by have := X2.size; simp <;> omega) _)
  have X3 : Below w.heap.size w w3 := YY3.trans (hb3.mono YY3.size)
  clear YY3
  have b3_0 : Hid (w3.heap[w.heap.size]? = some (.cells #[.int .i64 0, .int .i64 0, .int .i64 0, .int .i64 0, .int .i64 0] 79 (0, 0))) := Lib.hid ((hb3.block _ (by first | omega | (simp [World.setCell] <;> omega))).trans ((heap_far (by first | omega | (simp <;> omega))).trans b2_0.out))
  have b3_1 : Hid (w3.heap[w.heap.size + 1]? = some (.cells #[.int .i64 a, .int .i64 b, .int .i64 (s.size : Int), .int .i64 m, .int .i64 l] 79 (0, 0))) := Lib.hid ((hb3.block _ (by first | omega | (simp [World.setCell] <;> omega))).trans (block_set b2_1.out))
  clear b2_0 b2_1 X2 zz2 l2_0 c2_0_0 f2_0_0 c2_0_1 f2_0_1 c2_0_2 f2_0_2 c2_0_3 f2_0_3 c2_0_4 f2_0_4 l2_1 c2_1_0 f2_1_0 c2_1_1 f2_1_1 c2_1_2 f2_1_2 c2_1_3 f2_1_3 c2_1_4 f2_1_4 hb3
  have l3_0 : w.heap.size < w3.heap.size := (Array.getElem?_eq_some_iff.1 b3_0.out).1
  have c3_0_0 : w3.cell? ⟨w.heap.size, 0, none⟩ = some (.int .i64 0) := cell_of_row _ _ 0 _ _ (0, 0) b3_0.out
  have f3_0_0 : w3.frozen? ⟨w.heap.size, 0, none⟩ = false := block_free b3_0.out _
  have c3_0_1 : w3.cell? ⟨w.heap.size, 1, none⟩ = some (.int .i64 0) := cell_of_row _ _ 1 _ _ (0, 0) b3_0.out
  have f3_0_1 : w3.frozen? ⟨w.heap.size, 1, none⟩ = false := block_free b3_0.out _
  have c3_0_2 : w3.cell? ⟨w.heap.size, 2, none⟩ = some (.int .i64 0) := cell_of_row _ _ 2 _ _ (0, 0) b3_0.out
  have f3_0_2 : w3.frozen? ⟨w.heap.size, 2, none⟩ = false := block_free b3_0.out _
  have c3_0_3 : w3.cell? ⟨w.heap.size, 3, none⟩ = some (.int .i64 0) := cell_of_row _ _ 3 _ _ (0, 0) b3_0.out
  have f3_0_3 : w3.frozen? ⟨w.heap.size, 3, none⟩ = false := block_free b3_0.out _
  have c3_0_4 : w3.cell? ⟨w.heap.size, 4, none⟩ = some (.int .i64 0) := cell_of_row _ _ 4 _ _ (0, 0) b3_0.out
  have f3_0_4 : w3.frozen? ⟨w.heap.size, 4, none⟩ = false := block_free b3_0.out _
  have l3_1 : w.heap.size + 1 < w3.heap.size := (Array.getElem?_eq_some_iff.1 b3_1.out).1
  have c3_1_0 : w3.cell? ⟨w.heap.size + 1, 0, none⟩ = some (.int .i64 a) := cell_of_row _ _ 0 _ _ (0, 0) b3_1.out
  have f3_1_0 : w3.frozen? ⟨w.heap.size + 1, 0, none⟩ = false := block_free b3_1.out _
  have c3_1_1 : w3.cell? ⟨w.heap.size + 1, 1, none⟩ = some (.int .i64 b) := cell_of_row _ _ 1 _ _ (0, 0) b3_1.out
  have f3_1_1 : w3.frozen? ⟨w.heap.size + 1, 1, none⟩ = false := block_free b3_1.out _
  have c3_1_2 : w3.cell? ⟨w.heap.size + 1, 2, none⟩ = some (.int .i64 (s.size : Int)) := cell_of_row _ _ 2 _ _ (0, 0) b3_1.out
  have f3_1_2 : w3.frozen? ⟨w.heap.size + 1, 2, none⟩ = false := block_free b3_1.out _
  have c3_1_3 : w3.cell? ⟨w.heap.size + 1, 3, none⟩ = some (.int .i64 m) := cell_of_row _ _ 3 _ _ (0, 0) b3_1.out
  have f3_1_3 : w3.frozen? ⟨w.heap.size + 1, 3, none⟩ = false := block_free b3_1.out _
  have c3_1_4 : w3.cell? ⟨w.heap.size + 1, 4, none⟩ = some (.int .i64 l) := cell_of_row _ _ 4 _ _ (0, 0) b3_1.out
  have f3_1_4 : w3.frozen? ⟨w.heap.size + 1, 4, none⟩ = false := block_free b3_1.out _
  cases bk
  case false =>
    have HRR : Hid ((w3).heap[w.heap.size]? = some (.cells #[.int .i64 0, .int .i64 0, .int .i64 0, .int .i64 0, .int .i64 0] 79 (0, 0))) := Lib.hid (b3_0.out)
    have HBL : Hid (Below w.heap.size w w3) := Lib.hid X3
    go_wp2_with fail
    have hst := set_5R (x0 := .int .i64 0) (x1 := .int .i64 0) (x2 := .int .i64 0) (x3 := .int .i64 0) (x4 := .int .i64 0) HRR.out
    have r0 := cell_of_row _ _ 0 _ _ (0, 0) hst
    have r1 := cell_of_row _ _ 1 _ _ (0, 0) hst
    have r2 := cell_of_row _ _ 2 _ _ (0, 0) hst
    have r3 := cell_of_row _ _ 3 _ _ (0, 0) hst
    have r4 := cell_of_row _ _ 4 _ _ (0, 0) hst
    clear hst
    exact bodyPost_ret (v := .tuple #[.agg #[.int .i64 0, .int .i64 0, .int .i64 0, .int .i64 0, .int .i64 0], .bool false]) (by simp [results, Try.results44, go_sem, r0, r1, r2, r3, r4]) rfl (⟨_, _, _, _, _, _, rfl, (by first | exact .inl rfl | exact .inr rfl), (Below.setCell (p := ⟨w.heap.size, 4, none⟩) (Below.setCell (p := ⟨w.heap.size, 3, none⟩) (Below.setCell (p := ⟨w.heap.size, 2, none⟩) (Below.setCell (p := ⟨w.heap.size, 1, none⟩) (Below.setCell (p := ⟨w.heap.size, 0, none⟩) HBL.out (Nat.le_refl _) _) (Nat.le_refl _) _) (Nat.le_refl _) _) (Nat.le_refl _) _) (Nat.le_refl _) _)⟩)
  case true =>
    have HRR : Hid ((w3).heap[w.heap.size]? = some (.cells #[.int .i64 0, .int .i64 0, .int .i64 0, .int .i64 0, .int .i64 0] 79 (0, 0))) := Lib.hid (b3_0.out)
    have HBL : Hid (Below w.heap.size w w3) := Lib.hid X3
    go_wp2_with fail
    have hst := set_5R (x0 := .int .i64 a) (x1 := .int .i64 b) (x2 := .int .i64 (s.size : Int)) (x3 := .int .i64 m) (x4 := .int .i64 l) HRR.out
    have r0 := cell_of_row _ _ 0 _ _ (0, 0) hst
    have r1 := cell_of_row _ _ 1 _ _ (0, 0) hst
    have r2 := cell_of_row _ _ 2 _ _ (0, 0) hst
    have r3 := cell_of_row _ _ 3 _ _ (0, 0) hst
    have r4 := cell_of_row _ _ 4 _ _ (0, 0) hst
    clear hst
    exact bodyPost_ret (v := .tuple #[.agg #[.int .i64 a, .int .i64 b, .int .i64 (s.size : Int), .int .i64 m, .int .i64 l], .bool true]) (by simp [results, Try.results44, go_sem, r0, r1, r2, r3, r4]) rfl (⟨_, _, _, _, _, _, rfl, (by first | exact .inl rfl | exact .inr rfl), (Below.setCell (p := ⟨w.heap.size, 4, none⟩) (Below.setCell (p := ⟨w.heap.size, 3, none⟩) (Below.setCell (p := ⟨w.heap.size, 2, none⟩) (Below.setCell (p := ⟨w.heap.size, 1, none⟩) (Below.setCell (p := ⟨w.heap.size, 0, none⟩) HBL.out (Nat.le_refl _) _) (Nat.le_refl _) _) (Nat.le_refl _) _) (Nat.le_refl _) _) (Nat.le_refl _) _)⟩)
end Go.Proofs.Ytfokpjoeankobaa
