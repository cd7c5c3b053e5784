/- treeOf and l21Back: a tree of three fields. Condition: the library's variables lie as the row says; the texts are at most a million bytes. -/
import Derived.Test.YtjnhiiaejeaikaaGreatDoorRSpPtrGet
set_option linter.unnecessarySimpa false
set_option linter.unusedSimpArgs false
set_option linter.unusedVariables false
namespace Go.Proofs.YtjnhiiaejeaikaaGreatDoor
open Go Go.Lib Go.RowKit
theorem set_7 {w : World} {r T : Nat} {v0 v1 v2 v3 v4 v5 v6 x0 x1 x2 x3 x4 x5 x6 : Value} (h : w.heap[r]? = some (.cells #[v0, v1, v2, v3, v4, v5, v6] T (0, 0))) :
 (((((((w.setCell ⟨r, 0, none⟩ x0).setCell ⟨r, 1, none⟩ x1).setCell ⟨r, 2, none⟩ x2).setCell ⟨r, 3, none⟩ x3).setCell ⟨r, 4, none⟩ x4).setCell ⟨r, 5, none⟩ x5).setCell ⟨r, 6, none⟩ x6).heap[r]? = some (.cells #[x0, x1, x2, x3, x4, x5, x6] T (0, 0)) := by
 have h1 : (w.setCell ⟨r, 0, none⟩ x0).heap[r]? = some (.cells #[x0, v1, v2, v3, v4, v5, v6] T (0, 0)) := block_set (o := 0) (v := x0) h
 have h2 : ((w.setCell ⟨r, 0, none⟩ x0).setCell ⟨r, 1, none⟩ x1).heap[r]? = some (.cells #[x0, x1, v2, v3, v4, v5, v6] T (0, 0)) := block_set (o := 1) (v := x1) h1
 have h3 : (((w.setCell ⟨r, 0, none⟩ x0).setCell ⟨r, 1, none⟩ x1).setCell ⟨r, 2, none⟩ x2).heap[r]? = some (.cells #[x0, x1, x2, v3, v4, v5, v6] T (0, 0)) := block_set (o := 2) (v := x2) h2
 have h4 : ((((w.setCell ⟨r, 0, none⟩ x0).setCell ⟨r, 1, none⟩ x1).setCell ⟨r, 2, none⟩ x2).setCell ⟨r, 3, none⟩ x3).heap[r]? = some (.cells #[x0, x1, x2, x3, v4, v5, v6] T (0, 0)) := block_set (o := 3) (v := x3) h3
 have h5 : (((((w.setCell ⟨r, 0, none⟩ x0).setCell ⟨r, 1, none⟩ x1).setCell ⟨r, 2, none⟩ x2).setCell ⟨r, 3, none⟩ x3).setCell ⟨r, 4, none⟩ x4).heap[r]? = some (.cells #[x0, x1, x2, x3, x4, v5, v6] T (0, 0)) := block_set (o := 4) (v := x4) h4
 have h6 : ((((((w.setCell ⟨r, 0, none⟩ x0).setCell ⟨r, 1, none⟩ x1).setCell ⟨r, 2, none⟩ x2).setCell ⟨r, 3, none⟩ x3).setCell ⟨r, 4, none⟩ x4).setCell ⟨r, 5, none⟩ x5).heap[r]? = some (.cells #[x0, x1, x2, x3, x4, x5, v6] T (0, 0)) := block_set (o := 5) (v := x5) h5
 have h7 : (((((((w.setCell ⟨r, 0, none⟩ x0).setCell ⟨r, 1, none⟩ x1).setCell ⟨r, 2, none⟩ x2).setCell ⟨r, 3, none⟩ x3).setCell ⟨r, 4, none⟩ x4).setCell ⟨r, 5, none⟩ x5).setCell ⟨r, 6, none⟩ x6).heap[r]? = some (.cells #[x0, x1, x2, x3, x4, x5, x6] T (0, 0)) := block_set (o := 6) (v := x6) h6
 exact h7
def GotTree (x1 x2 x3 : Str) (w : World) (e : Ending) (w' : World) : Prop :=
 ∃ (a b c d l : Int) (ok : Bool), ptrIs x1 a b c d l ok ∧ e = .returned (.tuple #[.agg #[.int .i64 a, .int .i64 b, .int .i64 c, .int .i64 d, .int .i64 l, .int .i64 (((numGet x2).getD 0 : Nat) : Int), .int .i64 (((numGet x3).getD 0 : Nat) : Int)], .bool (ok && (numGet x2).isSome && (numGet x3).isSome)]) ∧ Below w.heap.size w w'
set_option maxRecDepth 100000 in
set_option maxHeartbeats 4000000 in
theorem treeOf_any (g o cp : Nat) (x1 x2 x3 : Str) (w : World) (he : Env w) (h1 : w.cell? ⟨g, o, none⟩ = some (.string (strB x1))) (h2 : w.cell? ⟨g, o + 1, none⟩ = some (.string (strB x2))) (h3 : w.cell? ⟨g, o + 2, none⟩ = some (.string (strB x3))) (hl1 : x1.length ≤ 1000000) (hl2 : x2.length ≤ 1000000) (hl3 : x3.length ≤ 1000000) :
 Calls Tryz.prog 88 #[.slice (some ⟨g, o, none⟩) 3 cp] w (GotTree x1 x2 x3 w) := by
 have lg := World.block_lt_of_cell? _ _ h1
 have H2 := Lib.hid h2
 have H3 := Lib.hid h3
 clear h2 h3
 go_enter Tryz.func88, Tryz.ntmps88
 go_wp2_with fail
 refine (ptrGet_any x1 _ (he.below (Below.alloc (Below.refl _ _) (by first | exact Nat.le_refl _ | (simp [World.setCell] <;> omega)) _)) (by omega)).mono ?_
 rintro e w1 ⟨a, b, c, d, l, ok, rfl, hp, hb1⟩
 have zz1 : w.heap.size + 1 ≤ w1.heap.size := by have := hb1.size; simp [World.setCell] at this; omega
 have YY1 : Below w.heap.size w (World.alloc w (.cells #[.int .i64 0, .int .i64 0, .int .i64 0, .int .i64 0, .int .i64 0, .int .i64 0, .int .i64 0] 43)) := (Below.alloc (Below.refl _ _) (by first | exact Nat.le_refl _ | (simp [World.setCell] <;> omega)) _)
 have X1 : Below w.heap.size w w1 := YY1.trans (hb1.mono YY1.size)
 clear YY1
 have b1_0 : Hid (w1.heap[w.heap.size]? = some (.cells #[.int .i64 0, .int .i64 0, .int .i64 0, .int .i64 0, .int .i64 0, .int .i64 0, .int .i64 0] 43 (0, 0))) := Lib.hid ((hb1.block _ (by first | omega | (simp [World.setCell] <;> omega))).trans (show _ from by have := heap_alloc_new w (.cells #[.int .i64 0, .int .i64 0, .int .i64 0, .int .i64 0, .int .i64 0, .int .i64 0, .int .i64 0] 43); simpa [World.setCell] using this))
 clear hb1
 have l1_0 : w.heap.size < w1.heap.size := (Array.getElem?_eq_some_iff.1 b1_0.out).1
 have c1_0_0 := celR 0 b1_0.out
 have f1_0_0 := block_free b1_0.out 0
 have c1_0_1 := celR 1 b1_0.out
 have f1_0_1 := block_free b1_0.out 1
 have c1_0_2 := celR 2 b1_0.out
 have f1_0_2 := block_free b1_0.out 2
 have c1_0_3 := celR 3 b1_0.out
 have f1_0_3 := block_free b1_0.out 3
 have c1_0_4 := celR 4 b1_0.out
 have f1_0_4 := block_free b1_0.out 4
 have c1_0_5 := celR 5 b1_0.out
 have f1_0_5 := block_free b1_0.out 5
 have c1_0_6 := celR 6 b1_0.out
 have f1_0_6 := block_free b1_0.out 6
 have HP := Lib.hid hp; clear hp h1
 have h2 := (X1.cell lg).trans H2.out
 have lg1 := Nat.lt_of_lt_of_le lg X1.size
 go_wp2_with fail
 refine (numGet_any x2 _ (he.below (Below.alloc X1 (by have := X1.size; simp [World.setCell] <;> omega) _)) (by omega)).mono ?_
 obtain ⟨n2, hn2⟩ : ∃ n, n = (numGet x2).getD 0 := ⟨_, rfl⟩
 obtain ⟨b2, hb2'⟩ : ∃ n, n = (numGet x2).isSome := ⟨_, rfl⟩
 have HN2 := Lib.hid hn2; have HBB2 := Lib.hid hb2'
 rintro e w2 ⟨rfl, hb2⟩
 rw [← hn2, ← hb2']
 clear hn2 hb2'
 have zz2 : w1.heap.size + 1 ≤ w2.heap.size := by have := hb2.size; simp [World.setCell] at this; omega
 have YY2 : Below w.heap.size w (World.alloc w1 (.cells #[.int .i64 a, .int .i64 b, .int .i64 c, .int .i64 d, .int .i64 l] 41)) := (Below.alloc X1 (by have := X1.size; simp [World.setCell] <;> omega) _)
 have X2 : Below w.heap.size w w2 := YY2.trans (hb2.mono YY2.size)
 clear YY2
 have b2_0 : Hid (w2.heap[w.heap.size]? = some (.cells #[.int .i64 0, .int .i64 0, .int .i64 0, .int .i64 0, .int .i64 0, .int .i64 0, .int .i64 0] 43 (0, 0))) := Lib.hid ((hb2.block _ (by first | omega | (simp [World.setCell] <;> omega))).trans ((Below.heap_alloc _ _ _ (by first | omega | (simp [World.setCell] <;> omega))).trans b1_0.out))
 have b2_1 : Hid (w2.heap[w1.heap.size]? = some (.cells #[.int .i64 a, .int .i64 b, .int .i64 c, .int .i64 d, .int .i64 l] 41 (0, 0))) := Lib.hid ((hb2.block _ (by first | omega | (simp [World.setCell] <;> omega))).trans (show _ from by have := heap_alloc_new w1 (.cells #[.int .i64 a, .int .i64 b, .int .i64 c, .int .i64 d, .int .i64 l] 41); simpa [World.setCell] using this))
 clear b1_0 X1 zz1 l1_0 c1_0_0 f1_0_0 c1_0_1 f1_0_1 c1_0_2 f1_0_2 c1_0_3 f1_0_3 c1_0_4 f1_0_4 c1_0_5 f1_0_5 c1_0_6 f1_0_6 hb2
 have l2_0 : w.heap.size < w2.heap.size := (Array.getElem?_eq_some_iff.1 b2_0.out).1
 have c2_0_0 := celR 0 b2_0.out
 have f2_0_0 := block_free b2_0.out 0
 have c2_0_1 := celR 1 b2_0.out
 have f2_0_1 := block_free b2_0.out 1
 have c2_0_2 := celR 2 b2_0.out
 have f2_0_2 := block_free b2_0.out 2
 have c2_0_3 := celR 3 b2_0.out
 have f2_0_3 := block_free b2_0.out 3
 have c2_0_4 := celR 4 b2_0.out
 have f2_0_4 := block_free b2_0.out 4
 have c2_0_5 := celR 5 b2_0.out
 have f2_0_5 := block_free b2_0.out 5
 have c2_0_6 := celR 6 b2_0.out
 have f2_0_6 := block_free b2_0.out 6
 have l2_1 : w1.heap.size < w2.heap.size := (Array.getElem?_eq_some_iff.1 b2_1.out).1
 have c2_1_0 := celR 0 b2_1.out
 have f2_1_0 := block_free b2_1.out 0
 have c2_1_1 := celR 1 b2_1.out
 have f2_1_1 := block_free b2_1.out 1
 have c2_1_2 := celR 2 b2_1.out
 have f2_1_2 := block_free b2_1.out 2
 have c2_1_3 := celR 3 b2_1.out
 have f2_1_3 := block_free b2_1.out 3
 have c2_1_4 := celR 4 b2_1.out
 have f2_1_4 := block_free b2_1.out 4
 clear h2
 have h3 := (X2.cell lg).trans H3.out
 have lg2 := Nat.lt_of_lt_of_le lg X2.size
 go_wp2_with fail
 refine (numGet_any x3 _ (he.below X2) (by omega)).mono ?_
 obtain ⟨n3, hn3⟩ : ∃ n, n = (numGet x3).getD 0 := ⟨_, rfl⟩
 obtain ⟨b3, hb3'⟩ : ∃ n, n = (numGet x3).isSome := ⟨_, rfl⟩
 have HN3 := Lib.hid hn3; have HBB3 := Lib.hid hb3'
 rintro e w3 ⟨rfl, hb3⟩
 rw [← hn3, ← hb3']
 clear hn3 hb3'
 have zz3 : w2.heap.size ≤ w3.heap.size := by have := hb3.size; simpa [World.setCell] using this
 have YY3 : Below w.heap.size w w2 := X2
 have X3 : Below w.heap.size w w3 := YY3.trans (hb3.mono YY3.size)
 clear YY3
 have b3_0 : Hid (w3.heap[w.heap.size]? = some (.cells #[.int .i64 0, .int .i64 0, .int .i64 0, .int .i64 0, .int .i64 0, .int .i64 0, .int .i64 0] 43 (0, 0))) := Lib.hid ((hb3.block _ (by first | omega | (simp [World.setCell] <;> omega))).trans b2_0.out)
 have b3_1 : Hid (w3.heap[w1.heap.size]? = some (.cells #[.int .i64 a, .int .i64 b, .int .i64 c, .int .i64 d, .int .i64 l] 41 (0, 0))) := Lib.hid ((hb3.block _ (by first | omega | (simp [World.setCell] <;> omega))).trans b2_1.out)
 clear b2_0 b2_1 X2 zz2 l2_0 c2_0_0 f2_0_0 c2_0_1 f2_0_1 c2_0_2 f2_0_2 c2_0_3 f2_0_3 c2_0_4 f2_0_4 c2_0_5 f2_0_5 c2_0_6 f2_0_6 l2_1 c2_1_0 f2_1_0 c2_1_1 f2_1_1 c2_1_2 f2_1_2 c2_1_3 f2_1_3 c2_1_4 f2_1_4 hb3
 have l3_0 : w.heap.size < w3.heap.size := (Array.getElem?_eq_some_iff.1 b3_0.out).1
 have c3_0_0 := celR 0 b3_0.out
 have f3_0_0 := block_free b3_0.out 0
 have c3_0_1 := celR 1 b3_0.out
 have f3_0_1 := block_free b3_0.out 1
 have c3_0_2 := celR 2 b3_0.out
 have f3_0_2 := block_free b3_0.out 2
 have c3_0_3 := celR 3 b3_0.out
 have f3_0_3 := block_free b3_0.out 3
 have c3_0_4 := celR 4 b3_0.out
 have f3_0_4 := block_free b3_0.out 4
 have c3_0_5 := celR 5 b3_0.out
 have f3_0_5 := block_free b3_0.out 5
 have c3_0_6 := celR 6 b3_0.out
 have f3_0_6 := block_free b3_0.out 6
 have l3_1 : w1.heap.size < w3.heap.size := (Array.getElem?_eq_some_iff.1 b3_1.out).1
 have c3_1_0 := celR 0 b3_1.out
 have f3_1_0 := block_free b3_1.out 0
 have c3_1_1 := celR 1 b3_1.out
 have f3_1_1 := block_free b3_1.out 1
 have c3_1_2 := celR 2 b3_1.out
 have f3_1_2 := block_free b3_1.out 2
 have c3_1_3 := celR 3 b3_1.out
 have f3_1_3 := block_free b3_1.out 3
 have c3_1_4 := celR 4 b3_1.out
 have f3_1_4 := block_free b3_1.out 4
 clear h3
 have HX3 := Lib.hid X3; clear X3
 cases ok <;> cases b2 <;> cases b3
 · go_wp2_with fail
   have hst := set_7 (x0 := .int .i64 a) (x1 := .int .i64 b) (x2 := .int .i64 c) (x3 := .int .i64 d) (x4 := .int .i64 l) (x5 := .int .i64 (n2 : Int)) (x6 := .int .i64 (n3 : Int)) b3_0.out
   have r0 := celR 0 hst
   have r1 := celR 1 hst
   have r2 := celR 2 hst
   have r3 := celR 3 hst
   have r4 := celR 4 hst
   have r5 := celR 5 hst
   have r6 := celR 6 hst
   clear hst
   exact bodyPost_ret (v := .tuple #[.agg #[.int .i64 a, .int .i64 b, .int .i64 c, .int .i64 d, .int .i64 l, .int .i64 (n2 : Int), .int .i64 (n3 : Int)], .bool false]) (by simp [results, Tryz.results88, go_sem, r0, r1, r2, r3, r4, r5, r6]) rfl (⟨a, b, c, d, l, false, HP.out, by rw [← HN2.out, ← HN3.out, ← HBB2.out, ← HBB3.out]; rfl, (Below.setCell (p := ⟨w.heap.size, 6, none⟩) (Below.setCell (p := ⟨w.heap.size, 5, none⟩) (Below.setCell (p := ⟨w.heap.size, 4, none⟩) (Below.setCell (p := ⟨w.heap.size, 3, none⟩) (Below.setCell (p := ⟨w.heap.size, 2, none⟩) (Below.setCell (p := ⟨w.heap.size, 1, none⟩) (Below.setCell (p := ⟨w.heap.size, 0, none⟩) HX3.out (Nat.le_refl _) _) (Nat.le_refl _) _) (Nat.le_refl _) _) (Nat.le_refl _) _) (Nat.le_refl _) _) (Nat.le_refl _) _) (Nat.le_refl _) _)⟩)
 · go_wp2_with fail
   have hst := set_7 (x0 := .int .i64 a) (x1 := .int .i64 b) (x2 := .int .i64 c) (x3 := .int .i64 d) (x4 := .int .i64 l) (x5 := .int .i64 (n2 : Int)) (x6 := .int .i64 (n3 : Int)) b3_0.out
   have r0 := celR 0 hst
   have r1 := celR 1 hst
   have r2 := celR 2 hst
   have r3 := celR 3 hst
   have r4 := celR 4 hst
   have r5 := celR 5 hst
   have r6 := celR 6 hst
   clear hst
   exact bodyPost_ret (v := .tuple #[.agg #[.int .i64 a, .int .i64 b, .int .i64 c, .int .i64 d, .int .i64 l, .int .i64 (n2 : Int), .int .i64 (n3 : Int)], .bool false]) (by simp [results, Tryz.results88, go_sem, r0, r1, r2, r3, r4, r5, r6]) rfl (⟨a, b, c, d, l, false, HP.out, by rw [← HN2.out, ← HN3.out, ← HBB2.out, ← HBB3.out]; rfl, (Below.setCell (p := ⟨w.heap.size, 6, none⟩) (Below.setCell (p := ⟨w.heap.size, 5, none⟩) (Below.setCell (p := ⟨w.heap.size, 4, none⟩) (Below.setCell (p := ⟨w.heap.size, 3, none⟩) (Below.setCell (p := ⟨w.heap.size, 2, none⟩) (Below.setCell (p := ⟨w.heap.size, 1, none⟩) (Below.setCell (p := ⟨w.heap.size, 0, none⟩) HX3.out (Nat.le_refl _) _) (Nat.le_refl _) _) (Nat.le_refl _) _) (Nat.le_refl _) _) (Nat.le_refl _) _) (Nat.le_refl _) _) (Nat.le_refl _) _)⟩)
 · go_wp2_with fail
   have hst := set_7 (x0 := .int .i64 a) (x1 := .int .i64 b) (x2 := .int .i64 c) (x3 := .int .i64 d) (x4 := .int .i64 l) (x5 := .int .i64 (n2 : Int)) (x6 := .int .i64 (n3 : Int)) b3_0.out
   have r0 := celR 0 hst
   have r1 := celR 1 hst
   have r2 := celR 2 hst
   have r3 := celR 3 hst
   have r4 := celR 4 hst
   have r5 := celR 5 hst
   have r6 := celR 6 hst
   clear hst
   exact bodyPost_ret (v := .tuple #[.agg #[.int .i64 a, .int .i64 b, .int .i64 c, .int .i64 d, .int .i64 l, .int .i64 (n2 : Int), .int .i64 (n3 : Int)], .bool false]) (by simp [results, Tryz.results88, go_sem, r0, r1, r2, r3, r4, r5, r6]) rfl (⟨a, b, c, d, l, false, HP.out, by rw [← HN2.out, ← HN3.out, ← HBB2.out, ← HBB3.out]; rfl, (Below.setCell (p := ⟨w.heap.size, 6, none⟩) (Below.setCell (p := ⟨w.heap.size, 5, none⟩) (Below.setCell (p := ⟨w.heap.size, 4, none⟩) (Below.setCell (p := ⟨w.heap.size, 3, none⟩) (Below.setCell (p := ⟨w.heap.size, 2, none⟩) (Below.setCell (p := ⟨w.heap.size, 1, none⟩) (Below.setCell (p := ⟨w.heap.size, 0, none⟩) HX3.out (Nat.le_refl _) _) (Nat.le_refl _) _) (Nat.le_refl _) _) (Nat.le_refl _) _) (Nat.le_refl _) _) (Nat.le_refl _) _) (Nat.le_refl _) _)⟩)
 · go_wp2_with fail
   have hst := set_7 (x0 := .int .i64 a) (x1 := .int .i64 b) (x2 := .int .i64 c) (x3 := .int .i64 d) (x4 := .int .i64 l) (x5 := .int .i64 (n2 : Int)) (x6 := .int .i64 (n3 : Int)) b3_0.out
   have r0 := celR 0 hst
   have r1 := celR 1 hst
   have r2 := celR 2 hst
   have r3 := celR 3 hst
   have r4 := celR 4 hst
   have r5 := celR 5 hst
   have r6 := celR 6 hst
   clear hst
   exact bodyPost_ret (v := .tuple #[.agg #[.int .i64 a, .int .i64 b, .int .i64 c, .int .i64 d, .int .i64 l, .int .i64 (n2 : Int), .int .i64 (n3 : Int)], .bool false]) (by simp [results, Tryz.results88, go_sem, r0, r1, r2, r3, r4, r5, r6]) rfl (⟨a, b, c, d, l, false, HP.out, by rw [← HN2.out, ← HN3.out, ← HBB2.out, ← HBB3.out]; rfl, (Below.setCell (p := ⟨w.heap.size, 6, none⟩) (Below.setCell (p := ⟨w.heap.size, 5, none⟩) (Below.setCell (p := ⟨w.heap.size, 4, none⟩) (Below.setCell (p := ⟨w.heap.size, 3, none⟩) (Below.setCell (p := ⟨w.heap.size, 2, none⟩) (Below.setCell (p := ⟨w.heap.size, 1, none⟩) (Below.setCell (p := ⟨w.heap.size, 0, none⟩) HX3.out (Nat.le_refl _) _) (Nat.le_refl _) _) (Nat.le_refl _) _) (Nat.le_refl _) _) (Nat.le_refl _) _) (Nat.le_refl _) _) (Nat.le_refl _) _)⟩)
 · go_wp2_with fail
   have hst := set_7 (x0 := .int .i64 a) (x1 := .int .i64 b) (x2 := .int .i64 c) (x3 := .int .i64 d) (x4 := .int .i64 l) (x5 := .int .i64 (n2 : Int)) (x6 := .int .i64 (n3 : Int)) b3_0.out
   have r0 := celR 0 hst
   have r1 := celR 1 hst
   have r2 := celR 2 hst
   have r3 := celR 3 hst
   have r4 := celR 4 hst
   have r5 := celR 5 hst
   have r6 := celR 6 hst
   clear hst
   exact bodyPost_ret (v := .tuple #[.agg #[.int .i64 a, .int .i64 b, .int .i64 c, .int .i64 d, .int .i64 l, .int .i64 (n2 : Int), .int .i64 (n3 : Int)], .bool false]) (by simp [results, Tryz.results88, go_sem, r0, r1, r2, r3, r4, r5, r6]) rfl (⟨a, b, c, d, l, true, HP.out, by rw [← HN2.out, ← HN3.out, ← HBB2.out, ← HBB3.out]; rfl, (Below.setCell (p := ⟨w.heap.size, 6, none⟩) (Below.setCell (p := ⟨w.heap.size, 5, none⟩) (Below.setCell (p := ⟨w.heap.size, 4, none⟩) (Below.setCell (p := ⟨w.heap.size, 3, none⟩) (Below.setCell (p := ⟨w.heap.size, 2, none⟩) (Below.setCell (p := ⟨w.heap.size, 1, none⟩) (Below.setCell (p := ⟨w.heap.size, 0, none⟩) HX3.out (Nat.le_refl _) _) (Nat.le_refl _) _) (Nat.le_refl _) _) (Nat.le_refl _) _) (Nat.le_refl _) _) (Nat.le_refl _) _) (Nat.le_refl _) _)⟩)
 · go_wp2_with fail
   have hst := set_7 (x0 := .int .i64 a) (x1 := .int .i64 b) (x2 := .int .i64 c) (x3 := .int .i64 d) (x4 := .int .i64 l) (x5 := .int .i64 (n2 : Int)) (x6 := .int .i64 (n3 : Int)) b3_0.out
   have r0 := celR 0 hst
   have r1 := celR 1 hst
   have r2 := celR 2 hst
   have r3 := celR 3 hst
   have r4 := celR 4 hst
   have r5 := celR 5 hst
   have r6 := celR 6 hst
   clear hst
   exact bodyPost_ret (v := .tuple #[.agg #[.int .i64 a, .int .i64 b, .int .i64 c, .int .i64 d, .int .i64 l, .int .i64 (n2 : Int), .int .i64 (n3 : Int)], .bool false]) (by simp [results, Tryz.results88, go_sem, r0, r1, r2, r3, r4, r5, r6]) rfl (⟨a, b, c, d, l, true, HP.out, by rw [← HN2.out, ← HN3.out, ← HBB2.out, ← HBB3.out]; rfl, (Below.setCell (p := ⟨w.heap.size, 6, none⟩) (Below.setCell (p := ⟨w.heap.size, 5, none⟩) (Below.setCell (p := ⟨w.heap.size, 4, none⟩) (Below.setCell (p := ⟨w.heap.size, 3, none⟩) (Below.setCell (p := ⟨w.heap.size, 2, none⟩) (Below.setCell (p := ⟨w.heap.size, 1, none⟩) (Below.setCell (p := ⟨w.heap.size, 0, none⟩) HX3.out (Nat.le_refl _) _) (Nat.le_refl _) _) (Nat.le_refl _) _) (Nat.le_refl _) _) (Nat.le_refl _) _) (Nat.le_refl _) _) (Nat.le_refl _) _)⟩)
 · go_wp2_with fail
   have hst := set_7 (x0 := .int .i64 a) (x1 := .int .i64 b) (x2 := .int .i64 c) (x3 := .int .i64 d) (x4 := .int .i64 l) (x5 := .int .i64 (n2 : Int)) (x6 := .int .i64 (n3 : Int)) b3_0.out
   have r0 := celR 0 hst
   have r1 := celR 1 hst
   have r2 := celR 2 hst
   have r3 := celR 3 hst
   have r4 := celR 4 hst
   have r5 := celR 5 hst
   have r6 := celR 6 hst
   clear hst
   exact bodyPost_ret (v := .tuple #[.agg #[.int .i64 a, .int .i64 b, .int .i64 c, .int .i64 d, .int .i64 l, .int .i64 (n2 : Int), .int .i64 (n3 : Int)], .bool false]) (by simp [results, Tryz.results88, go_sem, r0, r1, r2, r3, r4, r5, r6]) rfl (⟨a, b, c, d, l, true, HP.out, by rw [← HN2.out, ← HN3.out, ← HBB2.out, ← HBB3.out]; rfl, (Below.setCell (p := ⟨w.heap.size, 6, none⟩) (Below.setCell (p := ⟨w.heap.size, 5, none⟩) (Below.setCell (p := ⟨w.heap.size, 4, none⟩) (Below.setCell (p := ⟨w.heap.size, 3, none⟩) (Below.setCell (p := ⟨w.heap.size, 2, none⟩) (Below.setCell (p := ⟨w.heap.size, 1, none⟩) (Below.setCell (p := ⟨w.heap.size, 0, none⟩) HX3.out (Nat.le_refl _) _) (Nat.le_refl _) _) (Nat.le_refl _) _) (Nat.le_refl _) _) (Nat.le_refl _) _) (Nat.le_refl _) _) (Nat.le_refl _) _)⟩)
 go_wp2_with fail
 have hst := set_7 (x0 := .int .i64 a) (x1 := .int .i64 b) (x2 := .int .i64 c) (x3 := .int .i64 d) (x4 := .int .i64 l) (x5 := .int .i64 (n2 : Int)) (x6 := .int .i64 (n3 : Int)) b3_0.out
 have r0 := celR 0 hst
 have r1 := celR 1 hst
 have r2 := celR 2 hst
 have r3 := celR 3 hst
 have r4 := celR 4 hst
 have r5 := celR 5 hst
 have r6 := celR 6 hst
 clear hst
 exact bodyPost_ret (v := .tuple #[.agg #[.int .i64 a, .int .i64 b, .int .i64 c, .int .i64 d, .int .i64 l, .int .i64 (n2 : Int), .int .i64 (n3 : Int)], .bool true]) (by simp [results, Tryz.results88, go_sem, r0, r1, r2, r3, r4, r5, r6]) rfl (⟨a, b, c, d, l, true, HP.out, by rw [← HN2.out, ← HN3.out, ← HBB2.out, ← HBB3.out]; rfl, (Below.setCell (p := ⟨w.heap.size, 6, none⟩) (Below.setCell (p := ⟨w.heap.size, 5, none⟩) (Below.setCell (p := ⟨w.heap.size, 4, none⟩) (Below.setCell (p := ⟨w.heap.size, 3, none⟩) (Below.setCell (p := ⟨w.heap.size, 2, none⟩) (Below.setCell (p := ⟨w.heap.size, 1, none⟩) (Below.setCell (p := ⟨w.heap.size, 0, none⟩) HX3.out (Nat.le_refl _) _) (Nat.le_refl _) _) (Nat.le_refl _) _) (Nat.le_refl _) _) (Nat.le_refl _) _) (Nat.le_refl _) _) (Nat.le_refl _) _)⟩)
end Go.Proofs.YtjnhiiaejeaikaaGreatDoor
