/- FnExactTreeText: the walk. Condition: the table of powers of ten lies as its initialiser lays it. -/
import Derived.Test.YtkaonhjfgnibeaaDoorTreeText
namespace Go.Proofs.YtkaonhjfgnibeaaDoor
set_option linter.unusedVariables false
set_option linter.unusedSimpArgs false
set_option linter.unnecessarySimpa false
open Go Go.Lib Go.RowKit

theorem TextR_def (t : Str) (w : World) : TextR t w = fun e w' => e = .returned (.string (strB t)) ∧ Below w.heap.size w w' := rfl
set_option maxRecDepth 100000 in
set_option maxHeartbeats 2000000 in
theorem fnExactTreeText_flat (a b s m l d n : Int) (w : World) (ht : Tab w) : Calls Tryd.prog 4 #[treeV a b s m l d n] w fun e w' => e = .returned (.bool true) ∧ Below w.heap.size w w' := by
  have hself : ∀ s : ByteArray, (s.toList == s.toList) = true := fun s => by simp
  show Calls Tryd.prog 4 #[.agg #[.int .i64 a, .int .i64 b, .int .i64 s, .int .i64 m, .int .i64 l, .int .i64 d, .int .i64 n]] w _
  go_enter Tryd.func4, Tryd.ntmps4
  go_wp2_with fail
  refine (toTree_any a b s m l d n _).mono ?_
  rintro e w1 ⟨rfl, hb1⟩
  have H1 := bel1.trans (hb1.mono (by simp))
  have c1_0 : w1.cell? ⟨w.heap.size, 0, none⟩ = some (.int .i64 a) := (hb1.cell (by simp)).trans (by simp [go_sem])
  have c1_1 : w1.cell? ⟨w.heap.size, 1, none⟩ = some (.int .i64 b) := (hb1.cell (by simp)).trans (by simp [go_sem])
  have c1_2 : w1.cell? ⟨w.heap.size, 2, none⟩ = some (.int .i64 s) := (hb1.cell (by simp)).trans (by simp [go_sem])
  have c1_3 : w1.cell? ⟨w.heap.size, 3, none⟩ = some (.int .i64 m) := (hb1.cell (by simp)).trans (by simp [go_sem])
  have c1_4 : w1.cell? ⟨w.heap.size, 4, none⟩ = some (.int .i64 l) := (hb1.cell (by simp)).trans (by simp [go_sem])
  have c1_5 : w1.cell? ⟨w.heap.size, 5, none⟩ = some (.int .i64 d) := (hb1.cell (by simp)).trans (by simp [go_sem])
  have c1_6 : w1.cell? ⟨w.heap.size, 6, none⟩ = some (.int .i64 n) := (hb1.cell (by simp)).trans (by simp [go_sem])
  have l1 : w.heap.size < w1.heap.size := World.block_lt_of_cell? w1 _ c1_0
  clear hb1
  go_wp2_with fail
  refine (spTreeText_any a b s m l d n _).mono ?_
  obtain ⟨X, hX⟩ : ∃ X, X = strB (treeTextS a b s m l d n) := ⟨_, rfl⟩
  rw [TextR_def, ← hX]
  rintro e w2 ⟨rfl, hb2⟩
  have H2 := H1.trans (hb2.mono H1.size)
  have c2_0 : w2.cell? ⟨w.heap.size, 0, none⟩ = some (.int .i64 a) := (hb2.cell l1).trans c1_0
  have c2_1 : w2.cell? ⟨w.heap.size, 1, none⟩ = some (.int .i64 b) := (hb2.cell l1).trans c1_1
  have c2_2 : w2.cell? ⟨w.heap.size, 2, none⟩ = some (.int .i64 s) := (hb2.cell l1).trans c1_2
  have c2_3 : w2.cell? ⟨w.heap.size, 3, none⟩ = some (.int .i64 m) := (hb2.cell l1).trans c1_3
  have c2_4 : w2.cell? ⟨w.heap.size, 4, none⟩ = some (.int .i64 l) := (hb2.cell l1).trans c1_4
  have c2_5 : w2.cell? ⟨w.heap.size, 5, none⟩ = some (.int .i64 d) := (hb2.cell l1).trans c1_5
  have c2_6 : w2.cell? ⟨w.heap.size, 6, none⟩ = some (.int .i64 n) := (hb2.cell l1).trans c1_6
  have HX := Lib.hid hX
  clear hb2 hX l1 c1_0 c1_1 c1_2 c1_3 c1_4 c1_5 c1_6
  go_wp2_with fail
  refine (toTree_any a b s m l d n _).mono ?_
  rintro e w3 ⟨rfl, hb3⟩
  have H3 := H2.trans (hb3.mono H2.size)
  clear hb3 c2_0 c2_1 c2_2 c2_3 c2_4 c2_5 c2_6
  go_wp2_with fail
  refine (treeText_any a b s m l d n _ (ht.below H3)).mono ?_
  rw [TextR_def, ← HX.out]
  rintro e w4 ⟨rfl, hb4⟩
  have H4 := H3.trans (hb4.mono H3.size)
  clear hb4 H3 H2 H1
  go_wp2_with fail
  go_ret
  exact ⟨rfl, H4⟩
theorem fnExactTreeText_walk (l : List Value) (x : TreeD) (w : World) (ht : Tab w) (h : TreeR w 0 w.heap.size l x) :
    Calls Tryd.prog 4 #[.agg l.toArray] w fun e w' => e = .returned (.bool true) ∧ Below w.heap.size w w' := by
  obtain ⟨⟨a, b, s, m, l⟩, d, n⟩ := x
  obtain rfl := h
  exact fnExactTreeText_flat a b s m l d n w ht
end Go.Proofs.YtkaonhjfgnibeaaDoor
