/- FnExactIntentGet: the walk. Condition: the variables that the library reads lie as the row says. -/
import Derived.Test.YtkmkmndcgemnlaaGreatDoorIntGet
import Derived.Test.YtkmkmndcgemnlaaGreatDoorFamIEq
namespace Go.Proofs.YtkmkmndcgemnlaaGreatDoor
set_option linter.unusedSimpArgs false
set_option linter.unnecessarySimpa false
open Go Go.Lib Go.RowKit
set_option linter.unusedVariables false

set_option maxRecDepth 100000 in
set_option maxHeartbeats 2000000 in
theorem fnExactIntentGet_walk (s : ByteArray) (w : World) (he : Env w) (hs : s.size ≤ maxLen) :
    Calls Tryz.prog 4 #[.string s] w fun e w' => e = .returned (.bool true) ∧ Below w.heap.size w w' := by
  obtain ⟨z, rfl⟩ : ∃ z : Str, s = strB z := ⟨s.data.toList, (strB_data s).symm⟩
  have hl : Hid ((strB z).size = z.length) := Lib.hid rfl
  go_enter Tryz.func4, Tryz.ntmps4
  by_cases hb : 1048576 < z.length
  · have h0 : (1048576 : Int) < ((strB z).size : Int) := by rw [hl.out]; omega
    go_wp2_with fail
    go_ret
    exact ⟨rfl, Below.refl _ _⟩
  have h0 : ¬ (1048576 : Int) < ((strB z).size : Int) := by rw [hl.out]; omega
  have h1 : ((strB z).size : Int) ≤ 1048576 := by rw [hl.out]; omega
  go_wp2_with fail
  refine (spIntGet_any z _ (by omega)).mono ?_
  rintro e w1 ⟨g, q, h, k, p, t, a, x, ok, rfl, R1, hb1⟩
  have H1 := Lib.hid R1; clear R1
  go_wp2_with fail
  refine (intGet_any z _ (he.below (Below.alloc hb1 (by first | exact hb1.size | (simp [World.setCell] <;> omega)) _)) (by omega)).mono ?_
  rintro e w2 ⟨g', q', h', k', p', t', a', x', ok', rfl, R2, hb2⟩
  obtain ⟨ho, rfl⟩ := intIs_one H1.out R2
  obtain ⟨rfl, rfl, rfl, rfl, rfl, rfl, rfl, rfl⟩ : g = g' ∧ q = q' ∧ h = h' ∧ k = k' ∧ p = p' ∧ t = t' ∧ a = a' ∧ x = x' := by simpa only [Prod.mk.injEq] using ho
  obtain ⟨hlh, hlp, hlt, hlx⟩ := intIs_len H1.out
  clear R2 H1 ho
  have l1 : w1.heap.size < w2.heap.size := by have := hb2.size; simp at this; omega
  have qq0 : w2.cell? ⟨w1.heap.size, 0, none⟩ = some (.int .i64 g) := (hb2.cell (by simp)).trans (by simp [go_sem])
  have qq1 : w2.cell? ⟨w1.heap.size, 1, none⟩ = some (.int .i64 q) := (hb2.cell (by simp)).trans (by simp [go_sem])
  have qq2 : w2.cell? ⟨w1.heap.size, 2, none⟩ = some (.string (strB h)) := (hb2.cell (by simp)).trans (by simp [go_sem])
  have qq3 : w2.cell? ⟨w1.heap.size, 3, none⟩ = some (.int .i64 k) := (hb2.cell (by simp)).trans (by simp [go_sem])
  have qq4 : w2.cell? ⟨w1.heap.size, 4, none⟩ = some (.string (strB p)) := (hb2.cell (by simp)).trans (by simp [go_sem])
  have qq5 : w2.cell? ⟨w1.heap.size, 5, none⟩ = some (.string (strB t)) := (hb2.cell (by simp)).trans (by simp [go_sem])
  have qq6 : w2.cell? ⟨w1.heap.size, 6, none⟩ = some (.int .i64 a) := (hb2.cell (by simp)).trans (by simp [go_sem])
  have qq7 : w2.cell? ⟨w1.heap.size, 7, none⟩ = some (.string (strB x)) := (hb2.cell (by simp)).trans (by simp [go_sem])
  have H2 : Below w.heap.size w w2 := (Below.alloc hb1 (by exact hb1.size) _).trans (hb2.mono (by have := hb1.size; simp; omega))
  clear hb2
  have R : ∀ ww : World, IntentR ww 0 0 [.int .i64 g, .int .i64 q, .string (strB h), .int .i64 k, .string (strB p), .string (strB t), .int .i64 a, .string (strB x)] (g, q, strB h, k, strB p, strB t, a, strB x) := fun _ => ⟨rfl, by rw [strB_size]; unfold maxLen; omega, by rw [strB_size]; unfold maxLen; omega, by rw [strB_size]; unfold maxLen; omega, by rw [strB_size]; unfold maxLen; omega⟩
  have HR := Lib.hid R; clear R
  go_wp2_with fail
  refine (eqIntent_yes _ _ _ _ _ _ _ _ (HR.out _) (HR.out _)).mono ?_
  rintro e w3 ⟨rfl, hb3⟩
  go_wp2_with fail
  cases ok <;> go_wp2_with fail
  all_goals (go_ret; exact ⟨rfl, (Below.alloc H2 (by exact H2.size) _).trans (hb3.mono (by have := H2.size; simp; omega))⟩)
end Go.Proofs.YtkmkmndcgemnlaaGreatDoor
