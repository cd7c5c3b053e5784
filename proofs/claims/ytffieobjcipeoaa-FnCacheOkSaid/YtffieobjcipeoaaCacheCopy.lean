/- Copies of the reference's caches. No condition but lengths. -/
import Derived.Test.YtffieobjcipeoaaCacheAsk2
namespace Go.Proofs.Ytffieobjcipeoaa
set_option linter.unnecessarySimpa false
open Go.RowKit
set_option linter.unusedVariables false
set_option linter.unusedSimpArgs false

/-- A list of the call's own, in blocks from lo on below hi. -/
def OL (w : World) (lo hi : Nat) (A : Option Addr) (n c : Nat) (xs : List Int) : Prop := ∃ S : List Nat, OwnA w 3 1 S A n c (xs.map (Value.int .i64)) ∧ (∀ g ∈ S, lo ≤ g ∧ g < hi) ∧ xs.length = n
section
variable {w w' : World} {lo hi lo' hi' : Nat} {A : Option Addr} {n c : Nat} {xs : List Int}
theorem OL.keep (h : OL w lo hi A n c xs) (hk : ∀ b, lo ≤ b → b < hi → w'.heap[b]? = w.heap[b]?) : OL w' lo hi A n c xs := by
  obtain ⟨S, h1, h2, h3⟩ := h
  exact ⟨S, h1.keep (fun g hg => hk g (h2 g hg).1 (h2 g hg).2), h2, h3⟩
theorem OL.below (h : OL w lo hi A n c xs) (hb : Below w.heap.size w w') : OL w' lo hi A n c xs := by
  obtain ⟨S, h1, h2, h3⟩ := h
  exact ⟨S, h1.below hb, h2, h3⟩
theorem OL.wide (h : OL w lo hi A n c xs) (b1 : lo' ≤ lo) (b2 : hi ≤ hi') : OL w lo' hi' A n c xs := by
  obtain ⟨S, h1, h2, h3⟩ := h
  exact ⟨S, h1, fun g hg => ⟨by have := (h2 g hg).1; omega, by have := (h2 g hg).2; omega⟩, h3⟩
theorem OL.slice (h : OL w lo hi A n c xs) (hh : hi ≤ w.heap.size) : SliceR IntR 1 w lo hi A n c xs := by
  obtain ⟨S, h1, h2, h3⟩ := h
  exact (OwnA.slice h1 h3 (RowV_ints xs) h2 hh).1
end
def CopyC (ro go : Int) (n0 n1 n2 n3 : Nat) (x0 x1 x2 x3 : List Int) (w : World) (e : Ending) (w' : World) : Prop :=
  ∃ (C0 : Option Addr) (e0 : Nat) (C1 : Option Addr) (e1 : Nat) (C2 : Option Addr) (e2 : Nat) (C3 : Option Addr) (e3 : Nat) (B1 B2 B3 : Nat),
    e = .returned (.agg #[.int .i64 ro, .int .i64 go, .slice C0 n0 e0, .slice C1 n1 e1, .slice C2 n2 e2, .slice C3 n3 e3]) ∧ OL w' (w.heap.size + 2) B1 C0 n0 e0 x0 ∧ OL w' B1 B2 C1 n1 e1 x1 ∧ OL w' B2 B3 C2 n2 e2 x2 ∧ OL w' B3 w'.heap.size C3 n3 e3 x3 ∧ w.heap.size + 2 ≤ B1 ∧ B1 ≤ B2 ∧ B2 ≤ B3 ∧ B3 ≤ w'.heap.size ∧ Below w.heap.size w w'
set_option maxRecDepth 100000 in
set_option maxHeartbeats 4000000 in
theorem l27Copy_any (ro go : Int) (A0 : Option Addr) (n0 c0 : Nat) (x0 : List Int) (A1 : Option Addr) (n1 c1 : Nat) (x1 : List Int) (A2 : Option Addr) (n2 c2 : Nat) (x2 : List Int) (A3 : Option Addr) (n3 c3 : Nat) (x3 : List Int) (w : World)
    (h0 : IL w A0 n0 c0 x0) (h1 : IL w A1 n1 c1 x1) (h2 : IL w A2 n2 c2 x2) (h3 : IL w A3 n3 c3 x3) (l0 : n0 ≤ 1000) (l1 : n1 ≤ 1000) (l2 : n2 ≤ 1000) (l3 : n3 ≤ 1000) :
    Calls Try.prog 118 #[.agg #[.int .i64 ro, .int .i64 go, .slice A0 n0 c0, .slice A1 n1 c1, .slice A2 n2 c2, .slice A3 n3 c3]] w (CopyC ro go n0 n1 n2 n3 x0 x1 x2 x3 w) := by
  obtain ⟨i0, hi, hz0, hz1, hz2⟩ := info_parts info_int
  have H0 := Lib.hid h0; have H1 := Lib.hid h1; have H2 := Lib.hid h2; have H3 := Lib.hid h3
  clear h0 h1 h2 h3
  go_enter Try.func118, Try.ntmps118
  have HR : Hid (RowAt ((World.alloc (World.alloc (World.alloc w (.cells #[.int .i64 ro, .int .i64 go, .slice A0 n0 c0, .slice A1 n1 c1, .slice A2 n2 c2, .slice A3 n3 c3] 57)) (.cells #[.int .i64 0, .int .i64 0, .slice none 0 0, .slice none 0 0, .slice none 0 0, .slice none 0 0] 57)) (.cells #[] 3))) A0 (n0 * 1) (x0.map (Value.int .i64))) := Lib.hid ((H0.out.below (Below.alloc (Below.alloc (Below.alloc (Below.refl _ _) (by first | exact Nat.le_refl _ | (simp [World.setCell] <;> omega)) _) (by first | exact Nat.le_refl _ | (simp [World.setCell] <;> omega)) _) (by first | exact Nat.le_refl _ | (simp [World.setCell] <;> omega)) _)).ints.row)
  have HO : Hid (∀ u ∈ x0.map (Value.int .i64), u.oneCell' = true) := Lib.hid (ints_one _)
  go_wp2_with (at_builtin; go_must (refine wpList_append_row rfl _ _ 25 rfl 3 i0 (.int .i64 0) 1 8 Try.underlying25 hi hz0 hz1 hz2 rfl (by decide) [] (some ⟨w.heap.size + 1 + 1, 0, none⟩) A0 0 0 n0 c0 [] (x0.map (Value.int .i64)) rfl rfl (OwnA.nil _) HR.out HO.out (by unfold maxLen; omega) (by omega) ?_))
  intro C0 e0 S_ w1 hO' hS' hC'
  have hb1 : Below ((World.alloc (World.alloc (World.alloc w (.cells #[.int .i64 ro, .int .i64 go, .slice A0 n0 c0, .slice A1 n1 c1, .slice A2 n2 c2, .slice A3 n3 c3] 57)) (.cells #[.int .i64 0, .int .i64 0, .slice none 0 0, .slice none 0 0, .slice none 0 0, .slice none 0 0] 57)) (.cells #[] 3))).heap.size ((World.alloc (World.alloc (World.alloc w (.cells #[.int .i64 ro, .int .i64 go, .slice A0 n0 c0, .slice A1 n1 c1, .slice A2 n2 c2, .slice A3 n3 c3] 57)) (.cells #[.int .i64 0, .int .i64 0, .slice none 0 0, .slice none 0 0, .slice none 0 0, .slice none 0 0] 57)) (.cells #[] 3))) w1 := hC'.below (fun k _ hk => by simp at hk) (Nat.le_refl _)
  try simp only [Nat.zero_add, List.nil_append] at hO'
  have hOL : OL w1 (w.heap.size + 2) w1.heap.size C0 n0 e0 x0 := ⟨S_, hO', fun g hg => ⟨by have h_ := hS' g hg; first | omega | (simp [World.setCell] at h_; omega), hO'.lt g hg⟩, H0.out.len⟩
  clear hO' hS' hC' HR HO
  have zz1 : w.heap.size + 3 ≤ w1.heap.size := by have := hb1.size; simp [World.setCell] at this; omega
  have YY1 : Below w.heap.size w (World.alloc (World.alloc (World.alloc w (.cells #[.int .i64 ro, .int .i64 go, .slice A0 n0 c0, .slice A1 n1 c1, .slice A2 n2 c2, .slice A3 n3 c3] 57)) (.cells #[.int .i64 0, .int .i64 0, .slice none 0 0, .slice none 0 0, .slice none 0 0, .slice none 0 0] 57)) (.cells #[] 3)) := (Below.alloc (Below.alloc (Below.alloc (Below.refl _ _) (by first | exact Nat.le_refl _ | (simp [World.setCell] <;> omega)) _) (by first | exact Nat.le_refl _ | (simp [World.setCell] <;> omega)) _) (by first | exact Nat.le_refl _ | (simp [World.setCell] <;> omega)) _)
  have X1 : Below w.heap.size w w1 := YY1.trans (hb1.mono YY1.size)
  clear YY1
  have b1_0 : Hid (w1.heap[w.heap.size]? = some (.cells #[.int .i64 ro, .int .i64 go, .slice A0 n0 c0, .slice A1 n1 c1, .slice A2 n2 c2, .slice A3 n3 c3] 57 (0, 0))) := Lib.hid ((hb1.block _ (by first | omega | (simp [World.setCell] <;> omega))).trans ((Below.heap_alloc _ _ _ (by first | omega | (simp [World.setCell] <;> omega))).trans ((Below.heap_alloc _ _ _ (by first | omega | (simp [World.setCell] <;> omega))).trans (show _ from by have := heap_alloc_new w (.cells #[.int .i64 ro, .int .i64 go, .slice A0 n0 c0, .slice A1 n1 c1, .slice A2 n2 c2, .slice A3 n3 c3] 57); simpa [World.setCell] using this))))
  have b1_1 : Hid (w1.heap[w.heap.size + 1]? = some (.cells #[.int .i64 0, .int .i64 0, .slice none 0 0, .slice none 0 0, .slice none 0 0, .slice none 0 0] 57 (0, 0))) := Lib.hid ((hb1.block _ (by first | omega | (simp [World.setCell] <;> omega))).trans ((Below.heap_alloc _ _ _ (by first | omega | (simp [World.setCell] <;> omega))).trans (show _ from by have := heap_alloc_new (World.alloc w (.cells #[.int .i64 ro, .int .i64 go, .slice A0 n0 c0, .slice A1 n1 c1, .slice A2 n2 c2, .slice A3 n3 c3] 57)) (.cells #[.int .i64 0, .int .i64 0, .slice none 0 0, .slice none 0 0, .slice none 0 0, .slice none 0 0] 57); simpa [World.setCell] using this)))
  have b1_2 : Hid (w1.heap[w.heap.size + 1 + 1]? = some (.cells #[] 3 (0, 0))) := Lib.hid ((hb1.block _ (by first | omega | (simp [World.setCell] <;> omega))).trans (show _ from by have := heap_alloc_new (World.alloc (World.alloc w (.cells #[.int .i64 ro, .int .i64 go, .slice A0 n0 c0, .slice A1 n1 c1, .slice A2 n2 c2, .slice A3 n3 c3] 57)) (.cells #[.int .i64 0, .int .i64 0, .slice none 0 0, .slice none 0 0, .slice none 0 0, .slice none 0 0] 57)) (.cells #[] 3); simpa [World.setCell] using this))
  clear hb1
  have l1_0 : w.heap.size < w1.heap.size := (Array.getElem?_eq_some_iff.1 b1_0.out).1
  have c1_0_0 : w1.cell? ⟨w.heap.size, 0, none⟩ = some (.int .i64 ro) := cell_of_row _ _ 0 _ _ (0, 0) b1_0.out
  have f1_0_0 : w1.frozen? ⟨w.heap.size, 0, none⟩ = false := block_free b1_0.out _
  have c1_0_1 : w1.cell? ⟨w.heap.size, 1, none⟩ = some (.int .i64 go) := cell_of_row _ _ 1 _ _ (0, 0) b1_0.out
  have f1_0_1 : w1.frozen? ⟨w.heap.size, 1, none⟩ = false := block_free b1_0.out _
  have c1_0_2 : w1.cell? ⟨w.heap.size, 2, none⟩ = some (.slice A0 n0 c0) := cell_of_row _ _ 2 _ _ (0, 0) b1_0.out
  have f1_0_2 : w1.frozen? ⟨w.heap.size, 2, none⟩ = false := block_free b1_0.out _
  have c1_0_3 : w1.cell? ⟨w.heap.size, 3, none⟩ = some (.slice A1 n1 c1) := cell_of_row _ _ 3 _ _ (0, 0) b1_0.out
  have f1_0_3 : w1.frozen? ⟨w.heap.size, 3, none⟩ = false := block_free b1_0.out _
  have c1_0_4 : w1.cell? ⟨w.heap.size, 4, none⟩ = some (.slice A2 n2 c2) := cell_of_row _ _ 4 _ _ (0, 0) b1_0.out
  have f1_0_4 : w1.frozen? ⟨w.heap.size, 4, none⟩ = false := block_free b1_0.out _
  have c1_0_5 : w1.cell? ⟨w.heap.size, 5, none⟩ = some (.slice A3 n3 c3) := cell_of_row _ _ 5 _ _ (0, 0) b1_0.out
  have f1_0_5 : w1.frozen? ⟨w.heap.size, 5, none⟩ = false := block_free b1_0.out _
  have l1_1 : w.heap.size + 1 < w1.heap.size := (Array.getElem?_eq_some_iff.1 b1_1.out).1
  have c1_1_0 : w1.cell? ⟨w.heap.size + 1, 0, none⟩ = some (.int .i64 0) := cell_of_row _ _ 0 _ _ (0, 0) b1_1.out
  have f1_1_0 : w1.frozen? ⟨w.heap.size + 1, 0, none⟩ = false := block_free b1_1.out _
  have c1_1_1 : w1.cell? ⟨w.heap.size + 1, 1, none⟩ = some (.int .i64 0) := cell_of_row _ _ 1 _ _ (0, 0) b1_1.out
  have f1_1_1 : w1.frozen? ⟨w.heap.size + 1, 1, none⟩ = false := block_free b1_1.out _
  have c1_1_2 : w1.cell? ⟨w.heap.size + 1, 2, none⟩ = some (.slice none 0 0) := cell_of_row _ _ 2 _ _ (0, 0) b1_1.out
  have f1_1_2 : w1.frozen? ⟨w.heap.size + 1, 2, none⟩ = false := block_free b1_1.out _
  have c1_1_3 : w1.cell? ⟨w.heap.size + 1, 3, none⟩ = some (.slice none 0 0) := cell_of_row _ _ 3 _ _ (0, 0) b1_1.out
  have f1_1_3 : w1.frozen? ⟨w.heap.size + 1, 3, none⟩ = false := block_free b1_1.out _
  have c1_1_4 : w1.cell? ⟨w.heap.size + 1, 4, none⟩ = some (.slice none 0 0) := cell_of_row _ _ 4 _ _ (0, 0) b1_1.out
  have f1_1_4 : w1.frozen? ⟨w.heap.size + 1, 4, none⟩ = false := block_free b1_1.out _
  have c1_1_5 : w1.cell? ⟨w.heap.size + 1, 5, none⟩ = some (.slice none 0 0) := cell_of_row _ _ 5 _ _ (0, 0) b1_1.out
  have f1_1_5 : w1.frozen? ⟨w.heap.size + 1, 5, none⟩ = false := block_free b1_1.out _
  have l1_2 : w.heap.size + 1 + 1 < w1.heap.size := (Array.getElem?_eq_some_iff.1 b1_2.out).1
  obtain ⟨B1, hB1⟩ : ∃ B, B = w1.heap.size := ⟨_, rfl⟩
  have F_0_1 : Hid (OL w1 (w.heap.size + 2) B1 C0 n0 e0 x0) := Lib.hid (by rw [hB1]; exact hOL)
  have hBb1 : (w.heap.size + 2) ≤ B1 := by omega
  have hB1w1 : B1 ≤ w1.heap.size := by omega
  have HBB1 := Lib.hid hB1; clear hB1 hOL
  have HR : Hid (RowAt ((World.alloc (World.setCell w1 ⟨w.heap.size, 2, none⟩ (.slice C0 n0 e0)) (.cells #[] 3))) A1 (n1 * 1) (x1.map (Value.int .i64))) := Lib.hid ((H1.out.below (Below.alloc (Below.setCell (p := ⟨w.heap.size, 2, none⟩) X1 (by have := X1.size; simp <;> omega) _) (by have := X1.size; simp [World.setCell] <;> omega) _)).ints.row)
  have HO : Hid (∀ u ∈ x1.map (Value.int .i64), u.oneCell' = true) := Lib.hid (ints_one _)
  go_wp2_with (at_builtin; go_must (refine wpList_append_row rfl _ _ 25 rfl 3 i0 (.int .i64 0) 1 8 Try.underlying25 hi hz0 hz1 hz2 rfl (by decide) [] (some ⟨w1.heap.size, 0, none⟩) A1 0 0 n1 c1 [] (x1.map (Value.int .i64)) rfl rfl (OwnA.nil _) HR.out HO.out (by unfold maxLen; omega) (by omega) ?_))
  intro C1 e1 S_ w2 hO' hS' hC'
  have hb2 : Below ((World.alloc (World.setCell w1 ⟨w.heap.size, 2, none⟩ (.slice C0 n0 e0)) (.cells #[] 3))).heap.size ((World.alloc (World.setCell w1 ⟨w.heap.size, 2, none⟩ (.slice C0 n0 e0)) (.cells #[] 3))) w2 := hC'.below (fun k _ hk => by simp at hk) (Nat.le_refl _)
  try simp only [Nat.zero_add, List.nil_append] at hO'
  have hOL : OL w2 B1 w2.heap.size C1 n1 e1 x1 := ⟨S_, hO', fun g hg => ⟨by have h_ := hS' g hg; first | omega | (simp [World.setCell] at h_; omega), hO'.lt g hg⟩, H1.out.len⟩
  have F_0_2 := Lib.hid (F_0_1.out.keep (w' := w2) (fun b b1 b2 => (hb2.block _ (by first | omega | (simp [World.setCell] <;> omega))).trans ((Below.heap_alloc _ _ _ (by first | omega | (simp [World.setCell] <;> omega))).trans ((heap_far (by first | omega | (simp <;> omega))).trans (rfl)))))
  clear F_0_1
  clear hO' hS' hC' HR HO
  have zz2 : w1.heap.size + 1 ≤ w2.heap.size := by have := hb2.size; simp [World.setCell] at this; omega
  have YY2 : Below w.heap.size w (World.alloc (World.setCell w1 ⟨w.heap.size, 2, none⟩ (.slice C0 n0 e0)) (.cells #[] 3)) := (Below.alloc (Below.setCell (p := ⟨w.heap.size, 2, none⟩) X1 (by have := X1.size; simp <;> omega) _) (by have := X1.size; simp [World.setCell] <;> omega) _)
  have X2 : Below w.heap.size w w2 := YY2.trans (hb2.mono YY2.size)
  clear YY2
  have b2_0 : Hid (w2.heap[w.heap.size]? = some (.cells #[.int .i64 ro, .int .i64 go, .slice C0 n0 e0, .slice A1 n1 c1, .slice A2 n2 c2, .slice A3 n3 c3] 57 (0, 0))) := Lib.hid ((hb2.block _ (by first | omega | (simp [World.setCell] <;> omega))).trans ((Below.heap_alloc _ _ _ (by first | omega | (simp [World.setCell] <;> omega))).trans (block_set b1_0.out)))
  have b2_1 : Hid (w2.heap[w.heap.size + 1]? = some (.cells #[.int .i64 0, .int .i64 0, .slice none 0 0, .slice none 0 0, .slice none 0 0, .slice none 0 0] 57 (0, 0))) := Lib.hid ((hb2.block _ (by first | omega | (simp [World.setCell] <;> omega))).trans ((Below.heap_alloc _ _ _ (by first | omega | (simp [World.setCell] <;> omega))).trans ((heap_far (by first | omega | (simp <;> omega))).trans b1_1.out)))
  have b2_2 : Hid (w2.heap[w.heap.size + 1 + 1]? = some (.cells #[] 3 (0, 0))) := Lib.hid ((hb2.block _ (by first | omega | (simp [World.setCell] <;> omega))).trans ((Below.heap_alloc _ _ _ (by first | omega | (simp [World.setCell] <;> omega))).trans ((heap_far (by first | omega | (simp <;> omega))).trans b1_2.out)))
  have b2_3 : Hid (w2.heap[w1.heap.size]? = some (.cells #[] 3 (0, 0))) := Lib.hid ((hb2.block _ (by first | omega | (simp [World.setCell] <;> omega))).trans (show _ from by have := heap_alloc_new (World.setCell w1 ⟨w.heap.size, 2, none⟩ (.slice C0 n0 e0)) (.cells #[] 3); simpa [World.setCell] using this))
  clear b1_0 b1_1 b1_2 X1 zz1 l1_0 c1_0_0 f1_0_0 c1_0_1 f1_0_1 c1_0_2 f1_0_2 c1_0_3 f1_0_3 c1_0_4 f1_0_4 c1_0_5 f1_0_5 l1_1 c1_1_0 f1_1_0 c1_1_1 f1_1_1 c1_1_2 f1_1_2 c1_1_3 f1_1_3 c1_1_4 f1_1_4 c1_1_5 f1_1_5 l1_2 hb2
  have l2_0 : w.heap.size < w2.heap.size := (Array.getElem?_eq_some_iff.1 b2_0.out).1
  have c2_0_0 : w2.cell? ⟨w.heap.size, 0, none⟩ = some (.int .i64 ro) := cell_of_row _ _ 0 _ _ (0, 0) b2_0.out
  have f2_0_0 : w2.frozen? ⟨w.heap.size, 0, none⟩ = false := block_free b2_0.out _
  have c2_0_1 : w2.cell? ⟨w.heap.size, 1, none⟩ = some (.int .i64 go) := cell_of_row _ _ 1 _ _ (0, 0) b2_0.out
  have f2_0_1 : w2.frozen? ⟨w.heap.size, 1, none⟩ = false := block_free b2_0.out _
  have c2_0_2 : w2.cell? ⟨w.heap.size, 2, none⟩ = some (.slice C0 n0 e0) := cell_of_row _ _ 2 _ _ (0, 0) b2_0.out
  have f2_0_2 : w2.frozen? ⟨w.heap.size, 2, none⟩ = false := block_free b2_0.out _
  have c2_0_3 : w2.cell? ⟨w.heap.size, 3, none⟩ = some (.slice A1 n1 c1) := cell_of_row _ _ 3 _ _ (0, 0) b2_0.out
  have f2_0_3 : w2.frozen? ⟨w.heap.size, 3, none⟩ = false := block_free b2_0.out _
  have c2_0_4 : w2.cell? ⟨w.heap.size, 4, none⟩ = some (.slice A2 n2 c2) := cell_of_row _ _ 4 _ _ (0, 0) b2_0.out
  have f2_0_4 : w2.frozen? ⟨w.heap.size, 4, none⟩ = false := block_free b2_0.out _
  have c2_0_5 : w2.cell? ⟨w.heap.size, 5, none⟩ = some (.slice A3 n3 c3) := cell_of_row _ _ 5 _ _ (0, 0) b2_0.out
  have f2_0_5 : w2.frozen? ⟨w.heap.size, 5, none⟩ = false := block_free b2_0.out _
  have l2_1 : w.heap.size + 1 < w2.heap.size := (Array.getElem?_eq_some_iff.1 b2_1.out).1
  have c2_1_0 : w2.cell? ⟨w.heap.size + 1, 0, none⟩ = some (.int .i64 0) := cell_of_row _ _ 0 _ _ (0, 0) b2_1.out
  have f2_1_0 : w2.frozen? ⟨w.heap.size + 1, 0, none⟩ = false := block_free b2_1.out _
  have c2_1_1 : w2.cell? ⟨w.heap.size + 1, 1, none⟩ = some (.int .i64 0) := cell_of_row _ _ 1 _ _ (0, 0) b2_1.out
  have f2_1_1 : w2.frozen? ⟨w.heap.size + 1, 1, none⟩ = false := block_free b2_1.out _
  have c2_1_2 : w2.cell? ⟨w.heap.size + 1, 2, none⟩ = some (.slice none 0 0) := cell_of_row _ _ 2 _ _ (0, 0) b2_1.out
  have f2_1_2 : w2.frozen? ⟨w.heap.size + 1, 2, none⟩ = false := block_free b2_1.out _
  have c2_1_3 : w2.cell? ⟨w.heap.size + 1, 3, none⟩ = some (.slice none 0 0) := cell_of_row _ _ 3 _ _ (0, 0) b2_1.out
  have f2_1_3 : w2.frozen? ⟨w.heap.size + 1, 3, none⟩ = false := block_free b2_1.out _
  have c2_1_4 : w2.cell? ⟨w.heap.size + 1, 4, none⟩ = some (.slice none 0 0) := cell_of_row _ _ 4 _ _ (0, 0) b2_1.out
  have f2_1_4 : w2.frozen? ⟨w.heap.size + 1, 4, none⟩ = false := block_free b2_1.out _
  have c2_1_5 : w2.cell? ⟨w.heap.size + 1, 5, none⟩ = some (.slice none 0 0) := cell_of_row _ _ 5 _ _ (0, 0) b2_1.out
  have f2_1_5 : w2.frozen? ⟨w.heap.size + 1, 5, none⟩ = false := block_free b2_1.out _
  have l2_2 : w.heap.size + 1 + 1 < w2.heap.size := (Array.getElem?_eq_some_iff.1 b2_2.out).1
  have l2_3 : w1.heap.size < w2.heap.size := (Array.getElem?_eq_some_iff.1 b2_3.out).1
  have hB1w2 : B1 ≤ w2.heap.size := by omega
  obtain ⟨B2, hB2⟩ : ∃ B, B = w2.heap.size := ⟨_, rfl⟩
  have F_1_2 : Hid (OL w2 B1 B2 C1 n1 e1 x1) := Lib.hid (by rw [hB2]; exact hOL)
  have hBb2 : B1 ≤ B2 := by omega
  have hB2w2 : B2 ≤ w2.heap.size := by omega
  have HBB2 := Lib.hid hB2; clear hB2 hOL
  have HR : Hid (RowAt ((World.alloc (World.setCell w2 ⟨w.heap.size, 3, none⟩ (.slice C1 n1 e1)) (.cells #[] 3))) A2 (n2 * 1) (x2.map (Value.int .i64))) := Lib.hid ((H2.out.below (Below.alloc (Below.setCell (p := ⟨w.heap.size, 3, none⟩) X2 (by have := X2.size; simp <;> omega) _) (by have := X2.size; simp [World.setCell] <;> omega) _)).ints.row)
  have HO : Hid (∀ u ∈ x2.map (Value.int .i64), u.oneCell' = true) := Lib.hid (ints_one _)
  go_wp2_with (at_builtin; go_must (refine wpList_append_row rfl _ _ 25 rfl 3 i0 (.int .i64 0) 1 8 Try.underlying25 hi hz0 hz1 hz2 rfl (by decide) [] (some ⟨w2.heap.size, 0, none⟩) A2 0 0 n2 c2 [] (x2.map (Value.int .i64)) rfl rfl (OwnA.nil _) HR.out HO.out (by unfold maxLen; omega) (by omega) ?_))
  intro C2 e2 S_ w3 hO' hS' hC'
  have hb3 : Below ((World.alloc (World.setCell w2 ⟨w.heap.size, 3, none⟩ (.slice C1 n1 e1)) (.cells #[] 3))).heap.size ((World.alloc (World.setCell w2 ⟨w.heap.size, 3, none⟩ (.slice C1 n1 e1)) (.cells #[] 3))) w3 := hC'.below (fun k _ hk => by simp at hk) (Nat.le_refl _)
  try simp only [Nat.zero_add, List.nil_append] at hO'
  have hOL : OL w3 B2 w3.heap.size C2 n2 e2 x2 := ⟨S_, hO', fun g hg => ⟨by have h_ := hS' g hg; first | omega | (simp [World.setCell] at h_; omega), hO'.lt g hg⟩, H2.out.len⟩
  have F_0_3 := Lib.hid (F_0_2.out.keep (w' := w3) (fun b b1 b2 => (hb3.block _ (by first | omega | (simp [World.setCell] <;> omega))).trans ((Below.heap_alloc _ _ _ (by first | omega | (simp [World.setCell] <;> omega))).trans ((heap_far (by first | omega | (simp <;> omega))).trans (rfl)))))
  have F_1_3 := Lib.hid (F_1_2.out.keep (w' := w3) (fun b b1 b2 => (hb3.block _ (by first | omega | (simp [World.setCell] <;> omega))).trans ((Below.heap_alloc _ _ _ (by first | omega | (simp [World.setCell] <;> omega))).trans ((heap_far (by first | omega | (simp <;> omega))).trans (rfl)))))
  clear F_0_2 F_1_2
  clear hO' hS' hC' HR HO
  have zz3 : w2.heap.size + 1 ≤ w3.heap.size := by have := hb3.size; simp [World.setCell] at this; omega
  have YY3 : Below w.heap.size w (World.alloc (World.setCell w2 ⟨w.heap.size, 3, none⟩ (.slice C1 n1 e1)) (.cells #[] 3)) := (Below.alloc (Below.setCell (p := ⟨w.heap.size, 3, none⟩) X2 (by have := X2.size; simp <;> omega) _) (by have := X2.size; simp [World.setCell] <;> omega) _)
  have X3 : Below w.heap.size w w3 := YY3.trans (hb3.mono YY3.size)
  clear YY3
  have b3_0 : Hid (w3.heap[w.heap.size]? = some (.cells #[.int .i64 ro, .int .i64 go, .slice C0 n0 e0, .slice C1 n1 e1, .slice A2 n2 c2, .slice A3 n3 c3] 57 (0, 0))) := Lib.hid ((hb3.block _ (by first | omega | (simp [World.setCell] <;> omega))).trans ((Below.heap_alloc _ _ _ (by first | omega | (simp [World.setCell] <;> omega))).trans (block_set b2_0.out)))
  have b3_1 : Hid (w3.heap[w.heap.size + 1]? = some (.cells #[.int .i64 0, .int .i64 0, .slice none 0 0, .slice none 0 0, .slice none 0 0, .slice none 0 0] 57 (0, 0))) := Lib.hid ((hb3.block _ (by first | omega | (simp [World.setCell] <;> omega))).trans ((Below.heap_alloc _ _ _ (by first | omega | (simp [World.setCell] <;> omega))).trans ((heap_far (by first | omega | (simp <;> omega))).trans b2_1.out)))
  have b3_2 : Hid (w3.heap[w.heap.size + 1 + 1]? = some (.cells #[] 3 (0, 0))) := Lib.hid ((hb3.block _ (by first | omega | (simp [World.setCell] <;> omega))).trans ((Below.heap_alloc _ _ _ (by first | omega | (simp [World.setCell] <;> omega))).trans ((heap_far (by first | omega | (simp <;> omega))).trans b2_2.out)))
  have b3_3 : Hid (w3.heap[w1.heap.size]? = some (.cells #[] 3 (0, 0))) := Lib.hid ((hb3.block _ (by first | omega | (simp [World.setCell] <;> omega))).trans ((Below.heap_alloc _ _ _ (by first | omega | (simp [World.setCell] <;> omega))).trans ((heap_far (by first | omega | (simp <;> omega))).trans b2_3.out)))
  have b3_4 : Hid (w3.heap[w2.heap.size]? = some (.cells #[] 3 (0, 0))) := Lib.hid ((hb3.block _ (by first | omega | (simp [World.setCell] <;> omega))).trans (show _ from by have := heap_alloc_new (World.setCell w2 ⟨w.heap.size, 3, none⟩ (.slice C1 n1 e1)) (.cells #[] 3); simpa [World.setCell] using this))
  clear b2_0 b2_1 b2_2 b2_3 X2 zz2 l2_0 c2_0_0 f2_0_0 c2_0_1 f2_0_1 c2_0_2 f2_0_2 c2_0_3 f2_0_3 c2_0_4 f2_0_4 c2_0_5 f2_0_5 l2_1 c2_1_0 f2_1_0 c2_1_1 f2_1_1 c2_1_2 f2_1_2 c2_1_3 f2_1_3 c2_1_4 f2_1_4 c2_1_5 f2_1_5 l2_2 l2_3 hb3
  have l3_0 : w.heap.size < w3.heap.size := (Array.getElem?_eq_some_iff.1 b3_0.out).1
  have c3_0_0 : w3.cell? ⟨w.heap.size, 0, none⟩ = some (.int .i64 ro) := cell_of_row _ _ 0 _ _ (0, 0) b3_0.out
  have f3_0_0 : w3.frozen? ⟨w.heap.size, 0, none⟩ = false := block_free b3_0.out _
  have c3_0_1 : w3.cell? ⟨w.heap.size, 1, none⟩ = some (.int .i64 go) := cell_of_row _ _ 1 _ _ (0, 0) b3_0.out
  have f3_0_1 : w3.frozen? ⟨w.heap.size, 1, none⟩ = false := block_free b3_0.out _
  have c3_0_2 : w3.cell? ⟨w.heap.size, 2, none⟩ = some (.slice C0 n0 e0) := cell_of_row _ _ 2 _ _ (0, 0) b3_0.out
  have f3_0_2 : w3.frozen? ⟨w.heap.size, 2, none⟩ = false := block_free b3_0.out _
  have c3_0_3 : w3.cell? ⟨w.heap.size, 3, none⟩ = some (.slice C1 n1 e1) := cell_of_row _ _ 3 _ _ (0, 0) b3_0.out
  have f3_0_3 : w3.frozen? ⟨w.heap.size, 3, none⟩ = false := block_free b3_0.out _
  have c3_0_4 : w3.cell? ⟨w.heap.size, 4, none⟩ = some (.slice A2 n2 c2) := cell_of_row _ _ 4 _ _ (0, 0) b3_0.out
  have f3_0_4 : w3.frozen? ⟨w.heap.size, 4, none⟩ = false := block_free b3_0.out _
  have c3_0_5 : w3.cell? ⟨w.heap.size, 5, none⟩ = some (.slice A3 n3 c3) := cell_of_row _ _ 5 _ _ (0, 0) b3_0.out
  have f3_0_5 : w3.frozen? ⟨w.heap.size, 5, none⟩ = false := block_free b3_0.out _
  have l3_1 : w.heap.size + 1 < w3.heap.size := (Array.getElem?_eq_some_iff.1 b3_1.out).1
  have c3_1_0 : w3.cell? ⟨w.heap.size + 1, 0, none⟩ = some (.int .i64 0) := cell_of_row _ _ 0 _ _ (0, 0) b3_1.out
  have f3_1_0 : w3.frozen? ⟨w.heap.size + 1, 0, none⟩ = false := block_free b3_1.out _
  have c3_1_1 : w3.cell? ⟨w.heap.size + 1, 1, none⟩ = some (.int .i64 0) := cell_of_row _ _ 1 _ _ (0, 0) b3_1.out
  have f3_1_1 : w3.frozen? ⟨w.heap.size + 1, 1, none⟩ = false := block_free b3_1.out _
  have c3_1_2 : w3.cell? ⟨w.heap.size + 1, 2, none⟩ = some (.slice none 0 0) := cell_of_row _ _ 2 _ _ (0, 0) b3_1.out
  have f3_1_2 : w3.frozen? ⟨w.heap.size + 1, 2, none⟩ = false := block_free b3_1.out _
  have c3_1_3 : w3.cell? ⟨w.heap.size + 1, 3, none⟩ = some (.slice none 0 0) := cell_of_row _ _ 3 _ _ (0, 0) b3_1.out
  have f3_1_3 : w3.frozen? ⟨w.heap.size + 1, 3, none⟩ = false := block_free b3_1.out _
  have c3_1_4 : w3.cell? ⟨w.heap.size + 1, 4, none⟩ = some (.slice none 0 0) := cell_of_row _ _ 4 _ _ (0, 0) b3_1.out
  have f3_1_4 : w3.frozen? ⟨w.heap.size + 1, 4, none⟩ = false := block_free b3_1.out _
  have c3_1_5 : w3.cell? ⟨w.heap.size + 1, 5, none⟩ = some (.slice none 0 0) := cell_of_row _ _ 5 _ _ (0, 0) b3_1.out
  have f3_1_5 : w3.frozen? ⟨w.heap.size + 1, 5, none⟩ = false := block_free b3_1.out _
  have l3_2 : w.heap.size + 1 + 1 < w3.heap.size := (Array.getElem?_eq_some_iff.1 b3_2.out).1
  have l3_3 : w1.heap.size < w3.heap.size := (Array.getElem?_eq_some_iff.1 b3_3.out).1
  have l3_4 : w2.heap.size < w3.heap.size := (Array.getElem?_eq_some_iff.1 b3_4.out).1
  have hB1w3 : B1 ≤ w3.heap.size := by omega
  have hB2w3 : B2 ≤ w3.heap.size := by omega
  obtain ⟨B3, hB3⟩ : ∃ B, B = w3.heap.size := ⟨_, rfl⟩
  have F_2_3 : Hid (OL w3 B2 B3 C2 n2 e2 x2) := Lib.hid (by rw [hB3]; exact hOL)
  have hBb3 : B2 ≤ B3 := by omega
  have hB3w3 : B3 ≤ w3.heap.size := by omega
  have HBB3 := Lib.hid hB3; clear hB3 hOL
  have HR : Hid (RowAt ((World.alloc (World.setCell w3 ⟨w.heap.size, 4, none⟩ (.slice C2 n2 e2)) (.cells #[] 3))) A3 (n3 * 1) (x3.map (Value.int .i64))) := Lib.hid ((H3.out.below (Below.alloc (Below.setCell (p := ⟨w.heap.size, 4, none⟩) X3 (by have := X3.size; simp <;> omega) _) (by have := X3.size; simp [World.setCell] <;> omega) _)).ints.row)
  have HO : Hid (∀ u ∈ x3.map (Value.int .i64), u.oneCell' = true) := Lib.hid (ints_one _)
  go_wp2_with (at_builtin; go_must (refine wpList_append_row rfl _ _ 25 rfl 3 i0 (.int .i64 0) 1 8 Try.underlying25 hi hz0 hz1 hz2 rfl (by decide) [] (some ⟨w3.heap.size, 0, none⟩) A3 0 0 n3 c3 [] (x3.map (Value.int .i64)) rfl rfl (OwnA.nil _) HR.out HO.out (by unfold maxLen; omega) (by omega) ?_))
  intro C3 e3 S_ w4 hO' hS' hC'
  have hb4 : Below ((World.alloc (World.setCell w3 ⟨w.heap.size, 4, none⟩ (.slice C2 n2 e2)) (.cells #[] 3))).heap.size ((World.alloc (World.setCell w3 ⟨w.heap.size, 4, none⟩ (.slice C2 n2 e2)) (.cells #[] 3))) w4 := hC'.below (fun k _ hk => by simp at hk) (Nat.le_refl _)
  try simp only [Nat.zero_add, List.nil_append] at hO'
  have hOL : OL w4 B3 w4.heap.size C3 n3 e3 x3 := ⟨S_, hO', fun g hg => ⟨by have h_ := hS' g hg; first | omega | (simp [World.setCell] at h_; omega), hO'.lt g hg⟩, H3.out.len⟩
  have F_0_4 := Lib.hid (F_0_3.out.keep (w' := w4) (fun b b1 b2 => (hb4.block _ (by first | omega | (simp [World.setCell] <;> omega))).trans ((Below.heap_alloc _ _ _ (by first | omega | (simp [World.setCell] <;> omega))).trans ((heap_far (by first | omega | (simp <;> omega))).trans (rfl)))))
  have F_1_4 := Lib.hid (F_1_3.out.keep (w' := w4) (fun b b1 b2 => (hb4.block _ (by first | omega | (simp [World.setCell] <;> omega))).trans ((Below.heap_alloc _ _ _ (by first | omega | (simp [World.setCell] <;> omega))).trans ((heap_far (by first | omega | (simp <;> omega))).trans (rfl)))))
  have F_2_4 := Lib.hid (F_2_3.out.keep (w' := w4) (fun b b1 b2 => (hb4.block _ (by first | omega | (simp [World.setCell] <;> omega))).trans ((Below.heap_alloc _ _ _ (by first | omega | (simp [World.setCell] <;> omega))).trans ((heap_far (by first | omega | (simp <;> omega))).trans (rfl)))))
  clear F_0_3 F_1_3 F_2_3
  clear hO' hS' hC' HR HO
  have zz4 : w3.heap.size + 1 ≤ w4.heap.size := by have := hb4.size; simp [World.setCell] at this; omega
  have YY4 : Below w.heap.size w (World.alloc (World.setCell w3 ⟨w.heap.size, 4, none⟩ (.slice C2 n2 e2)) (.cells #[] 3)) := (Below.alloc (Below.setCell (p := ⟨w.heap.size, 4, none⟩) X3 (by have := X3.size; simp <;> omega) _) (by have := X3.size; simp [World.setCell] <;> omega) _)
  have X4 : Below w.heap.size w w4 := YY4.trans (hb4.mono YY4.size)
  clear YY4
  have b4_0 : Hid (w4.heap[w.heap.size]? = some (.cells #[.int .i64 ro, .int .i64 go, .slice C0 n0 e0, .slice C1 n1 e1, .slice C2 n2 e2, .slice A3 n3 c3] 57 (0, 0))) := Lib.hid ((hb4.block _ (by first | omega | (simp [World.setCell] <;> omega))).trans ((Below.heap_alloc _ _ _ (by first | omega | (simp [World.setCell] <;> omega))).trans (block_set b3_0.out)))
  have b4_1 : Hid (w4.heap[w.heap.size + 1]? = some (.cells #[.int .i64 0, .int .i64 0, .slice none 0 0, .slice none 0 0, .slice none 0 0, .slice none 0 0] 57 (0, 0))) := Lib.hid ((hb4.block _ (by first | omega | (simp [World.setCell] <;> omega))).trans ((Below.heap_alloc _ _ _ (by first | omega | (simp [World.setCell] <;> omega))).trans ((heap_far (by first | omega | (simp <;> omega))).trans b3_1.out)))
  have b4_2 : Hid (w4.heap[w.heap.size + 1 + 1]? = some (.cells #[] 3 (0, 0))) := Lib.hid ((hb4.block _ (by first | omega | (simp [World.setCell] <;> omega))).trans ((Below.heap_alloc _ _ _ (by first | omega | (simp [World.setCell] <;> omega))).trans ((heap_far (by first | omega | (simp <;> omega))).trans b3_2.out)))
  have b4_3 : Hid (w4.heap[w1.heap.size]? = some (.cells #[] 3 (0, 0))) := Lib.hid ((hb4.block _ (by first | omega | (simp [World.setCell] <;> omega))).trans ((Below.heap_alloc _ _ _ (by first | omega | (simp [World.setCell] <;> omega))).trans ((heap_far (by first | omega | (simp <;> omega))).trans b3_3.out)))
  have b4_4 : Hid (w4.heap[w2.heap.size]? = some (.cells #[] 3 (0, 0))) := Lib.hid ((hb4.block _ (by first | omega | (simp [World.setCell] <;> omega))).trans ((Below.heap_alloc _ _ _ (by first | omega | (simp [World.setCell] <;> omega))).trans ((heap_far (by first | omega | (simp <;> omega))).trans b3_4.out)))
  have b4_5 : Hid (w4.heap[w3.heap.size]? = some (.cells #[] 3 (0, 0))) := Lib.hid ((hb4.block _ (by first | omega | (simp [World.setCell] <;> omega))).trans (show _ from by have := heap_alloc_new (World.setCell w3 ⟨w.heap.size, 4, none⟩ (.slice C2 n2 e2)) (.cells #[] 3); simpa [World.setCell] using this))
  clear b3_0 b3_1 b3_2 b3_3 b3_4 X3 zz3 l3_0 c3_0_0 f3_0_0 c3_0_1 f3_0_1 c3_0_2 f3_0_2 c3_0_3 f3_0_3 c3_0_4 f3_0_4 c3_0_5 f3_0_5 l3_1 c3_1_0 f3_1_0 c3_1_1 f3_1_1 c3_1_2 f3_1_2 c3_1_3 f3_1_3 c3_1_4 f3_1_4 c3_1_5 f3_1_5 l3_2 l3_3 l3_4 hb4
  have l4_0 : w.heap.size < w4.heap.size := (Array.getElem?_eq_some_iff.1 b4_0.out).1
  have c4_0_0 : w4.cell? ⟨w.heap.size, 0, none⟩ = some (.int .i64 ro) := cell_of_row _ _ 0 _ _ (0, 0) b4_0.out
  have f4_0_0 : w4.frozen? ⟨w.heap.size, 0, none⟩ = false := block_free b4_0.out _
  have c4_0_1 : w4.cell? ⟨w.heap.size, 1, none⟩ = some (.int .i64 go) := cell_of_row _ _ 1 _ _ (0, 0) b4_0.out
  have f4_0_1 : w4.frozen? ⟨w.heap.size, 1, none⟩ = false := block_free b4_0.out _
  have c4_0_2 : w4.cell? ⟨w.heap.size, 2, none⟩ = some (.slice C0 n0 e0) := cell_of_row _ _ 2 _ _ (0, 0) b4_0.out
  have f4_0_2 : w4.frozen? ⟨w.heap.size, 2, none⟩ = false := block_free b4_0.out _
  have c4_0_3 : w4.cell? ⟨w.heap.size, 3, none⟩ = some (.slice C1 n1 e1) := cell_of_row _ _ 3 _ _ (0, 0) b4_0.out
  have f4_0_3 : w4.frozen? ⟨w.heap.size, 3, none⟩ = false := block_free b4_0.out _
  have c4_0_4 : w4.cell? ⟨w.heap.size, 4, none⟩ = some (.slice C2 n2 e2) := cell_of_row _ _ 4 _ _ (0, 0) b4_0.out
  have f4_0_4 : w4.frozen? ⟨w.heap.size, 4, none⟩ = false := block_free b4_0.out _
  have c4_0_5 : w4.cell? ⟨w.heap.size, 5, none⟩ = some (.slice A3 n3 c3) := cell_of_row _ _ 5 _ _ (0, 0) b4_0.out
  have f4_0_5 : w4.frozen? ⟨w.heap.size, 5, none⟩ = false := block_free b4_0.out _
  have l4_1 : w.heap.size + 1 < w4.heap.size := (Array.getElem?_eq_some_iff.1 b4_1.out).1
  have c4_1_0 : w4.cell? ⟨w.heap.size + 1, 0, none⟩ = some (.int .i64 0) := cell_of_row _ _ 0 _ _ (0, 0) b4_1.out
  have f4_1_0 : w4.frozen? ⟨w.heap.size + 1, 0, none⟩ = false := block_free b4_1.out _
  have c4_1_1 : w4.cell? ⟨w.heap.size + 1, 1, none⟩ = some (.int .i64 0) := cell_of_row _ _ 1 _ _ (0, 0) b4_1.out
  have f4_1_1 : w4.frozen? ⟨w.heap.size + 1, 1, none⟩ = false := block_free b4_1.out _
  have c4_1_2 : w4.cell? ⟨w.heap.size + 1, 2, none⟩ = some (.slice none 0 0) := cell_of_row _ _ 2 _ _ (0, 0) b4_1.out
  have f4_1_2 : w4.frozen? ⟨w.heap.size + 1, 2, none⟩ = false := block_free b4_1.out _
  have c4_1_3 : w4.cell? ⟨w.heap.size + 1, 3, none⟩ = some (.slice none 0 0) := cell_of_row _ _ 3 _ _ (0, 0) b4_1.out
  have f4_1_3 : w4.frozen? ⟨w.heap.size + 1, 3, none⟩ = false := block_free b4_1.out _
  have c4_1_4 : w4.cell? ⟨w.heap.size + 1, 4, none⟩ = some (.slice none 0 0) := cell_of_row _ _ 4 _ _ (0, 0) b4_1.out
  have f4_1_4 : w4.frozen? ⟨w.heap.size + 1, 4, none⟩ = false := block_free b4_1.out _
  have c4_1_5 : w4.cell? ⟨w.heap.size + 1, 5, none⟩ = some (.slice none 0 0) := cell_of_row _ _ 5 _ _ (0, 0) b4_1.out
  have f4_1_5 : w4.frozen? ⟨w.heap.size + 1, 5, none⟩ = false := block_free b4_1.out _
  have l4_2 : w.heap.size + 1 + 1 < w4.heap.size := (Array.getElem?_eq_some_iff.1 b4_2.out).1
  have l4_3 : w1.heap.size < w4.heap.size := (Array.getElem?_eq_some_iff.1 b4_3.out).1
  have l4_4 : w2.heap.size < w4.heap.size := (Array.getElem?_eq_some_iff.1 b4_4.out).1
  have l4_5 : w3.heap.size < w4.heap.size := (Array.getElem?_eq_some_iff.1 b4_5.out).1
  have hB1w4 : B1 ≤ w4.heap.size := by omega
  have hB2w4 : B2 ≤ w4.heap.size := by omega
  have hB3w4 : B3 ≤ w4.heap.size := by omega
  obtain ⟨B4, hB4⟩ : ∃ B, B = w4.heap.size := ⟨_, rfl⟩
  have F_3_4 : Hid (OL w4 B3 B4 C3 n3 e3 x3) := Lib.hid (by rw [hB4]; exact hOL)
  have hBb4 : B3 ≤ B4 := by omega
  have hB4w4 : B4 ≤ w4.heap.size := by omega
  have HBB4 := Lib.hid hB4; clear hB4 hOL
  obtain ⟨wF, hwF⟩ : ∃ W, W = (World.setCell (World.setCell (World.setCell (World.setCell (World.setCell (World.setCell (World.setCell w4 ⟨w.heap.size, 5, none⟩ (.slice C3 n3 e3)) ⟨w.heap.size + 1, 0, none⟩ (.int .i64 ro)) ⟨w.heap.size + 1, 1, none⟩ (.int .i64 go)) ⟨w.heap.size + 1, 2, none⟩ (.slice C0 n0 e0)) ⟨w.heap.size + 1, 3, none⟩ (.slice C1 n1 e1)) ⟨w.heap.size + 1, 4, none⟩ (.slice C2 n2 e2)) ⟨w.heap.size + 1, 5, none⟩ (.slice C3 n3 e3)) := ⟨_, rfl⟩
  have hfar : ∀ b, b ≠ w.heap.size → b ≠ w.heap.size + 1 → wF.heap[b]? = w4.heap[b]? := by
    intro b h1 h2
    rw [hwF]
    exact (heap_far (by simp; omega)).trans ((heap_far (by simp; omega)).trans ((heap_far (by simp; omega)).trans ((heap_far (by simp; omega)).trans ((heap_far (by simp; omega)).trans ((heap_far (by simp; omega)).trans ((heap_far (by simp; omega)).trans (rfl)))))))
  have hszF : wF.heap.size = w4.heap.size := by rw [hwF]; simp [World.setCell]
  have hbF : Below w.heap.size w wF := by rw [hwF]; exact (Below.setCell (p := ⟨w.heap.size + 1, 5, none⟩) (Below.setCell (p := ⟨w.heap.size + 1, 4, none⟩) (Below.setCell (p := ⟨w.heap.size + 1, 3, none⟩) (Below.setCell (p := ⟨w.heap.size + 1, 2, none⟩) (Below.setCell (p := ⟨w.heap.size + 1, 1, none⟩) (Below.setCell (p := ⟨w.heap.size + 1, 0, none⟩) (Below.setCell (p := ⟨w.heap.size, 5, none⟩) X4 (by have := X4.size; simp <;> omega) _) (by have := X4.size; simp <;> omega) _) (by have := X4.size; simp <;> omega) _) (by have := X4.size; simp <;> omega) _) (by have := X4.size; simp <;> omega) _) (by have := X4.size; simp <;> omega) _) (by have := X4.size; simp <;> omega) _)
  have RSF : wF.heap[w.heap.size + 1]? = some (.cells #[.int .i64 ro, .int .i64 go, .slice C0 n0 e0, .slice C1 n1 e1, .slice C2 n2 e2, .slice C3 n3 e3] 57 (0, 0)) := by rw [hwF]; exact (block_set (block_set (block_set (block_set (block_set (block_set ((heap_far (by first | omega | (simp <;> omega))).trans b4_1.out)))))))
  have r0 := cell_of_row _ _ 0 _ _ (0, 0) RSF
  have r1 := cell_of_row _ _ 1 _ _ (0, 0) RSF
  have r2 := cell_of_row _ _ 2 _ _ (0, 0) RSF
  have r3 := cell_of_row _ _ 3 _ _ (0, 0) RSF
  have r4 := cell_of_row _ _ 4 _ _ (0, 0) RSF
  have r5 := cell_of_row _ _ 5 _ _ (0, 0) RSF
  have HP : Hid (CopyC ro go n0 n1 n2 n3 x0 x1 x2 x3 w (.returned (.agg #[.int .i64 ro, .int .i64 go, .slice C0 n0 e0, .slice C1 n1 e1, .slice C2 n2 e2, .slice C3 n3 e3])) wF) := Lib.hid
    ⟨C0, e0, C1, e1, C2, e2, C3, e3, B1, B2, B3, rfl, F_0_4.out.keep (fun b b1 b2 => hfar b (by omega) (by omega)), F_1_4.out.keep (fun b b1 b2 => hfar b (by omega) (by omega)), F_2_4.out.keep (fun b b1 b2 => hfar b (by omega) (by omega)), (F_3_4.out.keep (fun b b1 b2 => hfar b (by omega) (by omega))).wide (Nat.le_refl _) (by omega), hBb1, hBb2, hBb3, by omega, hbF⟩
  have HWF := Lib.hid hwF
  clear hwF hfar hszF hbF RSF
  go_wp2_with fail
  rw [← HWF.out]
  exact bodyPost_ret (v := .agg #[.int .i64 ro, .int .i64 go, .slice C0 n0 e0, .slice C1 n1 e1, .slice C2 n2 e2, .slice C3 n3 e3]) (by simp [results, Try.results118, go_sem, r0, r1, r2, r3, r4, r5]) rfl HP.out
end Go.Proofs.Ytffieobjcipeoaa
