/- DrawRootOk. No condition. -/
import Derived.Test.YtodibogijnjlaaaDoorDrawRoot
namespace Go.Proofs.YtodibogijnjlaaaDoor
set_option linter.unnecessarySimpa false
open Go Go.RowKit
set_option linter.unusedVariables false
set_option linter.unusedSimpArgs false

def GotRootK (w : World) (e : Ending) (w' : World) : Prop :=
  ∃ (t a b s m l d y : Int), e = .returned (.agg #[.int .i64 t, .int .i64 a, .int .i64 b, .int .i64 s, .int .i64 m, .int .i64 l, .int .i64 d, .int .i64 y]) ∧ Below w.heap.size w w'
theorem bytesIn_later {w w' : World} {A : Option Addr} {n c : Nat} {zs : List Int} (h : BytesIn w A n c zs) (hb : Below w.heap.size w w') : BytesIn w' A n c zs := by
  obtain ⟨h1, h2, h3, h4, h5⟩ := h
  refine ⟨h1, h2, h3, h4, fun hn => ?_⟩
  obtain ⟨b, off, hA, hc⟩ := h5 hn
  exact ⟨b, off, hA, fun j hj => (hb.cell (World.block_lt_of_cell? w _ (hc j hj))).trans (hc j hj)⟩
set_option maxRecDepth 100000 in
set_option maxHeartbeats 1000000 in
theorem drawRootOk_any (A : Option Addr) (n c : Nat) (zs : List Int) (w : World) (h : BytesIn w A n c zs) : Calls Tryd.prog 4 #[.slice A n c] w (GotRootK w) := by
  go_enter Tryd.func4, Tryd.ntmps4
  go_wp2_with fail
  refine (l6Open_any A n c zs _ ?_).mono ?_
  · exact bytesIn_later h ((Below.refl _ _).alloc (Nat.le_refl _) _)
  rintro e w1 ⟨m', c', ys, rfl, hr, hb1⟩
  have s1 := hb1.size
  have hp1 := hr.2.2.2.1
  have hq1 : w1.heap[w.heap.size]? = some (.cells #[.int .i64 0, .int .i64 0, .int .i64 0, .int .i64 0, .int .i64 0, .int .i64 0, .int .i64 0, .int .i64 0] 28 (0, 0)) := (hb1.block _ (by simp)).trans (heap_alloc_new _ _)
  simp at s1 hr hp1
  have hb2 : Below w.heap.size w w1 := ((Below.refl _ _).alloc (Nat.le_refl _) _).trans (hb1.mono (by simp))
  clear hb1
  go_wp2_with fail
  refine (l93Root_any w1 _ A m' c' ys 0 hr (by omega)).mono ?_
  rintro e w2 ⟨t, a, b, s, m, l, d, y, k', rfl, hk', hr2, hc⟩
  have hq2 := (hc.block w.heap.size (by omega) (by simp)).trans hq1
  have hb3 : Below w.heap.size w w2 := hb2.trans (hc.below (fun k _ hk => by simp at hk; omega) hb2.size)
  have f0 : ∀ o, w2.frozen? ⟨w.heap.size, o, none⟩ = false := fun o => block_free hq2 o
  have g0 := f0 0; have g1 := f0 1; have g2 := f0 2; have g3 := f0 3; have g4 := f0 4; have g5 := f0 5; have g6 := f0 6; have g7 := f0 7
  have c0 := cell_of_row _ _ 0 _ _ (0, 0) hq2; have c1 := cell_of_row _ _ 1 _ _ (0, 0) hq2; have c2 := cell_of_row _ _ 2 _ _ (0, 0) hq2; have c3 := cell_of_row _ _ 3 _ _ (0, 0) hq2
  have c4 := cell_of_row _ _ 4 _ _ (0, 0) hq2; have c5 := cell_of_row _ _ 5 _ _ (0, 0) hq2; have c6 := cell_of_row _ _ 6 _ _ (0, 0) hq2; have c7 := cell_of_row _ _ 7 _ _ (0, 0) hq2
  clear f0 hr2 hc hb2 hr hq1
  go_wp2_with fail
  have hst := setR_8 (x0 := .int .i64 t) (x1 := .int .i64 a) (x2 := .int .i64 b) (x3 := .int .i64 s) (x4 := .int .i64 m) (x5 := .int .i64 l) (x6 := .int .i64 d) (x7 := .int .i64 y) hq2
  have r0 := cell_of_row _ _ 0 _ _ (0, 0) hst; have r1 := cell_of_row _ _ 1 _ _ (0, 0) hst; have r2 := cell_of_row _ _ 2 _ _ (0, 0) hst; have r3 := cell_of_row _ _ 3 _ _ (0, 0) hst
  have r4 := cell_of_row _ _ 4 _ _ (0, 0) hst; have r5 := cell_of_row _ _ 5 _ _ (0, 0) hst; have r6 := cell_of_row _ _ 6 _ _ (0, 0) hst; have r7 := cell_of_row _ _ 7 _ _ (0, 0) hst
  clear hst
  exact bodyPost_ret (v := .agg #[.int .i64 t, .int .i64 a, .int .i64 b, .int .i64 s, .int .i64 m, .int .i64 l, .int .i64 d, .int .i64 y]) (by simp [results, Tryd.results4, go_sem, r0, r1, r2, r3, r4, r5, r6, r7]) rfl
    ⟨_, _, _, _, _, _, _, _, rfl, Below.setCell (p := ⟨w.heap.size, 7, none⟩) (Below.setCell (p := ⟨w.heap.size, 6, none⟩) (Below.setCell (p := ⟨w.heap.size, 5, none⟩) (Below.setCell (p := ⟨w.heap.size, 4, none⟩) (Below.setCell (p := ⟨w.heap.size, 3, none⟩) (Below.setCell (p := ⟨w.heap.size, 2, none⟩) (Below.setCell (p := ⟨w.heap.size, 1, none⟩) (Below.setCell (p := ⟨w.heap.size, 0, none⟩) hb3 (Nat.le_refl _) _) (Nat.le_refl _) _) (Nat.le_refl _) _) (Nat.le_refl _) _) (Nat.le_refl _) _) (Nat.le_refl _) _) (Nat.le_refl _) _) (Nat.le_refl _) _⟩
end Go.Proofs.YtodibogijnjlaaaDoor
