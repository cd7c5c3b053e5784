/- DrawRootPut and DrawRootGet. No condition. -/
import Derived.Test.YtkaonhjfgnibeaaGreatDoorDrawRoot
import Derived.Test.YtkaonhjfgnibeaaGreatDoorDrawSpoil
import Derived.Test.YtkaonhjfgnibeaaGreatDoorRootPlain
namespace Go.Proofs.YtkaonhjfgnibeaaGreatDoor
set_option linter.unnecessarySimpa false
open Go Go.Lib Go.RowKit
set_option linter.unusedVariables false
set_option linter.unusedSimpArgs false

theorem BytesIn.deep {w w' : World} {A : Option Addr} {n c : Nat} {zs : List Int} (h : BytesIn w A n c zs) (hb : Below w.heap.size w w') : BytesIn w' A n c zs := by
  obtain ⟨h1, h2, h3, h4, h5⟩ := h
  refine ⟨h1, h2, h3, h4, fun hn => ?_⟩
  obtain ⟨b, off, hA, hc⟩ := h5 hn
  exact ⟨b, off, hA, fun j hj => (hb.cell (World.block_lt_of_cell? w _ (hc j hj))).trans (hc j hj)⟩
def GotRootV (w : World) (e : Ending) (w' : World) : Prop :=
  ∃ (t a b s m l d y : Int), e = .returned (.agg #[.int .i64 t, .int .i64 a, .int .i64 b, .int .i64 s, .int .i64 m, .int .i64 l, .int .i64 d, .int .i64 y]) ∧ Below w.heap.size w w'
def GotText (w : World) (e : Ending) (w' : World) : Prop := ∃ x : Str, e = .returned (.string (strB x)) ∧ x.length ≤ 1000000 ∧ Below w.heap.size w w'
theorem rootS_small (t a b s m l d y : Int) : (rootS t a b s m l d y).length ≤ 10000 := by
  cases h : rootOkB t a b s m l d y
  · rw [rootS_no h]; simp
  · have h1 := encs_small _ (rootL_le t a b s m l d y)
    rw [rootL_len, (root_rec h).1] at h1
    omega
set_option maxRecDepth 100000 in
set_option maxHeartbeats 1000000 in
theorem drawRootPut_any (A : Option Addr) (n c : Nat) (zs : List Int) (w : World) (h : BytesIn w A n c zs) : Calls Tryz.prog 10 #[.slice A n c] w (GotRootV w) := by
  go_enter Tryz.func10, Tryz.ntmps10
  go_wp2_with fail
  refine (l6Open_any A n c zs _ ?_).mono ?_
  · exact BytesIn.deep h ((Below.refl _ _).alloc (Nat.le_refl _) _)
  rintro e w1 ⟨m', c', ys, rfl, hr, hb1⟩
  have s1 := hb1.size
  have hp1 := hr.2.2.2.1
  have hq1 : w1.heap[w.heap.size]? = some (.cells #[.int .i64 0, .int .i64 0, .int .i64 0, .int .i64 0, .int .i64 0, .int .i64 0, .int .i64 0, .int .i64 0] 28 (0, 0)) := (hb1.block _ (by simp)).trans (heap_alloc_new _ _)
  simp at s1 hr hp1
  have hb2 : Below w.heap.size w w1 := ((Below.refl _ _).alloc (Nat.le_refl _) _).trans (hb1.mono (by simp))
  clear hb1
  go_wp2_with fail
  refine (l93Root_any w1 _ A m' c' ys 0 hr (by omega)).mono ?_
  rintro e w2 ⟨t, a, b, s, m, l, d, y, k', rfl, hk', hr2, hc⟩
  have hq2 := (hc.block w.heap.size (by omega) (by simp)).trans hq1
  have hb3 : Below w.heap.size w w2 := hb2.trans (hc.below (fun k _ hk => by simp at hk; omega) hb2.size)
  have f0 : ∀ o, w2.frozen? ⟨w.heap.size, o, none⟩ = false := fun o => block_free hq2 o
  have g0 := f0 0; have g1 := f0 1; have g2 := f0 2; have g3 := f0 3; have g4 := f0 4; have g5 := f0 5; have g6 := f0 6; have g7 := f0 7
  have c0 := cell_of_row _ _ 0 _ _ (0, 0) hq2; have c1 := cell_of_row _ _ 1 _ _ (0, 0) hq2; have c2 := cell_of_row _ _ 2 _ _ (0, 0) hq2; have c3 := cell_of_row _ _ 3 _ _ (0, 0) hq2
  have c4 := cell_of_row _ _ 4 _ _ (0, 0) hq2; have c5 := cell_of_row _ _ 5 _ _ (0, 0) hq2; have c6 := cell_of_row _ _ 6 _ _ (0, 0) hq2; have c7 := cell_of_row _ _ 7 _ _ (0, 0) hq2
  clear f0 hr2 hc hb2 hr hq1
  go_wp2_with fail
  have hst := setR_8 (x0 := .int .i64 t) (x1 := .int .i64 a) (x2 := .int .i64 b) (x3 := .int .i64 s) (x4 := .int .i64 m) (x5 := .int .i64 l) (x6 := .int .i64 d) (x7 := .int .i64 y) hq2
  have r0 := cell_of_row _ _ 0 _ _ (0, 0) hst; have r1 := cell_of_row _ _ 1 _ _ (0, 0) hst; have r2 := cell_of_row _ _ 2 _ _ (0, 0) hst; have r3 := cell_of_row _ _ 3 _ _ (0, 0) hst
  have r4 := cell_of_row _ _ 4 _ _ (0, 0) hst; have r5 := cell_of_row _ _ 5 _ _ (0, 0) hst; have r6 := cell_of_row _ _ 6 _ _ (0, 0) hst; have r7 := cell_of_row _ _ 7 _ _ (0, 0) hst
  clear hst
  exact bodyPost_ret (v := .agg #[.int .i64 t, .int .i64 a, .int .i64 b, .int .i64 s, .int .i64 m, .int .i64 l, .int .i64 d, .int .i64 y]) (by simp [results, Tryz.results10, go_sem, r0, r1, r2, r3, r4, r5, r6, r7]) rfl
    ⟨_, _, _, _, _, _, _, _, rfl, Below.setCell (p := ⟨w.heap.size, 7, none⟩) (Below.setCell (p := ⟨w.heap.size, 6, none⟩) (Below.setCell (p := ⟨w.heap.size, 5, none⟩) (Below.setCell (p := ⟨w.heap.size, 4, none⟩) (Below.setCell (p := ⟨w.heap.size, 3, none⟩) (Below.setCell (p := ⟨w.heap.size, 2, none⟩) (Below.setCell (p := ⟨w.heap.size, 1, none⟩) (Below.setCell (p := ⟨w.heap.size, 0, none⟩) hb3 (Nat.le_refl _) _) (Nat.le_refl _) _) (Nat.le_refl _) _) (Nat.le_refl _) _) (Nat.le_refl _) _) (Nat.le_refl _) _) (Nat.le_refl _) _) (Nat.le_refl _) _⟩
set_option maxRecDepth 100000 in
set_option maxHeartbeats 1000000 in
theorem drawRootGet_any (A : Option Addr) (n c : Nat) (zs : List Int) (w : World) (h : BytesIn w A n c zs) : Calls Tryz.prog 16 #[.slice A n c] w (GotText w) := by
  go_enter Tryz.func16, Tryz.ntmps16
  go_wp2_with fail
  refine (l6Open_any A n c zs _ h).mono ?_
  rintro e w1 ⟨m', c', ys, rfl, hr, hb1⟩
  go_wp2_with fail
  refine (l93Root_any w1 _ A m' c' ys 0 hr (by omega)).mono ?_
  rintro e w2 ⟨t, a, b, s, m, l, d, y, k', rfl, hk', hr2, hc⟩
  have hb2 : Below w.heap.size w w2 := hb1.trans (hc.below (fun k _ hk => by simp at hk; omega) hb1.size)
  clear hc hb1 hr
  go_wp2_with fail
  refine (spRootPut_any t a b s m l d y _).mono ?_
  have hsm := rootS_small t a b s m l d y
  unfold TextR
  generalize rootS t a b s m l d y = x at hsm ⊢
  rintro e w3 ⟨rfl, hb3⟩
  have hb4 := hb2.trans (hb3.mono hb2.size)
  have hr3 := hr2.below hb3
  clear hb3 hr2 hb2
  have hsx : Hid ((strB x).size = x.length) := Lib.hid rfl
  go_wp2_with fail
  refine (pick_any w3 _ A m' c' ys k' 3 hr3 (by omega) (by omega) (by omega)).mono ?_
  rintro e w4 ⟨r, rfl, hrb, hr4, hc4, hz4⟩
  have hb5 : Below w.heap.size w w4 := hb4.trans (hc4.below (fun k _ hk => by simp at hk; omega) hb4.size)
  clear hz4 hb4 hc4
  by_cases h0 : r = 0
  · have e0 : ((r : Int) == 0) = true := by simp [h0]
    clear h0
    go_wp2_with fail
    refine (l91Spoil_any w4 _ A m' c' ys (k' + 1) (strB x) hr4 (by omega) (by rw [hsx.out]; omega)).mono ?_
    rintro e w5 ⟨z, k2, rfl, hz, hk2, hr5, hc5⟩
    have hb6 : Below w.heap.size w w5 := hb5.trans (hc5.below (fun k _ hk => by simp at hk; omega) hb5.size)
    obtain ⟨z, rfl⟩ : ∃ z' : Str, z = strB z' := ⟨z.data.toList, (strB_data z).symm⟩
    have hz : z.length ≤ 1000000 := by have hh : (strB z).size = z.length := rfl
                                       rw [hsx.out, hh] at hz; omega
    go_wp2_with fail
    go_ret
    exact ⟨z, rfl, hz, hb6⟩
  · have e0 : ((r : Int) == 0) = false := by simp [h0]
    clear h0
    go_wp2_with fail
    go_ret
    exact ⟨x, rfl, by omega, hb5⟩
end Go.Proofs.YtkaonhjfgnibeaaGreatDoor
