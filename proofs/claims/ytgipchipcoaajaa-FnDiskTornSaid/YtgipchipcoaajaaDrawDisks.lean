/- DrawDiskSpoil, DrawDiskWrite. No condition. -/
import Derived.Test.YtgipchipcoaajaaDrawDisk2
namespace Go.Proofs.Ytgipchipcoaajaa
set_option linter.unnecessarySimpa false
open Go.RowKit
set_option linter.unusedVariables false
set_option linter.unusedSimpArgs false

/-- A drawn disk, a cell, a text. -/
def DrawnCell (w : World) (e : Ending) (w' : World) : Prop :=
  ∃ (cs : List Value) (x : DiskD) (at_ : Int) (s : ByteArray), e = .returned (.tuple #[.agg cs.toArray, .int .i64 at_, .string s]) ∧ DiskR w' w.heap.size w'.heap.size cs x ∧ x.1.length ≤ 64 ∧ x.2.1.length ≤ 200 ∧ s.size ≤ 201 ∧ Below w.heap.size w w'
theorem same_chg {p lo hi : Nat} {w w' : World} (h : Chg (· ∈ [p]) w w') (hp : p < lo) (hhi : hi ≤ w.heap.size) : Same lo hi w w' := fun k h1 h2 => h.block k (by omega) (by simp; omega)
theorem bytes_later {w w' : World} {A : Option Addr} {n c : Nat} {zs : List Int} (h : BytesIn w A n c zs) (hb : Below w.heap.size w w') : BytesIn w' A n c zs := by
  obtain ⟨h1, h2, h3, h4, h5⟩ := h
  refine ⟨h1, h2, h3, h4, fun hn => ?_⟩
  obtain ⟨b, off, hA, hc⟩ := h5 hn
  exact ⟨b, off, hA, fun j hj => (hb.cell (World.block_lt_of_cell? w _ (hc j hj))).trans (hc j hj)⟩
set_option maxRecDepth 100000 in
set_option maxHeartbeats 2000000 in
theorem drawDiskSpoil_any (A : Option Addr) (n c : Nat) (zs : List Int) (w : World) (h : BytesIn w A n c zs) : Calls Try.prog 21 #[.slice A n c] w (DrawnCell w) := by
  go_enter Try.func21, Try.ntmps21
  go_wp2_with fail
  refine (l6Open_any A n c zs _ (bytes_later h bel1)).mono ?_
  rintro e w1 ⟨m', c', ys, rfl, hr, hb1⟩
  have s1 := hb1.size
  have hp1 := hr.2.2.2.1
  have hq1 : w1.heap[w.heap.size]? = some (.cells #[.slice none 0 0, .slice none 0 0, .bool false] 26 (0, 0)) := (hb1.block _ (by simp)).trans (heap_alloc_new _ _)
  simp at s1 hr hp1
  have hb2 : Below w.heap.size w w1 := ((Below.refl _ _).alloc (Nat.le_refl _) _).trans (hb1.mono (by simp))
  clear hb1
  go_wp2_with fail
  refine (l91Disk_any w1 _ A m' c' ys 0 hr (by omega)).mono ?_
  rintro e w2 ⟨cs, x, k2, rfl, hD, hl1, hl2, hk2, hr2, hc2⟩
  have hq2 := (hc2.block w.heap.size (by omega) (by simp)).trans hq1
  have hb3 : Below w.heap.size w w2 := hb2.trans (hc2.below (fun k _ hk => by simp at hk; omega) hb2.size)
  have z2 := hc2.size
  have HD2 := Lib.hid hD
  clear hb2 hr hq1 hc2 hD
  go_wp2_with fail
  refine (l91Cell_any w2 _ A m' c' ys k2 hr2 (by omega)).mono ?_
  rintro e w3 ⟨at_, k3, rfl, ha1, ha2, hk3, hr3, hc3⟩
  have HD3 := Lib.hid (DiskR.keep (same_chg hc3 (by omega) (Nat.le_refl _)) hc3.size _ _ HD2.out)
  have hq3 := (hc3.block w.heap.size (by omega) (by simp)).trans hq2
  have hb4 : Below w.heap.size w w3 := hb3.trans (hc3.below (fun k _ hk => by simp at hk; omega) hb3.size)
  have z3 := hc3.size
  clear hb3 hr2 hq2 hc3 HD2 ha1 ha2
  go_wp2_with fail
  refine (l91Cells_any w3 _ A m' c' ys k3 hr3 (by omega)).mono ?_
  rintro e w4 ⟨s, k4, rfl, hs, hk4, hr4, hc4⟩
  have HD4 := Lib.hid (DiskR.keep (same_chg hc4 (by omega) (by omega)) hc4.size _ _ HD3.out)
  have hq4 := (hc4.block w.heap.size (by omega) (by simp)).trans hq3
  have hb5 : Below w.heap.size w w4 := hb4.trans (hc4.below (fun k _ hk => by simp at hk; omega) hb4.size)
  have z4 := hc4.size
  have hh := HD4.out
  obtain ⟨A0, n0, c0, A1, n1, c1, rfl, -, -⟩ := hh
  have hrl := (Array.getElem?_eq_some_iff.1 hq4).1
  have v0 := cell_of_row _ _ 0 _ _ (0, 0) hq4; have v1 := cell_of_row _ _ 1 _ _ (0, 0) hq4; have v2 := cell_of_row _ _ 2 _ _ (0, 0) hq4
  have fv := fun o => block_free hq4 o
  have fv0 := fv 0; have fv1 := fv 1; have fv2 := fv 2
  clear fv hr4 hr3 hc4 hq3 HD3
  go_wp2_with fail
  have hst := set3 (x0 := .slice A0 n0 c0) (x1 := .slice A1 n1 c1) (x2 := .bool x.2.2) hq4
  have r0 := cell_of_row _ _ 0 _ _ (0, 0) hst; have r1 := cell_of_row _ _ 1 _ _ (0, 0) hst; have r2 := cell_of_row _ _ 2 _ _ (0, 0) hst
  clear hst
  exact bodyPost_ret (v := .tuple #[.agg #[.slice A0 n0 c0, .slice A1 n1 c1, .bool x.2.2], .int .i64 at_, .string s]) (by simp [results, Try.results21, go_sem, r0, r1, r2]) rfl
    ⟨_, x, at_, s, rfl, DiskR.wide (by omega) (by simp [World.setCell]; omega) (Nat.le_refl _) _ _ (DiskR.keep (w := w4) (lo := w1.heap.size) (hi := w2.heap.size) (Same.setCell (p := ⟨w.heap.size, 2, none⟩) (Same.setCell (p := ⟨w.heap.size, 1, none⟩) (Same.setCell (p := ⟨w.heap.size, 0, none⟩) (Same.refl _ _ _) (.inl (by simp <;> omega)) _) (.inl (by simp <;> omega)) _) (.inl (by simp <;> omega)) _) (by simp [World.setCell]) _ _ HD4.out),
      hl1, hl2, by omega, Below.setCell (p := ⟨w.heap.size, 2, none⟩) (Below.setCell (p := ⟨w.heap.size, 1, none⟩) (Below.setCell (p := ⟨w.heap.size, 0, none⟩) hb5 (Nat.le_refl _) _) (Nat.le_refl _) _) (Nat.le_refl _) _⟩
set_option maxRecDepth 100000 in
set_option maxHeartbeats 2000000 in
theorem drawDiskWrite_any (A : Option Addr) (n c : Nat) (zs : List Int) (w : World) (h : BytesIn w A n c zs) : Calls Try.prog 24 #[.slice A n c] w (DrawnCell w) := by
  go_enter Try.func24, Try.ntmps24
  go_wp2_with fail
  refine (l6Open_any A n c zs _ (bytes_later h bel1)).mono ?_
  rintro e w1 ⟨m', c', ys, rfl, hr, hb1⟩
  have s1 := hb1.size
  have hp1 := hr.2.2.2.1
  have hq1 : w1.heap[w.heap.size]? = some (.cells #[.slice none 0 0, .slice none 0 0, .bool false] 26 (0, 0)) := (hb1.block _ (by simp)).trans (heap_alloc_new _ _)
  simp at s1 hr hp1
  have hb2 : Below w.heap.size w w1 := ((Below.refl _ _).alloc (Nat.le_refl _) _).trans (hb1.mono (by simp))
  clear hb1
  go_wp2_with fail
  refine (l91Disk_any w1 _ A m' c' ys 0 hr (by omega)).mono ?_
  rintro e w2 ⟨cs, x, k2, rfl, hD, hl1, hl2, hk2, hr2, hc2⟩
  have hq2 := (hc2.block w.heap.size (by omega) (by simp)).trans hq1
  have hb3 : Below w.heap.size w w2 := hb2.trans (hc2.below (fun k _ hk => by simp at hk; omega) hb2.size)
  have z2 := hc2.size
  have HD2 := Lib.hid hD
  clear hb2 hr hq1 hc2 hD
  go_wp2_with fail
  refine (l91Cell_any w2 _ A m' c' ys k2 hr2 (by omega)).mono ?_
  rintro e w3 ⟨at_, k3, rfl, ha1, ha2, hk3, hr3, hc3⟩
  have HD3 := Lib.hid (DiskR.keep (same_chg hc3 (by omega) (Nat.le_refl _)) hc3.size _ _ HD2.out)
  have hq3 := (hc3.block w.heap.size (by omega) (by simp)).trans hq2
  have hb4 : Below w.heap.size w w3 := hb3.trans (hc3.below (fun k _ hk => by simp at hk; omega) hb3.size)
  have z3 := hc3.size
  clear hb3 hr2 hq2 hc3 HD2 ha1 ha2
  go_wp2_with fail
  refine (l91Cells_any w3 _ A m' c' ys k3 hr3 (by omega)).mono ?_
  rintro e w4 ⟨s, k4, rfl, hs, hk4, hr4, hc4⟩
  have HD4 := Lib.hid (DiskR.keep (same_chg hc4 (by omega) (by omega)) hc4.size _ _ HD3.out)
  have hq4 := (hc4.block w.heap.size (by omega) (by simp)).trans hq3
  have hb5 : Below w.heap.size w w4 := hb4.trans (hc4.below (fun k _ hk => by simp at hk; omega) hb4.size)
  have z4 := hc4.size
  have hh := HD4.out
  obtain ⟨A0, n0, c0, A1, n1, c1, rfl, -, -⟩ := hh
  have hrl := (Array.getElem?_eq_some_iff.1 hq4).1
  have v0 := cell_of_row _ _ 0 _ _ (0, 0) hq4; have v1 := cell_of_row _ _ 1 _ _ (0, 0) hq4; have v2 := cell_of_row _ _ 2 _ _ (0, 0) hq4
  have fv := fun o => block_free hq4 o
  have fv0 := fv 0; have fv1 := fv 1; have fv2 := fv 2
  clear fv hr4 hr3 hc4 hq3 HD3
  go_wp2_with fail
  have hst := set3 (x0 := .slice A0 n0 c0) (x1 := .slice A1 n1 c1) (x2 := .bool x.2.2) hq4
  have r0 := cell_of_row _ _ 0 _ _ (0, 0) hst; have r1 := cell_of_row _ _ 1 _ _ (0, 0) hst; have r2 := cell_of_row _ _ 2 _ _ (0, 0) hst
  clear hst
  exact bodyPost_ret (v := .tuple #[.agg #[.slice A0 n0 c0, .slice A1 n1 c1, .bool x.2.2], .int .i64 at_, .string s]) (by simp [results, Try.results24, go_sem, r0, r1, r2]) rfl
    ⟨_, x, at_, s, rfl, DiskR.wide (by omega) (by simp [World.setCell]; omega) (Nat.le_refl _) _ _ (DiskR.keep (w := w4) (lo := w1.heap.size) (hi := w2.heap.size) (Same.setCell (p := ⟨w.heap.size, 2, none⟩) (Same.setCell (p := ⟨w.heap.size, 1, none⟩) (Same.setCell (p := ⟨w.heap.size, 0, none⟩) (Same.refl _ _ _) (.inl (by simp <;> omega)) _) (.inl (by simp <;> omega)) _) (.inl (by simp <;> omega)) _) (by simp [World.setCell]) _ _ HD4.out),
      hl1, hl2, by omega, Below.setCell (p := ⟨w.heap.size, 2, none⟩) (Below.setCell (p := ⟨w.heap.size, 1, none⟩) (Below.setCell (p := ⟨w.heap.size, 0, none⟩) hb5 (Nat.le_refl _) _) (Nat.le_refl _) _) (Nat.le_refl _) _⟩
end Go.Proofs.Ytgipchipcoaajaa
