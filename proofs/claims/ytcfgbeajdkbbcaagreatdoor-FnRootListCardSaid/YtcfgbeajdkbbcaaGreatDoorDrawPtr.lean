/- Drawn pointers: l91Row, PtrOf, l91Ptr. No condition. -/
import Derived.Test.YtcfgbeajdkbbcaaGreatDoorDrawText
import Derived.Test.YtcfgbeajdkbbcaaGreatDoorPtr
import Derived.Test.YtcfgbeajdkbbcaaGreatDoorNum
namespace Go.Proofs.YtcfgbeajdkbbcaaGreatDoor
set_option linter.unnecessarySimpa false
open Go.RowKit
set_option linter.unusedVariables false
set_option linter.unusedSimpArgs false

/-- All cells of an array are ints. -/
def LitInts (cur : Array Value) : Prop := ∀ i, i < cur.size → ∃ x : Int, cur[i]? = some (.int .i64 x)
theorem litInts (xs : List Int) : LitInts (xs.map (Value.int .i64)).toArray := by
  intro i hi
  have h : i < xs.length := by simpa using hi
  exact ⟨xs[i], by simp [h]⟩
theorem lit_int {W W' : World} {p b r : Nat} {t : TypeId} {cur : Array Value} (hL : LitInts cur) (hc : Chg (· ∈ [p]) (W.alloc (.cells cur t)) W') (hb : b = W.heap.size) (hp : p < W.heap.size) (hr : r < cur.size) : ∃ x : Int, W'.cell? ⟨b, r, none⟩ = some (.int .i64 x) := by
  obtain ⟨x, hx⟩ := hL r hr
  subst hb
  refine ⟨x, (World.cell?_of_block (hc.block W.heap.size (by simp) (by simp; omega))).trans ?_⟩
  simp [go_sem, hx]
theorem Rd.set {w0 w' : World} {p : Nat} {A : Option Addr} {n c : Nat} {zs : List Int} {k k0 : Nat} (h0 : Rd w0 p A n c zs k0) (h : Rd w' p A n c zs k) {a : Addr} (hb : w0.heap.size ≤ a.block) (v : Value) : Rd (w'.setCell a v) p A n c zs k :=
  h.keep (by simp [World.setCell]) fun b _ hbp => heap_far (by
    rcases hbp with rfl | ⟨hn, off, hA⟩
    · have := h0.2.2.2.1; omega
    · have := h0.old hn hA; omega)
/-- A number drawn. -/
def PickedAny (d : Nat) (w : World) (p : Nat) (A : Option Addr) (n c : Nat) (zs : List Int) (k : Nat) (e : Ending) (w' : World) : Prop :=
  ∃ (x : Int) (k' : Nat), e = .returned (.int .i64 x) ∧ k' ≤ k + d ∧ Rd w' p A n c zs k' ∧ Chg (· ∈ [p]) w w'
set_option maxHeartbeats 1000000 in
theorem l91RowP_any (w : World) (p : Nat) (A : Option Addr) (n c : Nat) (zs : List Int) (k : Nat) (hr : Rd w p A n c zs k) (hk : k ≤ 900000) :
    Calls Tryz.prog 121 #[.pointer (some ⟨p, 0, none⟩)] w (PickedAny 2 w p A n c zs k) := by
  have hp := hr.2.2.2.1
  go_enter Tryz.func121, Tryz.ntmps121
  go_wp2_with fail
  refine (pick_any _ p A n c zs _ 8 hr (by omega) (by omega) (by omega)).mono ?_
  rintro e w1 ⟨r, rfl, hr1, rd1, hc1, hz1⟩
  have hr1 := hr1 (by omega)
  clear hz1
  by_cases h0 : r = 0
  · have e0 : ((r : Int) == 0) = true := by simp [h0]
    clear h0
    go_wp2_with fail
    refine (pick_any _ p A n c zs _ 6 (rd1.below ((Below.refl _ _).alloc (Nat.le_refl _) _)) (by omega) (by omega) (by omega)).mono ?_
    rintro e w2 ⟨r2, rfl, hr2, rd2, hc2, hz2⟩
    have hr2 := hr2 (by omega)
    obtain ⟨x, hx⟩ := lit_int (r := r2) (litInts [-1, 0, 3, 7, 64, 63]) hc2 rfl (by have := rd1.2.2.2.1; omega) (by simp; omega)
    clear hz2
    go_wp2_with fail
    go_ret
    exact ⟨x, _, rfl, by omega, rd2, (hc1.alloc _).trans hc2⟩
  · have e0 : ((r : Int) == 0) = false := by simp [h0]
    clear h0
    go_wp2_with fail
    refine (pick_any _ p A n c zs _ 12 rd1 (by omega) (by omega) (by omega)).mono ?_
    rintro e w2 ⟨r2, rfl, hr2, rd2, hc2, hz2⟩
    have hr2 := hr2 (by omega)
    clear hz2
    go_wp2_with fail
    go_ret
    exact ⟨_, _, rfl, by omega, rd2, hc1.trans hc2⟩
theorem l2Block_any (s : ByteArray) (w : World) : Calls Tryz.prog 143 #[.string s] w fun e w' => e = .returned (.bool (inB (s.size : Int) 1 128)) ∧ w = w' := by
  go_enter Tryz.func143, Tryz.ntmps143
  go_wp2_with fail
  refine (l6In_any _ _ _ _).mono ?_
  rintro e w1 ⟨rfl, rfl⟩
  go_wp2_with fail
  go_ret
  exact ⟨rfl, rfl⟩
theorem set_5 {w : World} {r T : Nat} {v0 v1 v2 v3 v4 x0 x1 x2 x3 x4 : Value} (h : w.heap[r]? = some (.cells #[v0, v1, v2, v3, v4] T (0, 0))) :
    (((((w.setCell ⟨r, 0, none⟩ x0).setCell ⟨r, 1, none⟩ x1).setCell ⟨r, 2, none⟩ x2).setCell ⟨r, 3, none⟩ x3).setCell ⟨r, 4, none⟩ x4).heap[r]? = some (.cells #[x0, x1, x2, x3, x4] T (0, 0)) := by
  have h1 : (w.setCell ⟨r, 0, none⟩ x0).heap[r]? = some (.cells #[x0, v1, v2, v3, v4] T (0, 0)) := block_set (o := 0) (v := x0) h
  have h2 : ((w.setCell ⟨r, 0, none⟩ x0).setCell ⟨r, 1, none⟩ x1).heap[r]? = some (.cells #[x0, x1, v2, v3, v4] T (0, 0)) := block_set (o := 1) (v := x1) h1
  have h3 : (((w.setCell ⟨r, 0, none⟩ x0).setCell ⟨r, 1, none⟩ x1).setCell ⟨r, 2, none⟩ x2).heap[r]? = some (.cells #[x0, x1, x2, v3, v4] T (0, 0)) := block_set (o := 2) (v := x2) h2
  have h4 : ((((w.setCell ⟨r, 0, none⟩ x0).setCell ⟨r, 1, none⟩ x1).setCell ⟨r, 2, none⟩ x2).setCell ⟨r, 3, none⟩ x3).heap[r]? = some (.cells #[x0, x1, x2, x3, v4] T (0, 0)) := block_set (o := 3) (v := x3) h3
  have h5 : (((((w.setCell ⟨r, 0, none⟩ x0).setCell ⟨r, 1, none⟩ x1).setCell ⟨r, 2, none⟩ x2).setCell ⟨r, 3, none⟩ x3).setCell ⟨r, 4, none⟩ x4).heap[r]? = some (.cells #[x0, x1, x2, x3, x4] T (0, 0)) := block_set (o := 4) (v := x4) h4
  exact h5
def GotPtrOf (w : World) (e : Ending) (w' : World) : Prop := ∃ (a b s m l : Int) (ok : Bool), e = .returned (.tuple #[.agg #[.int .i64 a, .int .i64 b, .int .i64 s, .int .i64 m, .int .i64 l], .bool ok]) ∧ Below w.heap.size w w'
set_option maxRecDepth 100000 in
set_option maxHeartbeats 2000000 in
theorem spPtrOf_any (a b l : Int) (s : ByteArray) (w : World) (hs : s.size ≤ 9223372036854775807) : Calls Tryz.prog 120 #[.int .i64 a, .int .i64 b, .int .i64 l, .string s] w (GotPtrOf w) := by
  go_enter Tryz.func120, Tryz.ntmps120
  go_wp2_with fail
  refine (l2Block_any s _).mono ?_
  generalize inB (s.size : Int) 1 128 = bb
  rintro e w1 ⟨rfl, hw1⟩
  have hb1 : Below ((World.alloc (World.alloc w (.cells #[.int .i64 0, .int .i64 0, .int .i64 0, .int .i64 0, .int .i64 0] 27)) (.cells #[.int .i64 a, .int .i64 b, .int .i64 (s.size : Int), .int .i64 0, .int .i64 l] 27))).heap.size ((World.alloc (World.alloc w (.cells #[.int .i64 0, .int .i64 0, .int .i64 0, .int .i64 0, .int .i64 0] 27)) (.cells #[.int .i64 a, .int .i64 b, .int .i64 (s.size : Int), .int .i64 0, .int .i64 l] 27))) w1 := by rw [← hw1]; exact Below.refl _ _
  clear hw1
  have zz1 : w.heap.size + 2 ≤ w1.heap.size := by have := hb1.size; simp [World.setCell] at this; omega
  have YY1 : Below w.heap.size w (World.alloc (World.alloc w (.cells #[.int .i64 0, .int .i64 0, .int .i64 0, .int .i64 0, .int .i64 0] 27)) (.cells #[.int .i64 a, .int .i64 b, .int .i64 (s.size : Int), .int .i64 0, .int .i64 l] 27)) := (Below.alloc (Below.alloc (Below.refl _ _) (by first | exact Nat.le_refl _ | (simp [World.setCell] <;> omega)) _) (by first | exact Nat.le_refl _ | (simp [World.setCell] <;> omega)) _)
  have X1 : Below w.heap.size w w1 := YY1.trans (hb1.mono YY1.size)
  clear YY1
  have b1_0 : Hid (w1.heap[w.heap.size]? = some (.cells #[.int .i64 0, .int .i64 0, .int .i64 0, .int .i64 0, .int .i64 0] 27 (0, 0))) := Lib.hid ((hb1.block _ (by first | omega | (simp [World.setCell] <;> omega))).trans ((Below.heap_alloc _ _ _ (by first | omega | (simp [World.setCell] <;> omega))).trans (show _ from by have := heap_alloc_new w (.cells #[.int .i64 0, .int .i64 0, .int .i64 0, .int .i64 0, .int .i64 0] 27); simpa [World.setCell] using this)))
  have b1_1 : Hid (w1.heap[w.heap.size + 1]? = some (.cells #[.int .i64 a, .int .i64 b, .int .i64 (s.size : Int), .int .i64 0, .int .i64 l] 27 (0, 0))) := Lib.hid ((hb1.block _ (by first | omega | (simp [World.setCell] <;> omega))).trans (show _ from by have := heap_alloc_new (World.alloc w (.cells #[.int .i64 0, .int .i64 0, .int .i64 0, .int .i64 0, .int .i64 0] 27)) (.cells #[.int .i64 a, .int .i64 b, .int .i64 (s.size : Int), .int .i64 0, .int .i64 l] 27); simpa [World.setCell] using this))
  clear hb1
  have l1_0 : w.heap.size < w1.heap.size := (Array.getElem?_eq_some_iff.1 b1_0.out).1
  have c1_0_0 : w1.cell? ⟨w.heap.size, 0, none⟩ = some (.int .i64 0) := cell_of_row _ _ 0 _ _ (0, 0) b1_0.out
  have f1_0_0 : w1.frozen? ⟨w.heap.size, 0, none⟩ = false := block_free b1_0.out _
  have c1_0_1 : w1.cell? ⟨w.heap.size, 1, none⟩ = some (.int .i64 0) := cell_of_row _ _ 1 _ _ (0, 0) b1_0.out
  have f1_0_1 : w1.frozen? ⟨w.heap.size, 1, none⟩ = false := block_free b1_0.out _
  have c1_0_2 : w1.cell? ⟨w.heap.size, 2, none⟩ = some (.int .i64 0) := cell_of_row _ _ 2 _ _ (0, 0) b1_0.out
  have f1_0_2 : w1.frozen? ⟨w.heap.size, 2, none⟩ = false := block_free b1_0.out _
  have c1_0_3 : w1.cell? ⟨w.heap.size, 3, none⟩ = some (.int .i64 0) := cell_of_row _ _ 3 _ _ (0, 0) b1_0.out
  have f1_0_3 : w1.frozen? ⟨w.heap.size, 3, none⟩ = false := block_free b1_0.out _
  have c1_0_4 : w1.cell? ⟨w.heap.size, 4, none⟩ = some (.int .i64 0) := cell_of_row _ _ 4 _ _ (0, 0) b1_0.out
  have f1_0_4 : w1.frozen? ⟨w.heap.size, 4, none⟩ = false := block_free b1_0.out _
  have l1_1 : w.heap.size + 1 < w1.heap.size := (Array.getElem?_eq_some_iff.1 b1_1.out).1
  have c1_1_0 : w1.cell? ⟨w.heap.size + 1, 0, none⟩ = some (.int .i64 a) := cell_of_row _ _ 0 _ _ (0, 0) b1_1.out
  have f1_1_0 : w1.frozen? ⟨w.heap.size + 1, 0, none⟩ = false := block_free b1_1.out _
  have c1_1_1 : w1.cell? ⟨w.heap.size + 1, 1, none⟩ = some (.int .i64 b) := cell_of_row _ _ 1 _ _ (0, 0) b1_1.out
  have f1_1_1 : w1.frozen? ⟨w.heap.size + 1, 1, none⟩ = false := block_free b1_1.out _
  have c1_1_2 : w1.cell? ⟨w.heap.size + 1, 2, none⟩ = some (.int .i64 (s.size : Int)) := cell_of_row _ _ 2 _ _ (0, 0) b1_1.out
  have f1_1_2 : w1.frozen? ⟨w.heap.size + 1, 2, none⟩ = false := block_free b1_1.out _
  have c1_1_3 : w1.cell? ⟨w.heap.size + 1, 3, none⟩ = some (.int .i64 0) := cell_of_row _ _ 3 _ _ (0, 0) b1_1.out
  have f1_1_3 : w1.frozen? ⟨w.heap.size + 1, 3, none⟩ = false := block_free b1_1.out _
  have c1_1_4 : w1.cell? ⟨w.heap.size + 1, 4, none⟩ = some (.int .i64 l) := cell_of_row _ _ 4 _ _ (0, 0) b1_1.out
  have f1_1_4 : w1.frozen? ⟨w.heap.size + 1, 4, none⟩ = false := block_free b1_1.out _
  cases bb
  case false =>
    have HRR : Hid ((w1).heap[w.heap.size]? = some (.cells #[.int .i64 0, .int .i64 0, .int .i64 0, .int .i64 0, .int .i64 0] 27 (0, 0))) := Lib.hid (b1_0.out)
    have HBL : Hid (Below w.heap.size w w1) := Lib.hid X1
    go_wp2_with fail
    have hst := set_5 (x0 := .int .i64 0) (x1 := .int .i64 0) (x2 := .int .i64 0) (x3 := .int .i64 0) (x4 := .int .i64 0) HRR.out
    have r0 := cell_of_row _ _ 0 _ _ (0, 0) hst
    have r1 := cell_of_row _ _ 1 _ _ (0, 0) hst
    have r2 := cell_of_row _ _ 2 _ _ (0, 0) hst
    have r3 := cell_of_row _ _ 3 _ _ (0, 0) hst
    have r4 := cell_of_row _ _ 4 _ _ (0, 0) hst
    clear hst
    exact bodyPost_ret (v := .tuple #[.agg #[.int .i64 0, .int .i64 0, .int .i64 0, .int .i64 0, .int .i64 0], .bool false]) (by simp [results, Tryz.results120, go_sem, r0, r1, r2, r3, r4]) rfl (⟨_, _, _, _, _, _, rfl, (Below.setCell (p := ⟨w.heap.size, 4, none⟩) (Below.setCell (p := ⟨w.heap.size, 3, none⟩) (Below.setCell (p := ⟨w.heap.size, 2, none⟩) (Below.setCell (p := ⟨w.heap.size, 1, none⟩) (Below.setCell (p := ⟨w.heap.size, 0, none⟩) HBL.out (Nat.le_refl _) _) (Nat.le_refl _) _) (Nat.le_refl _) _) (Nat.le_refl _) _) (Nat.le_refl _) _)⟩)
  go_wp2_with fail
  refine (spSumOf_any s hs _).mono ?_
  generalize ((sumL s.data.toList : Nat) : Int) = m
  rintro e w2 ⟨rfl, hw2⟩
  have hb2 : Below w1.heap.size w1 w2 := by rw [← hw2]; exact Below.refl _ _
  clear hw2
  have zz2 : w1.heap.size ≤ w2.heap.size := by have := hb2.size; simpa [World.setCell] using this
  have YY2 : Below w.heap.size w w1 := X1
  have X2 : Below w.heap.size w w2 := YY2.trans (hb2.mono YY2.size)
  clear YY2
  have b2_0 : Hid (w2.heap[w.heap.size]? = some (.cells #[.int .i64 0, .int .i64 0, .int .i64 0, .int .i64 0, .int .i64 0] 27 (0, 0))) := Lib.hid ((hb2.block _ (by first | omega | (simp [World.setCell] <;> omega))).trans b1_0.out)
  have b2_1 : Hid (w2.heap[w.heap.size + 1]? = some (.cells #[.int .i64 a, .int .i64 b, .int .i64 (s.size : Int), .int .i64 0, .int .i64 l] 27 (0, 0))) := Lib.hid ((hb2.block _ (by first | omega | (simp [World.setCell] <;> omega))).trans b1_1.out)
  clear b1_0 b1_1 X1 zz1 l1_0 c1_0_0 f1_0_0 c1_0_1 f1_0_1 c1_0_2 f1_0_2 c1_0_3 f1_0_3 c1_0_4 f1_0_4 l1_1 c1_1_0 f1_1_0 c1_1_1 f1_1_1 c1_1_2 f1_1_2 c1_1_3 f1_1_3 c1_1_4 f1_1_4 hb2
  have l2_0 : w.heap.size < w2.heap.size := (Array.getElem?_eq_some_iff.1 b2_0.out).1
  have c2_0_0 : w2.cell? ⟨w.heap.size, 0, none⟩ = some (.int .i64 0) := cell_of_row _ _ 0 _ _ (0, 0) b2_0.out
  have f2_0_0 : w2.frozen? ⟨w.heap.size, 0, none⟩ = false := block_free b2_0.out _
  have c2_0_1 : w2.cell? ⟨w.heap.size, 1, none⟩ = some (.int .i64 0) := cell_of_row _ _ 1 _ _ (0, 0) b2_0.out
  have f2_0_1 : w2.frozen? ⟨w.heap.size, 1, none⟩ = false := block_free b2_0.out _
  have c2_0_2 : w2.cell? ⟨w.heap.size, 2, none⟩ = some (.int .i64 0) := cell_of_row _ _ 2 _ _ (0, 0) b2_0.out
  have f2_0_2 : w2.frozen? ⟨w.heap.size, 2, none⟩ = false := block_free b2_0.out _
  have c2_0_3 : w2.cell? ⟨w.heap.size, 3, none⟩ = some (.int .i64 0) := cell_of_row _ _ 3 _ _ (0, 0) b2_0.out
  have f2_0_3 : w2.frozen? ⟨w.heap.size, 3, none⟩ = false := block_free b2_0.out _
  have c2_0_4 : w2.cell? ⟨w.heap.size, 4, none⟩ = some (.int .i64 0) := cell_of_row _ _ 4 _ _ (0, 0) b2_0.out
  have f2_0_4 : w2.frozen? ⟨w.heap.size, 4, none⟩ = false := block_free b2_0.out _
  have l2_1 : w.heap.size + 1 < w2.heap.size := (Array.getElem?_eq_some_iff.1 b2_1.out).1
  have c2_1_0 : w2.cell? ⟨w.heap.size + 1, 0, none⟩ = some (.int .i64 a) := cell_of_row _ _ 0 _ _ (0, 0) b2_1.out
  have f2_1_0 : w2.frozen? ⟨w.heap.size + 1, 0, none⟩ = false := block_free b2_1.out _
  have c2_1_1 : w2.cell? ⟨w.heap.size + 1, 1, none⟩ = some (.int .i64 b) := cell_of_row _ _ 1 _ _ (0, 0) b2_1.out
  have f2_1_1 : w2.frozen? ⟨w.heap.size + 1, 1, none⟩ = false := block_free b2_1.out _
  have c2_1_2 : w2.cell? ⟨w.heap.size + 1, 2, none⟩ = some (.int .i64 (s.size : Int)) := cell_of_row _ _ 2 _ _ (0, 0) b2_1.out
  have f2_1_2 : w2.frozen? ⟨w.heap.size + 1, 2, none⟩ = false := block_free b2_1.out _
  have c2_1_3 : w2.cell? ⟨w.heap.size + 1, 3, none⟩ = some (.int .i64 0) := cell_of_row _ _ 3 _ _ (0, 0) b2_1.out
  have f2_1_3 : w2.frozen? ⟨w.heap.size + 1, 3, none⟩ = false := block_free b2_1.out _
  have c2_1_4 : w2.cell? ⟨w.heap.size + 1, 4, none⟩ = some (.int .i64 l) := cell_of_row _ _ 4 _ _ (0, 0) b2_1.out
  have f2_1_4 : w2.frozen? ⟨w.heap.size + 1, 4, none⟩ = false := block_free b2_1.out _
  go_wp2_with fail
  refine (spPtrOk_any a b (s.size : Int) m l _).mono ?_
  generalize ptrOkB a b (s.size : Int) m l = bk
  rintro e w3 ⟨rfl, hb3⟩
  have zz3 : w2.heap.size ≤ w3.heap.size := by have := hb3.size; simpa [World.setCell] using this
  have YY3 : Below w.heap.size w (World.setCell w2 ⟨w.heap.size + 1, 3, none⟩ (.int .i64 m)) := (Below.setCell (p := ⟨w.heap.size + 1, 3, none⟩) X2 (by have := X2.size; simp <;> omega) _)
  have X3 : Below w.heap.size w w3 := YY3.trans (hb3.mono YY3.size)
  clear YY3
  have b3_0 : Hid (w3.heap[w.heap.size]? = some (.cells #[.int .i64 0, .int .i64 0, .int .i64 0, .int .i64 0, .int .i64 0] 27 (0, 0))) := Lib.hid ((hb3.block _ (by first | omega | (simp [World.setCell] <;> omega))).trans ((heap_far (by first | omega | (simp <;> omega))).trans b2_0.out))
  have b3_1 : Hid (w3.heap[w.heap.size + 1]? = some (.cells #[.int .i64 a, .int .i64 b, .int .i64 (s.size : Int), .int .i64 m, .int .i64 l] 27 (0, 0))) := Lib.hid ((hb3.block _ (by first | omega | (simp [World.setCell] <;> omega))).trans (block_set b2_1.out))
  clear b2_0 b2_1 X2 zz2 l2_0 c2_0_0 f2_0_0 c2_0_1 f2_0_1 c2_0_2 f2_0_2 c2_0_3 f2_0_3 c2_0_4 f2_0_4 l2_1 c2_1_0 f2_1_0 c2_1_1 f2_1_1 c2_1_2 f2_1_2 c2_1_3 f2_1_3 c2_1_4 f2_1_4 hb3
  have l3_0 : w.heap.size < w3.heap.size := (Array.getElem?_eq_some_iff.1 b3_0.out).1
  have c3_0_0 : w3.cell? ⟨w.heap.size, 0, none⟩ = some (.int .i64 0) := cell_of_row _ _ 0 _ _ (0, 0) b3_0.out
  have f3_0_0 : w3.frozen? ⟨w.heap.size, 0, none⟩ = false := block_free b3_0.out _
  have c3_0_1 : w3.cell? ⟨w.heap.size, 1, none⟩ = some (.int .i64 0) := cell_of_row _ _ 1 _ _ (0, 0) b3_0.out
  have f3_0_1 : w3.frozen? ⟨w.heap.size, 1, none⟩ = false := block_free b3_0.out _
  have c3_0_2 : w3.cell? ⟨w.heap.size, 2, none⟩ = some (.int .i64 0) := cell_of_row _ _ 2 _ _ (0, 0) b3_0.out
  have f3_0_2 : w3.frozen? ⟨w.heap.size, 2, none⟩ = false := block_free b3_0.out _
  have c3_0_3 : w3.cell? ⟨w.heap.size, 3, none⟩ = some (.int .i64 0) := cell_of_row _ _ 3 _ _ (0, 0) b3_0.out
  have f3_0_3 : w3.frozen? ⟨w.heap.size, 3, none⟩ = false := block_free b3_0.out _
  have c3_0_4 : w3.cell? ⟨w.heap.size, 4, none⟩ = some (.int .i64 0) := cell_of_row _ _ 4 _ _ (0, 0) b3_0.out
  have f3_0_4 : w3.frozen? ⟨w.heap.size, 4, none⟩ = false := block_free b3_0.out _
  have l3_1 : w.heap.size + 1 < w3.heap.size := (Array.getElem?_eq_some_iff.1 b3_1.out).1
  have c3_1_0 : w3.cell? ⟨w.heap.size + 1, 0, none⟩ = some (.int .i64 a) := cell_of_row _ _ 0 _ _ (0, 0) b3_1.out
  have f3_1_0 : w3.frozen? ⟨w.heap.size + 1, 0, none⟩ = false := block_free b3_1.out _
  have c3_1_1 : w3.cell? ⟨w.heap.size + 1, 1, none⟩ = some (.int .i64 b) := cell_of_row _ _ 1 _ _ (0, 0) b3_1.out
  have f3_1_1 : w3.frozen? ⟨w.heap.size + 1, 1, none⟩ = false := block_free b3_1.out _
  have c3_1_2 : w3.cell? ⟨w.heap.size + 1, 2, none⟩ = some (.int .i64 (s.size : Int)) := cell_of_row _ _ 2 _ _ (0, 0) b3_1.out
  have f3_1_2 : w3.frozen? ⟨w.heap.size + 1, 2, none⟩ = false := block_free b3_1.out _
  have c3_1_3 : w3.cell? ⟨w.heap.size + 1, 3, none⟩ = some (.int .i64 m) := cell_of_row _ _ 3 _ _ (0, 0) b3_1.out
  have f3_1_3 : w3.frozen? ⟨w.heap.size + 1, 3, none⟩ = false := block_free b3_1.out _
  have c3_1_4 : w3.cell? ⟨w.heap.size + 1, 4, none⟩ = some (.int .i64 l) := cell_of_row _ _ 4 _ _ (0, 0) b3_1.out
  have f3_1_4 : w3.frozen? ⟨w.heap.size + 1, 4, none⟩ = false := block_free b3_1.out _
  cases bk
  case false =>
    have HRR : Hid ((w3).heap[w.heap.size]? = some (.cells #[.int .i64 0, .int .i64 0, .int .i64 0, .int .i64 0, .int .i64 0] 27 (0, 0))) := Lib.hid (b3_0.out)
    have HBL : Hid (Below w.heap.size w w3) := Lib.hid X3
    go_wp2_with fail
    have hst := set_5 (x0 := .int .i64 0) (x1 := .int .i64 0) (x2 := .int .i64 0) (x3 := .int .i64 0) (x4 := .int .i64 0) HRR.out
    have r0 := cell_of_row _ _ 0 _ _ (0, 0) hst
    have r1 := cell_of_row _ _ 1 _ _ (0, 0) hst
    have r2 := cell_of_row _ _ 2 _ _ (0, 0) hst
    have r3 := cell_of_row _ _ 3 _ _ (0, 0) hst
    have r4 := cell_of_row _ _ 4 _ _ (0, 0) hst
    clear hst
    exact bodyPost_ret (v := .tuple #[.agg #[.int .i64 0, .int .i64 0, .int .i64 0, .int .i64 0, .int .i64 0], .bool false]) (by simp [results, Tryz.results120, go_sem, r0, r1, r2, r3, r4]) rfl (⟨_, _, _, _, _, _, rfl, (Below.setCell (p := ⟨w.heap.size, 4, none⟩) (Below.setCell (p := ⟨w.heap.size, 3, none⟩) (Below.setCell (p := ⟨w.heap.size, 2, none⟩) (Below.setCell (p := ⟨w.heap.size, 1, none⟩) (Below.setCell (p := ⟨w.heap.size, 0, none⟩) HBL.out (Nat.le_refl _) _) (Nat.le_refl _) _) (Nat.le_refl _) _) (Nat.le_refl _) _) (Nat.le_refl _) _)⟩)
  case true =>
    have HRR : Hid ((w3).heap[w.heap.size]? = some (.cells #[.int .i64 0, .int .i64 0, .int .i64 0, .int .i64 0, .int .i64 0] 27 (0, 0))) := Lib.hid (b3_0.out)
    have HBL : Hid (Below w.heap.size w w3) := Lib.hid X3
    go_wp2_with fail
    have hst := set_5 (x0 := .int .i64 a) (x1 := .int .i64 b) (x2 := .int .i64 (s.size : Int)) (x3 := .int .i64 m) (x4 := .int .i64 l) HRR.out
    have r0 := cell_of_row _ _ 0 _ _ (0, 0) hst
    have r1 := cell_of_row _ _ 1 _ _ (0, 0) hst
    have r2 := cell_of_row _ _ 2 _ _ (0, 0) hst
    have r3 := cell_of_row _ _ 3 _ _ (0, 0) hst
    have r4 := cell_of_row _ _ 4 _ _ (0, 0) hst
    clear hst
    exact bodyPost_ret (v := .tuple #[.agg #[.int .i64 a, .int .i64 b, .int .i64 (s.size : Int), .int .i64 m, .int .i64 l], .bool true]) (by simp [results, Tryz.results120, go_sem, r0, r1, r2, r3, r4]) rfl (⟨_, _, _, _, _, _, rfl, (Below.setCell (p := ⟨w.heap.size, 4, none⟩) (Below.setCell (p := ⟨w.heap.size, 3, none⟩) (Below.setCell (p := ⟨w.heap.size, 2, none⟩) (Below.setCell (p := ⟨w.heap.size, 1, none⟩) (Below.setCell (p := ⟨w.heap.size, 0, none⟩) HBL.out (Nat.le_refl _) _) (Nat.le_refl _) _) (Nat.le_refl _) _) (Nat.le_refl _) _) (Nat.le_refl _) _)⟩)
/-- A pointer drawn. -/
def PickedPtr (w : World) (p : Nat) (A : Option Addr) (n c : Nat) (zs : List Int) (k : Nat) (e : Ending) (w' : World) : Prop :=
  ∃ (a b s m l : Int) (k' : Nat), e = .returned (.agg #[.int .i64 a, .int .i64 b, .int .i64 s, .int .i64 m, .int .i64 l]) ∧ k' ≤ k + 30 ∧ Rd w' p A n c zs k' ∧ Chg (· ∈ [p]) w w'
theorem t_len {s : ByteArray} (h : s.size ≤ 9) : ((⟨#[116]⟩ : ByteArray) ++ s).size ≤ 10 := by
  have e : (⟨#[116]⟩ : ByteArray).size = 1 := rfl
  rw [ByteArray.size_append]; omega
set_option maxRecDepth 100000 in
set_option maxHeartbeats 4000000 in
theorem l91Ptr_any (w : World) (p : Nat) (A : Option Addr) (n c : Nat) (zs : List Int) (k : Nat) (h : Rd w p A n c zs k) (hk : k ≤ 800000) :
    Calls Tryz.prog 87 #[.pointer (some ⟨p, 0, none⟩)] w (PickedPtr w p A n c zs k) := by
  have hp := h.2.2.2.1
  go_enter Tryz.func87, Tryz.ntmps87
  go_wp2_with fail
  refine (pick_any _ p A n c zs (k) 5 (Rd.below h bel1) (by omega) (by omega) (by omega)).mono ?_
  rintro e w1 ⟨q1, rfl, hq1, rd1, hc1, hz1⟩
  have hq1 := hq1 (by omega)
  clear hz1
  have zz1 : w.heap.size + 1 ≤ w1.heap.size := by have := hc1.size; (try simp [World.setCell] at this); omega
  have X1 : Hid (Chg (· ∈ [p]) w w1) := Lib.hid ((Chg.alloc (Chg.refl _ _) _).trans hc1)
  have b1_0 : Hid (w1.heap[w.heap.size]? = some (.cells #[.int .i64 0, .int .i64 0, .int .i64 0, .int .i64 0, .int .i64 0] 27 (0, 0))) := Lib.hid ((hc1.block _ (by first | omega | (simp [World.setCell] <;> omega)) (by simp <;> omega)).trans (show _ from by have := heap_alloc_new w (.cells #[.int .i64 0, .int .i64 0, .int .i64 0, .int .i64 0, .int .i64 0] 27); simpa [World.setCell] using this))
  have R1 : Hid (Rd w1 p A n c zs (k + 1)) := Lib.hid rd1
  have pl1 : p < w1.heap.size := by omega
  clear hc1 rd1
  have l1_0 : w.heap.size < w1.heap.size := (Array.getElem?_eq_some_iff.1 b1_0.out).1
  have c1_0_0 : w1.cell? ⟨w.heap.size, 0, none⟩ = some (.int .i64 0) := cell_of_row _ _ 0 _ _ (0, 0) b1_0.out
  have f1_0_0 : w1.frozen? ⟨w.heap.size, 0, none⟩ = false := block_free b1_0.out _
  have c1_0_1 : w1.cell? ⟨w.heap.size, 1, none⟩ = some (.int .i64 0) := cell_of_row _ _ 1 _ _ (0, 0) b1_0.out
  have f1_0_1 : w1.frozen? ⟨w.heap.size, 1, none⟩ = false := block_free b1_0.out _
  have c1_0_2 : w1.cell? ⟨w.heap.size, 2, none⟩ = some (.int .i64 0) := cell_of_row _ _ 2 _ _ (0, 0) b1_0.out
  have f1_0_2 : w1.frozen? ⟨w.heap.size, 2, none⟩ = false := block_free b1_0.out _
  have c1_0_3 : w1.cell? ⟨w.heap.size, 3, none⟩ = some (.int .i64 0) := cell_of_row _ _ 3 _ _ (0, 0) b1_0.out
  have f1_0_3 : w1.frozen? ⟨w.heap.size, 3, none⟩ = false := block_free b1_0.out _
  have c1_0_4 : w1.cell? ⟨w.heap.size, 4, none⟩ = some (.int .i64 0) := cell_of_row _ _ 4 _ _ (0, 0) b1_0.out
  have f1_0_4 : w1.frozen? ⟨w.heap.size, 4, none⟩ = false := block_free b1_0.out _
  by_cases h0 : q1 = 0
  case pos =>
    have e0 : ((q1 : Int) == 0) = true := by simp [h0]
    clear h0
    go_wp2_with fail
    have hrr : (w1).heap[w.heap.size]? = some (.cells #[.int .i64 0, .int .i64 0, .int .i64 0, .int .i64 0, .int .i64 0] 27 (0, 0)) := b1_0.out
    have hst := set_5 (x0 := .int .i64 0) (x1 := .int .i64 0) (x2 := .int .i64 0) (x3 := .int .i64 0) (x4 := .int .i64 0) hrr
    clear hrr
    have r0 := cell_of_row _ _ 0 _ _ (0, 0) hst
    have r1 := cell_of_row _ _ 1 _ _ (0, 0) hst
    have r2 := cell_of_row _ _ 2 _ _ (0, 0) hst
    have r3 := cell_of_row _ _ 3 _ _ (0, 0) hst
    have r4 := cell_of_row _ _ 4 _ _ (0, 0) hst
    clear hst
    exact bodyPost_ret (v := .agg #[.int .i64 0, .int .i64 0, .int .i64 0, .int .i64 0, .int .i64 0]) (by simp [results, Tryz.results87, go_sem, r0, r1, r2, r3, r4]) rfl ⟨_, _, _, _, _, _, rfl, by omega, (Rd.set h (Rd.set h (Rd.set h (Rd.set h (Rd.set h R1.out (a := ⟨w.heap.size, 0, none⟩) (by first | exact Nat.le_refl _ | (dsimp only; omega)) _) (a := ⟨w.heap.size, 1, none⟩) (by first | exact Nat.le_refl _ | (dsimp only; omega)) _) (a := ⟨w.heap.size, 2, none⟩) (by first | exact Nat.le_refl _ | (dsimp only; omega)) _) (a := ⟨w.heap.size, 3, none⟩) (by first | exact Nat.le_refl _ | (dsimp only; omega)) _) (a := ⟨w.heap.size, 4, none⟩) (by first | exact Nat.le_refl _ | (dsimp only; omega)) _), (Chg.setCell (p := ⟨w.heap.size, 4, none⟩) (Chg.setCell (p := ⟨w.heap.size, 3, none⟩) (Chg.setCell (p := ⟨w.heap.size, 2, none⟩) (Chg.setCell (p := ⟨w.heap.size, 1, none⟩) (Chg.setCell (p := ⟨w.heap.size, 0, none⟩) X1.out (.inr (by first | exact Nat.le_refl _ | (dsimp only; omega))) _) (.inr (by first | exact Nat.le_refl _ | (dsimp only; omega))) _) (.inr (by first | exact Nat.le_refl _ | (dsimp only; omega))) _) (.inr (by first | exact Nat.le_refl _ | (dsimp only; omega))) _) (.inr (by first | exact Nat.le_refl _ | (dsimp only; omega))) _)⟩
  have e0 : ((q1 : Int) == 0) = false := by simp [h0]
  clear h0
  go_wp2_with fail
  refine (pick_any _ p A n c zs (k + 1) 12 R1.out (by omega) (by omega) (by omega)).mono ?_
  rintro e w2 ⟨q2, rfl, hq2, rd2, hc2, hz2⟩
  have hq2 := hq2 (by omega)
  clear hz2
  have zz2 : w1.heap.size + 0 ≤ w2.heap.size := by have := hc2.size; (try simp [World.setCell] at this); omega
  have X2 : Hid (Chg (· ∈ [p]) w w2) := Lib.hid (X1.out.trans hc2)
  have b2_0 : Hid (w2.heap[w.heap.size]? = some (.cells #[.int .i64 0, .int .i64 0, .int .i64 0, .int .i64 0, .int .i64 0] 27 (0, 0))) := Lib.hid ((hc2.block _ (by first | omega | (simp [World.setCell] <;> omega)) (by simp <;> omega)).trans b1_0.out)
  have R2 : Hid (Rd w2 p A n c zs (k + 1 + 1)) := Lib.hid rd2
  have pl2 : p < w2.heap.size := by omega
  clear b1_0 X1 R1 pl1 l1_0 c1_0_0 f1_0_0 c1_0_1 f1_0_1 c1_0_2 f1_0_2 c1_0_3 f1_0_3 c1_0_4 f1_0_4 hc2 rd2
  have l2_0 : w.heap.size < w2.heap.size := (Array.getElem?_eq_some_iff.1 b2_0.out).1
  have c2_0_0 : w2.cell? ⟨w.heap.size, 0, none⟩ = some (.int .i64 0) := cell_of_row _ _ 0 _ _ (0, 0) b2_0.out
  have f2_0_0 : w2.frozen? ⟨w.heap.size, 0, none⟩ = false := block_free b2_0.out _
  have c2_0_1 : w2.cell? ⟨w.heap.size, 1, none⟩ = some (.int .i64 0) := cell_of_row _ _ 1 _ _ (0, 0) b2_0.out
  have f2_0_1 : w2.frozen? ⟨w.heap.size, 1, none⟩ = false := block_free b2_0.out _
  have c2_0_2 : w2.cell? ⟨w.heap.size, 2, none⟩ = some (.int .i64 0) := cell_of_row _ _ 2 _ _ (0, 0) b2_0.out
  have f2_0_2 : w2.frozen? ⟨w.heap.size, 2, none⟩ = false := block_free b2_0.out _
  have c2_0_3 : w2.cell? ⟨w.heap.size, 3, none⟩ = some (.int .i64 0) := cell_of_row _ _ 3 _ _ (0, 0) b2_0.out
  have f2_0_3 : w2.frozen? ⟨w.heap.size, 3, none⟩ = false := block_free b2_0.out _
  have c2_0_4 : w2.cell? ⟨w.heap.size, 4, none⟩ = some (.int .i64 0) := cell_of_row _ _ 4 _ _ (0, 0) b2_0.out
  have f2_0_4 : w2.frozen? ⟨w.heap.size, 4, none⟩ = false := block_free b2_0.out _
  go_wp2_with fail
  refine (pick_any _ p A n c zs (k + 1 + 1) 9 R2.out (by omega) (by omega) (by omega)).mono ?_
  rintro e w3 ⟨q3, rfl, hq3, rd3, hc3, hz3⟩
  have hq3 := hq3 (by omega)
  clear hz3
  have zz3 : w2.heap.size + 0 ≤ w3.heap.size := by have := hc3.size; (try simp [World.setCell] at this); omega
  have X3 : Hid (Chg (· ∈ [p]) w w3) := Lib.hid (X2.out.trans hc3)
  have b3_0 : Hid (w3.heap[w.heap.size]? = some (.cells #[.int .i64 0, .int .i64 0, .int .i64 0, .int .i64 0, .int .i64 0] 27 (0, 0))) := Lib.hid ((hc3.block _ (by first | omega | (simp [World.setCell] <;> omega)) (by simp <;> omega)).trans b2_0.out)
  have R3 : Hid (Rd w3 p A n c zs (k + 1 + 1 + 1)) := Lib.hid rd3
  have pl3 : p < w3.heap.size := by omega
  clear b2_0 X2 R2 pl2 l2_0 c2_0_0 f2_0_0 c2_0_1 f2_0_1 c2_0_2 f2_0_2 c2_0_3 f2_0_3 c2_0_4 f2_0_4 hc3 rd3
  have l3_0 : w.heap.size < w3.heap.size := (Array.getElem?_eq_some_iff.1 b3_0.out).1
  have c3_0_0 : w3.cell? ⟨w.heap.size, 0, none⟩ = some (.int .i64 0) := cell_of_row _ _ 0 _ _ (0, 0) b3_0.out
  have f3_0_0 : w3.frozen? ⟨w.heap.size, 0, none⟩ = false := block_free b3_0.out _
  have c3_0_1 : w3.cell? ⟨w.heap.size, 1, none⟩ = some (.int .i64 0) := cell_of_row _ _ 1 _ _ (0, 0) b3_0.out
  have f3_0_1 : w3.frozen? ⟨w.heap.size, 1, none⟩ = false := block_free b3_0.out _
  have c3_0_2 : w3.cell? ⟨w.heap.size, 2, none⟩ = some (.int .i64 0) := cell_of_row _ _ 2 _ _ (0, 0) b3_0.out
  have f3_0_2 : w3.frozen? ⟨w.heap.size, 2, none⟩ = false := block_free b3_0.out _
  have c3_0_3 : w3.cell? ⟨w.heap.size, 3, none⟩ = some (.int .i64 0) := cell_of_row _ _ 3 _ _ (0, 0) b3_0.out
  have f3_0_3 : w3.frozen? ⟨w.heap.size, 3, none⟩ = false := block_free b3_0.out _
  have c3_0_4 : w3.cell? ⟨w.heap.size, 4, none⟩ = some (.int .i64 0) := cell_of_row _ _ 4 _ _ (0, 0) b3_0.out
  have f3_0_4 : w3.frozen? ⟨w.heap.size, 4, none⟩ = false := block_free b3_0.out _
  go_wp2_with fail
  refine (pick_any _ p A n c zs (k + 1 + 1 + 1) 3 R3.out (by omega) (by omega) (by omega)).mono ?_
  rintro e w4 ⟨q4, rfl, hq4, rd4, hc4, hz4⟩
  have hq4 := hq4 (by omega)
  clear hz4
  have zz4 : w3.heap.size + 0 ≤ w4.heap.size := by have := hc4.size; (try simp [World.setCell] at this); omega
  have X4 : Hid (Chg (· ∈ [p]) w w4) := Lib.hid (X3.out.trans hc4)
  have b4_0 : Hid (w4.heap[w.heap.size]? = some (.cells #[.int .i64 0, .int .i64 0, .int .i64 0, .int .i64 0, .int .i64 0] 27 (0, 0))) := Lib.hid ((hc4.block _ (by first | omega | (simp [World.setCell] <;> omega)) (by simp <;> omega)).trans b3_0.out)
  have R4 : Hid (Rd w4 p A n c zs (k + 1 + 1 + 1 + 1)) := Lib.hid rd4
  have pl4 : p < w4.heap.size := by omega
  clear b3_0 X3 R3 pl3 l3_0 c3_0_0 f3_0_0 c3_0_1 f3_0_1 c3_0_2 f3_0_2 c3_0_3 f3_0_3 c3_0_4 f3_0_4 hc4 rd4
  have l4_0 : w.heap.size < w4.heap.size := (Array.getElem?_eq_some_iff.1 b4_0.out).1
  have c4_0_0 : w4.cell? ⟨w.heap.size, 0, none⟩ = some (.int .i64 0) := cell_of_row _ _ 0 _ _ (0, 0) b4_0.out
  have f4_0_0 : w4.frozen? ⟨w.heap.size, 0, none⟩ = false := block_free b4_0.out _
  have c4_0_1 : w4.cell? ⟨w.heap.size, 1, none⟩ = some (.int .i64 0) := cell_of_row _ _ 1 _ _ (0, 0) b4_0.out
  have f4_0_1 : w4.frozen? ⟨w.heap.size, 1, none⟩ = false := block_free b4_0.out _
  have c4_0_2 : w4.cell? ⟨w.heap.size, 2, none⟩ = some (.int .i64 0) := cell_of_row _ _ 2 _ _ (0, 0) b4_0.out
  have f4_0_2 : w4.frozen? ⟨w.heap.size, 2, none⟩ = false := block_free b4_0.out _
  have c4_0_3 : w4.cell? ⟨w.heap.size, 3, none⟩ = some (.int .i64 0) := cell_of_row _ _ 3 _ _ (0, 0) b4_0.out
  have f4_0_3 : w4.frozen? ⟨w.heap.size, 3, none⟩ = false := block_free b4_0.out _
  have c4_0_4 : w4.cell? ⟨w.heap.size, 4, none⟩ = some (.int .i64 0) := cell_of_row _ _ 4 _ _ (0, 0) b4_0.out
  have f4_0_4 : w4.frozen? ⟨w.heap.size, 4, none⟩ = false := block_free b4_0.out _
  go_wp2_with fail
  refine (l91Text_any _ p A n c zs (k + 1 + 1 + 1 + 1) 9 R4.out (by omega) (by omega)).mono ?_
  rintro e w5 ⟨s, k5, rfl, hs5, hk5, rd5, hc5⟩
  have zz5 : w4.heap.size + 0 ≤ w5.heap.size := by have := hc5.size; (try simp [World.setCell] at this); omega
  have X5 : Hid (Chg (· ∈ [p]) w w5) := Lib.hid (X4.out.trans hc5)
  have b5_0 : Hid (w5.heap[w.heap.size]? = some (.cells #[.int .i64 0, .int .i64 0, .int .i64 0, .int .i64 0, .int .i64 0] 27 (0, 0))) := Lib.hid ((hc5.block _ (by first | omega | (simp [World.setCell] <;> omega)) (by simp <;> omega)).trans b4_0.out)
  have R5 : Hid (Rd w5 p A n c zs (k5)) := Lib.hid rd5
  have pl5 : p < w5.heap.size := by omega
  clear b4_0 X4 R4 pl4 l4_0 c4_0_0 f4_0_0 c4_0_1 f4_0_1 c4_0_2 f4_0_2 c4_0_3 f4_0_3 c4_0_4 f4_0_4 hc5 rd5
  have l5_0 : w.heap.size < w5.heap.size := (Array.getElem?_eq_some_iff.1 b5_0.out).1
  have c5_0_0 : w5.cell? ⟨w.heap.size, 0, none⟩ = some (.int .i64 0) := cell_of_row _ _ 0 _ _ (0, 0) b5_0.out
  have f5_0_0 : w5.frozen? ⟨w.heap.size, 0, none⟩ = false := block_free b5_0.out _
  have c5_0_1 : w5.cell? ⟨w.heap.size, 1, none⟩ = some (.int .i64 0) := cell_of_row _ _ 1 _ _ (0, 0) b5_0.out
  have f5_0_1 : w5.frozen? ⟨w.heap.size, 1, none⟩ = false := block_free b5_0.out _
  have c5_0_2 : w5.cell? ⟨w.heap.size, 2, none⟩ = some (.int .i64 0) := cell_of_row _ _ 2 _ _ (0, 0) b5_0.out
  have f5_0_2 : w5.frozen? ⟨w.heap.size, 2, none⟩ = false := block_free b5_0.out _
  have c5_0_3 : w5.cell? ⟨w.heap.size, 3, none⟩ = some (.int .i64 0) := cell_of_row _ _ 3 _ _ (0, 0) b5_0.out
  have f5_0_3 : w5.frozen? ⟨w.heap.size, 3, none⟩ = false := block_free b5_0.out _
  have c5_0_4 : w5.cell? ⟨w.heap.size, 4, none⟩ = some (.int .i64 0) := cell_of_row _ _ 4 _ _ (0, 0) b5_0.out
  have f5_0_4 : w5.frozen? ⟨w.heap.size, 4, none⟩ = false := block_free b5_0.out _
  have hsz : ¬ (9223372036854775807 < 1 + s.size) := by omega
  have hsz2 : 1 + s.size ≤ 9223372036854775807 := by omega
  go_wp2_with fail
  refine (spPtrOf_any _ _ _ _ _ (by have := t_len hs5; omega)).mono ?_
  rintro e w6 ⟨a, b, s', m, l, ok, rfl, hb6⟩
  have zz6 : w5.heap.size + 0 ≤ w6.heap.size := by have := hb6.size; (try simp [World.setCell] at this); omega
  have X6 : Hid (Chg (· ∈ [p]) w w6) := Lib.hid (X5.out.trans (Chg.of_below hb6 _))
  have b6_0 : Hid (w6.heap[w.heap.size]? = some (.cells #[.int .i64 0, .int .i64 0, .int .i64 0, .int .i64 0, .int .i64 0] 27 (0, 0))) := Lib.hid ((hb6.block _ (by first | omega | (simp [World.setCell] <;> omega))).trans b5_0.out)
  have R6 : Hid (Rd w6 p A n c zs (k5)) := Lib.hid (Rd.below R5.out hb6)
  have pl6 : p < w6.heap.size := by omega
  clear b5_0 X5 R5 pl5 l5_0 c5_0_0 f5_0_0 c5_0_1 f5_0_1 c5_0_2 f5_0_2 c5_0_3 f5_0_3 c5_0_4 f5_0_4 hb6
  have l6_0 : w.heap.size < w6.heap.size := (Array.getElem?_eq_some_iff.1 b6_0.out).1
  have c6_0_0 : w6.cell? ⟨w.heap.size, 0, none⟩ = some (.int .i64 0) := cell_of_row _ _ 0 _ _ (0, 0) b6_0.out
  have f6_0_0 : w6.frozen? ⟨w.heap.size, 0, none⟩ = false := block_free b6_0.out _
  have c6_0_1 : w6.cell? ⟨w.heap.size, 1, none⟩ = some (.int .i64 0) := cell_of_row _ _ 1 _ _ (0, 0) b6_0.out
  have f6_0_1 : w6.frozen? ⟨w.heap.size, 1, none⟩ = false := block_free b6_0.out _
  have c6_0_2 : w6.cell? ⟨w.heap.size, 2, none⟩ = some (.int .i64 0) := cell_of_row _ _ 2 _ _ (0, 0) b6_0.out
  have f6_0_2 : w6.frozen? ⟨w.heap.size, 2, none⟩ = false := block_free b6_0.out _
  have c6_0_3 : w6.cell? ⟨w.heap.size, 3, none⟩ = some (.int .i64 0) := cell_of_row _ _ 3 _ _ (0, 0) b6_0.out
  have f6_0_3 : w6.frozen? ⟨w.heap.size, 3, none⟩ = false := block_free b6_0.out _
  have c6_0_4 : w6.cell? ⟨w.heap.size, 4, none⟩ = some (.int .i64 0) := cell_of_row _ _ 4 _ _ (0, 0) b6_0.out
  have f6_0_4 : w6.frozen? ⟨w.heap.size, 4, none⟩ = false := block_free b6_0.out _
  go_wp2_with fail
  refine (pick_any _ p A n c zs (k5) 24 (Rd.below R6.out bel1) (by omega) (by omega) (by omega)).mono ?_
  rintro e w7 ⟨q5, rfl, hq5, rd7, hc7, hz7⟩
  have hq5 := hq5 (by omega)
  clear hz7
  have zz7 : w6.heap.size + 1 ≤ w7.heap.size := by have := hc7.size; (try simp [World.setCell] at this); omega
  have X7 : Hid (Chg (· ∈ [p]) w w7) := Lib.hid ((Chg.alloc X6.out _).trans hc7)
  have b7_0 : Hid (w7.heap[w.heap.size]? = some (.cells #[.int .i64 0, .int .i64 0, .int .i64 0, .int .i64 0, .int .i64 0] 27 (0, 0))) := Lib.hid ((hc7.block _ (by first | omega | (simp [World.setCell] <;> omega)) (by simp <;> omega)).trans ((Below.heap_alloc _ _ _ (by first | omega | (simp [World.setCell] <;> omega))).trans b6_0.out))
  have b7_1 : Hid (w7.heap[w6.heap.size]? = some (.cells #[.int .i64 a, .int .i64 b, .int .i64 s', .int .i64 m, .int .i64 l] 27 (0, 0))) := Lib.hid ((hc7.block _ (by first | omega | (simp [World.setCell] <;> omega)) (by simp <;> omega)).trans (show _ from by have := heap_alloc_new w6 (.cells #[.int .i64 a, .int .i64 b, .int .i64 s', .int .i64 m, .int .i64 l] 27); simpa [World.setCell] using this))
  have R7 : Hid (Rd w7 p A n c zs (k5 + 1)) := Lib.hid rd7
  have pl7 : p < w7.heap.size := by omega
  clear b6_0 X6 R6 pl6 l6_0 c6_0_0 f6_0_0 c6_0_1 f6_0_1 c6_0_2 f6_0_2 c6_0_3 f6_0_3 c6_0_4 f6_0_4 hc7 rd7
  have l7_0 : w.heap.size < w7.heap.size := (Array.getElem?_eq_some_iff.1 b7_0.out).1
  have c7_0_0 : w7.cell? ⟨w.heap.size, 0, none⟩ = some (.int .i64 0) := cell_of_row _ _ 0 _ _ (0, 0) b7_0.out
  have f7_0_0 : w7.frozen? ⟨w.heap.size, 0, none⟩ = false := block_free b7_0.out _
  have c7_0_1 : w7.cell? ⟨w.heap.size, 1, none⟩ = some (.int .i64 0) := cell_of_row _ _ 1 _ _ (0, 0) b7_0.out
  have f7_0_1 : w7.frozen? ⟨w.heap.size, 1, none⟩ = false := block_free b7_0.out _
  have c7_0_2 : w7.cell? ⟨w.heap.size, 2, none⟩ = some (.int .i64 0) := cell_of_row _ _ 2 _ _ (0, 0) b7_0.out
  have f7_0_2 : w7.frozen? ⟨w.heap.size, 2, none⟩ = false := block_free b7_0.out _
  have c7_0_3 : w7.cell? ⟨w.heap.size, 3, none⟩ = some (.int .i64 0) := cell_of_row _ _ 3 _ _ (0, 0) b7_0.out
  have f7_0_3 : w7.frozen? ⟨w.heap.size, 3, none⟩ = false := block_free b7_0.out _
  have c7_0_4 : w7.cell? ⟨w.heap.size, 4, none⟩ = some (.int .i64 0) := cell_of_row _ _ 4 _ _ (0, 0) b7_0.out
  have f7_0_4 : w7.frozen? ⟨w.heap.size, 4, none⟩ = false := block_free b7_0.out _
  have l7_1 : w6.heap.size < w7.heap.size := (Array.getElem?_eq_some_iff.1 b7_1.out).1
  have c7_1_0 : w7.cell? ⟨w6.heap.size, 0, none⟩ = some (.int .i64 a) := cell_of_row _ _ 0 _ _ (0, 0) b7_1.out
  have f7_1_0 : w7.frozen? ⟨w6.heap.size, 0, none⟩ = false := block_free b7_1.out _
  have c7_1_1 : w7.cell? ⟨w6.heap.size, 1, none⟩ = some (.int .i64 b) := cell_of_row _ _ 1 _ _ (0, 0) b7_1.out
  have f7_1_1 : w7.frozen? ⟨w6.heap.size, 1, none⟩ = false := block_free b7_1.out _
  have c7_1_2 : w7.cell? ⟨w6.heap.size, 2, none⟩ = some (.int .i64 s') := cell_of_row _ _ 2 _ _ (0, 0) b7_1.out
  have f7_1_2 : w7.frozen? ⟨w6.heap.size, 2, none⟩ = false := block_free b7_1.out _
  have c7_1_3 : w7.cell? ⟨w6.heap.size, 3, none⟩ = some (.int .i64 m) := cell_of_row _ _ 3 _ _ (0, 0) b7_1.out
  have f7_1_3 : w7.frozen? ⟨w6.heap.size, 3, none⟩ = false := block_free b7_1.out _
  have c7_1_4 : w7.cell? ⟨w6.heap.size, 4, none⟩ = some (.int .i64 l) := cell_of_row _ _ 4 _ _ (0, 0) b7_1.out
  have f7_1_4 : w7.frozen? ⟨w6.heap.size, 4, none⟩ = false := block_free b7_1.out _
  have hv0 : (0 : Int) ≤ (q5 : Int) := by omega
  by_cases h0 : q5 = 0
  case pos =>
    have e0 : ((q5 : Int) == 0) = true := by simp [h0]
    clear h0
    go_wp2_with fail
    refine (l91RowP_any _ p A n c zs (k5 + 1) R7.out (by omega)).mono ?_
    rintro e w8 ⟨x, k8, rfl, hk8, rd8, hc8⟩
    have zz8 : w7.heap.size + 0 ≤ w8.heap.size := by have := hc8.size; (try simp [World.setCell] at this); omega
    have X8 : Hid (Chg (· ∈ [p]) w w8) := Lib.hid (X7.out.trans hc8)
    have b8_0 : Hid (w8.heap[w.heap.size]? = some (.cells #[.int .i64 0, .int .i64 0, .int .i64 0, .int .i64 0, .int .i64 0] 27 (0, 0))) := Lib.hid ((hc8.block _ (by first | omega | (simp [World.setCell] <;> omega)) (by simp <;> omega)).trans b7_0.out)
    have b8_1 : Hid (w8.heap[w6.heap.size]? = some (.cells #[.int .i64 a, .int .i64 b, .int .i64 s', .int .i64 m, .int .i64 l] 27 (0, 0))) := Lib.hid ((hc8.block _ (by first | omega | (simp [World.setCell] <;> omega)) (by simp <;> omega)).trans b7_1.out)
    have R8 : Hid (Rd w8 p A n c zs (k8)) := Lib.hid rd8
    have pl8 : p < w8.heap.size := by omega
    clear b7_0 b7_1 X7 R7 pl7 hc8 rd8
    have l8_0 : w.heap.size < w8.heap.size := (Array.getElem?_eq_some_iff.1 b8_0.out).1
    have c8_0_0 : w8.cell? ⟨w.heap.size, 0, none⟩ = some (.int .i64 0) := cell_of_row _ _ 0 _ _ (0, 0) b8_0.out
    have f8_0_0 : w8.frozen? ⟨w.heap.size, 0, none⟩ = false := block_free b8_0.out _
    have c8_0_1 : w8.cell? ⟨w.heap.size, 1, none⟩ = some (.int .i64 0) := cell_of_row _ _ 1 _ _ (0, 0) b8_0.out
    have f8_0_1 : w8.frozen? ⟨w.heap.size, 1, none⟩ = false := block_free b8_0.out _
    have c8_0_2 : w8.cell? ⟨w.heap.size, 2, none⟩ = some (.int .i64 0) := cell_of_row _ _ 2 _ _ (0, 0) b8_0.out
    have f8_0_2 : w8.frozen? ⟨w.heap.size, 2, none⟩ = false := block_free b8_0.out _
    have c8_0_3 : w8.cell? ⟨w.heap.size, 3, none⟩ = some (.int .i64 0) := cell_of_row _ _ 3 _ _ (0, 0) b8_0.out
    have f8_0_3 : w8.frozen? ⟨w.heap.size, 3, none⟩ = false := block_free b8_0.out _
    have c8_0_4 : w8.cell? ⟨w.heap.size, 4, none⟩ = some (.int .i64 0) := cell_of_row _ _ 4 _ _ (0, 0) b8_0.out
    have f8_0_4 : w8.frozen? ⟨w.heap.size, 4, none⟩ = false := block_free b8_0.out _
    have l8_1 : w6.heap.size < w8.heap.size := (Array.getElem?_eq_some_iff.1 b8_1.out).1
    have c8_1_0 : w8.cell? ⟨w6.heap.size, 0, none⟩ = some (.int .i64 a) := cell_of_row _ _ 0 _ _ (0, 0) b8_1.out
    have f8_1_0 : w8.frozen? ⟨w6.heap.size, 0, none⟩ = false := block_free b8_1.out _
    have c8_1_1 : w8.cell? ⟨w6.heap.size, 1, none⟩ = some (.int .i64 b) := cell_of_row _ _ 1 _ _ (0, 0) b8_1.out
    have f8_1_1 : w8.frozen? ⟨w6.heap.size, 1, none⟩ = false := block_free b8_1.out _
    have c8_1_2 : w8.cell? ⟨w6.heap.size, 2, none⟩ = some (.int .i64 s') := cell_of_row _ _ 2 _ _ (0, 0) b8_1.out
    have f8_1_2 : w8.frozen? ⟨w6.heap.size, 2, none⟩ = false := block_free b8_1.out _
    have c8_1_3 : w8.cell? ⟨w6.heap.size, 3, none⟩ = some (.int .i64 m) := cell_of_row _ _ 3 _ _ (0, 0) b8_1.out
    have f8_1_3 : w8.frozen? ⟨w6.heap.size, 3, none⟩ = false := block_free b8_1.out _
    have c8_1_4 : w8.cell? ⟨w6.heap.size, 4, none⟩ = some (.int .i64 l) := cell_of_row _ _ 4 _ _ (0, 0) b8_1.out
    have f8_1_4 : w8.frozen? ⟨w6.heap.size, 4, none⟩ = false := block_free b8_1.out _
    go_wp2_with fail
    have hrr : ((World.setCell w8 ⟨w6.heap.size, 0, none⟩ (.int .i64 x))).heap[w.heap.size]? = some (.cells #[.int .i64 0, .int .i64 0, .int .i64 0, .int .i64 0, .int .i64 0] 27 (0, 0)) := ((heap_far (by first | omega | (simp <;> omega))).trans b8_0.out)
    have hst := set_5 (x0 := .int .i64 x) (x1 := .int .i64 b) (x2 := .int .i64 s') (x3 := .int .i64 m) (x4 := .int .i64 l) hrr
    clear hrr
    have r0 := cell_of_row _ _ 0 _ _ (0, 0) hst
    have r1 := cell_of_row _ _ 1 _ _ (0, 0) hst
    have r2 := cell_of_row _ _ 2 _ _ (0, 0) hst
    have r3 := cell_of_row _ _ 3 _ _ (0, 0) hst
    have r4 := cell_of_row _ _ 4 _ _ (0, 0) hst
    clear hst
    exact bodyPost_ret (v := .agg #[.int .i64 x, .int .i64 b, .int .i64 s', .int .i64 m, .int .i64 l]) (by simp [results, Tryz.results87, go_sem, r0, r1, r2, r3, r4]) rfl ⟨_, _, _, _, _, _, rfl, by omega, (Rd.set h (Rd.set h (Rd.set h (Rd.set h (Rd.set h (Rd.set h R8.out (a := ⟨w6.heap.size, 0, none⟩) (by first | exact Nat.le_refl _ | (dsimp only; omega)) _) (a := ⟨w.heap.size, 0, none⟩) (by first | exact Nat.le_refl _ | (dsimp only; omega)) _) (a := ⟨w.heap.size, 1, none⟩) (by first | exact Nat.le_refl _ | (dsimp only; omega)) _) (a := ⟨w.heap.size, 2, none⟩) (by first | exact Nat.le_refl _ | (dsimp only; omega)) _) (a := ⟨w.heap.size, 3, none⟩) (by first | exact Nat.le_refl _ | (dsimp only; omega)) _) (a := ⟨w.heap.size, 4, none⟩) (by first | exact Nat.le_refl _ | (dsimp only; omega)) _), (Chg.setCell (p := ⟨w.heap.size, 4, none⟩) (Chg.setCell (p := ⟨w.heap.size, 3, none⟩) (Chg.setCell (p := ⟨w.heap.size, 2, none⟩) (Chg.setCell (p := ⟨w.heap.size, 1, none⟩) (Chg.setCell (p := ⟨w.heap.size, 0, none⟩) (Chg.setCell (p := ⟨w6.heap.size, 0, none⟩) X8.out (.inr (by first | exact Nat.le_refl _ | (dsimp only; omega))) _) (.inr (by first | exact Nat.le_refl _ | (dsimp only; omega))) _) (.inr (by first | exact Nat.le_refl _ | (dsimp only; omega))) _) (.inr (by first | exact Nat.le_refl _ | (dsimp only; omega))) _) (.inr (by first | exact Nat.le_refl _ | (dsimp only; omega))) _) (.inr (by first | exact Nat.le_refl _ | (dsimp only; omega))) _)⟩
  have e0 : ((q5 : Int) == 0) = false := by simp; omega
  have g0 : ¬ q5 = 0 := h0; clear h0
  by_cases h1 : q5 = 1
  case pos =>
    have e1 : ((q5 : Int) == 1) = true := by rw [h1]; rfl
    clear h1
    go_wp2_with fail
    refine (pick_any _ p A n c zs (k5 + 1) 4 (Rd.below R7.out bel1) (by omega) (by omega) (by omega)).mono ?_
    rintro e w8 ⟨q9, rfl, hq9, rd8, hc8, hz8⟩
    have hq9 := hq9 (by omega)
    clear hz8
    obtain ⟨x, hx⟩ := lit_int (r := q9) (litInts [0, -1, 900, 901]) hc8 rfl (by omega) (by simp; omega)
    have hq90 : (0 : Int) ≤ (q9 : Int) := by omega
    have hq91 : (q9 : Int) < 4 := by omega
    have zz8 : w7.heap.size + 1 ≤ w8.heap.size := by have := hc8.size; (try simp [World.setCell] at this); omega
    have X8 : Hid (Chg (· ∈ [p]) w w8) := Lib.hid ((Chg.alloc X7.out _).trans hc8)
    have b8_0 : Hid (w8.heap[w.heap.size]? = some (.cells #[.int .i64 0, .int .i64 0, .int .i64 0, .int .i64 0, .int .i64 0] 27 (0, 0))) := Lib.hid ((hc8.block _ (by first | omega | (simp [World.setCell] <;> omega)) (by simp <;> omega)).trans ((Below.heap_alloc _ _ _ (by first | omega | (simp [World.setCell] <;> omega))).trans b7_0.out))
    have b8_1 : Hid (w8.heap[w6.heap.size]? = some (.cells #[.int .i64 a, .int .i64 b, .int .i64 s', .int .i64 m, .int .i64 l] 27 (0, 0))) := Lib.hid ((hc8.block _ (by first | omega | (simp [World.setCell] <;> omega)) (by simp <;> omega)).trans ((Below.heap_alloc _ _ _ (by first | omega | (simp [World.setCell] <;> omega))).trans b7_1.out))
    have R8 : Hid (Rd w8 p A n c zs (k5 + 1 + 1)) := Lib.hid rd8
    have pl8 : p < w8.heap.size := by omega
    clear b7_0 b7_1 X7 R7 pl7 hc8 rd8
    have l8_0 : w.heap.size < w8.heap.size := (Array.getElem?_eq_some_iff.1 b8_0.out).1
    have c8_0_0 : w8.cell? ⟨w.heap.size, 0, none⟩ = some (.int .i64 0) := cell_of_row _ _ 0 _ _ (0, 0) b8_0.out
    have f8_0_0 : w8.frozen? ⟨w.heap.size, 0, none⟩ = false := block_free b8_0.out _
    have c8_0_1 : w8.cell? ⟨w.heap.size, 1, none⟩ = some (.int .i64 0) := cell_of_row _ _ 1 _ _ (0, 0) b8_0.out
    have f8_0_1 : w8.frozen? ⟨w.heap.size, 1, none⟩ = false := block_free b8_0.out _
    have c8_0_2 : w8.cell? ⟨w.heap.size, 2, none⟩ = some (.int .i64 0) := cell_of_row _ _ 2 _ _ (0, 0) b8_0.out
    have f8_0_2 : w8.frozen? ⟨w.heap.size, 2, none⟩ = false := block_free b8_0.out _
    have c8_0_3 : w8.cell? ⟨w.heap.size, 3, none⟩ = some (.int .i64 0) := cell_of_row _ _ 3 _ _ (0, 0) b8_0.out
    have f8_0_3 : w8.frozen? ⟨w.heap.size, 3, none⟩ = false := block_free b8_0.out _
    have c8_0_4 : w8.cell? ⟨w.heap.size, 4, none⟩ = some (.int .i64 0) := cell_of_row _ _ 4 _ _ (0, 0) b8_0.out
    have f8_0_4 : w8.frozen? ⟨w.heap.size, 4, none⟩ = false := block_free b8_0.out _
    have l8_1 : w6.heap.size < w8.heap.size := (Array.getElem?_eq_some_iff.1 b8_1.out).1
    have c8_1_0 : w8.cell? ⟨w6.heap.size, 0, none⟩ = some (.int .i64 a) := cell_of_row _ _ 0 _ _ (0, 0) b8_1.out
    have f8_1_0 : w8.frozen? ⟨w6.heap.size, 0, none⟩ = false := block_free b8_1.out _
    have c8_1_1 : w8.cell? ⟨w6.heap.size, 1, none⟩ = some (.int .i64 b) := cell_of_row _ _ 1 _ _ (0, 0) b8_1.out
    have f8_1_1 : w8.frozen? ⟨w6.heap.size, 1, none⟩ = false := block_free b8_1.out _
    have c8_1_2 : w8.cell? ⟨w6.heap.size, 2, none⟩ = some (.int .i64 s') := cell_of_row _ _ 2 _ _ (0, 0) b8_1.out
    have f8_1_2 : w8.frozen? ⟨w6.heap.size, 2, none⟩ = false := block_free b8_1.out _
    have c8_1_3 : w8.cell? ⟨w6.heap.size, 3, none⟩ = some (.int .i64 m) := cell_of_row _ _ 3 _ _ (0, 0) b8_1.out
    have f8_1_3 : w8.frozen? ⟨w6.heap.size, 3, none⟩ = false := block_free b8_1.out _
    have c8_1_4 : w8.cell? ⟨w6.heap.size, 4, none⟩ = some (.int .i64 l) := cell_of_row _ _ 4 _ _ (0, 0) b8_1.out
    have f8_1_4 : w8.frozen? ⟨w6.heap.size, 4, none⟩ = false := block_free b8_1.out _
    go_wp2_with fail
    have hrr : ((World.setCell w8 ⟨w6.heap.size, 1, none⟩ (.int .i64 x))).heap[w.heap.size]? = some (.cells #[.int .i64 0, .int .i64 0, .int .i64 0, .int .i64 0, .int .i64 0] 27 (0, 0)) := ((heap_far (by first | omega | (simp <;> omega))).trans b8_0.out)
    have hst := set_5 (x0 := .int .i64 a) (x1 := .int .i64 x) (x2 := .int .i64 s') (x3 := .int .i64 m) (x4 := .int .i64 l) hrr
    clear hrr
    have r0 := cell_of_row _ _ 0 _ _ (0, 0) hst
    have r1 := cell_of_row _ _ 1 _ _ (0, 0) hst
    have r2 := cell_of_row _ _ 2 _ _ (0, 0) hst
    have r3 := cell_of_row _ _ 3 _ _ (0, 0) hst
    have r4 := cell_of_row _ _ 4 _ _ (0, 0) hst
    clear hst
    exact bodyPost_ret (v := .agg #[.int .i64 a, .int .i64 x, .int .i64 s', .int .i64 m, .int .i64 l]) (by simp [results, Tryz.results87, go_sem, r0, r1, r2, r3, r4]) rfl ⟨_, _, _, _, _, _, rfl, by omega, (Rd.set h (Rd.set h (Rd.set h (Rd.set h (Rd.set h (Rd.set h R8.out (a := ⟨w6.heap.size, 1, none⟩) (by first | exact Nat.le_refl _ | (dsimp only; omega)) _) (a := ⟨w.heap.size, 0, none⟩) (by first | exact Nat.le_refl _ | (dsimp only; omega)) _) (a := ⟨w.heap.size, 1, none⟩) (by first | exact Nat.le_refl _ | (dsimp only; omega)) _) (a := ⟨w.heap.size, 2, none⟩) (by first | exact Nat.le_refl _ | (dsimp only; omega)) _) (a := ⟨w.heap.size, 3, none⟩) (by first | exact Nat.le_refl _ | (dsimp only; omega)) _) (a := ⟨w.heap.size, 4, none⟩) (by first | exact Nat.le_refl _ | (dsimp only; omega)) _), (Chg.setCell (p := ⟨w.heap.size, 4, none⟩) (Chg.setCell (p := ⟨w.heap.size, 3, none⟩) (Chg.setCell (p := ⟨w.heap.size, 2, none⟩) (Chg.setCell (p := ⟨w.heap.size, 1, none⟩) (Chg.setCell (p := ⟨w.heap.size, 0, none⟩) (Chg.setCell (p := ⟨w6.heap.size, 1, none⟩) X8.out (.inr (by first | exact Nat.le_refl _ | (dsimp only; omega))) _) (.inr (by first | exact Nat.le_refl _ | (dsimp only; omega))) _) (.inr (by first | exact Nat.le_refl _ | (dsimp only; omega))) _) (.inr (by first | exact Nat.le_refl _ | (dsimp only; omega))) _) (.inr (by first | exact Nat.le_refl _ | (dsimp only; omega))) _) (.inr (by first | exact Nat.le_refl _ | (dsimp only; omega))) _)⟩
  have e1 : ((q5 : Int) == 1) = false := by simp; omega
  have g1 : ¬ q5 = 1 := h1; clear h1
  by_cases h2 : q5 = 2
  case pos =>
    have e2 : ((q5 : Int) == 2) = true := by rw [h2]; rfl
    clear h2
    go_wp2_with fail
    refine (pick_any _ p A n c zs (k5 + 1) 4 (Rd.below R7.out bel1) (by omega) (by omega) (by omega)).mono ?_
    rintro e w8 ⟨q9, rfl, hq9, rd8, hc8, hz8⟩
    have hq9 := hq9 (by omega)
    clear hz8
    obtain ⟨x, hx⟩ := lit_int (r := q9) (litInts [0, -1, 128, 129]) hc8 rfl (by omega) (by simp; omega)
    have hq90 : (0 : Int) ≤ (q9 : Int) := by omega
    have hq91 : (q9 : Int) < 4 := by omega
    have zz8 : w7.heap.size + 1 ≤ w8.heap.size := by have := hc8.size; (try simp [World.setCell] at this); omega
    have X8 : Hid (Chg (· ∈ [p]) w w8) := Lib.hid ((Chg.alloc X7.out _).trans hc8)
    have b8_0 : Hid (w8.heap[w.heap.size]? = some (.cells #[.int .i64 0, .int .i64 0, .int .i64 0, .int .i64 0, .int .i64 0] 27 (0, 0))) := Lib.hid ((hc8.block _ (by first | omega | (simp [World.setCell] <;> omega)) (by simp <;> omega)).trans ((Below.heap_alloc _ _ _ (by first | omega | (simp [World.setCell] <;> omega))).trans b7_0.out))
    have b8_1 : Hid (w8.heap[w6.heap.size]? = some (.cells #[.int .i64 a, .int .i64 b, .int .i64 s', .int .i64 m, .int .i64 l] 27 (0, 0))) := Lib.hid ((hc8.block _ (by first | omega | (simp [World.setCell] <;> omega)) (by simp <;> omega)).trans ((Below.heap_alloc _ _ _ (by first | omega | (simp [World.setCell] <;> omega))).trans b7_1.out))
    have R8 : Hid (Rd w8 p A n c zs (k5 + 1 + 1)) := Lib.hid rd8
    have pl8 : p < w8.heap.size := by omega
    clear b7_0 b7_1 X7 R7 pl7 hc8 rd8
    have l8_0 : w.heap.size < w8.heap.size := (Array.getElem?_eq_some_iff.1 b8_0.out).1
    have c8_0_0 : w8.cell? ⟨w.heap.size, 0, none⟩ = some (.int .i64 0) := cell_of_row _ _ 0 _ _ (0, 0) b8_0.out
    have f8_0_0 : w8.frozen? ⟨w.heap.size, 0, none⟩ = false := block_free b8_0.out _
    have c8_0_1 : w8.cell? ⟨w.heap.size, 1, none⟩ = some (.int .i64 0) := cell_of_row _ _ 1 _ _ (0, 0) b8_0.out
    have f8_0_1 : w8.frozen? ⟨w.heap.size, 1, none⟩ = false := block_free b8_0.out _
    have c8_0_2 : w8.cell? ⟨w.heap.size, 2, none⟩ = some (.int .i64 0) := cell_of_row _ _ 2 _ _ (0, 0) b8_0.out
    have f8_0_2 : w8.frozen? ⟨w.heap.size, 2, none⟩ = false := block_free b8_0.out _
    have c8_0_3 : w8.cell? ⟨w.heap.size, 3, none⟩ = some (.int .i64 0) := cell_of_row _ _ 3 _ _ (0, 0) b8_0.out
    have f8_0_3 : w8.frozen? ⟨w.heap.size, 3, none⟩ = false := block_free b8_0.out _
    have c8_0_4 : w8.cell? ⟨w.heap.size, 4, none⟩ = some (.int .i64 0) := cell_of_row _ _ 4 _ _ (0, 0) b8_0.out
    have f8_0_4 : w8.frozen? ⟨w.heap.size, 4, none⟩ = false := block_free b8_0.out _
    have l8_1 : w6.heap.size < w8.heap.size := (Array.getElem?_eq_some_iff.1 b8_1.out).1
    have c8_1_0 : w8.cell? ⟨w6.heap.size, 0, none⟩ = some (.int .i64 a) := cell_of_row _ _ 0 _ _ (0, 0) b8_1.out
    have f8_1_0 : w8.frozen? ⟨w6.heap.size, 0, none⟩ = false := block_free b8_1.out _
    have c8_1_1 : w8.cell? ⟨w6.heap.size, 1, none⟩ = some (.int .i64 b) := cell_of_row _ _ 1 _ _ (0, 0) b8_1.out
    have f8_1_1 : w8.frozen? ⟨w6.heap.size, 1, none⟩ = false := block_free b8_1.out _
    have c8_1_2 : w8.cell? ⟨w6.heap.size, 2, none⟩ = some (.int .i64 s') := cell_of_row _ _ 2 _ _ (0, 0) b8_1.out
    have f8_1_2 : w8.frozen? ⟨w6.heap.size, 2, none⟩ = false := block_free b8_1.out _
    have c8_1_3 : w8.cell? ⟨w6.heap.size, 3, none⟩ = some (.int .i64 m) := cell_of_row _ _ 3 _ _ (0, 0) b8_1.out
    have f8_1_3 : w8.frozen? ⟨w6.heap.size, 3, none⟩ = false := block_free b8_1.out _
    have c8_1_4 : w8.cell? ⟨w6.heap.size, 4, none⟩ = some (.int .i64 l) := cell_of_row _ _ 4 _ _ (0, 0) b8_1.out
    have f8_1_4 : w8.frozen? ⟨w6.heap.size, 4, none⟩ = false := block_free b8_1.out _
    go_wp2_with fail
    have hrr : ((World.setCell w8 ⟨w6.heap.size, 2, none⟩ (.int .i64 x))).heap[w.heap.size]? = some (.cells #[.int .i64 0, .int .i64 0, .int .i64 0, .int .i64 0, .int .i64 0] 27 (0, 0)) := ((heap_far (by first | omega | (simp <;> omega))).trans b8_0.out)
    have hst := set_5 (x0 := .int .i64 a) (x1 := .int .i64 b) (x2 := .int .i64 x) (x3 := .int .i64 m) (x4 := .int .i64 l) hrr
    clear hrr
    have r0 := cell_of_row _ _ 0 _ _ (0, 0) hst
    have r1 := cell_of_row _ _ 1 _ _ (0, 0) hst
    have r2 := cell_of_row _ _ 2 _ _ (0, 0) hst
    have r3 := cell_of_row _ _ 3 _ _ (0, 0) hst
    have r4 := cell_of_row _ _ 4 _ _ (0, 0) hst
    clear hst
    exact bodyPost_ret (v := .agg #[.int .i64 a, .int .i64 b, .int .i64 x, .int .i64 m, .int .i64 l]) (by simp [results, Tryz.results87, go_sem, r0, r1, r2, r3, r4]) rfl ⟨_, _, _, _, _, _, rfl, by omega, (Rd.set h (Rd.set h (Rd.set h (Rd.set h (Rd.set h (Rd.set h R8.out (a := ⟨w6.heap.size, 2, none⟩) (by first | exact Nat.le_refl _ | (dsimp only; omega)) _) (a := ⟨w.heap.size, 0, none⟩) (by first | exact Nat.le_refl _ | (dsimp only; omega)) _) (a := ⟨w.heap.size, 1, none⟩) (by first | exact Nat.le_refl _ | (dsimp only; omega)) _) (a := ⟨w.heap.size, 2, none⟩) (by first | exact Nat.le_refl _ | (dsimp only; omega)) _) (a := ⟨w.heap.size, 3, none⟩) (by first | exact Nat.le_refl _ | (dsimp only; omega)) _) (a := ⟨w.heap.size, 4, none⟩) (by first | exact Nat.le_refl _ | (dsimp only; omega)) _), (Chg.setCell (p := ⟨w.heap.size, 4, none⟩) (Chg.setCell (p := ⟨w.heap.size, 3, none⟩) (Chg.setCell (p := ⟨w.heap.size, 2, none⟩) (Chg.setCell (p := ⟨w.heap.size, 1, none⟩) (Chg.setCell (p := ⟨w.heap.size, 0, none⟩) (Chg.setCell (p := ⟨w6.heap.size, 2, none⟩) X8.out (.inr (by first | exact Nat.le_refl _ | (dsimp only; omega))) _) (.inr (by first | exact Nat.le_refl _ | (dsimp only; omega))) _) (.inr (by first | exact Nat.le_refl _ | (dsimp only; omega))) _) (.inr (by first | exact Nat.le_refl _ | (dsimp only; omega))) _) (.inr (by first | exact Nat.le_refl _ | (dsimp only; omega))) _) (.inr (by first | exact Nat.le_refl _ | (dsimp only; omega))) _)⟩
  have e2 : ((q5 : Int) == 2) = false := by simp; omega
  have g2 : ¬ q5 = 2 := h2; clear h2
  by_cases h3 : q5 = 3
  case pos =>
    have e3 : ((q5 : Int) == 3) = true := by rw [h3]; rfl
    clear h3
    go_wp2_with fail
    refine (pick_any _ p A n c zs (k5 + 1) 4 (Rd.below R7.out bel1) (by omega) (by omega) (by omega)).mono ?_
    rintro e w8 ⟨q9, rfl, hq9, rd8, hc8, hz8⟩
    have hq9 := hq9 (by omega)
    clear hz8
    obtain ⟨x, hx⟩ := lit_int (r := q9) (litInts [-1, 99460728, 99460729, 0]) hc8 rfl (by omega) (by simp; omega)
    have hq90 : (0 : Int) ≤ (q9 : Int) := by omega
    have hq91 : (q9 : Int) < 4 := by omega
    have zz8 : w7.heap.size + 1 ≤ w8.heap.size := by have := hc8.size; (try simp [World.setCell] at this); omega
    have X8 : Hid (Chg (· ∈ [p]) w w8) := Lib.hid ((Chg.alloc X7.out _).trans hc8)
    have b8_0 : Hid (w8.heap[w.heap.size]? = some (.cells #[.int .i64 0, .int .i64 0, .int .i64 0, .int .i64 0, .int .i64 0] 27 (0, 0))) := Lib.hid ((hc8.block _ (by first | omega | (simp [World.setCell] <;> omega)) (by simp <;> omega)).trans ((Below.heap_alloc _ _ _ (by first | omega | (simp [World.setCell] <;> omega))).trans b7_0.out))
    have b8_1 : Hid (w8.heap[w6.heap.size]? = some (.cells #[.int .i64 a, .int .i64 b, .int .i64 s', .int .i64 m, .int .i64 l] 27 (0, 0))) := Lib.hid ((hc8.block _ (by first | omega | (simp [World.setCell] <;> omega)) (by simp <;> omega)).trans ((Below.heap_alloc _ _ _ (by first | omega | (simp [World.setCell] <;> omega))).trans b7_1.out))
    have R8 : Hid (Rd w8 p A n c zs (k5 + 1 + 1)) := Lib.hid rd8
    have pl8 : p < w8.heap.size := by omega
    clear b7_0 b7_1 X7 R7 pl7 hc8 rd8
    have l8_0 : w.heap.size < w8.heap.size := (Array.getElem?_eq_some_iff.1 b8_0.out).1
    have c8_0_0 : w8.cell? ⟨w.heap.size, 0, none⟩ = some (.int .i64 0) := cell_of_row _ _ 0 _ _ (0, 0) b8_0.out
    have f8_0_0 : w8.frozen? ⟨w.heap.size, 0, none⟩ = false := block_free b8_0.out _
    have c8_0_1 : w8.cell? ⟨w.heap.size, 1, none⟩ = some (.int .i64 0) := cell_of_row _ _ 1 _ _ (0, 0) b8_0.out
    have f8_0_1 : w8.frozen? ⟨w.heap.size, 1, none⟩ = false := block_free b8_0.out _
    have c8_0_2 : w8.cell? ⟨w.heap.size, 2, none⟩ = some (.int .i64 0) := cell_of_row _ _ 2 _ _ (0, 0) b8_0.out
    have f8_0_2 : w8.frozen? ⟨w.heap.size, 2, none⟩ = false := block_free b8_0.out _
    have c8_0_3 : w8.cell? ⟨w.heap.size, 3, none⟩ = some (.int .i64 0) := cell_of_row _ _ 3 _ _ (0, 0) b8_0.out
    have f8_0_3 : w8.frozen? ⟨w.heap.size, 3, none⟩ = false := block_free b8_0.out _
    have c8_0_4 : w8.cell? ⟨w.heap.size, 4, none⟩ = some (.int .i64 0) := cell_of_row _ _ 4 _ _ (0, 0) b8_0.out
    have f8_0_4 : w8.frozen? ⟨w.heap.size, 4, none⟩ = false := block_free b8_0.out _
    have l8_1 : w6.heap.size < w8.heap.size := (Array.getElem?_eq_some_iff.1 b8_1.out).1
    have c8_1_0 : w8.cell? ⟨w6.heap.size, 0, none⟩ = some (.int .i64 a) := cell_of_row _ _ 0 _ _ (0, 0) b8_1.out
    have f8_1_0 : w8.frozen? ⟨w6.heap.size, 0, none⟩ = false := block_free b8_1.out _
    have c8_1_1 : w8.cell? ⟨w6.heap.size, 1, none⟩ = some (.int .i64 b) := cell_of_row _ _ 1 _ _ (0, 0) b8_1.out
    have f8_1_1 : w8.frozen? ⟨w6.heap.size, 1, none⟩ = false := block_free b8_1.out _
    have c8_1_2 : w8.cell? ⟨w6.heap.size, 2, none⟩ = some (.int .i64 s') := cell_of_row _ _ 2 _ _ (0, 0) b8_1.out
    have f8_1_2 : w8.frozen? ⟨w6.heap.size, 2, none⟩ = false := block_free b8_1.out _
    have c8_1_3 : w8.cell? ⟨w6.heap.size, 3, none⟩ = some (.int .i64 m) := cell_of_row _ _ 3 _ _ (0, 0) b8_1.out
    have f8_1_3 : w8.frozen? ⟨w6.heap.size, 3, none⟩ = false := block_free b8_1.out _
    have c8_1_4 : w8.cell? ⟨w6.heap.size, 4, none⟩ = some (.int .i64 l) := cell_of_row _ _ 4 _ _ (0, 0) b8_1.out
    have f8_1_4 : w8.frozen? ⟨w6.heap.size, 4, none⟩ = false := block_free b8_1.out _
    go_wp2_with fail
    have hrr : ((World.setCell w8 ⟨w6.heap.size, 3, none⟩ (.int .i64 x))).heap[w.heap.size]? = some (.cells #[.int .i64 0, .int .i64 0, .int .i64 0, .int .i64 0, .int .i64 0] 27 (0, 0)) := ((heap_far (by first | omega | (simp <;> omega))).trans b8_0.out)
    have hst := set_5 (x0 := .int .i64 a) (x1 := .int .i64 b) (x2 := .int .i64 s') (x3 := .int .i64 x) (x4 := .int .i64 l) hrr
    clear hrr
    have r0 := cell_of_row _ _ 0 _ _ (0, 0) hst
    have r1 := cell_of_row _ _ 1 _ _ (0, 0) hst
    have r2 := cell_of_row _ _ 2 _ _ (0, 0) hst
    have r3 := cell_of_row _ _ 3 _ _ (0, 0) hst
    have r4 := cell_of_row _ _ 4 _ _ (0, 0) hst
    clear hst
    exact bodyPost_ret (v := .agg #[.int .i64 a, .int .i64 b, .int .i64 s', .int .i64 x, .int .i64 l]) (by simp [results, Tryz.results87, go_sem, r0, r1, r2, r3, r4]) rfl ⟨_, _, _, _, _, _, rfl, by omega, (Rd.set h (Rd.set h (Rd.set h (Rd.set h (Rd.set h (Rd.set h R8.out (a := ⟨w6.heap.size, 3, none⟩) (by first | exact Nat.le_refl _ | (dsimp only; omega)) _) (a := ⟨w.heap.size, 0, none⟩) (by first | exact Nat.le_refl _ | (dsimp only; omega)) _) (a := ⟨w.heap.size, 1, none⟩) (by first | exact Nat.le_refl _ | (dsimp only; omega)) _) (a := ⟨w.heap.size, 2, none⟩) (by first | exact Nat.le_refl _ | (dsimp only; omega)) _) (a := ⟨w.heap.size, 3, none⟩) (by first | exact Nat.le_refl _ | (dsimp only; omega)) _) (a := ⟨w.heap.size, 4, none⟩) (by first | exact Nat.le_refl _ | (dsimp only; omega)) _), (Chg.setCell (p := ⟨w.heap.size, 4, none⟩) (Chg.setCell (p := ⟨w.heap.size, 3, none⟩) (Chg.setCell (p := ⟨w.heap.size, 2, none⟩) (Chg.setCell (p := ⟨w.heap.size, 1, none⟩) (Chg.setCell (p := ⟨w.heap.size, 0, none⟩) (Chg.setCell (p := ⟨w6.heap.size, 3, none⟩) X8.out (.inr (by first | exact Nat.le_refl _ | (dsimp only; omega))) _) (.inr (by first | exact Nat.le_refl _ | (dsimp only; omega))) _) (.inr (by first | exact Nat.le_refl _ | (dsimp only; omega))) _) (.inr (by first | exact Nat.le_refl _ | (dsimp only; omega))) _) (.inr (by first | exact Nat.le_refl _ | (dsimp only; omega))) _) (.inr (by first | exact Nat.le_refl _ | (dsimp only; omega))) _)⟩
  have e3 : ((q5 : Int) == 3) = false := by simp; omega
  have g3 : ¬ q5 = 3 := h3; clear h3
  by_cases h4 : q5 = 4
  case pos =>
    have e4 : ((q5 : Int) == 4) = true := by rw [h4]; rfl
    clear h4
    go_wp2_with fail
    refine (pick_any _ p A n c zs (k5 + 1) 3 (Rd.below R7.out bel1) (by omega) (by omega) (by omega)).mono ?_
    rintro e w8 ⟨q9, rfl, hq9, rd8, hc8, hz8⟩
    have hq9 := hq9 (by omega)
    clear hz8
    obtain ⟨x, hx⟩ := lit_int (r := q9) (litInts [-1, 3, 2]) hc8 rfl (by omega) (by simp; omega)
    have hq90 : (0 : Int) ≤ (q9 : Int) := by omega
    have hq91 : (q9 : Int) < 3 := by omega
    have zz8 : w7.heap.size + 1 ≤ w8.heap.size := by have := hc8.size; (try simp [World.setCell] at this); omega
    have X8 : Hid (Chg (· ∈ [p]) w w8) := Lib.hid ((Chg.alloc X7.out _).trans hc8)
    have b8_0 : Hid (w8.heap[w.heap.size]? = some (.cells #[.int .i64 0, .int .i64 0, .int .i64 0, .int .i64 0, .int .i64 0] 27 (0, 0))) := Lib.hid ((hc8.block _ (by first | omega | (simp [World.setCell] <;> omega)) (by simp <;> omega)).trans ((Below.heap_alloc _ _ _ (by first | omega | (simp [World.setCell] <;> omega))).trans b7_0.out))
    have b8_1 : Hid (w8.heap[w6.heap.size]? = some (.cells #[.int .i64 a, .int .i64 b, .int .i64 s', .int .i64 m, .int .i64 l] 27 (0, 0))) := Lib.hid ((hc8.block _ (by first | omega | (simp [World.setCell] <;> omega)) (by simp <;> omega)).trans ((Below.heap_alloc _ _ _ (by first | omega | (simp [World.setCell] <;> omega))).trans b7_1.out))
    have R8 : Hid (Rd w8 p A n c zs (k5 + 1 + 1)) := Lib.hid rd8
    have pl8 : p < w8.heap.size := by omega
    clear b7_0 b7_1 X7 R7 pl7 hc8 rd8
    have l8_0 : w.heap.size < w8.heap.size := (Array.getElem?_eq_some_iff.1 b8_0.out).1
    have c8_0_0 : w8.cell? ⟨w.heap.size, 0, none⟩ = some (.int .i64 0) := cell_of_row _ _ 0 _ _ (0, 0) b8_0.out
    have f8_0_0 : w8.frozen? ⟨w.heap.size, 0, none⟩ = false := block_free b8_0.out _
    have c8_0_1 : w8.cell? ⟨w.heap.size, 1, none⟩ = some (.int .i64 0) := cell_of_row _ _ 1 _ _ (0, 0) b8_0.out
    have f8_0_1 : w8.frozen? ⟨w.heap.size, 1, none⟩ = false := block_free b8_0.out _
    have c8_0_2 : w8.cell? ⟨w.heap.size, 2, none⟩ = some (.int .i64 0) := cell_of_row _ _ 2 _ _ (0, 0) b8_0.out
    have f8_0_2 : w8.frozen? ⟨w.heap.size, 2, none⟩ = false := block_free b8_0.out _
    have c8_0_3 : w8.cell? ⟨w.heap.size, 3, none⟩ = some (.int .i64 0) := cell_of_row _ _ 3 _ _ (0, 0) b8_0.out
    have f8_0_3 : w8.frozen? ⟨w.heap.size, 3, none⟩ = false := block_free b8_0.out _
    have c8_0_4 : w8.cell? ⟨w.heap.size, 4, none⟩ = some (.int .i64 0) := cell_of_row _ _ 4 _ _ (0, 0) b8_0.out
    have f8_0_4 : w8.frozen? ⟨w.heap.size, 4, none⟩ = false := block_free b8_0.out _
    have l8_1 : w6.heap.size < w8.heap.size := (Array.getElem?_eq_some_iff.1 b8_1.out).1
    have c8_1_0 : w8.cell? ⟨w6.heap.size, 0, none⟩ = some (.int .i64 a) := cell_of_row _ _ 0 _ _ (0, 0) b8_1.out
    have f8_1_0 : w8.frozen? ⟨w6.heap.size, 0, none⟩ = false := block_free b8_1.out _
    have c8_1_1 : w8.cell? ⟨w6.heap.size, 1, none⟩ = some (.int .i64 b) := cell_of_row _ _ 1 _ _ (0, 0) b8_1.out
    have f8_1_1 : w8.frozen? ⟨w6.heap.size, 1, none⟩ = false := block_free b8_1.out _
    have c8_1_2 : w8.cell? ⟨w6.heap.size, 2, none⟩ = some (.int .i64 s') := cell_of_row _ _ 2 _ _ (0, 0) b8_1.out
    have f8_1_2 : w8.frozen? ⟨w6.heap.size, 2, none⟩ = false := block_free b8_1.out _
    have c8_1_3 : w8.cell? ⟨w6.heap.size, 3, none⟩ = some (.int .i64 m) := cell_of_row _ _ 3 _ _ (0, 0) b8_1.out
    have f8_1_3 : w8.frozen? ⟨w6.heap.size, 3, none⟩ = false := block_free b8_1.out _
    have c8_1_4 : w8.cell? ⟨w6.heap.size, 4, none⟩ = some (.int .i64 l) := cell_of_row _ _ 4 _ _ (0, 0) b8_1.out
    have f8_1_4 : w8.frozen? ⟨w6.heap.size, 4, none⟩ = false := block_free b8_1.out _
    go_wp2_with fail
    have hrr : ((World.setCell w8 ⟨w6.heap.size, 4, none⟩ (.int .i64 x))).heap[w.heap.size]? = some (.cells #[.int .i64 0, .int .i64 0, .int .i64 0, .int .i64 0, .int .i64 0] 27 (0, 0)) := ((heap_far (by first | omega | (simp <;> omega))).trans b8_0.out)
    have hst := set_5 (x0 := .int .i64 a) (x1 := .int .i64 b) (x2 := .int .i64 s') (x3 := .int .i64 m) (x4 := .int .i64 x) hrr
    clear hrr
    have r0 := cell_of_row _ _ 0 _ _ (0, 0) hst
    have r1 := cell_of_row _ _ 1 _ _ (0, 0) hst
    have r2 := cell_of_row _ _ 2 _ _ (0, 0) hst
    have r3 := cell_of_row _ _ 3 _ _ (0, 0) hst
    have r4 := cell_of_row _ _ 4 _ _ (0, 0) hst
    clear hst
    exact bodyPost_ret (v := .agg #[.int .i64 a, .int .i64 b, .int .i64 s', .int .i64 m, .int .i64 x]) (by simp [results, Tryz.results87, go_sem, r0, r1, r2, r3, r4]) rfl ⟨_, _, _, _, _, _, rfl, by omega, (Rd.set h (Rd.set h (Rd.set h (Rd.set h (Rd.set h (Rd.set h R8.out (a := ⟨w6.heap.size, 4, none⟩) (by first | exact Nat.le_refl _ | (dsimp only; omega)) _) (a := ⟨w.heap.size, 0, none⟩) (by first | exact Nat.le_refl _ | (dsimp only; omega)) _) (a := ⟨w.heap.size, 1, none⟩) (by first | exact Nat.le_refl _ | (dsimp only; omega)) _) (a := ⟨w.heap.size, 2, none⟩) (by first | exact Nat.le_refl _ | (dsimp only; omega)) _) (a := ⟨w.heap.size, 3, none⟩) (by first | exact Nat.le_refl _ | (dsimp only; omega)) _) (a := ⟨w.heap.size, 4, none⟩) (by first | exact Nat.le_refl _ | (dsimp only; omega)) _), (Chg.setCell (p := ⟨w.heap.size, 4, none⟩) (Chg.setCell (p := ⟨w.heap.size, 3, none⟩) (Chg.setCell (p := ⟨w.heap.size, 2, none⟩) (Chg.setCell (p := ⟨w.heap.size, 1, none⟩) (Chg.setCell (p := ⟨w.heap.size, 0, none⟩) (Chg.setCell (p := ⟨w6.heap.size, 4, none⟩) X8.out (.inr (by first | exact Nat.le_refl _ | (dsimp only; omega))) _) (.inr (by first | exact Nat.le_refl _ | (dsimp only; omega))) _) (.inr (by first | exact Nat.le_refl _ | (dsimp only; omega))) _) (.inr (by first | exact Nat.le_refl _ | (dsimp only; omega))) _) (.inr (by first | exact Nat.le_refl _ | (dsimp only; omega))) _) (.inr (by first | exact Nat.le_refl _ | (dsimp only; omega))) _)⟩
  have e4 : ((q5 : Int) == 4) = false := by simp; omega
  have g4 : ¬ q5 = 4 := h4; clear h4
  go_wp2_with fail
  have hrr : (w7).heap[w.heap.size]? = some (.cells #[.int .i64 0, .int .i64 0, .int .i64 0, .int .i64 0, .int .i64 0] 27 (0, 0)) := b7_0.out
  have hst := set_5 (x0 := .int .i64 a) (x1 := .int .i64 b) (x2 := .int .i64 s') (x3 := .int .i64 m) (x4 := .int .i64 l) hrr
  clear hrr
  have r0 := cell_of_row _ _ 0 _ _ (0, 0) hst
  have r1 := cell_of_row _ _ 1 _ _ (0, 0) hst
  have r2 := cell_of_row _ _ 2 _ _ (0, 0) hst
  have r3 := cell_of_row _ _ 3 _ _ (0, 0) hst
  have r4 := cell_of_row _ _ 4 _ _ (0, 0) hst
  clear hst
  exact bodyPost_ret (v := .agg #[.int .i64 a, .int .i64 b, .int .i64 s', .int .i64 m, .int .i64 l]) (by simp [results, Tryz.results87, go_sem, r0, r1, r2, r3, r4]) rfl ⟨_, _, _, _, _, _, rfl, by omega, (Rd.set h (Rd.set h (Rd.set h (Rd.set h (Rd.set h R7.out (a := ⟨w.heap.size, 0, none⟩) (by first | exact Nat.le_refl _ | (dsimp only; omega)) _) (a := ⟨w.heap.size, 1, none⟩) (by first | exact Nat.le_refl _ | (dsimp only; omega)) _) (a := ⟨w.heap.size, 2, none⟩) (by first | exact Nat.le_refl _ | (dsimp only; omega)) _) (a := ⟨w.heap.size, 3, none⟩) (by first | exact Nat.le_refl _ | (dsimp only; omega)) _) (a := ⟨w.heap.size, 4, none⟩) (by first | exact Nat.le_refl _ | (dsimp only; omega)) _), (Chg.setCell (p := ⟨w.heap.size, 4, none⟩) (Chg.setCell (p := ⟨w.heap.size, 3, none⟩) (Chg.setCell (p := ⟨w.heap.size, 2, none⟩) (Chg.setCell (p := ⟨w.heap.size, 1, none⟩) (Chg.setCell (p := ⟨w.heap.size, 0, none⟩) X7.out (.inr (by first | exact Nat.le_refl _ | (dsimp only; omega))) _) (.inr (by first | exact Nat.le_refl _ | (dsimp only; omega))) _) (.inr (by first | exact Nat.le_refl _ | (dsimp only; omega))) _) (.inr (by first | exact Nat.le_refl _ | (dsimp only; omega))) _) (.inr (by first | exact Nat.le_refl _ | (dsimp only; omega))) _)⟩
end Go.Proofs.YtcfgbeajdkbbcaaGreatDoor
