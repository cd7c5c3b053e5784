/- DrawSpaceOk, DrawSpaceRoom: a space that can be read. No condition. -/
import Derived.Test.YtbfdbkidmakapaaDrawSpace
namespace Go.Proofs.Ytbfdbkidmakapaa
set_option linter.unnecessarySimpa false
open Go.RowKit
set_option linter.unusedVariables false
set_option linter.unusedSimpArgs false

theorem BytesIn.below {w w' : World} {A : Option Addr} {n c : Nat} {zs : List Int} (h : BytesIn w A n c zs) (hb : Below w.heap.size w w') : BytesIn w' A n c zs := by
  obtain ⟨h1, h2, h3, h4, h5⟩ := h
  refine ⟨h1, h2, h3, h4, fun hn => ?_⟩
  obtain ⟨b, off, hA, hc⟩ := h5 hn
  exact ⟨b, off, hA, fun j hj => (hb.cell (World.block_lt_of_cell? w _ (hc j hj))).trans (hc j hj)⟩
/-- A drawn space: it can be read. -/
def DrawnSp (w : World) (e : Ending) (w' : World) : Prop :=
  ∃ A n c B m d xs ys, e = .returned (.agg #[.slice A n c, .slice B m d]) ∧ IntsAt w' A n xs ∧ IntsAt w' B m ys ∧ ((A = none → n = 0 ∧ c = 0) ∧ (B = none → m = 0 ∧ d = 0) ∧ n ≤ c ∧ m ≤ d) ∧ Below w.heap.size w w'

theorem drawnSp_mk {w w1 w2 : World} {p : Nat} {A1 B1 : Option Addr} {n1 c1 m1 d1 : Nat} {xs ys : List Int} (hb : Below w.heap.size w w1) (hz : w.heap.size < w1.heap.size) (hp : w.heap.size < p) (h1 : IntsAt w2 A1 n1 xs) (h2 : IntsAt w2 B1 m1 ys)
    (f1 : A1 = none → n1 = 0 ∧ c1 = 0) (f2 : B1 = none → m1 = 0 ∧ d1 = 0) (g1 : n1 ≤ c1) (g2 : m1 ≤ d1) (e1 : ∀ b off, A1 = some ⟨b, off, none⟩ → w1.heap.size ≤ b) (e2 : ∀ b off, B1 = some ⟨b, off, none⟩ → w1.heap.size ≤ b) (hc : Chg (· ∈ [p]) w1 w2) (u v : Value) :
    DrawnSp w (.returned (.agg #[.slice A1 n1 c1, .slice B1 m1 d1])) ((w2.setCell ⟨w.heap.size, 0, none⟩ u).setCell ⟨w.heap.size, 1, none⟩ v) := by
  refine ⟨_, _, _, _, _, _, xs, ys, rfl, (h1.store (fun b off hA => ?_) u).store (fun b off hA => ?_) v, (h2.store (fun b off hA => ?_) u).store (fun b off hA => ?_) v, ⟨f1, f2, g1, g2⟩, ?_⟩
  · have := e1 b off hA; simp; omega
  · have := e1 b off hA; simp; omega
  · have := e2 b off hA; simp; omega
  · have := e2 b off hA; simp; omega
  · exact ((hb.trans (hc.below (fun t _ ht => by simp at ht; omega) hb.size)).setCell (by simp) u).setCell (by simp) v

set_option maxHeartbeats 1000000 in
theorem drawSpaceOk_any (A : Option Addr) (n c : Nat) (zs : List Int) (w : World) (h : BytesIn w A n c zs) : Calls Try.prog 18 #[.slice A n c] w (DrawnSp w) := by
  go_enter Try.func18, Try.ntmps18
  go_wp2_with fail
  refine (l6Open_any A n c zs _ ?_).mono ?_
  · exact h.below ((Below.refl _ _).alloc (Nat.le_refl _) _)
  rintro e w1 ⟨m, c', ys, rfl, hr, hb1⟩
  have s1 := hb1.size
  have hp1 := hr.2.2.2.1
  simp at s1 hr hp1
  have hz : w.heap.size < w1.heap.size := by omega
  have q0 : w1.cell? ⟨w.heap.size, 0, none⟩ = some (.slice none 0 0) := (hb1.cell (by simp)).trans (by simp [go_sem])
  have q1 : w1.cell? ⟨w.heap.size, 1, none⟩ = some (.slice none 0 0) := (hb1.cell (by simp)).trans (by simp [go_sem])
  have f0 : w1.frozen? ⟨w.heap.size, 0, none⟩ = false := (hb1.frozen (by simp)).trans (by simp [go_sem])
  have f1 : w1.frozen? ⟨w.heap.size, 1, none⟩ = false := (hb1.frozen (by simp)).trans (by simp [go_sem])
  have hb2 : Below w.heap.size w w1 := ((Below.refl _ _).alloc (Nat.le_refl _) _).trans (hb1.mono (by simp))
  go_wp2_with fail
  refine (l91Space_any w1 _ A m c' ys 0 hr (by omega)).mono ?_
  rintro e w2 ⟨A1, n1, c1, B1, m1, d1, xs, zs2, k', rfl, h1, h2, g1, g2, l1, l2, e1, e2, _, hr2, hc⟩
  have kq : w2.heap[w.heap.size]? = w1.heap[w.heap.size]? := hc.block _ hz (by simp)
  have q0b := (World.cell?_of_block (a := ⟨w.heap.size, 0, none⟩) kq).trans q0
  have q1b := (World.cell?_of_block (a := ⟨w.heap.size, 1, none⟩) kq).trans q1
  have f0b := (World.frozen?_of_block (a := ⟨w.heap.size, 0, none⟩) kq).trans f0
  have f1b := (World.frozen?_of_block (a := ⟨w.heap.size, 1, none⟩) kq).trans f1
  go_wp2_with fail
  refine bodyPost_ret (v := .agg #[.slice A1 n1 c1, .slice B1 m1 d1]) (by simp [results, Try.results18, go_sem, q0b, q1b, f0b, f1b]) rfl ?_
  exact drawnSp_mk hb2 hz (by omega) h1 h2 g1 g2 l1 l2 e1 e2 hc _ _

set_option maxHeartbeats 1000000 in
theorem drawSpaceRoom_any (A : Option Addr) (n c : Nat) (zs : List Int) (w : World) (h : BytesIn w A n c zs) : Calls Try.prog 27 #[.slice A n c] w (DrawnSp w) := by
  go_enter Try.func27, Try.ntmps27
  go_wp2_with fail
  refine (l6Open_any A n c zs _ ?_).mono ?_
  · exact h.below ((Below.refl _ _).alloc (Nat.le_refl _) _)
  rintro e w1 ⟨m, c', ys, rfl, hr, hb1⟩
  have s1 := hb1.size
  have hp1 := hr.2.2.2.1
  simp at s1 hr hp1
  have hz : w.heap.size < w1.heap.size := by omega
  have q0 : w1.cell? ⟨w.heap.size, 0, none⟩ = some (.slice none 0 0) := (hb1.cell (by simp)).trans (by simp [go_sem])
  have q1 : w1.cell? ⟨w.heap.size, 1, none⟩ = some (.slice none 0 0) := (hb1.cell (by simp)).trans (by simp [go_sem])
  have f0 : w1.frozen? ⟨w.heap.size, 0, none⟩ = false := (hb1.frozen (by simp)).trans (by simp [go_sem])
  have f1 : w1.frozen? ⟨w.heap.size, 1, none⟩ = false := (hb1.frozen (by simp)).trans (by simp [go_sem])
  have hb2 : Below w.heap.size w w1 := ((Below.refl _ _).alloc (Nat.le_refl _) _).trans (hb1.mono (by simp))
  go_wp2_with fail
  refine (l91Space_any w1 _ A m c' ys 0 hr (by omega)).mono ?_
  rintro e w2 ⟨A1, n1, c1, B1, m1, d1, xs, zs2, k', rfl, h1, h2, g1, g2, l1, l2, e1, e2, _, hr2, hc⟩
  have kq : w2.heap[w.heap.size]? = w1.heap[w.heap.size]? := hc.block _ hz (by simp)
  have q0b := (World.cell?_of_block (a := ⟨w.heap.size, 0, none⟩) kq).trans q0
  have q1b := (World.cell?_of_block (a := ⟨w.heap.size, 1, none⟩) kq).trans q1
  have f0b := (World.frozen?_of_block (a := ⟨w.heap.size, 0, none⟩) kq).trans f0
  have f1b := (World.frozen?_of_block (a := ⟨w.heap.size, 1, none⟩) kq).trans f1
  go_wp2_with fail
  refine bodyPost_ret (v := .agg #[.slice A1 n1 c1, .slice B1 m1 d1]) (by simp [results, Try.results27, go_sem, q0b, q1b, f0b, f1b]) rfl ?_
  exact drawnSp_mk hb2 hz (by omega) h1 h2 g1 g2 l1 l2 e1 e2 hc _ _
end Go.Proofs.Ytbfdbkidmakapaa
