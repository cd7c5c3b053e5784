/- The drawing of a row; DrawSpaceGive, DrawSpaceTake. No condition. -/
import Derived.Test.YtbfdbkidmakapaaDrawSp2
namespace Go.Proofs.Ytbfdbkidmakapaa
set_option linter.unnecessarySimpa false
open Go.RowKit
set_option linter.unusedVariables false
set_option linter.unusedSimpArgs false

/-- All cells of an array are ints. -/
def AllInts (cur : Array Value) : Prop := ∀ i, i < cur.size → ∃ x : Int, cur[i]? = some (.int .i64 x)
theorem allInts_of (xs : List Int) : AllInts (xs.map (Value.int .i64)).toArray := by
  intro i hi
  have h : i < xs.length := by simpa using hi
  exact ⟨xs[i], by simp [h]⟩
theorem lit_cell {W W' : World} {p b r : Nat} {t : TypeId} {cur : Array Value} (hL : AllInts cur) (hc : Chg (· ∈ [p]) (W.alloc (.cells cur t)) W') (hb : b = W.heap.size) (hp : p ≠ b) (hr : r < cur.size) : ∃ x : Int, W'.cell? ⟨b, r, none⟩ = some (.int .i64 x) := by
  obtain ⟨x, hx⟩ := hL r hr
  subst hb
  refine ⟨x, (World.cell?_of_block (hc.block W.heap.size (by simp) (by simpa using hp.symm))).trans ?_⟩
  simp [go_sem, hx]

def RowDrawn (w : World) (p : Nat) (A : Option Addr) (n c : Nat) (zs : List Int) (k : Nat) (e : Ending) (w' : World) : Prop :=
  ∃ (x : Int) (k' : Nat), e = .returned (.int .i64 x) ∧ k' ≤ k + 2 ∧ Rd w' p A n c zs k' ∧ Chg (· ∈ [p]) w w'

def L6 : List Int := [-1, 0, 3, 7, 64, 63]
set_option maxHeartbeats 1000000 in
theorem l91Row_any (w : World) (p : Nat) (A : Option Addr) (n c : Nat) (zs : List Int) (k : Nat) (hr : Rd w p A n c zs k) (hk : k ≤ 500000) :
    Calls Try.prog 47 #[.pointer (some ⟨p, 0, none⟩)] w (RowDrawn w p A n c zs k) := by
  have hp := hr.2.2.2.1
  go_enter Try.func47, Try.ntmps47
  go_wp2_with fail
  refine (pick_any _ p A n c zs _ 8 hr (by omega) (by omega) (by omega)).mono ?_
  rintro e w1 ⟨r, rfl, hr1, rd1, hc1, hz1⟩
  have hr1 := hr1 (by omega)
  clear hz1
  by_cases h0 : r = 0
  · have e0 : ((r : Int) == 0) = true := by simp [h0]
    clear h0
    go_wp2_with fail
    refine (pick_any _ p A n c zs _ 6 (rd1.below ((Below.refl _ _).alloc (Nat.le_refl _) _)) (by omega) (by omega) (by omega)).mono ?_
    rintro e w2 ⟨r2, rfl, hr2, rd2, hc2, hz2⟩
    have hr2 := hr2 (by omega)
    obtain ⟨x, hx⟩ := lit_cell (r := r2) (allInts_of L6) hc2 rfl (by have := rd1.2.2.2.1; omega) (by simp [L6]; omega)
    clear hz2
    go_wp2_with fail
    go_ret
    exact ⟨x, _, rfl, by omega, rd2, (hc1.alloc _).trans hc2⟩
  · have e0 : ((r : Int) == 0) = false := by simp [h0]
    clear h0
    go_wp2_with fail
    refine (pick_any _ p A n c zs _ 12 rd1 (by omega) (by omega) (by omega)).mono ?_
    rintro e w2 ⟨r2, rfl, hr2, rd2, hc2, hz2⟩
    have hr2 := hr2 (by omega)
    clear hz2
    go_wp2_with fail
    go_ret
    exact ⟨_, _, rfl, by omega, rd2, hc1.trans hc2⟩

/-- A drawn space and a row. -/
def DrawnSpRow (w : World) (e : Ending) (w' : World) : Prop :=
  ∃ A n c B m d xs ys x, e = .returned (.tuple #[.agg #[.slice A n c, .slice B m d], .int .i64 x]) ∧ IntsAt w' A n xs ∧ IntsAt w' B m ys ∧ ((A = none → n = 0 ∧ c = 0) ∧ (B = none → m = 0 ∧ d = 0) ∧ n ≤ c ∧ m ≤ d) ∧ Below w.heap.size w w'
theorem DrawnSp.row {w w' : World} {A B : Option Addr} {n c m d : Nat} (h : DrawnSp w (.returned (.agg #[.slice A n c, .slice B m d])) w') (x : Int) : DrawnSpRow w (.returned (.tuple #[.agg #[.slice A n c, .slice B m d], .int .i64 x])) w' := by
  obtain ⟨A1, n1, c1, B1, m1, d1, xs, ys, he, h⟩ := h
  injection he with he
  injection he with he
  simp at he
  obtain ⟨⟨rfl, rfl, rfl⟩, rfl, rfl, rfl⟩ := he
  exact ⟨_, _, _, _, _, _, xs, ys, x, rfl, h⟩

set_option maxHeartbeats 1000000 in
theorem drawSpaceGive_any (A : Option Addr) (n c : Nat) (zs : List Int) (w : World) (h : BytesIn w A n c zs) : Calls Try.prog 35 #[.slice A n c] w (DrawnSpRow w) := by
  go_enter Try.func35, Try.ntmps35
  go_wp2_with fail
  refine (l6Open_any A n c zs _ ?_).mono ?_
  · exact h.below ((Below.refl _ _).alloc (Nat.le_refl _) _)
  rintro e w1 ⟨m, c', ys, rfl, hr, hb1⟩
  have s1 := hb1.size
  have hp1 := hr.2.2.2.1
  simp at s1 hr hp1
  have hz : w.heap.size < w1.heap.size := by omega
  have q0 : w1.cell? ⟨w.heap.size, 0, none⟩ = some (.slice none 0 0) := (hb1.cell (by simp)).trans (by simp [go_sem])
  have q1 : w1.cell? ⟨w.heap.size, 1, none⟩ = some (.slice none 0 0) := (hb1.cell (by simp)).trans (by simp [go_sem])
  have f0 : w1.frozen? ⟨w.heap.size, 0, none⟩ = false := (hb1.frozen (by simp)).trans (by simp [go_sem])
  have f1 : w1.frozen? ⟨w.heap.size, 1, none⟩ = false := (hb1.frozen (by simp)).trans (by simp [go_sem])
  have hb2 : Below w.heap.size w w1 := ((Below.refl _ _).alloc (Nat.le_refl _) _).trans (hb1.mono (by simp))
  go_wp2_with fail
  refine (l91Space_any w1 _ A m c' ys 0 hr (by omega)).mono ?_
  rintro e w2 ⟨A1, n1, c1, B1, m1, d1, xs, zs2, k', rfl, h1, h2, g1, g2, l1, l2, e1, e2, hk', hr2, hc⟩
  go_wp2_with fail
  refine (l91Row_any w2 _ A m c' ys k' hr2 (by omega)).mono ?_
  rintro e w3 ⟨x, k2, rfl, hk2, hr3, hc3⟩
  have hcc := hc.trans hc3
  have h1b : IntsAt w3 A1 n1 xs := h1.keep fun b off hA hlt => hc3.block b hlt (by have := e1 b off hA; simp; omega)
  have h2b : IntsAt w3 B1 m1 zs2 := h2.keep fun b off hA hlt => hc3.block b hlt (by have := e2 b off hA; simp; omega)
  have kq : w3.heap[w.heap.size]? = w1.heap[w.heap.size]? := hcc.block _ hz (by simp)
  have q0b := (World.cell?_of_block (a := ⟨w.heap.size, 0, none⟩) kq).trans q0
  have q1b := (World.cell?_of_block (a := ⟨w.heap.size, 1, none⟩) kq).trans q1
  have f0b := (World.frozen?_of_block (a := ⟨w.heap.size, 0, none⟩) kq).trans f0
  have f1b := (World.frozen?_of_block (a := ⟨w.heap.size, 1, none⟩) kq).trans f1
  go_wp2_with fail
  refine bodyPost_ret (v := .tuple #[.agg #[.slice A1 n1 c1, .slice B1 m1 d1], .int .i64 x]) (by simp [results, Try.results35, go_sem, q0b, q1b, f0b, f1b]) rfl ?_
  exact (drawnSp_mk hb2 hz (by omega) h1b h2b g1 g2 l1 l2 e1 e2 hcc _ _).row x
end Go.Proofs.Ytbfdbkidmakapaa
