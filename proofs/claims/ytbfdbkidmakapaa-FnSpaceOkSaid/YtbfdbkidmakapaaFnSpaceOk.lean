/- FnSpaceOk: the walk. No condition. -/
import Derived.Test.YtbfdbkidmakapaaDrawSp2
import Derived.Test.YtbfdbkidmakapaaSpaceRoom
namespace Go.Proofs.Ytbfdbkidmakapaa
open Go.RowKit
set_option linter.unusedVariables false
set_option linter.unusedSimpArgs false

theorem spRoom_iff (xs ys : List Int) : decide (0 ≤ spRoom xs ys) = spOk xs ys := by
  unfold spRoom
  cases h : spOk xs ys
  · simp
  · simp

set_option maxHeartbeats 4000000 in
theorem fnSpaceOk_walk (A : Option Addr) (n c : Nat) (zs : List Int) (w : World) (hz : BytesIn w A n c zs) :
    Calls Try.prog 4 #[.slice A n c] w fun e w' => e = .returned (.bool true) ∧ Below w.heap.size w w' := by
  by_cases hn : n ≤ 1048576
  · go_enter Try.func4, Try.ntmps4
    go_wp2_with fail
    refine (drawSpaceOk_any A n c zs _ hz).mono ?_
    rintro e w1 ⟨A1, n1, c1, B1, m1, d1, xs, ys, rfl, ia_1, ib_1, nl1, hb1⟩
    have hk1 : Below w.heap.size w w1 := hb1
    have z1 : w.heap.size + 0 ≤ w1.heap.size := by have := hb1.size; (try simp at this); omega
    have hB1 : Below w.heap.size w w1 := hk1
    have y1 : w.heap.size ≤ w1.heap.size := hB1.size
    clear hk1 hb1
    go_wp2_with fail
    obtain ⟨ok, hok⟩ : ∃ ok, ok = spOk xs ys := ⟨_, rfl⟩
    have HOK := Lib.hid hok
    clear hok
    have hoo : (ok == ok) = true := by simp
    refine (spaceOk_any _ _ _ _ _ _ xs ys _ (ia_1.below ((Below.refl _ _).alloc (Nat.le_refl _) _)) (ib_1.below ((Below.refl _ _).alloc (Nat.le_refl _) _))).mono ?_
    rw [← HOK.out]
    rintro e w2 ⟨rfl, hb2⟩
    have hk2 : Below w1.heap.size w1 w2 := ((Below.refl _ _).alloc (Nat.le_refl _) _).trans (hb2.mono (by simp <;> omega))
    have z2 : w1.heap.size + 1 ≤ w2.heap.size := by have := hb2.size; (try simp at this); omega
    have c2_0 : w2.cell? ⟨w1.heap.size, 0, none⟩ = some (.slice A1 n1 c1) := (hb2.cell (by simp <;> omega)).trans (by simp [go_sem])
    have c2_1 : w2.cell? ⟨w1.heap.size, 1, none⟩ = some (.slice B1 m1 d1) := (hb2.cell (by simp <;> omega)).trans (by simp [go_sem])
    have l2_0 : w1.heap.size < w2.heap.size := by omega
    have ia_2 := ia_1.below hk2
    have ib_2 := ib_1.below hk2
    have hB2 : Below w.heap.size w w2 := hB1.trans (hk2.mono hB1.size)
    have y2 : w.heap.size ≤ w2.heap.size := hB2.size
    clear ia_1 ib_1 hk2 hb2
    go_wp2_with fail
    refine (spSpaceOk_any _ _ _ _ _ _ xs ys _ ia_2 ib_2).mono ?_
    rw [← HOK.out]
    rintro e w3 ⟨rfl, hb3⟩
    have hk3 : Below w2.heap.size w2 w3 := hb3
    have z3 : w2.heap.size + 0 ≤ w3.heap.size := by have := hb3.size; (try simp at this); omega
    have c3_0 : w3.cell? ⟨w1.heap.size, 0, none⟩ = some (.slice A1 n1 c1) := (hk3.cell (by simp <;> omega)).trans c2_0
    have c3_1 : w3.cell? ⟨w1.heap.size, 1, none⟩ = some (.slice B1 m1 d1) := (hk3.cell (by simp <;> omega)).trans c2_1
    have l3_0 : w1.heap.size < w3.heap.size := by omega
    have ia_3 := ia_2.below hk3
    have ib_3 := ib_2.below hk3
    have hB3 : Below w.heap.size w w3 := hB2.trans (hk3.mono hB2.size)
    have y3 : w.heap.size ≤ w3.heap.size := hB3.size
    clear c2_0 c2_1 l2_0 ia_2 ib_2 hk3 hb3
    go_wp2_with fail
    refine (spaceRoom_any _ _ _ _ _ _ xs ys _ ia_3 ib_3 nl1.2.2.1).mono ?_
    rintro e w4 ⟨rfl, hb4⟩
    have hk4 : Below w3.heap.size w3 w4 := hb4
    have z4 : w3.heap.size + 0 ≤ w4.heap.size := by have := hb4.size; (try simp at this); omega
    have c4_0 : w4.cell? ⟨w1.heap.size, 0, none⟩ = some (.slice A1 n1 c1) := (hk4.cell (by simp <;> omega)).trans c3_0
    have c4_1 : w4.cell? ⟨w1.heap.size, 1, none⟩ = some (.slice B1 m1 d1) := (hk4.cell (by simp <;> omega)).trans c3_1
    have l4_0 : w1.heap.size < w4.heap.size := by omega
    have ia_4 := ia_3.below hk4
    have ib_4 := ib_3.below hk4
    have hB4 : Below w.heap.size w w4 := hB3.trans (hk4.mono hB3.size)
    have y4 : w.heap.size ≤ w4.heap.size := hB4.size
    clear c3_0 c3_1 l3_0 ia_3 ib_3 hk4 hb4
    have hrm := Lib.hid (spRoom_iff xs ys)
    generalize spRoom xs ys = r at *
    cases ok
    · have hr0 : decide (0 ≤ r) = false := by have := hrm.out; rw [← HOK.out] at this; exact this
      go_wp2_with fail
      go_ret
      exact ⟨ret_bool (by simp [hr0]), hB4⟩
    · have hr0 : decide (0 ≤ r) = true := by have := hrm.out; rw [← HOK.out] at this; exact this
      go_wp2_with fail
      go_ret
      exact ⟨ret_bool (by simp [hr0]), hB4⟩

  · go_enter Try.func4, Try.ntmps4
    go_wp2_with fail
    go_ret
    exact ⟨rfl, Below.refl _ _⟩

end Go.Proofs.Ytbfdbkidmakapaa
