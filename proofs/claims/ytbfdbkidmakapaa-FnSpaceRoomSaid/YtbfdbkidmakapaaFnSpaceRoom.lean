/- FnSpaceRoom: the walk. No condition. -/
import Derived.Test.YtbfdbkidmakapaaDrawSp2
import Derived.Test.YtbfdbkidmakapaaSpaceFind
namespace Go.Proofs.Ytbfdbkidmakapaa
set_option linter.unusedVariables false
set_option linter.unusedSimpArgs false
set_option linter.unnecessarySimpa false
open Go.RowKit

theorem roomTo_zero {xs : List Int} (hx : xs.length = 64) : ∀ k, k ≤ 56 → (roomTo xs k = 0 ↔ ∀ i, i < k → xs.getD (8 + i) 0 ≠ 0) := by
  intro k
  induction k with
  | zero => exact fun _ => ⟨fun _ i hi => absurd hi (by omega), fun _ => by have := roomTo_le xs 0; omega⟩
  | succ k ih =>
    intro hk
    rw [roomTo_succ hx (by omega)]
    have ih := ih (by omega)
    by_cases h0 : xs.getD (8 + k) 0 = 0
    · rw [if_pos h0]
      exact ⟨fun h => by omega, fun h => absurd h0 (h k (by omega))⟩
    · rw [if_neg h0, Nat.add_zero, ih]
      refine ⟨fun h i hi => ?_, fun h i hi => h i (by omega)⟩
      rcases Nat.lt_or_ge i k with h2 | h2
      · exact h i h2
      · obtain rfl : i = k := by omega
        exact h0
theorem room_find {xs ys : List Int} (h : spOk xs ys = true) : decide (spRoom xs ys = 0) = decide (spFind xs ys 8 [] < 0) := by
  have hx := (spOk_iff.1 h).1
  have hr : spRoom xs ys = roomTo xs 56 := by unfold spRoom; rw [if_pos h]
  have hf : spFind xs ys 8 [] = findFrom xs [] 8 := by unfold spFind; rw [if_pos h]; rfl
  have hg : ∀ i, i < 56 → goodB xs [] (rowAt 8 i) = decide (xs.getD (8 + i) 0 = 0) := by
    intro i hi
    have : rowAt 8 i = 8 + i := by unfold rowAt; omega
    unfold goodB hasI
    rw [this]; simp
  rw [hr, hf]
  by_cases hz : ∀ i, i < 56 → xs.getD (8 + i) 0 ≠ 0
  · have h1 := (roomTo_zero hx 56 (Nat.le_refl _)).2 hz
    rw [find_miss (fun j hj => by rw [hg j hj]; exact decide_eq_false (hz j hj)), h1]
    rfl
  · have h1 : roomTo xs 56 ≠ 0 := fun e => hz ((roomTo_zero hx 56 (Nat.le_refl _)).1 e)
    have hex : ∃ k, k < 56 ∧ goodB xs [] (rowAt 8 k) = true := by
      apply Classical.byContradiction
      intro hn
      apply hz
      intro i hi e
      exact hn ⟨i, hi, by rw [hg i hi]; exact decide_eq_true e⟩
    have h2 : 0 ≤ findFrom xs [] 8 := by
      unfold findFrom
      split
      · omega
      · rename_i hnone
        rw [List.find?_range_eq_none] at hnone
        obtain ⟨k, hk, hkk⟩ := hex
        have := hnone k hk
        simp [hkk] at this
    rw [decide_eq_false (by omega), decide_eq_false (by omega)]

set_option maxRecDepth 100000 in
set_option maxHeartbeats 4000000 in
theorem fnSpaceRoom_walk (A : Option Addr) (n c : Nat) (zs : List Int) (w : World) (hz : BytesIn w A n c zs) :
    Calls Try.prog 7 #[.slice A n c] w fun e w' => e = .returned (.bool true) ∧ Below w.heap.size w w' := by
  by_cases hn : n ≤ 1048576
  · go_enter Try.func7, Try.ntmps7
    go_wp2_with fail
    refine (drawSpaceRoom_any A n c zs _ hz).mono ?_
    rintro e w1 ⟨A1, n1, c1, B1, m1, d1, xs, ys, rfl, ia_1, ib_1, nl1, hb1⟩
    have hk1 : Below w.heap.size w w1 := hb1
    have z1 : w.heap.size + 0 ≤ w1.heap.size := by have := hb1.size; (try simp at this); omega
    have hB1 : Below w.heap.size w w1 := hk1
    have y1 : w.heap.size ≤ w1.heap.size := hB1.size
    clear hk1 hb1
    go_wp2_with fail
    generalize hr : spRoom xs ys = r; have HR := Lib.hid hr; clear hr
    refine (spaceRoom_any _ _ _ _ _ _ xs ys _ (ia_1.below ((Below.refl _ _).alloc (Nat.le_refl _) _)) (ib_1.below ((Below.refl _ _).alloc (Nat.le_refl _) _)) nl1.2.2.1).mono ?_
    rw [HR.out]
    rintro e w2 ⟨rfl, hb2⟩
    have hk2 : Below w1.heap.size w1 w2 := ((Below.refl _ _).alloc (Nat.le_refl _) _).trans (hb2.mono (by simp <;> omega))
    have z2 : w1.heap.size + 1 ≤ w2.heap.size := by have := hb2.size; (try simp at this); omega
    have c2_0 : w2.cell? ⟨w1.heap.size, 0, none⟩ = some (.slice A1 n1 c1) := (hb2.cell (by simp <;> omega)).trans (by simp [go_sem])
    have c2_1 : w2.cell? ⟨w1.heap.size, 1, none⟩ = some (.slice B1 m1 d1) := (hb2.cell (by simp <;> omega)).trans (by simp [go_sem])
    have l2_0 : w1.heap.size < w2.heap.size := by omega
    have ia_2 := ia_1.below hk2
    have ib_2 := ib_1.below hk2
    have hB2 : Below w.heap.size w w2 := hB1.trans (hk2.mono hB1.size)
    have y2 : w.heap.size ≤ w2.heap.size := hB2.size
    clear ia_1 ib_1 hk2 hb2
    go_wp2_with fail
    refine (spSpaceRoom_any _ _ _ _ _ _ xs ys _ ia_2 ib_2).mono ?_
    rw [HR.out]
    rintro e w3 ⟨rfl, hb3⟩
    have hk3 : Below w2.heap.size w2 w3 := hb3
    have z3 : w2.heap.size + 0 ≤ w3.heap.size := by have := hb3.size; (try simp at this); omega
    have c3_0 : w3.cell? ⟨w1.heap.size, 0, none⟩ = some (.slice A1 n1 c1) := (hk3.cell (by simp <;> omega)).trans c2_0
    have c3_1 : w3.cell? ⟨w1.heap.size, 1, none⟩ = some (.slice B1 m1 d1) := (hk3.cell (by simp <;> omega)).trans c2_1
    have l3_0 : w1.heap.size < w3.heap.size := by omega
    have ia_3 := ia_2.below hk3
    have ib_3 := ib_2.below hk3
    have hB3 : Below w.heap.size w w3 := hB2.trans (hk3.mono hB2.size)
    have y3 : w.heap.size ≤ w3.heap.size := hB3.size
    clear c2_0 c2_1 l2_0 ia_2 ib_2 hk3 hb3
    have hrr : (r == r) = true := by simp
    by_cases h0 : 0 ≤ r
    rotate_left
    · have d0 : decide (0 ≤ r) = false := by simpa using h0
      have d1 : r < 0 := by omega
      clear h0
      go_wp2_with fail
      go_ret
      exact ⟨rfl, hB3⟩
    have d0 : decide (0 ≤ r) = true := by simpa using h0
    have hok : spOk xs ys = true := by
      cases hk : spOk xs ys with
      | true => rfl
      | false => have := HR.out; unfold spRoom at this; rw [hk] at this; simp at this; omega
    have hrf := Lib.hid (room_find hok)
    generalize hfd : spFind xs ys 8 [] = fd; have HFD := Lib.hid hfd; clear hfd
    have HE : Hid (decide (r = 0) = decide (fd < 0)) := Lib.hid (by have := hrf.out; rw [HR.out, HFD.out] at this; exact this)
    go_wp2_with fail
    refine (spaceFind_any _ _ _ _ _ _ _ _ _ xs ys [] 8 _ (ia_3.below ((Below.refl _ _).alloc (Nat.le_refl _) _)) (ib_3.below ((Below.refl _ _).alloc (Nat.le_refl _) _)) ⟨rfl, Nat.zero_le _, fun h => absurd h (Nat.lt_irrefl _)⟩).mono ?_
    rw [HFD.out]
    rintro e w4 ⟨rfl, hb4⟩
    have hB4 : Below w.heap.size w w4 := hB3.trans ((((Below.refl _ _).alloc (Nat.le_refl _) _).trans (hb4.mono (by simp))).mono hB3.size)
    clear hb4
    go_wp2_with fail
    go_ret
    exact ⟨ret_bool (by have h5 : (r == 0) = decide (fd < 0) := (by rw [← HE.out, Bool.eq_iff_iff]; simp); simp [h5]), hB4⟩

  · go_enter Try.func7, Try.ntmps7
    go_wp2_with fail
    go_ret
    exact ⟨rfl, Below.refl _ _⟩

end Go.Proofs.Ytbfdbkidmakapaa
