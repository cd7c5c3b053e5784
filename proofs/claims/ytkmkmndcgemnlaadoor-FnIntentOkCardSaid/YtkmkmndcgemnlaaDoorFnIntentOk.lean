/- FnIntentOk: the walk. Condition: what the library reads lies in memory as the row says. -/
import Derived.Test.YtkmkmndcgemnlaaDoorIntPut
import Derived.Test.YtkmkmndcgemnlaaDoorDrawInt
namespace Go.Proofs.YtkmkmndcgemnlaaDoor
set_option linter.unusedSimpArgs false
set_option linter.unnecessarySimpa false
open Go Go.Lib Go.RowKit
set_option linter.unusedVariables false

set_option maxRecDepth 100000 in
set_option maxHeartbeats 2000000 in
theorem fnIntentOk_walk (A : Option Addr) (n c : Nat) (zs : List Int) (w : World) (he : EnvM w) (h : BytesIn w A n c zs) :
    Calls Tryd.prog 4 #[.slice A n c] w fun e w' => e = .returned (.bool true) ∧ Below w.heap.size w w' := by
  go_enter Tryd.func4, Tryd.ntmps4
  by_cases hb : 1048576 < n
  · have h0 : (1048576 : Int) < (n : Int) := by omega
    go_wp2_with fail
    go_ret
    exact ⟨rfl, Below.refl _ _⟩
  have h0 : ¬ (1048576 : Int) < (n : Int) := by omega
  have h1 : (n : Int) ≤ 1048576 := by omega
  go_wp2_with fail
  refine (drawIntentOk_any A n c zs _ h).mono ?_
  rintro e w1 ⟨g, q, h, x, s, t, a, u, rfl, hh, hs, ht, hu, hb1⟩
  have HB1 : Below w.heap.size w (World.alloc w1 (.cells #[.int .i64 g, .int .i64 q, .string (strB h), .int .i64 x, .string (strB s), .string (strB t), .int .i64 a, .string (strB u)] 30)) := Below.alloc hb1 (by exact hb1.size) _
  go_wp2_with fail
  refine (intOk_any g q h x s t a u _ (he.2.below HB1) hh hs ht hu).mono ?_
  obtain ⟨ok, hok⟩ : ∃ z, z = intB (g, q, h, x, s, t, a, u) := ⟨_, rfl⟩
  rw [← hok]
  have HOK := Lib.hid hok; clear hok
  rintro e w2 ⟨rfl, hb2⟩
  have l1 : w1.heap.size < w2.heap.size := by have := hb2.size; simp at this; omega
  have q0 : w2.cell? ⟨w1.heap.size, 0, none⟩ = some (.int .i64 g) := (hb2.cell (by simp)).trans (by simp [go_sem])
  have q1 : w2.cell? ⟨w1.heap.size, 1, none⟩ = some (.int .i64 q) := (hb2.cell (by simp)).trans (by simp [go_sem])
  have q2 : w2.cell? ⟨w1.heap.size, 2, none⟩ = some (.string (strB h)) := (hb2.cell (by simp)).trans (by simp [go_sem])
  have q3 : w2.cell? ⟨w1.heap.size, 3, none⟩ = some (.int .i64 x) := (hb2.cell (by simp)).trans (by simp [go_sem])
  have q4 : w2.cell? ⟨w1.heap.size, 4, none⟩ = some (.string (strB s)) := (hb2.cell (by simp)).trans (by simp [go_sem])
  have q5 : w2.cell? ⟨w1.heap.size, 5, none⟩ = some (.string (strB t)) := (hb2.cell (by simp)).trans (by simp [go_sem])
  have q6 : w2.cell? ⟨w1.heap.size, 6, none⟩ = some (.int .i64 a) := (hb2.cell (by simp)).trans (by simp [go_sem])
  have q7 : w2.cell? ⟨w1.heap.size, 7, none⟩ = some (.string (strB u)) := (hb2.cell (by simp)).trans (by simp [go_sem])
  have HB2 := HB1.trans (hb2.mono HB1.size)
  clear hb2 HB1
  go_wp2_with fail
  refine (spIntOk_any g q h x s t a u _ hh hs ht hu).mono ?_
  rw [← HOK.out]
  rintro e w3 ⟨rfl, hb3⟩
  have l2 : w1.heap.size < w3.heap.size := by have := hb3.size; omega
  have r0 : w3.cell? ⟨w1.heap.size, 0, none⟩ = some (.int .i64 g) := (hb3.cell l1).trans q0
  have r1 : w3.cell? ⟨w1.heap.size, 1, none⟩ = some (.int .i64 q) := (hb3.cell l1).trans q1
  have r2 : w3.cell? ⟨w1.heap.size, 2, none⟩ = some (.string (strB h)) := (hb3.cell l1).trans q2
  have r3 : w3.cell? ⟨w1.heap.size, 3, none⟩ = some (.int .i64 x) := (hb3.cell l1).trans q3
  have r4 : w3.cell? ⟨w1.heap.size, 4, none⟩ = some (.string (strB s)) := (hb3.cell l1).trans q4
  have r5 : w3.cell? ⟨w1.heap.size, 5, none⟩ = some (.string (strB t)) := (hb3.cell l1).trans q5
  have r6 : w3.cell? ⟨w1.heap.size, 6, none⟩ = some (.int .i64 a) := (hb3.cell l1).trans q6
  have r7 : w3.cell? ⟨w1.heap.size, 7, none⟩ = some (.string (strB u)) := (hb3.cell l1).trans q7
  have HB3 := HB2.trans (hb3.mono HB2.size)
  clear hb3 HB2 l1
  clear q0 q1 q2 q3 q4 q5 q6 q7
  cases ok
  · go_wp2_with fail
    refine (intPut_any g q h x s t a u _ (he.1.below HB3) (he.2.below HB3) hh hs ht hu).mono ?_
    unfold TextR
    rw [intS_no HOK.out.symm]
    rintro e w4 ⟨rfl, hb4⟩
    have hemp : (strB []).toList.isEmpty = true := by rw [strB_list]; rfl
    have HB4 := HB3.trans (hb4.mono HB3.size)
    go_wp2_with fail
    go_ret
    exact ⟨rfl, HB4⟩
  · go_wp2_with fail
    refine (intPut_any g q h x s t a u _ (he.1.below HB3) (he.2.below HB3) hh hs ht hu).mono ?_
    unfold TextR
    have hx := intS_ne HOK.out.symm
    generalize intS (g, q, h, x, s, t, a, u) = z at hx ⊢
    rintro e w4 ⟨rfl, hb4⟩
    have hemp : (strB z).toList.isEmpty = false := by rw [strB_list]; simpa using hx
    have HB4 := HB3.trans (hb4.mono HB3.size)
    clear hx
    go_wp2_with fail
    go_ret
    exact ⟨rfl, HB4⟩
end Go.Proofs.YtkmkmndcgemnlaaDoor
