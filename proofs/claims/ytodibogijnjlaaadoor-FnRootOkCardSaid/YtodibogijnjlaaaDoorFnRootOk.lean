/- FnRootOk: the walk. Condition: the table of powers of ten lies as its initialiser lays it. -/
import Derived.Test.YtodibogijnjlaaaDoorRootPut
import Derived.Test.YtodibogijnjlaaaDoorRootPlain
import Derived.Test.YtodibogijnjlaaaDoorDrawRootOk
namespace Go.Proofs.YtodibogijnjlaaaDoor
set_option linter.unusedSimpArgs false
set_option linter.unnecessarySimpa false
open Go Go.Lib Go.RowKit
set_option linter.unusedVariables false

theorem rootS_ne {t a b s m l d y : Int} (h : rootOkB t a b s m l d y = true) : rootS t a b s m l d y ≠ [] := by
  intro he
  have e := (root_rec h).1
  rw [he] at e
  unfold rootL rootF at e
  rw [List.cons_append, encs_cons] at e
  exact enc1_ne _ (List.append_eq_nil_iff.1 e).1
set_option maxRecDepth 100000 in
set_option maxHeartbeats 2000000 in
theorem fnRootOk_walk (A : Option Addr) (n c : Nat) (zs : List Int) (w : World) (ht : Tab w) (h : BytesIn w A n c zs) :
    Calls Tryd.prog 3 #[.slice A n c] w fun e w' => e = .returned (.bool true) ∧ Below w.heap.size w w' := by
  go_enter Tryd.func3, Tryd.ntmps3
  by_cases hb : 1048576 < n
  · have h0 : (1048576 : Int) < (n : Int) := by omega
    go_wp2_with fail
    go_ret
    exact ⟨rfl, Below.refl _ _⟩
  have h0 : ¬ (1048576 : Int) < (n : Int) := by omega
  have h1 : (n : Int) ≤ 1048576 := by omega
  go_wp2_with fail
  refine (drawRootOk_any A n c zs _ h).mono ?_
  rintro e w1 ⟨t, a, b, s, m, l, dd, y, rfl, hb1⟩
  have HB1 : Below w.heap.size w (World.alloc w1 (.cells #[.int .i64 t, .int .i64 a, .int .i64 b, .int .i64 s, .int .i64 m, .int .i64 l, .int .i64 dd, .int .i64 y] 28)) := Below.alloc hb1 (by exact hb1.size) _
  go_wp2_with fail
  refine (rootOk_any t a b s m l dd y _).mono ?_
  obtain ⟨ok, hok⟩ : ∃ x, x = rootOkB t a b s m l dd y := ⟨_, rfl⟩
  rw [← hok]
  have HOK := Lib.hid hok; clear hok
  rintro e w2 ⟨rfl, hb2⟩
  have l1 : w1.heap.size < w2.heap.size := by have := hb2.size; simp at this; omega
  have q0 : w2.cell? ⟨w1.heap.size, 0, none⟩ = some (.int .i64 t) := (hb2.cell (by simp)).trans (by simp [go_sem])
  have q1 : w2.cell? ⟨w1.heap.size, 1, none⟩ = some (.int .i64 a) := (hb2.cell (by simp)).trans (by simp [go_sem])
  have q2 : w2.cell? ⟨w1.heap.size, 2, none⟩ = some (.int .i64 b) := (hb2.cell (by simp)).trans (by simp [go_sem])
  have q3 : w2.cell? ⟨w1.heap.size, 3, none⟩ = some (.int .i64 s) := (hb2.cell (by simp)).trans (by simp [go_sem])
  have q4 : w2.cell? ⟨w1.heap.size, 4, none⟩ = some (.int .i64 m) := (hb2.cell (by simp)).trans (by simp [go_sem])
  have q5 : w2.cell? ⟨w1.heap.size, 5, none⟩ = some (.int .i64 l) := (hb2.cell (by simp)).trans (by simp [go_sem])
  have q6 : w2.cell? ⟨w1.heap.size, 6, none⟩ = some (.int .i64 dd) := (hb2.cell (by simp)).trans (by simp [go_sem])
  have q7 : w2.cell? ⟨w1.heap.size, 7, none⟩ = some (.int .i64 y) := (hb2.cell (by simp)).trans (by simp [go_sem])
  have HB2 := HB1.trans (hb2.mono HB1.size)
  clear hb2 HB1
  go_wp2_with fail
  refine (spRootOk_any t a b s m l dd y _).mono ?_
  rw [← HOK.out]
  rintro e w3 ⟨rfl, hb3⟩
  have l2 : w1.heap.size < w3.heap.size := by have := hb3.size; omega
  have r0 : w3.cell? ⟨w1.heap.size, 0, none⟩ = some (.int .i64 t) := (hb3.cell l1).trans q0
  have r1 : w3.cell? ⟨w1.heap.size, 1, none⟩ = some (.int .i64 a) := (hb3.cell l1).trans q1
  have r2 : w3.cell? ⟨w1.heap.size, 2, none⟩ = some (.int .i64 b) := (hb3.cell l1).trans q2
  have r3 : w3.cell? ⟨w1.heap.size, 3, none⟩ = some (.int .i64 s) := (hb3.cell l1).trans q3
  have r4 : w3.cell? ⟨w1.heap.size, 4, none⟩ = some (.int .i64 m) := (hb3.cell l1).trans q4
  have r5 : w3.cell? ⟨w1.heap.size, 5, none⟩ = some (.int .i64 l) := (hb3.cell l1).trans q5
  have r6 : w3.cell? ⟨w1.heap.size, 6, none⟩ = some (.int .i64 dd) := (hb3.cell l1).trans q6
  have r7 : w3.cell? ⟨w1.heap.size, 7, none⟩ = some (.int .i64 y) := (hb3.cell l1).trans q7
  have HB3 := HB2.trans (hb3.mono HB2.size)
  clear hb3 HB2 l1
  clear q0 q1 q2 q3 q4 q5 q6 q7
  cases ok
  · go_wp2_with fail
    refine (rootPut_any t a b s m l dd y _ (ht.below HB3)).mono ?_
    unfold TextR
    rw [rootS_no HOK.out.symm]
    rintro e w4 ⟨rfl, hb4⟩
    have hemp : (strB []).toList.isEmpty = true := by rw [strB_list]; rfl
    have HB4 := HB3.trans (hb4.mono HB3.size)
    go_wp2_with fail
    go_ret
    exact ⟨rfl, HB4⟩
  · go_wp2_with fail
    refine (rootPut_any t a b s m l dd y _ (ht.below HB3)).mono ?_
    unfold TextR
    have hx := rootS_ne HOK.out.symm
    generalize rootS t a b s m l dd y = x at hx ⊢
    rintro e w4 ⟨rfl, hb4⟩
    have hemp : (strB x).toList.isEmpty = false := by rw [strB_list]; simpa using hx
    have HB4 := HB3.trans (hb4.mono HB3.size)
    clear hx
    go_wp2_with fail
    go_ret
    exact ⟨rfl, HB4⟩
end Go.Proofs.YtodibogijnjlaaaDoor
