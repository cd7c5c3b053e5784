/- FnRootGet: the walk. Condition: the table of powers of ten and strconv's error value lie as their initialisers lay them. -/
import Derived.Test.YtkaonhjfgnibeaaGreatDoorRootGet
import Derived.Test.YtkaonhjfgnibeaaGreatDoorDrawRoots
namespace Go.Proofs.YtkaonhjfgnibeaaGreatDoor
set_option linter.unusedSimpArgs false
set_option linter.unnecessarySimpa false
open Go Go.Lib Go.RowKit
set_option linter.unusedVariables false

set_option maxRecDepth 100000 in
set_option maxHeartbeats 2000000 in
theorem fnRootGet_walk (A : Option Addr) (n c : Nat) (zs : List Int) (w : World) (he : Env w) (h : BytesIn w A n c zs) :
    Calls Tryz.prog 5 #[.slice A n c] w fun e w' => e = .returned (.bool true) ∧ Below w.heap.size w w' := by
  go_enter Tryz.func5, Tryz.ntmps5
  by_cases hb : 1048576 < n
  · have h0 : (1048576 : Int) < (n : Int) := by omega
    go_wp2_with fail
    go_ret
    exact ⟨rfl, Below.refl _ _⟩
  have h0 : ¬ (1048576 : Int) < (n : Int) := by omega
  have h1 : (n : Int) ≤ 1048576 := by omega
  go_wp2_with fail
  refine (drawRootGet_any A n c zs _ h).mono ?_
  rintro e w1 ⟨x, rfl, hx, hb1⟩
  go_wp2_with fail
  refine (rootGet_any x _ (he.below hb1) (by omega)).mono ?_
  rintro e w2 ⟨t, a, b, s, m, l, dd, y, ok, rfl, R1, hb2⟩
  have H1 := Lib.hid R1; clear R1
  have HB2 := hb1.trans (hb2.mono hb1.size)
  clear hb2
  go_wp2_with fail
  refine (spRootGet_any x _ (by omega)).mono ?_
  rintro e w3 ⟨t', a', b', s', m', l', dd', y', ok', rfl, R2, hb3⟩
  obtain ⟨rfl, rfl, rfl, rfl, rfl, rfl, rfl, rfl, rfl⟩ := rootIs_one H1.out R2
  clear R2
  have l1 : w2.heap.size < w3.heap.size := by have := hb3.size; simp at this; omega
  have q0 : w3.cell? ⟨w2.heap.size, 0, none⟩ = some (.int .i64 t) := (hb3.cell (by simp)).trans (by simp [go_sem])
  have q1 : w3.cell? ⟨w2.heap.size, 1, none⟩ = some (.int .i64 a) := (hb3.cell (by simp)).trans (by simp [go_sem])
  have q2 : w3.cell? ⟨w2.heap.size, 2, none⟩ = some (.int .i64 b) := (hb3.cell (by simp)).trans (by simp [go_sem])
  have q3 : w3.cell? ⟨w2.heap.size, 3, none⟩ = some (.int .i64 s) := (hb3.cell (by simp)).trans (by simp [go_sem])
  have q4 : w3.cell? ⟨w2.heap.size, 4, none⟩ = some (.int .i64 m) := (hb3.cell (by simp)).trans (by simp [go_sem])
  have q5 : w3.cell? ⟨w2.heap.size, 5, none⟩ = some (.int .i64 l) := (hb3.cell (by simp)).trans (by simp [go_sem])
  have q6 : w3.cell? ⟨w2.heap.size, 6, none⟩ = some (.int .i64 dd) := (hb3.cell (by simp)).trans (by simp [go_sem])
  have q7 : w3.cell? ⟨w2.heap.size, 7, none⟩ = some (.int .i64 y) := (hb3.cell (by simp)).trans (by simp [go_sem])
  have HB3 : Below w.heap.size w w3 := (Below.alloc HB2 (by exact HB2.size) _).trans (hb3.mono (by have := HB2.size; simp; omega))
  clear hb3 HB2 hb1
  cases ok
  · go_wp2_with fail
    go_ret
    exact ⟨rfl, Below.alloc HB3 (by exact HB3.size) _⟩
  · obtain ⟨hok, hsx⟩ : rootOkB t a b s m l dd y = true ∧ rootS t a b s m l dd y = x := by
      rcases H1.out with ⟨_, h1, h2⟩ | ⟨h0, _⟩
      · exact ⟨h1, h2⟩
      · cases h0
    have HOK := Lib.hid hok; have HSX := Lib.hid hsx; clear hok hsx H1
    have hself : ∀ s : ByteArray, (s.toList == s.toList) = true := fun s => by simp
    have HB4 : Below w.heap.size w (World.alloc w3 (.cells #[.int .i64 t, .int .i64 a, .int .i64 b, .int .i64 s, .int .i64 m, .int .i64 l, .int .i64 dd, .int .i64 y] 28)) := Below.alloc HB3 (by exact HB3.size) _
    go_wp2_with fail
    refine (rootPut_any t a b s m l dd y _ (he.below HB4).tab).mono ?_
    unfold TextR
    rw [HSX.out]
    rintro e w4 ⟨rfl, hb4⟩
    have HB5 := HB4.trans (hb4.mono HB4.size)
    have r0 : w4.cell? ⟨w2.heap.size, 0, none⟩ = some (.int .i64 t) := (hb4.cell (by simp; omega)).trans (((bel1 (w := w3)).cell l1).trans q0)
    have r1 : w4.cell? ⟨w2.heap.size, 1, none⟩ = some (.int .i64 a) := (hb4.cell (by simp; omega)).trans (((bel1 (w := w3)).cell l1).trans q1)
    have r2 : w4.cell? ⟨w2.heap.size, 2, none⟩ = some (.int .i64 b) := (hb4.cell (by simp; omega)).trans (((bel1 (w := w3)).cell l1).trans q2)
    have r3 : w4.cell? ⟨w2.heap.size, 3, none⟩ = some (.int .i64 s) := (hb4.cell (by simp; omega)).trans (((bel1 (w := w3)).cell l1).trans q3)
    have r4 : w4.cell? ⟨w2.heap.size, 4, none⟩ = some (.int .i64 m) := (hb4.cell (by simp; omega)).trans (((bel1 (w := w3)).cell l1).trans q4)
    have r5 : w4.cell? ⟨w2.heap.size, 5, none⟩ = some (.int .i64 l) := (hb4.cell (by simp; omega)).trans (((bel1 (w := w3)).cell l1).trans q5)
    have r6 : w4.cell? ⟨w2.heap.size, 6, none⟩ = some (.int .i64 dd) := (hb4.cell (by simp; omega)).trans (((bel1 (w := w3)).cell l1).trans q6)
    have r7 : w4.cell? ⟨w2.heap.size, 7, none⟩ = some (.int .i64 y) := (hb4.cell (by simp; omega)).trans (((bel1 (w := w3)).cell l1).trans q7)
    clear hb4 HB4 q0 q1 q2 q3 q4 q5 q6 q7
    go_wp2_with fail
    refine (rootOk_any t a b s m l dd y _).mono ?_
    rw [HOK.out]
    rintro e w5 ⟨rfl, hb5⟩
    go_wp2_with fail
    go_ret
    exact ⟨rfl, HB5.trans (hb5.mono HB5.size)⟩
end Go.Proofs.YtkaonhjfgnibeaaGreatDoor
