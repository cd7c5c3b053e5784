/- FnSpaceNew: new space is valid and all of its rows are free. No condition. -/
import Derived.Test.YtbfdbkidmakapaaFrame
import Derived.Test.YtbfdbkidmakapaaSpaceRoom
namespace Go.Proofs.Ytbfdbkidmakapaa
set_option linter.unusedVariables false
set_option linter.unusedSimpArgs false
set_option linter.unnecessarySimpa false
open Go.ChangeShapes Go.WideShapes Go.ChangeAt Go.RowKit
open Go.ChangeMaps (open_string shut_string)

theorem z64_len : z64.length = 64 := by simp [z64]
theorem z64_get (i : Nat) : z64.getD i 0 = 0 := by
  unfold z64
  simp only [List.getD, List.getElem?_replicate]
  split <;> rfl
theorem z64_ok : spOk z64 z64 = true := by
  rw [spOk_iff]
  refine ⟨z64_len, z64_len, fun i hi => ?_⟩
  rw [z64_get]
  unfold rowOk
  omega
theorem z64_roomTo : roomTo z64 56 = 56 := by unfold roomTo z64; decide +kernel
theorem z64_room : spRoom z64 z64 = 56 := by
  unfold spRoom
  rw [if_pos z64_ok, z64_roomTo]
  rfl

set_option maxHeartbeats 1000000 in
theorem fnSpaceNew_walk (A : Option Addr) (n c : Nat) (zs : List Int) (w : World) (_hz : BytesIn w A n c zs) :
    Calls Try.prog 3 #[.slice A n c] w fun e w' => e = .returned (.bool true) ∧ Below w.heap.size w w' := by
  by_cases hn : n ≤ 1048576
  · go_enter Try.func3, Try.ntmps3
    go_wp2_with fail
    refine (spaceNew_any _).mono ?_
    rintro e w1 ⟨g, h, cg, ch, rfl, hgh, hg, hh, o1, o2, hb1⟩
    have s1 := hb1.size
    have l1 := o1.lt
    have l2 := o2.lt
    go_wp2_with fail
    refine (spSpaceNew_any _).mono ?_
    rintro e w2 ⟨g', h', cg', ch', rfl, hgh', hg', hh', o1', o2', hb2⟩
    have s2 := hb2.size
    have l1' := o1'.lt
    have l2' := o2'.lt
    simp at s2 hg' hh'
    have s2' : w1.heap.size < w2.heap.size := by omega
    have hb3 : Below w.heap.size w w2 := (hb1.alloc s1 _).trans (hb2.mono (by simp; omega))
    have o1b : OwnI w2 g 64 cg z64 := (o1.alloc _).below hb2
    have o2b : OwnI w2 h 64 ch z64 := (o2.alloc _).below hb2
    have c0 : w2.cell? ⟨w1.heap.size, 0, none⟩ = some (.slice (some ⟨g, 0, none⟩) 64 cg) := (hb2.cell (by simp)).trans (by simp [go_sem])
    have c1 : w2.cell? ⟨w1.heap.size, 1, none⟩ = some (.slice (some ⟨h, 0, none⟩) 64 ch) := (hb2.cell (by simp)).trans (by simp [go_sem])
    go_wp2_with fail
    refine (pfSpace_any _ _ _ _ _ _ _ _ _ _ _ _ z64 z64 z64 z64 _ (o1b.alloc _).at_ (o2b.alloc _).at_ (o1'.alloc _).at_ (o2'.alloc _).at_).mono ?_
    rintro e w3 ⟨rfl, hb4⟩
    have s3 := hb4.size
    simp at s3
    have hb5 : Below w.heap.size w w3 := (hb3.alloc hb3.size _).trans (hb4.mono (by have := hb3.size; simp; omega))
    have e1 : eqInts z64 z64 = true := by unfold eqInts; simp
    have d0 : w3.cell? ⟨w1.heap.size, 0, none⟩ = some (.slice (some ⟨g, 0, none⟩) 64 cg) := (hb4.cell (by simp; omega)).trans (by simp [go_sem, c0, s2'])
    have d1 : w3.cell? ⟨w1.heap.size, 1, none⟩ = some (.slice (some ⟨h, 0, none⟩) 64 ch) := (hb4.cell (by simp; omega)).trans (by simp [go_sem, c1, s2'])
    have o1c : OwnI w3 g 64 cg z64 := (o1b.alloc _).below hb4
    have o2c : OwnI w3 h 64 ch z64 := (o2b.alloc _).below hb4
    clear c0 c1 o1 o2 o1b o2b o1' o2' hb4 hb2
    go_wp2_with fail
    have e2 := z64_ok
    refine (spaceOk_any _ _ _ _ _ _ z64 z64 _ o1c.at_ o2c.at_).mono ?_
    rintro e w4 ⟨rfl, hb6⟩
    have f0 := (hb6.cell (p := ⟨w1.heap.size, 0, none⟩) (by simp; omega)).trans d0
    have f1 := (hb6.cell (p := ⟨w1.heap.size, 1, none⟩) (by simp; omega)).trans d1
    go_wp2_with fail
    refine (spaceRoom_any _ _ _ _ _ _ z64 z64 _ (o1c.below hb6).at_ (o2c.below hb6).at_ o1c.2.1).mono ?_
    rintro e w5 ⟨rfl, hb7⟩
    have e3 := z64_room
    go_wp2_with fail
    go_ret
    exact ⟨rfl, (hb5.trans (hb6.mono hb5.size)).trans (hb7.mono (Nat.le_trans hb5.size hb6.size))⟩
  · go_enter Try.func3, Try.ntmps3
    go_wp2_with fail
    go_ret
    exact ⟨rfl, Below.refl _ _⟩

end Go.Proofs.Ytbfdbkidmakapaa
