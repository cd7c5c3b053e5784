/- SpaceNew, of the program and of the reference: two new rows of 64 zeros. pfSpace, SpaceRoom. No condition. -/
import Derived.Test.YtffieobjcipeoaaTypes
import Derived.Test.YtffieobjcipeoaaSpaceOkS
import Derived.RegionTactic
import Derived.BigRegion
namespace Go.Proofs.Ytffieobjcipeoaa
set_option linter.unusedVariables false
set_option linter.unusedSimpArgs false
set_option linter.unnecessarySimpa false
open Go.RowKit

def Z64 : Array Value := madeCells #[.int .i64 0] 64
def z64 : List Int := List.replicate 64 0
theorem Z64_list : Z64.toList = z64.map (Value.int .i64) := by simp [Z64, z64, toList_madeCells_one]
theorem Z64_size : Z64.size = 64 := size_madeCells _ _
theorem Z64_max : Z64.size ≤ 140737488355328 := by rw [Z64_size]; omega

/-- A new space: two rows of the call's own that are not one. -/
def NewSp (w : World) (xs ys : List Int) (e : Ending) (w' : World) : Prop :=
  ∃ g h c d : Nat, e = .returned (.agg #[.slice (some ⟨g, 0, none⟩) 64 c, .slice (some ⟨h, 0, none⟩) 64 d]) ∧ g ≠ h ∧ w.heap.size ≤ g ∧ w.heap.size ≤ h ∧
    OwnI w' g 64 c xs ∧ OwnI w' h 64 d ys ∧ Below w.heap.size w w'

theorem makeZ (w : World) : (Instr.makeSlice 25 (.int .i64 64) (.int .i64 64)).run Try.prog w = .ok (.slice (some ⟨w.heap.size, 0, none⟩) 64 64) (w.alloc (.cells Z64 3)) := by kernel_rfl

set_option maxHeartbeats 1000000 in
theorem spaceNew_any (w : World) : Calls Try.prog 38 #[] w (NewSp w z64 z64) := by
  have hmk := makeZ
  go_enter Try.func38, Try.ntmps38
  go_wp2
  go_region
  all_goals go_wp2
  · refine bodyPost_ret (v := .agg #[.slice (some ⟨w.heap.size + 1, 0, none⟩) 64 64, .slice (some ⟨w.heap.size + 1 + 1, 0, none⟩) 64 64]) (by simp [results, Try.results38, go_sem]) rfl ?_
    exact ⟨_, _, _, _, rfl, by omega, by omega, by omega, (((OwnI.new Z64_list Z64_max (by simp) Z64_size.symm).alloc _).drewN 1), ((OwnI.new Z64_list Z64_max (by simp) Z64_size.symm).drewN 1),
      below_drewN ((((Below.refl _ _).alloc (Nat.le_refl _) _).alloc (by simp) _).alloc (by simp; omega) _) 1⟩
  · refine bodyPost_ret (v := .agg #[.slice (some ⟨w.heap.size + 1 + 1, 0, none⟩) 64 64, .slice (some ⟨w.heap.size + 1, 0, none⟩) 64 64]) (by simp [results, Try.results38, go_sem]) rfl ?_
    exact ⟨_, _, _, _, rfl, by omega, by omega, by omega, ((OwnI.new Z64_list Z64_max (by simp) Z64_size.symm).drewN 1), (((OwnI.new Z64_list Z64_max (by simp) Z64_size.symm).alloc _).drewN 1),
      below_drewN ((((Below.refl _ _).alloc (Nat.le_refl _) _).alloc (by simp) _).alloc (by simp; omega) _) 1⟩

set_option maxHeartbeats 1000000 in
theorem spSpaceNew_any (w : World) : Calls Try.prog 39 #[] w (NewSp w z64 z64) := by
  have hmk := makeZ
  go_enter Try.func39, Try.ntmps39
  go_wp2
  go_region
  all_goals go_wp2
  · refine bodyPost_ret (v := .agg #[.slice (some ⟨w.heap.size + 1, 0, none⟩) 64 64, .slice (some ⟨w.heap.size + 1 + 1, 0, none⟩) 64 64]) (by simp [results, Try.results39, go_sem]) rfl ?_
    exact ⟨_, _, _, _, rfl, by omega, by omega, by omega, (((OwnI.new Z64_list Z64_max (by simp) Z64_size.symm).alloc _).drewN 1), ((OwnI.new Z64_list Z64_max (by simp) Z64_size.symm).drewN 1),
      below_drewN ((((Below.refl _ _).alloc (Nat.le_refl _) _).alloc (by simp) _).alloc (by simp; omega) _) 1⟩
  · refine bodyPost_ret (v := .agg #[.slice (some ⟨w.heap.size + 1 + 1, 0, none⟩) 64 64, .slice (some ⟨w.heap.size + 1, 0, none⟩) 64 64]) (by simp [results, Try.results39, go_sem]) rfl ?_
    exact ⟨_, _, _, _, rfl, by omega, by omega, by omega, ((OwnI.new Z64_list Z64_max (by simp) Z64_size.symm).drewN 1), (((OwnI.new Z64_list Z64_max (by simp) Z64_size.symm).alloc _).drewN 1),
      below_drewN ((((Below.refl _ _).alloc (Nat.le_refl _) _).alloc (by simp) _).alloc (by simp; omega) _) 1⟩

set_option maxHeartbeats 1000000 in
theorem pfSpace_any (A B A' B' : Option Addr) (n c m d n' c' m' d' : Nat) (xs ys xs' ys' : List Int) (w : World) (hA : IntsAt w A n xs) (hB : IntsAt w B m ys) (hA' : IntsAt w A' n' xs') (hB' : IntsAt w B' m' ys') :
    Calls Try.prog 41 #[.agg #[.slice A n c, .slice B m d], .agg #[.slice A' n' c', .slice B' m' d']] w fun e w' =>
      e = .returned (.bool (eqInts xs xs' && eqInts ys ys')) ∧ Below w.heap.size w w' := by
  have hb : ∀ o o', Below w.heap.size w ((w.alloc o).alloc o') := fun o o' => ((Below.refl _ _).alloc (Nat.le_refl _) _).alloc (by simp) _
  cases h1 : eqInts xs xs'
  · go_enter Try.func41, Try.ntmps41
    go_wp2_with fail
    refine (pfInts_any _ _ _ _ _ _ xs xs' _ (hA.below (hb _ _)) (hA'.below (hb _ _))).mono ?_
    rintro e w1 ⟨rfl, q, rfl⟩
    go_wp2_with fail
    go_ret
    exact ⟨rfl, below_drewN (hb _ _) _⟩
  · go_enter Try.func41, Try.ntmps41
    go_wp2_with fail
    refine (pfInts_any _ _ _ _ _ _ xs xs' _ (hA.below (hb _ _)) (hA'.below (hb _ _))).mono ?_
    rintro e w1 ⟨rfl, q, rfl⟩
    go_wp2_with fail
    refine (pfInts_any _ _ _ _ _ _ ys ys' _ ?_ ?_).mono ?_
    · exact hB.below (below_drewN (hb _ _) _)
    · exact hB'.below (below_drewN (hb _ _) _)
    rintro e w1 ⟨rfl, q', rfl⟩
    go_wp2_with fail
    go_ret
    exact ⟨rfl, below_drewN (hb _ _) _⟩
end Go.Proofs.Ytffieobjcipeoaa
