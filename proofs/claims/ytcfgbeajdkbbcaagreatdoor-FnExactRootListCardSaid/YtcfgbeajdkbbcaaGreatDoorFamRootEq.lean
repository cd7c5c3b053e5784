/- eq at Ptr, Tree and Root: equal data are told equal. No condition. -/
import Derived.Test.YtcfgbeajdkbbcaaGreatDoorTypes
import Derived.Test.YtcfgbeajdkbbcaaGreatDoorChecked
namespace Go.Proofs.YtcfgbeajdkbbcaaGreatDoor
set_option linter.unusedVariables false
set_option linter.unusedSimpArgs false
set_option linter.unnecessarySimpa false
open Go.RowKit

set_option maxHeartbeats 1000000 in
theorem eqPtr_yes (cs cs' : List Value) (x : PtrD) (w : World) (lo hi lo' hi' : Nat) (h : PtrR w lo hi cs x) (h' : PtrR w lo' hi' cs' x) :
    Calls Tryz.prog 51 #[.agg cs.toArray, .agg cs'.toArray] w fun e w' => e = .returned (.bool true) ∧ Below w.heap.size w w' := by
  obtain ⟨at_, birth_, size_, sum_, level_⟩ := x
  obtain rfl := h
  obtain rfl := h'
  show Calls Tryz.prog 51 #[.agg #[.int .i64 at_, .int .i64 birth_, .int .i64 size_, .int .i64 sum_, .int .i64 level_], .agg #[.int .i64 at_, .int .i64 birth_, .int .i64 size_, .int .i64 sum_, .int .i64 level_]] w _
  go_enter Tryz.func51, Tryz.ntmps51
  go_wp2_with fail
  go_ret
  exact ⟨rfl, bel2⟩

set_option maxHeartbeats 1000000 in
theorem eqTree_yes (cs cs' : List Value) (x : TreeD) (w : World) (lo hi lo' hi' : Nat) (h : TreeR w lo hi cs x) (h' : TreeR w lo' hi' cs' x) :
    Calls Tryz.prog 31 #[.agg cs.toArray, .agg cs'.toArray] w fun e w' => e = .returned (.bool true) ∧ Below w.heap.size w w' := by
  obtain ⟨⟨root_at_, root_birth_, root_size_, root_sum_, root_level_⟩, depth_, many_⟩ := x
  obtain rfl := h
  obtain rfl := h'
  show Calls Tryz.prog 31 #[.agg #[.int .i64 root_at_, .int .i64 root_birth_, .int .i64 root_size_, .int .i64 root_sum_, .int .i64 root_level_, .int .i64 depth_, .int .i64 many_], .agg #[.int .i64 root_at_, .int .i64 root_birth_, .int .i64 root_size_, .int .i64 root_sum_, .int .i64 root_level_, .int .i64 depth_, .int .i64 many_]] w _
  go_enter Tryz.func31, Tryz.ntmps31
  go_wp2_with fail
  have ga : ∀ ww, PtrR ww 0 0 [.int .i64 root_at_, .int .i64 root_birth_, .int .i64 root_size_, .int .i64 root_sum_, .int .i64 root_level_] (root_at_, root_birth_, root_size_, root_sum_, root_level_) := fun _ => rfl
  have gb : ∀ ww, PtrR ww 0 0 [.int .i64 root_at_, .int .i64 root_birth_, .int .i64 root_size_, .int .i64 root_sum_, .int .i64 root_level_] (root_at_, root_birth_, root_size_, root_sum_, root_level_) := fun _ => rfl
  refine (eqPtr_yes _ _ _ _ _ _ _ _ (ga _) (gb _)).mono ?_
  rintro e w1 ⟨rfl, hb1⟩
  clear ga gb
  have X1 : Below w.heap.size w w1 := bel2.trans (hb1.mono (by first | exact bel2.size | (simp <;> omega)))
  have c1_0_0 : w1.cell? ⟨w.heap.size, 0, none⟩ = some (.int .i64 root_at_) := (hb1.cell (by simp <;> omega)).trans (by simp [go_sem])
  have c1_0_1 : w1.cell? ⟨w.heap.size, 1, none⟩ = some (.int .i64 root_birth_) := (hb1.cell (by simp <;> omega)).trans (by simp [go_sem])
  have c1_0_2 : w1.cell? ⟨w.heap.size, 2, none⟩ = some (.int .i64 root_size_) := (hb1.cell (by simp <;> omega)).trans (by simp [go_sem])
  have c1_0_3 : w1.cell? ⟨w.heap.size, 3, none⟩ = some (.int .i64 root_sum_) := (hb1.cell (by simp <;> omega)).trans (by simp [go_sem])
  have c1_0_4 : w1.cell? ⟨w.heap.size, 4, none⟩ = some (.int .i64 root_level_) := (hb1.cell (by simp <;> omega)).trans (by simp [go_sem])
  have c1_0_5 : w1.cell? ⟨w.heap.size, 5, none⟩ = some (.int .i64 depth_) := (hb1.cell (by simp <;> omega)).trans (by simp [go_sem])
  have c1_0_6 : w1.cell? ⟨w.heap.size, 6, none⟩ = some (.int .i64 many_) := (hb1.cell (by simp <;> omega)).trans (by simp [go_sem])
  have c1_1_0 : w1.cell? ⟨w.heap.size + 1, 0, none⟩ = some (.int .i64 root_at_) := (hb1.cell (by simp <;> omega)).trans (by simp [go_sem])
  have c1_1_1 : w1.cell? ⟨w.heap.size + 1, 1, none⟩ = some (.int .i64 root_birth_) := (hb1.cell (by simp <;> omega)).trans (by simp [go_sem])
  have c1_1_2 : w1.cell? ⟨w.heap.size + 1, 2, none⟩ = some (.int .i64 root_size_) := (hb1.cell (by simp <;> omega)).trans (by simp [go_sem])
  have c1_1_3 : w1.cell? ⟨w.heap.size + 1, 3, none⟩ = some (.int .i64 root_sum_) := (hb1.cell (by simp <;> omega)).trans (by simp [go_sem])
  have c1_1_4 : w1.cell? ⟨w.heap.size + 1, 4, none⟩ = some (.int .i64 root_level_) := (hb1.cell (by simp <;> omega)).trans (by simp [go_sem])
  have c1_1_5 : w1.cell? ⟨w.heap.size + 1, 5, none⟩ = some (.int .i64 depth_) := (hb1.cell (by simp <;> omega)).trans (by simp [go_sem])
  have c1_1_6 : w1.cell? ⟨w.heap.size + 1, 6, none⟩ = some (.int .i64 many_) := (hb1.cell (by simp <;> omega)).trans (by simp [go_sem])
  clear hb1
  go_wp2_with fail
  go_ret
  exact ⟨rfl, X1⟩

set_option maxHeartbeats 1000000 in
theorem eqRoot_yes (cs cs' : List Value) (x : RootD) (w : World) (lo hi lo' hi' : Nat) (h : RootR w lo hi cs x) (h' : RootR w lo' hi' cs' x) :
    Calls Tryz.prog 11 #[.agg cs.toArray, .agg cs'.toArray] w fun e w' => e = .returned (.bool true) ∧ Below w.heap.size w w' := by
  obtain ⟨txg_, ⟨⟨meta_root_at_, meta_root_birth_, meta_root_size_, meta_root_sum_, meta_root_level_⟩, meta_depth_, meta_many_⟩⟩ := x
  obtain rfl := h
  obtain rfl := h'
  show Calls Tryz.prog 11 #[.agg #[.int .i64 txg_, .int .i64 meta_root_at_, .int .i64 meta_root_birth_, .int .i64 meta_root_size_, .int .i64 meta_root_sum_, .int .i64 meta_root_level_, .int .i64 meta_depth_, .int .i64 meta_many_], .agg #[.int .i64 txg_, .int .i64 meta_root_at_, .int .i64 meta_root_birth_, .int .i64 meta_root_size_, .int .i64 meta_root_sum_, .int .i64 meta_root_level_, .int .i64 meta_depth_, .int .i64 meta_many_]] w _
  go_enter Tryz.func11, Tryz.ntmps11
  go_wp2_with fail
  have ga : ∀ ww, TreeR ww 0 0 [.int .i64 meta_root_at_, .int .i64 meta_root_birth_, .int .i64 meta_root_size_, .int .i64 meta_root_sum_, .int .i64 meta_root_level_, .int .i64 meta_depth_, .int .i64 meta_many_] ((meta_root_at_, meta_root_birth_, meta_root_size_, meta_root_sum_, meta_root_level_), meta_depth_, meta_many_) := fun _ => rfl
  have gb : ∀ ww, TreeR ww 0 0 [.int .i64 meta_root_at_, .int .i64 meta_root_birth_, .int .i64 meta_root_size_, .int .i64 meta_root_sum_, .int .i64 meta_root_level_, .int .i64 meta_depth_, .int .i64 meta_many_] ((meta_root_at_, meta_root_birth_, meta_root_size_, meta_root_sum_, meta_root_level_), meta_depth_, meta_many_) := fun _ => rfl
  refine (eqTree_yes _ _ _ _ _ _ _ _ (ga _) (gb _)).mono ?_
  rintro e w1 ⟨rfl, hb1⟩
  clear ga gb
  have X1 : Below w.heap.size w w1 := bel2.trans (hb1.mono (by first | exact bel2.size | (simp <;> omega)))
  have c1_0_0 : w1.cell? ⟨w.heap.size, 0, none⟩ = some (.int .i64 txg_) := (hb1.cell (by simp <;> omega)).trans (by simp [go_sem])
  have c1_0_1 : w1.cell? ⟨w.heap.size, 1, none⟩ = some (.int .i64 meta_root_at_) := (hb1.cell (by simp <;> omega)).trans (by simp [go_sem])
  have c1_0_2 : w1.cell? ⟨w.heap.size, 2, none⟩ = some (.int .i64 meta_root_birth_) := (hb1.cell (by simp <;> omega)).trans (by simp [go_sem])
  have c1_0_3 : w1.cell? ⟨w.heap.size, 3, none⟩ = some (.int .i64 meta_root_size_) := (hb1.cell (by simp <;> omega)).trans (by simp [go_sem])
  have c1_0_4 : w1.cell? ⟨w.heap.size, 4, none⟩ = some (.int .i64 meta_root_sum_) := (hb1.cell (by simp <;> omega)).trans (by simp [go_sem])
  have c1_0_5 : w1.cell? ⟨w.heap.size, 5, none⟩ = some (.int .i64 meta_root_level_) := (hb1.cell (by simp <;> omega)).trans (by simp [go_sem])
  have c1_0_6 : w1.cell? ⟨w.heap.size, 6, none⟩ = some (.int .i64 meta_depth_) := (hb1.cell (by simp <;> omega)).trans (by simp [go_sem])
  have c1_0_7 : w1.cell? ⟨w.heap.size, 7, none⟩ = some (.int .i64 meta_many_) := (hb1.cell (by simp <;> omega)).trans (by simp [go_sem])
  have c1_1_0 : w1.cell? ⟨w.heap.size + 1, 0, none⟩ = some (.int .i64 txg_) := (hb1.cell (by simp <;> omega)).trans (by simp [go_sem])
  have c1_1_1 : w1.cell? ⟨w.heap.size + 1, 1, none⟩ = some (.int .i64 meta_root_at_) := (hb1.cell (by simp <;> omega)).trans (by simp [go_sem])
  have c1_1_2 : w1.cell? ⟨w.heap.size + 1, 2, none⟩ = some (.int .i64 meta_root_birth_) := (hb1.cell (by simp <;> omega)).trans (by simp [go_sem])
  have c1_1_3 : w1.cell? ⟨w.heap.size + 1, 3, none⟩ = some (.int .i64 meta_root_size_) := (hb1.cell (by simp <;> omega)).trans (by simp [go_sem])
  have c1_1_4 : w1.cell? ⟨w.heap.size + 1, 4, none⟩ = some (.int .i64 meta_root_sum_) := (hb1.cell (by simp <;> omega)).trans (by simp [go_sem])
  have c1_1_5 : w1.cell? ⟨w.heap.size + 1, 5, none⟩ = some (.int .i64 meta_root_level_) := (hb1.cell (by simp <;> omega)).trans (by simp [go_sem])
  have c1_1_6 : w1.cell? ⟨w.heap.size + 1, 6, none⟩ = some (.int .i64 meta_depth_) := (hb1.cell (by simp <;> omega)).trans (by simp [go_sem])
  have c1_1_7 : w1.cell? ⟨w.heap.size + 1, 7, none⟩ = some (.int .i64 meta_many_) := (hb1.cell (by simp <;> omega)).trans (by simp [go_sem])
  clear hb1
  go_wp2_with fail
  go_ret
  exact ⟨rfl, X1⟩

end Go.Proofs.YtcfgbeajdkbbcaaGreatDoor
