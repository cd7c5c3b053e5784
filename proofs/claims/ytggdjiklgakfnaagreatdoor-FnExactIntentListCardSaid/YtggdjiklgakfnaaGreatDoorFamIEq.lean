/- eq at Op and Intent: equal data are told equal. No condition. -/
import Derived.Test.YtggdjiklgakfnaaGreatDoorTypes
import Derived.Test.YtggdjiklgakfnaaGreatDoorChecked
namespace Go.Proofs.YtggdjiklgakfnaaGreatDoor
set_option linter.unusedVariables false
set_option linter.unusedSimpArgs false
set_option linter.unnecessarySimpa false
open Go.RowKit

set_option maxHeartbeats 1000000 in
theorem eqOp_yes (cs cs' : List Value) (x : OpD) (w : World) (lo hi lo' hi' : Nat) (h : OpR w lo hi cs x) (h' : OpR w lo' hi' cs' x) :
    Calls Tryz.prog 51 #[.agg cs.toArray, .agg cs'.toArray] w fun e w' => e = .returned (.bool true) ∧ Below w.heap.size w w' := by
  obtain ⟨kind_, path_, to_, at_, text_⟩ := x
  obtain ⟨rfl, ha0, ha1, ha2⟩ := h
  obtain ⟨rfl, hb0, hb1, hb2⟩ := h'
  show Calls Tryz.prog 51 #[.agg #[.int .i64 kind_, .string path_, .string to_, .int .i64 at_, .string text_], .agg #[.int .i64 kind_, .string path_, .string to_, .int .i64 at_, .string text_]] w _
  have Hha0 := Lib.hid ha0
  clear ha0
  have Hha1 := Lib.hid ha1
  clear ha1
  have Hha2 := Lib.hid ha2
  clear ha2
  have Hhb0 := Lib.hid hb0
  clear hb0
  have Hhb1 := Lib.hid hb1
  clear hb1
  have Hhb2 := Lib.hid hb2
  clear hb2
  go_enter Tryz.func51, Tryz.ntmps51
  go_wp2_with fail
  go_ret
  exact ⟨rfl, bel2⟩

set_option maxHeartbeats 1000000 in
theorem eqIntent_yes (cs cs' : List Value) (x : IntentD) (w : World) (lo hi lo' hi' : Nat) (h : IntentR w lo hi cs x) (h' : IntentR w lo' hi' cs' x) :
    Calls Tryz.prog 29 #[.agg cs.toArray, .agg cs'.toArray] w fun e w' => e = .returned (.bool true) ∧ Below w.heap.size w w' := by
  obtain ⟨txg_, seq_, head_, ⟨op_kind_, op_path_, op_to_, op_at_, op_text_⟩⟩ := x
  obtain ⟨rfl, ha0, ha1, ha2, ha3⟩ := h
  obtain ⟨rfl, hb0, hb1, hb2, hb3⟩ := h'
  show Calls Tryz.prog 29 #[.agg #[.int .i64 txg_, .int .i64 seq_, .string head_, .int .i64 op_kind_, .string op_path_, .string op_to_, .int .i64 op_at_, .string op_text_], .agg #[.int .i64 txg_, .int .i64 seq_, .string head_, .int .i64 op_kind_, .string op_path_, .string op_to_, .int .i64 op_at_, .string op_text_]] w _
  have Hha0 := Lib.hid ha0
  clear ha0
  have Hha1 := Lib.hid ha1
  clear ha1
  have Hha2 := Lib.hid ha2
  clear ha2
  have Hha3 := Lib.hid ha3
  clear ha3
  have Hhb0 := Lib.hid hb0
  clear hb0
  have Hhb1 := Lib.hid hb1
  clear hb1
  have Hhb2 := Lib.hid hb2
  clear hb2
  have Hhb3 := Lib.hid hb3
  clear hb3
  go_enter Tryz.func29, Tryz.ntmps29
  go_wp2_with fail
  have ga : ∀ ww, OpR ww 0 0 [.int .i64 op_kind_, .string op_path_, .string op_to_, .int .i64 op_at_, .string op_text_] (op_kind_, op_path_, op_to_, op_at_, op_text_) := fun _ => ⟨rfl, Hha1.out, Hha2.out, Hha3.out⟩
  have gb : ∀ ww, OpR ww 0 0 [.int .i64 op_kind_, .string op_path_, .string op_to_, .int .i64 op_at_, .string op_text_] (op_kind_, op_path_, op_to_, op_at_, op_text_) := fun _ => ⟨rfl, Hhb1.out, Hhb2.out, Hhb3.out⟩
  refine (eqOp_yes _ _ _ _ _ _ _ _ (ga _) (gb _)).mono ?_
  rintro e w1 ⟨rfl, hb1⟩
  clear ga gb
  have X1 : Below w.heap.size w w1 := bel2.trans (hb1.mono (by first | exact bel2.size | (simp <;> omega)))
  have c1_0_0 : w1.cell? ⟨w.heap.size, 0, none⟩ = some (.int .i64 txg_) := (hb1.cell (by simp <;> omega)).trans (by simp [go_sem])
  have c1_0_1 : w1.cell? ⟨w.heap.size, 1, none⟩ = some (.int .i64 seq_) := (hb1.cell (by simp <;> omega)).trans (by simp [go_sem])
  have c1_0_2 : w1.cell? ⟨w.heap.size, 2, none⟩ = some (.string head_) := (hb1.cell (by simp <;> omega)).trans (by simp [go_sem])
  have c1_0_3 : w1.cell? ⟨w.heap.size, 3, none⟩ = some (.int .i64 op_kind_) := (hb1.cell (by simp <;> omega)).trans (by simp [go_sem])
  have c1_0_4 : w1.cell? ⟨w.heap.size, 4, none⟩ = some (.string op_path_) := (hb1.cell (by simp <;> omega)).trans (by simp [go_sem])
  have c1_0_5 : w1.cell? ⟨w.heap.size, 5, none⟩ = some (.string op_to_) := (hb1.cell (by simp <;> omega)).trans (by simp [go_sem])
  have c1_0_6 : w1.cell? ⟨w.heap.size, 6, none⟩ = some (.int .i64 op_at_) := (hb1.cell (by simp <;> omega)).trans (by simp [go_sem])
  have c1_0_7 : w1.cell? ⟨w.heap.size, 7, none⟩ = some (.string op_text_) := (hb1.cell (by simp <;> omega)).trans (by simp [go_sem])
  have c1_1_0 : w1.cell? ⟨w.heap.size + 1, 0, none⟩ = some (.int .i64 txg_) := (hb1.cell (by simp <;> omega)).trans (by simp [go_sem])
  have c1_1_1 : w1.cell? ⟨w.heap.size + 1, 1, none⟩ = some (.int .i64 seq_) := (hb1.cell (by simp <;> omega)).trans (by simp [go_sem])
  have c1_1_2 : w1.cell? ⟨w.heap.size + 1, 2, none⟩ = some (.string head_) := (hb1.cell (by simp <;> omega)).trans (by simp [go_sem])
  have c1_1_3 : w1.cell? ⟨w.heap.size + 1, 3, none⟩ = some (.int .i64 op_kind_) := (hb1.cell (by simp <;> omega)).trans (by simp [go_sem])
  have c1_1_4 : w1.cell? ⟨w.heap.size + 1, 4, none⟩ = some (.string op_path_) := (hb1.cell (by simp <;> omega)).trans (by simp [go_sem])
  have c1_1_5 : w1.cell? ⟨w.heap.size + 1, 5, none⟩ = some (.string op_to_) := (hb1.cell (by simp <;> omega)).trans (by simp [go_sem])
  have c1_1_6 : w1.cell? ⟨w.heap.size + 1, 6, none⟩ = some (.int .i64 op_at_) := (hb1.cell (by simp <;> omega)).trans (by simp [go_sem])
  have c1_1_7 : w1.cell? ⟨w.heap.size + 1, 7, none⟩ = some (.string op_text_) := (hb1.cell (by simp <;> omega)).trans (by simp [go_sem])
  clear hb1
  go_wp2_with fail
  go_ret
  exact ⟨rfl, X1⟩

end Go.Proofs.YtggdjiklgakfnaaGreatDoor
