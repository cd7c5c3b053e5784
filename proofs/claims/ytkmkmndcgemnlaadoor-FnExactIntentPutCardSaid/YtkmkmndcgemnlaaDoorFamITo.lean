/- to at Op and Intent: the same value. No condition. -/
import Derived.Test.YtkmkmndcgemnlaaDoorFam0
import Derived.Test.YtkmkmndcgemnlaaDoorChecked
namespace Go.Proofs.YtkmkmndcgemnlaaDoor
set_option linter.unusedVariables false
set_option linter.unusedSimpArgs false
set_option linter.unnecessarySimpa false
open Go.RowKit

def sizeOp (x : OpD) : Nat := x.2.1.size + x.2.2.1.size + x.2.2.2.2.size
def sizeIntent (x : IntentD) : Nat := x.2.2.1.size + x.2.2.2.2.1.size + x.2.2.2.2.2.1.size + x.2.2.2.2.2.2.2.size
set_option maxRecDepth 100000 in
set_option maxHeartbeats 2000000 in
theorem toOp_any (cs : List Value) (x : OpD) (w w0 : World) (lo hi : Nat) (h : OpR w0 lo hi cs x) :
    Calls Tryd.prog 17 #[.agg cs.toArray] w fun e w' => e = .returned (.agg cs.toArray) ∧ Below w.heap.size w w' := by
  obtain ⟨kind_, path_, to_, at_, text_⟩ := x
  obtain ⟨rfl, ha0, ha1, ha2⟩ := h
  show Calls Tryd.prog 17 #[.agg #[.int .i64 kind_, .string path_, .string to_, .int .i64 at_, .string text_]] w _
  clear ha0
  clear ha1
  clear ha2
  go_enter Tryd.func17, Tryd.ntmps17
  go_wp2
  exact bodyPost_ret (v := .agg #[.int .i64 kind_, .string path_, .string to_, .int .i64 at_, .string text_]) (by simp [results, Tryd.results17, go_sem]) rfl ⟨rfl, by repeat (first | exact Below.refl _ _ | assumption | refine Below.setCell ?_ (by simp <;> omega) _ | refine Below.alloc ?_ (by simp <;> omega) _)⟩

set_option maxRecDepth 100000 in
set_option maxHeartbeats 2000000 in
theorem toIntent_any (cs : List Value) (x : IntentD) (w w0 : World) (lo hi : Nat) (h : IntentR w0 lo hi cs x) :
    Calls Tryd.prog 8 #[.agg cs.toArray] w fun e w' => e = .returned (.agg cs.toArray) ∧ Below w.heap.size w w' := by
  obtain ⟨txg_, seq_, head_, ⟨op_kind_, op_path_, op_to_, op_at_, op_text_⟩⟩ := x
  obtain ⟨rfl, ha0, ha1, ha2, ha3⟩ := h
  show Calls Tryd.prog 8 #[.agg #[.int .i64 txg_, .int .i64 seq_, .string head_, .int .i64 op_kind_, .string op_path_, .string op_to_, .int .i64 op_at_, .string op_text_]] w _
  clear ha0
  clear ha1
  clear ha2
  clear ha3
  go_enter Tryd.func8, Tryd.ntmps8
  go_wp2
  refine bodyPost_ret (v := .agg #[.int .i64 op_kind_, .string op_path_, .string op_to_, .int .i64 op_at_, .string op_text_]) (by simp [results, Tryd.results17, go_sem]) rfl ?_
  go_wp2
  exact bodyPost_ret (v := .agg #[.int .i64 txg_, .int .i64 seq_, .string head_, .int .i64 op_kind_, .string op_path_, .string op_to_, .int .i64 op_at_, .string op_text_]) (by simp [results, Tryd.results8, go_sem]) rfl ⟨rfl, by repeat (first | exact Below.refl _ _ | assumption | refine Below.setCell ?_ (by simp <;> omega) _ | refine Below.alloc ?_ (by simp <;> omega) _)⟩

end Go.Proofs.YtkmkmndcgemnlaaDoor
