/- sz at Op and Intent. No condition. -/
import Derived.Test.YtkmkmndcgemnlaaDoorFamITo
import Derived.Test.YtkmkmndcgemnlaaDoorChecked
namespace Go.Proofs.YtkmkmndcgemnlaaDoor
set_option linter.unusedVariables false
set_option linter.unusedSimpArgs false
set_option linter.unnecessarySimpa false
open Go.RowKit

set_option maxRecDepth 100000 in
set_option maxHeartbeats 2000000 in
theorem szOp_any (cs : List Value) (x : OpD) (w : World) (lo hi : Nat) (left : Int) (h : OpR w lo hi cs x) (h0 : 0 ≤ left) (h1 : left ≤ 1048576) :
    Calls Tryd.prog 13 #[.agg cs.toArray, .int .i64 left] w (SzPost (sizeOp x) left w) := by
  obtain ⟨kind_, path_, to_, at_, text_⟩ := x
  obtain ⟨rfl, ha0, ha1, ha2⟩ := h
  show Calls Tryd.prog 13 #[.agg #[.int .i64 kind_, .string path_, .string to_, .int .i64 at_, .string text_], .int .i64 left] w _
  have ha0 : path_.size ≤ 9223372036854775807 := by unfold maxLen at ha0; exact ha0
  have ha1 : to_.size ≤ 9223372036854775807 := by unfold maxLen at ha1; exact ha1
  have ha2 : text_.size ≤ 9223372036854775807 := by unfold maxLen at ha2; exact ha2
  go_enter Tryd.func13, Tryd.ntmps13
  by_cases q1 : left - (path_.size : Int) < 0
  · go_wp2_with fail
    go_ret
    exact ⟨-1, rfl, by omega, by omega, fun h => by omega, bel1⟩
  by_cases q2 : left - (path_.size : Int) - (to_.size : Int) < 0
  · go_wp2_with fail
    go_ret
    exact ⟨-1, rfl, by omega, by omega, fun h => by omega, bel1⟩
  by_cases q3 : left - (path_.size : Int) - (to_.size : Int) - (text_.size : Int) < 0
  · go_wp2_with fail
    go_ret
    exact ⟨-1, rfl, by omega, by omega, fun h => by omega, bel1⟩
  go_wp2_with fail
  go_ret
  exact ⟨left - (path_.size : Int) - (to_.size : Int) - (text_.size : Int), rfl, by omega, by omega, fun _ => by show ((path_.size + to_.size + text_.size : Nat) : Int) ≤ _; omega, bel1⟩

set_option maxRecDepth 100000 in
set_option maxHeartbeats 2000000 in
theorem szIntent_any (cs : List Value) (x : IntentD) (w : World) (lo hi : Nat) (left : Int) (h : IntentR w lo hi cs x) (h0 : 0 ≤ left) (h1 : left ≤ 1048576) :
    Calls Tryd.prog 6 #[.agg cs.toArray, .int .i64 left] w (SzPost (sizeIntent x) left w) := by
  obtain ⟨g, q, h', ⟨kd, p, t, a, x⟩⟩ := x
  obtain ⟨rfl, ha0, ha1, ha2, ha3⟩ := h
  show Calls Tryd.prog 6 #[.agg #[.int .i64 g, .int .i64 q, .string h', .int .i64 kd, .string p, .string t, .int .i64 a, .string x], .int .i64 left] w _
  have hb0 : h'.size ≤ 9223372036854775807 := by unfold maxLen at ha0; omega
  have R : ∀ W, OpR W 0 0 [.int .i64 kd, .string p, .string t, .int .i64 a, .string x] (kd, p, t, a, x) := fun W => ⟨rfl, ha1, ha2, ha3⟩
  have HR := Lib.hid R
  clear R ha0 ha1 ha2 ha3
  go_enter Tryd.func6, Tryd.ntmps6
  by_cases q1 : left - (h'.size : Int) < 0
  · go_wp2_with fail
    go_ret
    exact ⟨-1, rfl, by omega, by omega, fun h => by omega, bel1⟩
  go_wp2_with fail
  refine (szOp_any _ _ _ 0 0 (left - (h'.size : Int)) (HR.out _) (by omega) (by omega)).mono ?_
  rintro e w1 ⟨r, rfl, p1, o1, s1, hb1⟩
  have P := Lib.hid s1; clear s1
  have X1 : Below w.heap.size w w1 := bel1.trans (hb1.mono (by simp))
  clear hb1
  by_cases q2 : r < 0
  · go_wp2_with fail
    go_ret
    exact ⟨-1, rfl, by omega, by omega, fun h => by omega, X1⟩
  go_wp2_with fail
  go_ret
  have P2 : ((p.size + t.size + x.size : Nat) : Int) ≤ left - (h'.size : Int) - r := P.out (by omega)
  exact ⟨r, rfl, by omega, by omega, fun _ => by show ((h'.size + p.size + t.size + x.size : Nat) : Int) ≤ _; omega, X1⟩

end Go.Proofs.YtkmkmndcgemnlaaDoor
