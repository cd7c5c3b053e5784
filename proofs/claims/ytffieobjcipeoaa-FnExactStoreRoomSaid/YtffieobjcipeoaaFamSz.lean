/- sz at each type: what is left of a bound. No condition. -/
import Derived.Test.YtffieobjcipeoaaFamTo
import Derived.Test.YtffieobjcipeoaaChecked
namespace Go.Proofs.Ytffieobjcipeoaa
set_option linter.unusedVariables false
set_option linter.unusedSimpArgs false
set_option linter.unnecessarySimpa false
open Go.RowKit

set_option maxRecDepth 100000 in
set_option maxHeartbeats 2000000 in
theorem szIntSR_any (A : Option Addr) (n c : Nat) (xs : List Int) (w : World) (lo hi : Nat) (left : Int) (h : SliceR IntR 1 w lo hi A n c xs) (h0 : 0 ≤ left) (h1 : left ≤ 1048576) :
    Calls Try.prog 107 #[.slice A n c, .int .i64 left] w (SzPost (xs.length) left w) := by
  have hl := h.len
  have hn := h.max
  have HL := Lib.hid hl
  have H := Lib.hid h
  clear h hl
  go_enter Try.func107, Try.ntmps107
  by_cases q1 : left - (n : Int) < 0
  · go_wp2_with fail
    go_ret
    exact ⟨-1, rfl, by omega, by omega, fun h => by omega, Below.refl _ _⟩
  go_wp2_with fail
  go_ret
  exact ⟨left - (n : Int), rfl, by omega, by omega, fun _ => by have := HL.out; omega, Below.refl _ _⟩

set_option maxRecDepth 100000 in
set_option maxHeartbeats 2000000 in
theorem szPtrS_any (A : Option Addr) (n c : Nat) (xs : List PtrD) (w : World) (lo hi : Nat) (left : Int) (h : SliceR PtrR 5 w lo hi A n c xs) (h0 : 0 ≤ left) (h1 : left ≤ 1048576) :
    Calls Try.prog 64 #[.slice A n c, .int .i64 left] w (SzPost (xs.length) left w) := by
  have hl := h.len
  have hn := h.max
  have HL := Lib.hid hl
  have H := Lib.hid h
  clear h hl
  go_enter Try.func64, Try.ntmps64
  by_cases q1 : left - (n : Int) < 0
  · go_wp2_with fail
    go_ret
    exact ⟨-1, rfl, by omega, by omega, fun h => by omega, Below.refl _ _⟩
  go_wp2_with fail
  go_ret
  exact ⟨left - (n : Int), rfl, by omega, by omega, fun _ => by have := HL.out; omega, Below.refl _ _⟩












end Go.Proofs.Ytffieobjcipeoaa
