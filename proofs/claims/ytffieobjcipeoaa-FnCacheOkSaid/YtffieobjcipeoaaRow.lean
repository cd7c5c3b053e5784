/- The drawing of a row. No condition. -/
import Derived.Test.YtffieobjcipeoaaRd
namespace Go.Proofs.Ytffieobjcipeoaa
set_option linter.unnecessarySimpa false
open Go.RowKit
set_option linter.unusedVariables false
set_option linter.unusedSimpArgs false

/-- All cells of an array are ints. -/
def AllInts (cur : Array Value) : Prop := ∀ i, i < cur.size → ∃ x : Int, cur[i]? = some (.int .i64 x)
theorem allInts_of (xs : List Int) : AllInts (xs.map (Value.int .i64)).toArray := by
  intro i hi
  have h : i < xs.length := by simpa using hi
  exact ⟨xs[i], by simp [h]⟩
theorem lit_cell {W W' : World} {p b r : Nat} {t : TypeId} {cur : Array Value} (hL : AllInts cur) (hc : Chg (· ∈ [p]) (W.alloc (.cells cur t)) W') (hb : b = W.heap.size) (hp : p ≠ b) (hr : r < cur.size) : ∃ x : Int, W'.cell? ⟨b, r, none⟩ = some (.int .i64 x) := by
  obtain ⟨x, hx⟩ := hL r hr
  subst hb
  refine ⟨x, (World.cell?_of_block (hc.block W.heap.size (by simp) (by simpa using hp.symm))).trans ?_⟩
  simp [go_sem, hx]

def RowDrawn (w : World) (p : Nat) (A : Option Addr) (n c : Nat) (zs : List Int) (k : Nat) (e : Ending) (w' : World) : Prop :=
  ∃ (x : Int) (k' : Nat), e = .returned (.int .i64 x) ∧ k' ≤ k + 2 ∧ Rd w' p A n c zs k' ∧ Chg (· ∈ [p]) w w'

def L6 : List Int := [-1, 0, 3, 7, 64, 63]
set_option maxHeartbeats 1000000 in
theorem l91Row_any (w : World) (p : Nat) (A : Option Addr) (n c : Nat) (zs : List Int) (k : Nat) (hr : Rd w p A n c zs k) (hk : k ≤ 500000) :
    Calls Try.prog 76 #[.pointer (some ⟨p, 0, none⟩)] w (RowDrawn w p A n c zs k) := by
  have hp := hr.2.2.2.1
  go_enter Try.func76, Try.ntmps76
  go_wp2_with fail
  refine (pick_any _ p A n c zs _ 8 hr (by omega) (by omega) (by omega)).mono ?_
  rintro e w1 ⟨r, rfl, hr1, rd1, hc1, hz1⟩
  have hr1 := hr1 (by omega)
  clear hz1
  by_cases h0 : r = 0
  · have e0 : ((r : Int) == 0) = true := by simp [h0]
    clear h0
    go_wp2_with fail
    refine (pick_any _ p A n c zs _ 6 (rd1.below ((Below.refl _ _).alloc (Nat.le_refl _) _)) (by omega) (by omega) (by omega)).mono ?_
    rintro e w2 ⟨r2, rfl, hr2, rd2, hc2, hz2⟩
    have hr2 := hr2 (by omega)
    obtain ⟨x, hx⟩ := lit_cell (r := r2) (allInts_of L6) hc2 rfl (by have := rd1.2.2.2.1; omega) (by simp [L6]; omega)
    clear hz2
    go_wp2_with fail
    go_ret
    exact ⟨x, _, rfl, by omega, rd2, (hc1.alloc _).trans hc2⟩
  · have e0 : ((r : Int) == 0) = false := by simp [h0]
    clear h0
    go_wp2_with fail
    refine (pick_any _ p A n c zs _ 12 rd1 (by omega) (by omega) (by omega)).mono ?_
    rintro e w2 ⟨r2, rfl, hr2, rd2, hc2, hz2⟩
    have hr2 := hr2 (by omega)
    clear hz2
    go_wp2_with fail
    go_ret
    exact ⟨_, _, rfl, by omega, rd2, hc1.trans hc2⟩
end Go.Proofs.Ytffieobjcipeoaa
