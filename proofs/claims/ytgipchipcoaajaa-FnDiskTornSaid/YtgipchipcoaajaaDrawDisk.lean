/- Drawn cells of a disk. No condition. -/
import Derived.Test.YtgipchipcoaajaaRd
import Derived.Test.YtgipchipcoaajaaCopies
namespace Go.Proofs.Ytgipchipcoaajaa
set_option linter.unusedVariables false
set_option linter.unusedSimpArgs false
set_option linter.unnecessarySimpa false
open Go.RowKit

/-- A number drawn by a reader. -/
def PickedIn (lo hi : Int) (d : Nat) (w : World) (p : Nat) (A : Option Addr) (n c : Nat) (zs : List Int) (k : Nat) (e : Ending) (w' : World) : Prop :=
  ∃ (x : Int) (k' : Nat), e = .returned (.int .i64 x) ∧ lo ≤ x ∧ x ≤ hi ∧ k' ≤ k + d ∧ Rd w' p A n c zs k' ∧ Chg (· ∈ [p]) w w'
set_option maxRecDepth 100000 in
set_option maxHeartbeats 2000000 in
theorem l91Cell_any (w : World) (p : Nat) (A : Option Addr) (n c : Nat) (zs : List Int) (k : Nat) (h : Rd w p A n c zs k) (hk : k ≤ 900000) :
    Calls Try.prog 61 #[.pointer (some ⟨p, 0, none⟩)] w (PickedIn (-1) 64 2 w p A n c zs k) := by
  go_enter Try.func61, Try.ntmps61
  go_wp2_with fail
  refine (pick_any w p A n c zs k 10 h (by omega) (by omega) (by omega)).mono ?_
  rintro e w1 ⟨r, rfl, hr, h1, hc1, hz1⟩
  have hr := hr (by omega)
  clear hz1
  by_cases h0 : r = 0
  · subst h0
    go_wp2_with fail
    have hp := h1.2.2.2.1
    refine (pick_any (w1.alloc (.cells #[.int .i64 (-1), .int .i64 64, .int .i64 63] 3)) p A n c zs (k + 1) 3 (h1.below bel1) (by omega) (by omega) (by omega)).mono ?_
    rintro e w2 ⟨s, rfl, hs, h2, hc2, hz2⟩
    have hs := hs (by omega)
    clear hz2
    have hbk : ∀ i v, (#[Value.int .i64 (-1), .int .i64 64, .int .i64 63] : Array Value)[i]? = some v → w2.cell? ⟨w1.heap.size, i, none⟩ = some v := fun i v hv =>
      (cell_of_row _ _ i _ _ (0, 0) ((hc2.block _ (by simp) (fun hm => by simp at hm; omega)).trans (heap_alloc_new _ _))).trans hv
    have c0 := hbk 0 _ rfl; have c1 := hbk 1 _ rfl; have c2 := hbk 2 _ rfl
    have hcc : Chg (· ∈ [p]) w w2 := (hc1.alloc _).trans hc2
    clear hbk
    have hx : s = 0 ∨ s = 1 ∨ s = 2 := by omega
    clear hs
    rcases hx with rfl | rfl | rfl
    · go_wp2_with fail
      go_ret
      exact ⟨_, _, rfl, by omega, by omega, Nat.le_refl _, h2, hcc⟩
    · go_wp2_with fail
      go_ret
      exact ⟨_, _, rfl, by omega, by omega, Nat.le_refl _, h2, hcc⟩
    · go_wp2_with fail
      go_ret
      exact ⟨_, _, rfl, by omega, by omega, Nat.le_refl _, h2, hcc⟩
  · have h0' : ¬ ((r : Int) = 0) := by omega
    have h0'' : ((r : Int) == 0) = false := by simpa using h0
    go_wp2_with fail
    refine (pick_any w1 p A n c zs (k + 1) 14 h1 (by omega) (by omega) (by omega)).mono ?_
    rintro e w2 ⟨s, rfl, hs, h2, hc2, hz2⟩
    have hs := hs (by omega)
    go_wp2_with fail
    go_ret
    exact ⟨_, _, rfl, by omega, by omega, Nat.le_refl _, h2, hc1.trans hc2⟩
end Go.Proofs.Ytgipchipcoaajaa
