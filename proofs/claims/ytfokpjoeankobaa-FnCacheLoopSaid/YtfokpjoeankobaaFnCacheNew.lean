/- FnCacheNew: the walk. No condition. -/
import Derived.Test.YtfokpjoeankobaaPfCache
import Derived.Test.YtfokpjoeankobaaRd
namespace Go.Proofs.Ytfokpjoeankobaa
set_option linter.unusedVariables false
set_option linter.unusedSimpArgs false
set_option linter.unnecessarySimpa false
open Go.RowKit
/-- A drawn number. -/
def DrawnInt (lo hi : Int) (w : World) (e : Ending) (w' : World) : Prop := ∃ x : Int, e = .returned (.int .i64 x) ∧ lo ≤ x ∧ x ≤ hi ∧ Below w.heap.size w w'
set_option maxRecDepth 100000 in
set_option maxHeartbeats 2000000 in
theorem drawCacheNew_any (A : Option Addr) (n c : Nat) (zs : List Int) (w : World) (h : BytesIn w A n c zs) : Calls Try.prog 5 #[.slice A n c] w (DrawnInt (-1) 9 w) := by
  go_enter Try.func5, Try.ntmps5
  go_wp2_with fail
  refine (l6Open_any A n c zs _ h).mono ?_
  rintro e w1 ⟨m, c', ys, rfl, hr, hb1⟩
  have hp1 := hr.2.2.2.1
  go_wp2_with fail
  refine (pick_any w1 _ A m c' ys 0 11 hr (by omega) (by omega) (by omega)).mono ?_
  rintro e w2 ⟨r, rfl, hr2, rd2, hc2, hz2⟩
  have hr2 := hr2 (by omega)
  have r0 : (0 : Int) ≤ (r : Int) := by omega
  go_wp2_with fail
  go_ret
  exact ⟨_, rfl, by omega, by omega, hb1.trans (hc2.below (fun k _ hk => by simp at hk; omega) hb1.size)⟩
theorem cacheNew_ok {x : Int} (h : inB x 1 8 = true) : cacheOkB (roomOf x, 0, [], [], [], []) = true ∧ roomOf x = x ∧ ∀ row, cacheHasB (roomOf x, 0, [], [], [], []) row = false := by
  have hx : 1 ≤ x ∧ x ≤ 8 := by unfold inB at h; simpa using h
  have hr : roomOf x = x := by unfold roomOf; rw [if_pos h]
  refine ⟨?_, hr, fun row => ?_⟩
  · rw [hr]
    unfold cacheOkB
    simp only [h, List.length_nil, List.append_nil]
    rw [inB_yes (by omega), rowsOk_yes (fun i hi => absurd hi (by simp))]
    simp; omega
  · unfold cacheHasB
    have : ∀ v, hasI [] v = false := fun v => by unfold hasI; simp
    simp [this]
end Go.Proofs.Ytfokpjoeankobaa
