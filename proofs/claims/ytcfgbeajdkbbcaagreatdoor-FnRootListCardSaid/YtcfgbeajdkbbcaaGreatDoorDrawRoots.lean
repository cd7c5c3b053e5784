/- DrawRootPut and DrawRootGet. No condition. -/
import Derived.Test.YtcfgbeajdkbbcaaGreatDoorDrawRoot
import Derived.Test.YtcfgbeajdkbbcaaGreatDoorDrawSpoil
import Derived.Test.YtcfgbeajdkbbcaaGreatDoorRootPlain
namespace Go.Proofs.YtcfgbeajdkbbcaaGreatDoor
set_option linter.unnecessarySimpa false
open Go Go.Lib Go.RowKit
set_option linter.unusedVariables false
set_option linter.unusedSimpArgs false

theorem BytesIn.deep {w w' : World} {A : Option Addr} {n c : Nat} {zs : List Int} (h : BytesIn w A n c zs) (hb : Below w.heap.size w w') : BytesIn w' A n c zs := by
  obtain ⟨h1, h2, h3, h4, h5⟩ := h
  refine ⟨h1, h2, h3, h4, fun hn => ?_⟩
  obtain ⟨b, off, hA, hc⟩ := h5 hn
  exact ⟨b, off, hA, fun j hj => (hb.cell (World.block_lt_of_cell? w _ (hc j hj))).trans (hc j hj)⟩
def GotRootV (w : World) (e : Ending) (w' : World) : Prop :=
  ∃ (t a b s m l d y : Int), e = .returned (.agg #[.int .i64 t, .int .i64 a, .int .i64 b, .int .i64 s, .int .i64 m, .int .i64 l, .int .i64 d, .int .i64 y]) ∧ Below w.heap.size w w'
def GotText (w : World) (e : Ending) (w' : World) : Prop := ∃ x : Str, e = .returned (.string (strB x)) ∧ x.length ≤ 1000000 ∧ Below w.heap.size w w'
theorem rootS_small (t a b s m l d y : Int) : (rootS t a b s m l d y).length ≤ 10000 := by
  cases h : rootOkB t a b s m l d y
  · rw [rootS_no h]; simp
  · have h1 := encs_small _ (rootL_le t a b s m l d y)
    rw [rootL_len, (root_rec h).1] at h1
    omega
end Go.Proofs.YtcfgbeajdkbbcaaGreatDoor
