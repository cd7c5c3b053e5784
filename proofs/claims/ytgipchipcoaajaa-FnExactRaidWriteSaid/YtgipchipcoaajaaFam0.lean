/- Lists of ints, in the form that all slices have here. No condition. -/
import Derived.Test.YtgipchipcoaajaaTypes
import Derived.Test.YtgipchipcoaajaaIntsLaw
namespace Go.Proofs.Ytgipchipcoaajaa
set_option linter.unusedVariables false
set_option linter.unusedSimpArgs false
set_option linter.unnecessarySimpa false
open Go.RowKit

theorem SliceR.ints {w : World} {lo hi : Nat} {A : Option Addr} {n c : Nat} {xs : List Int} (h : SliceR IntR 1 w lo hi A n c xs) : IntsAt w A n xs := by
  refine ⟨h.1, h.2.2.1, fun hn => ?_⟩
  obtain ⟨b, off, hA, _, _, _, hc⟩ := h.at_ hn
  refine ⟨b, off, hA, fun j hj => ?_⟩
  have hl := h.1
  obtain ⟨cs, _, hcc, rfl⟩ := hc j (xs[j]'(by omega)) (List.getElem?_eq_getElem _)
  have := hcc 0 _ rfl
  rw [Nat.mul_one, Nat.add_zero] at this
  rw [this]
  simp [List.getD, List.getElem?_eq_getElem (show j < xs.length by omega)]
theorem OwnS.sliceR {w : World} {S : List Nat} {lo hi : Nat} {A : Option Addr} {n c : Nat} {xs : List Int} (h : OwnS w S A n c xs) (hS : ∀ k ∈ S, lo ≤ k ∧ k < hi) (hhi : hi ≤ w.heap.size) : SliceR IntR 1 w lo hi A n c xs := by
  rcases h with ⟨rfl, rfl, rfl, hc⟩ | ⟨g, rfl, rfl, h⟩
  · exact ⟨rfl, Nat.zero_le _, Nat.zero_le _, hhi, hc, fun h => absurd h (by omega)⟩
  · have hb := hS g (by simp)
    refine ⟨h.1, h.2.1, Nat.le_trans h.2.1 h.2.2.1.1, hhi, (fun e => by cases e), fun hn => ⟨g, 0, rfl, hb.1, hb.2, fun j x hx => ⟨[.int .i64 x], rfl, fun i v hv => ?_, rfl⟩⟩⟩
    have hj : j < n := by have := (List.getElem?_eq_some_iff.1 hx).1; have := h.1; omega
    match i, hv with
    | 0, hv =>
      simp at hv; subst hv
      have := h.cell hj
      rw [Nat.zero_add, Nat.mul_one, Nat.add_zero, this]
      simp [List.getD, hx]
    | i + 1, hv => simp at hv

end Go.Proofs.Ytgipchipcoaajaa
