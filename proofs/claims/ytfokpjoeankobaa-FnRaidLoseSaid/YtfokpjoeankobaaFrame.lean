/- What every law's row wants of the program and of a slice of bytes that came in. No condition. -/
import Derived.Test.YtfokpjoeankobaaRows
import Derived.Test.YtfokpjoeankobaaLib
import Derived.ProofKit
import Derived.OpenShut
import Derived.Lib.SmallJoins
import Derived.ShutString
import Derived.ChangeOld
import Derived.Below
namespace Go.Proofs.Ytfokpjoeankobaa
set_option linter.unusedVariables false
set_option linter.unusedSimpArgs false
set_option linter.unnecessarySimpa false
open Go.ChangeShapes Go.WideShapes Go.ChangeAt Go.RowKit
open Go.ChangeMaps (open_string shut_string)

theorem own_knob : ownKnob Try.prog.godebug = none := by kernel_rfl
theorem laid_out : laidOutB Try.prog = true := by kernel_rfl

/-- A slice of bytes that came in: its first n cells are the numbers zs, each a byte. -/
def BytesIn (w : World) (A : Option Addr) (n c : Nat) (zs : List Int) : Prop :=
  zs.length = n ∧ n ≤ c ∧ c ≤ maxLen ∧ (∀ z ∈ zs, 0 ≤ z ∧ z ≤ 255) ∧ (0 < n → ∃ b off, A = some ⟨b, off, none⟩ ∧ ∀ j, j < n → w.cell? ⟨b, off + j, none⟩ = some (.int .u8 (zs.getD j 0)))

theorem bytesIn_of {H : Type} {enc : TypeId × Value → H} {P : Program} {W : World} {base : Nat} {spare : Nat → Bool} {held : Bool} {t e : TypeId} {A : Option Addr} {n c : Nat} {d : DataW H} {p : List MemPlace}
    (ht : P.underlying t = some (.slice e)) (he : P.underlying e = some (.int .u8)) (hC : P.cellsOf e = 1) (h : DataW.Trod enc P W base spare held t (.slice A n c) d p) : ∃ zs, BytesIn W A n c zs := by
  obtain ⟨fuel, hf⟩ := h
  rcases open_ints ht he hC hf with ⟨hcs, _⟩ | ⟨x, l, cp, zs, hcs, _, hl, hm, hz, _, hcell, hwz⟩
  · simp [Value.cells] at hcs
    obtain ⟨rfl, rfl, rfl⟩ := hcs
    exact ⟨[], rfl, Nat.le_refl _, by unfold maxLen; omega, by simp, fun h => absurd h (by omega)⟩
  · simp [Value.cells] at hcs
    obtain ⟨rfl, rfl, rfl⟩ := hcs
    have hnz : n ≤ zs.length := by
      have : zs.length = if spare x.block then c else n := by simpa using hz
      split at this <;> omega
    refine ⟨zs.take n, by simp; omega, hl, hm, fun z hzz => ?_, fun hn => ?_⟩
    · have := Go.bounds_u8 (hwz z (List.mem_of_mem_take hzz))
      omega
    · obtain ⟨b, off, spot⟩ := x
      have h0 := hcell 0 (by omega)
      have hspot : spot = none := by simpa [Addr.add] using World.cell?_spot h0
      subst hspot
      refine ⟨b, off, rfl, fun j hj => ?_⟩
      have hj' := hcell j (by omega)
      have ea : (⟨b, off, none⟩ : Addr).add j = ⟨b, off + j, none⟩ := by
        unfold Addr.add
        split <;> simp_all
      rw [ea] at hj'
      rw [hj']
      simp only [List.getD, List.getElem?_take]
      rw [if_pos hj]

/-- A cell that reads as a list of ints. -/
theorem intsAt_of {H : Type} {enc : TypeId × Value → H} {P : Program} {W : World} {base : Nat} {spare : Nat → Bool} {held : Bool} {t e : TypeId} {v : Value} {m : Nat} {y : DataW H × List MemPlace}
    (ht : P.underlying t = some (.slice e)) (he : P.underlying e = some (.int .i64)) (hC : P.cellsOf e = 1) (hf : DataW.trod enc P W base spare held m t [v] = some y) :
    ∃ A n c xs, v = .slice A n c ∧ IntsAt W A n xs ∧ (A = none → n = 0 ∧ c = 0) ∧ n ≤ c := by
  rcases open_ints ht he hC hf with ⟨hcs, _⟩ | ⟨x, l, cp, zs, hcs, _, hl, hm, hz, _, hcell, hwz⟩
  · simp at hcs
    subst hcs
    exact ⟨none, 0, 0, [], rfl, ⟨rfl, Nat.zero_le _, fun h => absurd h (by omega)⟩, fun _ => ⟨rfl, rfl⟩, Nat.le_refl _⟩
  · simp at hcs
    subst hcs
    have hnz : l ≤ zs.length := by
      have : zs.length = if spare x.block then cp else l := by simpa using hz
      split at this <;> omega
    refine ⟨some x, l, cp, zs.take l, rfl, ⟨by simp; omega, by omega, fun hn => ?_⟩, fun e => (by cases e), hl⟩
    obtain ⟨b, off, spot⟩ := x
    have h0 := hcell 0 (by omega)
    have hspot : spot = none := by simpa [Addr.add] using World.cell?_spot h0
    subst hspot
    refine ⟨b, off, rfl, fun j hj => ?_⟩
    have hj' := hcell j (by omega)
    have ea : (⟨b, off, none⟩ : Addr).add j = ⟨b, off + j, none⟩ := by
      unfold Addr.add
      split <;> simp_all
    rw [ea] at hj'
    rw [hj']
    simp only [List.getD, List.getElem?_take]
    rw [if_pos hj]
end Go.Proofs.Ytfokpjoeankobaa
