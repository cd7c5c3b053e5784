/- A cell that is spoilt twice, the second time with what was there: the disk as it was. No condition. -/
import Derived.Test.YtgipchipcoaajaaDiskSpoil
namespace Go.Proofs.Ytgipchipcoaajaa
set_option linter.unusedVariables false
set_option linter.unusedSimpArgs false
set_option linter.unnecessarySimpa false
open Go.RowKit

theorem spoilOk_parts {x : DiskD} {a : Int} {s : ByteArray} (h : spoilOk x a s = true) : diskOk x = true ∧ x.2.2 = false ∧ inB a 0 63 = true ∧ s.size ≤ 200 := by
  unfold spoilOk at h
  simp only [Bool.and_eq_true, Bool.not_eq_true', decide_eq_true_eq] at h
  exact ⟨h.1.1.1, h.1.1.2, h.1.2, h.2⟩
theorem all_set {α : Type} {f : α → Bool} {xs : List α} {k : Nat} {y : α} (h : xs.all f = true) (hy : f y = true) : (xs.set k y).all f = true := by
  rw [List.all_eq_true] at h ⊢
  intro z hz
  rcases List.mem_or_eq_of_mem_set hz with hz | rfl
  · exact h z hz
  · exact hy
theorem spoil_ok {x : DiskD} {k : Nat} {u : ByteArray} (h : diskOk x = true) (hg : x.2.2 = false) (hu : u.size ≤ 200) : diskOk (x.1.set k u, x.2.1, x.2.2) = true := by
  unfold diskOk at h ⊢
  simp only [Bool.and_eq_true, decide_eq_true_eq] at h ⊢
  obtain ⟨⟨⟨⟨h1, h2⟩, h3⟩, h4⟩, h5⟩ := h
  exact ⟨⟨⟨⟨by rw [List.length_set]; exact h1, h2⟩, all_set h3 (by unfold textOk; rw [hg]; simpa using hu)⟩, h4⟩, h5⟩
theorem spoil_twice {x : DiskD} {a : Int} {s : ByteArray} (h : spoilOk x a s = true) :
    ∃ (k : Nat) (u : ByteArray), a = (k : Int) ∧ k < 64 ∧ x.1[k]? = some u ∧ u.size ≤ 200 ∧ spoilOk (spoilD x a s) a u = true ∧ spoilD (spoilD x a s) a u = x ∧ (spoilD x a s).1[k]? = some s := by
  obtain ⟨h1, h2, h3, h4⟩ := spoilOk_parts h
  obtain ⟨k, rfl, hk⟩ := inB_nat (m := 63) h3
  have hl := (diskOk_len h1).1
  have hkl : k < x.1.length := by omega
  have hu : (x.1[k]).size ≤ 200 := by
    unfold diskOk at h1
    simp only [Bool.and_eq_true] at h1
    have := (List.all_eq_true.1 h1.1.1.2) x.1[k] (List.getElem_mem hkl)
    unfold textOk at this
    simp only [Bool.and_eq_true, decide_eq_true_eq] at this
    exact this.1
  have hs : spoilD x (k : Int) s = (x.1.set k s, x.2.1, x.2.2) := by unfold spoilD; rw [if_pos h]; simp
  have hok : spoilOk (x.1.set k s, x.2.1, x.2.2) (k : Int) x.1[k] = true := by
    unfold spoilOk
    simp only [Bool.and_eq_true, Bool.not_eq_true', decide_eq_true_eq]
    exact ⟨⟨⟨spoil_ok h1 h2 h4, h2⟩, h3⟩, hu⟩
  refine ⟨k, x.1[k], rfl, by omega, List.getElem?_eq_getElem hkl, hu, by rw [hs]; exact hok, ?_, by rw [hs]; simp [hkl]⟩
  rw [hs]
  unfold spoilD
  rw [if_pos hok]
  simp [List.set_set]
end Go.Proofs.Ytgipchipcoaajaa
