/- Disks as they are drawn: valid, none gone, few waits. No condition. -/
import Derived.Test.YtfokpjoeankobaaRaidFlush
import Derived.Test.YtfokpjoeankobaaRaidNew
namespace Go.Proofs.Ytfokpjoeankobaa
set_option linter.unnecessarySimpa false
open Go Go.Lib Go.RowKit
set_option linter.unusedVariables false
set_option linter.unusedSimpArgs false
def GoodR (j : Nat) (xs : RaidD) : Prop := xs.length = 3 ∧ ∀ d ∈ xs, diskOk d = true ∧ d.2.2 = false ∧ d.2.1.length ≤ j
theorem GoodR.ok {j : Nat} {xs : RaidD} (h : GoodR j xs) : raidOk xs = true := by
  unfold raidOk
  rw [Bool.and_eq_true]
  exact ⟨by simpa using h.1, List.all_eq_true.2 (fun d hd => (h.2 d hd).1)⟩
theorem GoodR.new : GoodR 0 newR := ⟨rfl, fun d hd => by
  unfold newR at hd
  simp only [List.mem_cons, List.not_mem_nil, or_false, or_self] at hd
  subst hd
  exact ⟨by decide +kernel, rfl, Nat.le_refl _⟩⟩
theorem GoodR.mono {j k : Nat} {xs : RaidD} (h : GoodR j xs) (hk : j ≤ k) : GoodR k xs := ⟨h.1, fun d hd => ⟨(h.2 d hd).1, (h.2 d hd).2.1, Nat.le_trans (h.2 d hd).2.2 hk⟩⟩
theorem write_good {d : DiskD} {row : Int} {s : ByteArray} {j : Nat} (h1 : diskOk d = true) (h2 : d.2.2 = false) (h3 : d.2.1.length ≤ j) (hj : j ≤ 100) (hr : inB row 0 63 = true) (hs : s.size ≤ 200) :
    writeOk d row s = true ∧ diskOk (writeD d row s) = true ∧ (writeD d row s).2.2 = false ∧ (writeD d row s).2.1.length ≤ j + 1 := by
  obtain ⟨t, ws, gone⟩ := d
  simp only at h2 h3
  subst h2
  have hg : writeGo (t, ws, false) row s = true := by
    unfold writeGo
    simp [hr, hs]
    omega
  have e : writeD (t, ws, false) row s = (t, ws ++ [(row, s)], false) := by unfold writeD; rw [if_pos h1, if_pos hg]
  rw [e]
  refine ⟨by unfold writeOk; rw [h1, hg]; rfl, ?_, rfl, by simp; omega⟩
  unfold diskOk at h1 ⊢
  simp only [Bool.and_eq_true, decide_eq_true_eq, List.all_eq_true] at h1 ⊢
  obtain ⟨⟨⟨⟨a, b⟩, c⟩, d⟩, e⟩ := h1
  refine ⟨⟨⟨⟨a, by simp; omega⟩, c⟩, by simp⟩, fun y hy => ?_⟩
  rcases List.mem_append.1 hy with hy | hy
  · exact e y hy
  · simp at hy; subst hy
    unfold waitOk
    simp [hr, hs]
theorem GoodR.put {j : Nat} {xs : RaidD} {row : Int} {s : ByteArray} (h : GoodR j xs) (hj : j ≤ 100) (hr : inB row 0 63 = true) (hs : ∀ i, (colAt s i).size ≤ 200) :
    allG (GW row s) xs = true ∧ GoodR (j + 1) (eachD (FW row s) (GW row s) xs) := by
  have ha : allG (GW row s) xs = true := by
    unfold allG
    rw [List.all_eq_true]
    intro b hb
    obtain ⟨i, hi, rfl⟩ := List.mem_iff_getElem.1 hb
    rw [List.getElem_mapIdx]
    have hm : xs[i]'(by simpa using hi) ∈ xs := List.getElem_mem _
    have w := write_good (h.2 _ hm).1 (h.2 _ hm).2.1 (h.2 _ hm).2.2 hj hr (hs i)
    unfold GW
    simp [w.1]
  refine ⟨ha, ?_⟩
  unfold eachD
  rw [if_pos ha]
  refine ⟨by simp [h.1], fun d hd => ?_⟩
  obtain ⟨i, hi, rfl⟩ := List.mem_iff_getElem.1 hd
  rw [List.getElem_mapIdx]
  have hm : xs[i]'(by simpa using hi) ∈ xs := List.getElem_mem _
  have w := write_good (h.2 _ hm).1 (h.2 _ hm).2.1 (h.2 _ hm).2.2 hj hr (hs i)
  unfold FW
  rw [if_neg (by rw [(h.2 _ hm).2.1]; decide)]
  exact w.2
theorem settle_mem {ws : List WaitD} {t : List ByteArray} (k : Nat) : ∀ s ∈ settleTo flushF ws t k, s ∈ t ∨ ∃ y ∈ ws, s = y.2 := by
  induction k with
  | zero => intro s hs; exact .inl hs
  | succ k ih =>
    intro s hs
    rw [settleTo_succ] at hs
    unfold settleStep at hs
    split at hs
    · rename_i x hx
      rcases List.mem_or_eq_of_mem_set hs with hs | hs
      · exact ih s hs
      · exact .inr ⟨x, List.mem_of_getElem? hx, hs⟩
    · exact ih s hs
theorem GoodR.flush {j : Nat} {xs : RaidD} (h : GoodR j xs) : GoodR 0 (xs.map flushX) := by
  refine ⟨by simp [h.1], fun d hd => ?_⟩
  obtain ⟨x, hx, rfl⟩ := List.mem_map.1 hd
  obtain ⟨h1, h2, h3⟩ := h.2 x hx
  obtain ⟨t, ws, gone⟩ := x
  simp only at h2
  subst h2
  unfold flushX
  refine ⟨?_, rfl, Nat.le_refl _⟩
  unfold diskOk at h1 ⊢
  simp only [Bool.and_eq_true, decide_eq_true_eq, List.all_eq_true] at h1 ⊢
  obtain ⟨⟨⟨⟨a, b⟩, c⟩, d⟩, e⟩ := h1
  refine ⟨⟨⟨⟨settleTo_len.trans a, Nat.zero_le _⟩, fun s hs => ?_⟩, by simp⟩, fun y hy => by cases hy⟩
  rcases settle_mem _ s hs with hs | ⟨y, hy, rfl⟩
  · exact c s hs
  · have := e y hy
    unfold waitOk at this
    simp at this
    unfold textOk
    simp [this.2]
theorem col_small {s : ByteArray} (h : s.size ≤ 128) (i : Nat) : (colAt s i).size ≤ 200 := by
  unfold colAt cutS
  have h0 : (cutA s).size ≤ 200 := by unfold cutA; simp; omega
  have h1 : (cutB s).size ≤ 200 := by unfold cutB; simp; omega
  have h2 : (cutP s).size ≤ 200 := by unfold cutP; rw [nums_size]; unfold xorL; rw [List.length_map, List.length_range]; unfold halfN; omega
  match i with
  | 0 => exact h0
  | 1 => exact h1
  | 2 => exact h2
  | i + 3 => simp
end Go.Proofs.Ytfokpjoeankobaa
