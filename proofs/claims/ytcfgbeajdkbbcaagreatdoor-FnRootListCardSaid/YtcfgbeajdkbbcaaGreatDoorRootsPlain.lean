/- The roots of disks: what RootAt and RootList answer, in plain Lean. No condition. -/
import Derived.Test.YtcfgbeajdkbbcaaGreatDoorRootPlain
import Derived.Test.YtcfgbeajdkbbcaaGreatDoorDiskOk
import Derived.Test.YtcfgbeajdkbbcaaGreatDoorLook
namespace Go.Proofs.YtcfgbeajdkbbcaaGreatDoor
set_option linter.unusedSimpArgs false
set_option linter.unnecessarySimpa false
open Go Go.Lib Go.RowKit
set_option linter.unusedVariables false

def zeroR : RootD := (0, (0, 0, 0, 0, 0), 0, 0)
abbrev okR (x : RootD) : Bool := rootOkB x.1 x.2.1.1 x.2.1.2.1 x.2.1.2.2.1 x.2.1.2.2.2.1 x.2.1.2.2.2.2 x.2.2.1 x.2.2.2
abbrev textR (x : RootD) : Str := rootS x.1 x.2.1.1 x.2.1.2.1 x.2.1.2.2.1 x.2.1.2.2.2.1 x.2.1.2.2.2.2 x.2.2.1 x.2.2.2
open Classical in
/-- The root of a text, and whether there is one. -/
noncomputable def rootOfT (s : Str) : RootD × Bool := if h : ∃ x : RootD, okR x = true ∧ textR x = s then (Classical.choose h, true) else (zeroR, false)
theorem rootOfT_is (s : Str) : rootIs s (rootOfT s).1.1 (rootOfT s).1.2.1.1 (rootOfT s).1.2.1.2.1 (rootOfT s).1.2.1.2.2.1 (rootOfT s).1.2.1.2.2.2.1 (rootOfT s).1.2.1.2.2.2.2 (rootOfT s).1.2.2.1 (rootOfT s).1.2.2.2 (rootOfT s).2 := by
  unfold rootOfT
  split
  · rename_i h
    exact .inl ⟨rfl, (Classical.choose_spec h).1, (Classical.choose_spec h).2⟩
  · rename_i h
    exact .inr ⟨rfl, ⟨rfl, rfl, rfl, rfl, rfl, rfl, rfl, rfl⟩, fun t a b c d l dd n h1 h2 => h ⟨(t, (a, b, c, d, l), dd, n), h1, h2⟩⟩
theorem rootOfT_eq {s : Str} {t a b c d l dd n : Int} {ok : Bool} (h : rootIs s t a b c d l dd n ok) : rootOfT s = ((t, (a, b, c, d, l), dd, n), ok) := by
  have h1 := rootIs_one (rootOfT_is s) h
  rcases e : rootOfT s with ⟨⟨t', ⟨a', b', c', d', l'⟩, dd', n'⟩, ok'⟩
  rw [e] at h1
  obtain ⟨rfl, rfl, rfl, rfl, rfl, rfl, rfl, rfl, rfl⟩ := h1
  rfl
/-- A root is good for a row. -/
def GoodR (row : Int) (x : RootD) : Prop := x = zeroR ∨ (okR x = true ∧ x.1 % 4 = row)
/-- The later one of a root and the root of a text. -/
noncomputable def bestR (row : Int) (s : Str) (best : RootD) : RootD := if (rootOfT s).2 = true ∧ (rootOfT s).1.1 % 4 = row ∧ best.1 < (rootOfT s).1.1 then (rootOfT s).1 else best
theorem rootOfT_ok {s : Str} (h : (rootOfT s).2 = true) : okR (rootOfT s).1 = true := by
  rcases rootOfT_is s with ⟨_, h1, _⟩ | ⟨h1, _⟩
  · exact h1
  · rw [h] at h1; cases h1
theorem bestR_good {row : Int} {s : Str} {best : RootD} (h : GoodR row best) : GoodR row (bestR row s best) := by
  unfold bestR
  split
  · rename_i k; exact .inr ⟨rootOfT_ok k.1, k.2.1⟩
  · exact h
noncomputable def stepR (row : Int) (best : RootD) (d : DiskD) : RootD := if d.2.2 = true then best else bestR row (lookD d row).data.toList best
/-- The root in a row of disks. -/
noncomputable def rootAtF (x : RaidD) (row : Int) : RootD := x.foldl (stepR row) zeroR
theorem stepR_good {row : Int} {best : RootD} {d : DiskD} (h : GoodR row best) : GoodR row (stepR row best d) := by
  unfold stepR
  split
  · exact h
  · exact bestR_good h
theorem foldR_good {row : Int} : ∀ (x : RaidD) {best : RootD}, GoodR row best → GoodR row (x.foldl (stepR row) best)
  | [], _, h => h
  | d :: x, _, h => foldR_good x (stepR_good h)
theorem rootAt_good (x : RaidD) (row : Int) : GoodR row (rootAtF x row) := foldR_good x (.inl rfl)
theorem rootAt_take {x : RaidD} {row : Int} {k : Nat} {d : DiskD} (h : x[k]? = some d) : rootAtF (x.take (k + 1)) row = stepR row (rootAtF (x.take k) row) d := by
  unfold rootAtF
  rw [List.take_add_one, h]
  simp
theorem GoodR.ok {row : Int} {x : RootD} (h : GoodR row x) (hp : 0 < x.1) : okR x = true ∧ x.1 % 4 = row := by
  rcases h with rfl | h
  · exact absurd hp (by decide)
  · exact h
def atOk (x : RaidD) (row : Int) : Bool := raidOk x && inB row 0 3
noncomputable def rootAtR (x : RaidD) (row : Int) : RootD := if atOk x row = true then rootAtF x row else zeroR
noncomputable def rootAtB (x : RaidD) (row : Int) : Bool := atOk x row && decide (0 < (rootAtF x row).1)
/-- The roots of the first k rows. -/
noncomputable def rowsU (x : RaidD) : Nat → List RootD
  | 0 => []
  | k + 1 => if 0 < (rootAtF x (k : Int)).1 then rowsU x k ++ [rootAtF x (k : Int)] else rowsU x k
theorem rowsU_len (x : RaidD) : ∀ k, (rowsU x k).length ≤ k
  | 0 => Nat.le_refl _
  | k + 1 => by
    have := rowsU_len x k
    unfold rowsU
    split
    · simp; omega
    · omega
theorem rowsU_mem {x : RaidD} {y : RootD} : ∀ {k : Nat}, y ∈ rowsU x k → ∃ i, i < k ∧ y = rootAtF x (i : Int) ∧ 0 < y.1
  | 0, h => by cases h
  | k + 1, h => by
    unfold rowsU at h
    split at h
    · rcases List.mem_append.1 h with h | h
      · obtain ⟨i, h1, h2⟩ := rowsU_mem h; exact ⟨i, by omega, h2⟩
      · simp at h; subst h; exact ⟨k, by omega, rfl, by assumption⟩
    · obtain ⟨i, h1, h2⟩ := rowsU_mem h; exact ⟨i, by omega, h2⟩
theorem rowsU_has {x : RaidD} {i k : Nat} (hi : i < k) (h : 0 < (rootAtF x (i : Int)).1) : rootAtF x (i : Int) ∈ rowsU x k := by
  induction k with
  | zero => omega
  | succ k ih =>
    unfold rowsU
    by_cases e : i = k
    · subst e; rw [if_pos h]; simp
    · have := ih (by omega)
      split
      · exact List.mem_append_left _ this
      · exact this
def DescR (a b : RootD) : Prop := b.1 < a.1
theorem rowsU_apart (x : RaidD) : ∀ k, (rowsU x k).Pairwise (fun a b => a.1 ≠ b.1)
  | 0 => .nil
  | k + 1 => by
    unfold rowsU
    split
    · rename_i h
      rw [List.pairwise_append]
      refine ⟨rowsU_apart x k, by simp, fun a ha b hb e => ?_⟩
      simp at hb; subst hb
      obtain ⟨i, h1, h2, h3⟩ := rowsU_mem ha
      have g1 := ((rootAt_good x (k : Int)).ok h).2
      rw [h2] at h3 e
      have g2 := ((rootAt_good x (i : Int)).ok h3).2
      omega
    · exact rowsU_apart x k
/-- One list alone is a list's members in falling order. -/
theorem desc_one : ∀ {a b : List RootD}, a.Perm b → a.Pairwise DescR → b.Pairwise DescR → a = b
  | [], b, h, _, _ => (List.Perm.nil_eq h)
  | x :: a, [], h, _, _ => by simpa using h.length_eq
  | x :: a, y :: b, h, h1, h2 => by
    have e : x = y := by
      have m1 : x ∈ y :: b := h.subset (by simp)
      have m2 : y ∈ x :: a := h.symm.subset (by simp)
      rcases List.mem_cons.1 m1 with e | m1
      · exact e
      rcases List.mem_cons.1 m2 with e | m2
      · exact e.symm
      have k1 := (List.pairwise_cons.1 h2).1 x m1
      have k2 := (List.pairwise_cons.1 h1).1 y m2
      unfold DescR at k1 k2; omega
    subst e
    rw [desc_one ((List.perm_cons x).1 h) (List.pairwise_cons.1 h1).2 (List.pairwise_cons.1 h2).2]
/-- What RootList answers: the roots of all rows, in falling order. -/
def RootsAre (x : RaidD) (ys : List RootD) : Prop := if raidOk x = true then ys.Perm (rowsU x 4) ∧ ys.Pairwise DescR else ys = []
theorem RootsAre.one {x : RaidD} {a b : List RootD} (h : RootsAre x a) (k : RootsAre x b) : a = b := by
  unfold RootsAre at h k
  split at h
  · rename_i e; rw [if_pos e] at k; exact desc_one (h.1.trans k.1.symm) h.2 k.2
  · rename_i e; rw [if_neg e] at k; rw [h, k]
theorem RootsAre.len {x : RaidD} {a : List RootD} (h : RootsAre x a) : a.length ≤ 4 := by
  unfold RootsAre at h
  split at h
  · rw [h.1.length_eq]; exact rowsU_len x 4
  · rw [h]; simp
end Go.Proofs.YtcfgbeajdkbbcaaGreatDoor
