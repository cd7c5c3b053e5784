/- Splitting at a slash: the plain mathematics. No condition. -/
import Derived.Test.YtkmkmndcgemnlaaGreatDoorGetPlain
namespace Go.Proofs.YtkmkmndcgemnlaaGreatDoor
set_option linter.unusedVariables false
set_option linter.unusedSimpArgs false
set_option linter.unnecessarySimpa false
open Go Go.Lib

def splitP : Str → List Str
  | [] => [[]]
  | c :: s => if c = 47 then [] :: splitP s else match splitP s with
    | [] => [[c]]
    | x :: xs => (c :: x) :: xs
theorem splitP_ne : ∀ s, splitP s ≠ []
  | [] => by simp [splitP]
  | c :: s => by
    unfold splitP
    split
    · simp
    · split <;> simp
theorem splitP_free {s : Str} (h : (47 : UInt8) ∉ s) : splitP s = [s] := by
  induction s with
  | nil => rfl
  | cons c s ih =>
    simp only [List.mem_cons, not_or] at h
    unfold splitP
    rw [if_neg (fun e => h.1 e.symm), ih h.2]
theorem splitP_cut {a b : Str} (h : (47 : UInt8) ∉ a) : splitP (a ++ 47 :: b) = a :: splitP b := by
  induction a with
  | nil => simp [splitP]
  | cons c a ih =>
    simp only [List.mem_cons, not_or] at h
    simp only [List.cons_append]
    rw [splitP.eq_def]
    simp only
    rw [if_neg (fun e => h.1 e.symm), ih h.2]
theorem join_splitP : ∀ s, join (splitP s) [47] = s := by
  intro s
  induction s with
  | nil => rfl
  | cons c s ih =>
    unfold splitP
    split
    · rename_i hc
      subst hc
      cases hs : splitP s with
      | nil => exact absurd hs (splitP_ne s)
      | cons x xs =>
        rw [hs] at ih
        rw [join_cons, joinTail, List.map_cons, List.flatten_cons]
        rw [join_cons, joinTail] at ih
        simp [← ih]
    · cases hs : splitP s with
      | nil => exact absurd hs (splitP_ne s)
      | cons x xs =>
        rw [hs] at ih
        simp only
        rw [join_cons] at ih ⊢
        rw [← ih]; rfl
theorem splitK_P : ∀ (k : Nat) (s : Str), s.count 47 = k → splitK [47] 0 k s = splitP s := by
  intro k
  induction k with
  | zero =>
    intro s hs
    rw [splitP_free (fun hm => by rw [List.count_eq_zero] at hs; exact hs hm)]
    rfl
  | succ k ih =>
    intro s hs
    cases hc : cutG 47 s with
    | none =>
      have h1 := (cutG_none hc).1
      rw [List.count_eq_zero.2 h1] at hs
      omega
    | some p =>
      obtain ⟨a, b⟩ := p
      obtain ⟨e, h1, h2⟩ := cutG_some hc
      unfold splitK
      have h3 : ((a.length : Int) == -1) = false := by simp <;> omega
      rw [h2, h3]
      simp only [Bool.false_eq_true, if_false, Int.toNat_natCast, Nat.add_zero, List.length_singleton]
      have ht : s.take a.length = a := by rw [e]; simp
      have hdr : s.drop (a.length + 1) = b := by rw [e]; simp
      have hcb : b.count 47 = k := by
        rw [e, List.count_append, List.count_cons, List.count_eq_zero.2 h1] at hs
        simp at hs; omega
      rw [ht, hdr, ih b hcb, e, splitP_cut h1]
theorem pieceP_le : ∀ (s : Str), ∀ x ∈ splitP s, x.length ≤ s.length
  | [], x, h => by simp [splitP] at h; subst h; simp
  | c :: s, x, h => by
    have ih := pieceP_le s
    unfold splitP at h
    split at h
    · rcases List.mem_cons.1 h with rfl | h
      · simp
      · have := ih x h; simp; omega
    · split at h
      · rename_i hc hs; exact absurd hs (splitP_ne s)
      · rename_i y ys hs
        rw [hs] at ih
        rcases List.mem_cons.1 h with rfl | h
        · have := ih y (by simp); simp; omega
        · have := ih x (by simp [h]); simp; omega
end Go.Proofs.YtkmkmndcgemnlaaGreatDoor
