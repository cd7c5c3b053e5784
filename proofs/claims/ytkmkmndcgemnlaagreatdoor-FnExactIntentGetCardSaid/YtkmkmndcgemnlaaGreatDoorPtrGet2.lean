/- PtrGet of the program: the pointer that a text is the text of. Condition: the variables that the library reads lie as the row says; the text is at most a million bytes. -/
import Derived.Test.YtkmkmndcgemnlaaGreatDoorPtrGet
namespace Go.Proofs.YtkmkmndcgemnlaaGreatDoor
set_option linter.unusedVariables false
set_option linter.unusedSimpArgs false
set_option linter.unnecessarySimpa false
open Go Go.Lib Go.RowKit

def GotPtr (s : Str) (w : World) (e : Ending) (w' : World) : Prop :=
  ∃ (a b c d l : Int) (ok : Bool), e = .returned (.tuple #[.agg #[.int .i64 a, .int .i64 b, .int .i64 c, .int .i64 d, .int .i64 l], .bool ok]) ∧ ptrIs s a b c d l ok ∧ Below w.heap.size w w'
theorem five_set {w : World} {r T : Nat} {v0 v1 v2 v3 v4 x0 x1 x2 x3 x4 : Value} (h : w.heap[r]? = some (.cells #[v0, v1, v2, v3, v4] T (0, 0))) :
    (((((w.setCell ⟨r, 0, none⟩ x0).setCell ⟨r, 1, none⟩ x1).setCell ⟨r, 2, none⟩ x2).setCell ⟨r, 3, none⟩ x3).setCell ⟨r, 4, none⟩ x4).heap[r]? = some (.cells #[x0, x1, x2, x3, x4] T (0, 0)) := by
  have h0 := block_set (o := 0) (v := x0) h
  have h1 := block_set (o := 1) (v := x1) h0
  have h2 := block_set (o := 2) (v := x2) h1
  have h3 := block_set (o := 3) (v := x3) h2
  have h4 := block_set (o := 4) (v := x4) h3
  rw [h4]; rfl
theorem set5 (v : Nat → Nat) (n j : Nat) (hj : j < 5) : (#[Value.int .i64 (v 0 : Int), .int .i64 (v 1 : Int), .int .i64 (v 2 : Int), .int .i64 (v 3 : Int), .int .i64 (v 4 : Int)] : Array Value).setIfInBounds j (.int .i64 (n : Int)) =
    #[.int .i64 ((if 0 = j then n else v 0 : Nat) : Int), .int .i64 ((if 1 = j then n else v 1 : Nat) : Int), .int .i64 ((if 2 = j then n else v 2 : Nat) : Int), .int .i64 ((if 3 = j then n else v 3 : Nat) : Int), .int .i64 ((if 4 = j then n else v 4 : Nat) : Int)] := by
  have hx : j = 0 ∨ j = 1 ∨ j = 2 ∨ j = 3 ∨ j = 4 := by omega
  rcases hx with rfl | rfl | rfl | rfl | rfl <;> rfl
theorem strs5 {xs : List Str} (h : xs.length = 5) : ∃ x1 x2 x3 x4 x5, xs = [x1, x2, x3, x4, x5] := by
  match xs, h with
  | [x1, x2, x3, x4, x5], _ => exact ⟨x1, x2, x3, x4, x5, rfl⟩
theorem piece_le : ∀ (s : Str), ∀ x ∈ splitD s, x.length ≤ s.length
  | [], x, h => by simp [splitD] at h; subst h; simp
  | c :: s, x, h => by
    have ih := piece_le s
    unfold splitD at h
    split at h
    · rcases List.mem_cons.1 h with rfl | h
      · simp
      · have := ih x h; simp; omega
    · split at h
      · rename_i hc hs; exact absurd hs (splitD_ne s)
      · rename_i y ys hs
        rw [hs] at ih
        rcases List.mem_cons.1 h with rfl | h
        · have := ih y (by simp); simp; omega
        · have := ih x (by simp [h]); simp; omega
theorem StrsIn.cellB {B : Nat} {w : World} {A : Option Addr} {c : Nat} {fs : List Str} (h : StrsIn B w A c fs) {j : Nat} {f : Str} (hf : fs[j]? = some f) : ∃ g, A = some ⟨g, 0, none⟩ ∧ B ≤ g ∧ g < w.heap.size ∧ w.cell? ⟨g, j, none⟩ = some (.string (strB f)) := by
  have hj : j < fs.length := (List.getElem?_eq_some_iff.1 hf).1
  obtain ⟨S, ⟨h1, _⟩, hS⟩ := h
  rcases h1 with ⟨_, h0, _⟩ | ⟨g, cur, rfl, rfl, _, _, _, hg, _, h5⟩
  · omega
  · refine ⟨g, rfl, hS g (by simp), (Array.getElem?_eq_some_iff.1 hg).1, ?_⟩
    rw [cell_of_row _ _ j _ _ (0, 0) hg, h5 j (by omega), List.getElem?_map, hf]
    rfl
end Go.Proofs.YtkmkmndcgemnlaaGreatDoor
