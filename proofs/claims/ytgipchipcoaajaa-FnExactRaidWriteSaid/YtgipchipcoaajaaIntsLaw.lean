/- The laws' helpers on lists of ints: sizes, copies, equality, marks. No condition. -/
import Derived.Test.YtgipchipcoaajaaInts
import Derived.Laws.MakeOwn
namespace Go.Proofs.Ytgipchipcoaajaa
set_option linter.unusedVariables false
set_option linter.unusedSimpArgs false
set_option linter.unnecessarySimpa false
open Go.RowKit

/-- What is left of a bound behind a list of n. -/
def szI (n : Nat) (left : Int) : Int := if left - n < 0 then -1 else left - n



theorem info_int : (Try.prog.info? 3).map (fun i => (i.zero, i.size, i.bytes)) = some (some (.int .i64 0), 1, 8) := by kernel_rfl

/-- make([]int, n). -/
theorem make_ints (n : Nat) (hn : n ≤ 17592186044416) (w : World) :
    (Instr.makeSlice 48 (.int .i64 (n : Int)) (.int .i64 (n : Int))).run Try.prog w = .ok (.slice (some ⟨w.heap.size, 0, none⟩) n n) (w.alloc (.cells (madeCells #[.int .i64 0] n) 3)) := by
  obtain ⟨i, hi, hz, hs, hb⟩ := info_parts info_int
  have hr := run_make (P := Try.prog) w 48 3 i (.int .i64 0) Try.underlying48 hi hz .i64 .i64 n n (by omega) (by omega) (by rw [hb]; omega) (by omega)
  simp only [Int.toNat_natCast, hs, Nat.mul_one] at hr
  exact hr

/-- The first k of the list, zeros behind. -/
def copyTo (xs : List Int) (n k : Nat) : List Int := xs.take k ++ List.replicate (n - k) 0
theorem copyTo_zero (xs : List Int) (n : Nat) : copyTo xs n 0 = List.replicate n 0 := by simp [copyTo]
theorem copyTo_all {xs : List Int} {n : Nat} (h : xs.length = n) : copyTo xs n n = xs := by simp [copyTo, ← h]
theorem copyTo_succ {xs : List Int} {n k : Nat} (h : xs.length = n) (hk : k < n) : (copyTo xs n k).set k (xs.getD k 0) = copyTo xs n (k + 1) := by
  apply List.ext_getElem?
  intro i
  unfold copyTo
  simp only [List.getElem?_set, List.getElem?_append, List.length_append, List.length_take, List.length_replicate, List.getElem?_take, List.getElem?_replicate, List.getD]
  rw [show min k xs.length = k by omega, show min (k + 1) xs.length = k + 1 by omega]
  by_cases h1 : k = i
  · subst h1
    rw [if_pos rfl, if_pos (by omega), if_pos (by omega), if_pos (by omega), List.getElem?_eq_getElem (by omega)]
    rfl
  · rw [if_neg h1]
    by_cases h2 : i < k
    · rw [if_pos h2, if_pos h2, if_pos (show i < k + 1 by omega), if_pos (show i < k + 1 by omega)]
    · rw [if_neg h2, if_neg (show ¬ i < k + 1 by omega)]
      by_cases h3 : i < n
      · rw [if_pos (show i - k < n - k by omega), if_pos (show i - (k + 1) < n - (k + 1) by omega)]
      · rw [if_neg (show ¬ i - k < n - k by omega), if_neg (show ¬ i - (k + 1) < n - (k + 1) by omega)]

/-- The numbers k, k + 1 .. -/
def seqI (k : Int) : Nat → List Int
  | 0 => []
  | n + 1 => k :: seqI (k + 1) n
theorem seqI_len (k : Int) (n : Nat) : (seqI k n).length = n := by
  induction n generalizing k with
  | zero => rfl
  | succ n ih => simp [seqI, ih]
theorem seqI_get (k : Int) (n j : Nat) (hj : j < n) : (seqI k n).getD j 0 = k + j := by
  induction n generalizing k j with
  | zero => omega
  | succ n ih =>
    cases j with
    | zero => simp [seqI]
    | succ j =>
      have := ih (k + 1) j (by omega)
      simp only [seqI, List.getD_cons_succ, this]
      omega
/-- The list whose first j numbers are marked from k on. -/
def markTo (xs : List Int) (k : Int) (j : Nat) : List Int := seqI k j ++ xs.drop j
theorem markTo_zero (xs : List Int) (k : Int) : markTo xs k 0 = xs := by simp [markTo, seqI]
theorem markTo_all {xs : List Int} {n : Nat} (h : xs.length = n) (k : Int) : markTo xs k n = seqI k n := by simp [markTo, ← h]
theorem markTo_succ {xs : List Int} {n j : Nat} (h : xs.length = n) (hj : j < n) (k : Int) : (markTo xs k j).set j (k + j) = markTo xs k (j + 1) := by
  apply List.ext_getElem?
  intro i
  unfold markTo
  simp only [List.getElem?_set, List.getElem?_append, List.length_append, seqI_len, List.length_drop, List.getElem?_drop]
  have g : ∀ a b, b < a → (seqI k a)[b]? = some (k + b) := by
    intro a b hb
    have h1 := seqI_get k a b hb
    have h2 : b < (seqI k a).length := by rw [seqI_len]; exact hb
    rw [List.getElem?_eq_getElem h2]
    rw [List.getD, List.getElem?_eq_getElem h2] at h1
    simpa using h1
  by_cases h1 : j = i
  · subst h1
    rw [if_pos rfl, if_pos (by omega), if_pos (by omega), g _ _ (by omega)]
  · rw [if_neg h1]
    by_cases h2 : i < j
    · rw [if_pos h2, if_pos (by omega), g _ _ h2, g _ _ (by omega)]
    · rw [if_neg h2, if_neg (by omega)]
      congr 1
      omega

/-- A new slice of ints: its memory is the call's own. -/
def NewInts (w : World) (n : Nat) (xs : List Int) (e : Ending) (w' : World) : Prop :=
  ∃ A c S, e = .returned (.slice A n c) ∧ OwnS w' S A n c xs ∧ (∀ k ∈ S, w.heap.size ≤ k) ∧ Below w.heap.size w w'




end Go.Proofs.Ytgipchipcoaajaa
