/- Records, pointers and trees as texts, checksums: the plain mathematics. No condition. -/
import Derived.Test.YtkmkmndcgemnlaaGreatDoorFields
import Derived.Test.YtkmkmndcgemnlaaGreatDoorPtr
import Derived.Lib.Join
namespace Go.Proofs.YtkmkmndcgemnlaaGreatDoor
set_option linter.unusedVariables false
set_option linter.unusedSimpArgs false
set_option linter.unnecessarySimpa false
open Go Go.Lib

def strB (l : Str) : ByteArray := ⟨l.toArray⟩
def strV (l : Str) : Value := .string (strB l)
theorem strB_size (l : Str) : (strB l).size = l.length := rfl
theorem strB_list (l : Str) : (strB l).toList = l := ByteArray.toList_mk l
theorem strB_app (a b : Str) : strB a ++ strB b = strB (a ++ b) := by
  apply ByteArray.ext
  simp [strB]
theorem strB_data (s : ByteArray) : strB s.data.toList = s := by
  apply ByteArray.ext
  simp [strB]
theorem strB_inj {a b : Str} (h : strB a = strB b) : a = b := by
  have := congrArg (fun x => x.data.toList) h
  simpa [strB] using this
/-! The checksum. -/
def sumStep (r : Nat × Nat) (c : UInt8) : Nat × Nat := ((r.1 + c.toNat + 1) % 9973, ((r.1 + c.toNat + 1) % 9973 + r.2) % 9973)
def sum2 (l : Str) : Nat × Nat := l.foldl sumStep (1, 0)
def sumL (l : Str) : Nat := (sum2 l).1 * 9973 + (sum2 l).2
theorem sum2_snoc (l : Str) (c : UInt8) : sum2 (l ++ [c]) = sumStep (sum2 l) c := by unfold sum2; rw [List.foldl_append]; rfl
theorem sum2_lt0 (l : Str) : ∀ r : Nat × Nat, r.1 < 9973 → r.2 < 9973 → (l.foldl sumStep r).1 < 9973 ∧ (l.foldl sumStep r).2 < 9973 := by
  induction l with
  | nil => intro r h1 h2; exact ⟨h1, h2⟩
  | cons c l ih => intro r _ _; exact ih _ (Nat.mod_lt _ (by decide)) (Nat.mod_lt _ (by decide))
theorem sum2_lt (l : Str) : (sum2 l).1 < 9973 ∧ (sum2 l).2 < 9973 := sum2_lt0 l _ (by decide) (by decide)
theorem sumL_lt (l : Str) : sumL l ≤ 99460728 := by
  have := sum2_lt l
  unfold sumL
  omega
theorem sum2_take (l : Str) (i : Nat) (c : UInt8) (h : l[i]? = some c) : sum2 (l.take (i + 1)) = sumStep (sum2 (l.take i)) c := by
  rw [List.take_add_one, h]
  exact sum2_snoc _ c
/-! Numbers and records. -/
def numS (n : Int) : Str := if 0 ≤ n ∧ n ≤ 999999999 then decDigits n.toNat else []
theorem numS_yes {n : Int} (h : 0 ≤ n ∧ n ≤ 999999999) : numS n = decDigits n.toNat := by unfold numS; rw [if_pos h]
theorem numS_no {n : Int} (h : ¬ (0 ≤ n ∧ n ≤ 999999999)) : numS n = [] := by unfold numS; rw [if_neg h]
theorem dec_len_le (k : Nat) : ∀ n, n < 10 ^ (k + 1) → (decDigits n).length ≤ k + 1 := by
  induction k with
  | zero => intro n h; rw [dec_small (by simpa using h)]; simp
  | succ k ih =>
    intro n h
    by_cases h10 : n < 10
    · rw [dec_small h10]; simp
    · rw [dec_big h10, List.length_append]
      have := ih (n / 10) (by rw [Nat.pow_succ] at h; omega)
      simp
      omega
theorem dec_len9 {n : Nat} (h : n ≤ 999999999) : (decDigits n).length ≤ 9 := dec_len_le 8 n (by omega)
theorem dec_len20 {n : Nat} (h : n < 100000000000000000000) : (decDigits n).length ≤ 20 := dec_len_le 19 n (by omega)
theorem numS_len (n : Int) : (numS n).length ≤ 9 := by
  unfold numS
  split
  · exact dec_len9 (by omega)
  · simp
def fieldsF (l : List Str) : Str × Bool := if l.length ≤ 60 ∧ (encs l).length ≤ 2048 then (encs l, true) else ([], false)
theorem fieldsF_yes {l : List Str} (h : l.length ≤ 60) (k : (encs l).length ≤ 2048) : fieldsF l = (encs l, true) := by unfold fieldsF; rw [if_pos ⟨h, k⟩]
theorem fieldsF_many {l : List Str} (h : ¬ l.length ≤ 60) : fieldsF l = ([], false) := by unfold fieldsF; rw [if_neg (fun c => h c.1)]
theorem encs_take_le (l : List Str) (i : Nat) : (encs (l.take i)).length ≤ (encs l).length := by
  have := congrArg encs (List.take_append_drop i l)
  rw [encs_append] at this
  rw [← this, List.length_append]
  omega
theorem fieldsF_long {l : List Str} {i : Nat} (h : ¬ (encs (l.take i)).length ≤ 2048) : fieldsF l = ([], false) := by
  unfold fieldsF
  rw [if_neg (fun c => h (Nat.le_trans (encs_take_le l i) c.2))]
theorem encs_take {l : List Str} {i : Nat} {f : Str} (h : l[i]? = some f) : encs (l.take (i + 1)) = encs (l.take i) ++ enc1 f := by
  rw [List.take_add_one, h, encs_append]
  simp [encs]
theorem enc1_len_le (f : Str) (h : f.length ≤ 1099511627776) : (enc1 f).length ≤ f.length + 21 := by
  unfold enc1
  have := dec_len20 (n := f.length) (by omega)
  simp
  omega
theorem fieldsF_len (l : List Str) : (fieldsF l).1.length ≤ 2048 := by
  unfold fieldsF
  split
  · rename_i h; exact h.2
  · simp
/-! Pointers and trees. -/
def ptrS (a b s m l : Int) : Str :=
  if ptrOkB a b s m l = true then (if ptrHole a b s m l = true then [45] else join [decDigits a.toNat, decDigits b.toNat, decDigits s.toNat, decDigits m.toNat, decDigits l.toNat] [46]) else []
theorem ptrS_no {a b s m l : Int} (h : ptrOkB a b s m l = false) : ptrS a b s m l = [] := by unfold ptrS; rw [h]; rfl
theorem ptrS_hole {a b s m l : Int} (h : ptrOkB a b s m l = true) (k : ptrHole a b s m l = true) : ptrS a b s m l = [45] := by unfold ptrS; rw [h, k]; rfl
theorem ptrS_yes {a b s m l : Int} (h : ptrOkB a b s m l = true) (k : ptrHole a b s m l = false) :
    ptrS a b s m l = join [decDigits a.toNat, decDigits b.toNat, decDigits s.toNat, decDigits m.toNat, decDigits l.toNat] [46] := by unfold ptrS; rw [h, k]; rfl
theorem inB_iff {n lo hi : Int} : inB n lo hi = true ↔ lo ≤ n ∧ n ≤ hi := by unfold inB; rw [decide_eq_true_iff]
theorem ptr_bounds {a b s m l : Int} (h : ptrOkB a b s m l = true) (k : ptrHole a b s m l = false) : (8 ≤ a ∧ a ≤ 63) ∧ (1 ≤ b ∧ b ≤ 900) ∧ (1 ≤ s ∧ s ≤ 128) ∧ (0 ≤ m ∧ m ≤ 99460728) ∧ (0 ≤ l ∧ l ≤ 2) := by
  unfold ptrOkB at h
  rw [k, Bool.false_or] at h
  simp only [Bool.and_eq_true, inB_iff] at h
  exact h
theorem join5 (x1 x2 x3 x4 x5 sep : Str) : join [x1, x2, x3, x4, x5] sep = x1 ++ sep ++ x2 ++ sep ++ x3 ++ sep ++ x4 ++ sep ++ x5 := by
  rw [join_cons]
  simp [joinTail]
theorem ptrS_len (a b s m l : Int) : (ptrS a b s m l).length ≤ 60 := by
  unfold ptrS
  split
  · split
    · simp
    · rename_i h k
      have hb := ptr_bounds h (by simpa using k)
      have h1 := dec_len9 (n := a.toNat) (by omega)
      have h2 := dec_len9 (n := b.toNat) (by omega)
      have h3 := dec_len9 (n := s.toNat) (by omega)
      have h4 := dec_len9 (n := m.toNat) (by omega)
      have h5 := dec_len9 (n := l.toNat) (by omega)
      rw [join5]
      simp
      omega
  · simp
def treeS (a b s m l d n : Int) : List Str := [ptrS a b s m l, numS d, numS n]
/-- The record of fields with the checksum of their own record behind. -/
def signedS (f : List Str) : Str := (fieldsF (f ++ [numS (sumL (fieldsF f).1)])).1
theorem signed_num (f : List Str) : numS (sumL (fieldsF f).1 : Nat) = decDigits (sumL (fieldsF f).1) := by
  have := sumL_lt (fieldsF f).1
  rw [numS_yes (by omega)]
  simp
def rootS (t a b s m l d n : Int) : Str := if rootOkB t a b s m l d n = true then signedS ([114, 111, 111, 116] :: numS t :: treeS a b s m l d n) else []
def treeTextS (a b s m l d n : Int) : Str := if (treeS a b s m l d n).contains [] then [] else (fieldsF (treeS a b s m l d n)).1
end Go.Proofs.YtkmkmndcgemnlaaGreatDoor
