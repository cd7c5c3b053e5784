/- A store in plain Lean: when it is valid, what it frees. No condition. -/
import Derived.Test.YtffieobjcipeoaaTypes
import Derived.Test.YtffieobjcipeoaaPtr
import Derived.Test.YtffieobjcipeoaaSpaceOk
import Derived.Test.YtffieobjcipeoaaSpaceRoom
import Derived.Test.YtffieobjcipeoaaGive
namespace Go.Proofs.Ytffieobjcipeoaa
set_option linter.unusedSimpArgs false
set_option linter.unnecessarySimpa false
open Go.RowKit
set_option linter.unusedVariables false

def holeP (p : PtrD) : Bool := ptrHole p.1 p.2.1 p.2.2.1 p.2.2.2.1 p.2.2.2.2
def okP (p : PtrD) : Bool := ptrOkB p.1 p.2.1 p.2.2.1 p.2.2.2.1 p.2.2.2.2
/-- A pointer may be given up: it is no hole, and is no younger than told. -/
def goodP (top : Int) (p : PtrD) : Bool := okP p && !holeP p && decide (p.2.1 ≤ top)
theorem goodP_parts {top : Int} {p : PtrD} (h : goodP top p = true) : okP p = true ∧ holeP p = false ∧ p.2.1 ≤ top ∧ 8 ≤ p.1 ∧ p.1 ≤ 63 := by
  unfold goodP at h
  simp only [Bool.and_eq_true, Bool.not_eq_true', decide_eq_true_eq] at h
  obtain ⟨⟨h1, h2⟩, h3⟩ := h
  refine ⟨h1, h2, h3, ?_⟩
  unfold okP ptrOkB at h1
  unfold holeP at h2
  rw [h2, Bool.false_or] at h1
  have := ((Bool.and_eq_true _ _).mp h1).1
  unfold inB at this
  simpa using this
/-- How many of a list lie at a row. -/
def cntP (ps : List PtrD) (a : Nat) : Nat := ps.countP fun p => decide (p.1 = (a : Int))
theorem cntP_nil (a : Nat) : cntP [] a = 0 := rfl
theorem cntP_snoc (ps : List PtrD) (p : PtrD) (a : Nat) : cntP (ps ++ [p]) a = cntP ps a + if p.1 = (a : Int) then 1 else 0 := by
  unfold cntP
  rw [List.countP_append, List.countP_singleton]
  by_cases h : p.1 = (a : Int) <;> simp [h]
theorem cntP_append (ps qs : List PtrD) (a : Nat) : cntP (ps ++ qs) a = cntP ps a + cntP qs a := by unfold cntP; rw [List.countP_append]
theorem cntP_take {ps : List PtrD} {k : Nat} {p : PtrD} (h : ps[k]? = some p) (a : Nat) : cntP (ps.take (k + 1)) a = cntP (ps.take k) a + if p.1 = (a : Int) then 1 else 0 := by
  rw [List.take_add_one, h]
  exact cntP_snoc _ _ _
theorem cntP_le (ps : List PtrD) (k a : Nat) : cntP (ps.take k) a ≤ cntP ps a := by
  have h : cntP (ps.take k ++ ps.drop k) a = cntP ps a := by rw [List.take_append_drop]
  rw [cntP_append] at h
  omega
theorem cntP_len (ps : List PtrD) (a : Nat) : cntP ps a ≤ ps.length := by unfold cntP; exact List.countP_le_length
/-- A row's text agrees with its references. -/
def rowT (n : Int) (s : ByteArray) : Prop := s.size ≤ 128 ∧ (s.size = 0 ↔ n = 0)
/-- A store is valid. -/
structure StoreOk (x : StoreD) : Prop where
  len : x.1.length = 64
  sp : spOk x.2.1.1 x.2.1.2 = true
  txg : inB x.2.2.1 1 900 = true
  keep : inB x.2.2.2.2.1 0 (x.2.2.1 - 1) = true
  last : ∀ i, i < 64 → x.2.1.2.getD i 0 ≤ x.2.2.1
  rows : ∀ i, i < 64 → rowT (x.2.1.1.getD i 0) (x.1.getD i ByteArray.empty)
  gone : ∀ p ∈ x.2.2.2.1, goodP (x.2.2.1 - 1) p = true
  dead : ∀ p ∈ x.2.2.2.2.2.1, goodP x.2.2.2.2.1 p = true
  owed : ∀ i, i < 64 → ((cntP x.2.2.2.1 i + cntP x.2.2.2.2.2.1 i : Nat) : Int) ≤ x.2.1.1.getD i 0
open Classical in
noncomputable def storeOk (x : StoreD) : Bool := decide (StoreOk x)
open Classical in
theorem storeOk_yes {x : StoreD} (h : StoreOk x) : storeOk x = true := by unfold storeOk; exact decide_eq_true h
open Classical in
theorem storeOk_no {x : StoreD} (h : ¬ StoreOk x) : storeOk x = false := by unfold storeOk; exact decide_eq_false h
open Classical in
theorem storeOk_of {x : StoreD} (h : storeOk x = true) : StoreOk x := by unfold storeOk at h; exact of_decide_eq_true h
/-- One reference less to a row. -/
def dropS (s : List Int × List Int) (p : PtrD) : List Int × List Int := (s.1.set p.1.toNat (s.1.getD p.1.toNat 0 - 1), lastOf (s.1.getD p.1.toNat 0) s.2 p.1.toNat)
def dropsS (s : List Int × List Int) (ps : List PtrD) : List Int × List Int := ps.foldl dropS s
theorem dropsS_take {s : List Int × List Int} {ps : List PtrD} {k : Nat} {p : PtrD} (h : ps[k]? = some p) : dropsS s (ps.take (k + 1)) = dropS (dropsS s (ps.take k)) p := by
  unfold dropsS
  rw [List.take_add_one, h, List.foldl_append]
  rfl
theorem getD_set {l : List Int} {a i : Nat} {v : Int} (ha : a < l.length) : (l.set a v).getD i 0 = if a = i then v else l.getD i 0 := by
  simp only [List.getD, List.getElem?_set]
  by_cases h : a = i
  · subst h; rw [if_pos rfl, if_pos ha, if_pos rfl]; rfl
  · rw [if_neg h, if_neg h]
theorem dropS_ok {s : List Int × List Int} {p : PtrD} (h : SpOk s.1 s.2) (h1 : 8 ≤ p.1) (h2 : p.1 ≤ 63) (h3 : 1 ≤ s.1.getD p.1.toNat 0) : SpOk (dropS s p).1 (dropS s p).2 := by
  obtain ⟨l1, l2, hr⟩ := h
  have ha : p.1.toNat < 64 := by omega
  have q := hr p.1.toNat ha
  unfold rowOk at q
  refine ⟨by simp [dropS, l1], ?_, fun i hi => ?_⟩
  · unfold dropS lastOf; dsimp only; split <;> simp [l2]
  · have qi := hr i hi
    unfold rowOk at qi ⊢
    unfold dropS lastOf
    dsimp only
    rw [getD_set (by omega)]
    by_cases e : p.1.toNat = i
    · subst e
      rw [if_pos rfl]
      split
      · rw [getD_set (by omega), if_pos rfl]; omega
      · omega
    · rw [if_neg e]
      split
      · rw [getD_set (by omega), if_neg e]; exact qi
      · exact qi
theorem dropS_get {s : List Int × List Int} {p : PtrD} {i : Nat} (hl : s.1.length = 64) (h1 : 8 ≤ p.1) (h2 : p.1 ≤ 63) : (dropS s p).1.getD i 0 = s.1.getD i 0 - if p.1 = (i : Int) then 1 else 0 := by
  unfold dropS
  dsimp only
  rw [getD_set (by omega)]
  by_cases e : p.1.toNat = i
  · subst e
    rw [if_pos rfl, if_pos (by omega)]
  · rw [if_neg e, if_neg (by omega)]; omega
/-- While what was given up is dropped, the space stays valid, and what is still owed is there. -/
theorem drops_ok {x : StoreD} (h : StoreOk x) (k : Nat) (hk : k ≤ x.2.2.2.1.length) :
    SpOk (dropsS x.2.1 (x.2.2.2.1.take k)).1 (dropsS x.2.1 (x.2.2.2.1.take k)).2 ∧ ∀ i, i < 64 → (dropsS x.2.1 (x.2.2.2.1.take k)).1.getD i 0 = x.2.1.1.getD i 0 - (cntP (x.2.2.2.1.take k) i : Int) := by
  induction k with
  | zero => exact ⟨spOk_iff.1 h.sp, fun i hi => by simp [dropsS, cntP_nil]⟩
  | succ k ih =>
    obtain ⟨h1, h2⟩ := ih (by omega)
    obtain ⟨p, hp⟩ : ∃ p, x.2.2.2.1[k]? = some p := ⟨x.2.2.2.1[k]'(by omega), List.getElem?_eq_getElem _⟩
    obtain ⟨-, -, -, h8, h63⟩ := goodP_parts (h.gone p (List.mem_of_getElem? hp))
    have ho := h.owed p.1.toNat (by omega)
    have hc := cntP_take hp p.1.toNat
    have hle := cntP_le x.2.2.2.1 (k + 1) p.1.toNat
    rw [if_pos (by omega)] at hc
    rw [dropsS_take hp]
    refine ⟨dropS_ok h1 h8 h63 ?_, fun i hi => ?_⟩
    · rw [h2 _ (by omega)]; omega
    · rw [dropS_get h1.1 h8 h63, h2 i hi, cntP_take hp i]
      split <;> omega
/-- A pointer that is given up has a reference. -/
theorem drops_one {x : StoreD} (h : StoreOk x) {k : Nat} {p : PtrD} (hp : x.2.2.2.1[k]? = some p) :
    8 ≤ p.1 ∧ p.1 ≤ 63 ∧ 1 ≤ (dropsS x.2.1 (x.2.2.2.1.take k)).1.getD p.1.toNat 0 ∧ (dropsS x.2.1 (x.2.2.2.1.take k)).1.getD p.1.toNat 0 ≤ 900 := by
  have hk := (List.getElem?_eq_some_iff.1 hp).1
  obtain ⟨h1, h2⟩ := drops_ok h k (by omega)
  obtain ⟨-, -, -, h8, h63⟩ := goodP_parts (h.gone p (List.mem_of_getElem? hp))
  have ho := h.owed p.1.toNat (by omega)
  have hc := cntP_take hp p.1.toNat
  have hle := cntP_le x.2.2.2.1 (k + 1) p.1.toNat
  rw [if_pos (by omega)] at hc
  have hr := h1.2.2 p.1.toNat (by omega)
  unfold rowOk at hr
  refine ⟨h8, h63, ?_, by omega⟩
  rw [h2 _ (by omega)]; omega
/-- How many rows are free now, and how many then. -/
noncomputable def roomS (x : StoreD) : Int × Int := if storeOk x = true then ((roomTo x.2.1.1 56 : Int), (roomTo (dropsS x.2.1 x.2.2.2.1).1 56 : Int)) else (-1, -1)
end Go.Proofs.Ytffieobjcipeoaa
