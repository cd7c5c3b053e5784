/- Names, paths, operations and intents as texts: the plain mathematics. No condition. -/
import Derived.Test.YtlacpcdbgimnmaaDoorRecs
import Derived.Lib.DecodeN
import Derived.Shelf.GgClosure.StringsIndexFuncTop
namespace Go.Proofs.YtlacpcdbgimnmaaDoor
set_option linter.unusedSimpArgs false
set_option linter.unnecessarySimpa false
section
open Go Go.Lib

def splitP : Str → List Str
  | [] => [[]]
  | c :: s => if c = 47 then [] :: splitP s else match splitP s with
    | [] => [[c]]
    | x :: xs => (c :: x) :: xs
theorem splitP_ne : ∀ s, splitP s ≠ []
  | [] => by simp [splitP]
  | c :: s => by
    unfold splitP
    split
    · simp
    · split <;> simp
theorem splitP_free {s : Str} (h : (47 : UInt8) ∉ s) : splitP s = [s] := by
  induction s with
  | nil => rfl
  | cons c s ih =>
    simp only [List.mem_cons, not_or] at h
    unfold splitP
    rw [if_neg (fun e => h.1 e.symm), ih h.2]
theorem splitP_cut {a b : Str} (h : (47 : UInt8) ∉ a) : splitP (a ++ 47 :: b) = a :: splitP b := by
  induction a with
  | nil => simp [splitP]
  | cons c a ih =>
    simp only [List.mem_cons, not_or] at h
    simp only [List.cons_append]
    rw [splitP.eq_def]
    simp only
    rw [if_neg (fun e => h.1 e.symm), ih h.2]
theorem join_splitP : ∀ s, join (splitP s) [47] = s := by
  intro s
  induction s with
  | nil => rfl
  | cons c s ih =>
    unfold splitP
    split
    · rename_i hc
      subst hc
      cases hs : splitP s with
      | nil => exact absurd hs (splitP_ne s)
      | cons x xs =>
        rw [hs] at ih
        rw [join_cons, joinTail, List.map_cons, List.flatten_cons]
        rw [join_cons, joinTail] at ih
        simp [← ih]
    · cases hs : splitP s with
      | nil => exact absurd hs (splitP_ne s)
      | cons x xs =>
        rw [hs] at ih
        simp only
        rw [join_cons] at ih ⊢
        rw [← ih]; rfl
theorem splitK_P : ∀ (k : Nat) (s : Str), s.count 47 = k → splitK [47] 0 k s = splitP s := by
  intro k
  induction k with
  | zero =>
    intro s hs
    rw [splitP_free (fun hm => by rw [List.count_eq_zero] at hs; exact hs hm)]
    rfl
  | succ k ih =>
    intro s hs
    cases hc : cutG 47 s with
    | none =>
      have h1 := (cutG_none hc).1
      rw [List.count_eq_zero.2 h1] at hs
      omega
    | some p =>
      obtain ⟨a, b⟩ := p
      obtain ⟨e, h1, h2⟩ := cutG_some hc
      unfold splitK
      have h3 : ((a.length : Int) == -1) = false := by simp <;> omega
      rw [h2, h3]
      simp only [Bool.false_eq_true, if_false, Int.toNat_natCast, Nat.add_zero, List.length_singleton]
      have ht : s.take a.length = a := by rw [e]; simp
      have hdr : s.drop (a.length + 1) = b := by rw [e]; simp
      have hcb : b.count 47 = k := by
        rw [e, List.count_append, List.count_cons, List.count_eq_zero.2 h1] at hs
        simp at hs; omega
      rw [ht, hdr, ih b hcb, e, splitP_cut h1]
theorem pieceP_le : ∀ (s : Str), ∀ x ∈ splitP s, x.length ≤ s.length
  | [], x, h => by simp [splitP] at h; subst h; simp
  | c :: s, x, h => by
    have ih := pieceP_le s
    unfold splitP at h
    split at h
    · rcases List.mem_cons.1 h with rfl | h
      · simp
      · have := ih x h; simp; omega
    · split at h
      · rename_i hc hs; exact absurd hs (splitP_ne s)
      · rename_i y ys hs
        rw [hs] at ih
        rcases List.mem_cons.1 h with rfl | h
        · have := ih y (by simp); simp; omega
        · have := ih x (by simp [h]); simp; omega
end
section
open Go Go.Lib
set_option linter.unusedVariables false

/-! Names. -/
def isLow (c : UInt8) : Bool := decide (97 ≤ c.toNat ∧ c.toNat ≤ 122)
theorem isLow_iff {c : UInt8} : isLow c = true ↔ 97 ≤ c.toNat ∧ c.toNat ≤ 122 := by unfold isLow; rw [decide_eq_true_iff]
def namB (s : Str) : Bool := decide (1 ≤ s.length ∧ s.length ≤ 4) && s.all isLow
theorem namB_iff {s : Str} : namB s = true ↔ (1 ≤ s.length ∧ s.length ≤ 4) ∧ s.all isLow = true := by unfold namB; rw [Bool.and_eq_true, decide_eq_true_iff]
def notLow (r : Nat) : Bool := decide (r < 97) || decide (122 < r)
theorem notLow_yes {r : Nat} (h : r < 97 ∨ 122 < r) : notLow r = true := by unfold notLow; rw [Bool.or_eq_true, decide_eq_true_iff, decide_eq_true_iff]; exact h
theorem notLow_no {r : Nat} (h : ¬ (r < 97 ∨ 122 < r)) : notLow r = false := by
  cases hn : notLow r with
  | false => rfl
  | true => unfold notLow at hn; rw [Bool.or_eq_true, decide_eq_true_iff, decide_eq_true_iff] at hn; exact absurd hn h
theorem dec_lo {s : ByteArray} {i : Nat} (h : (s.get! i).toNat < 128) : Utf8.decode s i = ((s.get! i).toNat, 1) := by
  rw [decode_at]; unfold decodeN; rw [if_pos h]
theorem dec_hi {s : ByteArray} {i : Nat} (h : ¬ (s.get! i).toNat < 128) : 128 ≤ (Utf8.decode s i).1 := by
  rw [decode_at]; unfold decodeN; rw [if_neg h]
  repeat' split
  all_goals (simp only; omega)
theorem idx_low (s : ByteArray) : ∀ (f pos : Nat), s.size ≤ pos + f → (Lib.idxFuncFrom notLow true s f pos < 0 ↔ ∀ j, pos ≤ j → j < s.size → isLow (s.get! j) = true)
  | 0, pos, h => ⟨fun _ j h1 h2 => by omega, fun _ => by unfold Lib.idxFuncFrom; decide⟩
  | f + 1, pos, h => by
    unfold Lib.idxFuncFrom
    by_cases hp : pos < s.size
    · rw [if_pos hp]
      by_cases hb : (s.get! pos).toNat < 128
      · rw [dec_lo hb]
        simp only
        by_cases hl : isLow (s.get! pos) = true
        · have hl' := isLow_iff.1 hl
          rw [notLow_no (by omega), if_neg (by decide), idx_low s f (pos + 1) (by omega)]
          refine ⟨fun H j a b => ?_, fun H j a b => H j (by omega) b⟩
          by_cases e : j = pos
          · subst e; exact hl
          · exact H j (by omega) b
        · have hn : (s.get! pos).toNat < 97 ∨ 122 < (s.get! pos).toNat := by
            apply Decidable.byContradiction
            intro hc
            exact hl (isLow_iff.2 (by omega))
          rw [notLow_yes hn, if_pos rfl]
          exact ⟨fun h => by omega, fun H => absurd (H pos (Nat.le_refl _) hp) hl⟩
      · have h2 := dec_hi hb
        rw [notLow_yes (by omega), if_pos rfl]
        refine ⟨fun h => by omega, fun H => ?_⟩
        have := isLow_iff.1 (H pos (Nat.le_refl _) hp)
        omega
    · rw [if_neg hp]
      exact ⟨fun _ j h1 h2 => by omega, fun _ => by decide⟩
theorem strB_get {l : Str} {j : Nat} (h : j < l.length) : (strB l).get! j = l[j] := by
  have : (strB l).data[j]! = l[j] := by simp [strB, h]
  exact this
theorem all_low (l : Str) : l.all isLow = true ↔ ∀ j, 0 ≤ j → j < (strB l).size → isLow ((strB l).get! j) = true := by
  rw [List.all_eq_true]
  refine ⟨fun H j _ h => ?_, fun H c hc => ?_⟩
  · have h' : j < l.length := h
    rw [strB_get h']
    exact H _ (List.getElem_mem h')
  · obtain ⟨j, h, rfl⟩ := List.mem_iff_getElem.1 hc
    have := H j (Nat.zero_le _) h
    rwa [strB_get h] at this
theorem nam_idx (l : Str) : decide (Lib.idxFunc notLow true (strB l) < 0) = l.all isLow := by
  rw [Bool.eq_iff_iff, decide_eq_true_iff, all_low]
  unfold Lib.idxFunc
  exact idx_low _ _ _ (by omega)

/-! Paths. -/
def pathB (s : Str) : Bool := decide (s = [47]) || (decide (s.head? = some 47) && (decide ((splitP s.tail).length ≤ 4) && (splitP s.tail).all namB))
theorem joinP_len : ∀ (x : Str) (xs : List Str), (∀ y ∈ x :: xs, y.length ≤ 4) → (join (x :: xs) [47]).length + 1 ≤ 5 * (xs.length + 1)
  | x, [], h => by have := h x (by simp); rw [join_cons]; simp [joinTail]; omega
  | x, y :: ys, h => by
    have h1 := joinP_len y ys (fun z hz => h z (by simp [List.mem_cons.1 hz]))
    have h2 := h x (by simp)
    rw [join_cons] at h1 ⊢
    simp only [joinTail, List.map_cons, List.flatten_cons, List.length_append, List.length_cons, List.length_nil] at h1 ⊢
    omega
theorem joinP_count : ∀ (s : Str), (splitP s).length ≤ s.length + 1
  | [] => by simp [splitP]
  | c :: s => by
    have ih := joinP_count s
    unfold splitP
    split
    · simp; omega
    · split
      · simp
      · rename_i hc y ys hs
        rw [hs] at ih
        simp at ih ⊢; omega
theorem path_shape {s : Str} (h : pathB s = true) : s = [47] ∨ (∃ r, s = 47 :: r ∧ (splitP r).length ≤ 4 ∧ (splitP r).all namB = true) := by
  unfold pathB at h
  simp only [Bool.or_eq_true, Bool.and_eq_true, decide_eq_true_eq] at h
  rcases h with h | ⟨h1, h2, h3⟩
  · exact .inl h
  · cases s with
    | nil => simp at h1
    | cons c r =>
      simp only [List.head?_cons, Option.some.injEq] at h1
      subst h1
      exact .inr ⟨r, rfl, h2, h3⟩
theorem path_len {s : Str} (h : pathB s = true) : 1 ≤ s.length ∧ s.length ≤ 20 := by
  rcases path_shape h with rfl | ⟨r, rfl, h2, h3⟩
  · simp
  · have hj := join_splitP r
    cases hs : splitP r with
    | nil => exact absurd hs (splitP_ne r)
    | cons x xs =>
      rw [hs] at hj h2 h3
      have h4 := joinP_len x xs (fun y hy => (namB_iff.1 (List.all_eq_true.1 h3 y hy)).1.2)
      rw [hj] at h4
      simp only [List.length_cons] at h2 ⊢
      omega
theorem path_one : pathB [47] = true := by decide
theorem path_nil : pathB [] = false := by decide
theorem path_not {c : UInt8} {r : Str} (h : c ≠ 47) : pathB (c :: r) = false := by
  unfold pathB
  have h1 : ¬ (c :: r = [47]) := fun e => h (by injection e)
  simp [h1, h]
theorem path_cons {r : Str} (h : r ≠ []) : pathB (47 :: r) = (decide ((splitP r).length ≤ 4) && (splitP r).all namB) := by
  unfold pathB
  have h1 : ¬ ((47 : UInt8) :: r = [47]) := fun e => h (by injection e)
  have h2 : decide (((47 : UInt8) :: r).head? = some 47) = true := by simp
  rw [decide_eq_false h1, Bool.false_or, h2, Bool.true_and]
  rfl

/-! Operations: kind, path, the other path, place, text. -/
abbrev OpS := Int × Str × Str × Int × Str
def twoB (k : Int) : Bool := decide (k = 6) || decide (k = 7)
def sizB (k : Int) : Bool := decide (k = 3) || decide (k = 4)
def opB (o : OpS) : Bool :=
  inB o.1 1 7 && (pathB o.2.1 && ((if twoB o.1 = true then pathB o.2.2.1 else decide (o.2.2.1 = [])) && ((decide (o.1 = 3) || decide (o.2.2.2.2 = [])) && (decide (o.2.2.2.2.length ≤ 24) && (decide (o.2.2.2.1 = 0) || (sizB o.1 && inB o.2.2.2.1 0 192))))))
theorem opB_parts {o : OpS} (h : opB o = true) : (1 ≤ o.1 ∧ o.1 ≤ 7) ∧ pathB o.2.1 = true ∧ o.2.1.length ≤ 20 ∧ o.2.2.1.length ≤ 20 ∧ (0 ≤ o.2.2.2.1 ∧ o.2.2.2.1 ≤ 192) ∧ o.2.2.2.2.length ≤ 24 := by
  unfold opB at h
  simp only [Bool.and_eq_true, Bool.or_eq_true, decide_eq_true_eq, inB_iff] at h
  obtain ⟨h1, h2, h3, h4, h5, h6⟩ := h
  refine ⟨h1, h2, (path_len h2).2, ?_, ?_, h5⟩
  · split at h3
    · exact (path_len h3).2
    · rw [decide_eq_true_eq] at h3; rw [h3]; simp
  · rcases h6 with h6 | ⟨_, h6⟩
    · omega
    · exact h6
def opF (o : OpS) : List Str := [numS o.1, o.2.1, o.2.2.1, numS o.2.2.2.1, o.2.2.2.2]
def opS (o : OpS) : Str := if opB o = true then (fieldsF (opF o)).1 else []
theorem opS_yes {o : OpS} (h : opB o = true) : opS o = (fieldsF (opF o)).1 := by unfold opS; rw [if_pos h]
theorem opS_no {o : OpS} (h : opB o = false) : opS o = [] := by unfold opS; rw [h]; rfl
theorem enc1_99 {f : Str} (h : f.length ≤ 99) : (enc1 f).length ≤ f.length + 3 := by
  unfold enc1
  have := dec_len_le 1 f.length (by omega)
  simp
  omega
theorem opF_len (o : OpS) : (opF o).length = 5 := rfl
theorem encs_op {o : OpS} (h : opB o = true) : (encs (opF o)).length ≤ 97 := by
  obtain ⟨h1, h2, h3, h4, h5, h6⟩ := opB_parts h
  have e1 := numS_len o.1; have e2 := numS_len o.2.2.2.1
  have k1 := enc1_99 (f := numS o.1) (by omega); have k2 := enc1_99 (f := o.2.1) (by omega); have k3 := enc1_99 (f := o.2.2.1) (by omega); have k4 := enc1_99 (f := numS o.2.2.2.1) (by omega); have k5 := enc1_99 (f := o.2.2.2.2) (by omega)
  unfold opF
  simp only [encs_cons, encs_nil, List.length_append, List.length_nil]
  omega
theorem op_rec {o : OpS} (h : opB o = true) : IsRec (opS o) (opF o) := by
  have h1 := encs_op h
  have e : opS o = encs (opF o) := by rw [opS_yes h, fieldsF_yes (by rw [opF_len]; omega) (by omega)]
  exact ⟨e.symm, by rw [opF_len]; omega, by rw [e]; omega⟩
theorem opS_len (o : OpS) : (opS o).length ≤ 97 := by
  cases h : opB o
  · rw [opS_no h]; simp
  · rw [← (op_rec h).1]; exact encs_op h
theorem encs_ne {l : List Str} (h : l ≠ []) : encs l ≠ [] := by
  cases l with
  | nil => exact absurd rfl h
  | cons x l =>
    rw [encs_cons]
    intro e
    simp only [List.append_eq_nil_iff] at e
    exact enc1_ne x e.1
theorem opS_ne {o : OpS} (h : opB o = true) : opS o ≠ [] := by rw [← (op_rec h).1]; exact encs_ne (by simp [opF])
theorem opB_of {o : OpS} (h : opS o ≠ []) : opB o = true := by
  cases hb : opB o with
  | true => rfl
  | false => exact absurd (opS_no hb) h
def op0 : OpS := (0, [], [], 0, [])
theorem op0_bad : opB op0 = false := by decide
/-- What is read off a text: the operation that it is the text of, or none. -/
def opIs (s : Str) (o : OpS) (ok : Bool) : Prop := (ok = true ∧ opB o = true ∧ opS o = s) ∨ (ok = false ∧ o = op0 ∧ ∀ o' : OpS, opB o' = true → opS o' ≠ s)
theorem op_inj {o o' : OpS} (h : opB o = true) (h' : opB o' = true) (e : opS o = opS o') : o = o' := by
  have hL := (op_rec h).inj (e ▸ op_rec h')
  obtain ⟨h1, _, _, _, h5, _⟩ := opB_parts h
  obtain ⟨h1', _, _, _, h5', _⟩ := opB_parts h'
  obtain ⟨k, p, t, a, x⟩ := o
  obtain ⟨k', p', t', a', x'⟩ := o'
  unfold opF at hL
  simp only [List.cons.injEq, and_true] at hL h1 h5 h1' h5'
  obtain ⟨r1, rfl, rfl, r4, rfl⟩ := hL
  have g1 : numGet (numS k) = numGet (numS k') := by rw [r1]
  have g4 : numGet (numS a) = numGet (numS a') := by rw [r4]
  rw [numGet_numS (by omega), numGet_numS (by omega)] at g1 g4
  injection g1 with g1; injection g4 with g4
  have e1 : k = k' := by omega
  have e4 : a = a' := by omega
  rw [e1, e4]
theorem opIs_one {s : Str} {o o' : OpS} {ok ok' : Bool} (h : opIs s o ok) (h' : opIs s o' ok') : o = o' ∧ ok = ok' := by
  rcases h with ⟨rfl, h1, h2⟩ | ⟨rfl, h1, h2⟩ <;> rcases h' with ⟨rfl, k1, k2⟩ | ⟨rfl, k1, k2⟩
  · exact ⟨op_inj h1 k1 (h2.trans k2.symm), rfl⟩
  · exact absurd h2 (k2 _ h1)
  · exact absurd k2 (h2 _ k1)
  · exact ⟨h1.trans k1.symm, rfl⟩
theorem op_norec {s : Str} (h : ∀ l, ¬ IsRec s l) : opIs s op0 false := .inr ⟨rfl, rfl, fun o hok e => h _ (e ▸ op_rec hok)⟩
theorem op_notlen {s : Str} {L : List Str} (h : IsRec s L) (hl : L.length ≠ 5) : opIs s op0 false := .inr ⟨rfl, rfl, fun o hok e => hl (by rw [h.inj (e ▸ op_rec hok)]; rfl)⟩
/-- FiveO fields, as far as they are read. -/
def FiveO (s : Str) (k : Option Nat) (p t : Str) (a : Option Nat) (x : Str) : Prop := ∃ y0 y3, IsRec s [y0, p, t, y3, x] ∧ numGet y0 = k ∧ numGet y3 = a
theorem FiveO.only {s p t x : Str} {k a : Option Nat} (h : FiveO s k p t a x) {o : OpS} (hok : opB o = true) (e : opS o = s) : k = some o.1.toNat ∧ p = o.2.1 ∧ t = o.2.2.1 ∧ a = some o.2.2.2.1.toNat ∧ x = o.2.2.2.2 ∧ 0 ≤ o.1 ∧ 0 ≤ o.2.2.2.1 := by
  obtain ⟨y0, y3, hr, h1, h2⟩ := h
  have hL := hr.inj (e ▸ op_rec hok)
  obtain ⟨g1, _, _, _, g5, _⟩ := opB_parts hok
  unfold opF at hL
  simp only [List.cons.injEq, and_true] at hL
  obtain ⟨r1, r2, r3, r4, r5⟩ := hL
  rw [r1, numGet_numS (by omega)] at h1
  rw [r4, numGet_numS (by omega)] at h2
  exact ⟨h1.symm, r2, r3, h2.symm, r5, by omega, by omega⟩
theorem FiveO.bad {s p t x : Str} {k a : Option Nat} (h : FiveO s k p t a x) (hb : ¬ (k.isSome = true ∧ a.isSome = true)) : opIs s op0 false :=
  .inr ⟨rfl, rfl, fun o hok e => by
    obtain ⟨rfl, _, _, rfl, _⟩ := h.only hok e
    exact hb ⟨rfl, rfl⟩⟩
theorem FiveO.eq {s p t x : Str} {k a : Option Nat} (h : FiveO s k p t a x) {o : OpS} (hok : opB o = true) (e : opS o = s) : (((k.getD 0 : Nat) : Int), p, t, ((a.getD 0 : Nat) : Int), x) = o := by
  obtain ⟨rfl, rfl, rfl, rfl, rfl, h1, h2⟩ := h.only hok e
  simp only [Option.getD_some]
  rw [Int.toNat_of_nonneg h1, Int.toNat_of_nonneg h2]
theorem FiveO.no_text {s p t x : Str} {k a : Option Nat} (h : FiveO s k p t a x) (hb : opS (((k.getD 0 : Nat) : Int), p, t, ((a.getD 0 : Nat) : Int), x) ≠ s) : opIs s op0 false :=
  .inr ⟨rfl, rfl, fun o hok e => hb (by rw [h.eq hok e]; exact e)⟩
theorem FiveO.no_ok {s p t x : Str} {k a : Option Nat} (h : FiveO s k p t a x) (hb : opB (((k.getD 0 : Nat) : Int), p, t, ((a.getD 0 : Nat) : Int), x) = false) : opIs s op0 false :=
  .inr ⟨rfl, rfl, fun o hok e => by rw [h.eq hok e, hok] at hb; cases hb⟩
theorem rec_ne {s : Str} {l : List Str} (h : IsRec s l) (hl : l ≠ []) : s ≠ [] := h.1 ▸ encs_ne hl
theorem FiveO.yes {s p t x : Str} {k a : Option Nat} (h : FiveO s k p t a x) (hb : opS (((k.getD 0 : Nat) : Int), p, t, ((a.getD 0 : Nat) : Int), x) = s) : opIs s (((k.getD 0 : Nat) : Int), p, t, ((a.getD 0 : Nat) : Int), x) true := by
  obtain ⟨y0, y3, hr, _⟩ := h
  exact .inl ⟨rfl, opB_of (by rw [hb]; exact rec_ne hr (by simp)), hb⟩

/-! Intents: group, number, head, operation. -/
abbrev IntS := Int × Int × Str × OpS
def intB (x : IntS) : Bool := inB x.1 1 900 && (inB x.2.1 1 4 && (namB x.2.2.1 && opB x.2.2.2))
theorem intB_parts {x : IntS} (h : intB x = true) : (1 ≤ x.1 ∧ x.1 ≤ 900) ∧ (1 ≤ x.2.1 ∧ x.2.1 ≤ 4) ∧ namB x.2.2.1 = true ∧ opB x.2.2.2 = true := by
  unfold intB at h
  simp only [Bool.and_eq_true, inB_iff] at h
  exact h
def intF (x : IntS) : List Str := [[108, 111, 103], numS x.1, numS x.2.1, x.2.2.1, opS x.2.2.2]
def intL (x : IntS) : List Str := intF x ++ [numS (sumL (fieldsF (intF x)).1 : Nat)]
def intS (x : IntS) : Str := if intB x = true then signedS (intF x) else []
theorem intS_yes {x : IntS} (h : intB x = true) : intS x = signedS (intF x) := by unfold intS; rw [if_pos h]
theorem intS_no {x : IntS} (h : intB x = false) : intS x = [] := by unfold intS; rw [h]; rfl
theorem intL_len (x : IntS) : (intL x).length = 6 := rfl
theorem enc1_999 {f : Str} (h : f.length ≤ 999) : (enc1 f).length ≤ f.length + 4 := by
  unfold enc1
  have := dec_len_le 2 f.length (by omega)
  simp
  omega
theorem encs_int {x : IntS} (h : intB x = true) : (encs (intL x)).length ≤ 200 := by
  obtain ⟨_, _, h3, h4⟩ := intB_parts h
  have h3 := (namB_iff.1 h3).1
  have e1 := numS_len x.1; have e2 := numS_len x.2.1; have e4 := opS_len x.2.2.2
  unfold intL intF
  generalize hx : numS (sumL (fieldsF [[108, 111, 103], numS x.1, numS x.2.1, x.2.2.1, opS x.2.2.2]).1 : Nat) = z
  have e5 : z.length ≤ 9 := hx ▸ numS_len _
  have k0 := enc1_99 (f := [108, 111, 103]) (by simp)
  have k1 := enc1_99 (f := numS x.1) (by omega); have k2 := enc1_99 (f := numS x.2.1) (by omega); have k3 := enc1_99 (f := x.2.2.1) (by omega); have k4 := enc1_99 (f := opS x.2.2.2) (by omega); have k5 := enc1_99 (f := z) (by omega)
  simp only [List.cons_append, List.nil_append, encs_cons, encs_nil, List.length_append, List.length_nil]
  simp only [List.length_cons, List.length_nil] at k0
  omega
theorem int_rec {x : IntS} (h : intB x = true) : IsRec (intS x) (intL x) := by
  have h1 := encs_int h
  have e : intS x = encs (intL x) := by
    rw [intS_yes h]
    show (fieldsF (intL x)).1 = _
    rw [fieldsF_yes (by rw [intL_len]; omega) (by omega)]
  exact ⟨e.symm, by rw [intL_len]; omega, by rw [e]; omega⟩
theorem intS_len (x : IntS) : (intS x).length ≤ 200 := by
  cases h : intB x
  · rw [intS_no h]; simp
  · rw [← (int_rec h).1]; exact encs_int h
theorem intS_ne {x : IntS} (h : intB x = true) : intS x ≠ [] := by rw [← (int_rec h).1]; exact encs_ne (by simp [intL, intF])
theorem intB_of {x : IntS} (h : intS x ≠ []) : intB x = true := by
  cases hb : intB x with
  | true => rfl
  | false => exact absurd (intS_no hb) h
def int0 : IntS := (0, 0, [], op0)
def intIs (s : Str) (x : IntS) (ok : Bool) : Prop := (ok = true ∧ intB x = true ∧ intS x = s) ∨ (ok = false ∧ x = int0 ∧ ∀ x' : IntS, intB x' = true → intS x' ≠ s)
theorem int_inj {x y : IntS} (h : intB x = true) (h' : intB y = true) (e : intS x = intS y) : x = y := by
  have hL := (int_rec h).inj (e ▸ int_rec h')
  obtain ⟨h1, h2, _, h4⟩ := intB_parts h
  obtain ⟨h1', h2', _, h4'⟩ := intB_parts h'
  obtain ⟨t, q, n, o⟩ := x
  obtain ⟨t', q', n', o'⟩ := y
  unfold intL intF at hL
  simp only [List.cons_append, List.nil_append, List.cons.injEq, and_true, true_and] at hL h1 h2 h4 h1' h2' h4'
  obtain ⟨r1, r2, rfl, r4, _⟩ := hL
  have g1 : numGet (numS t) = numGet (numS t') := by rw [r1]
  have g2 : numGet (numS q) = numGet (numS q') := by rw [r2]
  rw [numGet_numS (by omega), numGet_numS (by omega)] at g1 g2
  injection g1 with g1; injection g2 with g2
  have e1 : t = t' := by omega
  have e2 : q = q' := by omega
  rw [e1, e2, op_inj h4 h4' r4]
theorem intIs_one {s : Str} {x x' : IntS} {ok ok' : Bool} (h : intIs s x ok) (h' : intIs s x' ok') : x = x' ∧ ok = ok' := by
  rcases h with ⟨rfl, h1, h2⟩ | ⟨rfl, h1, h2⟩ <;> rcases h' with ⟨rfl, k1, k2⟩ | ⟨rfl, k1, k2⟩
  · exact ⟨int_inj h1 k1 (h2.trans k2.symm), rfl⟩
  · exact absurd h2 (k2 _ h1)
  · exact absurd k2 (h2 _ k1)
  · exact ⟨h1.trans k1.symm, rfl⟩
theorem int_norec {s : Str} (h : ∀ l, ¬ IsRec s l) : intIs s int0 false := .inr ⟨rfl, rfl, fun o hok e => h _ (e ▸ int_rec hok)⟩
theorem int_notlen {s : Str} {L : List Str} (h : IsRec s L) (hl : L.length ≠ 6) : intIs s int0 false := .inr ⟨rfl, rfl, fun o hok e => hl (by rw [h.inj (e ▸ int_rec hok)]; rfl)⟩
/-- Six fields, as far as they are read. -/
def SixI (s : Str) (t q : Option Nat) (n : Str) (o : OpS) (ok : Bool) : Prop := ∃ y0 y1 y2 y4 y5, IsRec s [y0, y1, y2, n, y4, y5] ∧ numGet y1 = t ∧ numGet y2 = q ∧ opIs y4 o ok
theorem SixI.only {s n : Str} {t q : Option Nat} {o : OpS} {ok : Bool} (h : SixI s t q n o ok) {x : IntS} (hok : intB x = true) (e : intS x = s) :
    t = some x.1.toNat ∧ q = some x.2.1.toNat ∧ n = x.2.2.1 ∧ o = x.2.2.2 ∧ ok = true ∧ 0 ≤ x.1 ∧ 0 ≤ x.2.1 := by
  obtain ⟨y0, y1, y2, y4, y5, hr, h1, h2, h3⟩ := h
  have hL := hr.inj (e ▸ int_rec hok)
  obtain ⟨g1, g2, _, g4⟩ := intB_parts hok
  unfold intL intF at hL
  simp only [List.cons_append, List.nil_append, List.cons.injEq, and_true] at hL
  obtain ⟨_, r1, r2, r3, r4, _⟩ := hL
  rw [r1, numGet_numS (by omega)] at h1
  rw [r2, numGet_numS (by omega)] at h2
  obtain ⟨q1, q2⟩ := opIs_one h3 (.inl ⟨rfl, g4, r4.symm⟩ : opIs y4 x.2.2.2 true)
  exact ⟨h1.symm, h2.symm, r3, q1, q2, by omega, by omega⟩
theorem SixI.bad {s n : Str} {t q : Option Nat} {o : OpS} {ok : Bool} (h : SixI s t q n o ok) (hb : ¬ (t.isSome = true ∧ q.isSome = true ∧ ok = true)) : intIs s int0 false :=
  .inr ⟨rfl, rfl, fun x hok e => by
    obtain ⟨rfl, rfl, _, _, rfl, _⟩ := h.only hok e
    exact hb ⟨rfl, rfl, rfl⟩⟩
theorem SixI.eq {s n : Str} {t q : Option Nat} {o : OpS} {ok : Bool} (h : SixI s t q n o ok) {x : IntS} (hok : intB x = true) (e : intS x = s) : (((t.getD 0 : Nat) : Int), ((q.getD 0 : Nat) : Int), n, o) = x := by
  obtain ⟨rfl, rfl, rfl, rfl, _, h1, h2⟩ := h.only hok e
  simp only [Option.getD_some]
  rw [Int.toNat_of_nonneg h1, Int.toNat_of_nonneg h2]
theorem SixI.no_text {s n : Str} {t q : Option Nat} {o : OpS} {ok : Bool} (h : SixI s t q n o ok) (hb : intS (((t.getD 0 : Nat) : Int), ((q.getD 0 : Nat) : Int), n, o) ≠ s) : intIs s int0 false :=
  .inr ⟨rfl, rfl, fun x hok e => hb (by rw [h.eq hok e]; exact e)⟩
theorem SixI.no_ok {s n : Str} {t q : Option Nat} {o : OpS} {ok : Bool} (h : SixI s t q n o ok) (hb : intB (((t.getD 0 : Nat) : Int), ((q.getD 0 : Nat) : Int), n, o) = false) : intIs s int0 false :=
  .inr ⟨rfl, rfl, fun x hok e => by rw [h.eq hok e, hok] at hb; cases hb⟩
theorem SixI.yes {s n : Str} {t q : Option Nat} {o : OpS} {ok : Bool} (h : SixI s t q n o ok) (hb : intS (((t.getD 0 : Nat) : Int), ((q.getD 0 : Nat) : Int), n, o) = s) : intIs s (((t.getD 0 : Nat) : Int), ((q.getD 0 : Nat) : Int), n, o) true := by
  obtain ⟨y0, y1, y2, y4, y5, hr, _⟩ := h
  exact .inl ⟨rfl, intB_of (by rw [hb]; exact rec_ne hr (by simp)), hb⟩
/-- An intent's text that is cut is no intent's text. -/
theorem int_torn {x : IntS} (h : intB x = true) {k : Nat} (hk : k < (intS x).length) {y : IntS} {ok : Bool} (hr : intIs ((intS x).take k) y ok) : ok = false := by
  rcases hr with ⟨rfl, h1, h2⟩ | ⟨rfl, _⟩
  · exfalso
    have r1 := int_rec h1
    have r2 := int_rec h
    have e : encs (intL y) ++ (intS x).drop k = intS x := by rw [r1.1, h2, List.take_append_drop]
    have hd : (intS x).drop k ≠ [] := by
      intro he
      have := congrArg List.length he
      simp at this
      omega
    have hle : ∀ f ∈ intL y, f.length ≤ 999999999 := fun f hf => by
      have h3 := encs_mem hf
      rw [r1.1, h2, List.length_take] at h3
      have := intS_len x
      omega
    have := rec_more e hle hd r2
    rw [intL_len, intL_len] at this
    omega
  · rfl
end
end Go.Proofs.YtlacpcdbgimnmaaDoor
