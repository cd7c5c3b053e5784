/- Numerals and records, the plain mathematics. No condition. -/
import Derived.Lib.ItoaMem
import Derived.Lib.AtoiAll
import Derived.Lib.IndexMore
namespace Go.Proofs.YtkmkmndcgemnlaaGreatDoor
set_option linter.unusedVariables false
set_option linter.unusedSimpArgs false
set_option linter.unnecessarySimpa false
open Go Go.Lib

abbrev Str := List UInt8
def isDg (c : UInt8) : Bool := decide (48 ≤ c.toNat ∧ c.toNat ≤ 57)
theorem isDg_iff {c : UInt8} : isDg c = true ↔ 48 ≤ c.toNat ∧ c.toNat ≤ 57 := by unfold isDg; rw [decide_eq_true_iff]
def valF (acc : Nat) (s : Str) : Nat := s.foldl (fun n c => 10 * n + (c.toNat - 48)) acc
theorem valF_nil (acc : Nat) : valF acc [] = acc := rfl
theorem valF_cons (acc : Nat) (c : UInt8) (s : Str) : valF acc (c :: s) = valF (10 * acc + (c.toNat - 48)) s := by unfold valF; rw [List.foldl_cons]
theorem valF_snoc (acc : Nat) (s : Str) (c : UInt8) : valF acc (s ++ [c]) = 10 * valF acc s + (c.toNat - 48) := by unfold valF; rw [List.foldl_append]; rfl
theorem ofNat_dg {d : Nat} (h : d < 10) : (UInt8.ofNat (48 + d)).toNat = 48 + d := by
  have e : (UInt8.ofNat (48 + d)).toNat = (48 + d) % 256 := rfl
  rw [e, Nat.mod_eq_of_lt (by omega)]
theorem dec_small {n : Nat} (h : n < 10) : decDigits n = [UInt8.ofNat (48 + n)] := by rw [decDigits, dif_pos h]
theorem dec_big {n : Nat} (h : ¬ n < 10) : decDigits n = decDigits (n / 10) ++ [UInt8.ofNat (48 + n % 10)] := by rw [decDigits, dif_neg h]
theorem dec_digits (n : Nat) : ∀ c ∈ decDigits n, isDg c = true := by
  induction n using Nat.strongRecOn with
  | _ n ih =>
    by_cases h : n < 10
    · rw [dec_small h]; intro c hc; rw [List.mem_singleton] at hc; subst hc; rw [isDg_iff, ofNat_dg h]; omega
    · rw [dec_big h]; intro c hc
      rcases List.mem_append.1 hc with hc | hc
      · exact ih (n / 10) (by omega) c hc
      · rw [List.mem_singleton] at hc; subst hc; rw [isDg_iff, ofNat_dg (Nat.mod_lt _ (by decide))]; omega
theorem val_dec (n : Nat) : valF 0 (decDigits n) = n := by
  induction n using Nat.strongRecOn with
  | _ n ih =>
    by_cases h : n < 10
    · rw [dec_small h, valF_cons, valF_nil, ofNat_dg h]; omega
    · rw [dec_big h, valF_snoc, ih (n / 10) (by omega), ofNat_dg (by omega)]; omega
theorem dec_ne (n : Nat) : decDigits n ≠ [] := by
  intro h; have := decDigits_length n; rw [h] at this; have := nDigits_pos n; simp at *; omega
theorem dec_inj {a b : Nat} (h : decDigits a = decDigits b) : a = b := by rw [← val_dec a, ← val_dec b, h]
theorem dec_head {n : Nat} (h : 0 < n) : (decDigits n).head? ≠ some 48 := by
  induction n using Nat.strongRecOn with
  | _ n ih =>
    by_cases h10 : n < 10
    · rw [dec_small h10]
      intro e
      have e2 : UInt8.ofNat (48 + n) = 48 := by simpa only [List.head?_cons, Option.some.injEq] using e
      have := congrArg UInt8.toNat e2
      rw [ofNat_dg h10] at this
      have h48 : (48 : UInt8).toNat = 48 := rfl
      omega
    · rw [dec_big h10, List.head?_append]
      have := ih (n / 10) (by omega) (by omega)
      cases hd : (decDigits (n / 10)).head? with
      | none => rw [List.head?_eq_none_iff] at hd; exact absurd hd (dec_ne _)
      | some c => rw [hd] at this; simpa using this
/-- A numeral: digits, no nought ahead of others. -/
def isNum (s : Str) : Bool := !s.isEmpty && s.all isDg && (decide (s.length = 1) || !decide (s.head? = some 48))
theorem isNum_dec (n : Nat) : isNum (decDigits n) = true := by
  unfold isNum
  simp only [Bool.and_eq_true, Bool.not_eq_true', Bool.or_eq_true, decide_eq_true_eq, List.all_eq_true, decide_eq_false_iff_not]
  refine ⟨⟨by simpa using dec_ne n, dec_digits n⟩, ?_⟩
  rcases Nat.eq_zero_or_pos n with h | h
  · subst h; left; rw [dec_small (by omega)]; rfl
  · exact .inr (dec_head h)
theorem valF_pos {s : Str} (hd : s.all isDg = true) : ∀ acc, 0 < acc → 0 < valF acc s := by
  induction s with
  | nil => intro acc h; exact h
  | cons c s ih =>
    intro acc h
    simp at hd
    rw [valF_cons]
    exact ih (by simpa using hd.2) _ (by omega)
theorem dec_val {s : Str} (h : isNum s = true) : decDigits (valF 0 s) = s := by
  unfold isNum at h
  simp only [Bool.and_eq_true, Bool.not_eq_true', Bool.or_eq_true, decide_eq_true_eq, decide_eq_false_iff_not] at h
  obtain ⟨⟨hne, hd⟩, hz⟩ := h
  have key : ∀ n (s : Str), s.length = n → s ≠ [] → s.all isDg = true → (s.length = 1 ∨ ¬ s.head? = some 48) → decDigits (valF 0 s) = s := by
    intro n
    induction n with
    | zero => intro s h0 h1; exact absurd (List.eq_nil_of_length_eq_zero h0) h1
    | succ n ih =>
      intro s hl hne hd hz
      obtain ⟨t, c, rfl⟩ : ∃ t c, s = t ++ [c] := ⟨s.dropLast, s.getLast hne, (List.dropLast_concat_getLast hne).symm⟩
      simp only [List.all_append, List.all_cons, List.all_nil, Bool.and_true, Bool.and_eq_true] at hd
      obtain ⟨hdt, hdc⟩ := hd
      rw [isDg_iff] at hdc
      have hc : UInt8.ofNat (48 + (c.toNat - 48)) = c := by
        rw [show 48 + (c.toNat - 48) = c.toNat by omega]; simp
      rw [valF_snoc]
      by_cases ht : t = []
      · subst ht
        rw [valF_nil, Nat.mul_zero, Nat.zero_add, dec_small (by omega), hc]; rfl
      · have hz2 : ¬ t.head? = some 48 := by
          rcases hz with hz | hz
          · simp at hz; exact absurd hz ht
          · rw [List.head?_append] at hz
            cases hh : t.head? with
            | none => simp
            | some x => rw [hh] at hz; simpa using hz
        have hv : 0 < valF 0 t := by
          cases t with
          | nil => exact absurd rfl ht
          | cons a u =>
            simp at hz2 hdt
            have ha := isDg_iff.1 hdt.1
            have : a.toNat ≠ 48 := fun e => hz2 (by apply UInt8.toNat_inj.1; simpa using e)
            rw [valF_cons]
            exact valF_pos (by simpa using hdt.2) _ (by omega)
        rw [dec_big (by omega), show (10 * valF 0 t + (c.toNat - 48)) / 10 = valF 0 t by omega, show (10 * valF 0 t + (c.toNat - 48)) % 10 = c.toNat - 48 by omega, hc,
          ih t (by simp at hl; omega) ht hdt (.inr hz2)]
  exact key _ s rfl (by simpa using hne) hd hz
/-- The number of a numeral text of at most nine digits. -/
def numGet (s : Str) : Option Nat := if s.length ≤ 9 ∧ isNum s = true then some (valF 0 s) else none
theorem valF_bd (s : Str) (hd : s.all isDg = true) : valF 0 s < 10 ^ s.length := by
  have key : ∀ (s : Str) acc, s.all isDg = true → valF acc s < (acc + 1) * 10 ^ s.length := by
    intro s
    induction s with
    | nil => intro acc _; rw [valF_nil]; simp
    | cons c s ih =>
      intro acc hd
      simp only [List.all_cons, Bool.and_eq_true] at hd
      have hc := isDg_iff.1 hd.1
      have := ih (10 * acc + (c.toNat - 48)) hd.2
      rw [valF_cons, List.length_cons, Nat.pow_succ, Nat.mul_comm (10 ^ s.length) 10, ← Nat.mul_assoc]
      exact Nat.lt_of_lt_of_le this (Nat.mul_le_mul_right _ (by omega))
  have := key s 0 hd
  simpa using this
theorem numGet_iff {s : Str} {n : Nat} : numGet s = some n ↔ n ≤ 999999999 ∧ decDigits n = s := by
  unfold numGet
  constructor
  · intro h
    split at h
    · rename_i hc
      injection h with h
      subst h
      have hd : s.all isDg = true := by have := hc.2; unfold isNum at this; simp only [Bool.and_eq_true] at this; exact this.1.2
      have := valF_bd s hd
      have h9 : 10 ^ s.length ≤ 10 ^ 9 := Nat.pow_le_pow_right (by decide) hc.1
      exact ⟨by omega, dec_val hc.2⟩
    · cases h
  · rintro ⟨h1, rfl⟩
    have hl : (decDigits n).length ≤ 9 := by
      rw [decDigits_length]
      rcases Nat.lt_or_ge 9 (nDigits n) with h | h
      · exfalso
        have key : ∀ k m, k < nDigits m → 10 ^ k ≤ m ∨ k = 0 := by
          intro k
          induction k with
          | zero => intro _ _; exact .inr rfl
          | succ k ih =>
            intro m hm
            by_cases hs : m < 10
            · rw [nDigits_small hs] at hm; omega
            · rw [nDigits_big hs] at hm
              rcases ih (m / 10) (by omega) with h | h
              · left; rw [Nat.pow_succ]; omega
              · subst h; left; simp; omega
        rcases key 9 n h with h | h
        · omega
        · omega
      · exact h
    rw [if_pos ⟨hl, isNum_dec n⟩, val_dec]

/-! Records. -/
def enc1 (s : Str) : Str := decDigits s.length ++ 58 :: s
def encs (l : List Str) : Str := (l.map enc1).flatten
theorem encs_nil : encs [] = [] := rfl
theorem encs_cons (s : Str) (l : List Str) : encs (s :: l) = enc1 s ++ encs l := rfl
theorem encs_append (a b : List Str) : encs (a ++ b) = encs a ++ encs b := by unfold encs; simp
theorem enc1_ne (s : Str) : enc1 s ≠ [] := by unfold enc1; simp
/-- The digits ahead of the first colon, and what stands behind it. -/
def cutC : Str → Option (Str × Str)
  | [] => none
  | c :: s => if c = 58 then some ([], s) else (cutC s).map fun (a, b) => (c :: a, b)
theorem cutC_eq {s a b : Str} (h : cutC s = some (a, b)) : s = a ++ 58 :: b ∧ (58 : UInt8) ∉ a := by
  induction s generalizing a b with
  | nil => cases h
  | cons c s ih =>
    unfold cutC at h
    split at h
    · rename_i hc; injection h with h; injection h with h1 h2; subst h1 h2 hc; simp
    · rename_i hc
      cases hs : cutC s with
      | none => rw [hs] at h; cases h
      | some p =>
        obtain ⟨a', b'⟩ := p
        rw [hs] at h
        simp at h
        obtain ⟨rfl, rfl⟩ := h
        obtain ⟨h1, h2⟩ := ih hs
        refine ⟨by rw [h1]; rfl, ?_⟩
        simp only [List.mem_cons, not_or]
        exact ⟨fun e => hc e.symm, h2⟩
theorem cutC_of {a b : Str} (h : (58 : UInt8) ∉ a) : cutC (a ++ 58 :: b) = some (a, b) := by
  induction a with
  | nil => simp [cutC]
  | cons c a ih =>
    simp only [List.mem_cons, not_or] at h
    simp only [List.cons_append, cutC]
    rw [if_neg (fun e => h.1 e.symm), ih h.2]; rfl
theorem colon_dec (n : Nat) : (58 : UInt8) ∉ decDigits n := fun h => by have := isDg_iff.1 (dec_digits n 58 h); simp at this
/-- One field, and what is left. -/
def stepF (s : Str) : Option (Str × Str) := match cutC s with
  | none => none
  | some (a, b) => match numGet a with
    | none => none
    | some n => if n ≤ b.length then some (b.take n, b.drop n) else none
theorem stepF_eq {s f r : Str} (h : stepF s = some (f, r)) : s = enc1 f ++ r ∧ f.length ≤ 999999999 := by
  unfold stepF at h
  split at h
  · cases h
  · rename_i a b hc
    split at h
    · cases h
    · rename_i n hn
      split at h
      · rename_i hnb
        injection h with h; injection h with h1 h2
        obtain ⟨e, _⟩ := cutC_eq hc
        obtain ⟨h9, hd⟩ := numGet_iff.1 hn
        have hl : f.length = n := by rw [← h1]; simp; omega
        refine ⟨?_, by omega⟩
        unfold enc1
        rw [hl, hd, e, ← h1, ← h2]
        simp
      · cases h
theorem stepF_of (f r : Str) (h : f.length ≤ 999999999) : stepF (enc1 f ++ r) = some (f, r) := by
  unfold stepF enc1
  rw [List.append_assoc, List.cons_append, cutC_of (colon_dec _)]
  simp only
  rw [numGet_iff.2 ⟨h, rfl⟩]
  simp
/-- What a text is the record of. -/
def IsRec (s : Str) (l : List Str) : Prop := encs l = s ∧ l.length ≤ 60 ∧ s.length ≤ 2048
theorem enc1_len (s : Str) : s.length < (enc1 s).length := by unfold enc1; have := dec_ne s.length; simp; have : 0 < (decDigits s.length).length := List.length_pos_iff.2 this; omega
theorem encs_mem {l : List Str} {f : Str} (h : f ∈ l) : f.length < (encs l).length := by
  induction l with
  | nil => cases h
  | cons a l ih =>
    rw [encs_cons, List.length_append]
    rcases List.mem_cons.1 h with rfl | h
    · have := enc1_len f; omega
    · have := ih h; omega
theorem encs_inj : ∀ {l m : List Str}, (∀ f ∈ l, f.length ≤ 999999999) → (∀ f ∈ m, f.length ≤ 999999999) → encs l = encs m → l = m
  | [], [], _, _, _ => rfl
  | [], b :: m, _, _, h => by rw [encs_nil, encs_cons] at h; have h2 := congrArg List.length h; have h3 := enc1_len b; rw [List.length_append, List.length_nil] at h2; omega
  | a :: l, [], _, _, h => by rw [encs_nil, encs_cons] at h; have h2 := congrArg List.length h; have h3 := enc1_len a; rw [List.length_append, List.length_nil] at h2; omega
  | a :: l, b :: m, hl, hm, h => by
    rw [encs_cons, encs_cons] at h
    have h1 := stepF_of a (encs l) (hl a (by simp))
    rw [h, stepF_of b (encs m) (hm b (by simp))] at h1
    injection h1 with h1; injection h1 with h1 h2
    subst h1
    rw [encs_inj (fun f hf => hl f (by simp [hf])) (fun f hf => hm f (by simp [hf])) h2.symm]
theorem IsRec.inj {s : Str} {l m : List Str} (h : IsRec s l) (k : IsRec s m) : l = m := by
  have bd : ∀ {l : List Str}, IsRec s l → ∀ f ∈ l, f.length ≤ 999999999 := fun h f hf => by
    have := encs_mem hf; rw [h.1] at this; have := h.2.2; omega
  exact encs_inj (bd h) (bd k) (h.1.trans k.1.symm)
/-- Where a field cannot be read, there is no record. -/
theorem no_rec {s r : Str} {l : List Str} (hs : encs l ++ r = s) (hl : ∀ f ∈ l, f.length ≤ 999999999) (hr : r ≠ []) (h : stepF r = none) : ∀ m, ¬ IsRec s m := by
  intro m hm
  have bd : ∀ f ∈ m, f.length ≤ 999999999 := fun f hf => by have := encs_mem hf; rw [hm.1] at this; have := hm.2.2; omega
  have key : ∀ (l m : List Str), (∀ f ∈ l, f.length ≤ 999999999) → (∀ f ∈ m, f.length ≤ 999999999) → encs l ++ r = encs m → False := by
    intro l
    induction l with
    | nil =>
      intro m _ hm e
      rw [encs_nil, List.nil_append] at e
      cases m with
      | nil => rw [encs_nil] at e; exact hr e
      | cons a m => rw [e, encs_cons, stepF_of a _ (hm a (by simp))] at h; cases h
    | cons a l ih =>
      intro m hl hm e
      rw [encs_cons, List.append_assoc] at e
      have h1 := stepF_of a (encs l ++ r) (hl a (by simp))
      rw [e] at h1
      cases m with
      | nil => rw [encs_nil] at h1; cases h1
      | cons b m =>
        rw [encs_cons, stepF_of b _ (hm b (by simp))] at h1
        injection h1 with h1; injection h1 with h1 h2
        exact ih m (fun f hf => hl f (by simp [hf])) (fun f hf => hm f (by simp [hf])) h2.symm
  exact key l m hl bd (hs.trans hm.1.symm)
/-- A record has no more fields than it is read to have. -/
theorem rec_more {s r : Str} {l m : List Str} (hs : encs l ++ r = s) (hl : ∀ f ∈ l, f.length ≤ 999999999) (hr : r ≠ []) (h : IsRec s m) : l.length < m.length := by
  have bd : ∀ f ∈ m, f.length ≤ 999999999 := fun f hf => by have := encs_mem hf; rw [h.1] at this; have := h.2.2; omega
  have key : ∀ (l m : List Str), (∀ f ∈ l, f.length ≤ 999999999) → (∀ f ∈ m, f.length ≤ 999999999) → encs l ++ r = encs m → l.length < m.length := by
    intro l
    induction l with
    | nil =>
      intro m _ hm e
      cases m with
      | nil => exact absurd (by simpa [encs_nil] using e) hr
      | cons a m => simp
    | cons a l ih =>
      intro m hl hm e
      rw [encs_cons, List.append_assoc] at e
      have h1 := stepF_of a (encs l ++ r) (hl a (by simp))
      rw [e] at h1
      cases m with
      | nil => rw [encs_nil] at h1; cases h1
      | cons b m =>
        rw [encs_cons, stepF_of b _ (hm b (by simp))] at h1
        injection h1 with h1; injection h1 with h1 h2
        have := ih m (fun f hf => hl f (by simp [hf])) (fun f hf => hm f (by simp [hf])) h2.symm
        simp; omega
  exact key l m hl bd (hs.trans h.1.symm)
end Go.Proofs.YtkmkmndcgemnlaaGreatDoor
