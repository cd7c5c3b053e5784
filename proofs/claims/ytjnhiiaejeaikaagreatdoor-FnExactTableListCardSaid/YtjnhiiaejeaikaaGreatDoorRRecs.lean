/- Numerals and records read back: the plain mathematics. No condition. -/
import Derived.Lib.ItoaMem
import Derived.Lib.AtoiAll
import Derived.Lib.IndexMore
import Derived.Test.YtjnhiiaejeaikaaGreatDoorRStorePlain
import Derived.Lib.Join
import Derived.Lib.Atoi
import Derived.Lib.SplitLaws
set_option linter.unnecessarySimpa false
set_option linter.unusedSimpArgs false
set_option linter.unusedVariables false
namespace Go.Proofs.YtjnhiiaejeaikaaGreatDoor
section
open Go Go.Lib
abbrev Str := List UInt8
def isDg (c : UInt8) : Bool := decide (48 ≤ c.toNat ∧ c.toNat ≤ 57)
theorem isDg_iff {c : UInt8} : isDg c = true ↔ 48 ≤ c.toNat ∧ c.toNat ≤ 57 := by unfold isDg; rw [decide_eq_true_iff]
def valF (acc : Nat) (s : Str) : Nat := s.foldl (fun n c => 10 * n + (c.toNat - 48)) acc
theorem valF_nil (acc : Nat) : valF acc [] = acc := rfl
theorem valF_cons (acc : Nat) (c : UInt8) (s : Str) : valF acc (c :: s) = valF (10 * acc + (c.toNat - 48)) s := by unfold valF; rw [List.foldl_cons]
theorem valF_snoc (acc : Nat) (s : Str) (c : UInt8) : valF acc (s ++ [c]) = 10 * valF acc s + (c.toNat - 48) := by unfold valF; rw [List.foldl_append]; rfl
theorem ofNat_dg {d : Nat} (h : d < 10) : (UInt8.ofNat (48 + d)).toNat = 48 + d := by
 have e : (UInt8.ofNat (48 + d)).toNat = (48 + d) % 256 := rfl
 rw [e, Nat.mod_eq_of_lt (by omega)]
theorem dec_small {n : Nat} (h : n < 10) : decDigits n = [UInt8.ofNat (48 + n)] := by rw [decDigits, dif_pos h]
theorem dec_big {n : Nat} (h : ¬ n < 10) : decDigits n = decDigits (n / 10) ++ [UInt8.ofNat (48 + n % 10)] := by rw [decDigits, dif_neg h]
theorem dec_digits (n : Nat) : ∀ c ∈ decDigits n, isDg c = true := by
 induction n using Nat.strongRecOn with
 | _ n ih =>
   by_cases h : n < 10
   · rw [dec_small h]; intro c hc; rw [List.mem_singleton] at hc; subst hc; rw [isDg_iff, ofNat_dg h]; omega
   rw [dec_big h]; intro c hc
   rcases List.mem_append.1 hc with hc | hc
   · exact ih (n / 10) (by omega) c hc
   rw [List.mem_singleton] at hc; subst hc; rw [isDg_iff, ofNat_dg (Nat.mod_lt _ (by decide))]; omega
theorem val_dec (n : Nat) : valF 0 (decDigits n) = n := by
 induction n using Nat.strongRecOn with
 | _ n ih =>
   by_cases h : n < 10
   · rw [dec_small h, valF_cons, valF_nil, ofNat_dg h]; omega
   rw [dec_big h, valF_snoc, ih (n / 10) (by omega), ofNat_dg (by omega)]; omega
theorem dec_ne (n : Nat) : decDigits n ≠ [] := by
 intro h; have := decDigits_length n; rw [h] at this; have := nDigits_pos n; simp at *; omega
theorem dec_inj {a b : Nat} (h : decDigits a = decDigits b) : a = b := by rw [← val_dec a, ← val_dec b, h]
theorem dec_head {n : Nat} (h : 0 < n) : (decDigits n).head? ≠ some 48 := by
 induction n using Nat.strongRecOn with
 | _ n ih =>
   by_cases h10 : n < 10
   · rw [dec_small h10]
     intro e
     have e2 : UInt8.ofNat (48 + n) = 48 := by simpa only [List.head?_cons, Option.some.injEq] using e
     have := congrArg UInt8.toNat e2
     rw [ofNat_dg h10] at this
     have h48 : (48 : UInt8).toNat = 48 := rfl
     omega
   rw [dec_big h10, List.head?_append]
   have := ih (n / 10) (by omega) (by omega)
   cases hd : (decDigits (n / 10)).head? with
   | none => rw [List.head?_eq_none_iff] at hd; exact absurd hd (dec_ne _)
   | some c => rw [hd] at this; simpa using this
def isNum (s : Str) : Bool := !s.isEmpty && s.all isDg && (decide (s.length = 1) || !decide (s.head? = some 48))
theorem isNum_dec (n : Nat) : isNum (decDigits n) = true := by
 unfold isNum
 simp only [Bool.and_eq_true, Bool.not_eq_true', Bool.or_eq_true, decide_eq_true_eq, List.all_eq_true, decide_eq_false_iff_not]
 refine ⟨⟨by simpa using dec_ne n, dec_digits n⟩, ?_⟩
 rcases Nat.eq_zero_or_pos n with h | h
 · subst h; left; rw [dec_small (by omega)]; rfl
 exact .inr (dec_head h)
theorem valF_pos {s : Str} (hd : s.all isDg = true) : ∀ acc, 0 < acc → 0 < valF acc s := by
 induction s with
 | nil => intro acc h; exact h
 | cons c s ih =>
   intro acc h
   simp at hd
   rw [valF_cons]
   exact ih (by simpa using hd.2) _ (by omega)
theorem dec_val {s : Str} (h : isNum s = true) : decDigits (valF 0 s) = s := by
 unfold isNum at h
 simp only [Bool.and_eq_true, Bool.not_eq_true', Bool.or_eq_true, decide_eq_true_eq, decide_eq_false_iff_not] at h
 obtain ⟨⟨hne, hd⟩, hz⟩ := h
 have key : ∀ n (s : Str), s.length = n → s ≠ [] → s.all isDg = true → (s.length = 1 ∨ ¬ s.head? = some 48) → decDigits (valF 0 s) = s := by
  intro n
  induction n with
  | zero => intro s h0 h1; exact absurd (List.eq_nil_of_length_eq_zero h0) h1
  | succ n ih =>
    intro s hl hne hd hz
    obtain ⟨t, c, rfl⟩ : ∃ t c, s = t ++ [c] := ⟨s.dropLast, s.getLast hne, (List.dropLast_concat_getLast hne).symm⟩
    simp only [List.all_append, List.all_cons, List.all_nil, Bool.and_true, Bool.and_eq_true] at hd
    obtain ⟨hdt, hdc⟩ := hd
    rw [isDg_iff] at hdc
    have hc : UInt8.ofNat (48 + (c.toNat - 48)) = c := by
     rw [show 48 + (c.toNat - 48) = c.toNat by omega]; simp
    rw [valF_snoc]
    by_cases ht : t = []
    · subst ht
      rw [valF_nil, Nat.mul_zero, Nat.zero_add, dec_small (by omega), hc]; rfl
    have hz2 : ¬ t.head? = some 48 := by
     rcases hz with hz | hz
     · simp at hz; exact absurd hz ht
     rw [List.head?_append] at hz
     cases hh : t.head? with
     | none => simp
     | some x => rw [hh] at hz; simpa using hz
    have hv : 0 < valF 0 t := by
     cases t with
     | nil => exact absurd rfl ht
     | cons a u =>
       simp at hz2 hdt
       have ha := isDg_iff.1 hdt.1
       have : a.toNat ≠ 48 := fun e => hz2 (by apply UInt8.toNat_inj.1; simpa using e)
       rw [valF_cons]
       exact valF_pos (by simpa using hdt.2) _ (by omega)
    rw [dec_big (by omega), show (10 * valF 0 t + (c.toNat - 48)) / 10 = valF 0 t by omega, show (10 * valF 0 t + (c.toNat - 48)) % 10 = c.toNat - 48 by omega, hc,
     ih t (by simp at hl; omega) ht hdt (.inr hz2)]
 exact key _ s rfl (by simpa using hne) hd hz
def numGet (s : Str) : Option Nat := if s.length ≤ 9 ∧ isNum s = true then some (valF 0 s) else none
theorem valF_bd (s : Str) (hd : s.all isDg = true) : valF 0 s < 10 ^ s.length := by
 have key : ∀ (s : Str) acc, s.all isDg = true → valF acc s < (acc + 1) * 10 ^ s.length := by
  intro s
  induction s with
  | nil => intro acc _; rw [valF_nil]; simp
  | cons c s ih =>
    intro acc hd
    simp only [List.all_cons, Bool.and_eq_true] at hd
    have hc := isDg_iff.1 hd.1
    have := ih (10 * acc + (c.toNat - 48)) hd.2
    rw [valF_cons, List.length_cons, Nat.pow_succ, Nat.mul_comm (10 ^ s.length) 10, ← Nat.mul_assoc]
    exact Nat.lt_of_lt_of_le this (Nat.mul_le_mul_right _ (by omega))
 have := key s 0 hd
 simpa using this
theorem numGet_iff {s : Str} {n : Nat} : numGet s = some n ↔ n ≤ 999999999 ∧ decDigits n = s := by
 unfold numGet
 constructor
 · intro h
   split at h
   · rename_i hc
     injection h with h
     subst h
     have hd : s.all isDg = true := by have := hc.2; unfold isNum at this; simp only [Bool.and_eq_true] at this; exact this.1.2
     have := valF_bd s hd
     have h9 : 10 ^ s.length ≤ 10 ^ 9 := Nat.pow_le_pow_right (by decide) hc.1
     exact ⟨by omega, dec_val hc.2⟩
   cases h
 rintro ⟨h1, rfl⟩
 have hl : (decDigits n).length ≤ 9 := by
  rw [decDigits_length]
  rcases Nat.lt_or_ge 9 (nDigits n) with h | h
  · exfalso
    have key : ∀ k m, k < nDigits m → 10 ^ k ≤ m ∨ k = 0 := by
     intro k
     induction k with
     | zero => intro _ _; exact .inr rfl
     | succ k ih =>
       intro m hm
       by_cases hs : m < 10
       · rw [nDigits_small hs] at hm; omega
       rw [nDigits_big hs] at hm
       rcases ih (m / 10) (by omega) with h | h
       · left; rw [Nat.pow_succ]; omega
       subst h; left; simp; omega
    rcases key 9 n h with h | h
    · omega
    omega
  exact h
 rw [if_pos ⟨hl, isNum_dec n⟩, val_dec]
def enc1 (s : Str) : Str := decDigits s.length ++ 58 :: s
def encs (l : List Str) : Str := (l.map enc1).flatten
theorem encs_nil : encs [] = [] := rfl
theorem encs_cons (s : Str) (l : List Str) : encs (s :: l) = enc1 s ++ encs l := rfl
theorem encs_append (a b : List Str) : encs (a ++ b) = encs a ++ encs b := by unfold encs; simp
theorem enc1_ne (s : Str) : enc1 s ≠ [] := by unfold enc1; simp
def cutC : Str → Option (Str × Str)
 | [] => none
 | c :: s => if c = 58 then some ([], s) else (cutC s).map fun (a, b) => (c :: a, b)
theorem cutC_eq {s a b : Str} (h : cutC s = some (a, b)) : s = a ++ 58 :: b ∧ (58 : UInt8) ∉ a := by
 induction s generalizing a b with
 | nil => cases h
 | cons c s ih =>
   unfold cutC at h
   split at h
   · rename_i hc; injection h with h; injection h with h1 h2; subst h1 h2 hc; simp
   rename_i hc
   cases hs : cutC s with
   | none => rw [hs] at h; cases h
   | some p =>
     obtain ⟨a', b'⟩ := p
     rw [hs] at h
     simp at h
     obtain ⟨rfl, rfl⟩ := h
     obtain ⟨h1, h2⟩ := ih hs
     refine ⟨by rw [h1]; rfl, ?_⟩
     simp only [List.mem_cons, not_or]
     exact ⟨fun e => hc e.symm, h2⟩
theorem cutC_of {a b : Str} (h : (58 : UInt8) ∉ a) : cutC (a ++ 58 :: b) = some (a, b) := by
 induction a with
 | nil => simp [cutC]
 | cons c a ih =>
   simp only [List.mem_cons, not_or] at h
   simp only [List.cons_append, cutC]
   rw [if_neg (fun e => h.1 e.symm), ih h.2]; rfl
theorem colon_dec (n : Nat) : (58 : UInt8) ∉ decDigits n := fun h => by have := isDg_iff.1 (dec_digits n 58 h); simp at this
def stepF (s : Str) : Option (Str × Str) := match cutC s with
 | none => none
 | some (a, b) => match numGet a with
   | none => none
   | some n => if n ≤ b.length then some (b.take n, b.drop n) else none
theorem stepF_eq {s f r : Str} (h : stepF s = some (f, r)) : s = enc1 f ++ r ∧ f.length ≤ 999999999 := by
 unfold stepF at h
 split at h
 · cases h
 rename_i a b hc
 split at h
 · cases h
 rename_i n hn
 split at h
 · rename_i hnb
   injection h with h; injection h with h1 h2
   obtain ⟨e, _⟩ := cutC_eq hc
   obtain ⟨h9, hd⟩ := numGet_iff.1 hn
   have hl : f.length = n := by rw [← h1]; simp; omega
   refine ⟨?_, by omega⟩
   unfold enc1
   rw [hl, hd, e, ← h1, ← h2]
   simp
 cases h
theorem stepF_of (f r : Str) (h : f.length ≤ 999999999) : stepF (enc1 f ++ r) = some (f, r) := by
 unfold stepF enc1
 rw [List.append_assoc, List.cons_append, cutC_of (colon_dec _)]
 simp only
 rw [numGet_iff.2 ⟨h, rfl⟩]
 simp
def IsRec (s : Str) (l : List Str) : Prop := encs l = s ∧ l.length ≤ 60 ∧ s.length ≤ 2048
theorem enc1_len (s : Str) : s.length < (enc1 s).length := by unfold enc1; have := dec_ne s.length; simp; have : 0 < (decDigits s.length).length := List.length_pos_iff.2 this; omega
theorem encs_mem {l : List Str} {f : Str} (h : f ∈ l) : f.length < (encs l).length := by
 induction l with
 | nil => cases h
 | cons a l ih =>
   rw [encs_cons, List.length_append]
   rcases List.mem_cons.1 h with rfl | h
   · have := enc1_len f; omega
   have := ih h; omega
theorem encs_inj : ∀ {l m : List Str}, (∀ f ∈ l, f.length ≤ 999999999) → (∀ f ∈ m, f.length ≤ 999999999) → encs l = encs m → l = m
 | [], [], _, _, _ => rfl
 | [], b :: m, _, _, h => by rw [encs_nil, encs_cons] at h; have h2 := congrArg List.length h; have h3 := enc1_len b; rw [List.length_append, List.length_nil] at h2; omega
 | a :: l, [], _, _, h => by rw [encs_nil, encs_cons] at h; have h2 := congrArg List.length h; have h3 := enc1_len a; rw [List.length_append, List.length_nil] at h2; omega
 | a :: l, b :: m, hl, hm, h => by
   rw [encs_cons, encs_cons] at h
   have h1 := stepF_of a (encs l) (hl a (by simp))
   rw [h, stepF_of b (encs m) (hm b (by simp))] at h1
   injection h1 with h1; injection h1 with h1 h2
   subst h1
   rw [encs_inj (fun f hf => hl f (by simp [hf])) (fun f hf => hm f (by simp [hf])) h2.symm]
theorem IsRec.inj {s : Str} {l m : List Str} (h : IsRec s l) (k : IsRec s m) : l = m := by
 have bd : ∀ {l : List Str}, IsRec s l → ∀ f ∈ l, f.length ≤ 999999999 := fun h f hf => by
  have := encs_mem hf; rw [h.1] at this; have := h.2.2; omega
 exact encs_inj (bd h) (bd k) (h.1.trans k.1.symm)
theorem no_rec {s r : Str} {l : List Str} (hs : encs l ++ r = s) (hl : ∀ f ∈ l, f.length ≤ 999999999) (hr : r ≠ []) (h : stepF r = none) : ∀ m, ¬ IsRec s m := by
 intro m hm
 have bd : ∀ f ∈ m, f.length ≤ 999999999 := fun f hf => by have := encs_mem hf; rw [hm.1] at this; have := hm.2.2; omega
 have key : ∀ (l m : List Str), (∀ f ∈ l, f.length ≤ 999999999) → (∀ f ∈ m, f.length ≤ 999999999) → encs l ++ r = encs m → False := by
  intro l
  induction l with
  | nil =>
    intro m _ hm e
    rw [encs_nil, List.nil_append] at e
    cases m with
    | nil => rw [encs_nil] at e; exact hr e
    | cons a m => rw [e, encs_cons, stepF_of a _ (hm a (by simp))] at h; cases h
  | cons a l ih =>
    intro m hl hm e
    rw [encs_cons, List.append_assoc] at e
    have h1 := stepF_of a (encs l ++ r) (hl a (by simp))
    rw [e] at h1
    cases m with
    | nil => rw [encs_nil] at h1; cases h1
    | cons b m =>
      rw [encs_cons, stepF_of b _ (hm b (by simp))] at h1
      injection h1 with h1; injection h1 with h1 h2
      exact ih m (fun f hf => hl f (by simp [hf])) (fun f hf => hm f (by simp [hf])) h2.symm
 exact key l m hl bd (hs.trans hm.1.symm)
theorem rec_more {s r : Str} {l m : List Str} (hs : encs l ++ r = s) (hl : ∀ f ∈ l, f.length ≤ 999999999) (hr : r ≠ []) (h : IsRec s m) : l.length < m.length := by
 have bd : ∀ f ∈ m, f.length ≤ 999999999 := fun f hf => by have := encs_mem hf; rw [h.1] at this; have := h.2.2; omega
 have key : ∀ (l m : List Str), (∀ f ∈ l, f.length ≤ 999999999) → (∀ f ∈ m, f.length ≤ 999999999) → encs l ++ r = encs m → l.length < m.length := by
  intro l
  induction l with
  | nil =>
    intro m _ hm e
    cases m with
    | nil => exact absurd (by simpa [encs_nil] using e) hr
    | cons a m => simp
  | cons a l ih =>
    intro m hl hm e
    rw [encs_cons, List.append_assoc] at e
    have h1 := stepF_of a (encs l ++ r) (hl a (by simp))
    rw [e] at h1
    cases m with
    | nil => rw [encs_nil] at h1; cases h1
    | cons b m =>
      rw [encs_cons, stepF_of b _ (hm b (by simp))] at h1
      injection h1 with h1; injection h1 with h1 h2
      have := ih m (fun f hf => hl f (by simp [hf])) (fun f hf => hm f (by simp [hf])) h2.symm
      simp; omega
 exact key l m hl bd (hs.trans h.1.symm)
end
section
open Go Go.Lib
def strB (l : Str) : ByteArray := ⟨l.toArray⟩
def strV (l : Str) : Value := .string (strB l)
theorem strB_size (l : Str) : (strB l).size = l.length := rfl
theorem strB_list (l : Str) : (strB l).toList = l := ByteArray.toList_mk l
theorem strB_app (a b : Str) : strB a ++ strB b = strB (a ++ b) := by
 apply ByteArray.ext
 simp [strB]
theorem strB_data (s : ByteArray) : strB s.data.toList = s := by
 apply ByteArray.ext
 simp [strB]
def sumStep (r : Nat × Nat) (c : UInt8) : Nat × Nat := ((r.1 + c.toNat + 1) % 9973, ((r.1 + c.toNat + 1) % 9973 + r.2) % 9973)
def sum2 (l : Str) : Nat × Nat := l.foldl sumStep (1, 0)
def sumL (l : Str) : Nat := (sum2 l).1 * 9973 + (sum2 l).2
theorem sum2_snoc (l : Str) (c : UInt8) : sum2 (l ++ [c]) = sumStep (sum2 l) c := by unfold sum2; rw [List.foldl_append]; rfl
theorem sum2_take (l : Str) (i : Nat) (c : UInt8) (h : l[i]? = some c) : sum2 (l.take (i + 1)) = sumStep (sum2 (l.take i)) c := by
 rw [List.take_add_one, h]
 exact sum2_snoc _ c
def numS (n : Int) : Str := if 0 ≤ n ∧ n ≤ 999999999 then decDigits n.toNat else []
theorem numS_yes {n : Int} (h : 0 ≤ n ∧ n ≤ 999999999) : numS n = decDigits n.toNat := by unfold numS; rw [if_pos h]
theorem numS_no {n : Int} (h : ¬ (0 ≤ n ∧ n ≤ 999999999)) : numS n = [] := by unfold numS; rw [if_neg h]
theorem dec_len_le (k : Nat) : ∀ n, n < 10 ^ (k + 1) → (decDigits n).length ≤ k + 1 := by
 induction k with
 | zero => intro n h; rw [dec_small (by simpa using h)]; simp
 | succ k ih =>
   intro n h
   by_cases h10 : n < 10
   · rw [dec_small h10]; simp
   rw [dec_big h10, List.length_append]
   have := ih (n / 10) (by rw [Nat.pow_succ] at h; omega)
   simp
   omega
theorem dec_len9 {n : Nat} (h : n ≤ 999999999) : (decDigits n).length ≤ 9 := dec_len_le 8 n (by omega)
theorem dec_len20 {n : Nat} (h : n < 100000000000000000000) : (decDigits n).length ≤ 20 := dec_len_le 19 n (by omega)
theorem numS_len (n : Int) : (numS n).length ≤ 9 := by
 unfold numS
 split
 · exact dec_len9 (by omega)
 simp
def fieldsF (l : List Str) : Str × Bool := if l.length ≤ 60 ∧ (encs l).length ≤ 2048 then (encs l, true) else ([], false)
theorem fieldsF_yes {l : List Str} (h : l.length ≤ 60) (k : (encs l).length ≤ 2048) : fieldsF l = (encs l, true) := by unfold fieldsF; rw [if_pos ⟨h, k⟩]
theorem fieldsF_many {l : List Str} (h : ¬ l.length ≤ 60) : fieldsF l = ([], false) := by unfold fieldsF; rw [if_neg (fun c => h c.1)]
theorem encs_take_le (l : List Str) (i : Nat) : (encs (l.take i)).length ≤ (encs l).length := by
 have := congrArg encs (List.take_append_drop i l)
 rw [encs_append] at this
 rw [← this, List.length_append]
 omega
theorem fieldsF_long {l : List Str} {i : Nat} (h : ¬ (encs (l.take i)).length ≤ 2048) : fieldsF l = ([], false) := by
 unfold fieldsF
 rw [if_neg (fun c => h (Nat.le_trans (encs_take_le l i) c.2))]
theorem encs_take {l : List Str} {i : Nat} {f : Str} (h : l[i]? = some f) : encs (l.take (i + 1)) = encs (l.take i) ++ enc1 f := by
 rw [List.take_add_one, h, encs_append]
 simp [encs]
theorem enc1_len_le (f : Str) (h : f.length ≤ 1099511627776) : (enc1 f).length ≤ f.length + 21 := by
 unfold enc1
 have := dec_len20 (n := f.length) (by omega)
 simp
 omega
def ptrS (a b s m l : Int) : Str :=
 if ptrOkB a b s m l = true then (if ptrHole a b s m l = true then [45] else join [decDigits a.toNat, decDigits b.toNat, decDigits s.toNat, decDigits m.toNat, decDigits l.toNat] [46]) else []
theorem ptrS_no {a b s m l : Int} (h : ptrOkB a b s m l = false) : ptrS a b s m l = [] := by unfold ptrS; rw [h]; rfl
theorem ptrS_hole {a b s m l : Int} (h : ptrOkB a b s m l = true) (k : ptrHole a b s m l = true) : ptrS a b s m l = [45] := by unfold ptrS; rw [h, k]; rfl
theorem ptrS_yes {a b s m l : Int} (h : ptrOkB a b s m l = true) (k : ptrHole a b s m l = false) :
 ptrS a b s m l = join [decDigits a.toNat, decDigits b.toNat, decDigits s.toNat, decDigits m.toNat, decDigits l.toNat] [46] := by unfold ptrS; rw [h, k]; rfl
theorem inB_iff {n lo hi : Int} : inB n lo hi = true ↔ lo ≤ n ∧ n ≤ hi := by unfold inB; rw [decide_eq_true_iff]
theorem ptr_bounds {a b s m l : Int} (h : ptrOkB a b s m l = true) (k : ptrHole a b s m l = false) : (8 ≤ a ∧ a ≤ 63) ∧ (1 ≤ b ∧ b ≤ 900) ∧ (1 ≤ s ∧ s ≤ 128) ∧ (0 ≤ m ∧ m ≤ 99460728) ∧ (0 ≤ l ∧ l ≤ 2) := by
 unfold ptrOkB at h
 rw [k, Bool.false_or] at h
 simp only [Bool.and_eq_true, inB_iff] at h
 exact h
theorem join5 (x1 x2 x3 x4 x5 sep : Str) : join [x1, x2, x3, x4, x5] sep = x1 ++ sep ++ x2 ++ sep ++ x3 ++ sep ++ x4 ++ sep ++ x5 := by
 rw [join_cons]
 simp [joinTail]
theorem ptrS_len (a b s m l : Int) : (ptrS a b s m l).length ≤ 60 := by
 unfold ptrS
 split
 · split
   · simp
   rename_i h k
   have hb := ptr_bounds h (by simpa using k)
   have h1 := dec_len9 (n := a.toNat) (by omega)
   have h2 := dec_len9 (n := b.toNat) (by omega)
   have h3 := dec_len9 (n := s.toNat) (by omega)
   have h4 := dec_len9 (n := m.toNat) (by omega)
   have h5 := dec_len9 (n := l.toNat) (by omega)
   rw [join5]
   simp
   omega
 simp
def treeS (a b s m l d n : Int) : List Str := [ptrS a b s m l, numS d, numS n]
end
section
open Go Go.Lib
theorem digitVal_dg {c : UInt8} (h : isDg c = true) : digitVal c = some (c.toNat - 48) := by unfold digitVal; rw [if_pos (isDg_iff.1 h)]
theorem decFrom_val : ∀ (s : Str) (acc : Nat), s.all isDg = true → decFrom acc s = some (valF acc s)
 | [], acc, _ => rfl
 | c :: s, acc, h => by
   rw [List.all_cons, Bool.and_eq_true] at h
   unfold decFrom
   rw [digitVal_dg h.1, valF_cons]
   simp only
   rw [Nat.mul_comm acc 10]
   exact decFrom_val s _ h.2
theorem dec_all (n : Nat) : (decDigits n).all isDg = true := List.all_eq_true.2 (dec_digits n)
theorem atoi_dec (n : Nat) : Lib.atoi (decDigits n) = some (n : Int) := by
 have hall := dec_all n
 have hv := val_dec n
 have hne := dec_ne n
 cases h : decDigits n with
 | nil => exact absurd h hne
 | cons b r =>
   rw [h] at hall hv
   have hb : isDg b = true := by rw [List.all_cons, Bool.and_eq_true] at hall; exact hall.1
   have hbd := isDg_iff.1 hb
   have h45 : (b == 45) = false := by
    cases hc : b == 45 with
    | false => rfl
    | true => have e : b = 45 := by simpa using hc
              subst e; exact absurd hbd (by decide)
   have h43 : (b == 43) = false := by
    cases hc : b == 43 with
    | false => rfl
    | true => have e : b = 43 := by simpa using hc
              subst e; exact absurd hbd (by decide)
   simp only [Lib.atoi, h45, h43, Bool.false_eq_true, if_false]
   unfold decNat
   rw [if_neg (by simp), decFrom_val _ _ hall, hv]
   rfl
theorem numGet_of_atoi {s : Str} {v : Int} (h : Lib.atoi s = some v) (k : numS v = s) : ∃ n : Nat, v = (n : Int) ∧ numGet s = some n := by
 have hne : s ≠ [] := by rintro rfl; cases h
 by_cases hb : 0 ≤ v ∧ v ≤ 999999999
 · rw [numS_yes hb] at k
   exact ⟨v.toNat, by omega, numGet_iff.2 ⟨by omega, k⟩⟩
 rw [numS_no hb] at k
 exact absurd k.symm hne
theorem numGet_not {s : Str} {v : Int} (h : Lib.atoi s = some v) (k : numS v ≠ s) : numGet s = none := by
 cases hg : numGet s with
 | none => rfl
 | some n =>
   exfalso
   obtain ⟨hn, hd⟩ := numGet_iff.1 hg
   rw [← hd, atoi_dec] at h
   obtain rfl := Option.some.inj h
   apply k
   rw [numS_yes (by omega)]
   simpa using hd
theorem numGet_none {s : Str} (h : Lib.atoi s = none) : numGet s = none := by
 cases hg : numGet s with
 | none => rfl
 | some n =>
   obtain ⟨_, hd⟩ := numGet_iff.1 hg
   rw [← hd, atoi_dec] at h
   cases h
theorem numGet_long {s : Str} (h : ¬ s.length ≤ 9) : numGet s = none := by unfold numGet; rw [if_neg (fun c => h c.1)]
theorem numGet_numS {n : Int} (h : 0 ≤ n ∧ n ≤ 999999999) : numGet (numS n) = some n.toNat := by rw [numS_yes h]; exact numGet_iff.2 ⟨by omega, rfl⟩
theorem numGet_le {s : Str} {n : Nat} (h : numGet s = some n) : n ≤ 999999999 := (numGet_iff.1 h).1
def cutG (d : UInt8) : Str → Option (Str × Str)
 | [] => none
 | c :: s => if c = d then some ([], s) else (cutG d s).map fun (a, b) => (c :: a, b)
theorem cutG_none {d : UInt8} : ∀ {s : Str}, cutG d s = none → d ∉ s ∧ index s [d] = -1
 | [], _ => ⟨by simp, rfl⟩
 | c :: s, h => by
   unfold cutG at h
   split at h
   · cases h
   rename_i hc
   cases hs : cutG d s with
   | some p => rw [hs] at h; cases h
   | none =>
     obtain ⟨h1, h2⟩ := cutG_none hs
     refine ⟨by simp only [List.mem_cons, not_or]; exact ⟨fun e => hc e.symm, h1⟩, ?_⟩
     have hp : ([d].isPrefixOf (c :: s)) = false := by simp [List.isPrefixOf]; exact fun e => hc e.symm
     unfold index
     rw [hp, h2]
     rfl
theorem cutG_some {d : UInt8} : ∀ {s a b : Str}, cutG d s = some (a, b) → s = a ++ d :: b ∧ d ∉ a ∧ index s [d] = (a.length : Int)
 | [], _, _, h => by cases h
 | c :: s, a, b, h => by
   unfold cutG at h
   split at h
   · rename_i hc
     injection h with h; injection h with h1 h2
     subst h1 h2 hc
     refine ⟨rfl, by simp, ?_⟩
     have hp : ([c].isPrefixOf (c :: s)) = true := by simp [List.isPrefixOf]
     unfold index
     rw [hp]; rfl
   rename_i hc
   cases hs : cutG d s with
   | none => rw [hs] at h; cases h
   | some p =>
     obtain ⟨a', b'⟩ := p
     rw [hs] at h
     simp only [Option.map_some, Option.some.injEq, Prod.mk.injEq] at h
     obtain ⟨rfl, rfl⟩ := h
     obtain ⟨h1, h2, h3⟩ := cutG_some hs
     refine ⟨by rw [h1]; rfl, by simp only [List.mem_cons, not_or]; exact ⟨fun e => hc e.symm, h2⟩, ?_⟩
     have hp : ([d].isPrefixOf (c :: s)) = false := by simp [List.isPrefixOf]; exact fun e => hc e.symm
     unfold index
     rw [hp, h3]
     have h4 : ((a'.length : Int) == -1) = false := by simp <;> omega
     rw [h4]
     simp
theorem cutC_G : ∀ s, cutC s = cutG 58 s
 | [] => rfl
 | c :: s => by unfold cutC cutG; rw [cutC_G s]
theorem cut_some {s a b : Str} (h : cutC s = some (a, b)) : Lib.cut s [58] = (a, b, true) := by
 rw [cutC_G] at h
 obtain ⟨h1, _, h3⟩ := cutG_some h
 unfold Lib.cut
 rw [h3, if_pos (by omega)]
 rw [h1]
 simp
theorem cut_none {s : Str} (h : cutC s = none) : Lib.cut s [58] = (s, [], false) := by
 rw [cutC_G] at h
 unfold Lib.cut
 rw [(cutG_none h).2, if_neg (by decide)]
theorem stepF_none {s : Str} (h : cutC s = none) : stepF s = none := by unfold stepF; rw [h]
theorem stepF_bad {s a b : Str} (h : cutC s = some (a, b)) (k : numGet a = none) : stepF s = none := by unfold stepF; rw [h]; simp only; rw [k]
theorem stepF_short {s a b : Str} {n : Nat} (h : cutC s = some (a, b)) (k : numGet a = some n) (hn : ¬ n ≤ b.length) : stepF s = none := by unfold stepF; rw [h]; simp only; rw [k]; simp only; rw [if_neg hn]
theorem stepF_ok {s a b : Str} {n : Nat} (h : cutC s = some (a, b)) (k : numGet a = some n) (hn : n ≤ b.length) : stepF s = some (b.take n, b.drop n) := by unfold stepF; rw [h]; simp only; rw [k]; simp only; rw [if_pos hn]
def L1 (s : Str) (n k : Nat) : Prop :=
 ∃ k0, k0 ≤ 9 ∧ k0 ≤ s.length ∧ (s.take k0).all isDg = true ∧ (k0 = s.length ∨ k0 = 9 ∨ ∃ c, s[k0]? = some c ∧ isDg c = false) ∧
  ((1 < k0 ∧ s.head? = some 48 ∧ n = 0 ∧ k = 1) ∨ (¬ (1 < k0 ∧ s.head? = some 48) ∧ n = valF 0 (s.take k0) ∧ k = k0))
theorem isNum_take {s : Str} {k : Nat} (hk : k ≤ s.length) (h1 : 1 ≤ k) (hd : (s.take k).all isDg = true) (hz : ¬ (1 < k ∧ s.head? = some 48)) : isNum (s.take k) = true := by
 unfold isNum
 have hne : (s.take k).isEmpty = false := by
  cases s with
  | nil => simp at hk; omega
  | cons a s => cases k with
    | zero => omega
    | succ k => rfl
 have hh : (s.take k).head? = s.head? := by
  cases s with
  | nil => simp
  | cons a s => cases k with
    | zero => omega
    | succ k => rfl
 rw [hne, hd, hh, List.length_take, Nat.min_eq_left hk]
 simp only [Bool.not_false, Bool.true_and, Bool.or_eq_true, decide_eq_true_eq, Bool.not_eq_true', decide_eq_false_iff_not]
 by_cases h : k = 1
 · exact .inl h
 exact .inr (fun e => hz ⟨by omega, e⟩)
theorem L1_num {s : Str} {n k : Nat} (h : L1 s n k) (h0 : k ≠ 0) (hl : k = s.length) : numGet s = some n := by
 obtain ⟨k0, h9, hk, hd, _, hr⟩ := h
 rcases hr with ⟨h1, hh, _, rfl⟩ | ⟨hz, rfl, rfl⟩
 · omega
 have := isNum_take hk (by omega) hd hz
 rw [List.take_of_length_le (by omega)] at this ⊢
 unfold numGet
 rw [if_pos ⟨by omega, this⟩]
theorem L1_not {s : Str} {n k : Nat} (h : L1 s n k) (hbad : k = 0 ∨ k ≠ s.length) : numGet s = none := by
 cases hg : numGet s with
 | none => rfl
 | some m =>
   exfalso
   obtain ⟨hm, hd⟩ := numGet_iff.1 hg
   have hall := dec_all m
   have hl9 := dec_len9 hm
   have hne := dec_ne m
   rw [hd] at hall hl9 hne
   have hpos : 0 < s.length := List.length_pos_iff.2 hne
   obtain ⟨k0, h9, hk, _, hst, hr⟩ := h
   have hk0 : k0 = s.length := by
    rcases hst with h | h | ⟨c, hc, hcd⟩
    · exact h
    · omega
    have := List.all_eq_true.1 hall c (List.mem_of_getElem? hc)
    rw [this] at hcd; cases hcd
   rcases hr with ⟨h1, hh, _, _⟩ | ⟨_, _, rfl⟩
   · rcases Nat.eq_zero_or_pos m with h0 | h0
     · subst h0
       rw [dec_small (by omega)] at hd
       rw [← hd] at hk0; simp at hk0; omega
     have := dec_head h0
     rw [hd] at this; exact this hh
   omega
theorem dg58 : isDg 58 = false := by decide
theorem take_get {s : Str} {k : Nat} {c : UInt8} (h : s[k]? = some c) : s = s.take k ++ c :: s.drop (k + 1) := by
 obtain ⟨hk, hc⟩ := List.getElem?_eq_some_iff.1 h
 have := List.take_append_drop k s
 rw [List.drop_eq_getElem_cons hk, hc] at this
 exact this.symm
theorem L1_step {s : Str} {n k : Nat} (h : L1 s n k) (h0 : k ≠ 0) (hc : s[k]? = some 58) (hn : n ≤ s.length - k - 1) :
 stepF s = some ((s.drop (k + 1)).take n, s.drop (k + 1 + n)) := by
 obtain ⟨k0, h9, hk, hd, _, hr⟩ := h
 rcases hr with ⟨h1, hh, _, rfl⟩ | ⟨hz, rfl, rfl⟩
 · exfalso
   have hlt : 1 < s.length := by omega
   have hx : s[1] ∈ s.take k0 := by rw [List.mem_take_iff_getElem]; exact ⟨1, by omega, rfl⟩
   have h2 := List.all_eq_true.1 hd _ hx
   rw [List.getElem?_eq_getElem hlt] at hc
   rw [Option.some.inj hc, dg58] at h2
   cases h2
 have hnum := isNum_take hk (by omega) hd hz
 have hg : numGet (s.take k) = some (valF 0 (s.take k)) := by unfold numGet; rw [if_pos ⟨by rw [List.length_take]; omega, hnum⟩]
 have hno : (58 : UInt8) ∉ s.take k := fun hm => by have := List.all_eq_true.1 hd _ hm; rw [dg58] at this; cases this
 have hcut : cutC s = some (s.take k, s.drop (k + 1)) := by
  have := cutC_of (b := s.drop (k + 1)) hno
  rw [← take_get hc] at this
  exact this
 rw [stepF_ok hcut hg (by rw [List.length_drop]; omega), List.drop_drop]
theorem L1_bad {s : Str} {n k : Nat} (h : L1 s n k) (hbad : ¬ (k ≠ 0 ∧ s[k]? = some 58 ∧ n ≤ s.length - k - 1)) : stepF s = none := by
 cases hs : stepF s with
 | none => rfl
 | some p =>
   exfalso
   obtain ⟨f, r⟩ := p
   obtain ⟨e, hf⟩ := stepF_eq hs
   unfold enc1 at e
   obtain ⟨d, hd⟩ : ∃ d, d = decDigits f.length := ⟨_, rfl⟩
   have hdl : d.length ≤ 9 := by rw [hd]; exact dec_len9 hf
   have hda : d.all isDg = true := by rw [hd]; exact dec_all _
   have hdn : d ≠ [] := by rw [hd]; exact dec_ne _
   have hpos : 0 < d.length := List.length_pos_iff.2 hdn
   have e2 : s = d ++ 58 :: (f ++ r) := by rw [e, hd]; simp
   have hsl : s.length = d.length + 1 + f.length + r.length := by rw [e2]; simp; omega
   have hg58 : s[d.length]? = some 58 := by rw [e2]; simp
   obtain ⟨k0, h9, hk, hall, hst, hr⟩ := h
   have hk0 : k0 = d.length := by
    rcases Nat.lt_trichotomy k0 d.length with hlt | heq | hgt
    · exfalso
      rcases hst with h | h | ⟨c, hc, hcd⟩
      · omega
      · omega
      rw [e2, List.getElem?_append_left hlt] at hc
      have := List.all_eq_true.1 hda c (List.mem_of_getElem? hc)
      rw [this] at hcd; cases hcd
    · exact heq
    exfalso
    have hlt : d.length < s.length := by omega
    have hx : s[d.length] ∈ s.take k0 := by rw [List.mem_take_iff_getElem]; exact ⟨d.length, by omega, rfl⟩
    have h2 := List.all_eq_true.1 hall _ hx
    rw [List.getElem?_eq_getElem hlt] at hg58
    rw [Option.some.inj hg58, dg58] at h2
    cases h2
   have htk : s.take k0 = d := by rw [hk0, e2]; simp
   have hhead : s.head? = d.head? := by
    rw [e2]
    cases d with
    | nil => exact absurd rfl hdn
    | cons a d => rfl
   rcases hr with ⟨h1, hh, _, _⟩ | ⟨_, rfl, rfl⟩
   · rw [hhead, hd] at hh
     rcases Nat.eq_zero_or_pos f.length with h0 | h0
     · rw [h0, dec_small (by omega)] at hd
       rw [hd] at hk0; simp at hk0; omega
     exact dec_head h0 hh
   apply hbad
   have hv : valF 0 (s.take k) = f.length := by rw [htk, hd]; exact val_dec _
   refine ⟨by omega, by rw [hk0]; exact hg58, by rw [hv]; omega⟩
def splitD : Str → List Str
 | [] => [[]]
 | c :: s => if c = 46 then [] :: splitD s else match splitD s with
   | [] => [[c]]
   | x :: xs => (c :: x) :: xs
theorem splitD_ne : ∀ s, splitD s ≠ []
 | [] => by simp [splitD]
 | c :: s => by
   unfold splitD
   split
   · simp
   split <;> simp
theorem splitD_free {s : Str} (h : (46 : UInt8) ∉ s) : splitD s = [s] := by
 induction s with
 | nil => rfl
 | cons c s ih =>
   simp only [List.mem_cons, not_or] at h
   unfold splitD
   rw [if_neg (fun e => h.1 e.symm), ih h.2]
theorem splitD_cut {a b : Str} (h : (46 : UInt8) ∉ a) : splitD (a ++ 46 :: b) = a :: splitD b := by
 induction a with
 | nil => simp [splitD]
 | cons c a ih =>
   simp only [List.mem_cons, not_or] at h
   simp only [List.cons_append]
   rw [splitD.eq_def]
   simp only
   rw [if_neg (fun e => h.1 e.symm), ih h.2]
theorem join_splitD : ∀ s, join (splitD s) [46] = s := by
 intro s
 induction s with
 | nil => rfl
 | cons c s ih =>
   unfold splitD
   split
   · rename_i hc
     subst hc
     cases hs : splitD s with
     | nil => exact absurd hs (splitD_ne s)
     | cons x xs =>
       rw [hs] at ih
       rw [join_cons, joinTail, List.map_cons, List.flatten_cons]
       rw [join_cons, joinTail] at ih
       simp [← ih]
   cases hs : splitD s with
   | nil => exact absurd hs (splitD_ne s)
   | cons x xs =>
     rw [hs] at ih
     simp only
     rw [join_cons] at ih ⊢
     rw [← ih]; rfl
theorem splitK_D : ∀ (k : Nat) (s : Str), s.count 46 = k → splitK [46] 0 k s = splitD s := by
 intro k
 induction k with
 | zero =>
   intro s hs
   rw [splitD_free (fun hm => by rw [List.count_eq_zero] at hs; exact hs hm)]
   rfl
 | succ k ih =>
   intro s hs
   cases hc : cutG 46 s with
   | none =>
     have h1 := (cutG_none hc).1
     rw [List.count_eq_zero.2 h1] at hs
     omega
   | some p =>
     obtain ⟨a, b⟩ := p
     obtain ⟨e, h1, h2⟩ := cutG_some hc
     unfold splitK
     have h3 : ((a.length : Int) == -1) = false := by simp <;> omega
     rw [h2, h3]
     simp only [Bool.false_eq_true, if_false, Int.toNat_natCast, Nat.add_zero, List.length_singleton]
     have ht : s.take a.length = a := by rw [e]; simp
     have hdr : s.drop (a.length + 1) = b := by rw [e]; simp
     have hcb : b.count 46 = k := by
      rw [e, List.count_append, List.count_cons, List.count_eq_zero.2 h1] at hs
      simp at hs; omega
     rw [ht, hdr, ih b hcb, e, splitD_cut h1]
theorem dot_dec (n : Nat) : (46 : UInt8) ∉ decDigits n := fun h => by have := isDg_iff.1 (dec_digits n 46 h); simp at this
theorem splitD_join5 {x1 x2 x3 x4 x5 : Str} (h1 : (46 : UInt8) ∉ x1) (h2 : (46 : UInt8) ∉ x2) (h3 : (46 : UInt8) ∉ x3) (h4 : (46 : UInt8) ∉ x4) (h5 : (46 : UInt8) ∉ x5) :
 splitD (join [x1, x2, x3, x4, x5] [46]) = [x1, x2, x3, x4, x5] := by
 rw [join5]
 have e : x1 ++ [46] ++ x2 ++ [46] ++ x3 ++ [46] ++ x4 ++ [46] ++ x5 = x1 ++ 46 :: (x2 ++ 46 :: (x3 ++ 46 :: (x4 ++ 46 :: x5))) := by simp
 rw [e, splitD_cut h1, splitD_cut h2, splitD_cut h3, splitD_cut h4, splitD_free h5]
end
end Go.Proofs.YtjnhiiaejeaikaaGreatDoor
