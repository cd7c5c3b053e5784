/- Roots' texts read back: the plain mathematics. No condition. -/
import Derived.Test.YtcfgbeajdkbbcaaGreatDoorPtrPlain
import Derived.Test.YtcfgbeajdkbbcaaGreatDoorRootPut
namespace Go.Proofs.YtcfgbeajdkbbcaaGreatDoor
set_option linter.unusedVariables false
set_option linter.unusedSimpArgs false
set_option linter.unnecessarySimpa false
open Go Go.Lib

/-- What is read off a text: the root that it is the text of, or none. -/
def rootIs (s : Str) (t a b c d l dd n : Int) (ok : Bool) : Prop :=
  (ok = true ∧ rootOkB t a b c d l dd n = true ∧ rootS t a b c d l dd n = s) ∨
  (ok = false ∧ (t = 0 ∧ a = 0 ∧ b = 0 ∧ c = 0 ∧ d = 0 ∧ l = 0 ∧ dd = 0 ∧ n = 0) ∧ ∀ t a b c d l dd n : Int, rootOkB t a b c d l dd n = true → rootS t a b c d l dd n ≠ s)
theorem rootOk_parts {t a b c d l dd n : Int} (h : rootOkB t a b c d l dd n = true) : (1 ≤ t ∧ t ≤ 900) ∧ ptrOkB a b c d l = true ∧ (0 ≤ dd ∧ dd ≤ 2) ∧ (1 ≤ n ∧ n ≤ 16) := by
  unfold rootOkB at h
  simp only [Bool.and_eq_true, inB_iff] at h
  exact h
/-- The six fields of a root's text. -/
def rootL (t a b c d l dd n : Int) : List Str := rootF t a b c d l dd n ++ [numS (sumL (fieldsF (rootF t a b c d l dd n)).1 : Nat)]
theorem encs_small : ∀ (l : List Str), (∀ f ∈ l, f.length ≤ 60) → (encs l).length ≤ 81 * l.length
  | [], _ => by simp [encs]
  | x :: l, h => by
    rw [encs_cons, List.length_append, List.length_cons]
    have h1 := encs_small l (fun f hf => h f (by simp [hf]))
    have h2 := h x (by simp)
    have h3 := enc1_len_le x (by omega)
    omega
theorem rootL_le (t a b c d l dd n : Int) : ∀ f ∈ rootL t a b c d l dd n, f.length ≤ 60 := by
  intro f hf
  unfold rootL rootF at hf
  rcases List.mem_append.1 hf with hf | hf
  · rcases List.mem_cons.1 hf with rfl | hf
    · simp
    rcases List.mem_cons.1 hf with rfl | hf
    · have := numS_len t; omega
    · exact treeS_le a b c d l dd n f hf
  · rw [List.mem_singleton] at hf; subst hf
    exact Nat.le_trans (numS_len _) (by omega)
theorem rootL_len (t a b c d l dd n : Int) : (rootL t a b c d l dd n).length = 6 := rfl
theorem root_rec {t a b c d l dd n : Int} (h : rootOkB t a b c d l dd n = true) : IsRec (rootS t a b c d l dd n) (rootL t a b c d l dd n) := by
  have h1 := encs_small _ (rootL_le t a b c d l dd n)
  rw [rootL_len] at h1
  have hf : fieldsF (rootL t a b c d l dd n) = (encs (rootL t a b c d l dd n), true) := fieldsF_yes (by rw [rootL_len]; omega) (by omega)
  have e : rootS t a b c d l dd n = encs (rootL t a b c d l dd n) := by
    rw [rootS_yes h]
    show (fieldsF (rootL t a b c d l dd n)).1 = _
    rw [hf]
  exact ⟨e.symm, by rw [rootL_len]; omega, by rw [e]; omega⟩
theorem root_no {s : Str} (h : ∀ l, ¬ IsRec s l) : rootIs s 0 0 0 0 0 0 0 0 false :=
  .inr ⟨rfl, ⟨rfl, rfl, rfl, rfl, rfl, rfl, rfl, rfl⟩, fun t a b c d l dd n hok e => h _ (e ▸ root_rec hok)⟩
theorem root_len {s : Str} {L : List Str} (h : IsRec s L) (hl : L.length ≠ 6) : rootIs s 0 0 0 0 0 0 0 0 false :=
  .inr ⟨rfl, ⟨rfl, rfl, rfl, rfl, rfl, rfl, rfl, rfl⟩, fun t a b c d l dd n hok e => hl (by rw [h.inj (e ▸ root_rec hok)]; rfl)⟩
/-- Six fields, as far as they are read. -/
def Six (s : Str) (t : Option Nat) (a b c d l : Int) (ok : Bool) (dd n : Option Nat) : Prop := ∃ y0 y1 y2 y3 y4 y5, IsRec s [y0, y1, y2, y3, y4, y5] ∧ numGet y1 = t ∧ ptrIs y2 a b c d l ok ∧ numGet y3 = dd ∧ numGet y4 = n
theorem Six.only {s : Str} {t dd n : Option Nat} {a b c d l : Int} {ok : Bool} (h : Six s t a b c d l ok dd n) {t' a' b' c' d' l' dd' n' : Int} (hok : rootOkB t' a' b' c' d' l' dd' n' = true) (e : rootS t' a' b' c' d' l' dd' n' = s) :
    t = some t'.toNat ∧ a = a' ∧ b = b' ∧ c = c' ∧ d = d' ∧ l = l' ∧ ok = true ∧ dd = some dd'.toNat ∧ n = some n'.toNat ∧ 0 ≤ t' ∧ 0 ≤ dd' ∧ 0 ≤ n' := by
  obtain ⟨y0, y1, y2, y3, y4, y5, hr, h1, h2, h3, h4⟩ := h
  have hL := hr.inj (e ▸ root_rec hok)
  obtain ⟨⟨p1, p2⟩, hp, ⟨p3, p4⟩, p5, p6⟩ := rootOk_parts hok
  unfold rootL rootF treeS at hL
  simp only [List.cons_append, List.nil_append, List.cons.injEq, and_true] at hL
  obtain ⟨_, r1, r2, r3, r4, _⟩ := hL
  subst r1 r2 r3 r4
  obtain ⟨q1, q2, q3, q4, q5, q6⟩ := ptrIs_ptrS hp h2
  rw [numGet_numS (by omega)] at h1 h3 h4
  exact ⟨h1.symm, q1, q2, q3, q4, q5, q6, h3.symm, h4.symm, by omega, by omega, by omega⟩
theorem Six.bad {s : Str} {t dd n : Option Nat} {a b c d l : Int} {ok : Bool} (h : Six s t a b c d l ok dd n) (hb : ¬ (t.isSome = true ∧ ok = true ∧ dd.isSome = true ∧ n.isSome = true)) : rootIs s 0 0 0 0 0 0 0 0 false :=
  .inr ⟨rfl, ⟨rfl, rfl, rfl, rfl, rfl, rfl, rfl, rfl⟩, fun t' a' b' c' d' l' dd' n' hok e => by
    obtain ⟨rfl, _, _, _, _, _, rfl, rfl, rfl, _⟩ := h.only hok e
    exact hb ⟨rfl, rfl, rfl, rfl⟩⟩
theorem Six.no_text {s : Str} {t dd n : Option Nat} {a b c d l : Int} {ok : Bool} (h : Six s t a b c d l ok dd n) (hb : rootS ((t.getD 0 : Nat) : Int) a b c d l ((dd.getD 0 : Nat) : Int) ((n.getD 0 : Nat) : Int) ≠ s) : rootIs s 0 0 0 0 0 0 0 0 false :=
  .inr ⟨rfl, ⟨rfl, rfl, rfl, rfl, rfl, rfl, rfl, rfl⟩, fun t' a' b' c' d' l' dd' n' hok e => by
    obtain ⟨rfl, rfl, rfl, rfl, rfl, rfl, rfl, rfl, rfl, k1, k2, k3⟩ := h.only hok e
    apply hb
    simp only [Option.getD_some]
    rw [Int.toNat_of_nonneg k1, Int.toNat_of_nonneg k2, Int.toNat_of_nonneg k3]
    exact e⟩
theorem Six.no_ok {s : Str} {t dd n : Option Nat} {a b c d l : Int} {ok : Bool} (h : Six s t a b c d l ok dd n) (hb : rootOkB ((t.getD 0 : Nat) : Int) a b c d l ((dd.getD 0 : Nat) : Int) ((n.getD 0 : Nat) : Int) = false) : rootIs s 0 0 0 0 0 0 0 0 false :=
  .inr ⟨rfl, ⟨rfl, rfl, rfl, rfl, rfl, rfl, rfl, rfl⟩, fun t' a' b' c' d' l' dd' n' hok e => by
    obtain ⟨rfl, rfl, rfl, rfl, rfl, rfl, rfl, rfl, rfl, k1, k2, k3⟩ := h.only hok e
    simp only [Option.getD_some] at hb
    rw [Int.toNat_of_nonneg k1, Int.toNat_of_nonneg k2, Int.toNat_of_nonneg k3, hok] at hb
    cases hb⟩
theorem Six.ne {s : Str} {t dd n : Option Nat} {a b c d l : Int} {ok : Bool} (h : Six s t a b c d l ok dd n) : s ≠ [] := by
  obtain ⟨y0, y1, y2, y3, y4, y5, hr, _⟩ := h
  rintro rfl
  have := hr.1
  rw [encs_cons] at this
  have h2 := enc1_ne y0
  simp only [List.append_eq_nil_iff] at this
  exact h2 this.1
theorem Six.yes {s : Str} {t dd n : Option Nat} {a b c d l : Int} {ok : Bool} (h : Six s t a b c d l ok dd n) (k : rootS ((t.getD 0 : Nat) : Int) a b c d l ((dd.getD 0 : Nat) : Int) ((n.getD 0 : Nat) : Int) = s) :
    rootIs s ((t.getD 0 : Nat) : Int) a b c d l ((dd.getD 0 : Nat) : Int) ((n.getD 0 : Nat) : Int) true := by
  cases hok : rootOkB ((t.getD 0 : Nat) : Int) a b c d l ((dd.getD 0 : Nat) : Int) ((n.getD 0 : Nat) : Int) with
  | true => exact .inl ⟨rfl, hok, k⟩
  | false => rw [rootS_no hok] at k; exact absurd k.symm h.ne
theorem rootIs_one {s : Str} {t a b c d l dd n t' a' b' c' d' l' dd' n' : Int} {ok ok' : Bool} (h : rootIs s t a b c d l dd n ok) (k : rootIs s t' a' b' c' d' l' dd' n' ok') :
    t = t' ∧ a = a' ∧ b = b' ∧ c = c' ∧ d = d' ∧ l = l' ∧ dd = dd' ∧ n = n' ∧ ok = ok' := by
  rcases h with ⟨rfl, h1, h2⟩ | ⟨rfl, h1, h2⟩ <;> rcases k with ⟨rfl, k1, k2⟩ | ⟨rfl, k1, k2⟩
  · have hL := (root_rec h1).inj (h2.trans k2.symm ▸ root_rec k1)
    obtain ⟨⟨p1, p2⟩, hp, ⟨p3, p4⟩, p5, p6⟩ := rootOk_parts h1
    obtain ⟨⟨p1', p2'⟩, hp', ⟨p3', p4'⟩, p5', p6'⟩ := rootOk_parts k1
    unfold rootL rootF treeS at hL
    simp only [List.cons_append, List.nil_append, List.cons.injEq, and_true] at hL
    obtain ⟨_, r1, r2, r3, r4, _⟩ := hL
    obtain ⟨q1, q2, q3, q4, q5⟩ := ptr_one hp rfl hp' r2.symm
    have g1 : numGet (numS t) = numGet (numS t') := by rw [r1]
    have g2 : numGet (numS dd) = numGet (numS dd') := by rw [r3]
    have g3 : numGet (numS n) = numGet (numS n') := by rw [r4]
    rw [numGet_numS (by omega), numGet_numS (by omega)] at g1 g2 g3
    injection g1 with g1; injection g2 with g2; injection g3 with g3
    exact ⟨by omega, q1, q2, q3, q4, q5, by omega, by omega, rfl⟩
  · exact absurd h2 (k2 _ _ _ _ _ _ _ _ h1)
  · exact absurd k2 (h2 _ _ _ _ _ _ _ _ k1)
  · obtain ⟨rfl, rfl, rfl, rfl, rfl, rfl, rfl, rfl⟩ := h1
    obtain ⟨rfl, rfl, rfl, rfl, rfl, rfl, rfl, rfl⟩ := k1
    exact ⟨rfl, rfl, rfl, rfl, rfl, rfl, rfl, rfl, rfl⟩
end Go.Proofs.YtcfgbeajdkbbcaaGreatDoor
