/- Pointers' texts read back: the plain mathematics. No condition. -/
import Derived.Test.YtcfgbeajdkbbcaaGreatDoorRecs
namespace Go.Proofs.YtcfgbeajdkbbcaaGreatDoor
set_option linter.unusedVariables false
set_option linter.unusedSimpArgs false
set_option linter.unnecessarySimpa false
open Go Go.Lib

/-- What is read off a text: the pointer that it is the text of, or none. -/
def ptrIs (s : Str) (a b c d l : Int) (ok : Bool) : Prop :=
  (ok = true ∧ ptrOkB a b c d l = true ∧ ptrS a b c d l = s) ∨
  (ok = false ∧ (a = 0 ∧ b = 0 ∧ c = 0 ∧ d = 0 ∧ l = 0) ∧ ∀ a b c d l : Int, ptrOkB a b c d l = true → ptrS a b c d l ≠ s)
theorem ptr_dec {s : Str} {a b c d l : Int} (hs : s ≠ [45]) (h : ptrOkB a b c d l = true) (k : ptrS a b c d l = s) :
    ptrHole a b c d l = false ∧ splitD s = [decDigits a.toNat, decDigits b.toNat, decDigits c.toNat, decDigits d.toNat, decDigits l.toNat] ∧ (0 ≤ a ∧ a ≤ 999999999) ∧ (0 ≤ b ∧ b ≤ 999999999) ∧ (0 ≤ c ∧ c ≤ 999999999) ∧ (0 ≤ d ∧ d ≤ 999999999) ∧ (0 ≤ l ∧ l ≤ 999999999) := by
  cases hh : ptrHole a b c d l with
  | true => rw [ptrS_hole h hh] at k; exact absurd k.symm hs
  | false =>
    have hb := ptr_bounds h hh
    refine ⟨rfl, ?_, by omega, by omega, by omega, by omega, by omega⟩
    rw [← k, ptrS_yes h hh]
    exact splitD_join5 (dot_dec _) (dot_dec _) (dot_dec _) (dot_dec _) (dot_dec _)
theorem ptr_hole_text : ptrIs [45] 0 0 0 0 0 true := .inl ⟨rfl, by decide, rfl⟩
theorem ptr_len {s : Str} (hs : s ≠ [45]) (h : (splitD s).length ≠ 5) : ptrIs s 0 0 0 0 0 false :=
  .inr ⟨rfl, ⟨rfl, rfl, rfl, rfl, rfl⟩, fun a b c d l hok e => by
    have := (ptr_dec hs hok e).2.1
    rw [this] at h
    exact h rfl⟩
theorem numGet_dec {n : Int} (h : 0 ≤ n ∧ n ≤ 999999999) : numGet (decDigits n.toNat) = some n.toNat := numGet_iff.2 ⟨by omega, rfl⟩
theorem ptr_bad {s : Str} {j : Nat} {x : Str} (hs : s ≠ [45]) (hx : (splitD s)[j]? = some x) (h : numGet x = none) : ptrIs s 0 0 0 0 0 false :=
  .inr ⟨rfl, ⟨rfl, rfl, rfl, rfl, rfl⟩, fun a b c d l hok e => by
    obtain ⟨_, hsp, h1, h2, h3, h4, h5⟩ := ptr_dec hs hok e
    rw [hsp] at hx
    match j, hx with
    | 0, hx => obtain rfl := Option.some.inj hx; rw [numGet_dec h1] at h; cases h
    | 1, hx => obtain rfl := Option.some.inj hx; rw [numGet_dec h2] at h; cases h
    | 2, hx => obtain rfl := Option.some.inj hx; rw [numGet_dec h3] at h; cases h
    | 3, hx => obtain rfl := Option.some.inj hx; rw [numGet_dec h4] at h; cases h
    | 4, hx => obtain rfl := Option.some.inj hx; rw [numGet_dec h5] at h; cases h
    | j + 5, hx => simp at hx⟩
/-- Five numerals between full stops. -/
def Five (s : Str) (a b c d l : Nat) : Prop := ∃ x1 x2 x3 x4 x5, splitD s = [x1, x2, x3, x4, x5] ∧ numGet x1 = some a ∧ numGet x2 = some b ∧ numGet x3 = some c ∧ numGet x4 = some d ∧ numGet x5 = some l
theorem Five.text {s : Str} {a b c d l : Nat} (h : Five s a b c d l) : s = join [decDigits a, decDigits b, decDigits c, decDigits d, decDigits l] [46] := by
  obtain ⟨x1, x2, x3, x4, x5, hsp, h1, h2, h3, h4, h5⟩ := h
  rw [(numGet_iff.1 h1).2, (numGet_iff.1 h2).2, (numGet_iff.1 h3).2, (numGet_iff.1 h4).2, (numGet_iff.1 h5).2, ← hsp]
  exact (join_splitD s).symm
theorem Five.only {s : Str} {a b c d l : Nat} {a' b' c' d' l' : Int} (h : Five s a b c d l) (hs : s ≠ [45]) (hok : ptrOkB a' b' c' d' l' = true) (e : ptrS a' b' c' d' l' = s) :
    a' = (a : Int) ∧ b' = (b : Int) ∧ c' = (c : Int) ∧ d' = (d : Int) ∧ l' = (l : Int) ∧ ptrHole a' b' c' d' l' = false := by
  obtain ⟨x1, x2, x3, x4, x5, hsp, h1, h2, h3, h4, h5⟩ := h
  obtain ⟨hh, hsp', k1, k2, k3, k4, k5⟩ := ptr_dec hs hok e
  rw [hsp'] at hsp
  simp only [List.cons.injEq, and_true] at hsp
  obtain ⟨r1, r2, r3, r4, r5⟩ := hsp
  subst r1 r2 r3 r4 r5
  rw [numGet_dec k1] at h1; rw [numGet_dec k2] at h2; rw [numGet_dec k3] at h3; rw [numGet_dec k4] at h4; rw [numGet_dec k5] at h5
  injection h1 with h1; injection h2 with h2; injection h3 with h3; injection h4 with h4; injection h5 with h5
  exact ⟨by omega, by omega, by omega, by omega, by omega, hh⟩
theorem Five.ok_text {s : Str} {a b c d l : Nat} (h : Five s a b c d l) (hok : ptrOkB a b c d l = true) (hh : ptrHole a b c d l = false) : ptrS a b c d l = s := by
  rw [ptrS_yes hok hh, h.text]
  simp
theorem Five.no_ok {s : Str} {a b c d l : Nat} (h : Five s a b c d l) (hs : s ≠ [45]) (hok : ¬ (ptrOkB a b c d l = true ∧ ptrHole a b c d l = false)) : ptrIs s 0 0 0 0 0 false :=
  .inr ⟨rfl, ⟨rfl, rfl, rfl, rfl, rfl⟩, fun a' b' c' d' l' hok' e => by
    obtain ⟨rfl, rfl, rfl, rfl, rfl, hh⟩ := h.only hs hok' e
    exact hok ⟨hok', hh⟩⟩
theorem Five.no_text {s : Str} {a b c d l : Nat} (h : Five s a b c d l) (hs : s ≠ [45]) (hn : ptrS a b c d l ≠ s) : ptrIs s 0 0 0 0 0 false :=
  .inr ⟨rfl, ⟨rfl, rfl, rfl, rfl, rfl⟩, fun a' b' c' d' l' hok' e => by
    obtain ⟨rfl, rfl, rfl, rfl, rfl, _⟩ := h.only hs hok' e
    exact hn e⟩
theorem Five.yes_ok {s : Str} {a b c d l : Nat} (h : Five s a b c d l) (hok : ptrOkB a b c d l = true) (hh : ptrHole a b c d l = false) : ptrIs s a b c d l true := .inl ⟨rfl, hok, h.ok_text hok hh⟩
theorem Five.yes_text {s : Str} {a b c d l : Nat} (h : Five s a b c d l) (hn : ptrS a b c d l = s) : ptrIs s a b c d l true := by
  cases hok : ptrOkB (a : Int) b c d l with
  | true => exact .inl ⟨rfl, hok, hn⟩
  | false =>
    exfalso
    rw [ptrS_no hok] at hn
    obtain ⟨x1, x2, x3, x4, x5, hsp, _⟩ := h
    rw [← hn] at hsp
    simp [splitD] at hsp
theorem ptr_one {s : Str} {a b c d l a' b' c' d' l' : Int} (h : ptrOkB a b c d l = true) (k : ptrS a b c d l = s) (h' : ptrOkB a' b' c' d' l' = true) (k' : ptrS a' b' c' d' l' = s) :
    a = a' ∧ b = b' ∧ c = c' ∧ d = d' ∧ l = l' := by
  by_cases hs : s = [45]
  · have key : ∀ a b c d l : Int, ptrOkB a b c d l = true → ptrS a b c d l = [45] → a = 0 ∧ b = 0 ∧ c = 0 ∧ d = 0 ∧ l = 0 := by
      intro a b c d l h k
      cases hh : ptrHole a b c d l with
      | true => unfold ptrHole at hh; simpa using hh
      | false =>
        exfalso
        rw [ptrS_yes h hh] at k
        have := congrArg splitD k
        rw [splitD_join5 (dot_dec _) (dot_dec _) (dot_dec _) (dot_dec _) (dot_dec _)] at this
        simp [splitD] at this
    subst hs
    obtain ⟨rfl, rfl, rfl, rfl, rfl⟩ := key _ _ _ _ _ h k
    obtain ⟨rfl, rfl, rfl, rfl, rfl⟩ := key _ _ _ _ _ h' k'
    exact ⟨rfl, rfl, rfl, rfl, rfl⟩
  · obtain ⟨_, hsp, h1, h2, h3, h4, h5⟩ := ptr_dec hs h k
    obtain ⟨_, hsp', h1', h2', h3', h4', h5'⟩ := ptr_dec hs h' k'
    rw [hsp] at hsp'
    simp only [List.cons.injEq, and_true] at hsp'
    obtain ⟨r1, r2, r3, r4, r5⟩ := hsp'
    have := dec_inj r1; have := dec_inj r2; have := dec_inj r3; have := dec_inj r4; have := dec_inj r5
    omega
theorem ptrIs_one {s : Str} {a b c d l a' b' c' d' l' : Int} {ok ok' : Bool} (h : ptrIs s a b c d l ok) (k : ptrIs s a' b' c' d' l' ok') : a = a' ∧ b = b' ∧ c = c' ∧ d = d' ∧ l = l' ∧ ok = ok' := by
  rcases h with ⟨rfl, h1, h2⟩ | ⟨rfl, h1, h2⟩ <;> rcases k with ⟨rfl, k1, k2⟩ | ⟨rfl, k1, k2⟩
  · obtain ⟨r1, r2, r3, r4, r5⟩ := ptr_one h1 h2 k1 k2
    exact ⟨r1, r2, r3, r4, r5, rfl⟩
  · exact absurd h2 (k2 _ _ _ _ _ h1)
  · exact absurd k2 (h2 _ _ _ _ _ k1)
  · obtain ⟨rfl, rfl, rfl, rfl, rfl⟩ := h1
    obtain ⟨rfl, rfl, rfl, rfl, rfl⟩ := k1
    exact ⟨rfl, rfl, rfl, rfl, rfl, rfl⟩
theorem ptrIs_ptrS {a b c d l : Int} (h : ptrOkB a b c d l = true) {a' b' c' d' l' : Int} {ok : Bool} (k : ptrIs (ptrS a b c d l) a' b' c' d' l' ok) : a' = a ∧ b' = b ∧ c' = c ∧ d' = d ∧ l' = l ∧ ok = true := by
  have := ptrIs_one k (.inl ⟨rfl, h, rfl⟩)
  exact this
end Go.Proofs.YtcfgbeajdkbbcaaGreatDoor
