/- Numerals and records read back: the plain mathematics. No condition. -/
import Derived.Test.YtkmkmndcgemnlaaGreatDoorRecs
import Derived.Lib.Atoi
import Derived.Lib.IndexMore
import Derived.Lib.SplitLaws
namespace Go.Proofs.YtkmkmndcgemnlaaGreatDoor
set_option linter.unusedVariables false
set_option linter.unusedSimpArgs false
set_option linter.unnecessarySimpa false
open Go Go.Lib

/-! Numerals. -/
theorem digitVal_dg {c : UInt8} (h : isDg c = true) : digitVal c = some (c.toNat - 48) := by unfold digitVal; rw [if_pos (isDg_iff.1 h)]
theorem decFrom_val : ∀ (s : Str) (acc : Nat), s.all isDg = true → decFrom acc s = some (valF acc s)
  | [], acc, _ => rfl
  | c :: s, acc, h => by
    rw [List.all_cons, Bool.and_eq_true] at h
    unfold decFrom
    rw [digitVal_dg h.1, valF_cons]
    simp only
    rw [Nat.mul_comm acc 10]
    exact decFrom_val s _ h.2
theorem dec_all (n : Nat) : (decDigits n).all isDg = true := List.all_eq_true.2 (dec_digits n)
theorem atoi_dec (n : Nat) : Lib.atoi (decDigits n) = some (n : Int) := by
  have hall := dec_all n
  have hv := val_dec n
  have hne := dec_ne n
  cases h : decDigits n with
  | nil => exact absurd h hne
  | cons b r =>
    rw [h] at hall hv
    have hb : isDg b = true := by rw [List.all_cons, Bool.and_eq_true] at hall; exact hall.1
    have hbd := isDg_iff.1 hb
    have h45 : (b == 45) = false := by
      cases hc : b == 45 with
      | false => rfl
      | true => have e : b = 45 := by simpa using hc
                subst e; exact absurd hbd (by decide)
    have h43 : (b == 43) = false := by
      cases hc : b == 43 with
      | false => rfl
      | true => have e : b = 43 := by simpa using hc
                subst e; exact absurd hbd (by decide)
    simp only [Lib.atoi, h45, h43, Bool.false_eq_true, if_false]
    unfold decNat
    rw [if_neg (by simp), decFrom_val _ _ hall, hv]
    rfl
theorem numGet_of_atoi {s : Str} {v : Int} (h : Lib.atoi s = some v) (k : numS v = s) : ∃ n : Nat, v = (n : Int) ∧ numGet s = some n := by
  have hne : s ≠ [] := by rintro rfl; cases h
  by_cases hb : 0 ≤ v ∧ v ≤ 999999999
  · rw [numS_yes hb] at k
    exact ⟨v.toNat, by omega, numGet_iff.2 ⟨by omega, k⟩⟩
  · rw [numS_no hb] at k
    exact absurd k.symm hne
theorem numGet_not {s : Str} {v : Int} (h : Lib.atoi s = some v) (k : numS v ≠ s) : numGet s = none := by
  cases hg : numGet s with
  | none => rfl
  | some n =>
    exfalso
    obtain ⟨hn, hd⟩ := numGet_iff.1 hg
    rw [← hd, atoi_dec] at h
    obtain rfl := Option.some.inj h
    apply k
    rw [numS_yes (by omega)]
    simpa using hd
theorem numGet_none {s : Str} (h : Lib.atoi s = none) : numGet s = none := by
  cases hg : numGet s with
  | none => rfl
  | some n =>
    obtain ⟨_, hd⟩ := numGet_iff.1 hg
    rw [← hd, atoi_dec] at h
    cases h
theorem numGet_long {s : Str} (h : ¬ s.length ≤ 9) : numGet s = none := by unfold numGet; rw [if_neg (fun c => h c.1)]
theorem numGet_numS {n : Int} (h : 0 ≤ n ∧ n ≤ 999999999) : numGet (numS n) = some n.toNat := by rw [numS_yes h]; exact numGet_iff.2 ⟨by omega, rfl⟩
theorem numGet_le {s : Str} {n : Nat} (h : numGet s = some n) : n ≤ 999999999 := (numGet_iff.1 h).1

/-! Cutting at a byte. -/
def cutG (d : UInt8) : Str → Option (Str × Str)
  | [] => none
  | c :: s => if c = d then some ([], s) else (cutG d s).map fun (a, b) => (c :: a, b)
theorem cutG_none {d : UInt8} : ∀ {s : Str}, cutG d s = none → d ∉ s ∧ index s [d] = -1
  | [], _ => ⟨by simp, rfl⟩
  | c :: s, h => by
    unfold cutG at h
    split at h
    · cases h
    · rename_i hc
      cases hs : cutG d s with
      | some p => rw [hs] at h; cases h
      | none =>
        obtain ⟨h1, h2⟩ := cutG_none hs
        refine ⟨by simp only [List.mem_cons, not_or]; exact ⟨fun e => hc e.symm, h1⟩, ?_⟩
        have hp : ([d].isPrefixOf (c :: s)) = false := by simp [List.isPrefixOf]; exact fun e => hc e.symm
        unfold index
        rw [hp, h2]
        rfl
theorem cutG_some {d : UInt8} : ∀ {s a b : Str}, cutG d s = some (a, b) → s = a ++ d :: b ∧ d ∉ a ∧ index s [d] = (a.length : Int)
  | [], _, _, h => by cases h
  | c :: s, a, b, h => by
    unfold cutG at h
    split at h
    · rename_i hc
      injection h with h; injection h with h1 h2
      subst h1 h2 hc
      refine ⟨rfl, by simp, ?_⟩
      have hp : ([c].isPrefixOf (c :: s)) = true := by simp [List.isPrefixOf]
      unfold index
      rw [hp]; rfl
    · rename_i hc
      cases hs : cutG d s with
      | none => rw [hs] at h; cases h
      | some p =>
        obtain ⟨a', b'⟩ := p
        rw [hs] at h
        simp only [Option.map_some, Option.some.injEq, Prod.mk.injEq] at h
        obtain ⟨rfl, rfl⟩ := h
        obtain ⟨h1, h2, h3⟩ := cutG_some hs
        refine ⟨by rw [h1]; rfl, by simp only [List.mem_cons, not_or]; exact ⟨fun e => hc e.symm, h2⟩, ?_⟩
        have hp : ([d].isPrefixOf (c :: s)) = false := by simp [List.isPrefixOf]; exact fun e => hc e.symm
        unfold index
        rw [hp, h3]
        have h4 : ((a'.length : Int) == -1) = false := by simp <;> omega
        rw [h4]
        simp
theorem cutG_of {d : UInt8} {a b : Str} (h : d ∉ a) : cutG d (a ++ d :: b) = some (a, b) := by
  induction a with
  | nil => simp [cutG]
  | cons c a ih =>
    simp only [List.mem_cons, not_or] at h
    simp only [List.cons_append, cutG]
    rw [if_neg (fun e => h.1 e.symm), ih h.2]; rfl
theorem cutG_no {d : UInt8} {a : Str} (h : d ∉ a) : cutG d a = none := by
  cases hc : cutG d a with
  | none => rfl
  | some p => obtain ⟨x, y⟩ := p; have := (cutG_some hc).1; rw [this] at h; exact absurd (by simp) h
theorem cutC_G : ∀ s, cutC s = cutG 58 s
  | [] => rfl
  | c :: s => by unfold cutC cutG; rw [cutC_G s]
theorem cut_some {s a b : Str} (h : cutC s = some (a, b)) : Lib.cut s [58] = (a, b, true) := by
  rw [cutC_G] at h
  obtain ⟨h1, _, h3⟩ := cutG_some h
  unfold Lib.cut
  rw [h3, if_pos (by omega)]
  rw [h1]
  simp
theorem cut_none {s : Str} (h : cutC s = none) : Lib.cut s [58] = (s, [], false) := by
  rw [cutC_G] at h
  unfold Lib.cut
  rw [(cutG_none h).2, if_neg (by decide)]
theorem stepF_none {s : Str} (h : cutC s = none) : stepF s = none := by unfold stepF; rw [h]
theorem stepF_bad {s a b : Str} (h : cutC s = some (a, b)) (k : numGet a = none) : stepF s = none := by unfold stepF; rw [h]; simp only; rw [k]
theorem stepF_short {s a b : Str} {n : Nat} (h : cutC s = some (a, b)) (k : numGet a = some n) (hn : ¬ n ≤ b.length) : stepF s = none := by unfold stepF; rw [h]; simp only; rw [k]; simp only; rw [if_neg hn]
theorem stepF_ok {s a b : Str} {n : Nat} (h : cutC s = some (a, b)) (k : numGet a = some n) (hn : n ≤ b.length) : stepF s = some (b.take n, b.drop n) := by unfold stepF; rw [h]; simp only; rw [k]; simp only; rw [if_pos hn]

/-! The reference's reading of a numeral at a text's head. -/
def L1 (s : Str) (n k : Nat) : Prop :=
  ∃ k0, k0 ≤ 9 ∧ k0 ≤ s.length ∧ (s.take k0).all isDg = true ∧ (k0 = s.length ∨ k0 = 9 ∨ ∃ c, s[k0]? = some c ∧ isDg c = false) ∧
    ((1 < k0 ∧ s.head? = some 48 ∧ n = 0 ∧ k = 1) ∨ (¬ (1 < k0 ∧ s.head? = some 48) ∧ n = valF 0 (s.take k0) ∧ k = k0))
theorem isNum_take {s : Str} {k : Nat} (hk : k ≤ s.length) (h1 : 1 ≤ k) (hd : (s.take k).all isDg = true) (hz : ¬ (1 < k ∧ s.head? = some 48)) : isNum (s.take k) = true := by
  unfold isNum
  have hne : (s.take k).isEmpty = false := by
    cases s with
    | nil => simp at hk; omega
    | cons a s => cases k with
      | zero => omega
      | succ k => rfl
  have hh : (s.take k).head? = s.head? := by
    cases s with
    | nil => simp
    | cons a s => cases k with
      | zero => omega
      | succ k => rfl
  rw [hne, hd, hh, List.length_take, Nat.min_eq_left hk]
  simp only [Bool.not_false, Bool.true_and, Bool.or_eq_true, decide_eq_true_eq, Bool.not_eq_true', decide_eq_false_iff_not]
  by_cases h : k = 1
  · exact .inl h
  · exact .inr (fun e => hz ⟨by omega, e⟩)
theorem L1_num {s : Str} {n k : Nat} (h : L1 s n k) (h0 : k ≠ 0) (hl : k = s.length) : numGet s = some n := by
  obtain ⟨k0, h9, hk, hd, _, hr⟩ := h
  rcases hr with ⟨h1, hh, _, rfl⟩ | ⟨hz, rfl, rfl⟩
  · omega
  · have := isNum_take hk (by omega) hd hz
    rw [List.take_of_length_le (by omega)] at this ⊢
    unfold numGet
    rw [if_pos ⟨by omega, this⟩]
theorem L1_not {s : Str} {n k : Nat} (h : L1 s n k) (hbad : k = 0 ∨ k ≠ s.length) : numGet s = none := by
  cases hg : numGet s with
  | none => rfl
  | some m =>
    exfalso
    obtain ⟨hm, hd⟩ := numGet_iff.1 hg
    have hall := dec_all m
    have hl9 := dec_len9 hm
    have hne := dec_ne m
    rw [hd] at hall hl9 hne
    have hpos : 0 < s.length := List.length_pos_iff.2 hne
    obtain ⟨k0, h9, hk, _, hst, hr⟩ := h
    have hk0 : k0 = s.length := by
      rcases hst with h | h | ⟨c, hc, hcd⟩
      · exact h
      · omega
      · have := List.all_eq_true.1 hall c (List.mem_of_getElem? hc)
        rw [this] at hcd; cases hcd
    rcases hr with ⟨h1, hh, _, _⟩ | ⟨_, _, rfl⟩
    · rcases Nat.eq_zero_or_pos m with h0 | h0
      · subst h0
        rw [dec_small (by omega)] at hd
        rw [← hd] at hk0; simp at hk0; omega
      · have := dec_head h0
        rw [hd] at this; exact this hh
    · omega
theorem dg58 : isDg 58 = false := by decide
theorem take_get {s : Str} {k : Nat} {c : UInt8} (h : s[k]? = some c) : s = s.take k ++ c :: s.drop (k + 1) := by
  obtain ⟨hk, hc⟩ := List.getElem?_eq_some_iff.1 h
  have := List.take_append_drop k s
  rw [List.drop_eq_getElem_cons hk, hc] at this
  exact this.symm
theorem L1_step {s : Str} {n k : Nat} (h : L1 s n k) (h0 : k ≠ 0) (hc : s[k]? = some 58) (hn : n ≤ s.length - k - 1) :
    stepF s = some ((s.drop (k + 1)).take n, s.drop (k + 1 + n)) := by
  obtain ⟨k0, h9, hk, hd, _, hr⟩ := h
  rcases hr with ⟨h1, hh, _, rfl⟩ | ⟨hz, rfl, rfl⟩
  · exfalso
    have hlt : 1 < s.length := by omega
    have hx : s[1] ∈ s.take k0 := by rw [List.mem_take_iff_getElem]; exact ⟨1, by omega, rfl⟩
    have h2 := List.all_eq_true.1 hd _ hx
    rw [List.getElem?_eq_getElem hlt] at hc
    rw [Option.some.inj hc, dg58] at h2
    cases h2
  · have hnum := isNum_take hk (by omega) hd hz
    have hg : numGet (s.take k) = some (valF 0 (s.take k)) := by unfold numGet; rw [if_pos ⟨by rw [List.length_take]; omega, hnum⟩]
    have hno : (58 : UInt8) ∉ s.take k := fun hm => by have := List.all_eq_true.1 hd _ hm; rw [dg58] at this; cases this
    have hcut : cutC s = some (s.take k, s.drop (k + 1)) := by
      have := cutC_of (b := s.drop (k + 1)) hno
      rw [← take_get hc] at this
      exact this
    rw [stepF_ok hcut hg (by rw [List.length_drop]; omega), List.drop_drop]
theorem L1_bad {s : Str} {n k : Nat} (h : L1 s n k) (hbad : ¬ (k ≠ 0 ∧ s[k]? = some 58 ∧ n ≤ s.length - k - 1)) : stepF s = none := by
  cases hs : stepF s with
  | none => rfl
  | some p =>
    exfalso
    obtain ⟨f, r⟩ := p
    obtain ⟨e, hf⟩ := stepF_eq hs
    unfold enc1 at e
    obtain ⟨d, hd⟩ : ∃ d, d = decDigits f.length := ⟨_, rfl⟩
    have hdl : d.length ≤ 9 := by rw [hd]; exact dec_len9 hf
    have hda : d.all isDg = true := by rw [hd]; exact dec_all _
    have hdn : d ≠ [] := by rw [hd]; exact dec_ne _
    have hpos : 0 < d.length := List.length_pos_iff.2 hdn
    have e2 : s = d ++ 58 :: (f ++ r) := by rw [e, hd]; simp
    have hsl : s.length = d.length + 1 + f.length + r.length := by rw [e2]; simp; omega
    have hg58 : s[d.length]? = some 58 := by rw [e2]; simp
    obtain ⟨k0, h9, hk, hall, hst, hr⟩ := h
    have hk0 : k0 = d.length := by
      rcases Nat.lt_trichotomy k0 d.length with hlt | heq | hgt
      · exfalso
        rcases hst with h | h | ⟨c, hc, hcd⟩
        · omega
        · omega
        · rw [e2, List.getElem?_append_left hlt] at hc
          have := List.all_eq_true.1 hda c (List.mem_of_getElem? hc)
          rw [this] at hcd; cases hcd
      · exact heq
      · exfalso
        have hlt : d.length < s.length := by omega
        have hx : s[d.length] ∈ s.take k0 := by rw [List.mem_take_iff_getElem]; exact ⟨d.length, by omega, rfl⟩
        have h2 := List.all_eq_true.1 hall _ hx
        rw [List.getElem?_eq_getElem hlt] at hg58
        rw [Option.some.inj hg58, dg58] at h2
        cases h2
    have htk : s.take k0 = d := by rw [hk0, e2]; simp
    have hhead : s.head? = d.head? := by
      rw [e2]
      cases d with
      | nil => exact absurd rfl hdn
      | cons a d => rfl
    rcases hr with ⟨h1, hh, _, _⟩ | ⟨_, rfl, rfl⟩
    · rw [hhead, hd] at hh
      rcases Nat.eq_zero_or_pos f.length with h0 | h0
      · rw [h0, dec_small (by omega)] at hd
        rw [hd] at hk0; simp at hk0; omega
      · exact dec_head h0 hh
    · apply hbad
      have hv : valF 0 (s.take k) = f.length := by rw [htk, hd]; exact val_dec _
      refine ⟨by omega, by rw [hk0]; exact hg58, by rw [hv]; omega⟩

/-! Splitting at a full stop. -/
def splitD : Str → List Str
  | [] => [[]]
  | c :: s => if c = 46 then [] :: splitD s else match splitD s with
    | [] => [[c]]
    | x :: xs => (c :: x) :: xs
theorem splitD_ne : ∀ s, splitD s ≠ []
  | [] => by simp [splitD]
  | c :: s => by
    unfold splitD
    split
    · simp
    · split <;> simp
theorem splitD_free {s : Str} (h : (46 : UInt8) ∉ s) : splitD s = [s] := by
  induction s with
  | nil => rfl
  | cons c s ih =>
    simp only [List.mem_cons, not_or] at h
    unfold splitD
    rw [if_neg (fun e => h.1 e.symm), ih h.2]
theorem splitD_cut {a b : Str} (h : (46 : UInt8) ∉ a) : splitD (a ++ 46 :: b) = a :: splitD b := by
  induction a with
  | nil => simp [splitD]
  | cons c a ih =>
    simp only [List.mem_cons, not_or] at h
    simp only [List.cons_append]
    rw [splitD.eq_def]
    simp only
    rw [if_neg (fun e => h.1 e.symm), ih h.2]
theorem join_splitD : ∀ s, join (splitD s) [46] = s := by
  intro s
  induction s with
  | nil => rfl
  | cons c s ih =>
    unfold splitD
    split
    · rename_i hc
      subst hc
      cases hs : splitD s with
      | nil => exact absurd hs (splitD_ne s)
      | cons x xs =>
        rw [hs] at ih
        rw [join_cons, joinTail, List.map_cons, List.flatten_cons]
        rw [join_cons, joinTail] at ih
        simp [← ih]
    · cases hs : splitD s with
      | nil => exact absurd hs (splitD_ne s)
      | cons x xs =>
        rw [hs] at ih
        simp only
        rw [join_cons] at ih ⊢
        rw [← ih]; rfl
theorem splitK_D : ∀ (k : Nat) (s : Str), s.count 46 = k → splitK [46] 0 k s = splitD s := by
  intro k
  induction k with
  | zero =>
    intro s hs
    rw [splitD_free (fun hm => by rw [List.count_eq_zero] at hs; exact hs hm)]
    rfl
  | succ k ih =>
    intro s hs
    cases hc : cutG 46 s with
    | none =>
      have h1 := (cutG_none hc).1
      rw [List.count_eq_zero.2 h1] at hs
      omega
    | some p =>
      obtain ⟨a, b⟩ := p
      obtain ⟨e, h1, h2⟩ := cutG_some hc
      unfold splitK
      have h3 : ((a.length : Int) == -1) = false := by simp <;> omega
      rw [h2, h3]
      simp only [Bool.false_eq_true, if_false, Int.toNat_natCast, Nat.add_zero, List.length_singleton]
      have ht : s.take a.length = a := by rw [e]; simp
      have hdr : s.drop (a.length + 1) = b := by rw [e]; simp
      have hcb : b.count 46 = k := by
        rw [e, List.count_append, List.count_cons, List.count_eq_zero.2 h1] at hs
        simp at hs; omega
      rw [ht, hdr, ih b hcb, e, splitD_cut h1]
theorem dot_dec (n : Nat) : (46 : UInt8) ∉ decDigits n := fun h => by have := isDg_iff.1 (dec_digits n 46 h); simp at this
theorem splitD_join5 {x1 x2 x3 x4 x5 : Str} (h1 : (46 : UInt8) ∉ x1) (h2 : (46 : UInt8) ∉ x2) (h3 : (46 : UInt8) ∉ x3) (h4 : (46 : UInt8) ∉ x4) (h5 : (46 : UInt8) ∉ x5) :
    splitD (join [x1, x2, x3, x4, x5] [46]) = [x1, x2, x3, x4, x5] := by
  rw [join5]
  have e : x1 ++ [46] ++ x2 ++ [46] ++ x3 ++ [46] ++ x4 ++ [46] ++ x5 = x1 ++ 46 :: (x2 ++ 46 :: (x3 ++ 46 :: (x4 ++ 46 :: x5))) := by simp
  rw [e, splitD_cut h1, splitD_cut h2, splitD_cut h3, splitD_cut h4, splitD_free h5]
end Go.Proofs.YtkmkmndcgemnlaaGreatDoor
