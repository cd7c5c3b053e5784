/- Plain facts on spaces as two lists of numbers: taking and giving keep them valid, and what they do to sums and counts. No condition. -/
import Derived.Test.YtbfdbkidmakapaaGive2
import Derived.Test.YtbfdbkidmakapaaFnSpaceNew
namespace Go.Proofs.Ytbfdbkidmakapaa
set_option linter.unnecessarySimpa false
open Go.RowKit
set_option linter.unusedVariables false
set_option linter.unusedSimpArgs false

theorem sum_set (l : List Int) (a : Nat) (v : Int) (h : a < l.length) : (l.set a v).sum = l.sum + v - l.getD a 0 := by
  induction l generalizing a with
  | nil => simp at h
  | cons x l ih =>
    cases a with
    | zero => simp; omega
    | succ a =>
      have := ih a (by simpa using h)
      simp only [List.set_cons_succ, List.sum_cons, this, List.getD_cons_succ]
      omega
theorem cnt_set (l : List Int) (a : Nat) (v : Int) (h : a < l.length) :
    ((l.set a v).filter (· == 0)).length + (if l.getD a 0 = 0 then 1 else 0) = (l.filter (· == 0)).length + (if v = 0 then 1 else 0) := by
  induction l generalizing a with
  | nil => simp at h
  | cons x l ih =>
    cases a with
    | zero =>
      simp only [List.set_cons_zero, List.filter_cons, List.getD_cons_zero]
      by_cases h1 : v = 0 <;> by_cases h2 : x = 0 <;> simp [h1, h2] <;> omega
    | succ a =>
      have := ih a (by simpa using h)
      simp only [List.set_cons_succ, List.filter_cons, List.getD_cons_succ]
      generalize l.getD a 0 = y at this ⊢
      by_cases h2 : x = 0 <;> simp only [h2, beq_self_eq_true, if_true, List.length_cons, beq_iff_eq, if_false] <;> omega
theorem getD_set_self {l : List Int} {a : Nat} {v : Int} (h : a < l.length) : (l.set a v).getD a 0 = v := by
  simp [List.getD, List.getElem?_set, h]
theorem getD_set_ne {l : List Int} {a i : Nat} {v : Int} (h : a ≠ i) : (l.set a v).getD i 0 = l.getD i 0 := by
  simp [List.getD, List.getElem?_set, h]
theorem roomTo_set {xs : List Int} (hx : xs.length = 64) {a : Nat} (h8 : 8 ≤ a) (ha : a < 64) (v : Int) :
    roomTo (xs.set a v) 56 + (if xs.getD a 0 = 0 then 1 else 0) = roomTo xs 56 + (if v = 0 then 1 else 0) := by
  unfold roomTo
  have e1 : (xs.set a v).drop 8 = (xs.drop 8).set (a - 8) v := by
    rw [List.drop_set]
    rw [if_neg (by omega)]
  have e2 : (xs.drop 8).getD (a - 8) 0 = xs.getD a 0 := by
    simp only [List.getD, List.getElem?_drop]
    rw [show 8 + (a - 8) = a by omega]
  rw [e1, List.take_of_length_le (by simp [hx]), List.take_of_length_le (by simp [hx]), ← e2]
  exact cnt_set _ _ _ (by simp [hx]; omega)

/-- What is known of a row that is given. -/
theorem giveOk_iff {xs ys : List Int} {at_ : Int} (h : giveOk xs ys at_ = true) : ∃ a : Nat, at_ = (a : Int) ∧ 8 ≤ a ∧ a < 64 ∧ SpOk xs ys ∧ 1 ≤ xs.getD a 0 ∧ xs.getD a 0 ≤ 900 ∧
    giveX xs ys at_ = xs.set a (xs.getD a 0 - 1) ∧ giveY xs ys at_ = lastOf (xs.getD a 0) ys a := by
  have hx : giveX xs ys at_ = xs.set at_.toNat (xs.getD at_.toNat 0 - 1) := by unfold giveX; rw [if_pos h]
  have hy : giveY xs ys at_ = lastOf (xs.getD at_.toNat 0) ys at_.toNat := by unfold giveY; rw [if_pos h]
  unfold giveOk at h
  simp only [Bool.and_eq_true] at h
  obtain ⟨⟨h1, h2⟩, h3⟩ := h
  obtain ⟨a, rfl, ha, hb⟩ := inB_at h2
  have hs := spOk_iff.1 h1
  have hr := hs.2.2 a (by omega)
  rw [Int.toNat_natCast] at hx hy h3
  have h4 : ¬ xs.getD a 0 = 0 := of_decide_eq_true h3
  unfold rowOk at hr
  exact ⟨a, rfl, ha, by omega, hs, by omega, by omega, hx, hy⟩
theorem lastOf_len (x : Int) (ys : List Int) (a : Nat) : (lastOf x ys a).length = ys.length := by unfold lastOf; split <;> simp
theorem lastOf_ne {x : Int} {ys : List Int} {a i : Nat} (h : a ≠ i) : (lastOf x ys a).getD i 0 = ys.getD i 0 := by
  unfold lastOf
  split
  · exact getD_set_ne h
  · rfl
theorem give_spOk {xs ys : List Int} {a : Nat} (hs : SpOk xs ys) (ha : a < 64) (h1 : 1 ≤ xs.getD a 0) : SpOk (xs.set a (xs.getD a 0 - 1)) (lastOf (xs.getD a 0) ys a) := by
  refine ⟨by simpa using hs.1, by rw [lastOf_len]; exact hs.2.1, fun i hi => ?_⟩
  have hr := hs.2.2 i hi
  by_cases h : a = i
  · subst h
    rw [getD_set_self (by rw [hs.1]; exact hi)]
    unfold lastOf
    split
    · rw [getD_set_self (by rw [hs.2.1]; exact hi)]
      unfold rowOk at hr ⊢
      omega
    · unfold rowOk at hr ⊢
      omega
  · rw [getD_set_ne h, lastOf_ne h]
    exact hr
theorem takeOk_iff {xs ys : List Int} {at_ txg : Int} (h : takeOk xs ys at_ txg = true) : ∃ a : Nat, at_ = (a : Int) ∧ 8 ≤ a ∧ a < 64 ∧ SpOk xs ys ∧ 1 ≤ txg ∧ txg ≤ 900 ∧ ys.getD a 0 < txg ∧
    takeX xs ys at_ txg = xs.set a (xs.getD a 0 + 1) ∧ takeY xs ys at_ txg = ys.set a txg := by
  have hx : takeX xs ys at_ txg = xs.set at_.toNat (xs.getD at_.toNat 0 + 1) := by unfold takeX; rw [if_pos h]
  have hy : takeY xs ys at_ txg = ys.set at_.toNat txg := by unfold takeY; rw [if_pos h]
  unfold takeOk at h
  simp only [Bool.and_eq_true] at h
  obtain ⟨⟨⟨h1, h2⟩, h3⟩, h4⟩ := h
  obtain ⟨a, rfl, ha, hb⟩ := inB_at h2
  rw [Int.toNat_natCast] at hx hy h4
  unfold inB at h3
  have h3 := of_decide_eq_true h3
  exact ⟨a, rfl, ha, by omega, spOk_iff.1 h1, h3.1, h3.2, of_decide_eq_true h4, hx, hy⟩
theorem take_spOk {xs ys : List Int} {a : Nat} {txg : Int} (hs : SpOk xs ys) (h8 : 8 ≤ a) (ha : a < 64) (h1 : 1 ≤ txg) (h9 : txg ≤ 900) (hl : ys.getD a 0 < txg) : SpOk (xs.set a (xs.getD a 0 + 1)) (ys.set a txg) := by
  refine ⟨by simpa using hs.1, by simpa using hs.2.1, fun i hi => ?_⟩
  have hr := hs.2.2 i hi
  by_cases h : a = i
  · subst h
    rw [getD_set_self (by rw [hs.1]; exact hi), getD_set_self (by rw [hs.2.1]; exact hi)]
    unfold rowOk at hr ⊢
    omega
  · rw [getD_set_ne h, getD_set_ne h]
    exact hr

theorem sum_take_succ (xs : List Int) {k : Nat} (h : k < xs.length) : (xs.take (k + 1)).sum = (xs.take k).sum + xs.getD k 0 := by
  rw [List.take_succ_eq_append_getElem h, List.sum_append]
  simp [List.getD, h]
theorem sum_bd {xs : List Int} (hb : ∀ j, 0 ≤ xs.getD j 0 ∧ xs.getD j 0 ≤ 900) : ∀ k, k ≤ xs.length → 0 ≤ (xs.take k).sum ∧ (xs.take k).sum ≤ 900 * k
  | 0, _ => by simp
  | k + 1, h => by
    have h1 := sum_bd hb k (by omega)
    have h2 := hb k
    rw [sum_take_succ xs (by omega)]
    omega

set_option maxHeartbeats 1000000 in
theorem pfSum_any (A : Option Addr) (n c : Nat) (xs : List Int) (w : World) (hA : IntsAt w A n xs) (hn : n ≤ 64) (hb : ∀ j, 0 ≤ xs.getD j 0 ∧ xs.getD j 0 ≤ 900) :
    Calls Try.prog 34 #[.slice A n c] w fun e w' => e = .returned (.int .i64 xs.sum) ∧ w = w' := by
  have HB := Lib.hid hb
  have HL := Lib.hid hA.len
  clear hb
  go_enter Try.func34, Try.ntmps34
  go_wp2_with fail
  go_loopw [3, 4] (fun s i wr => ∃ k : Nat, k ≤ n ∧ i = .int .i64 k ∧ s = .int .i64 (xs.take k).sum ∧ SameW wr w) (fun _ i _ => n - (intOf i).toNat)
  case atStart => exact ⟨0, Nat.zero_le _, rfl, by simp, SameW.refl _⟩
  case round =>
    obtain ⟨k, hk, rfl, rfl, HW⟩ := hrel
    obtain rfl := HW.out
    clear HW
    have hbd := sum_bd HB.out k (by rw [HL.out]; exact hk)
    obtain ⟨s, hs⟩ : ∃ s, s = (xs.take k).sum := ⟨_, rfl⟩
    rw [← hs] at hbd
    by_cases hlt : k < n
    · obtain ⟨b, off, rfl, _, hc⟩ := hA.at_ hlt
      have h1 := hc k hlt
      have hx := HB.out k
      have hsu := Lib.hid (sum_take_succ xs (k := k) (by rw [HL.out]; exact hlt))
      obtain ⟨x, hxe⟩ : ∃ x, x = xs.getD k 0 := ⟨_, rfl⟩
      rw [← hxe] at h1 hx hsu
      rw [← hs] at hsu
      rw [← hs]
      obtain ⟨b1, b2⟩ := hbd
      obtain ⟨x1, x2⟩ := hx
      clear hc hs hxe
      go_wp2_with fail
      go_roundw
      case rel => exact ⟨k + 1, by omega, by go_num, by rw [hsu.out], SameW.refl _⟩
      case measure => simp [intOf]; omega
    · obtain rfl : k = n := by omega
      have he := Lib.hid (show (xs.take k).sum = xs.sum by rw [List.take_of_length_le (by rw [HL.out]; exact Nat.le_refl _)])
      clear hs hbd
      go_wp2_with fail
      go_ret
      exact ⟨ret_int he.out, rfl⟩
end Go.Proofs.Ytbfdbkidmakapaa
