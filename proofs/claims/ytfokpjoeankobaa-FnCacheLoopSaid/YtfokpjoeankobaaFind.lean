/- Is a number in a list: slices.Index, slices.Contains, l5In. No condition. -/
import Derived.Test.YtfokpjoeankobaaTypes
namespace Go.Proofs.Ytfokpjoeankobaa
set_option linter.unusedVariables false
set_option linter.unusedSimpArgs false
set_option linter.unnecessarySimpa false
open Go.RowKit

def hasI (xs : List Int) (v : Int) : Bool := decide (v ∈ xs)
theorem hasI_yes {xs : List Int} {v : Int} {k : Nat} (hk : k < xs.length) (h : v = xs.getD k 0) : hasI xs v = true := by
  unfold hasI
  rw [decide_eq_true_eq, h]
  simp only [List.getD, List.getElem?_eq_getElem hk, Option.getD_some]
  exact List.getElem_mem _
theorem hasI_no {xs : List Int} {v : Int} (h : ∀ j, j < xs.length → v ≠ xs.getD j 0) : hasI xs v = false := by
  unfold hasI
  rw [decide_eq_false_iff_not]
  intro hm
  obtain ⟨j, hj, he⟩ := List.mem_iff_getElem.1 hm
  exact h j hj (by simp [List.getD, List.getElem?_eq_getElem hj, he])
/-- What slices.Index returns. -/
def IndexRes (xs : List Int) (v : Int) (w : World) (e : Ending) (w' : World) : Prop := ∃ r : Int, e = .returned (.int .i64 r) ∧ decide (0 ≤ r) = hasI xs v ∧ w = w'

set_option maxRecDepth 100000 in
set_option maxHeartbeats 1000000 in
theorem index_any (A : Option Addr) (n c : Nat) (xs : List Int) (v : Int) (w : World) (hA : IntsAt w A n xs) :
    Calls Try.prog 61 #[.slice A n c, .int .i64 v] w (IndexRes xs v w) := by
  have hn := hA.max
  have HL := Lib.hid hA.len
  go_enter Try.func61, Try.ntmps61
  go_wp2_with fail
  go_loopw [5, 8] (fun _ s wr => ∃ k : Nat, k ≤ n ∧ s = .int .i64 k ∧ Hid (∀ j, j < k → v ≠ xs.getD j 0) ∧ SameW wr w) (fun _ s _ => n - (intOf s).toNat)
  case atStart => exact ⟨0, Nat.zero_le _, rfl, Lib.hid (fun j hj => absurd hj (by omega)), SameW.refl _⟩
  case round =>
    obtain ⟨k, hk, rfl, HP, HW⟩ := hrel
    obtain rfl := HW.out
    clear HW
    by_cases hlt : k < n
    · obtain ⟨b, off, rfl, hb, hc⟩ := hA.at_ hlt
      have h1 := hc k hlt
      clear hc
      have hyes : v = xs.getD k 0 → hasI xs v = true := fun h => hasI_yes (by rw [HL.out]; exact hlt) h
      have hno : v ≠ xs.getD k 0 → ∀ j, j < k + 1 → v ≠ xs.getD j 0 := fun h j hj => by
        rcases Nat.lt_or_ge j k with h2 | h2
        · exact HP.out j h2
        · obtain rfl : j = k := by omega
          exact h
      have HY := Lib.hid hyes; have HN := Lib.hid hno; clear hyes hno HP
      generalize xs.getD k 0 = r at *
      by_cases hv : v = r
      · have hf := Lib.hid (HY.out hv)
        have e1 : (v == r) = true := by simpa using hv
        clear HY HN
        subst hv
        have k0 : (0 : Int) ≤ (k : Int) := by omega
        go_wp2_with fail
        go_ret
        exact ⟨k, rfl, by rw [hf.out]; simp, rfl⟩
      · have hf := Lib.hid (HN.out hv)
        have e1 : (v == r) = false := by simpa using hv
        clear HY HN
        go_wp2_with fail
        go_roundw
        case rel => exact ⟨k + 1, by omega, by go_num, hf, SameW.refl _⟩
        case measure => simp [intOf]; omega
    · obtain rfl : k = n := by omega
      have hf := Lib.hid (hasI_no (xs := xs) (v := v) fun j hj => HP.out j (by rw [HL.out] at hj; exact hj))
      go_wp2_with fail
      go_ret
      exact ⟨-1, rfl, by rw [hf.out]; rfl, rfl⟩

set_option maxRecDepth 100000 in
set_option maxHeartbeats 1000000 in
theorem contains_any (A : Option Addr) (n c : Nat) (xs : List Int) (v : Int) (w : World) (hA : IntsAt w A n xs) :
    Calls Try.prog 36 #[.slice A n c, .int .i64 v] w fun e w' => e = .returned (.bool (hasI xs v)) ∧ w = w' := by
  go_enter Try.func36, Try.ntmps36
  go_wp2_with fail
  refine (index_any A n c xs v w hA).mono ?_
  rintro e w1 ⟨r, rfl, hr, rfl⟩
  have HR := Lib.hid hr; clear hr
  go_wp2_with fail
  go_ret
  exact ⟨ret_bool HR.out, rfl⟩

end Go.Proofs.Ytfokpjoeankobaa
