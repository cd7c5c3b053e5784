/- A drawn cell's text. No condition. -/
import Derived.Test.YtfokpjoeankobaaDrawText
namespace Go.Proofs.Ytfokpjoeankobaa
set_option linter.unusedVariables false
set_option linter.unusedSimpArgs false
set_option linter.unnecessarySimpa false
open Go.RowKit

theorem many_even {a q o S : Nat} (h : a * (2 * q) + o = S) : (a + a) * q + o = S := by
  rw [← h, Nat.mul_left_comm, Nat.add_mul]; omega
theorem many_odd {a q o S : Nat} (h : a * (2 * q + 1) + o = S) : (a + a) * q + (o + a) = S := by
  rw [← h, Nat.mul_add, Nat.mul_left_comm, Nat.add_mul]; omega
theorem many_le {a i o S : Nat} (h : a * i + o = S) (hi : 1 ≤ i) : a ≤ S ∧ o ≤ S := by
  have := Nat.mul_le_mul_left a hi
  omega
theorem size121 : (⟨#[121]⟩ : ByteArray).size = 1 := rfl
theorem size118 : (⟨#[118]⟩ : ByteArray).size = 1 := rfl
theorem size_app (a b : ByteArray) : (a ++ b).size = a.size + b.size := by simp
/-- A text n times. -/
def Many (S : Nat) (w : World) (e : Ending) (w' : World) : Prop := ∃ s : ByteArray, e = .returned (.string s) ∧ s.size = S ∧ w' = w
set_option maxRecDepth 100000 in
set_option maxHeartbeats 2000000 in
theorem l6Many_any (s0 : ByteArray) (n S : Nat) (w : World) (hS : s0.size * n + 0 = S) (hS1 : S ≤ 1000000) (hn : n ≤ 1000000) (h1 : s0.size ≤ 1000000) :
    Calls Try.prog 69 #[.string s0, .int .i64 (n : Int)] w (Many S w) := by
  go_enter Try.func69, Try.ntmps69
  go_wp2_with fail
  go_loopw [0, 1, 5] (fun s i o wr => ∃ (a b : ByteArray) (j : Nat), s = .string a ∧ i = .int .i64 (j : Int) ∧ o = .string b ∧ j ≤ n ∧ Hid (a.size * j + b.size = S) ∧ Hid (a.size ≤ 2000000) ∧ SameW wr w) (fun _ i _ _ => (intOf i).toNat)
  case atStart => exact ⟨s0, ByteArray.empty, n, rfl, rfl, rfl, Nat.le_refl _, Lib.hid hS, Lib.hid (by omega), SameW.refl _⟩
  case round =>
    obtain ⟨a, b, j, rfl, rfl, rfl, hj, HS, HA, hw⟩ := hrel
    have hw := hw.out
    subst hw
    by_cases hj0 : 0 < j
    · have j0 : (0 : Int) < (j : Int) := by omega
      have hle := many_le HS.out hj0
      rcases Nat.mod_two_eq_zero_or_one j with hm | hm
      · obtain ⟨q, rfl⟩ : ∃ q, j = 2 * q := ⟨j / 2, by omega⟩
        have hm1 : (((2 * q : Nat) : Int) % 2 == 1) = false := by first | (simp; done) | (simp; omega)
        have HS2 := Lib.hid (many_even HS.out)
        have hq : ((2 * q : Nat) : Int) / 2 = (q : Int) := by omega
        go_wp2_with fail
        go_roundw
        case rel => exact ⟨a ++ a, b, q, rfl, by simp, rfl, by omega, by rw [size_app]; exact HS2, Lib.hid (by rw [size_app]; omega), SameW.refl _⟩
        case measure => simp [intOf]; omega
      · obtain ⟨q, rfl⟩ : ∃ q, j = 2 * q + 1 := ⟨j / 2, by omega⟩
        have hm1 : (((2 * q + 1 : Nat) : Int) % 2 == 1) = true := by first | (simp; done) | (simp; omega)
        have HS2 := Lib.hid (many_odd HS.out)
        go_wp2_with fail
        go_roundw
        case rel => exact ⟨a ++ a, b ++ a, q, rfl, by first | (simp; done) | (simp; omega), rfl, by omega, by rw [size_app, size_app]; exact HS2, Lib.hid (by rw [size_app]; omega), SameW.refl _⟩
        case measure => simp [intOf]; omega
    · obtain rfl : j = 0 := by omega
      go_wp2_with fail
      go_ret
      exact ⟨b, rfl, by have := HS.out; omega, rfl⟩
theorem l6Many_v (x : Int) (m : Nat) (w : World) (hx : x = (m : Int)) (hm : m ≤ 201) : Calls Try.prog 69 #[.string ⟨#[118]⟩, .int .i64 x] w (Many m w) := by
  subst hx
  exact l6Many_any _ m m w (by rw [size118]; omega) (by omega) (by omega) (by rw [size118]; omega)
theorem l6Many_y (x : Int) (m : Nat) (w : World) (hx : x = (m : Int)) (hm : m ≤ 201) : Calls Try.prog 69 #[.string ⟨#[121]⟩, .int .i64 x] w (Many m w) := by
  subst hx
  exact l6Many_any _ m m w (by rw [size121]; omega) (by omega) (by omega) (by rw [size121]; omega)
end Go.Proofs.Ytfokpjoeankobaa
