/- The checksum of a text: both return sumL. No condition. -/
import Derived.Test.YtkmkmndcgemnlaaGreatDoorRecs
namespace Go.Proofs.YtkmkmndcgemnlaaGreatDoor
set_option linter.unusedVariables false
set_option linter.unusedSimpArgs false
set_option linter.unnecessarySimpa false
open Go Go.Lib Go.RowKit

theorem str_get {s : ByteArray} {j : Nat} (h : j < s.size) : ∃ (c : UInt8) (x : Nat), s.data.toList[j]? = some c ∧ x = c.toNat ∧ x < 256 ∧ (s[j]'h).toNat = x := by
  refine ⟨s[j]'h, _, ?_, rfl, UInt8.toNat_lt _, rfl⟩
  have h2 : j < s.data.size := h
  have h3 : j < s.data.toList.length := by rw [Array.length_toList]; exact h2
  rw [List.getElem?_eq_getElem h3]
  rfl
theorem take_all (s : ByteArray) : s.data.toList.take s.size = s.data.toList := by
  apply List.take_of_length_le
  rw [Array.length_toList]
  exact Nat.le_refl _
set_option maxRecDepth 100000 in
set_option maxHeartbeats 2000000 in
theorem sumOf_any (s : ByteArray) (hs : s.size ≤ 9223372036854775807) (w : World) :
    Calls Tryz.prog 67 #[.string s] w fun e w' => e = .returned (.int .i64 (sumL s.data.toList : Nat)) ∧ w = w' := by
  go_enter Tryz.func67, Tryz.ntmps67
  go_wp2_with fail
  go_loopw [3, 4, 8] (fun a b i wr => ∃ (j p1 p2 : Nat), a = .int .i64 (p1 : Int) ∧ b = .int .i64 (p2 : Int) ∧ i = .int .i64 (j : Int) ∧ j ≤ s.size ∧ p1 < 9973 ∧ p2 < 9973 ∧ Hid (sum2 (s.data.toList.take j) = (p1, p2)) ∧ SameW wr w) (fun _ _ i _ => s.size - (intOf i).toNat)
  case atStart => exact ⟨0, 1, 0, rfl, rfl, rfl, Nat.zero_le _, by omega, by omega, Lib.hid rfl, SameW.refl _⟩
  case round =>
    obtain ⟨j, p1, p2, rfl, rfl, rfl, hj, h1, h2, HS, hw⟩ := hrel
    have hw := hw.out
    subst hw
    by_cases hlt : j < s.size
    · have hd : ((j : Nat) : Int) < (s.size : Int) := by omega
      obtain ⟨c, x, hc, hx, hx2, hg⟩ := str_get hlt
      have HS2 : Hid (sum2 (s.data.toList.take (j + 1)) = ((p1 + x + 1) % 9973, ((p1 + x + 1) % 9973 + p2) % 9973)) := Lib.hid (by rw [sum2_take _ _ _ hc, HS.out, hx]; rfl)
      clear hc hx HS
      go_wp2_with fail
      go_roundw
      case rel => exact ⟨j + 1, (p1 + x + 1) % 9973, ((p1 + x + 1) % 9973 + p2) % 9973, by simp [hg], by simp [hg], by simp, by omega, Nat.mod_lt _ (by decide), Nat.mod_lt _ (by decide), HS2, SameW.refl _⟩
      case measure => simp [intOf]; omega
    · have hd : ¬ ((j : Nat) : Int) < (s.size : Int) := by omega
      obtain rfl : j = s.size := by omega
      have HE : Hid (sumL s.data.toList = p1 * 9973 + p2) := Lib.hid (by unfold sumL; rw [← take_all s, HS.out])
      go_wp2_with fail
      go_ret
      exact ⟨ret_int (by rw [HE.out]; simp), rfl⟩
set_option maxRecDepth 100000 in
set_option maxHeartbeats 2000000 in
theorem spSumOf_any (s : ByteArray) (hs : s.size ≤ 9223372036854775807) (w : World) :
    Calls Tryz.prog 41 #[.string s] w fun e w' => e = .returned (.int .i64 (sumL s.data.toList : Nat)) ∧ w = w' := by
  go_enter Tryz.func41, Tryz.ntmps41
  go_wp2_with fail
  go_loopw [3, 4, 5] (fun a b i wr => ∃ (j p1 p2 : Nat), a = .int .i64 (p1 : Int) ∧ b = .int .i64 (p2 : Int) ∧ i = .int .i64 (j : Int) ∧ j ≤ s.size ∧ p1 < 9973 ∧ p2 < 9973 ∧ Hid (sum2 (s.data.toList.take j) = (p1, p2)) ∧ SameW wr w) (fun _ _ i _ => s.size - (intOf i).toNat)
  case atStart => exact ⟨0, 1, 0, rfl, rfl, rfl, Nat.zero_le _, by omega, by omega, Lib.hid rfl, SameW.refl _⟩
  case round =>
    obtain ⟨j, p1, p2, rfl, rfl, rfl, hj, h1, h2, HS, hw⟩ := hrel
    have hw := hw.out
    subst hw
    by_cases hlt : j < s.size
    · have hd : ((j : Nat) : Int) < (s.size : Int) := by omega
      obtain ⟨c, x, hc, hx, hx2, hg⟩ := str_get hlt
      have HS2 : Hid (sum2 (s.data.toList.take (j + 1)) = ((p1 + x + 1) % 9973, ((p1 + x + 1) % 9973 + p2) % 9973)) := Lib.hid (by rw [sum2_take _ _ _ hc, HS.out, hx]; rfl)
      clear hc hx HS
      go_wp2_with fail
      go_roundw
      case rel => exact ⟨j + 1, (p1 + x + 1) % 9973, ((p1 + x + 1) % 9973 + p2) % 9973, by simp [hg], by simp [hg, Int.add_comm], by simp, by omega, Nat.mod_lt _ (by decide), Nat.mod_lt _ (by decide), HS2, SameW.refl _⟩
      case measure => simp [intOf]; omega
    · have hd : ¬ ((j : Nat) : Int) < (s.size : Int) := by omega
      obtain rfl : j = s.size := by omega
      have HE : Hid (sumL s.data.toList = p1 * 9973 + p2) := Lib.hid (by unfold sumL; rw [← take_all s, HS.out])
      go_wp2_with fail
      go_ret
      exact ⟨ret_int (by rw [HE.out]; simp), rfl⟩
end Go.Proofs.YtkmkmndcgemnlaaGreatDoor
