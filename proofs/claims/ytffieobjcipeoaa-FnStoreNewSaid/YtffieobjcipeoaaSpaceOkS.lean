/- SpaceOk of the reference returns the plain test spOk. No condition. -/
import Derived.Test.YtffieobjcipeoaaSpaceOk
namespace Go.Proofs.Ytffieobjcipeoaa
set_option linter.unusedVariables false
set_option linter.unusedSimpArgs false
set_option linter.unnecessarySimpa false
open Go.RowKit

set_option maxHeartbeats 1000000 in
theorem spSpaceOk_any (A B : Option Addr) (n c m d : Nat) (xs ys : List Int) (w : World) (hA : IntsAt w A n xs) (hB : IntsAt w B m ys) :
    Calls Try.prog 108 #[.agg #[.slice A n c, .slice B m d]] w fun e w' => e = .returned (.bool (spOk xs ys)) ∧ Below w.heap.size w w' := by
  have hn := hA.max
  have hm := hB.max
  by_cases h1 : n = 64
  · subst h1
    by_cases h2 : m = 64
    · subst h2
      go_enter Try.func108, Try.ntmps108
      go_wp2_with fail
      go_loopw [3] (fun i wr => ∃ k : Nat, k ≤ 64 ∧ i = .int .i64 k ∧ Hid (∀ j, j < k → rowOk j (xs.getD j 0) (ys.getD j 0)) ∧ Quiet (w.alloc (.cells #[.slice A 64 c, .slice B 64 d] 27)) wr) (fun i _ => 64 - (intOf i).toNat)
      case atStart => exact ⟨0, Nat.zero_le _, rfl, fun j hj => absurd hj (by omega), Quiet.refl _⟩
      case round =>
        obtain ⟨k, hk, rfl, HP, q, rfl⟩ := hrel
        by_cases hlt : k < 64
        · obtain ⟨b, off, rfl, hb, hc⟩ := hA.at_ hlt
          obtain ⟨b', off', rfl, hb', hc'⟩ := hB.at_ hlt
          have h1 := hc k hlt
          have h2 := hc' k hlt
          clear hc hc'
          obtain ⟨r, hr⟩ : ∃ r, r = xs.getD k 0 := ⟨_, rfl⟩
          obtain ⟨l, hl⟩ : ∃ l, l = ys.getD k 0 := ⟨_, rfl⟩
          rw [← hr] at h1
          rw [← hl] at h2
          have hbad : (¬ (0 ≤ r ∧ r ≤ 900 ∧ r ≤ l ∧ l ≤ 900 ∧ (r = 0 → l = 0) ∧ (0 < r → 8 ≤ k))) → spOk xs ys = false := by
            intro hno
            refine spOk_no fun hs => hno ?_
            have := hs.2.2 k hlt
            rw [← hr, ← hl] at this
            exact this
          have hgood : (0 ≤ r ∧ r ≤ 900 ∧ r ≤ l ∧ l ≤ 900 ∧ (r = 0 → l = 0) ∧ (0 < r → 8 ≤ k)) → Hid (∀ j, j < k + 1 → rowOk j (xs.getD j 0) (ys.getD j 0)) := by
            intro hyes j hj
            rcases Nat.lt_or_ge j k with h | h
            · exact HP.out j h
            · obtain rfl : j = k := by omega
              rw [← hr, ← hl]
              exact hyes
          clear hr hl HP
          have HG := Lib.hid hgood
          have HB := Lib.hid hbad
          clear hgood hbad
          by_cases q1 : 0 ≤ l ∧ l ≤ 900
          · have e1 := inB_yes q1
            obtain ⟨q1, q1'⟩ := q1
            by_cases q2 : 0 ≤ r ∧ r ≤ l
            · have e2 := inB_yes q2
              obtain ⟨q2, q2'⟩ := q2
              by_cases q3 : r = 0
              · subst q3
                by_cases q4 : l = 0
                · subst q4
                  by_cases q5 : 8 ≤ k
                  · have e4 : inB (k : Int) 8 63 = true := inB_yes ⟨by omega, by omega⟩
                    have HR := HG.out (by omega); clear HG HB
                    go_wp2_with fail; go_quiet ((first | (go_at_call 56; exact quiet_add_left (l6In_any _ _ _ _)) | (go_at_call 81; exact quiet_add_left (l2Row_any _ _)))); go_wp2
                    go_roundw
                    case rel => exact ⟨k + 1, by omega, by go_num, HR, ⟨_, rfl⟩⟩
                    case measure => simp [intOf]; omega
                  · have e4 : inB (k : Int) 8 63 = false := inB_no (by omega)
                    have HR := HG.out (by omega); clear HG HB
                    go_wp2_with fail; go_quiet ((first | (go_at_call 56; exact quiet_add_left (l6In_any _ _ _ _)) | (go_at_call 81; exact quiet_add_left (l2Row_any _ _)))); go_wp2
                    go_roundw
                    case rel => exact ⟨k + 1, by omega, by go_num, HR, ⟨_, rfl⟩⟩
                    case measure => simp [intOf]; omega
                · have e3 : (l != 0) = true := by simpa using q4
                  have hf := Lib.hid (HB.out (by omega)); clear HB HG
                  go_wp2_with fail; go_quiet ((first | (go_at_call 56; exact quiet_add_left (l6In_any _ _ _ _)) | (go_at_call 81; exact quiet_add_left (l2Row_any _ _)))); go_wp2
                  go_ret
                  exact ⟨ret_bool hf.out.symm, by repeat (first | exact (Below.refl _ _).alloc (Nat.le_refl _) _ | apply below_drewN)⟩
              · have e3 : (r == 0) = false := by simpa using q3
                have e3' : 0 < r := by omega
                by_cases q5 : 8 ≤ k
                · have e4 : inB (k : Int) 8 63 = true := inB_yes ⟨by omega, by omega⟩
                  have HR := HG.out (by omega); clear HG HB
                  go_wp2_with fail; go_quiet ((first | (go_at_call 56; exact quiet_add_left (l6In_any _ _ _ _)) | (go_at_call 81; exact quiet_add_left (l2Row_any _ _)))); go_wp2
                  go_roundw
                  case rel => exact ⟨k + 1, by omega, by go_num, HR, ⟨_, rfl⟩⟩
                  case measure => simp [intOf]; omega
                · have e4 : inB (k : Int) 8 63 = false := inB_no (by omega)
                  have hf := Lib.hid (HB.out (by omega)); clear HB HG
                  go_wp2_with fail; go_quiet ((first | (go_at_call 56; exact quiet_add_left (l6In_any _ _ _ _)) | (go_at_call 81; exact quiet_add_left (l2Row_any _ _)))); go_wp2
                  go_ret
                  exact ⟨ret_bool hf.out.symm, by repeat (first | exact (Below.refl _ _).alloc (Nat.le_refl _) _ | apply below_drewN)⟩
            · have e2 := inB_no q2
              have hf := Lib.hid (HB.out (by omega)); clear HB HG
              go_wp2_with fail; go_quiet ((first | (go_at_call 56; exact quiet_add_left (l6In_any _ _ _ _)) | (go_at_call 81; exact quiet_add_left (l2Row_any _ _)))); go_wp2
              go_ret
              exact ⟨ret_bool hf.out.symm, by repeat (first | exact (Below.refl _ _).alloc (Nat.le_refl _) _ | apply below_drewN)⟩
          · have e1 := inB_no q1
            have hf := Lib.hid (HB.out (by omega)); clear HB HG
            go_wp2_with fail; go_quiet ((first | (go_at_call 56; exact quiet_add_left (l6In_any _ _ _ _)) | (go_at_call 81; exact quiet_add_left (l2Row_any _ _)))); go_wp2
            go_ret
            exact ⟨ret_bool hf.out.symm, by repeat (first | exact (Below.refl _ _).alloc (Nat.le_refl _) _ | apply below_drewN)⟩
        · have hf := Lib.hid (spOk_iff.2 ⟨hA.len, hB.len, fun j hj => HP.out j (by omega)⟩)
          go_wp2
          go_ret
          exact ⟨ret_bool hf.out.symm, by repeat (first | exact (Below.refl _ _).alloc (Nat.le_refl _) _ | apply below_drewN)⟩
    · have hf := Lib.hid (spOk_no (xs := xs) (ys := ys) fun hs => h2 (hB.len ▸ hs.2.1))
      have e2 : ((m : Int) != 64) = true := by simp; omega
      clear h2
      go_enter Try.func108, Try.ntmps108
      go_wp2
      go_ret
      exact ⟨ret_bool hf.out.symm, by repeat (first | exact (Below.refl _ _).alloc (Nat.le_refl _) _ | apply below_drewN)⟩
  · have hf := Lib.hid (spOk_no (xs := xs) (ys := ys) fun hs => h1 (hA.len ▸ hs.1))
    have e2 : ((n : Int) != 64) = true := by simp; omega
    clear h1
    go_enter Try.func108, Try.ntmps108
    go_wp2
    go_ret
    exact ⟨ret_bool hf.out.symm, by repeat (first | exact (Below.refl _ _).alloc (Nat.le_refl _) _ | apply below_drewN)⟩
end Go.Proofs.Ytffieobjcipeoaa
