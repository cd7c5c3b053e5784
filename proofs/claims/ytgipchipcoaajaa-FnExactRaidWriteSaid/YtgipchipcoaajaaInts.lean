/- The laws' helpers on lists of ints: what they return. No condition. -/
import Derived.Test.YtgipchipcoaajaaLib
import Derived.Test.YtgipchipcoaajaaChecked
namespace Go.Proofs.Ytgipchipcoaajaa
set_option linter.unusedVariables false
set_option linter.unusedSimpArgs false
set_option linter.unnecessarySimpa false
open Go.RowKit

theorem eqInts_of_getD {n : Nat} {xs ys : List Int} (hx : xs.length = n) (hy : ys.length = n) (h : ∀ j, j < n → xs.getD j 0 = ys.getD j 0) : eqInts xs ys = true := by
  rw [eqInts_iff]
  apply List.ext_getElem (by omega)
  intro j h1 h2
  have := h j (by omega)
  simpa [List.getD, h1, h2] using this
theorem eqInts_ne {k : Nat} {xs ys : List Int} (h : xs.getD k 0 ≠ ys.getD k 0) : eqInts xs ys = false := by
  cases he : eqInts xs ys with
  | false => rfl
  | true => rw [eqInts_iff] at he; subst he; exact absurd rfl h
theorem eqInts_len {xs ys : List Int} (h : xs.length ≠ ys.length) : eqInts xs ys = false := by
  cases he : eqInts xs ys with
  | false => rfl
  | true => rw [eqInts_iff] at he; subst he; exact absurd rfl h

set_option maxHeartbeats 400000 in
theorem pfInts_any (A B : Option Addr) (n c m d : Nat) (xs ys : List Int) (w : World) (hA : IntsAt w A n xs) (hB : IntsAt w B m ys) :
    Calls Try.prog 125 #[.slice A n c, .slice B m d] w fun e w' => e = .returned (.bool (eqInts xs ys)) ∧ Quiet w w' := by
  have hn := hA.max
  have hm := hB.max
  by_cases hnm : n = m
  · subst hnm
    go_enter Try.func125, Try.ntmps125
    go_wp2
    go_loopw [5] (fun i wr => ∃ k : Nat, k ≤ n ∧ i = .int .i64 k ∧ Hid (∀ j, j < k → xs.getD j 0 = ys.getD j 0) ∧ Quiet w wr) (fun i _ => n - (intOf i).toNat)
    case atStart => exact ⟨0, Nat.zero_le _, rfl, fun j hj => absurd hj (by omega), Quiet.refl _⟩
    case round =>
      obtain ⟨k, hk, rfl, HP, q, rfl⟩ := hrel
      by_cases hlt : k < n
      · obtain ⟨b, off, rfl, _, hc⟩ := hA.at_ hlt
        obtain ⟨b', off', rfl, _, hc'⟩ := hB.at_ hlt
        have h1 := hc k hlt
        have h2 := hc' k hlt
        clear hc hc'
        go_wp2
        go_quiet (fail)
        by_cases he : xs.getD k 0 = ys.getD k 0
        · have he' : (xs[k]?.getD 0 != ys[k]?.getD 0) = false := by simpa [List.getD] using he
          have HE := Lib.hid he
          clear he
          go_wp2
          go_roundw
          case rel => exact ⟨k + 1, by omega, by go_num, fun j hj => by
            rcases Nat.lt_or_ge j k with h | h
            · exact HP.out j h
            · obtain rfl : j = k := by omega
              exact HE.out, ⟨_, rfl⟩⟩
          case measure => simp [intOf]; omega
        · have he' : (xs[k]?.getD 0 != ys[k]?.getD 0) = true := by simpa [List.getD] using he
          have hf := Lib.hid (eqInts_ne he)
          clear he
          go_wp2
          go_ret
          exact ⟨ret_bool hf.out.symm, ((Quiet.refl _).drewN _).drewN _⟩
      · have hf := Lib.hid (eqInts_of_getD hA.len hB.len fun j hj => HP.out j (by omega))
        go_wp2
        go_ret
        exact ⟨ret_bool hf.out.symm, (Quiet.refl _).drewN _⟩
  · have hf := Lib.hid (eqInts_len (xs := xs) (ys := ys) (by rw [hA.len, hB.len]; exact hnm))
    have hne : ((n : Int) != (m : Int)) = true := by simp; omega
    go_enter Try.func125, Try.ntmps125
    go_wp2
    go_ret
    exact ⟨ret_bool hf.out.symm, Quiet.refl _⟩

end Go.Proofs.Ytgipchipcoaajaa
