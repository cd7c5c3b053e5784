/- slices.Grow of a nil list, slices.Concat at lists of ints. Condition: all lengths together below 2^40. -/
import Derived.Test.YtfokpjoeankobaaLib
import Derived.Test.YtfokpjoeankobaaTypes
import Derived.Lib.AppendZeros
namespace Go.Proofs.Ytfokpjoeankobaa
set_option linter.unusedVariables false
set_option linter.unusedSimpArgs false
set_option linter.unnecessarySimpa false
open Go.RowKit

/-- A new list of the call's own. -/
def NewA (w : World) (n : Nat) (xs : List Int) (e : Ending) (w' : World) : Prop :=
  ∃ A c S, e = .returned (.slice A n c) ∧ OwnA w' 3 1 S A n c (xs.map (Value.int .i64)) ∧ (∀ g ∈ S, w.heap.size ≤ g) ∧ Below w.heap.size w w'
/-- A slice of ints in one cell. -/
def IntSR : Reads (List Int) := fun w lo hi cs xs => ∃ A n c, cs = [.slice A n c] ∧ SliceR IntR 1 w lo hi A n c xs
theorem IntSR.below {w w' : World} {lo hi : Nat} (hb : Below w.heap.size w w') (hhi : hi ≤ w.heap.size) (cs : List Value) (x : List Int) (h : IntSR w lo hi cs x) : IntSR w' lo hi cs x := by
  obtain ⟨A, n, c, rfl, h⟩ := h
  exact ⟨A, n, c, rfl, h.below hb (IntR.below hb hhi)⟩
set_option maxRecDepth 100000 in
set_option maxHeartbeats 1000000 in
theorem grow_any (n : Nat) (hn : n ≤ 1099511627776) (w : World) : Calls Try.prog 60 #[.slice none 0 0, .int .i64 n] w (NewA w 0 []) := by
  obtain ⟨i0, hi, hz, hs, hb⟩ := info_parts info_int
  rcases Nat.eq_zero_or_pos n with h0 | h0
  · subst h0
    go_enter Try.func60, Try.ntmps60
    go_wp2_with fail
    go_ret
    exact ⟨none, 0, [], rfl, OwnA.nil _, by simp, Below.refl _ _⟩
  · have hr := Lib.run_append_nil_zeros (P := Try.prog) w 24 3 24 3 i0 (.int .i64 0) .i64 .i64 Try.underlying24 Try.underlying3 hi hz n h0 (by rw [hs]; decide) (by omega) (by rw [hb]; omega)
    have hge : 0 ≤ grownCap w n 0 3 := Nat.zero_le _
    have hcm := grownCap_le_maxLen w n 0 3 (by unfold maxLen; omega)
    have hge := grownCap_ge w n 0 3
    generalize grownCap w n 0 3 = cp at *
    have hsz : (Builtin.zeroCells (Value.int .i64 0).cells n ++ Builtin.zeroCells (Value.int .i64 0).cells (cp - n)).size = cp := by
      simp only [Array.size_append, size_zeroCells]
      have : (Value.int IntKind.i64 0).cells.size = 1 := rfl
      rw [this]; omega
    generalize Builtin.zeroCells (Value.int .i64 0).cells n ++ Builtin.zeroCells (Value.int .i64 0).cells (cp - n) = cur at *
    have HSZ := Lib.hid hsz; clear hsz
    have HCM := Lib.hid hcm; clear hcm
    have hn0 : (0 : Int) < (n : Int) := by omega
    have hn1 : ¬ (n : Int) < 0 := by omega
    go_enter Try.func60, Try.ntmps60
    go_wp2_with (at_builtin; refine Lib.wpList_append_run _ rfl _ _ _ _ rfl _ _ rfl rfl _ _ hr ?_)
    go_ret
    refine ⟨_, cp, [w.heap.size], rfl, ⟨.inr ⟨w.heap.size, cur, rfl, rfl, by simp, Nat.zero_le _, HCM.out, heap_alloc_new w.drew _, by rw [HSZ.out]; simp, fun j hj => absurd hj (by simp)⟩, fun h => by simp at h⟩, by simp, ?_⟩
    exact (Below.drew (Below.refl _ _)).alloc (by simp) _

set_option maxRecDepth 100000 in
set_option maxHeartbeats 2000000 in
theorem concat_any (A : Option Addr) (n c : Nat) (xss : List (List Int)) (w : World) (lo hi : Nat) (h : SliceR IntSR 1 w lo hi A n c xss) (hsum : (xss.map List.length).sum ≤ 1099511627776) :
    Calls Try.prog 35 #[.slice A n c] w (NewA w (xss.map List.length).sum xss.flatten) := by
  obtain ⟨i0, hi0, hz0, hz1, hz2⟩ := info_parts info_int
  have hl := Lib.hid h.len
  have hn := h.max
  have H := Lib.hid h; clear h
  have HS := Lib.hid hsum; clear hsum
  have hpart : ∀ k, ((xss.take k).map List.length).sum ≤ 1099511627776 := fun k => by
    have h2 : ((xss.take k).map List.length).sum + ((xss.drop k).map List.length).sum = (xss.map List.length).sum := by
      rw [← List.sum_append, ← List.map_append, List.take_append_drop]
    have := HS.out; omega
  have HP := Lib.hid hpart; clear hpart
  go_enter Try.func35, Try.ntmps35
  go_wp2_with fail
  go_loopw [3, 11] (fun s i wr => ∃ k z : Nat, k ≤ n ∧ i = .int .i64 k ∧ s = .int .i64 z ∧ Hid (z = ((xss.take k).map List.length).sum) ∧ SameW wr w) (fun _ i _ => n - (intOf i).toNat)
  case atStart => exact ⟨0, 0, Nat.zero_le _, rfl, rfl, Lib.hid rfl, SameW.refl _⟩
  case round =>
    obtain ⟨k, z, hk, rfl, rfl, HZ, HW⟩ := hrel
    obtain rfl := HW.out
    clear HW
    by_cases hlt : k < n
    · obtain ⟨b, off, rfl, _, _, bl, hc⟩ := H.out.at_ (by omega)
      obtain ⟨x, hx⟩ : ∃ x, xss[k]? = some x := ⟨xss[k]'(by rw [hl.out]; exact hlt), List.getElem?_eq_getElem _⟩
      obtain ⟨cs, hcl, hcc, A1, n1, c1, rfl, hr⟩ := hc k x hx
      clear hc
      have q0 := hcc 0 _ rfl
      simp only [Nat.mul_one, Nat.add_zero] at q0
      clear hcc hcl
      have hn1 := hr.max
      have hst := sum_take List.length hx
      have hzz : z + n1 ≤ 1099511627776 := by have := HP.out (k + 1); rw [hst, hr.len, ← HZ.out] at this; exact this
      have HZ1 : Hid (z + n1 = ((xss.take (k + 1)).map List.length).sum) := Lib.hid (by rw [hst, hr.len, ← HZ.out])
      clear hst hx hr HZ
      have k0 : (0 : Int) ≤ (k : Int) := by omega
      have k1 : (k : Int) < (n : Int) := by omega
      go_wp2_with fail
      go_roundw
      case rel => exact ⟨k + 1, z + n1, by omega, by go_num, by go_num, HZ1, SameW.refl _⟩
      case measure => simp [intOf]; omega
    · obtain rfl : k = n := by omega
      have hz := HP.out k
      rw [← HZ.out] at hz
      clear HZ
      go_wp2_with fail
      refine (grow_any z hz wr).mono ?_
      rintro e w1 ⟨A1, c1, S1, rfl, hO1, hS1, hb1⟩
      have HO1 := Lib.hid hO1; clear hO1
      have HS1 := Lib.hid hS1; clear hS1
      go_wp2_with fail
      go_loopw [6, 27] (fun s i w2 => ∃ (k' z' : Nat) (A2 : Option Addr) (c2 : Nat) (S2 : List Nat), k' ≤ k ∧ i = .int .i64 k' ∧ s = .slice A2 z' c2 ∧ Hid (z' = ((xss.take k').map List.length).sum) ∧ Hid (OwnA w2 3 1 S2 A2 z' c2 ((xss.take k').flatten.map (Value.int .i64))) ∧ Hid (∀ g ∈ S2, wr.heap.size ≤ g) ∧ Hid (Below wr.heap.size wr w2)) (fun _ i _ => k - (intOf i).toNat)
      case atStart => exact ⟨0, 0, A1, c1, S1, Nat.zero_le _, rfl, rfl, Lib.hid rfl, HO1, HS1, Lib.hid hb1⟩
      case round =>
        clear HO1 HS1 hb1
        obtain ⟨k', z', A2, c2, S2, hk', rfl, rfl, HZ', HO2, HS2, HB2⟩ := hrel
        by_cases hlt : k' < k
        · obtain ⟨x, hx⟩ : ∃ x, xss[k']? = some x := ⟨xss[k']'(by rw [hl.out]; exact hlt), List.getElem?_eq_getElem _⟩
          obtain ⟨b, off, rfl, _, _, bl, hc⟩ := (SliceR.below H.out HB2.out (IntSR.below HB2.out H.out.lo_le)).at_ (by omega)
          obtain ⟨cs, hcl, hcc, A3, n3, c3, rfl, hr⟩ := hc k' x hx
          clear hc
          have q0 := hcc 0 _ rfl
          simp only [Nat.mul_one, Nat.add_zero] at q0
          clear hcc hcl
          have hst := sum_take List.length hx
          have hzz : z' + n3 ≤ 1099511627776 := by have := HP.out (k' + 1); rw [hst, hr.len, ← HZ'.out] at this; exact this
          have HZ1 : Hid (z' + n3 = ((xss.take (k' + 1)).map List.length).sum) := Lib.hid (by rw [hst, hr.len, ← HZ'.out])
          have hfl : (xss.take (k' + 1)).flatten = (xss.take k').flatten ++ x := by
            obtain ⟨hk2, rfl⟩ := List.getElem?_eq_some_iff.1 hx
            rw [List.take_succ_eq_append_getElem hk2, List.flatten_append]
            simp
          have HFL := Lib.hid hfl
          have HI := Lib.hid hr.ints
          clear hst hx hr HZ' hfl
          have k0 : (0 : Int) ≤ (k' : Int) := by omega
          have k1 : (k' : Int) < (k : Int) := by omega
          go_wp2_with (at_builtin; go_must (refine wpList_append_row rfl _ _ 24 rfl 3 i0 (.int .i64 0) 1 8 Try.underlying24 hi0 hz0 hz1 hz2 rfl (by decide) S2 A2 A3 z' c2 n3 c3 _ (x.map (Value.int .i64)) rfl rfl HO2.out HI.out.row (ints_one x) (by unfold maxLen; omega) (by omega) ?_); intro A4 c4 S4 w4 hO4 hS4 hC4)
          go_roundw
          case rel =>
            refine ⟨k' + 1, z' + n3, A4, c4, S4, by omega, by go_num, rfl, HZ1, Lib.hid (by rw [HFL.out, List.map_append]; exact hO4), Lib.hid ?_, Lib.hid ?_⟩
            · intro g hg
              rcases hS4 g hg with h | h
              · exact HS2.out g h
              · exact Nat.le_trans HB2.out.size h
            · exact HB2.out.trans (hC4.below (fun g _ hg => HS2.out g hg) HB2.out.size)
          case measure => simp [intOf]; omega
        · obtain rfl : k' = k := by omega
          go_wp2_with fail
          go_ret
          have hall : xss.take k' = xss := List.take_of_length_le (by rw [hl.out]; exact Nat.le_refl _)
          have hz := HZ'.out
          have hO := HO2.out
          rw [hall] at hz hO
          subst hz
          exact ⟨A2, c2, S2, rfl, hO, HS2.out, HB2.out⟩
end Go.Proofs.Ytfokpjoeankobaa
