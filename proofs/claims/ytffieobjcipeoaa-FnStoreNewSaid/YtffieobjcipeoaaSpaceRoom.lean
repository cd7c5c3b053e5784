/- SpaceRoom, of the program and of the reference: how many of the rows from 8 on have no reference, or -1. No condition. -/
import Derived.Test.YtffieobjcipeoaaSpaceNew
namespace Go.Proofs.Ytffieobjcipeoaa
set_option linter.unusedVariables false
set_option linter.unusedSimpArgs false
set_option linter.unnecessarySimpa false
open Go.RowKit

/-- How many of the first k rows for blocks are free. -/
def roomTo (xs : List Int) (k : Nat) : Nat := (((xs.drop 8).take k).filter (· == 0)).length
theorem roomTo_le (xs : List Int) (k : Nat) : roomTo xs k ≤ k := by
  unfold roomTo
  exact Nat.le_trans (List.length_filter_le _ _) (List.length_take_le _ _)
theorem roomTo_succ {xs : List Int} (hx : xs.length = 64) {k : Nat} (hk : k < 56) : roomTo xs (k + 1) = roomTo xs k + if xs.getD (8 + k) 0 = 0 then 1 else 0 := by
  have h : k < (xs.drop 8).length := by simp; omega
  have e : (xs.drop 8)[k] = xs.getD (8 + k) 0 := by simp [List.getD, List.getElem?_eq_getElem (show 8 + k < xs.length by omega)]
  unfold roomTo
  rw [List.take_succ_eq_append_getElem h, List.filter_append, List.length_append, e]
  congr 1
  by_cases h0 : xs.getD (8 + k) 0 = 0
  · rw [if_pos h0, h0]; rfl
  · rw [if_neg h0, List.filter_cons, if_neg (by simpa using h0)]; rfl
def spRoom (xs ys : List Int) : Int := if spOk xs ys = true then roomTo xs 56 else -1

set_option maxHeartbeats 1000000 in
theorem room_any (A B : Option Addr) (c m d : Nat) (xs : List Int) (w : World) (hA : IntsAt w A 64 xs) (hc64 : 64 ≤ c) :
    Calls Try.prog 45 #[.agg #[.slice A 64 c, .slice B m d]] w fun e w' => e = .returned (.int .i64 (roomTo xs 56)) ∧ Below w.heap.size w w' := by
  obtain ⟨b, off, rfl, hb, hc⟩ := hA.at_ (show 0 < 64 by omega)
  have hlen := Lib.hid hA.len
  have hcap : ¬ c = 8 := by omega
  have hcap2 : ((c : Int) == 8) = false := by simp; omega
  go_enter Try.func45, Try.ntmps45
  go_wp2
  go_loopw [3, 10] (fun s i wr => ∃ k : Nat, k ≤ 56 ∧ i = .int .i64 k ∧ s = .int .i64 (roomTo xs k) ∧ SameW wr (w.alloc (.cells #[.slice (some ⟨b, off, none⟩) 64 c, .slice B m d] 27))) (fun _ i _ => 56 - (intOf i).toNat)
  case atStart => exact ⟨0, Nat.zero_le _, rfl, rfl, SameW.refl _⟩
  case round =>
    obtain ⟨k, hk, rfl, rfl, HW⟩ := hrel
    obtain rfl := HW.out
    clear HW
    by_cases hlt : k < 56
    · have h1 : w.cell? ⟨b, off + 8 + k, none⟩ = some (.int .i64 (xs.getD (8 + k) 0)) := by rw [Nat.add_assoc]; exact hc (8 + k) (by omega)
      have hs := Lib.hid (roomTo_succ hlen.out hlt)
      have hle := roomTo_le xs k
      clear hc
      obtain ⟨r, hr⟩ : ∃ r, r = xs.getD (8 + k) 0 := ⟨_, rfl⟩
      rw [← hr] at h1
      rw [← hr] at hs
      clear hr
      by_cases h0 : r = 0
      · have e0 : (r == 0) = true := by simpa using h0
        have HS := Lib.hid (show roomTo xs (k + 1) = roomTo xs k + 1 by rw [hs.out, if_pos h0])
        clear h0 hs
        go_wp2
        go_roundw
        case rel => exact ⟨k + 1, by omega, by go_num, by rw [HS.out]; go_num, SameW.refl _⟩
        case measure => simp [intOf]; omega
      · have e0 : (r == 0) = false := by simpa using h0
        have HS := Lib.hid (show roomTo xs (k + 1) = roomTo xs k by rw [hs.out, if_neg h0]; rfl)
        clear h0 hs
        go_wp2
        go_roundw
        case rel => exact ⟨k + 1, by omega, by go_num, by rw [HS.out], SameW.refl _⟩
        case measure => simp [intOf]; omega
    · obtain rfl : k = 56 := by omega
      go_wp2
      go_ret
      exact ⟨rfl, (Below.refl _ _).alloc (Nat.le_refl _) _⟩

set_option maxHeartbeats 1000000 in
theorem spSpaceRoom_any (A B : Option Addr) (n c m d : Nat) (xs ys : List Int) (w : World) (hA : IntsAt w A n xs) (hB : IntsAt w B m ys) :
    Calls Try.prog 68 #[.agg #[.slice A n c, .slice B m d]] w fun e w' => e = .returned (.int .i64 (spRoom xs ys)) ∧ Below w.heap.size w w' := by
  have hb : ∀ o, Below w.heap.size w (w.alloc o) := fun o => (Below.refl _ _).alloc (Nat.le_refl _) _
  cases h1 : spOk xs ys
  · have hf := Lib.hid (show spRoom xs ys = -1 by unfold spRoom; rw [if_neg (by simp [h1])])
    go_enter Try.func68, Try.ntmps68
    go_wp2_with fail
    refine (spSpaceOk_any _ _ _ _ _ _ xs ys _ (hA.below (hb _)) (hB.below (hb _))).mono ?_
    rintro e w1 ⟨rfl, hb1⟩
    have hb2 := (hb _).trans (hb1.mono (by simp))
    go_wp2_with fail
    go_ret
    exact ⟨ret_int hf.out.symm, hb2⟩
  · have hf := Lib.hid (show spRoom xs ys = roomTo xs 56 by unfold spRoom; rw [if_pos h1])
    obtain ⟨hn, hm, _⟩ := spOk_iff.1 h1
    have hn' := hA.len
    obtain rfl : n = 64 := by omega
    clear hn hm hn'
    have hlen := Lib.hid hA.len
    obtain ⟨b, off, rfl, hblk, hc⟩ := hA.at_ (show 0 < 64 by omega)
    go_enter Try.func68, Try.ntmps68
    go_wp2_with fail
    refine (spSpaceOk_any _ _ _ _ _ _ xs ys _ (hA.below (hb _)) (hB.below (hb _))).mono ?_
    rintro e w1 ⟨rfl, hb1⟩
    have hb2 := (hb _).trans (hb1.mono (by simp))
    have c0 : w1.cell? ⟨w.heap.size, 0, none⟩ = some (.slice (some ⟨b, off, none⟩) 64 c) := (hb1.cell (by simp)).trans (by simp [go_sem])
    have c1 : w1.cell? ⟨w.heap.size, 1, none⟩ = some (.slice B m d) := (hb1.cell (by simp)).trans (by simp [go_sem])
    have hcw : ∀ j, j < 64 → w1.cell? ⟨b, off + j, none⟩ = some (.int .i64 (xs.getD j 0)) := fun j hj => (hb2.cell hblk).trans (hc j hj)
    clear hc
    go_wp2_with fail
    go_loopw [3, 4] (fun s i wr => ∃ k : Nat, k ≤ 56 ∧ i = .int .i64 (8 + (k : Int)) ∧ s = .int .i64 (roomTo xs k) ∧ SameW wr w1) (fun _ i _ => 64 - (intOf i).toNat)
    case atStart => exact ⟨0, Nat.zero_le _, by go_num, rfl, SameW.refl _⟩
    case round =>
      obtain ⟨k, hk, rfl, rfl, HW⟩ := hrel
      obtain rfl := HW.out
      clear HW
      by_cases hlt : k < 56
      · have h2 : wr.cell? ⟨b, off + (8 + k), none⟩ = some (.int .i64 (xs.getD (8 + k) 0)) := hcw (8 + k) (by omega)
        have hs := Lib.hid (roomTo_succ hlen.out hlt)
        have hle := roomTo_le xs k
        have hl2 : (8 : Int) + (k : Int) < 64 := by omega
        clear hcw
        obtain ⟨r, hr⟩ : ∃ r, r = xs.getD (8 + k) 0 := ⟨_, rfl⟩
        rw [← hr] at h2
        rw [← hr] at hs
        clear hr
        by_cases h0 : r = 0
        · have e0 : (r == 0) = true := by simpa using h0
          have HS := Lib.hid (show roomTo xs (k + 1) = roomTo xs k + 1 by rw [hs.out, if_pos h0])
          clear h0 hs
          go_wp2_with fail
          go_roundw
          case rel => exact ⟨k + 1, by omega, by go_num, by rw [HS.out]; go_num, SameW.refl _⟩
          case measure => simp [intOf]; omega
        · have e0 : (r == 0) = false := by simpa using h0
          have HS := Lib.hid (show roomTo xs (k + 1) = roomTo xs k by rw [hs.out, if_neg h0]; rfl)
          clear h0 hs
          go_wp2_with fail
          go_roundw
          case rel => exact ⟨k + 1, by omega, by go_num, by rw [HS.out], SameW.refl _⟩
          case measure => simp [intOf]; omega
      · obtain rfl : k = 56 := by omega
        go_wp2_with fail
        go_ret
        exact ⟨ret_int hf.out.symm, hb2⟩
end Go.Proofs.Ytffieobjcipeoaa
