/- sz at Raid. No condition. -/
import Derived.Test.YtgipchipcoaajaaFamDSz
import Derived.Test.YtgipchipcoaajaaChecked
namespace Go.Proofs.Ytgipchipcoaajaa
set_option linter.unusedVariables false
set_option linter.unusedSimpArgs false
set_option linter.unnecessarySimpa false
open Go.RowKit

def sizeRaid (x : RaidD) : Nat := x.length + (x.map sizeDisk).sum
set_option maxRecDepth 100000 in
set_option maxHeartbeats 2000000 in
theorem szDiskS_any (A : Option Addr) (n c : Nat) (xs : List DiskD) (w : World) (lo hi : Nat) (left : Int) (h : SliceR DiskR 3 w lo hi A n c xs) (h0 : 0 ≤ left) (h1 : left ≤ 1048576) :
    Calls Try.prog 102 #[.slice A n c, .int .i64 left] w (SzPost (xs.length + (xs.map sizeDisk).sum) left w) := by
  have hl := h.len
  have hn := h.max
  have HL := Lib.hid hl
  have H := Lib.hid h
  clear h hl
  go_enter Try.func102, Try.ntmps102
  by_cases q1 : left - (n : Int) < 0
  · go_wp2_with fail
    go_ret
    exact ⟨-1, rfl, by omega, by omega, fun h => by omega, Below.refl _ _⟩
  go_wp2_with fail
  go_loopw [1, 5] (fun s i wr => ∃ (k : Nat) (l : Int), k ≤ n ∧ i = .int .i64 k ∧ s = .int .i64 l ∧ 0 ≤ l ∧ l ≤ left ∧ Hid (l + (((xs.take k).map sizeDisk).sum : Nat) ≤ left - n) ∧ Below w.heap.size w wr) (fun _ i _ => n - (intOf i).toNat)
  case atStart => exact ⟨0, left - (n : Int), Nat.zero_le _, rfl, rfl, by omega, by omega, Lib.hid (by simp), Below.refl _ _⟩
  case round =>
    obtain ⟨k, l, hk, rfl, rfl, l0, l1, HS, hB⟩ := hrel
    by_cases hlt : k < n
    · obtain ⟨x, hx⟩ : ∃ x, xs[k]? = some x := ⟨xs[k]'(by rw [HL.out]; exact hlt), List.getElem?_eq_getElem _⟩
      obtain ⟨b, off, rfl, _, _, bl, hc⟩ := (SliceR.below H.out hB (DiskR.below hB H.out.lo_le)).at_ (by omega)
      obtain ⟨cs, hcl, hcc, hr⟩ := hc k x hx
      clear hc
      have hss := sum_take sizeDisk hx
      have HSS := Lib.hid hss
      clear hss hx
      obtain ⟨cells_, waits_, gone_⟩ := x
      have hr0 := hr
      obtain ⟨Aa0, na0, ca0, Aa1, na1, ca1, rfl, ha0, ha1⟩ := hr0
      have G := Lib.hid hr
      clear hr ha0 ha1
      have q_0 := hcc 0 _ rfl
      have q_1 := hcc 1 _ rfl
      have q_2 := hcc 2 _ rfl
      simp only [Nat.add_zero] at q_0
      clear hcc hcl
      have k0 : (0 : Int) ≤ (k : Int) := by omega
      have k1 : (k : Int) < (n : Int) := by omega
      go_wp2_with fail
      refine (szDisk_any [.slice Aa0 na0 ca0, .slice Aa1 na1 ca1, .bool gone_] _ _ _ _ l G.out l0 (by omega)).mono ?_
      rintro e w2 ⟨r, rfl, p1, o1, s1, hb2⟩
      have P1 := Lib.hid s1; clear s1
      have hB2 : Below w.heap.size w w2 := hB.trans (hb2.mono hB.size)
      clear hb2 G
      by_cases q2 : r < 0
      · go_wp2_with fail
        go_ret
        exact ⟨-1, rfl, by omega, by omega, fun h => by omega, hB2⟩
      have HN : Hid (r + (((xs.take (k + 1)).map sizeDisk).sum : Nat) ≤ left - n) := Lib.hid (by have a := P1.out (by omega); have b := HS.out; have c := HSS.out; rw [c]; omega)
      go_wp2_with fail
      go_roundw
      case rel => exact ⟨k + 1, r, by omega, by go_num, rfl, by omega, by omega, HN, hB2⟩
      case measure => simp [intOf]; omega
    · obtain rfl : k = n := by omega
      have hfin := HS.out
      rw [List.take_of_length_le (by have := HL.out; omega)] at hfin
      have HF := Lib.hid hfin; clear hfin
      go_wp2_with fail
      go_ret
      exact ⟨l, rfl, by omega, by omega, fun _ => by have := HF.out; have := HL.out; omega, hB⟩

set_option maxRecDepth 100000 in
set_option maxHeartbeats 2000000 in
theorem szRaid_any (cs : List Value) (x : RaidD) (w : World) (lo hi : Nat) (left : Int) (h : RaidR w lo hi cs x) (h0 : 0 ≤ left) (h1 : left ≤ 1048576) :
    Calls Try.prog 46 #[.agg cs.toArray, .int .i64 left] w (SzPost (sizeRaid x) left w) := by
  obtain ⟨disks_, rfl⟩ : ∃ y, y = x := ⟨_, rfl⟩
  obtain ⟨Aa0, na0, ca0, rfl, ha0⟩ := h
  show Calls Try.prog 46 #[.agg #[.slice Aa0 na0 ca0], .int .i64 left] w _
  have Hha0 := Lib.hid ha0
  have Nha0 := Hha0.out.max
  clear ha0
  go_enter Try.func46, Try.ntmps46
  go_wp2_with fail
  refine (szDiskS_any _ _ _ disks_ _ lo hi (left) (SliceR.below Hha0.out bel1 (DiskR.below bel1 Hha0.out.lo_le)) (by omega) (by omega)).mono ?_
  rintro e w1 ⟨r1, rfl, p1, o1, s1, hb1⟩
  have P1 := Lib.hid s1; clear s1
  have X1 : Below w.heap.size w w1 := Below.trans bel1 (hb1.mono (by first | exact bel1.size | (simp <;> omega)))
  have c1_0 : w1.cell? ⟨w.heap.size, 0, none⟩ = some (.slice Aa0 na0 ca0) := (hb1.cell (by simp)).trans (by simp [go_sem])
  clear hb1
  by_cases q1 : r1 < 0
  · go_wp2_with fail
    go_ret
    exact ⟨-1, rfl, by omega, by omega, fun h => by omega, X1⟩
  go_wp2_with fail
  go_ret
  have P1 := P1.out (by omega)
  exact ⟨r1, rfl, by omega, by omega, fun _ => by show ((disks_.length + (disks_.map sizeDisk).sum : Nat) : Int) ≤ _; omega, X1⟩

end Go.Proofs.Ytgipchipcoaajaa
