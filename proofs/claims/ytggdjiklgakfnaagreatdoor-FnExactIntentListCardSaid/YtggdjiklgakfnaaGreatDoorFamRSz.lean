/- sz at Raid. No condition. -/
import Derived.Test.YtggdjiklgakfnaaGreatDoorFamDTo
import Derived.Test.YtggdjiklgakfnaaGreatDoorChecked
namespace Go.Proofs.YtggdjiklgakfnaaGreatDoor
set_option linter.unusedVariables false
set_option linter.unusedSimpArgs false
set_option linter.unnecessarySimpa false
section
open Go.RowKit

set_option maxRecDepth 100000 in
set_option maxHeartbeats 2000000 in
theorem szStringS_any (A : Option Addr) (n c : Nat) (xs : List ByteArray) (w : World) (lo hi : Nat) (left : Int) (h : SliceR StrR 1 w lo hi A n c xs) (h0 : 0 ≤ left) (h1 : left ≤ 1048576) :
    Calls Tryz.prog 79 #[.slice A n c, .int .i64 left] w (SzPost (xs.length + (xs.map ByteArray.size).sum) left w) := by
  have hl := h.len
  have hn := h.max
  have HL := Lib.hid hl
  have H := Lib.hid h
  clear h hl
  go_enter Tryz.func79, Tryz.ntmps79
  by_cases q1 : left - (n : Int) < 0
  · go_wp2_with fail
    go_ret
    exact ⟨-1, rfl, by omega, by omega, fun h => by omega, Below.refl _ _⟩
  go_wp2_with fail
  go_loopw [1, 5] (fun s i wr => ∃ (k : Nat) (l : Int), k ≤ n ∧ i = .int .i64 k ∧ s = .int .i64 l ∧ 0 ≤ l ∧ l ≤ left ∧ Hid (l + (((xs.take k).map ByteArray.size).sum : Nat) ≤ left - n) ∧ Below w.heap.size w wr) (fun _ i _ => n - (intOf i).toNat)
  case atStart => exact ⟨0, left - (n : Int), Nat.zero_le _, rfl, rfl, by omega, by omega, Lib.hid (by simp), Below.refl _ _⟩
  case round =>
    obtain ⟨k, l, hk, rfl, rfl, l0, l1, HS, hB⟩ := hrel
    by_cases hlt : k < n
    · obtain ⟨x, hx⟩ : ∃ x, xs[k]? = some x := ⟨xs[k]'(by rw [HL.out]; exact hlt), List.getElem?_eq_getElem _⟩
      obtain ⟨b, off, rfl, _, _, bl, hc⟩ := (SliceR.below H.out hB (StrR.below hB H.out.lo_le)).at_ (by omega)
      obtain ⟨cs, hcl, hcc, hr⟩ := hc k x hx
      clear hc
      have hss := sum_take ByteArray.size hx
      have HSS := Lib.hid hss
      clear hss hx
      obtain ⟨rfl, hm⟩ := hr
      have hm : x.size ≤ 9223372036854775807 := by unfold maxLen at hm; exact hm
      have q_0 := hcc 0 _ rfl
      simp only [Nat.add_zero, Nat.mul_one] at q_0
      clear hcc hcl
      have k0 : (0 : Int) ≤ (k : Int) := by omega
      have k1 : (k : Int) < (n : Int) := by omega
      by_cases q2 : l - (x.size : Int) < 0
      · go_wp2_with fail
        go_ret
        exact ⟨-1, rfl, by omega, by omega, fun h => by omega, hB⟩
      have HN : Hid (l - (x.size : Int) + (((xs.take (k + 1)).map ByteArray.size).sum : Nat) ≤ left - n) := Lib.hid (by have b := HS.out; have c := HSS.out; rw [c]; omega)
      go_wp2_with fail
      go_roundw
      case rel => exact ⟨k + 1, l - (x.size : Int), by omega, by go_num, rfl, by omega, by omega, HN, hB⟩
      case measure => simp [intOf]; omega
    · obtain rfl : k = n := by omega
      have hfin := HS.out
      rw [List.take_of_length_le (by have := HL.out; omega)] at hfin
      have HF := Lib.hid hfin; clear hfin
      go_wp2_with fail
      go_ret
      exact ⟨l, rfl, by omega, by omega, fun _ => by have := HF.out; have := HL.out; omega, hB⟩

set_option maxRecDepth 100000 in
set_option maxHeartbeats 2000000 in
theorem szWait_any (cs : List Value) (x : WaitD) (w : World) (lo hi : Nat) (left : Int) (h : WaitR w lo hi cs x) (h0 : 0 ≤ left) (h1 : left ≤ 1048576) :
    Calls Tryz.prog 103 #[.agg cs.toArray, .int .i64 left] w (SzPost (sizeWait x) left w) := by
  obtain ⟨at_, text_⟩ := x
  obtain ⟨rfl, ha0⟩ := h
  show Calls Tryz.prog 103 #[.agg #[.int .i64 at_, .string text_], .int .i64 left] w _
  have ha0 : text_.size ≤ 9223372036854775807 := by unfold maxLen at ha0; exact ha0
  go_enter Tryz.func103, Tryz.ntmps103
  by_cases q1 : left - (text_.size : Int) < 0
  · go_wp2_with fail
    go_ret
    exact ⟨-1, rfl, by omega, by omega, fun h => by omega, bel1⟩
  go_wp2_with fail
  go_ret
  exact ⟨left - (text_.size : Int), rfl, by omega, by omega, fun _ => by show ((text_.size : Nat) : Int) ≤ _; omega, bel1⟩

set_option maxRecDepth 100000 in
set_option maxHeartbeats 2000000 in
theorem szWaitS_any (A : Option Addr) (n c : Nat) (xs : List WaitD) (w : World) (lo hi : Nat) (left : Int) (h : SliceR WaitR 2 w lo hi A n c xs) (h0 : 0 ≤ left) (h1 : left ≤ 1048576) :
    Calls Tryz.prog 80 #[.slice A n c, .int .i64 left] w (SzPost (xs.length + (xs.map sizeWait).sum) left w) := by
  have hl := h.len
  have hn := h.max
  have HL := Lib.hid hl
  have H := Lib.hid h
  clear h hl
  go_enter Tryz.func80, Tryz.ntmps80
  by_cases q1 : left - (n : Int) < 0
  · go_wp2_with fail
    go_ret
    exact ⟨-1, rfl, by omega, by omega, fun h => by omega, Below.refl _ _⟩
  go_wp2_with fail
  go_loopw [1, 5] (fun s i wr => ∃ (k : Nat) (l : Int), k ≤ n ∧ i = .int .i64 k ∧ s = .int .i64 l ∧ 0 ≤ l ∧ l ≤ left ∧ Hid (l + (((xs.take k).map sizeWait).sum : Nat) ≤ left - n) ∧ Below w.heap.size w wr) (fun _ i _ => n - (intOf i).toNat)
  case atStart => exact ⟨0, left - (n : Int), Nat.zero_le _, rfl, rfl, by omega, by omega, Lib.hid (by simp), Below.refl _ _⟩
  case round =>
    obtain ⟨k, l, hk, rfl, rfl, l0, l1, HS, hB⟩ := hrel
    by_cases hlt : k < n
    · obtain ⟨x, hx⟩ : ∃ x, xs[k]? = some x := ⟨xs[k]'(by rw [HL.out]; exact hlt), List.getElem?_eq_getElem _⟩
      obtain ⟨b, off, rfl, _, _, bl, hc⟩ := (SliceR.below H.out hB (WaitR.below hB H.out.lo_le)).at_ (by omega)
      obtain ⟨cs, hcl, hcc, hr⟩ := hc k x hx
      clear hc
      have hss := sum_take sizeWait hx
      have HSS := Lib.hid hss
      clear hss hx
      obtain ⟨at_, text_⟩ := x
      have hr0 := hr
      obtain ⟨rfl, ha0⟩ := hr0
      have G := Lib.hid hr
      clear hr ha0
      have q_0 := hcc 0 _ rfl
      have q_1 := hcc 1 _ rfl
      simp only [Nat.add_zero] at q_0
      clear hcc hcl
      have k0 : (0 : Int) ≤ (k : Int) := by omega
      have k1 : (k : Int) < (n : Int) := by omega
      go_wp2_with fail
      refine (szWait_any [.int .i64 at_, .string text_] _ _ _ _ l G.out l0 (by omega)).mono ?_
      rintro e w2 ⟨r, rfl, p1, o1, s1, hb2⟩
      have P1 := Lib.hid s1; clear s1
      have hB2 : Below w.heap.size w w2 := hB.trans (hb2.mono hB.size)
      clear hb2 G
      by_cases q2 : r < 0
      · go_wp2_with fail
        go_ret
        exact ⟨-1, rfl, by omega, by omega, fun h => by omega, hB2⟩
      have HN : Hid (r + (((xs.take (k + 1)).map sizeWait).sum : Nat) ≤ left - n) := Lib.hid (by have a := P1.out (by omega); have b := HS.out; have c := HSS.out; rw [c]; omega)
      go_wp2_with fail
      go_roundw
      case rel => exact ⟨k + 1, r, by omega, by go_num, rfl, by omega, by omega, HN, hB2⟩
      case measure => simp [intOf]; omega
    · obtain rfl : k = n := by omega
      have hfin := HS.out
      rw [List.take_of_length_le (by have := HL.out; omega)] at hfin
      have HF := Lib.hid hfin; clear hfin
      go_wp2_with fail
      go_ret
      exact ⟨l, rfl, by omega, by omega, fun _ => by have := HF.out; have := HL.out; omega, hB⟩

set_option maxRecDepth 100000 in
set_option maxHeartbeats 2000000 in
theorem szDisk_any (cs : List Value) (x : DiskD) (w : World) (lo hi : Nat) (left : Int) (h : DiskR w lo hi cs x) (h0 : 0 ≤ left) (h1 : left ≤ 1048576) :
    Calls Tryz.prog 49 #[.agg cs.toArray, .int .i64 left] w (SzPost (sizeDisk x) left w) := by
  obtain ⟨cells_, waits_, gone_⟩ := x
  obtain ⟨Aa0, na0, ca0, Aa1, na1, ca1, rfl, ha0, ha1⟩ := h
  show Calls Tryz.prog 49 #[.agg #[.slice Aa0 na0 ca0, .slice Aa1 na1 ca1, .bool gone_], .int .i64 left] w _
  have Hha0 := Lib.hid ha0
  have Nha0 := Hha0.out.max
  clear ha0
  have Hha1 := Lib.hid ha1
  have Nha1 := Hha1.out.max
  clear ha1
  go_enter Tryz.func49, Tryz.ntmps49
  go_wp2_with fail
  refine (szStringS_any _ _ _ cells_ _ lo hi (left) (SliceR.below Hha0.out bel1 (StrR.below bel1 Hha0.out.lo_le)) (by omega) (by omega)).mono ?_
  rintro e w1 ⟨r1, rfl, p1, o1, s1, hb1⟩
  have P1 := Lib.hid s1; clear s1
  have X1 : Below w.heap.size w w1 := Below.trans bel1 (hb1.mono (by first | exact bel1.size | (simp <;> omega)))
  have c1_0 : w1.cell? ⟨w.heap.size, 0, none⟩ = some (.slice Aa0 na0 ca0) := (hb1.cell (by simp)).trans (by simp [go_sem])
  have c1_1 : w1.cell? ⟨w.heap.size, 1, none⟩ = some (.slice Aa1 na1 ca1) := (hb1.cell (by simp)).trans (by simp [go_sem])
  have c1_2 : w1.cell? ⟨w.heap.size, 2, none⟩ = some (.bool gone_) := (hb1.cell (by simp)).trans (by simp [go_sem])
  clear hb1
  by_cases q1 : r1 < 0
  · go_wp2_with fail
    go_ret
    exact ⟨-1, rfl, by omega, by omega, fun h => by omega, X1⟩
  go_wp2_with fail
  refine (szWaitS_any _ _ _ waits_ _ lo hi (r1) (SliceR.below Hha1.out X1 (WaitR.below X1 Hha1.out.lo_le)) (by omega) (by omega)).mono ?_
  rintro e w2 ⟨r2, rfl, p2, o2, s2, hb2⟩
  have P2 := Lib.hid s2; clear s2
  have X2 : Below w.heap.size w w2 := Below.trans X1 (hb2.mono (by first | exact X1.size | (simp <;> omega)))
  have c2_0 : w2.cell? ⟨w.heap.size, 0, none⟩ = some (.slice Aa0 na0 ca0) := (hb2.cell (World.block_lt_of_cell? _ _ c1_0)).trans c1_0
  have c2_1 : w2.cell? ⟨w.heap.size, 1, none⟩ = some (.slice Aa1 na1 ca1) := (hb2.cell (World.block_lt_of_cell? _ _ c1_1)).trans c1_1
  have c2_2 : w2.cell? ⟨w.heap.size, 2, none⟩ = some (.bool gone_) := (hb2.cell (World.block_lt_of_cell? _ _ c1_2)).trans c1_2
  clear c1_0 c1_1 c1_2
  clear hb2
  by_cases q2 : r2 < 0
  · go_wp2_with fail
    go_ret
    exact ⟨-1, rfl, by omega, by omega, fun h => by omega, X2⟩
  go_wp2_with fail
  go_ret
  have P1 := P1.out (by omega)
  have P2 := P2.out (by omega)
  exact ⟨r2, rfl, by omega, by omega, fun _ => by show ((cells_.length + (cells_.map ByteArray.size).sum + waits_.length + (waits_.map sizeWait).sum : Nat) : Int) ≤ _; omega, X2⟩
end
section
open Go.RowKit

def sizeRaid (x : RaidD) : Nat := x.length + (x.map sizeDisk).sum
set_option maxRecDepth 100000 in
set_option maxHeartbeats 2000000 in
theorem szDiskS_any (A : Option Addr) (n c : Nat) (xs : List DiskD) (w : World) (lo hi : Nat) (left : Int) (h : SliceR DiskR 3 w lo hi A n c xs) (h0 : 0 ≤ left) (h1 : left ≤ 1048576) :
    Calls Tryz.prog 27 #[.slice A n c, .int .i64 left] w (SzPost (xs.length + (xs.map sizeDisk).sum) left w) := by
  have hl := h.len
  have hn := h.max
  have HL := Lib.hid hl
  have H := Lib.hid h
  clear h hl
  go_enter Tryz.func27, Tryz.ntmps27
  by_cases q1 : left - (n : Int) < 0
  · go_wp2_with fail
    go_ret
    exact ⟨-1, rfl, by omega, by omega, fun h => by omega, Below.refl _ _⟩
  go_wp2_with fail
  go_loopw [1, 5] (fun s i wr => ∃ (k : Nat) (l : Int), k ≤ n ∧ i = .int .i64 k ∧ s = .int .i64 l ∧ 0 ≤ l ∧ l ≤ left ∧ Hid (l + (((xs.take k).map sizeDisk).sum : Nat) ≤ left - n) ∧ Below w.heap.size w wr) (fun _ i _ => n - (intOf i).toNat)
  case atStart => exact ⟨0, left - (n : Int), Nat.zero_le _, rfl, rfl, by omega, by omega, Lib.hid (by simp), Below.refl _ _⟩
  case round =>
    obtain ⟨k, l, hk, rfl, rfl, l0, l1, HS, hB⟩ := hrel
    by_cases hlt : k < n
    · obtain ⟨x, hx⟩ : ∃ x, xs[k]? = some x := ⟨xs[k]'(by rw [HL.out]; exact hlt), List.getElem?_eq_getElem _⟩
      obtain ⟨b, off, rfl, _, _, bl, hc⟩ := (SliceR.below H.out hB (DiskR.below hB H.out.lo_le)).at_ (by omega)
      obtain ⟨cs, hcl, hcc, hr⟩ := hc k x hx
      clear hc
      have hss := sum_take sizeDisk hx
      have HSS := Lib.hid hss
      clear hss hx
      obtain ⟨cells_, waits_, gone_⟩ := x
      have hr0 := hr
      obtain ⟨Aa0, na0, ca0, Aa1, na1, ca1, rfl, ha0, ha1⟩ := hr0
      have G := Lib.hid hr
      clear hr ha0 ha1
      have q_0 := hcc 0 _ rfl
      have q_1 := hcc 1 _ rfl
      have q_2 := hcc 2 _ rfl
      simp only [Nat.add_zero] at q_0
      clear hcc hcl
      have k0 : (0 : Int) ≤ (k : Int) := by omega
      have k1 : (k : Int) < (n : Int) := by omega
      go_wp2_with fail
      refine (szDisk_any [.slice Aa0 na0 ca0, .slice Aa1 na1 ca1, .bool gone_] _ _ _ _ l G.out l0 (by omega)).mono ?_
      rintro e w2 ⟨r, rfl, p1, o1, s1, hb2⟩
      have P1 := Lib.hid s1; clear s1
      have hB2 : Below w.heap.size w w2 := hB.trans (hb2.mono hB.size)
      clear hb2 G
      by_cases q2 : r < 0
      · go_wp2_with fail
        go_ret
        exact ⟨-1, rfl, by omega, by omega, fun h => by omega, hB2⟩
      have HN : Hid (r + (((xs.take (k + 1)).map sizeDisk).sum : Nat) ≤ left - n) := Lib.hid (by have a := P1.out (by omega); have b := HS.out; have c := HSS.out; rw [c]; omega)
      go_wp2_with fail
      go_roundw
      case rel => exact ⟨k + 1, r, by omega, by go_num, rfl, by omega, by omega, HN, hB2⟩
      case measure => simp [intOf]; omega
    · obtain rfl : k = n := by omega
      have hfin := HS.out
      rw [List.take_of_length_le (by have := HL.out; omega)] at hfin
      have HF := Lib.hid hfin; clear hfin
      go_wp2_with fail
      go_ret
      exact ⟨l, rfl, by omega, by omega, fun _ => by have := HF.out; have := HL.out; omega, hB⟩

set_option maxRecDepth 100000 in
set_option maxHeartbeats 2000000 in
theorem szRaid_any (cs : List Value) (x : RaidD) (w : World) (lo hi : Nat) (left : Int) (h : RaidR w lo hi cs x) (h0 : 0 ≤ left) (h1 : left ≤ 1048576) :
    Calls Tryz.prog 10 #[.agg cs.toArray, .int .i64 left] w (SzPost (sizeRaid x) left w) := by
  obtain ⟨disks_, rfl⟩ : ∃ y, y = x := ⟨_, rfl⟩
  obtain ⟨Aa0, na0, ca0, rfl, ha0⟩ := h
  show Calls Tryz.prog 10 #[.agg #[.slice Aa0 na0 ca0], .int .i64 left] w _
  have Hha0 := Lib.hid ha0
  have Nha0 := Hha0.out.max
  clear ha0
  go_enter Tryz.func10, Tryz.ntmps10
  go_wp2_with fail
  refine (szDiskS_any _ _ _ disks_ _ lo hi (left) (SliceR.below Hha0.out bel1 (DiskR.below bel1 Hha0.out.lo_le)) (by omega) (by omega)).mono ?_
  rintro e w1 ⟨r1, rfl, p1, o1, s1, hb1⟩
  have P1 := Lib.hid s1; clear s1
  have X1 : Below w.heap.size w w1 := Below.trans bel1 (hb1.mono (by first | exact bel1.size | (simp <;> omega)))
  have c1_0 : w1.cell? ⟨w.heap.size, 0, none⟩ = some (.slice Aa0 na0 ca0) := (hb1.cell (by simp)).trans (by simp [go_sem])
  clear hb1
  by_cases q1 : r1 < 0
  · go_wp2_with fail
    go_ret
    exact ⟨-1, rfl, by omega, by omega, fun h => by omega, X1⟩
  go_wp2_with fail
  go_ret
  have P1 := P1.out (by omega)
  exact ⟨r1, rfl, by omega, by omega, fun _ => by show ((disks_.length + (disks_.map sizeDisk).sum : Nat) : Int) ≤ _; omega, X1⟩
end
end Go.Proofs.YtggdjiklgakfnaaGreatDoor
