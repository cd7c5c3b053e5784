/- sz at each type: what is left of a bound. No condition. -/
import Derived.Test.YtlacpcdbgimnmaaDoorFamTo
import Derived.Test.YtlacpcdbgimnmaaDoorChecked
namespace Go.Proofs.YtlacpcdbgimnmaaDoor
set_option linter.unusedVariables false
set_option linter.unusedSimpArgs false
set_option linter.unnecessarySimpa false
open Go.RowKit


set_option maxRecDepth 100000 in
set_option maxHeartbeats 2000000 in
theorem szPtrS_any (A : Option Addr) (n c : Nat) (xs : List PtrD) (w : World) (lo hi : Nat) (left : Int) (h : SliceR PtrR 5 w lo hi A n c xs) (h0 : 0 ≤ left) (h1 : left ≤ 1048576) :
    Calls Tryd.prog 43 #[.slice A n c, .int .i64 left] w (SzPost (xs.length) left w) := by
  have hl := h.len
  have hn := h.max
  have HL := Lib.hid hl
  have H := Lib.hid h
  clear h hl
  go_enter Tryd.func43, Tryd.ntmps43
  by_cases q1 : left - (n : Int) < 0
  · go_wp2_with fail
    go_ret
    exact ⟨-1, rfl, by omega, by omega, fun h => by omega, Below.refl _ _⟩
  go_wp2_with fail
  go_ret
  exact ⟨left - (n : Int), rfl, by omega, by omega, fun _ => by have := HL.out; omega, Below.refl _ _⟩





set_option maxRecDepth 100000 in
set_option maxHeartbeats 2000000 in
theorem szHead_any (cs : List Value) (x : HeadD) (w : World) (lo hi : Nat) (left : Int) (h : HeadR w lo hi cs x) (h0 : 0 ≤ left) (h1 : left ≤ 1048576) :
    Calls Tryd.prog 27 #[.agg cs.toArray, .int .i64 left] w (SzPost (sizeHead x) left w) := by
  obtain ⟨name_, prev_, ⟨⟨tree_root_at_, tree_root_birth_, tree_root_size_, tree_root_sum_, tree_root_level_⟩, tree_depth_, tree_many_⟩, dead_, quota_⟩ := x
  obtain ⟨Aa0, na0, ca0, rfl, ha0, ha1⟩ := h
  show Calls Tryd.prog 27 #[.agg #[.string name_, .int .i64 prev_, .int .i64 tree_root_at_, .int .i64 tree_root_birth_, .int .i64 tree_root_size_, .int .i64 tree_root_sum_, .int .i64 tree_root_level_, .int .i64 tree_depth_, .int .i64 tree_many_, .slice Aa0 na0 ca0, .int .i64 quota_], .int .i64 left] w _
  have ha0 : name_.size ≤ 9223372036854775807 := by unfold maxLen at ha0; exact ha0
  have Hha1 := Lib.hid ha1
  have Nha1 := Hha1.out.max
  clear ha1
  go_enter Tryd.func27, Tryd.ntmps27
  by_cases q1 : left - (name_.size : Int) < 0
  · go_wp2_with fail
    go_ret
    exact ⟨-1, rfl, by omega, by omega, fun h => by omega, bel1⟩
  go_wp2_with fail
  refine (szPtrS_any _ _ _ dead_ _ lo hi (left - (name_.size : Int)) (SliceR.below Hha1.out bel1 (PtrR.below bel1 Hha1.out.lo_le)) (by omega) (by omega)).mono ?_
  rintro e w1 ⟨r1, rfl, p1, o1, s1, hb1⟩
  have P1 := Lib.hid s1; clear s1
  have X1 : Below w.heap.size w w1 := Below.trans bel1 (hb1.mono (by first | exact bel1.size | (simp <;> omega)))
  have c1_0 : w1.cell? ⟨w.heap.size, 0, none⟩ = some (.string name_) := (hb1.cell (by simp)).trans (by simp [go_sem])
  have c1_1 : w1.cell? ⟨w.heap.size, 1, none⟩ = some (.int .i64 prev_) := (hb1.cell (by simp)).trans (by simp [go_sem])
  have c1_2 : w1.cell? ⟨w.heap.size, 2, none⟩ = some (.int .i64 tree_root_at_) := (hb1.cell (by simp)).trans (by simp [go_sem])
  have c1_3 : w1.cell? ⟨w.heap.size, 3, none⟩ = some (.int .i64 tree_root_birth_) := (hb1.cell (by simp)).trans (by simp [go_sem])
  have c1_4 : w1.cell? ⟨w.heap.size, 4, none⟩ = some (.int .i64 tree_root_size_) := (hb1.cell (by simp)).trans (by simp [go_sem])
  have c1_5 : w1.cell? ⟨w.heap.size, 5, none⟩ = some (.int .i64 tree_root_sum_) := (hb1.cell (by simp)).trans (by simp [go_sem])
  have c1_6 : w1.cell? ⟨w.heap.size, 6, none⟩ = some (.int .i64 tree_root_level_) := (hb1.cell (by simp)).trans (by simp [go_sem])
  have c1_7 : w1.cell? ⟨w.heap.size, 7, none⟩ = some (.int .i64 tree_depth_) := (hb1.cell (by simp)).trans (by simp [go_sem])
  have c1_8 : w1.cell? ⟨w.heap.size, 8, none⟩ = some (.int .i64 tree_many_) := (hb1.cell (by simp)).trans (by simp [go_sem])
  have c1_9 : w1.cell? ⟨w.heap.size, 9, none⟩ = some (.slice Aa0 na0 ca0) := (hb1.cell (by simp)).trans (by simp [go_sem])
  have c1_10 : w1.cell? ⟨w.heap.size, 10, none⟩ = some (.int .i64 quota_) := (hb1.cell (by simp)).trans (by simp [go_sem])
  clear hb1
  by_cases q2 : r1 < 0
  · go_wp2_with fail
    go_ret
    exact ⟨-1, rfl, by omega, by omega, fun h => by omega, X1⟩
  go_wp2_with fail
  go_ret
  have P1 := P1.out (by omega)
  exact ⟨r1, rfl, by omega, by omega, fun _ => by show ((name_.size + dead_.length : Nat) : Int) ≤ _; omega, X1⟩

set_option maxRecDepth 100000 in
set_option maxHeartbeats 2000000 in
theorem szHeadS_any (A : Option Addr) (n c : Nat) (xs : List HeadD) (w : World) (lo hi : Nat) (left : Int) (h : SliceR HeadR 11 w lo hi A n c xs) (h0 : 0 ≤ left) (h1 : left ≤ 1048576) :
    Calls Tryd.prog 9 #[.slice A n c, .int .i64 left] w (SzPost (xs.length + (xs.map sizeHead).sum) left w) := by
  have hl := h.len
  have hn := h.max
  have HL := Lib.hid hl
  have H := Lib.hid h
  clear h hl
  go_enter Tryd.func9, Tryd.ntmps9
  by_cases q1 : left - (n : Int) < 0
  · go_wp2_with fail
    go_ret
    exact ⟨-1, rfl, by omega, by omega, fun h => by omega, Below.refl _ _⟩
  go_wp2_with fail
  go_loopw [1, 5] (fun s i wr => ∃ (k : Nat) (l : Int), k ≤ n ∧ i = .int .i64 k ∧ s = .int .i64 l ∧ 0 ≤ l ∧ l ≤ left ∧ Hid (l + (((xs.take k).map sizeHead).sum : Nat) ≤ left - n) ∧ Below w.heap.size w wr) (fun _ i _ => n - (intOf i).toNat)
  case atStart => exact ⟨0, left - (n : Int), Nat.zero_le _, rfl, rfl, by omega, by omega, Lib.hid (by simp), Below.refl _ _⟩
  case round =>
    obtain ⟨k, l, hk, rfl, rfl, l0, l1, HS, hB⟩ := hrel
    by_cases hlt : k < n
    · obtain ⟨x, hx⟩ : ∃ x, xs[k]? = some x := ⟨xs[k]'(by rw [HL.out]; exact hlt), List.getElem?_eq_getElem _⟩
      obtain ⟨b, off, rfl, _, _, bl, hc⟩ := (SliceR.below H.out hB (HeadR.below hB H.out.lo_le)).at_ (by omega)
      obtain ⟨cs, hcl, hcc, hr⟩ := hc k x hx
      clear hc
      have hss := sum_take sizeHead hx
      have HSS := Lib.hid hss
      clear hss hx
      obtain ⟨name_, prev_, ⟨⟨tree_root_at_, tree_root_birth_, tree_root_size_, tree_root_sum_, tree_root_level_⟩, tree_depth_, tree_many_⟩, dead_, quota_⟩ := x
      have hr0 := hr
      obtain ⟨Aa0, na0, ca0, rfl, ha0, ha1⟩ := hr0
      have G := Lib.hid hr
      clear hr ha0 ha1
      have q_0 := hcc 0 _ rfl
      have q_1 := hcc 1 _ rfl
      have q_2 := hcc 2 _ rfl
      have q_3 := hcc 3 _ rfl
      have q_4 := hcc 4 _ rfl
      have q_5 := hcc 5 _ rfl
      have q_6 := hcc 6 _ rfl
      have q_7 := hcc 7 _ rfl
      have q_8 := hcc 8 _ rfl
      have q_9 := hcc 9 _ rfl
      have q_10 := hcc 10 _ rfl
      simp only [Nat.add_zero] at q_0
      clear hcc hcl
      have k0 : (0 : Int) ≤ (k : Int) := by omega
      have k1 : (k : Int) < (n : Int) := by omega
      go_wp2_with fail
      refine (szHead_any [.string name_, .int .i64 prev_, .int .i64 tree_root_at_, .int .i64 tree_root_birth_, .int .i64 tree_root_size_, .int .i64 tree_root_sum_, .int .i64 tree_root_level_, .int .i64 tree_depth_, .int .i64 tree_many_, .slice Aa0 na0 ca0, .int .i64 quota_] _ _ _ _ l G.out l0 (by omega)).mono ?_
      rintro e w2 ⟨r, rfl, p1, o1, s1, hb2⟩
      have P1 := Lib.hid s1; clear s1
      have hB2 : Below w.heap.size w w2 := hB.trans (hb2.mono hB.size)
      clear hb2 G
      by_cases q2 : r < 0
      · go_wp2_with fail
        go_ret
        exact ⟨-1, rfl, by omega, by omega, fun h => by omega, hB2⟩
      have HN : Hid (r + (((xs.take (k + 1)).map sizeHead).sum : Nat) ≤ left - n) := Lib.hid (by have a := P1.out (by omega); have b := HS.out; have c := HSS.out; rw [c]; omega)
      go_wp2_with fail
      go_roundw
      case rel => exact ⟨k + 1, r, by omega, by go_num, rfl, by omega, by omega, HN, hB2⟩
      case measure => simp [intOf]; omega
    · obtain rfl : k = n := by omega
      have hfin := HS.out
      rw [List.take_of_length_le (by have := HL.out; omega)] at hfin
      have HF := Lib.hid hfin; clear hfin
      go_wp2_with fail
      go_ret
      exact ⟨l, rfl, by omega, by omega, fun _ => by have := HF.out; have := HL.out; omega, hB⟩

set_option maxRecDepth 100000 in
set_option maxHeartbeats 2000000 in
theorem szSnap_any (cs : List Value) (x : SnapD) (w : World) (lo hi : Nat) (left : Int) (h : SnapR w lo hi cs x) (h0 : 0 ≤ left) (h1 : left ≤ 1048576) :
    Calls Tryd.prog 28 #[.agg cs.toArray, .int .i64 left] w (SzPost (sizeSnap x) left w) := by
  obtain ⟨id_, name_, txg_, prev_, ⟨⟨tree_root_at_, tree_root_birth_, tree_root_size_, tree_root_sum_, tree_root_level_⟩, tree_depth_, tree_many_⟩, dead_⟩ := x
  obtain ⟨Aa0, na0, ca0, rfl, ha0, ha1⟩ := h
  show Calls Tryd.prog 28 #[.agg #[.int .i64 id_, .string name_, .int .i64 txg_, .int .i64 prev_, .int .i64 tree_root_at_, .int .i64 tree_root_birth_, .int .i64 tree_root_size_, .int .i64 tree_root_sum_, .int .i64 tree_root_level_, .int .i64 tree_depth_, .int .i64 tree_many_, .slice Aa0 na0 ca0], .int .i64 left] w _
  have ha0 : name_.size ≤ 9223372036854775807 := by unfold maxLen at ha0; exact ha0
  have Hha1 := Lib.hid ha1
  have Nha1 := Hha1.out.max
  clear ha1
  go_enter Tryd.func28, Tryd.ntmps28
  by_cases q1 : left - (name_.size : Int) < 0
  · go_wp2_with fail
    go_ret
    exact ⟨-1, rfl, by omega, by omega, fun h => by omega, bel1⟩
  go_wp2_with fail
  refine (szPtrS_any _ _ _ dead_ _ lo hi (left - (name_.size : Int)) (SliceR.below Hha1.out bel1 (PtrR.below bel1 Hha1.out.lo_le)) (by omega) (by omega)).mono ?_
  rintro e w1 ⟨r1, rfl, p1, o1, s1, hb1⟩
  have P1 := Lib.hid s1; clear s1
  have X1 : Below w.heap.size w w1 := Below.trans bel1 (hb1.mono (by first | exact bel1.size | (simp <;> omega)))
  have c1_0 : w1.cell? ⟨w.heap.size, 0, none⟩ = some (.int .i64 id_) := (hb1.cell (by simp)).trans (by simp [go_sem])
  have c1_1 : w1.cell? ⟨w.heap.size, 1, none⟩ = some (.string name_) := (hb1.cell (by simp)).trans (by simp [go_sem])
  have c1_2 : w1.cell? ⟨w.heap.size, 2, none⟩ = some (.int .i64 txg_) := (hb1.cell (by simp)).trans (by simp [go_sem])
  have c1_3 : w1.cell? ⟨w.heap.size, 3, none⟩ = some (.int .i64 prev_) := (hb1.cell (by simp)).trans (by simp [go_sem])
  have c1_4 : w1.cell? ⟨w.heap.size, 4, none⟩ = some (.int .i64 tree_root_at_) := (hb1.cell (by simp)).trans (by simp [go_sem])
  have c1_5 : w1.cell? ⟨w.heap.size, 5, none⟩ = some (.int .i64 tree_root_birth_) := (hb1.cell (by simp)).trans (by simp [go_sem])
  have c1_6 : w1.cell? ⟨w.heap.size, 6, none⟩ = some (.int .i64 tree_root_size_) := (hb1.cell (by simp)).trans (by simp [go_sem])
  have c1_7 : w1.cell? ⟨w.heap.size, 7, none⟩ = some (.int .i64 tree_root_sum_) := (hb1.cell (by simp)).trans (by simp [go_sem])
  have c1_8 : w1.cell? ⟨w.heap.size, 8, none⟩ = some (.int .i64 tree_root_level_) := (hb1.cell (by simp)).trans (by simp [go_sem])
  have c1_9 : w1.cell? ⟨w.heap.size, 9, none⟩ = some (.int .i64 tree_depth_) := (hb1.cell (by simp)).trans (by simp [go_sem])
  have c1_10 : w1.cell? ⟨w.heap.size, 10, none⟩ = some (.int .i64 tree_many_) := (hb1.cell (by simp)).trans (by simp [go_sem])
  have c1_11 : w1.cell? ⟨w.heap.size, 11, none⟩ = some (.slice Aa0 na0 ca0) := (hb1.cell (by simp)).trans (by simp [go_sem])
  clear hb1
  by_cases q2 : r1 < 0
  · go_wp2_with fail
    go_ret
    exact ⟨-1, rfl, by omega, by omega, fun h => by omega, X1⟩
  go_wp2_with fail
  go_ret
  have P1 := P1.out (by omega)
  exact ⟨r1, rfl, by omega, by omega, fun _ => by show ((name_.size + dead_.length : Nat) : Int) ≤ _; omega, X1⟩

set_option maxRecDepth 100000 in
set_option maxHeartbeats 2000000 in
theorem szSnapS_any (A : Option Addr) (n c : Nat) (xs : List SnapD) (w : World) (lo hi : Nat) (left : Int) (h : SliceR SnapR 12 w lo hi A n c xs) (h0 : 0 ≤ left) (h1 : left ≤ 1048576) :
    Calls Tryd.prog 10 #[.slice A n c, .int .i64 left] w (SzPost (xs.length + (xs.map sizeSnap).sum) left w) := by
  have hl := h.len
  have hn := h.max
  have HL := Lib.hid hl
  have H := Lib.hid h
  clear h hl
  go_enter Tryd.func10, Tryd.ntmps10
  by_cases q1 : left - (n : Int) < 0
  · go_wp2_with fail
    go_ret
    exact ⟨-1, rfl, by omega, by omega, fun h => by omega, Below.refl _ _⟩
  go_wp2_with fail
  go_loopw [1, 5] (fun s i wr => ∃ (k : Nat) (l : Int), k ≤ n ∧ i = .int .i64 k ∧ s = .int .i64 l ∧ 0 ≤ l ∧ l ≤ left ∧ Hid (l + (((xs.take k).map sizeSnap).sum : Nat) ≤ left - n) ∧ Below w.heap.size w wr) (fun _ i _ => n - (intOf i).toNat)
  case atStart => exact ⟨0, left - (n : Int), Nat.zero_le _, rfl, rfl, by omega, by omega, Lib.hid (by simp), Below.refl _ _⟩
  case round =>
    obtain ⟨k, l, hk, rfl, rfl, l0, l1, HS, hB⟩ := hrel
    by_cases hlt : k < n
    · obtain ⟨x, hx⟩ : ∃ x, xs[k]? = some x := ⟨xs[k]'(by rw [HL.out]; exact hlt), List.getElem?_eq_getElem _⟩
      obtain ⟨b, off, rfl, _, _, bl, hc⟩ := (SliceR.below H.out hB (SnapR.below hB H.out.lo_le)).at_ (by omega)
      obtain ⟨cs, hcl, hcc, hr⟩ := hc k x hx
      clear hc
      have hss := sum_take sizeSnap hx
      have HSS := Lib.hid hss
      clear hss hx
      obtain ⟨id_, name_, txg_, prev_, ⟨⟨tree_root_at_, tree_root_birth_, tree_root_size_, tree_root_sum_, tree_root_level_⟩, tree_depth_, tree_many_⟩, dead_⟩ := x
      have hr0 := hr
      obtain ⟨Aa0, na0, ca0, rfl, ha0, ha1⟩ := hr0
      have G := Lib.hid hr
      clear hr ha0 ha1
      have q_0 := hcc 0 _ rfl
      have q_1 := hcc 1 _ rfl
      have q_2 := hcc 2 _ rfl
      have q_3 := hcc 3 _ rfl
      have q_4 := hcc 4 _ rfl
      have q_5 := hcc 5 _ rfl
      have q_6 := hcc 6 _ rfl
      have q_7 := hcc 7 _ rfl
      have q_8 := hcc 8 _ rfl
      have q_9 := hcc 9 _ rfl
      have q_10 := hcc 10 _ rfl
      have q_11 := hcc 11 _ rfl
      simp only [Nat.add_zero] at q_0
      clear hcc hcl
      have k0 : (0 : Int) ≤ (k : Int) := by omega
      have k1 : (k : Int) < (n : Int) := by omega
      go_wp2_with fail
      refine (szSnap_any [.int .i64 id_, .string name_, .int .i64 txg_, .int .i64 prev_, .int .i64 tree_root_at_, .int .i64 tree_root_birth_, .int .i64 tree_root_size_, .int .i64 tree_root_sum_, .int .i64 tree_root_level_, .int .i64 tree_depth_, .int .i64 tree_many_, .slice Aa0 na0 ca0] _ _ _ _ l G.out l0 (by omega)).mono ?_
      rintro e w2 ⟨r, rfl, p1, o1, s1, hb2⟩
      have P1 := Lib.hid s1; clear s1
      have hB2 : Below w.heap.size w w2 := hB.trans (hb2.mono hB.size)
      clear hb2 G
      by_cases q2 : r < 0
      · go_wp2_with fail
        go_ret
        exact ⟨-1, rfl, by omega, by omega, fun h => by omega, hB2⟩
      have HN : Hid (r + (((xs.take (k + 1)).map sizeSnap).sum : Nat) ≤ left - n) := Lib.hid (by have a := P1.out (by omega); have b := HS.out; have c := HSS.out; rw [c]; omega)
      go_wp2_with fail
      go_roundw
      case rel => exact ⟨k + 1, r, by omega, by go_num, rfl, by omega, by omega, HN, hB2⟩
      case measure => simp [intOf]; omega
    · obtain rfl : k = n := by omega
      have hfin := HS.out
      rw [List.take_of_length_le (by have := HL.out; omega)] at hfin
      have HF := Lib.hid hfin; clear hfin
      go_wp2_with fail
      go_ret
      exact ⟨l, rfl, by omega, by omega, fun _ => by have := HF.out; have := HL.out; omega, hB⟩


set_option maxRecDepth 100000 in
set_option maxHeartbeats 2000000 in
theorem szMeta_any (cs : List Value) (x : MetaD) (w : World) (lo hi : Nat) (left : Int) (h : MetaR w lo hi cs x) (h0 : 0 ≤ left) (h1 : left ≤ 1048576) :
    Calls Tryd.prog 4 #[.agg cs.toArray, .int .i64 left] w (SzPost (sizeMeta x) left w) := by
  obtain ⟨heads_, snaps_, next_, same_⟩ := x
  obtain ⟨Aa0, na0, ca0, Aa1, na1, ca1, rfl, ha0, ha1⟩ := h
  show Calls Tryd.prog 4 #[.agg #[.slice Aa0 na0 ca0, .slice Aa1 na1 ca1, .int .i64 next_, .bool same_], .int .i64 left] w _
  have Hha0 := Lib.hid ha0
  have Nha0 := Hha0.out.max
  clear ha0
  have Hha1 := Lib.hid ha1
  have Nha1 := Hha1.out.max
  clear ha1
  go_enter Tryd.func4, Tryd.ntmps4
  go_wp2_with fail
  refine (szHeadS_any _ _ _ heads_ _ lo hi (left) (SliceR.below Hha0.out bel1 (HeadR.below bel1 Hha0.out.lo_le)) (by omega) (by omega)).mono ?_
  rintro e w1 ⟨r1, rfl, p1, o1, s1, hb1⟩
  have P1 := Lib.hid s1; clear s1
  have X1 : Below w.heap.size w w1 := Below.trans bel1 (hb1.mono (by first | exact bel1.size | (simp <;> omega)))
  have c1_0 : w1.cell? ⟨w.heap.size, 0, none⟩ = some (.slice Aa0 na0 ca0) := (hb1.cell (by simp)).trans (by simp [go_sem])
  have c1_1 : w1.cell? ⟨w.heap.size, 1, none⟩ = some (.slice Aa1 na1 ca1) := (hb1.cell (by simp)).trans (by simp [go_sem])
  have c1_2 : w1.cell? ⟨w.heap.size, 2, none⟩ = some (.int .i64 next_) := (hb1.cell (by simp)).trans (by simp [go_sem])
  have c1_3 : w1.cell? ⟨w.heap.size, 3, none⟩ = some (.bool same_) := (hb1.cell (by simp)).trans (by simp [go_sem])
  clear hb1
  by_cases q1 : r1 < 0
  · go_wp2_with fail
    go_ret
    exact ⟨-1, rfl, by omega, by omega, fun h => by omega, X1⟩
  go_wp2_with fail
  refine (szSnapS_any _ _ _ snaps_ _ lo hi (r1) (SliceR.below Hha1.out X1 (SnapR.below X1 Hha1.out.lo_le)) (by omega) (by omega)).mono ?_
  rintro e w2 ⟨r2, rfl, p2, o2, s2, hb2⟩
  have P2 := Lib.hid s2; clear s2
  have X2 : Below w.heap.size w w2 := Below.trans X1 (hb2.mono (by first | exact X1.size | (simp <;> omega)))
  have c2_0 : w2.cell? ⟨w.heap.size, 0, none⟩ = some (.slice Aa0 na0 ca0) := (hb2.cell (World.block_lt_of_cell? _ _ c1_0)).trans c1_0
  have c2_1 : w2.cell? ⟨w.heap.size, 1, none⟩ = some (.slice Aa1 na1 ca1) := (hb2.cell (World.block_lt_of_cell? _ _ c1_1)).trans c1_1
  have c2_2 : w2.cell? ⟨w.heap.size, 2, none⟩ = some (.int .i64 next_) := (hb2.cell (World.block_lt_of_cell? _ _ c1_2)).trans c1_2
  have c2_3 : w2.cell? ⟨w.heap.size, 3, none⟩ = some (.bool same_) := (hb2.cell (World.block_lt_of_cell? _ _ c1_3)).trans c1_3
  clear c1_0 c1_1 c1_2 c1_3
  clear hb2
  by_cases q2 : r2 < 0
  · go_wp2_with fail
    go_ret
    exact ⟨-1, rfl, by omega, by omega, fun h => by omega, X2⟩
  go_wp2_with fail
  go_ret
  have P1 := P1.out (by omega)
  have P2 := P2.out (by omega)
  exact ⟨r2, rfl, by omega, by omega, fun _ => by show ((heads_.length + (heads_.map sizeHead).sum + snaps_.length + (snaps_.map sizeSnap).sum : Nat) : Int) ≤ _; omega, X2⟩


end Go.Proofs.YtlacpcdbgimnmaaDoor
