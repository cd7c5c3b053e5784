/- l3Read of the reference: the last wait at a place, else the cell. Condition: the place is one of the disk's cells. -/
import Derived.Test.YtggdjiklgakfnaaGreatDoorLook
namespace Go.Proofs.YtggdjiklgakfnaaGreatDoor
set_option linter.unusedSimpArgs false
set_option linter.unnecessarySimpa false
open Go.RowKit
set_option linter.unusedVariables false
theorem look_at {x : DiskD} {a : Int} {j : Nat} {y : WaitD} (hj : x.2.1[j]? = some y) (hy : y.1 = a) (hn : ∀ (i : Nat) (z : WaitD), j < i → x.2.1[i]? = some z → z.1 ≠ a) : lookD x a = y.2 := by
  have hl := (List.getElem?_eq_some_iff.1 hj).1
  have he := (List.getElem?_eq_some_iff.1 hj).2
  have e : x.2.1 = x.2.1.take j ++ y :: x.2.1.drop (j + 1) := by
    rw [← he, List.getElem_cons_drop, List.take_append_drop]
  have e2 : x.2.1.reverse = (x.2.1.drop (j + 1)).reverse ++ (y :: (x.2.1.take j).reverse) := by
    conv => lhs; rw [e]
    simp
  unfold lookD
  rw [e2, List.find?_append]
  have h0 : (x.2.1.drop (j + 1)).reverse.find? (fun w => decide (w.1 = a)) = none := by
    rw [List.find?_eq_none]
    intro z hz
    obtain ⟨i, hi⟩ := List.mem_iff_getElem?.1 (List.mem_reverse.1 hz)
    rw [List.getElem?_drop] at hi
    simpa using hn _ z (by omega) hi
  rw [h0]
  simp [hy]
theorem look_no {x : DiskD} {a : Int} (hn : ∀ (i : Nat) (z : WaitD), x.2.1[i]? = some z → z.1 ≠ a) : lookD x a = x.1.getD a.toNat ByteArray.empty := by
  unfold lookD
  have h0 : x.2.1.reverse.find? (fun w => decide (w.1 = a)) = none := by
    rw [List.find?_eq_none]
    intro z hz
    obtain ⟨i, hi⟩ := List.mem_iff_getElem?.1 (List.mem_reverse.1 hz)
    simpa using hn i z hi
  rw [h0]
set_option maxRecDepth 100000 in
set_option maxHeartbeats 2000000 in
theorem l3Read_any (cs : List Value) (x : DiskD) (k : Nat) (w : World) (lo hi : Nat) (h : DiskR w lo hi cs x) (hk : k < x.1.length) :
    Calls Tryz.prog 45 #[.agg cs.toArray, .int .i64 (k : Int)] w fun e w' => e = .returned (.string (lookD x (k : Int))) ∧ Below w.heap.size w w' := by
  obtain ⟨res, hres⟩ : ∃ r, r = lookD x (k : Int) := ⟨_, rfl⟩
  rw [← hres]
  have HRES := Lib.hid hres; clear hres
  obtain ⟨A0, n0, c0, A1, n1, c1, rfl, h0, h1⟩ := h
  have hn0 := h0.len
  have hm1 := h1.max
  have HL := Lib.hid h1.len
  obtain ⟨u, hu⟩ : ∃ u, x.1[k]? = some u := ⟨x.1[k], List.getElem?_eq_getElem hk⟩
  have hug : x.1.getD (k : Int).toNat ByteArray.empty = u := by simp [List.getD, hu]
  obtain ⟨ba, oa, rfl, _, _, hba, hca⟩ := h0.at_ (by omega)
  obtain ⟨csa, _, hcsa, rfl, _⟩ := hca k u hu
  have qa := hcsa 0 _ rfl
  simp only [Nat.mul_one, Nat.add_zero] at qa
  have QA := Lib.hid qa; have HU := Lib.hid hug; have H1 := Lib.hid h1
  have kk0 : (0 : Int) ≤ (k : Int) := by omega
  have kk1 : (k : Int) < (n0 : Int) := by omega
  clear h0 h1 qa hug hu hca hcsa hn0 hk
  obtain ⟨gone, hgone⟩ : ∃ g, g = x.2.2 := ⟨_, rfl⟩
  rw [← hgone]; clear hgone
  show Calls Tryz.prog 45 #[.agg #[.slice (some ⟨ba, oa, none⟩) n0 c0, .slice A1 n1 c1, .bool gone], .int .i64 (k : Int)] w _
  go_enter Tryz.func45, Tryz.ntmps45
  go_wp2_with fail
  obtain ⟨w1, hW⟩ : ∃ w1, w1 = w.alloc (.cells #[.slice (some ⟨ba, oa, none⟩) n0 c0, .slice A1 n1 c1, .bool gone] 70) := ⟨_, rfl⟩
  have X1 : Below w.heap.size w w1 := by rw [hW]; exact bel1
  have hbx : w1.heap[w.heap.size]? = some (.cells #[.slice (some ⟨ba, oa, none⟩) n0 c0, .slice A1 n1 c1, .bool gone] 70 (0, 0)) := by rw [hW]; exact heap_alloc_new _ _
  have lq : w.heap.size < w1.heap.size := by rw [hW]; simp
  rw [← hW]; clear hW
  have b0 := cell_of_row _ _ 0 _ _ (0, 0) hbx; have b1 := cell_of_row _ _ 1 _ _ (0, 0) hbx
  have HX1 := Lib.hid X1; have HH1 := Lib.hid (SliceR.below H1.out X1 (fun cs x h => WaitR.below X1 H1.out.lo_le cs x h)); have QA1 := Lib.hid ((X1.cell hba).trans QA.out)
  clear X1 QA H1 hbx
  have lba : ba < w1.heap.size := by omega
  go_wp2_with fail
  go_loopw [5] (fun i wr => ∃ j : Nat, j ≤ n1 ∧ i = .int .i64 ((j : Int) - 1) ∧ Hid (∀ (i : Nat) (z : WaitD), j ≤ i → x.2.1[i]? = some z → z.1 ≠ (k : Int)) ∧ w1 = wr) (fun i _ => (intOf i + 1).toNat)
  case atStart => exact ⟨n1, Nat.le_refl _, by go_num, Lib.hid (fun i z hi hz => by have := (List.getElem?_eq_some_iff.1 hz).1; have := HL.out; omega), rfl⟩
  case round =>
    obtain ⟨j, hj, rfl, HN, rfl⟩ := hrel
    by_cases hlt : 0 < j
    · have j0 : (0 : Int) ≤ (j : Int) - 1 := by omega
      have j1 : (j : Int) - 1 < (n1 : Int) := by omega
      obtain ⟨y, hy⟩ : ∃ y, x.2.1[j - 1]? = some y := ⟨x.2.1[j - 1]'(by have := HL.out; omega), List.getElem?_eq_getElem _⟩
      obtain ⟨b, off, rfl, _, _, bl, hc⟩ := HH1.out.at_ (by omega)
      obtain ⟨cj, _, hcj, rfl, _⟩ := hc (j - 1) y hy
      have q0 := hcj 0 _ rfl
      have q1 := hcj 1 _ rfl
      simp only [Nat.add_zero] at q0
      have ej : ((j : Int) - 1).toNat = j - 1 := by omega
      have HY := Lib.hid hy
      clear hc hcj hy
      cases e1 : decide (y.1 = (k : Int))
      · have d0 : (y.1 == (k : Int)) = false := by simpa using e1
        have HF := Lib.hid (show ∀ (i : Nat) (z : WaitD), j - 1 ≤ i → x.2.1[i]? = some z → z.1 ≠ (k : Int) from fun i z hi hz => by
          rcases Nat.lt_or_ge i j with h | h
          · obtain rfl : i = j - 1 := by omega
            rw [HY.out] at hz; obtain rfl := Option.some.inj hz; simpa using e1
          · exact HN.out i z h hz)
        clear e1
        go_wp2_with fail
        go_roundw
        case rel => exact ⟨j - 1, by omega, by go_num, HF, trivial⟩
        case measure => simp [intOf]; omega
      · have d0 : (y.1 == (k : Int)) = true := by simpa using e1
        have HF := Lib.hid (show res = y.2 from HRES.out.trans (look_at HY.out (by simpa using e1) (fun i z hi hz => HN.out i z (by omega) hz)))
        clear e1
        go_wp2_with fail
        go_ret
        exact ⟨by rw [HF.out]; rfl, HX1.out⟩
    · obtain rfl : j = 0 := by omega
      have HF := Lib.hid (show res = u by rw [HRES.out, look_no (fun i z hz => HN.out i z (by omega) hz)]; exact HU.out)
      have qa := QA1.out
      go_wp2_with fail
      go_ret
      exact ⟨by rw [HF.out]; rfl, HX1.out⟩
end Go.Proofs.YtggdjiklgakfnaaGreatDoor
