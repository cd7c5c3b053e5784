/- IntentOk of the program and of the reference. Condition: the library's length lies in memory. -/
import Derived.Test.YtggdjiklgakfnaaGreatDoorOpOk
namespace Go.Proofs.YtggdjiklgakfnaaGreatDoor
set_option linter.unusedVariables false
set_option linter.unusedSimpArgs false
set_option linter.unnecessarySimpa false
section
open Go Go.Lib Go.RowKit

theorem str_e {t : Str} (h : t = []) : ((strB t).toList == []) = true ∧ (strB t).toList.isEmpty = true ∧ ((strB t).toList != []) = false ∧ (strB t).toList = [] := by subst h; rw [strB_list]; exact ⟨rfl, rfl, rfl, rfl⟩
theorem str_n {t : Str} (h : ¬ t = []) : ((strB t).toList == []) = false ∧ (strB t).toList.isEmpty = false ∧ ((strB t).toList != []) = true ∧ ¬ (strB t).toList = [] := by
  rw [strB_list]
  cases t with
  | nil => exact absurd rfl h
  | cons c r => exact ⟨rfl, rfl, rfl, by simp⟩
theorem opB_eq (k : Int) (p t : Str) (a : Int) (x : Str) : opB (k, p, t, a, x) = (inB k 1 7 && (pathB p && ((if twoB k = true then pathB t else decide (t = [])) && ((decide (k = 3) || decide (x = [])) && (decide (x.length ≤ 24) && (decide (a = 0) || (sizB k && inB a 0 192))))))) := rfl
set_option maxRecDepth 100000 in
set_option maxHeartbeats 8000000 in
theorem spOpOk_any (k : Int) (p t : Str) (a : Int) (x : Str) (w : World) (hp : p.length ≤ 3000000000) (ht : t.length ≤ 3000000000) (hx : x.length ≤ 3000000000) :
    Calls Tryz.prog 90 #[.agg #[.int .i64 k, .string (strB p), .string (strB t), .int .i64 a, .string (strB x)]] w fun e w' => e = .returned (.bool (opB (k, p, t, a, x))) ∧ Below w.heap.size w w' := by
  have HRES := Lib.hid (opB_eq k p t a x)
  generalize opB (k, p, t, a, x) = res at *
  have hxs : (strB x).size = x.length := rfl
  skip
  have hkc : k = 3 ∨ k = 4 ∨ k = 6 ∨ k = 7 ∨ (¬ k = 3 ∧ ¬ k = 4 ∧ ¬ k = 6 ∧ ¬ k = 7) := by omega
  rcases hkc with hk | hk | hk | hk | ⟨k3, k4, k6, k7⟩
  · skip
    subst hk
    have hk1 : inB 3 1 7 = true := by decide
    go_enter Tryz.func90, Tryz.ntmps90
    go_wp2_with fail
    refine (l6In_any _ _ _ _).mono ?_
    rw [hk1]
    rintro e w' ⟨rfl, rfl⟩
    go_wp2_with fail
    refine (spPathOk_any p _ hp).mono ?_
    obtain ⟨pb, hpb'⟩ : ∃ b, b = pathB p := ⟨_, rfl⟩
    rw [← hpb']
    have HPB := Lib.hid hpb'; clear hpb'
    rintro e w1 ⟨rfl, hb1⟩
    have c1_0 : w1.cell? ⟨w.heap.size, 0, none⟩ = some (.int .i64 3) := (hb1.cell (by simp)).trans (by simp [go_sem])
    have c1_1 : w1.cell? ⟨w.heap.size, 1, none⟩ = some (.string (strB p)) := (hb1.cell (by simp)).trans (by simp [go_sem])
    have c1_2 : w1.cell? ⟨w.heap.size, 2, none⟩ = some (.string (strB t)) := (hb1.cell (by simp)).trans (by simp [go_sem])
    have c1_3 : w1.cell? ⟨w.heap.size, 3, none⟩ = some (.int .i64 a) := (hb1.cell (by simp)).trans (by simp [go_sem])
    have c1_4 : w1.cell? ⟨w.heap.size, 4, none⟩ = some (.string (strB x)) := (hb1.cell (by simp)).trans (by simp [go_sem])
    have l1 : w.heap.size < w1.heap.size := World.block_lt_of_cell? _ _ c1_0
    have HB1 : Hid (Below w.heap.size w w1) := Lib.hid (bel1.trans (hb1.mono (by simp)))
    clear hb1
    cases pb
    case false =>
      have HF := Lib.hid (show res = false by rw [HRES.out]; simp [twoB, sizB, hk1, HPB.out.symm])
      go_wp2_with fail
      go_ret
      exact ⟨ret_bool HF.out.symm, HB1.out⟩
    case true =>
      by_cases hte : t = []
      · skip
        obtain ⟨hte1, hte2, hte3, hte4⟩ := str_e hte
        have HTE := Lib.hid hte; clear hte
        by_cases hxl : x.length ≤ 24
        · skip
          have hx5 : ¬ (24 : Int) < (x.length : Int) := by omega
          by_cases ha0 : a = 0
          · skip
            have ha1 : (a == 0) = true := by simp [ha0]
            have HA0 := Lib.hid ha0; clear ha0
            have HF := Lib.hid (show res = true by rw [HRES.out]; simp [twoB, sizB, hk1, HPB.out.symm, HTE.out, hxl, HA0.out])
            go_wp2_with fail
            go_ret
            exact ⟨ret_bool HF.out.symm, HB1.out⟩
          · skip
            have ha1 : (a == 0) = false := by simp [ha0]
            go_wp2_with fail
            refine (l6In_any _ _ _ _).mono ?_
            obtain ⟨ab, hab'⟩ : ∃ b, b = inB a 0 192 := ⟨_, rfl⟩
            rw [← hab']
            have HAB := Lib.hid hab'; clear hab'
            rintro e w' ⟨rfl, rfl⟩
            cases ab
            case false =>
              have HF := Lib.hid (show res = false by rw [HRES.out]; simp [twoB, sizB, hk1, HPB.out.symm, HTE.out, hxl, ha0, HAB.out.symm])
              go_wp2_with fail
              go_ret
              exact ⟨ret_bool HF.out.symm, HB1.out⟩
            case true =>
              have HF := Lib.hid (show res = true by rw [HRES.out]; simp [twoB, sizB, hk1, HPB.out.symm, HTE.out, hxl, ha0, HAB.out.symm])
              go_wp2_with fail
              go_ret
              exact ⟨ret_bool HF.out.symm, HB1.out⟩
        · skip
          have hx5 : (24 : Int) < (x.length : Int) := by omega
          have HF := Lib.hid (show res = false by rw [HRES.out]; simp [twoB, sizB, hk1, HPB.out.symm, HTE.out, hxl])
          go_wp2_with fail
          go_ret
          exact ⟨ret_bool HF.out.symm, HB1.out⟩
      · skip
        obtain ⟨hte1, hte2, hte3, hte4⟩ := str_n hte
        have HTE := Lib.hid hte; clear hte
        have HF := Lib.hid (show res = false by rw [HRES.out]; simp [twoB, sizB, hk1, HPB.out.symm, HTE.out])
        go_wp2_with fail
        go_ret
        exact ⟨ret_bool HF.out.symm, HB1.out⟩
  · skip
    subst hk
    have hk1 : inB 4 1 7 = true := by decide
    go_enter Tryz.func90, Tryz.ntmps90
    go_wp2_with fail
    refine (l6In_any _ _ _ _).mono ?_
    rw [hk1]
    rintro e w' ⟨rfl, rfl⟩
    go_wp2_with fail
    refine (spPathOk_any p _ hp).mono ?_
    obtain ⟨pb, hpb'⟩ : ∃ b, b = pathB p := ⟨_, rfl⟩
    rw [← hpb']
    have HPB := Lib.hid hpb'; clear hpb'
    rintro e w1 ⟨rfl, hb1⟩
    have c1_0 : w1.cell? ⟨w.heap.size, 0, none⟩ = some (.int .i64 4) := (hb1.cell (by simp)).trans (by simp [go_sem])
    have c1_1 : w1.cell? ⟨w.heap.size, 1, none⟩ = some (.string (strB p)) := (hb1.cell (by simp)).trans (by simp [go_sem])
    have c1_2 : w1.cell? ⟨w.heap.size, 2, none⟩ = some (.string (strB t)) := (hb1.cell (by simp)).trans (by simp [go_sem])
    have c1_3 : w1.cell? ⟨w.heap.size, 3, none⟩ = some (.int .i64 a) := (hb1.cell (by simp)).trans (by simp [go_sem])
    have c1_4 : w1.cell? ⟨w.heap.size, 4, none⟩ = some (.string (strB x)) := (hb1.cell (by simp)).trans (by simp [go_sem])
    have l1 : w.heap.size < w1.heap.size := World.block_lt_of_cell? _ _ c1_0
    have HB1 : Hid (Below w.heap.size w w1) := Lib.hid (bel1.trans (hb1.mono (by simp)))
    clear hb1
    cases pb
    case false =>
      have HF := Lib.hid (show res = false by rw [HRES.out]; simp [twoB, sizB, hk1, HPB.out.symm])
      go_wp2_with fail
      go_ret
      exact ⟨ret_bool HF.out.symm, HB1.out⟩
    case true =>
      by_cases hte : t = []
      · skip
        obtain ⟨hte1, hte2, hte3, hte4⟩ := str_e hte
        have HTE := Lib.hid hte; clear hte
        by_cases hxe : x = []
        · skip
          obtain ⟨hxe1, hxe2, hxe3, hxe4⟩ := str_e hxe
          have HXE := Lib.hid hxe; clear hxe
          have hxl : x.length ≤ 24 := by rw [HXE.out]; simp
          have hx5 : ¬ (24 : Int) < (x.length : Int) := by omega
          by_cases ha0 : a = 0
          · skip
            have ha1 : (a == 0) = true := by simp [ha0]
            have HA0 := Lib.hid ha0; clear ha0
            have HF := Lib.hid (show res = true by rw [HRES.out]; simp [twoB, sizB, hk1, HPB.out.symm, HTE.out, HXE.out, hxl, HA0.out])
            go_wp2_with fail
            go_ret
            exact ⟨ret_bool HF.out.symm, HB1.out⟩
          · skip
            have ha1 : (a == 0) = false := by simp [ha0]
            go_wp2_with fail
            refine (l6In_any _ _ _ _).mono ?_
            obtain ⟨ab, hab'⟩ : ∃ b, b = inB a 0 192 := ⟨_, rfl⟩
            rw [← hab']
            have HAB := Lib.hid hab'; clear hab'
            rintro e w' ⟨rfl, rfl⟩
            cases ab
            case false =>
              have HF := Lib.hid (show res = false by rw [HRES.out]; simp [twoB, sizB, hk1, HPB.out.symm, HTE.out, HXE.out, hxl, ha0, HAB.out.symm])
              go_wp2_with fail
              go_ret
              exact ⟨ret_bool HF.out.symm, HB1.out⟩
            case true =>
              have HF := Lib.hid (show res = true by rw [HRES.out]; simp [twoB, sizB, hk1, HPB.out.symm, HTE.out, HXE.out, hxl, ha0, HAB.out.symm])
              go_wp2_with fail
              go_ret
              exact ⟨ret_bool HF.out.symm, HB1.out⟩
        · skip
          obtain ⟨hxe1, hxe2, hxe3, hxe4⟩ := str_n hxe
          have HXE := Lib.hid hxe; clear hxe
          have HF := Lib.hid (show res = false by rw [HRES.out]; simp [twoB, sizB, hk1, HPB.out.symm, HTE.out, HXE.out])
          go_wp2_with fail
          go_ret
          exact ⟨ret_bool HF.out.symm, HB1.out⟩
      · skip
        obtain ⟨hte1, hte2, hte3, hte4⟩ := str_n hte
        have HTE := Lib.hid hte; clear hte
        have HF := Lib.hid (show res = false by rw [HRES.out]; simp [twoB, sizB, hk1, HPB.out.symm, HTE.out])
        go_wp2_with fail
        go_ret
        exact ⟨ret_bool HF.out.symm, HB1.out⟩
  · skip
    subst hk
    have hk1 : inB 6 1 7 = true := by decide
    go_enter Tryz.func90, Tryz.ntmps90
    go_wp2_with fail
    refine (l6In_any _ _ _ _).mono ?_
    rw [hk1]
    rintro e w' ⟨rfl, rfl⟩
    go_wp2_with fail
    refine (spPathOk_any p _ hp).mono ?_
    obtain ⟨pb, hpb'⟩ : ∃ b, b = pathB p := ⟨_, rfl⟩
    rw [← hpb']
    have HPB := Lib.hid hpb'; clear hpb'
    rintro e w1 ⟨rfl, hb1⟩
    have c1_0 : w1.cell? ⟨w.heap.size, 0, none⟩ = some (.int .i64 6) := (hb1.cell (by simp)).trans (by simp [go_sem])
    have c1_1 : w1.cell? ⟨w.heap.size, 1, none⟩ = some (.string (strB p)) := (hb1.cell (by simp)).trans (by simp [go_sem])
    have c1_2 : w1.cell? ⟨w.heap.size, 2, none⟩ = some (.string (strB t)) := (hb1.cell (by simp)).trans (by simp [go_sem])
    have c1_3 : w1.cell? ⟨w.heap.size, 3, none⟩ = some (.int .i64 a) := (hb1.cell (by simp)).trans (by simp [go_sem])
    have c1_4 : w1.cell? ⟨w.heap.size, 4, none⟩ = some (.string (strB x)) := (hb1.cell (by simp)).trans (by simp [go_sem])
    have l1 : w.heap.size < w1.heap.size := World.block_lt_of_cell? _ _ c1_0
    have HB1 : Hid (Below w.heap.size w w1) := Lib.hid (bel1.trans (hb1.mono (by simp)))
    clear hb1
    cases pb
    case false =>
      have HF := Lib.hid (show res = false by rw [HRES.out]; simp [twoB, sizB, hk1, HPB.out.symm])
      go_wp2_with fail
      go_ret
      exact ⟨ret_bool HF.out.symm, HB1.out⟩
    case true =>
      by_cases hte : t = []
      · skip
        obtain ⟨hte1, hte2, hte3, hte4⟩ := str_e hte
        have HTE := Lib.hid hte; clear hte
        go_wp2_with fail
        refine (spPathOk_any t _ ht).mono ?_
        obtain ⟨tb, htb'⟩ : ∃ b, b = pathB t := ⟨_, rfl⟩
        rw [← htb']
        have HTB := Lib.hid htb'; clear htb'
        rintro e w2 ⟨rfl, hb2⟩
        have c2_0 : w2.cell? ⟨w.heap.size, 0, none⟩ = some (.int .i64 6) := (hb2.cell l1).trans c1_0
        have c2_1 : w2.cell? ⟨w.heap.size, 1, none⟩ = some (.string (strB p)) := (hb2.cell l1).trans c1_1
        have c2_2 : w2.cell? ⟨w.heap.size, 2, none⟩ = some (.string (strB t)) := (hb2.cell l1).trans c1_2
        have c2_3 : w2.cell? ⟨w.heap.size, 3, none⟩ = some (.int .i64 a) := (hb2.cell l1).trans c1_3
        have c2_4 : w2.cell? ⟨w.heap.size, 4, none⟩ = some (.string (strB x)) := (hb2.cell l1).trans c1_4
        have l2 : w.heap.size < w2.heap.size := World.block_lt_of_cell? _ _ c2_0
        have HB2 : Hid (Below w.heap.size w w2) := Lib.hid (HB1.out.trans (hb2.mono HB1.out.size))
        clear hb2 l1 c1_0 c1_1 c1_2 c1_3 c1_4
        have HTB2 : Hid (pathB t = false) := Lib.hid (by rw [HTE.out]; exact path_nil)
        have hx := HTB.out; rw [HTB2.out] at hx; subst hx; clear HTB
        have HF := Lib.hid (show res = false by rw [HRES.out]; simp [twoB, sizB, hk1, HPB.out.symm, HTB2.out])
        go_wp2_with fail
        go_ret
        exact ⟨ret_bool HF.out.symm, HB2.out⟩
      · skip
        obtain ⟨hte1, hte2, hte3, hte4⟩ := str_n hte
        have HTE := Lib.hid hte; clear hte
        go_wp2_with fail
        refine (spPathOk_any t _ ht).mono ?_
        obtain ⟨tb, htb'⟩ : ∃ b, b = pathB t := ⟨_, rfl⟩
        rw [← htb']
        have HTB := Lib.hid htb'; clear htb'
        rintro e w2 ⟨rfl, hb2⟩
        have c2_0 : w2.cell? ⟨w.heap.size, 0, none⟩ = some (.int .i64 6) := (hb2.cell l1).trans c1_0
        have c2_1 : w2.cell? ⟨w.heap.size, 1, none⟩ = some (.string (strB p)) := (hb2.cell l1).trans c1_1
        have c2_2 : w2.cell? ⟨w.heap.size, 2, none⟩ = some (.string (strB t)) := (hb2.cell l1).trans c1_2
        have c2_3 : w2.cell? ⟨w.heap.size, 3, none⟩ = some (.int .i64 a) := (hb2.cell l1).trans c1_3
        have c2_4 : w2.cell? ⟨w.heap.size, 4, none⟩ = some (.string (strB x)) := (hb2.cell l1).trans c1_4
        have l2 : w.heap.size < w2.heap.size := World.block_lt_of_cell? _ _ c2_0
        have HB2 : Hid (Below w.heap.size w w2) := Lib.hid (HB1.out.trans (hb2.mono HB1.out.size))
        clear hb2 l1 c1_0 c1_1 c1_2 c1_3 c1_4
        cases tb
        case false =>
          have HF := Lib.hid (show res = false by rw [HRES.out]; simp [twoB, sizB, hk1, HPB.out.symm, HTE.out, HTB.out.symm])
          go_wp2_with fail
          go_ret
          exact ⟨ret_bool HF.out.symm, HB2.out⟩
        case true =>
          by_cases hxe : x = []
          · skip
            obtain ⟨hxe1, hxe2, hxe3, hxe4⟩ := str_e hxe
            have HXE := Lib.hid hxe; clear hxe
            have hxl : x.length ≤ 24 := by rw [HXE.out]; simp
            have hx5 : ¬ (24 : Int) < (x.length : Int) := by omega
            by_cases ha0 : a = 0
            · skip
              have ha1 : (a == 0) = true := by simp [ha0]
              have HA0 := Lib.hid ha0; clear ha0
              have HF := Lib.hid (show res = true by rw [HRES.out]; simp [twoB, sizB, hk1, HPB.out.symm, HTE.out, HTB.out.symm, HXE.out, hxl, HA0.out])
              go_wp2_with fail
              go_ret
              exact ⟨ret_bool HF.out.symm, HB2.out⟩
            · skip
              have ha1 : (a == 0) = false := by simp [ha0]
              have HF := Lib.hid (show res = false by rw [HRES.out]; simp [twoB, sizB, hk1, HPB.out.symm, HTE.out, HTB.out.symm, HXE.out, hxl, ha0])
              go_wp2_with fail
              go_ret
              exact ⟨ret_bool HF.out.symm, HB2.out⟩
          · skip
            obtain ⟨hxe1, hxe2, hxe3, hxe4⟩ := str_n hxe
            have HXE := Lib.hid hxe; clear hxe
            have HF := Lib.hid (show res = false by rw [HRES.out]; simp [twoB, sizB, hk1, HPB.out.symm, HTE.out, HTB.out.symm, HXE.out])
            go_wp2_with fail
            go_ret
            exact ⟨ret_bool HF.out.symm, HB2.out⟩
  · skip
    subst hk
    have hk1 : inB 7 1 7 = true := by decide
    go_enter Tryz.func90, Tryz.ntmps90
    go_wp2_with fail
    refine (l6In_any _ _ _ _).mono ?_
    rw [hk1]
    rintro e w' ⟨rfl, rfl⟩
    go_wp2_with fail
    refine (spPathOk_any p _ hp).mono ?_
    obtain ⟨pb, hpb'⟩ : ∃ b, b = pathB p := ⟨_, rfl⟩
    rw [← hpb']
    have HPB := Lib.hid hpb'; clear hpb'
    rintro e w1 ⟨rfl, hb1⟩
    have c1_0 : w1.cell? ⟨w.heap.size, 0, none⟩ = some (.int .i64 7) := (hb1.cell (by simp)).trans (by simp [go_sem])
    have c1_1 : w1.cell? ⟨w.heap.size, 1, none⟩ = some (.string (strB p)) := (hb1.cell (by simp)).trans (by simp [go_sem])
    have c1_2 : w1.cell? ⟨w.heap.size, 2, none⟩ = some (.string (strB t)) := (hb1.cell (by simp)).trans (by simp [go_sem])
    have c1_3 : w1.cell? ⟨w.heap.size, 3, none⟩ = some (.int .i64 a) := (hb1.cell (by simp)).trans (by simp [go_sem])
    have c1_4 : w1.cell? ⟨w.heap.size, 4, none⟩ = some (.string (strB x)) := (hb1.cell (by simp)).trans (by simp [go_sem])
    have l1 : w.heap.size < w1.heap.size := World.block_lt_of_cell? _ _ c1_0
    have HB1 : Hid (Below w.heap.size w w1) := Lib.hid (bel1.trans (hb1.mono (by simp)))
    clear hb1
    cases pb
    case false =>
      have HF := Lib.hid (show res = false by rw [HRES.out]; simp [twoB, sizB, hk1, HPB.out.symm])
      go_wp2_with fail
      go_ret
      exact ⟨ret_bool HF.out.symm, HB1.out⟩
    case true =>
      by_cases hte : t = []
      · skip
        obtain ⟨hte1, hte2, hte3, hte4⟩ := str_e hte
        have HTE := Lib.hid hte; clear hte
        go_wp2_with fail
        refine (spPathOk_any t _ ht).mono ?_
        obtain ⟨tb, htb'⟩ : ∃ b, b = pathB t := ⟨_, rfl⟩
        rw [← htb']
        have HTB := Lib.hid htb'; clear htb'
        rintro e w2 ⟨rfl, hb2⟩
        have c2_0 : w2.cell? ⟨w.heap.size, 0, none⟩ = some (.int .i64 7) := (hb2.cell l1).trans c1_0
        have c2_1 : w2.cell? ⟨w.heap.size, 1, none⟩ = some (.string (strB p)) := (hb2.cell l1).trans c1_1
        have c2_2 : w2.cell? ⟨w.heap.size, 2, none⟩ = some (.string (strB t)) := (hb2.cell l1).trans c1_2
        have c2_3 : w2.cell? ⟨w.heap.size, 3, none⟩ = some (.int .i64 a) := (hb2.cell l1).trans c1_3
        have c2_4 : w2.cell? ⟨w.heap.size, 4, none⟩ = some (.string (strB x)) := (hb2.cell l1).trans c1_4
        have l2 : w.heap.size < w2.heap.size := World.block_lt_of_cell? _ _ c2_0
        have HB2 : Hid (Below w.heap.size w w2) := Lib.hid (HB1.out.trans (hb2.mono HB1.out.size))
        clear hb2 l1 c1_0 c1_1 c1_2 c1_3 c1_4
        have HTB2 : Hid (pathB t = false) := Lib.hid (by rw [HTE.out]; exact path_nil)
        have hx := HTB.out; rw [HTB2.out] at hx; subst hx; clear HTB
        have HF := Lib.hid (show res = false by rw [HRES.out]; simp [twoB, sizB, hk1, HPB.out.symm, HTB2.out])
        go_wp2_with fail
        go_ret
        exact ⟨ret_bool HF.out.symm, HB2.out⟩
      · skip
        obtain ⟨hte1, hte2, hte3, hte4⟩ := str_n hte
        have HTE := Lib.hid hte; clear hte
        go_wp2_with fail
        refine (spPathOk_any t _ ht).mono ?_
        obtain ⟨tb, htb'⟩ : ∃ b, b = pathB t := ⟨_, rfl⟩
        rw [← htb']
        have HTB := Lib.hid htb'; clear htb'
        rintro e w2 ⟨rfl, hb2⟩
        have c2_0 : w2.cell? ⟨w.heap.size, 0, none⟩ = some (.int .i64 7) := (hb2.cell l1).trans c1_0
        have c2_1 : w2.cell? ⟨w.heap.size, 1, none⟩ = some (.string (strB p)) := (hb2.cell l1).trans c1_1
        have c2_2 : w2.cell? ⟨w.heap.size, 2, none⟩ = some (.string (strB t)) := (hb2.cell l1).trans c1_2
        have c2_3 : w2.cell? ⟨w.heap.size, 3, none⟩ = some (.int .i64 a) := (hb2.cell l1).trans c1_3
        have c2_4 : w2.cell? ⟨w.heap.size, 4, none⟩ = some (.string (strB x)) := (hb2.cell l1).trans c1_4
        have l2 : w.heap.size < w2.heap.size := World.block_lt_of_cell? _ _ c2_0
        have HB2 : Hid (Below w.heap.size w w2) := Lib.hid (HB1.out.trans (hb2.mono HB1.out.size))
        clear hb2 l1 c1_0 c1_1 c1_2 c1_3 c1_4
        cases tb
        case false =>
          have HF := Lib.hid (show res = false by rw [HRES.out]; simp [twoB, sizB, hk1, HPB.out.symm, HTE.out, HTB.out.symm])
          go_wp2_with fail
          go_ret
          exact ⟨ret_bool HF.out.symm, HB2.out⟩
        case true =>
          by_cases hxe : x = []
          · skip
            obtain ⟨hxe1, hxe2, hxe3, hxe4⟩ := str_e hxe
            have HXE := Lib.hid hxe; clear hxe
            have hxl : x.length ≤ 24 := by rw [HXE.out]; simp
            have hx5 : ¬ (24 : Int) < (x.length : Int) := by omega
            by_cases ha0 : a = 0
            · skip
              have ha1 : (a == 0) = true := by simp [ha0]
              have HA0 := Lib.hid ha0; clear ha0
              have HF := Lib.hid (show res = true by rw [HRES.out]; simp [twoB, sizB, hk1, HPB.out.symm, HTE.out, HTB.out.symm, HXE.out, hxl, HA0.out])
              go_wp2_with fail
              go_ret
              exact ⟨ret_bool HF.out.symm, HB2.out⟩
            · skip
              have ha1 : (a == 0) = false := by simp [ha0]
              have HF := Lib.hid (show res = false by rw [HRES.out]; simp [twoB, sizB, hk1, HPB.out.symm, HTE.out, HTB.out.symm, HXE.out, hxl, ha0])
              go_wp2_with fail
              go_ret
              exact ⟨ret_bool HF.out.symm, HB2.out⟩
          · skip
            obtain ⟨hxe1, hxe2, hxe3, hxe4⟩ := str_n hxe
            have HXE := Lib.hid hxe; clear hxe
            have HF := Lib.hid (show res = false by rw [HRES.out]; simp [twoB, sizB, hk1, HPB.out.symm, HTE.out, HTB.out.symm, HXE.out])
            go_wp2_with fail
            go_ret
            exact ⟨ret_bool HF.out.symm, HB2.out⟩
  · skip
    have b3 : (k == 3) = false := by simp [k3]
    have b4 : (k == 4) = false := by simp [k4]
    have b6 : (k == 6) = false := by simp [k6]
    have b7 : (k == 7) = false := by simp [k7]
    have n3 : (k != 3) = true := by simp [k3]
    go_enter Tryz.func90, Tryz.ntmps90
    go_wp2_with fail
    refine (l6In_any _ _ _ _).mono ?_
    obtain ⟨kb, hkb'⟩ : ∃ b, b = inB k 1 7 := ⟨_, rfl⟩
    rw [← hkb']
    have HKB := Lib.hid hkb'; clear hkb'
    rintro e w' ⟨rfl, rfl⟩
    cases kb
    case false =>
      have HF := Lib.hid (show res = false by rw [HRES.out]; simp [twoB, sizB, k3, k4, k6, k7, HKB.out.symm])
      go_wp2_with fail
      go_ret
      exact ⟨ret_bool HF.out.symm, bel1⟩
    case true =>
      go_wp2_with fail
      refine (spPathOk_any p _ hp).mono ?_
      obtain ⟨pb, hpb'⟩ : ∃ b, b = pathB p := ⟨_, rfl⟩
      rw [← hpb']
      have HPB := Lib.hid hpb'; clear hpb'
      rintro e w1 ⟨rfl, hb1⟩
      have c1_0 : w1.cell? ⟨w.heap.size, 0, none⟩ = some (.int .i64 k) := (hb1.cell (by simp)).trans (by simp [go_sem])
      have c1_1 : w1.cell? ⟨w.heap.size, 1, none⟩ = some (.string (strB p)) := (hb1.cell (by simp)).trans (by simp [go_sem])
      have c1_2 : w1.cell? ⟨w.heap.size, 2, none⟩ = some (.string (strB t)) := (hb1.cell (by simp)).trans (by simp [go_sem])
      have c1_3 : w1.cell? ⟨w.heap.size, 3, none⟩ = some (.int .i64 a) := (hb1.cell (by simp)).trans (by simp [go_sem])
      have c1_4 : w1.cell? ⟨w.heap.size, 4, none⟩ = some (.string (strB x)) := (hb1.cell (by simp)).trans (by simp [go_sem])
      have l1 : w.heap.size < w1.heap.size := World.block_lt_of_cell? _ _ c1_0
      have HB1 : Hid (Below w.heap.size w w1) := Lib.hid (bel1.trans (hb1.mono (by simp)))
      clear hb1
      cases pb
      case false =>
        have HF := Lib.hid (show res = false by rw [HRES.out]; simp [twoB, sizB, k3, k4, k6, k7, HKB.out.symm, HPB.out.symm])
        go_wp2_with fail
        go_ret
        exact ⟨ret_bool HF.out.symm, HB1.out⟩
      case true =>
        by_cases hte : t = []
        · skip
          obtain ⟨hte1, hte2, hte3, hte4⟩ := str_e hte
          have HTE := Lib.hid hte; clear hte
          by_cases hxe : x = []
          · skip
            obtain ⟨hxe1, hxe2, hxe3, hxe4⟩ := str_e hxe
            have HXE := Lib.hid hxe; clear hxe
            have hxl : x.length ≤ 24 := by rw [HXE.out]; simp
            have hx5 : ¬ (24 : Int) < (x.length : Int) := by omega
            by_cases ha0 : a = 0
            · skip
              have ha1 : (a == 0) = true := by simp [ha0]
              have HA0 := Lib.hid ha0; clear ha0
              have HF := Lib.hid (show res = true by rw [HRES.out]; simp [twoB, sizB, k3, k4, k6, k7, HKB.out.symm, HPB.out.symm, HTE.out, HXE.out, hxl, HA0.out])
              go_wp2_with fail
              go_ret
              exact ⟨ret_bool HF.out.symm, HB1.out⟩
            · skip
              have ha1 : (a == 0) = false := by simp [ha0]
              have HF := Lib.hid (show res = false by rw [HRES.out]; simp [twoB, sizB, k3, k4, k6, k7, HKB.out.symm, HPB.out.symm, HTE.out, HXE.out, hxl, ha0])
              go_wp2_with fail
              go_ret
              exact ⟨ret_bool HF.out.symm, HB1.out⟩
          · skip
            obtain ⟨hxe1, hxe2, hxe3, hxe4⟩ := str_n hxe
            have HXE := Lib.hid hxe; clear hxe
            have HF := Lib.hid (show res = false by rw [HRES.out]; simp [twoB, sizB, k3, k4, k6, k7, HKB.out.symm, HPB.out.symm, HTE.out, HXE.out])
            go_wp2_with fail
            go_ret
            exact ⟨ret_bool HF.out.symm, HB1.out⟩
        · skip
          obtain ⟨hte1, hte2, hte3, hte4⟩ := str_n hte
          have HTE := Lib.hid hte; clear hte
          have HF := Lib.hid (show res = false by rw [HRES.out]; simp [twoB, sizB, k3, k4, k6, k7, HKB.out.symm, HPB.out.symm, HTE.out])
          go_wp2_with fail
          go_ret
          exact ⟨ret_bool HF.out.symm, HB1.out⟩
set_option maxRecDepth 100000 in
set_option maxHeartbeats 8000000 in
theorem opOk_any (k : Int) (p t : Str) (a : Int) (x : Str) (w : World) (hm : MLen w) (hp : p.length ≤ 3000000000) (ht : t.length ≤ 3000000000) (hx : x.length ≤ 3000000000) :
    Calls Tryz.prog 26 #[.agg #[.int .i64 k, .string (strB p), .string (strB t), .int .i64 a, .string (strB x)]] w fun e w' => e = .returned (.bool (opB (k, p, t, a, x))) ∧ Below w.heap.size w w' := by
  have HRES := Lib.hid (opB_eq k p t a x)
  generalize opB (k, p, t, a, x) = res at *
  have hxs : (strB x).size = x.length := rfl
  have HM := Lib.hid hm; clear hm
  have hkc : k = 3 ∨ k = 4 ∨ k = 6 ∨ k = 7 ∨ (¬ k = 3 ∧ ¬ k = 4 ∧ ¬ k = 6 ∧ ¬ k = 7) := by omega
  rcases hkc with hk | hk | hk | hk | ⟨k3, k4, k6, k7⟩
  · skip
    subst hk
    have hk1 : inB 3 1 7 = true := by decide
    go_enter Tryz.func26, Tryz.ntmps26
    go_wp2_with fail
    refine (within_any _ _ _ _).mono ?_
    rw [hk1]
    rintro e w' ⟨rfl, rfl⟩
    go_wp2_with fail
    refine (pathOk_any p _ (HM.out.below bel1) hp).mono ?_
    obtain ⟨pb, hpb'⟩ : ∃ b, b = pathB p := ⟨_, rfl⟩
    rw [← hpb']
    have HPB := Lib.hid hpb'; clear hpb'
    rintro e w1 ⟨rfl, hb1⟩
    have c1_0 : w1.cell? ⟨w.heap.size, 0, none⟩ = some (.int .i64 3) := (hb1.cell (by simp)).trans (by simp [go_sem])
    have c1_1 : w1.cell? ⟨w.heap.size, 1, none⟩ = some (.string (strB p)) := (hb1.cell (by simp)).trans (by simp [go_sem])
    have c1_2 : w1.cell? ⟨w.heap.size, 2, none⟩ = some (.string (strB t)) := (hb1.cell (by simp)).trans (by simp [go_sem])
    have c1_3 : w1.cell? ⟨w.heap.size, 3, none⟩ = some (.int .i64 a) := (hb1.cell (by simp)).trans (by simp [go_sem])
    have c1_4 : w1.cell? ⟨w.heap.size, 4, none⟩ = some (.string (strB x)) := (hb1.cell (by simp)).trans (by simp [go_sem])
    have l1 : w.heap.size < w1.heap.size := World.block_lt_of_cell? _ _ c1_0
    have HB1 : Hid (Below w.heap.size w w1) := Lib.hid (bel1.trans (hb1.mono (by simp)))
    clear hb1
    cases pb
    case false =>
      have HF := Lib.hid (show res = false by rw [HRES.out]; simp [twoB, sizB, hk1, HPB.out.symm])
      go_wp2_with fail
      go_ret
      exact ⟨ret_bool HF.out.symm, HB1.out⟩
    case true =>
      by_cases hte : t = []
      · skip
        obtain ⟨hte1, hte2, hte3, hte4⟩ := str_e hte
        have HTE := Lib.hid hte; clear hte
        go_wp2_with fail
        refine (within_any _ _ _ _).mono ?_
        obtain ⟨ab, hab'⟩ : ∃ b, b = inB a 0 192 := ⟨_, rfl⟩
        rw [← hab']
        have HAB := Lib.hid hab'; clear hab'
        rintro e w' ⟨rfl, rfl⟩
        cases ab
        case false =>
          have ha0 : ¬ a = 0 := fun e => by have h := HAB.out; rw [e] at h; revert h; decide
          have HF := Lib.hid (show res = false by rw [HRES.out]; simp [twoB, sizB, hk1, HPB.out.symm, HTE.out, HAB.out.symm, ha0])
          go_wp2_with fail
          go_ret
          exact ⟨ret_bool HF.out.symm, HB1.out⟩
        case true =>
          by_cases hxe : x = []
          · skip
            obtain ⟨hxe1, hxe2, hxe3, hxe4⟩ := str_e hxe
            have HXE := Lib.hid hxe; clear hxe
            have hxl : x.length ≤ 24 := by rw [HXE.out]; simp
            have HF := Lib.hid (show res = true by rw [HRES.out]; simp [twoB, sizB, hk1, HPB.out.symm, HTE.out, HAB.out.symm, HXE.out, hxl])
            go_wp2_with fail
            go_ret
            exact ⟨ret_bool HF.out.symm, HB1.out⟩
          · skip
            obtain ⟨hxe1, hxe2, hxe3, hxe4⟩ := str_n hxe
            have HXE := Lib.hid hxe; clear hxe
            by_cases hxl : x.length ≤ 24
            · skip
              have hx6 : decide ((x.length : Int) ≤ 24) = true := decide_eq_true (by omega)
              have HF := Lib.hid (show res = true by rw [HRES.out]; simp [twoB, sizB, hk1, HPB.out.symm, HTE.out, HAB.out.symm, HXE.out, hxl])
              go_wp2_with fail
              go_ret
              exact ⟨ret_bool HF.out.symm, HB1.out⟩
            · skip
              have hx6 : decide ((x.length : Int) ≤ 24) = false := decide_eq_false (by omega)
              have HF := Lib.hid (show res = false by rw [HRES.out]; simp [twoB, sizB, hk1, HPB.out.symm, HTE.out, HAB.out.symm, HXE.out, hxl])
              go_wp2_with fail
              go_ret
              exact ⟨ret_bool HF.out.symm, HB1.out⟩
      · skip
        obtain ⟨hte1, hte2, hte3, hte4⟩ := str_n hte
        have HTE := Lib.hid hte; clear hte
        have HF := Lib.hid (show res = false by rw [HRES.out]; simp [twoB, sizB, hk1, HPB.out.symm, HTE.out])
        go_wp2_with fail
        go_ret
        exact ⟨ret_bool HF.out.symm, HB1.out⟩
  · skip
    subst hk
    have hk1 : inB 4 1 7 = true := by decide
    go_enter Tryz.func26, Tryz.ntmps26
    go_wp2_with fail
    refine (within_any _ _ _ _).mono ?_
    rw [hk1]
    rintro e w' ⟨rfl, rfl⟩
    go_wp2_with fail
    refine (pathOk_any p _ (HM.out.below bel1) hp).mono ?_
    obtain ⟨pb, hpb'⟩ : ∃ b, b = pathB p := ⟨_, rfl⟩
    rw [← hpb']
    have HPB := Lib.hid hpb'; clear hpb'
    rintro e w1 ⟨rfl, hb1⟩
    have c1_0 : w1.cell? ⟨w.heap.size, 0, none⟩ = some (.int .i64 4) := (hb1.cell (by simp)).trans (by simp [go_sem])
    have c1_1 : w1.cell? ⟨w.heap.size, 1, none⟩ = some (.string (strB p)) := (hb1.cell (by simp)).trans (by simp [go_sem])
    have c1_2 : w1.cell? ⟨w.heap.size, 2, none⟩ = some (.string (strB t)) := (hb1.cell (by simp)).trans (by simp [go_sem])
    have c1_3 : w1.cell? ⟨w.heap.size, 3, none⟩ = some (.int .i64 a) := (hb1.cell (by simp)).trans (by simp [go_sem])
    have c1_4 : w1.cell? ⟨w.heap.size, 4, none⟩ = some (.string (strB x)) := (hb1.cell (by simp)).trans (by simp [go_sem])
    have l1 : w.heap.size < w1.heap.size := World.block_lt_of_cell? _ _ c1_0
    have HB1 : Hid (Below w.heap.size w w1) := Lib.hid (bel1.trans (hb1.mono (by simp)))
    clear hb1
    cases pb
    case false =>
      have HF := Lib.hid (show res = false by rw [HRES.out]; simp [twoB, sizB, hk1, HPB.out.symm])
      go_wp2_with fail
      go_ret
      exact ⟨ret_bool HF.out.symm, HB1.out⟩
    case true =>
      by_cases hte : t = []
      · skip
        obtain ⟨hte1, hte2, hte3, hte4⟩ := str_e hte
        have HTE := Lib.hid hte; clear hte
        go_wp2_with fail
        refine (within_any _ _ _ _).mono ?_
        obtain ⟨ab, hab'⟩ : ∃ b, b = inB a 0 192 := ⟨_, rfl⟩
        rw [← hab']
        have HAB := Lib.hid hab'; clear hab'
        rintro e w' ⟨rfl, rfl⟩
        cases ab
        case false =>
          have ha0 : ¬ a = 0 := fun e => by have h := HAB.out; rw [e] at h; revert h; decide
          have HF := Lib.hid (show res = false by rw [HRES.out]; simp [twoB, sizB, hk1, HPB.out.symm, HTE.out, HAB.out.symm, ha0])
          go_wp2_with fail
          go_ret
          exact ⟨ret_bool HF.out.symm, HB1.out⟩
        case true =>
          by_cases hxe : x = []
          · skip
            obtain ⟨hxe1, hxe2, hxe3, hxe4⟩ := str_e hxe
            have HXE := Lib.hid hxe; clear hxe
            have hxl : x.length ≤ 24 := by rw [HXE.out]; simp
            have HF := Lib.hid (show res = true by rw [HRES.out]; simp [twoB, sizB, hk1, HPB.out.symm, HTE.out, HAB.out.symm, HXE.out, hxl])
            go_wp2_with fail
            go_ret
            exact ⟨ret_bool HF.out.symm, HB1.out⟩
          · skip
            obtain ⟨hxe1, hxe2, hxe3, hxe4⟩ := str_n hxe
            have HXE := Lib.hid hxe; clear hxe
            have HF := Lib.hid (show res = false by rw [HRES.out]; simp [twoB, sizB, hk1, HPB.out.symm, HTE.out, HAB.out.symm, HXE.out])
            go_wp2_with fail
            go_ret
            exact ⟨ret_bool HF.out.symm, HB1.out⟩
      · skip
        obtain ⟨hte1, hte2, hte3, hte4⟩ := str_n hte
        have HTE := Lib.hid hte; clear hte
        have HF := Lib.hid (show res = false by rw [HRES.out]; simp [twoB, sizB, hk1, HPB.out.symm, HTE.out])
        go_wp2_with fail
        go_ret
        exact ⟨ret_bool HF.out.symm, HB1.out⟩
  · skip
    subst hk
    have hk1 : inB 6 1 7 = true := by decide
    go_enter Tryz.func26, Tryz.ntmps26
    go_wp2_with fail
    refine (within_any _ _ _ _).mono ?_
    rw [hk1]
    rintro e w' ⟨rfl, rfl⟩
    go_wp2_with fail
    refine (pathOk_any p _ (HM.out.below bel1) hp).mono ?_
    obtain ⟨pb, hpb'⟩ : ∃ b, b = pathB p := ⟨_, rfl⟩
    rw [← hpb']
    have HPB := Lib.hid hpb'; clear hpb'
    rintro e w1 ⟨rfl, hb1⟩
    have c1_0 : w1.cell? ⟨w.heap.size, 0, none⟩ = some (.int .i64 6) := (hb1.cell (by simp)).trans (by simp [go_sem])
    have c1_1 : w1.cell? ⟨w.heap.size, 1, none⟩ = some (.string (strB p)) := (hb1.cell (by simp)).trans (by simp [go_sem])
    have c1_2 : w1.cell? ⟨w.heap.size, 2, none⟩ = some (.string (strB t)) := (hb1.cell (by simp)).trans (by simp [go_sem])
    have c1_3 : w1.cell? ⟨w.heap.size, 3, none⟩ = some (.int .i64 a) := (hb1.cell (by simp)).trans (by simp [go_sem])
    have c1_4 : w1.cell? ⟨w.heap.size, 4, none⟩ = some (.string (strB x)) := (hb1.cell (by simp)).trans (by simp [go_sem])
    have l1 : w.heap.size < w1.heap.size := World.block_lt_of_cell? _ _ c1_0
    have HB1 : Hid (Below w.heap.size w w1) := Lib.hid (bel1.trans (hb1.mono (by simp)))
    clear hb1
    cases pb
    case false =>
      have HF := Lib.hid (show res = false by rw [HRES.out]; simp [twoB, sizB, hk1, HPB.out.symm])
      go_wp2_with fail
      go_ret
      exact ⟨ret_bool HF.out.symm, HB1.out⟩
    case true =>
      by_cases hte : t = []
      · skip
        obtain ⟨hte1, hte2, hte3, hte4⟩ := str_e hte
        have HTE := Lib.hid hte; clear hte
        have HTB : Hid (pathB t = false) := Lib.hid (by rw [HTE.out]; exact path_nil)
        have HF := Lib.hid (show res = false by rw [HRES.out]; simp [twoB, sizB, hk1, HPB.out.symm, HTB.out])
        go_wp2_with fail
        go_ret
        exact ⟨ret_bool HF.out.symm, HB1.out⟩
      · skip
        obtain ⟨hte1, hte2, hte3, hte4⟩ := str_n hte
        have HTE := Lib.hid hte; clear hte
        go_wp2_with fail
        refine (pathOk_any t _ (HM.out.below HB1.out) ht).mono ?_
        obtain ⟨tb, htb'⟩ : ∃ b, b = pathB t := ⟨_, rfl⟩
        rw [← htb']
        have HTB := Lib.hid htb'; clear htb'
        rintro e w2 ⟨rfl, hb2⟩
        have c2_0 : w2.cell? ⟨w.heap.size, 0, none⟩ = some (.int .i64 6) := (hb2.cell l1).trans c1_0
        have c2_1 : w2.cell? ⟨w.heap.size, 1, none⟩ = some (.string (strB p)) := (hb2.cell l1).trans c1_1
        have c2_2 : w2.cell? ⟨w.heap.size, 2, none⟩ = some (.string (strB t)) := (hb2.cell l1).trans c1_2
        have c2_3 : w2.cell? ⟨w.heap.size, 3, none⟩ = some (.int .i64 a) := (hb2.cell l1).trans c1_3
        have c2_4 : w2.cell? ⟨w.heap.size, 4, none⟩ = some (.string (strB x)) := (hb2.cell l1).trans c1_4
        have l2 : w.heap.size < w2.heap.size := World.block_lt_of_cell? _ _ c2_0
        have HB2 : Hid (Below w.heap.size w w2) := Lib.hid (HB1.out.trans (hb2.mono HB1.out.size))
        clear hb2 l1 c1_0 c1_1 c1_2 c1_3 c1_4
        cases tb
        case false =>
          have HF := Lib.hid (show res = false by rw [HRES.out]; simp [twoB, sizB, hk1, HPB.out.symm, HTE.out, HTB.out.symm])
          go_wp2_with fail
          go_ret
          exact ⟨ret_bool HF.out.symm, HB2.out⟩
        case true =>
          by_cases ha0 : a = 0
          · skip
            have ha1 : (a != 0) = false := by simp [ha0]
            have ha2 : (a == 0) = true := by simp [ha0]
            have HA0 := Lib.hid ha0; clear ha0
            go_wp2_with fail
            refine (within_any _ _ _ _).mono ?_
            obtain ⟨ab, hab'⟩ : ∃ b, b = inB a 0 192 := ⟨_, rfl⟩
            rw [← hab']
            have HAB := Lib.hid hab'; clear hab'
            rintro e w' ⟨rfl, rfl⟩
            cases ab
            case false =>
              exfalso; have := HAB.out; rw [HA0.out] at this; revert this; decide
            case true =>
              by_cases hxe : x = []
              · skip
                obtain ⟨hxe1, hxe2, hxe3, hxe4⟩ := str_e hxe
                have HXE := Lib.hid hxe; clear hxe
                have hxl : x.length ≤ 24 := by rw [HXE.out]; simp
                have HF := Lib.hid (show res = true by rw [HRES.out]; simp [twoB, sizB, hk1, HPB.out.symm, HTE.out, HTB.out.symm, HA0.out, HAB.out.symm, HXE.out, hxl])
                go_wp2_with fail
                go_ret
                exact ⟨ret_bool HF.out.symm, HB2.out⟩
              · skip
                obtain ⟨hxe1, hxe2, hxe3, hxe4⟩ := str_n hxe
                have HXE := Lib.hid hxe; clear hxe
                have HF := Lib.hid (show res = false by rw [HRES.out]; simp [twoB, sizB, hk1, HPB.out.symm, HTE.out, HTB.out.symm, HA0.out, HAB.out.symm, HXE.out])
                go_wp2_with fail
                go_ret
                exact ⟨ret_bool HF.out.symm, HB2.out⟩
          · skip
            have ha1 : (a != 0) = true := by simp [ha0]
            have ha2 : (a == 0) = false := by simp [ha0]
            have HF := Lib.hid (show res = false by rw [HRES.out]; simp [twoB, sizB, hk1, HPB.out.symm, HTE.out, HTB.out.symm, ha0])
            go_wp2_with fail
            go_ret
            exact ⟨ret_bool HF.out.symm, HB2.out⟩
  · skip
    subst hk
    have hk1 : inB 7 1 7 = true := by decide
    go_enter Tryz.func26, Tryz.ntmps26
    go_wp2_with fail
    refine (within_any _ _ _ _).mono ?_
    rw [hk1]
    rintro e w' ⟨rfl, rfl⟩
    go_wp2_with fail
    refine (pathOk_any p _ (HM.out.below bel1) hp).mono ?_
    obtain ⟨pb, hpb'⟩ : ∃ b, b = pathB p := ⟨_, rfl⟩
    rw [← hpb']
    have HPB := Lib.hid hpb'; clear hpb'
    rintro e w1 ⟨rfl, hb1⟩
    have c1_0 : w1.cell? ⟨w.heap.size, 0, none⟩ = some (.int .i64 7) := (hb1.cell (by simp)).trans (by simp [go_sem])
    have c1_1 : w1.cell? ⟨w.heap.size, 1, none⟩ = some (.string (strB p)) := (hb1.cell (by simp)).trans (by simp [go_sem])
    have c1_2 : w1.cell? ⟨w.heap.size, 2, none⟩ = some (.string (strB t)) := (hb1.cell (by simp)).trans (by simp [go_sem])
    have c1_3 : w1.cell? ⟨w.heap.size, 3, none⟩ = some (.int .i64 a) := (hb1.cell (by simp)).trans (by simp [go_sem])
    have c1_4 : w1.cell? ⟨w.heap.size, 4, none⟩ = some (.string (strB x)) := (hb1.cell (by simp)).trans (by simp [go_sem])
    have l1 : w.heap.size < w1.heap.size := World.block_lt_of_cell? _ _ c1_0
    have HB1 : Hid (Below w.heap.size w w1) := Lib.hid (bel1.trans (hb1.mono (by simp)))
    clear hb1
    cases pb
    case false =>
      have HF := Lib.hid (show res = false by rw [HRES.out]; simp [twoB, sizB, hk1, HPB.out.symm])
      go_wp2_with fail
      go_ret
      exact ⟨ret_bool HF.out.symm, HB1.out⟩
    case true =>
      by_cases hte : t = []
      · skip
        obtain ⟨hte1, hte2, hte3, hte4⟩ := str_e hte
        have HTE := Lib.hid hte; clear hte
        have HTB : Hid (pathB t = false) := Lib.hid (by rw [HTE.out]; exact path_nil)
        have HF := Lib.hid (show res = false by rw [HRES.out]; simp [twoB, sizB, hk1, HPB.out.symm, HTB.out])
        go_wp2_with fail
        go_ret
        exact ⟨ret_bool HF.out.symm, HB1.out⟩
      · skip
        obtain ⟨hte1, hte2, hte3, hte4⟩ := str_n hte
        have HTE := Lib.hid hte; clear hte
        go_wp2_with fail
        refine (pathOk_any t _ (HM.out.below HB1.out) ht).mono ?_
        obtain ⟨tb, htb'⟩ : ∃ b, b = pathB t := ⟨_, rfl⟩
        rw [← htb']
        have HTB := Lib.hid htb'; clear htb'
        rintro e w2 ⟨rfl, hb2⟩
        have c2_0 : w2.cell? ⟨w.heap.size, 0, none⟩ = some (.int .i64 7) := (hb2.cell l1).trans c1_0
        have c2_1 : w2.cell? ⟨w.heap.size, 1, none⟩ = some (.string (strB p)) := (hb2.cell l1).trans c1_1
        have c2_2 : w2.cell? ⟨w.heap.size, 2, none⟩ = some (.string (strB t)) := (hb2.cell l1).trans c1_2
        have c2_3 : w2.cell? ⟨w.heap.size, 3, none⟩ = some (.int .i64 a) := (hb2.cell l1).trans c1_3
        have c2_4 : w2.cell? ⟨w.heap.size, 4, none⟩ = some (.string (strB x)) := (hb2.cell l1).trans c1_4
        have l2 : w.heap.size < w2.heap.size := World.block_lt_of_cell? _ _ c2_0
        have HB2 : Hid (Below w.heap.size w w2) := Lib.hid (HB1.out.trans (hb2.mono HB1.out.size))
        clear hb2 l1 c1_0 c1_1 c1_2 c1_3 c1_4
        cases tb
        case false =>
          have HF := Lib.hid (show res = false by rw [HRES.out]; simp [twoB, sizB, hk1, HPB.out.symm, HTE.out, HTB.out.symm])
          go_wp2_with fail
          go_ret
          exact ⟨ret_bool HF.out.symm, HB2.out⟩
        case true =>
          by_cases ha0 : a = 0
          · skip
            have ha1 : (a != 0) = false := by simp [ha0]
            have ha2 : (a == 0) = true := by simp [ha0]
            have HA0 := Lib.hid ha0; clear ha0
            go_wp2_with fail
            refine (within_any _ _ _ _).mono ?_
            obtain ⟨ab, hab'⟩ : ∃ b, b = inB a 0 192 := ⟨_, rfl⟩
            rw [← hab']
            have HAB := Lib.hid hab'; clear hab'
            rintro e w' ⟨rfl, rfl⟩
            cases ab
            case false =>
              exfalso; have := HAB.out; rw [HA0.out] at this; revert this; decide
            case true =>
              by_cases hxe : x = []
              · skip
                obtain ⟨hxe1, hxe2, hxe3, hxe4⟩ := str_e hxe
                have HXE := Lib.hid hxe; clear hxe
                have hxl : x.length ≤ 24 := by rw [HXE.out]; simp
                have HF := Lib.hid (show res = true by rw [HRES.out]; simp [twoB, sizB, hk1, HPB.out.symm, HTE.out, HTB.out.symm, HA0.out, HAB.out.symm, HXE.out, hxl])
                go_wp2_with fail
                go_ret
                exact ⟨ret_bool HF.out.symm, HB2.out⟩
              · skip
                obtain ⟨hxe1, hxe2, hxe3, hxe4⟩ := str_n hxe
                have HXE := Lib.hid hxe; clear hxe
                have HF := Lib.hid (show res = false by rw [HRES.out]; simp [twoB, sizB, hk1, HPB.out.symm, HTE.out, HTB.out.symm, HA0.out, HAB.out.symm, HXE.out])
                go_wp2_with fail
                go_ret
                exact ⟨ret_bool HF.out.symm, HB2.out⟩
          · skip
            have ha1 : (a != 0) = true := by simp [ha0]
            have ha2 : (a == 0) = false := by simp [ha0]
            have HF := Lib.hid (show res = false by rw [HRES.out]; simp [twoB, sizB, hk1, HPB.out.symm, HTE.out, HTB.out.symm, ha0])
            go_wp2_with fail
            go_ret
            exact ⟨ret_bool HF.out.symm, HB2.out⟩
  · skip
    have b3 : (k == 3) = false := by simp [k3]
    have b4 : (k == 4) = false := by simp [k4]
    have b6 : (k == 6) = false := by simp [k6]
    have b7 : (k == 7) = false := by simp [k7]
    have n3 : (k != 3) = true := by simp [k3]
    go_enter Tryz.func26, Tryz.ntmps26
    go_wp2_with fail
    refine (within_any _ _ _ _).mono ?_
    obtain ⟨kb, hkb'⟩ : ∃ b, b = inB k 1 7 := ⟨_, rfl⟩
    rw [← hkb']
    have HKB := Lib.hid hkb'; clear hkb'
    rintro e w' ⟨rfl, rfl⟩
    cases kb
    case false =>
      have HF := Lib.hid (show res = false by rw [HRES.out]; simp [twoB, sizB, k3, k4, k6, k7, HKB.out.symm])
      go_wp2_with fail
      go_ret
      exact ⟨ret_bool HF.out.symm, bel1⟩
    case true =>
      go_wp2_with fail
      refine (pathOk_any p _ (HM.out.below bel1) hp).mono ?_
      obtain ⟨pb, hpb'⟩ : ∃ b, b = pathB p := ⟨_, rfl⟩
      rw [← hpb']
      have HPB := Lib.hid hpb'; clear hpb'
      rintro e w1 ⟨rfl, hb1⟩
      have c1_0 : w1.cell? ⟨w.heap.size, 0, none⟩ = some (.int .i64 k) := (hb1.cell (by simp)).trans (by simp [go_sem])
      have c1_1 : w1.cell? ⟨w.heap.size, 1, none⟩ = some (.string (strB p)) := (hb1.cell (by simp)).trans (by simp [go_sem])
      have c1_2 : w1.cell? ⟨w.heap.size, 2, none⟩ = some (.string (strB t)) := (hb1.cell (by simp)).trans (by simp [go_sem])
      have c1_3 : w1.cell? ⟨w.heap.size, 3, none⟩ = some (.int .i64 a) := (hb1.cell (by simp)).trans (by simp [go_sem])
      have c1_4 : w1.cell? ⟨w.heap.size, 4, none⟩ = some (.string (strB x)) := (hb1.cell (by simp)).trans (by simp [go_sem])
      have l1 : w.heap.size < w1.heap.size := World.block_lt_of_cell? _ _ c1_0
      have HB1 : Hid (Below w.heap.size w w1) := Lib.hid (bel1.trans (hb1.mono (by simp)))
      clear hb1
      cases pb
      case false =>
        have HF := Lib.hid (show res = false by rw [HRES.out]; simp [twoB, sizB, k3, k4, k6, k7, HKB.out.symm, HPB.out.symm])
        go_wp2_with fail
        go_ret
        exact ⟨ret_bool HF.out.symm, HB1.out⟩
      case true =>
        by_cases hte : t = []
        · skip
          obtain ⟨hte1, hte2, hte3, hte4⟩ := str_e hte
          have HTE := Lib.hid hte; clear hte
          by_cases ha0 : a = 0
          · skip
            have ha1 : (a != 0) = false := by simp [ha0]
            have ha2 : (a == 0) = true := by simp [ha0]
            have HA0 := Lib.hid ha0; clear ha0
            go_wp2_with fail
            refine (within_any _ _ _ _).mono ?_
            obtain ⟨ab, hab'⟩ : ∃ b, b = inB a 0 192 := ⟨_, rfl⟩
            rw [← hab']
            have HAB := Lib.hid hab'; clear hab'
            rintro e w' ⟨rfl, rfl⟩
            cases ab
            case false =>
              exfalso; have := HAB.out; rw [HA0.out] at this; revert this; decide
            case true =>
              by_cases hxe : x = []
              · skip
                obtain ⟨hxe1, hxe2, hxe3, hxe4⟩ := str_e hxe
                have HXE := Lib.hid hxe; clear hxe
                have hxl : x.length ≤ 24 := by rw [HXE.out]; simp
                have HF := Lib.hid (show res = true by rw [HRES.out]; simp [twoB, sizB, k3, k4, k6, k7, HKB.out.symm, HPB.out.symm, HTE.out, HA0.out, HAB.out.symm, HXE.out, hxl])
                go_wp2_with fail
                go_ret
                exact ⟨ret_bool HF.out.symm, HB1.out⟩
              · skip
                obtain ⟨hxe1, hxe2, hxe3, hxe4⟩ := str_n hxe
                have HXE := Lib.hid hxe; clear hxe
                have HF := Lib.hid (show res = false by rw [HRES.out]; simp [twoB, sizB, k3, k4, k6, k7, HKB.out.symm, HPB.out.symm, HTE.out, HA0.out, HAB.out.symm, HXE.out])
                go_wp2_with fail
                go_ret
                exact ⟨ret_bool HF.out.symm, HB1.out⟩
          · skip
            have ha1 : (a != 0) = true := by simp [ha0]
            have ha2 : (a == 0) = false := by simp [ha0]
            have HF := Lib.hid (show res = false by rw [HRES.out]; simp [twoB, sizB, k3, k4, k6, k7, HKB.out.symm, HPB.out.symm, HTE.out, ha0])
            go_wp2_with fail
            go_ret
            exact ⟨ret_bool HF.out.symm, HB1.out⟩
        · skip
          obtain ⟨hte1, hte2, hte3, hte4⟩ := str_n hte
          have HTE := Lib.hid hte; clear hte
          have HF := Lib.hid (show res = false by rw [HRES.out]; simp [twoB, sizB, k3, k4, k6, k7, HKB.out.symm, HPB.out.symm, HTE.out])
          go_wp2_with fail
          go_ret
          exact ⟨ret_bool HF.out.symm, HB1.out⟩
end
section
open Go Go.Lib Go.RowKit

theorem intB_eq (g q : Int) (h : Str) (o : OpS) : intB (g, q, h, o) = (inB g 1 900 && (inB q 1 4 && (namB h && opB o))) := rfl
set_option maxRecDepth 100000 in
set_option maxHeartbeats 4000000 in
theorem spIntOk_any (g q : Int) (h : Str) (kd : Int) (p t : Str) (a : Int) (x : Str) (w : World) (hh : h.length ≤ 3000000000) (hp : p.length ≤ 3000000000) (ht : t.length ≤ 3000000000) (hx : x.length ≤ 3000000000) : Calls Tryz.prog 58 #[.agg #[.int .i64 g, .int .i64 q, .string (strB h), .int .i64 kd, .string (strB p), .string (strB t), .int .i64 a, .string (strB x)]] w fun e w' => e = .returned (.bool (intB (g, q, h, kd, p, t, a, x))) ∧ Below w.heap.size w w' := by
  have HRES := Lib.hid (intB_eq g q h (kd, p, t, a, x))
  generalize intB (g, q, h, kd, p, t, a, x) = res at *
  go_enter Tryz.func58, Tryz.ntmps58
  go_wp2_with fail
  refine (l6In_any g 1 900 _).mono ?_
  obtain ⟨b1, hb1⟩ : ∃ b, b = inB g 1 900 := ⟨_, rfl⟩
  rw [← hb1]
  have B1 := Lib.hid hb1; clear hb1
  rintro e w' ⟨rfl, rfl⟩
  cases b1
  · have HF := Lib.hid (show res = false by rw [HRES.out]; simp [B1.out.symm])
    go_wp2_with fail
    go_ret
    exact ⟨ret_bool HF.out.symm, bel1⟩
  go_wp2_with fail
  refine (l6In_any q 1 4 _).mono ?_
  obtain ⟨b2, hb2⟩ : ∃ b, b = inB q 1 4 := ⟨_, rfl⟩
  rw [← hb2]
  have B2 := Lib.hid hb2; clear hb2
  rintro e w' ⟨rfl, rfl⟩
  cases b2
  · have HF := Lib.hid (show res = false by rw [HRES.out]; simp [B1.out.symm, B2.out.symm])
    go_wp2_with fail
    go_ret
    exact ⟨ret_bool HF.out.symm, bel1⟩
  go_wp2_with fail
  refine (spNameOk_any h _ (by omega)).mono ?_
  obtain ⟨b3, hb3⟩ : ∃ b, b = namB h := ⟨_, rfl⟩
  rw [← hb3]
  have B3 := Lib.hid hb3; clear hb3
  rintro e w' ⟨rfl, rfl⟩
  cases b3
  · have HF := Lib.hid (show res = false by rw [HRES.out]; simp [B1.out.symm, B2.out.symm, B3.out.symm])
    go_wp2_with fail
    go_ret
    exact ⟨ret_bool HF.out.symm, bel1⟩
  go_wp2_with fail
  refine (spOpOk_any kd p t a x _ hp ht hx).mono ?_
  obtain ⟨b4, hb4⟩ : ∃ b, b = opB (kd, p, t, a, x) := ⟨_, rfl⟩
  rw [← hb4]
  have HF := Lib.hid (show res = b4 by rw [HRES.out, hb4]; simp [B1.out.symm, B2.out.symm, B3.out.symm])
  clear hb4
  rintro e w2 ⟨rfl, hb2⟩
  have HB2 := Lib.hid (Below.trans bel1 (hb2.mono (by first | exact (bel1).size | simp)))
  clear hb2
  go_wp2_with fail
  go_ret
  exact ⟨ret_bool HF.out.symm, HB2.out⟩
set_option maxRecDepth 100000 in
set_option maxHeartbeats 4000000 in
theorem intOk_any (g q : Int) (h : Str) (kd : Int) (p t : Str) (a : Int) (x : Str) (w : World) (hm : MLen w) (hh : h.length ≤ 3000000000) (hp : p.length ≤ 3000000000) (ht : t.length ≤ 3000000000) (hx : x.length ≤ 3000000000) : Calls Tryz.prog 9 #[.agg #[.int .i64 g, .int .i64 q, .string (strB h), .int .i64 kd, .string (strB p), .string (strB t), .int .i64 a, .string (strB x)]] w fun e w' => e = .returned (.bool (intB (g, q, h, kd, p, t, a, x))) ∧ Below w.heap.size w w' := by
  have HRES := Lib.hid (intB_eq g q h (kd, p, t, a, x))
  generalize intB (g, q, h, kd, p, t, a, x) = res at *
  go_enter Tryz.func9, Tryz.ntmps9
  go_wp2_with fail
  refine (within_any g 1 900 _).mono ?_
  obtain ⟨b1, hb1⟩ : ∃ b, b = inB g 1 900 := ⟨_, rfl⟩
  rw [← hb1]
  have B1 := Lib.hid hb1; clear hb1
  rintro e w' ⟨rfl, rfl⟩
  cases b1
  · have HF := Lib.hid (show res = false by rw [HRES.out]; simp [B1.out.symm])
    go_wp2_with fail
    go_ret
    exact ⟨ret_bool HF.out.symm, bel1⟩
  go_wp2_with fail
  refine (within_any q 1 4 _).mono ?_
  obtain ⟨b2, hb2⟩ : ∃ b, b = inB q 1 4 := ⟨_, rfl⟩
  rw [← hb2]
  have B2 := Lib.hid hb2; clear hb2
  rintro e w' ⟨rfl, rfl⟩
  cases b2
  · have HF := Lib.hid (show res = false by rw [HRES.out]; simp [B1.out.symm, B2.out.symm])
    go_wp2_with fail
    go_ret
    exact ⟨ret_bool HF.out.symm, bel1⟩
  go_wp2_with fail
  refine (nameOk_any h _).mono ?_
  obtain ⟨b3, hb3⟩ : ∃ b, b = namB h := ⟨_, rfl⟩
  rw [← hb3]
  have B3 := Lib.hid hb3; clear hb3
  rintro e w1 ⟨rfl, hb1⟩
  have HB1 := Lib.hid (bel1.trans (hb1.mono (by simp)))
  have c1_0 : w1.cell? ⟨w.heap.size, 0, none⟩ = some (.int .i64 g) := (hb1.cell (by simp)).trans (by simp [go_sem])
  have c1_1 : w1.cell? ⟨w.heap.size, 1, none⟩ = some (.int .i64 q) := (hb1.cell (by simp)).trans (by simp [go_sem])
  have c1_2 : w1.cell? ⟨w.heap.size, 2, none⟩ = some (.string (strB h)) := (hb1.cell (by simp)).trans (by simp [go_sem])
  have c1_3 : w1.cell? ⟨w.heap.size, 3, none⟩ = some (.int .i64 kd) := (hb1.cell (by simp)).trans (by simp [go_sem])
  have c1_4 : w1.cell? ⟨w.heap.size, 4, none⟩ = some (.string (strB p)) := (hb1.cell (by simp)).trans (by simp [go_sem])
  have c1_5 : w1.cell? ⟨w.heap.size, 5, none⟩ = some (.string (strB t)) := (hb1.cell (by simp)).trans (by simp [go_sem])
  have c1_6 : w1.cell? ⟨w.heap.size, 6, none⟩ = some (.int .i64 a) := (hb1.cell (by simp)).trans (by simp [go_sem])
  have c1_7 : w1.cell? ⟨w.heap.size, 7, none⟩ = some (.string (strB x)) := (hb1.cell (by simp)).trans (by simp [go_sem])
  have l1 : w.heap.size < w1.heap.size := World.block_lt_of_cell? w1 _ c1_0
  clear hb1
  cases b3
  · have HF := Lib.hid (show res = false by rw [HRES.out]; simp [B1.out.symm, B2.out.symm, B3.out.symm])
    go_wp2_with fail
    go_ret
    exact ⟨ret_bool HF.out.symm, HB1.out⟩
  go_wp2_with fail
  refine (opOk_any kd p t a x w1 (hm.below HB1.out) hp ht hx).mono ?_
  obtain ⟨b4, hb4⟩ : ∃ b, b = opB (kd, p, t, a, x) := ⟨_, rfl⟩
  rw [← hb4]
  have HF := Lib.hid (show res = b4 by rw [HRES.out, hb4]; simp [B1.out.symm, B2.out.symm, B3.out.symm])
  clear hb4
  rintro e w2 ⟨rfl, hb2⟩
  have HB2 := Lib.hid (Below.trans HB1.out (hb2.mono (by first | exact (HB1.out).size | simp)))
  clear hb2
  go_wp2_with fail
  go_ret
  exact ⟨ret_bool HF.out.symm, HB2.out⟩
end
end Go.Proofs.YtggdjiklgakfnaaGreatDoor
