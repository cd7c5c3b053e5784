/- l7Drop. No condition. -/
import Derived.Test.YtffieobjcipeoaaStoreNext
import Derived.Test.YtffieobjcipeoaaStoreNew
import Derived.Deep.DeepCutAuto
import Derived.Deep.RegionWith
namespace Go.Proofs.Ytffieobjcipeoaa
set_option linter.unnecessarySimpa false
open Go.RowKit
set_option linter.unusedVariables false
set_option linter.unusedSimpArgs false
set_option maxRecDepth 100000 in
set_option maxHeartbeats 4000000 in
theorem l7Drop_any (r g k e0 d1 d2 : Nat) (txg : Int) (B3 : Option Addr) (m3 e3 : Nat) (keep : Int) (B4 : Option Addr) (m4 e4 : Nat) (same : Bool) (a : Nat) (xs ys : List Int) (w : World) (ha : a < 64)
    (hr : RowsB r w) (og : OwnI w g 64 d1 xs) (ok : OwnI w k 64 d2 ys) (hgk : g ≠ k) (hrg : r ≠ g) (hrk : r ≠ k) (hx : 1 ≤ xs.getD a 0 ∧ xs.getD a 0 ≤ 900) :
    Calls Try.prog 67 #[.agg #[.slice (some ⟨r, 0, none⟩) 64 e0, .slice (some ⟨g, 0, none⟩) 64 d1, .slice (some ⟨k, 0, none⟩) 64 d2, .int .i64 txg, .slice B3 m3 e3, .int .i64 keep, .slice B4 m4 e4, .bool same], .int .i64 a] w fun e w' => e = .returned (.agg #[.slice (some ⟨r, 0, none⟩) 64 e0, .slice (some ⟨g, 0, none⟩) 64 d1, .slice (some ⟨k, 0, none⟩) 64 d2, .int .i64 txg, .slice B3 m3 e3, .int .i64 keep, .slice B4 m4 e4, .bool same]) ∧ RowsB r w' ∧ OwnI w' g 64 d1 (xs.set a (xs.getD a 0 - 1)) ∧ OwnI w' k 64 d2 (lastOf (xs.getD a 0) ys a) ∧ Chg (· ∈ [r, g, k]) w w' := by
  have lr := hr.lt; have lg := og.lt; have lk := ok.lt
  obtain ⟨xv, hxv⟩ : ∃ x, x = xs.getD a 0 := ⟨_, rfl⟩
  have a0 : (0 : Int) ≤ (a : Int) := by omega
  have a1 : (a : Int) < 64 := by omega
  have HR := Lib.hid hr; have OG := Lib.hid og; have OK := Lib.hid ok; have HXV := Lib.hid hxv; have HX := Lib.hid hx
  clear hr og ok hxv hx
  go_enter Try.func67, Try.ntmps67
  go_wp2_with fail
  refine (l5Give_any g k d1 d2 a xs ys _ ha (OG.out.below bel2) (OK.out.below bel2) hgk HX.out).mono ?_
  rintro e w1 ⟨rfl, og1, ok1, hc1⟩
  have z1 := hc1.size
  simp at z1
  have HBX1 : Hid (w1.heap[w.heap.size]? = some (.cells #[.slice (some ⟨r, 0, none⟩) 64 e0, .slice (some ⟨g, 0, none⟩) 64 d1, .slice (some ⟨k, 0, none⟩) 64 d2, .int .i64 txg, .slice B3 m3 e3, .int .i64 keep, .slice B4 m4 e4, .bool same] 30 (0, 0))) := Lib.hid ((hc1.block _ (by simp <;> omega) (by simp; omega)).trans ((Below.heap_alloc _ _ _ (by simp)).trans (heap_alloc_new _ _)))
  have HRS1 : Hid (w1.heap[w.heap.size + 1]? = some (.cells #[.slice none 0 0, .slice none 0 0, .slice none 0 0, .int .i64 0, .slice none 0 0, .int .i64 0, .slice none 0 0, .bool false] 30 (0, 0))) := Lib.hid ((hc1.block _ (by simp <;> omega) (by simp; omega)).trans (by have := heap_alloc_new (w.alloc (.cells #[.slice (some ⟨r, 0, none⟩) 64 e0, .slice (some ⟨g, 0, none⟩) 64 d1, .slice (some ⟨k, 0, none⟩) 64 d2, .int .i64 txg, .slice B3 m3 e3, .int .i64 keep, .slice B4 m4 e4, .bool same] 30)) (.cells #[.slice none 0 0, .slice none 0 0, .slice none 0 0, .int .i64 0, .slice none 0 0, .int .i64 0, .slice none 0 0, .bool false] 30); simpa using this))
  have HR1 := Lib.hid ((HR.out.keep (bel2.block r lr)).keep (hc1.block r (by simp; omega) (by simp; exact ⟨hrg, hrk⟩)))
  have OG1 := Lib.hid og1; have OK1 := Lib.hid ok1
  have HC1 : Hid (Chg (· ∈ [r, g, k]) w w1) := Lib.hid ((Chg.of_below bel2 _).trans (hc1.mono (fun b _ hb => by simp at hb ⊢; exact .inr hb)))
  have ev : (xs.set a (xs.getD a 0 - 1)).getD a 0 = xv - 1 := by rw [getD_set (by have := OG.out.len; omega), if_pos rfl, HXV.out]
  have HEV := Lib.hid ev
  clear hc1 og1 ok1 ev
  have b0 := cell_of_row _ _ 0 _ _ (0, 0) HBX1.out; have b1 := cell_of_row _ _ 1 _ _ (0, 0) HBX1.out; have b2 := cell_of_row _ _ 2 _ _ (0, 0) HBX1.out; have b3 := cell_of_row _ _ 3 _ _ (0, 0) HBX1.out; have b4 := cell_of_row _ _ 4 _ _ (0, 0) HBX1.out; have b5 := cell_of_row _ _ 5 _ _ (0, 0) HBX1.out; have b6 := cell_of_row _ _ 6 _ _ (0, 0) HBX1.out; have b7 := cell_of_row _ _ 7 _ _ (0, 0) HBX1.out
  have g0 := block_free HBX1.out 0; have g1 := block_free HBX1.out 1; have g2 := block_free HBX1.out 2; have g3 := block_free HBX1.out 3; have g4 := block_free HBX1.out 4; have g5 := block_free HBX1.out 5; have g6 := block_free HBX1.out 6; have g7 := block_free HBX1.out 7
  obtain ⟨rs, hrs⟩ : ∃ b, b = w.heap.size + 1 := ⟨_, rfl⟩
  obtain ⟨bo, hbo⟩ : ∃ b, b = w.heap.size := ⟨_, rfl⟩
  obtain ⟨w2, hw2⟩ : ∃ W, W = (w1.setCell ⟨w.heap.size, 1, none⟩ (.slice (some ⟨g, 0, none⟩) 64 d1)).setCell ⟨w.heap.size, 2, none⟩ (.slice (some ⟨k, 0, none⟩) 64 d2) := ⟨_, rfl⟩
  have HBX2 : Hid (w2.heap[w.heap.size]? = some (.cells #[.slice (some ⟨r, 0, none⟩) 64 e0, .slice (some ⟨g, 0, none⟩) 64 d1, .slice (some ⟨k, 0, none⟩) 64 d2, .int .i64 txg, .slice B3 m3 e3, .int .i64 keep, .slice B4 m4 e4, .bool same] 30 (0, 0))) := Lib.hid (by rw [hw2]; exact block_set (block_set HBX1.out))
  have hfar : ∀ b, b ≠ w.heap.size → w2.heap[b]? = w1.heap[b]? := fun b hb => by rw [hw2]; exact (heap_far (p := ⟨w.heap.size, 2, none⟩) hb).trans (heap_far (p := ⟨w.heap.size, 1, none⟩) hb)
  have HRS2 := Lib.hid ((hfar (w.heap.size + 1) (by omega)).trans HRS1.out)
  have HR2 := Lib.hid (HR1.out.keep (hfar r (by omega)))
  have OG2 := Lib.hid (OG1.out.keep (hfar g (by omega)))
  have OK2 := Lib.hid (OK1.out.keep (hfar k (by omega)))
  have HC2 : Hid (Chg (· ∈ [r, g, k]) w w2) := Lib.hid (by rw [hw2]; exact Chg.setCell (p := ⟨w.heap.size, 2, none⟩) (Chg.setCell (p := ⟨w.heap.size, 1, none⟩) HC1.out (.inr (Nat.le_refl _)) _) (.inr (Nat.le_refl _)) _)
  have lb2 := (Array.getElem?_eq_some_iff.1 HBX2.out).1
  have lrs2 := (Array.getElem?_eq_some_iff.1 HRS2.out).1
  have x1 := OG1.out.cell (j := a) ha
  rw [HEV.out] at x1
  have lg1 := OG1.out.lt
  have ng : g ≠ w.heap.size := by omega
  have nr : r ≠ w.heap.size := by omega
  have lb1 := (Array.getElem?_eq_some_iff.1 HBX1.out).1
  have HW2 := Lib.hid hw2
  clear hw2 hfar
  by_cases h1 : xv = 1
  case pos =>
    obtain ⟨wE, hwE⟩ : ∃ W, W = ((w1.setCell ⟨w.heap.size, 1, none⟩ (.slice (some ⟨g, 0, none⟩) 64 d1)).setCell ⟨w.heap.size, 2, none⟩ (.slice (some ⟨k, 0, none⟩) 64 d2)).setCell ⟨r, a, none⟩ (.string ⟨#[]⟩) := ⟨_, rfl⟩
    have hwE2 : wE = w2.setCell ⟨r, a, none⟩ (.string ⟨#[]⟩) := by rw [hwE, HW2.out]
    have e1 : (xv - 1 == 0) = true := by simp; omega
    obtain ⟨cur, hcur, hcs⟩ := HR1.out
    obtain ⟨sv, hsv⟩ : ∃ s, cur[a]? = some s := ⟨cur[a]'(by omega), Array.getElem?_eq_getElem _⟩
    have rc : w1.cell? ⟨r, a, none⟩ = some sv := (cell_of_row _ _ _ _ _ (0, 0) hcur).trans hsv
    have rf := block_free hcur a
    have lr2 := HR1.out.lt
    clear hcur hcs hsv
    have HRE : Hid (RowsB r wE) := Lib.hid (by rw [hwE2]; exact HR2.out.set _)
    have hfar : ∀ b, b ≠ r → wE.heap[b]? = w2.heap[b]? := fun b hb => by rw [hwE2]; exact heap_far (p := ⟨r, a, none⟩) hb
    have HCE : Hid (Chg (· ∈ [r, g, k]) w wE) := Lib.hid (by rw [hwE2]; exact Chg.setCell (p := ⟨r, a, none⟩) HC2.out (.inl (by simp)) _)
    have HBE := Lib.hid ((hfar w.heap.size (by omega)).trans HBX2.out)
    have HSE := Lib.hid ((hfar (w.heap.size + 1) (by omega)).trans HRS2.out)
    have OGE := Lib.hid (OG2.out.keep (hfar g hrg.symm)); have OKE := Lib.hid (OK2.out.keep (hfar k hrk.symm))
    clear hfar
    go_upto_region 4 with fail
    rw [← hwE]
    clear hwE hwE2 rc rf lr2
    clear b0 b1 b2 b3 b4 b5 b6 b7 x1 g0 g1 g2 g3 g4 g5 g6 g7
    have b0 := cell_of_row _ _ 0 _ _ (0, 0) HBE.out; have b1 := cell_of_row _ _ 1 _ _ (0, 0) HBE.out; have b2 := cell_of_row _ _ 2 _ _ (0, 0) HBE.out; have b3 := cell_of_row _ _ 3 _ _ (0, 0) HBE.out; have b4 := cell_of_row _ _ 4 _ _ (0, 0) HBE.out; have b5 := cell_of_row _ _ 5 _ _ (0, 0) HBE.out; have b6 := cell_of_row _ _ 6 _ _ (0, 0) HBE.out; have b7 := cell_of_row _ _ 7 _ _ (0, 0) HBE.out
    have s0 := cell_of_row _ _ 0 _ _ (0, 0) HSE.out; have s1 := cell_of_row _ _ 1 _ _ (0, 0) HSE.out; have s2 := cell_of_row _ _ 2 _ _ (0, 0) HSE.out; have s3 := cell_of_row _ _ 3 _ _ (0, 0) HSE.out; have s4 := cell_of_row _ _ 4 _ _ (0, 0) HSE.out; have s5 := cell_of_row _ _ 5 _ _ (0, 0) HSE.out; have s6 := cell_of_row _ _ 6 _ _ (0, 0) HSE.out; have s7 := cell_of_row _ _ 7 _ _ (0, 0) HSE.out
    have t0 := block_free HSE.out 0; have t1 := block_free HSE.out 1; have t2 := block_free HSE.out 2; have t3 := block_free HSE.out 3; have t4 := block_free HSE.out 4; have t5 := block_free HSE.out 5; have t6 := block_free HSE.out 6; have t7 := block_free HSE.out 7
    have lbE := (Array.getElem?_eq_some_iff.1 HBE.out).1
    have lsE := (Array.getElem?_eq_some_iff.1 HSE.out).1
    obtain ⟨wF, hwF⟩ : ∃ W, W = ((((((((wE.setCell ⟨w.heap.size + 1, 0, none⟩ (Value.slice (some ⟨r, 0, none⟩) 64 e0)).setCell ⟨w.heap.size + 1, 1, none⟩ (Value.slice (some ⟨g, 0, none⟩) 64 d1)).setCell ⟨w.heap.size + 1, 2, none⟩ (Value.slice (some ⟨k, 0, none⟩) 64 d2)).setCell ⟨w.heap.size + 1, 3, none⟩ (Value.int .i64 txg)).setCell ⟨w.heap.size + 1, 4, none⟩ (Value.slice B3 m3 e3)).setCell ⟨w.heap.size + 1, 5, none⟩ (Value.int .i64 keep)).setCell ⟨w.heap.size + 1, 6, none⟩ (Value.slice B4 m4 e4)).setCell ⟨w.heap.size + 1, 7, none⟩ (Value.bool same)) := ⟨_, rfl⟩
    have HRF : Hid (RowsB r wF) := Lib.hid (HRE.out.keep (by rw [hwF]; exact far8s (by omega)))
    have OGF := Lib.hid (OGE.out.keep (w' := wF) (by rw [hwF]; exact far8s (by omega)))
    have OKF := Lib.hid (OKE.out.keep (w' := wF) (by rw [hwF]; exact far8s (by omega)))
    have HCF : Hid (Chg (· ∈ [r, g, k]) w wF) := Lib.hid (by rw [hwF]; exact Chg.setCell (p := ⟨w.heap.size + 1, 7, none⟩) (Chg.setCell (p := ⟨w.heap.size + 1, 6, none⟩) (Chg.setCell (p := ⟨w.heap.size + 1, 5, none⟩) (Chg.setCell (p := ⟨w.heap.size + 1, 4, none⟩) (Chg.setCell (p := ⟨w.heap.size + 1, 3, none⟩) (Chg.setCell (p := ⟨w.heap.size + 1, 2, none⟩) (Chg.setCell (p := ⟨w.heap.size + 1, 1, none⟩) (Chg.setCell (p := ⟨w.heap.size + 1, 0, none⟩) (HCE.out) (.inr (by simp)) _) (.inr (by simp)) _) (.inr (by simp)) _) (.inr (by simp)) _) (.inr (by simp)) _) (.inr (by simp)) _) (.inr (by simp)) _) (.inr (by simp)) _)
    have hP : RowsB r wF ∧ OwnI wF g 64 d1 (xs.set a (xs.getD a 0 - 1)) ∧ OwnI wF k 64 d2 (lastOf (xs.getD a 0) ys a) ∧ Chg (· ∈ [r, g, k]) w wF := ⟨HRF.out, OGF.out, OKF.out, HCF.out⟩
    rw [hwF] at hP
    have HP := Lib.hid hP
    clear hP hwF HRF OGF OKF HCF
    go_wp2_with fail
    exact bodyPost_ret (v := .agg #[.slice (some ⟨r, 0, none⟩) 64 e0, .slice (some ⟨g, 0, none⟩) 64 d1, .slice (some ⟨k, 0, none⟩) 64 d2, .int .i64 txg, .slice B3 m3 e3, .int .i64 keep, .slice B4 m4 e4, .bool same]) (by simp [results, Try.results67, go_sem, *]) rfl ⟨rfl, HP.out⟩
  case neg =>
    have e1 : (xv - 1 == 0) = false := by simp; omega
    have HRE := Lib.hid HR2.out; have HCE := Lib.hid HC2.out; have HBE := Lib.hid HBX2.out; have HSE := Lib.hid HRS2.out; have OGE := Lib.hid OG2.out; have OKE := Lib.hid OK2.out
    go_upto_region 4 with fail
    rw [← HW2.out]
    clear b0 b1 b2 b3 b4 b5 b6 b7 x1 g0 g1 g2 g3 g4 g5 g6 g7
    have b0 := cell_of_row _ _ 0 _ _ (0, 0) HBE.out; have b1 := cell_of_row _ _ 1 _ _ (0, 0) HBE.out; have b2 := cell_of_row _ _ 2 _ _ (0, 0) HBE.out; have b3 := cell_of_row _ _ 3 _ _ (0, 0) HBE.out; have b4 := cell_of_row _ _ 4 _ _ (0, 0) HBE.out; have b5 := cell_of_row _ _ 5 _ _ (0, 0) HBE.out; have b6 := cell_of_row _ _ 6 _ _ (0, 0) HBE.out; have b7 := cell_of_row _ _ 7 _ _ (0, 0) HBE.out
    have s0 := cell_of_row _ _ 0 _ _ (0, 0) HSE.out; have s1 := cell_of_row _ _ 1 _ _ (0, 0) HSE.out; have s2 := cell_of_row _ _ 2 _ _ (0, 0) HSE.out; have s3 := cell_of_row _ _ 3 _ _ (0, 0) HSE.out; have s4 := cell_of_row _ _ 4 _ _ (0, 0) HSE.out; have s5 := cell_of_row _ _ 5 _ _ (0, 0) HSE.out; have s6 := cell_of_row _ _ 6 _ _ (0, 0) HSE.out; have s7 := cell_of_row _ _ 7 _ _ (0, 0) HSE.out
    have t0 := block_free HSE.out 0; have t1 := block_free HSE.out 1; have t2 := block_free HSE.out 2; have t3 := block_free HSE.out 3; have t4 := block_free HSE.out 4; have t5 := block_free HSE.out 5; have t6 := block_free HSE.out 6; have t7 := block_free HSE.out 7
    have lbE := (Array.getElem?_eq_some_iff.1 HBE.out).1
    have lsE := (Array.getElem?_eq_some_iff.1 HSE.out).1
    obtain ⟨wF, hwF⟩ : ∃ W, W = ((((((((w2.setCell ⟨w.heap.size + 1, 0, none⟩ (Value.slice (some ⟨r, 0, none⟩) 64 e0)).setCell ⟨w.heap.size + 1, 1, none⟩ (Value.slice (some ⟨g, 0, none⟩) 64 d1)).setCell ⟨w.heap.size + 1, 2, none⟩ (Value.slice (some ⟨k, 0, none⟩) 64 d2)).setCell ⟨w.heap.size + 1, 3, none⟩ (Value.int .i64 txg)).setCell ⟨w.heap.size + 1, 4, none⟩ (Value.slice B3 m3 e3)).setCell ⟨w.heap.size + 1, 5, none⟩ (Value.int .i64 keep)).setCell ⟨w.heap.size + 1, 6, none⟩ (Value.slice B4 m4 e4)).setCell ⟨w.heap.size + 1, 7, none⟩ (Value.bool same)) := ⟨_, rfl⟩
    have HRF : Hid (RowsB r wF) := Lib.hid (HRE.out.keep (by rw [hwF]; exact far8s (by omega)))
    have OGF := Lib.hid (OGE.out.keep (w' := wF) (by rw [hwF]; exact far8s (by omega)))
    have OKF := Lib.hid (OKE.out.keep (w' := wF) (by rw [hwF]; exact far8s (by omega)))
    have HCF : Hid (Chg (· ∈ [r, g, k]) w wF) := Lib.hid (by rw [hwF]; exact Chg.setCell (p := ⟨w.heap.size + 1, 7, none⟩) (Chg.setCell (p := ⟨w.heap.size + 1, 6, none⟩) (Chg.setCell (p := ⟨w.heap.size + 1, 5, none⟩) (Chg.setCell (p := ⟨w.heap.size + 1, 4, none⟩) (Chg.setCell (p := ⟨w.heap.size + 1, 3, none⟩) (Chg.setCell (p := ⟨w.heap.size + 1, 2, none⟩) (Chg.setCell (p := ⟨w.heap.size + 1, 1, none⟩) (Chg.setCell (p := ⟨w.heap.size + 1, 0, none⟩) (HCE.out) (.inr (by simp)) _) (.inr (by simp)) _) (.inr (by simp)) _) (.inr (by simp)) _) (.inr (by simp)) _) (.inr (by simp)) _) (.inr (by simp)) _) (.inr (by simp)) _)
    have hP : RowsB r wF ∧ OwnI wF g 64 d1 (xs.set a (xs.getD a 0 - 1)) ∧ OwnI wF k 64 d2 (lastOf (xs.getD a 0) ys a) ∧ Chg (· ∈ [r, g, k]) w wF := ⟨HRF.out, OGF.out, OKF.out, HCF.out⟩
    rw [hwF] at hP
    have HP := Lib.hid hP
    clear hP hwF HRF OGF OKF HCF
    go_wp2_with fail
    exact bodyPost_ret (v := .agg #[.slice (some ⟨r, 0, none⟩) 64 e0, .slice (some ⟨g, 0, none⟩) 64 d1, .slice (some ⟨k, 0, none⟩) 64 d2, .int .i64 txg, .slice B3 m3 e3, .int .i64 keep, .slice B4 m4 e4, .bool same]) (by simp [results, Try.results67, go_sem, *]) rfl ⟨rfl, HP.out⟩
end Go.Proofs.Ytffieobjcipeoaa
