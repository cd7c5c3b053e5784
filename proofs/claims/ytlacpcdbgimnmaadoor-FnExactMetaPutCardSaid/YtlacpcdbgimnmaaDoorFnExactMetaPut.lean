/- FnExactMetaPut: the walk. Condition: the table of powers of ten lies as its initialiser lays it. -/
import Derived.Test.YtlacpcdbgimnmaaDoorSpMetaPut
import Derived.Test.YtlacpcdbgimnmaaDoorFamSz
import Derived.Test.YtlacpcdbgimnmaaDoorFamTo2
import Derived.Test.YtlacpcdbgimnmaaDoorFamEq
namespace Go.Proofs.YtlacpcdbgimnmaaDoor
set_option linter.unusedVariables false
set_option linter.unusedSimpArgs false
set_option linter.unnecessarySimpa false
open Go Go.Lib Go.RowKit
/-- A value reads as a datum, in some blocks. -/
def HoldsR {α : Type} (R : Reads α) (x : α) (v : Value) (w : World) : Prop := ∃ cs lo hi, v = .agg (List.toArray cs) ∧ hi ≤ w.heap.size ∧ R w lo hi cs x
def MetaR.stp (x : MetaD) : StP := ⟨HoldsR MetaR x, fun v w w' he h => by
  obtain ⟨cs, lo, hi, e, h1, h2⟩ := h
  exact ⟨cs, lo, hi, e, Nat.le_trans h1 (Below.size he), MetaR.below he h1 _ _ h2⟩⟩
theorem sum_le_mem {α : Type} (f : α → Nat) {xs : List α} {x : α} (h : x ∈ xs) : f x ≤ (xs.map f).sum := by
  induction xs with
  | nil => cases h
  | cons y ys ih =>
    rw [List.map_cons, List.sum_cons]
    rcases List.mem_cons.1 h with rfl | h
    · omega
    · have := ih h; omega
theorem meta_small {hs : List HeadD} {ss : List SnapD} {nx : Int} {bo : Bool} (h : sizeMeta (hs, ss, nx, bo) ≤ 1048576) : (∀ x ∈ hs, x.1.size ≤ 3000000 ∧ x.2.2.2.1.length ≤ 2000000) ∧ (∀ x ∈ ss, x.2.1.size ≤ 3000000 ∧ x.2.2.2.2.2.length ≤ 2000000) := by
  unfold sizeMeta at h
  simp only at h
  refine ⟨fun x hx => ?_, fun x hx => ?_⟩
  · have h1 := sum_le_mem sizeHead hx
    unfold sizeHead at h1 h
    omega
  · have h1 := sum_le_mem sizeSnap hx
    unfold sizeSnap at h1 h
    omega
set_option maxRecDepth 100000 in
set_option maxHeartbeats 8000000 in
theorem fnExactMetaPut_walk (l : List Value) (x : MetaD) (w : World) (HT : Tab w) (h : MetaR w 0 w.heap.size l x) :
    Calls Tryd.prog 3 #[.agg l.toArray] w fun e w' => e = .returned (.bool true) ∧ Below w.heap.size w w' := by
  have PA := Lib.hid h
  have HTW := Lib.hid HT; clear HT
  obtain ⟨hs, ss, nx, bo⟩ := x
  obtain ⟨A0, n0, c0, A1, n1, c1, rfl, hp0, hp1⟩ := h
  clear hp0 hp1
  show Calls Tryd.prog 3 #[.agg #[.slice A0 n0 c0, .slice A1 n1 c1, .int .i64 nx, .bool bo]] w _
  have hself : ∀ s : ByteArray, (s.toList == s.toList) = true := fun s => by simp
  go_enter Tryd.func3, Tryd.ntmps3
  go_wp2_with fail
  refine (szMeta_any _ _ _ 0 w.heap.size 1048576 (MetaR.below bel1 (Nat.le_refl _) _ _ PA.out) (by omega) (by omega)).mono ?_
  rintro e w1 ⟨s0, rfl, p0_, o0_, z0, hb1⟩
  have ZZ0 := Lib.hid z0; clear z0
  have H1 : Below w.heap.size w w1 := bel1.trans (hb1.mono (by simp))
  have c1_0 : w1.cell? ⟨w.heap.size, 0, none⟩ = some (.slice A0 n0 c0) := (hb1.cell (by simp)).trans (by simp [go_sem]); have c1_1 : w1.cell? ⟨w.heap.size, 1, none⟩ = some (.slice A1 n1 c1) := (hb1.cell (by simp)).trans (by simp [go_sem]); have c1_2 : w1.cell? ⟨w.heap.size, 2, none⟩ = some (.int .i64 nx) := (hb1.cell (by simp)).trans (by simp [go_sem]); have c1_3 : w1.cell? ⟨w.heap.size, 3, none⟩ = some (.bool bo) := (hb1.cell (by simp)).trans (by simp [go_sem])
  have l1 : w.heap.size < w1.heap.size := World.block_lt_of_cell? _ _ c1_0
  clear hb1
  by_cases q0 : s0 < 0
  · go_wp2_with fail
    go_ret
    exact ⟨rfl, H1⟩
  have HZ0 : Hid (sizeMeta (hs, ss, nx, bo) ≤ 1048576) := Lib.hid (by have := ZZ0.out (by omega); omega)
  have HSM := Lib.hid (meta_small HZ0.out)
  have HH1 := Lib.hid H1
  clear ZZ0 H1
  go_wp2_with fail
  refine (toMeta_any _ _ _ 0 w.heap.size (MetaR.below HH1.out (Nat.le_refl _) _ _ PA.out) HZ0.out).mono ?_
  rintro e w2 ⟨cs, rfl, hr, hb2⟩
  have H2 := Lib.hid (HH1.out.trans (hb2.mono HH1.out.size))
  obtain ⟨B0, m0, d0, B1, m1, d1, rfl, hr0, hr1⟩ := hr
  have R0 := Lib.hid hr0; have R1 := Lib.hid hr1
  have c2_0 : w2.cell? ⟨w.heap.size, 0, none⟩ = some (.slice A0 n0 c0) := (hb2.cell l1).trans c1_0; have c2_1 : w2.cell? ⟨w.heap.size, 1, none⟩ = some (.slice A1 n1 c1) := (hb2.cell l1).trans c1_1; have c2_2 : w2.cell? ⟨w.heap.size, 2, none⟩ = some (.int .i64 nx) := (hb2.cell l1).trans c1_2; have c2_3 : w2.cell? ⟨w.heap.size, 3, none⟩ = some (.bool bo) := (hb2.cell l1).trans c1_3
  have l2 : w.heap.size < w2.heap.size := World.block_lt_of_cell? _ _ c2_0
  clear hb2 hr0 hr1 c1_0 c1_1 c1_2 c1_3 l1 q0
  go_wp2_with fail
  refine (spMetaPut_any B0 m0 d0 B1 m1 d1 hs ss nx bo w2 _ _ R0.out R1.out HSM.out.1 HSM.out.2).mono ?_
  obtain ⟨X, hX⟩ : ∃ z, z = (metaF (hs, ss, nx, bo)).1 := ⟨_, rfl⟩
  obtain ⟨xo, hxo⟩ : ∃ z, z = (metaF (hs, ss, nx, bo)).2 := ⟨_, rfl⟩
  rw [FieldR_def, ← hX, ← hxo]
  have HX := Lib.hid hX; have HXO := Lib.hid hxo
  rintro e w3 ⟨rfl, hb3⟩
  have H3 := Lib.hid (H2.out.trans (hb3.mono H2.out.size))
  have c3_0 : w3.cell? ⟨w.heap.size, 0, none⟩ = some (.slice A0 n0 c0) := (hb3.cell l2).trans c2_0; have c3_1 : w3.cell? ⟨w.heap.size, 1, none⟩ = some (.slice A1 n1 c1) := (hb3.cell l2).trans c2_1; have c3_2 : w3.cell? ⟨w.heap.size, 2, none⟩ = some (.int .i64 nx) := (hb3.cell l2).trans c2_2; have c3_3 : w3.cell? ⟨w.heap.size, 3, none⟩ = some (.bool bo) := (hb3.cell l2).trans c2_3
  have l3 : w.heap.size < w3.heap.size := World.block_lt_of_cell? _ _ c3_0
  clear hb3 R0 R1 c2_0 c2_1 c2_2 c2_3 l2 hX hxo
  go_wp2_with fail
  refine (toMeta_any _ _ _ 0 w.heap.size (MetaR.below H3.out (Nat.le_refl _) _ _ PA.out) HZ0.out).mono ?_
  rintro e w4 ⟨cs, rfl, hr, hb4⟩
  have H4 := Lib.hid (H3.out.trans (hb4.mono H3.out.size))
  obtain ⟨E0, k0, f0, E1, k1, f1, rfl, hr0, hr1⟩ := hr
  obtain ⟨p, hp⟩ : ∃ p, p = w4.heap.size := ⟨_, rfl⟩
  obtain ⟨w5, hw5⟩ : ∃ W, W = w4.alloc (.cells #[.slice E0 k0 f0, .slice E1 k1 f1, .int .i64 nx, .bool bo] 32) := ⟨_, rfl⟩
  have hb5 : Below w4.heap.size w4 w5 := by rw [hw5]; exact bel1
  have hg5 : w5.heap[w4.heap.size]? = some (.cells #[.slice E0 k0 f0, .slice E1 k1 f1, .int .i64 nx, .bool bo] 32 (0, 0)) := by rw [hw5]; exact heap_alloc_new _ _
  have H5 := Lib.hid (H4.out.trans (hb5.mono H4.out.size))
  have RE : Hid (MetaR w5 w3.heap.size w4.heap.size [.slice E0 k0 f0, .slice E1 k1 f1, .int .i64 nx, .bool bo] (hs, ss, nx, bo)) := Lib.hid (MetaR.below hb5 (Nat.le_refl _) _ _ ⟨E0, k0, f0, E1, k1, f1, rfl, hr0, hr1⟩)
  have hd0 := SliceR.below hr0 hb5 (HeadR.below hb5 hr0.lo_le); have hd1 := SliceR.below hr1 hb5 (SnapR.below hb5 hr1.lo_le)
  have RE0 := Lib.hid hd0; have RE1 := Lib.hid hd1
  have c4_ : ∀ i v, w3.cell? ⟨w.heap.size, i, none⟩ = some v → w5.cell? ⟨w.heap.size, i, none⟩ = some v := fun i v h => (hb5.cell (show w.heap.size < w4.heap.size from Nat.lt_of_lt_of_le l3 hb4.size)).trans ((hb4.cell l3).trans h)
  have c5_0 : w5.cell? ⟨w.heap.size, 0, none⟩ = some (.slice A0 n0 c0) := c4_ 0 _ c3_0; have c5_1 : w5.cell? ⟨w.heap.size, 1, none⟩ = some (.slice A1 n1 c1) := c4_ 1 _ c3_1; have c5_2 : w5.cell? ⟨w.heap.size, 2, none⟩ = some (.int .i64 nx) := c4_ 2 _ c3_2; have c5_3 : w5.cell? ⟨w.heap.size, 3, none⟩ = some (.bool bo) := c4_ 3 _ c3_3
  have e5_0 : w5.cell? ⟨w4.heap.size, 0, none⟩ = some (.slice E0 k0 f0) := cell_of_row _ _ 0 _ _ (0, 0) hg5; have e5_1 : w5.cell? ⟨w4.heap.size, 1, none⟩ = some (.slice E1 k1 f1) := cell_of_row _ _ 1 _ _ (0, 0) hg5; have e5_2 : w5.cell? ⟨w4.heap.size, 2, none⟩ = some (.int .i64 nx) := cell_of_row _ _ 2 _ _ (0, 0) hg5; have e5_3 : w5.cell? ⟨w4.heap.size, 3, none⟩ = some (.bool bo) := cell_of_row _ _ 3 _ _ (0, 0) hg5
  have l5 : w.heap.size < w5.heap.size := World.block_lt_of_cell? _ _ c5_0
  have l5e : w4.heap.size < w5.heap.size := World.block_lt_of_cell? _ _ e5_0
  clear hr0 hr1 hd0 hd1 hb5 hg5 c4_ c3_0 c3_1 c3_2 c3_3 hp hb4 l3
  go_wp2_with fail
  rw [← hw5]
  clear hw5
  go_wp2_with fail
  refine (metaPut_any E0 k0 f0 E1 k1 f1 hs ss nx bo w5 _ _ (HTW.out.below H5.out) RE0.out RE1.out HSM.out.1 HSM.out.2).mono ?_
  rw [FieldR_def, ← HX.out, ← HXO.out]
  rintro e w6 ⟨rfl, hb6⟩
  have H6 := Lib.hid (H5.out.trans (hb6.mono H5.out.size))
  have RE6 := Lib.hid (MetaR.below hb6 (World.block_lt_of_cell? _ _ e5_0 |> Nat.le_of_lt) _ _ RE.out)
  have c6_0 : w6.cell? ⟨w.heap.size, 0, none⟩ = some (.slice A0 n0 c0) := (hb6.cell l5).trans c5_0; have c6_1 : w6.cell? ⟨w.heap.size, 1, none⟩ = some (.slice A1 n1 c1) := (hb6.cell l5).trans c5_1; have c6_2 : w6.cell? ⟨w.heap.size, 2, none⟩ = some (.int .i64 nx) := (hb6.cell l5).trans c5_2; have c6_3 : w6.cell? ⟨w.heap.size, 3, none⟩ = some (.bool bo) := (hb6.cell l5).trans c5_3
  have e6_0 : w6.cell? ⟨w4.heap.size, 0, none⟩ = some (.slice E0 k0 f0) := (hb6.cell l5e).trans e5_0; have e6_1 : w6.cell? ⟨w4.heap.size, 1, none⟩ = some (.slice E1 k1 f1) := (hb6.cell l5e).trans e5_1; have e6_2 : w6.cell? ⟨w4.heap.size, 2, none⟩ = some (.int .i64 nx) := (hb6.cell l5e).trans e5_2; have e6_3 : w6.cell? ⟨w4.heap.size, 3, none⟩ = some (.bool bo) := (hb6.cell l5e).trans e5_3
  have l6 : w.heap.size < w6.heap.size := World.block_lt_of_cell? _ _ c6_0
  have l6e : w4.heap.size < w6.heap.size := World.block_lt_of_cell? _ _ e6_0
  clear hb6 c5_0 c5_1 c5_2 c5_3 e5_0 e5_1 e5_2 e5_3 l5 l5e RE RE0 RE1 HX HXO
  have hxx : (xo != xo) = false := by cases xo <;> rfl
  go_wp2_with fail
  apply wp_region_rg (by kernel_rfl) (false :: false :: false :: false :: false :: false :: false :: false :: false :: false :: false :: false :: false :: false :: false :: false :: false :: false :: false :: false :: false :: false :: false :: false :: false :: false :: false :: false :: false :: false :: false :: false :: false :: false :: false :: true :: true :: true :: true :: true :: []) [some 35, some 36, some 37, some 38, some 39] [[], [], [1], [0, 2], [3]] [StP.is _, StP.is _, (MetaR.stp (hs, ss, nx, bo)), StP.is _, StP.is _] (by kernel_rfl)
  case hobs =>
    refine ⟨fun y w' hS hF K hK => ?_, ?_⟩
    · skip -- 0: load
      simp only [fillL, cond_true, cond_false, List.getD_cons_zero, List.getD_cons_succ, StP.is, Act.put, List.setIfInBounds_toArray, List.set_cons_zero, List.set_cons_succ, Nat.reduceAdd] at hK ⊢
      refine rg_yes (by kernel_rfl) ?_
      have qx0_ := (Below.cell hS l6).trans c6_0
      have qx1_ := (Below.cell hS l6).trans c6_1
      have qx2_ := (Below.cell hS l6).trans c6_2
      have qx3_ := (Below.cell hS l6).trans c6_3
      have qx4_ := (Below.cell hS l6e).trans e6_0
      have qx5_ := (Below.cell hS l6e).trans e6_1
      have qx6_ := (Below.cell hS l6e).trans e6_2
      have qx7_ := (Below.cell hS l6e).trans e6_3
      clear hF
      go_simp
      exact hK _ _ (Ext.refl _) rfl
    refine ⟨fun y w' hS hF K hK => ?_, ?_⟩
    · skip -- 1: load
      simp only [fillL, cond_true, cond_false, List.getD_cons_zero, List.getD_cons_succ, StP.is, Act.put, List.setIfInBounds_toArray, List.set_cons_zero, List.set_cons_succ, Nat.reduceAdd] at hK ⊢
      refine rg_yes (by kernel_rfl) ?_
      have qx0_ := (Below.cell hS l6).trans c6_0
      have qx1_ := (Below.cell hS l6).trans c6_1
      have qx2_ := (Below.cell hS l6).trans c6_2
      have qx3_ := (Below.cell hS l6).trans c6_3
      have qx4_ := (Below.cell hS l6e).trans e6_0
      have qx5_ := (Below.cell hS l6e).trans e6_1
      have qx6_ := (Below.cell hS l6e).trans e6_2
      have qx7_ := (Below.cell hS l6e).trans e6_3
      clear hF
      go_simp
      exact hK _ _ (Ext.refl _) rfl
    refine ⟨fun y w' hS hF K hK => ?_, ?_⟩
    · skip -- 2: call
      have e36 : y 36 = _ := hF.1
      simp only [fillL, cond_true, cond_false, List.getD_cons_zero, List.getD_cons_succ, StP.is, Act.put, List.setIfInBounds_toArray, List.set_cons_zero, List.set_cons_succ, Nat.reduceAdd, e36] at hK ⊢
      refine rg_yes (by kernel_rfl) ?_
      clear e36
      clear hF
      go_simp
      go_at_call 6
      refine (toMeta_any _ _ _ 0 w.heap.size (MetaR.below (H6.out.trans (Below.mono hS H6.out.size)) (Nat.le_refl _) _ _ PA.out) HZ0.out).mono ?_
      rintro e w'' ⟨cs, rfl, hr, hb⟩
      exact hK _ _ hb ⟨cs, _, _, rfl, Nat.le_refl _, hr⟩
    refine ⟨fun y w' hS hF K hK => ?_, ?_⟩
    · skip -- 3: call
      have e35 : y 35 = _ := hF.1
      obtain ⟨cs2_, lo2_, hi2_, e37, hh2_, R2_⟩ := hF.2.1
      simp only [fillL, cond_true, cond_false, List.getD_cons_zero, List.getD_cons_succ, StP.is, Act.put, List.setIfInBounds_toArray, List.set_cons_zero, List.set_cons_succ, Nat.reduceAdd, e35, e37] at hK ⊢
      refine rg_yes (by kernel_rfl) ?_
      clear e35 e37
      clear hF
      go_simp
      go_at_call 8
      refine (eqMeta_yes [.slice E0 k0 f0, .slice E1 k1 f1, .int .i64 nx, .bool bo] _ (hs, ss, nx, bo) _ _ _ _ _ (MetaR.below hS (by omega) _ _ RE6.out) R2_).mono ?_
      rintro e w'' ⟨rfl, hb⟩
      exact hK _ _ hb rfl
    refine ⟨fun y w' hS hF K hK => ?_, ?_⟩
    · skip -- 4: unOp
      have e38 : y 38 = _ := hF.1
      simp only [fillL, cond_true, cond_false, List.getD_cons_zero, List.getD_cons_succ, StP.is, Act.put, List.setIfInBounds_toArray, List.set_cons_zero, List.set_cons_succ, Nat.reduceAdd, e38] at hK ⊢
      refine rg_yes (by kernel_rfl) ?_
      clear e38
      clear hF
      go_simp
      exact hK _ _ (Ext.refl _) rfl
    trivial
  case hend =>
    intro y w9 hX hF
    have e9_ : y 39 = _ := hF.2.2.2.2.1
    clear hF
    simp only [fillL, cond_true, cond_false, Nat.reduceAdd, e9_]
    clear e9_
    have H9 : Hid (Below w.heap.size w w9) := Lib.hid (H6.out.trans (Below.mono hX H6.out.size))
    clear hX
    go_wp2_with fail
    go_ret
    exact ⟨rfl, H9.out⟩
end Go.Proofs.YtlacpcdbgimnmaaDoor
