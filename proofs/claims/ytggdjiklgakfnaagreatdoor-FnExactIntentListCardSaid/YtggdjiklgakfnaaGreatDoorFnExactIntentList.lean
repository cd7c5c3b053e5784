/- FnExactIntentList: the walk. Condition: the tables that strconv's functions read lie as their initialisers lay them. -/
import Derived.Test.YtggdjiklgakfnaaGreatDoorIntList
import Derived.Test.YtggdjiklgakfnaaGreatDoorRaidN
import Derived.Test.YtggdjiklgakfnaaGreatDoorMarkR
import Derived.Test.YtggdjiklgakfnaaGreatDoorFamRSz
import Derived.Test.YtggdjiklgakfnaaGreatDoorFamREq
import Derived.Test.YtggdjiklgakfnaaGreatDoorFamIntS
namespace Go.Proofs.YtggdjiklgakfnaaGreatDoor
set_option linter.unusedSimpArgs false
set_option linter.unnecessarySimpa false
open Go Go.Lib Go.RowKit
set_option linter.unusedVariables false

/-- A value reads as a datum, in some blocks. -/
def HoldsR {α : Type} (R : Reads α) (x : α) (v : Value) (w : World) : Prop := ∃ cs lo hi, v = .agg (List.toArray cs) ∧ hi ≤ w.heap.size ∧ R w lo hi cs x
def RaidR.stp (x : RaidD) : StP := ⟨HoldsR RaidR x, fun v w w' he h => by
  obtain ⟨cs, lo, hi, e, h1, h2⟩ := h
  exact ⟨cs, lo, hi, e, Nat.le_trans h1 (Below.size he), RaidR.below he h1 _ _ h2⟩⟩
/-- Intents in memory of their own. -/
def IntsN : Reads (List IntentD) := fun w lo hi cs x => ∃ A c, cs = [.slice A x.length c] ∧ SliceR IntentR 8 w lo hi A x.length c x ∧ Whole w 34 8 lo hi A x.length c
theorem IntsN.keep {w w' : World} {lo hi : Nat} (hs : Same lo hi w w') (hz : w.heap.size ≤ w'.heap.size) (cs : List Value) (x : List IntentD) (h : IntsN w lo hi cs x) : IntsN w' lo hi cs x := by
  obtain ⟨A, c, rfl, h0, h1⟩ := h
  exact ⟨A, c, rfl, h0.keep hs hz (fun _ _ h => h), h1.keep hs⟩
theorem IntsN.below {w w' : World} {lo hi : Nat} (hb : Below w.heap.size w w') (hhi : hi ≤ w.heap.size) (cs : List Value) (x : List IntentD) (h : IntsN w lo hi cs x) : IntsN w' lo hi cs x := IntsN.keep (Same.of_below hb hhi) hb.size cs x h
theorem IntsN.p {w : World} {lo hi : Nat} {A : Option Addr} {n c : Nat} {x : List IntentD} (h : IntsN w lo hi [.slice A n c] x) : SliceR IntentR 8 w lo hi A n c x ∧ Whole w 34 8 lo hi A n c := by
  obtain ⟨A', c', e, h0, h1⟩ := h
  injection e with e _; injection e with e1 e2 e3; subst e1 e2 e3
  exact ⟨h0, h1⟩
theorem Whole.chg {w w' w2 : World} {lo hi : Nat} {A : Option Addr} {n c : Nat} (h : Whole w2 34 8 lo hi A n c) (hc : Chg (fun b => 0 < n ∧ blkOf A b) w w') : Chg (fun b => lo ≤ b ∧ b < hi) w w' :=
  hc.mono fun b _ hb => by
    rcases h with ⟨h0, _⟩ | ⟨g, cur, rfl, h1, h2, _⟩
    · omega
    · have := hb.2; rw [blkOf_iff] at this; subst this; exact ⟨h1, h2⟩
set_option maxRecDepth 100000 in
set_option maxHeartbeats 8000000 in
theorem fnExactIntentList_walk (l0 : List Value) (x0 : RaidD) (gt : Int) (w : World) (he : Env w) (h0 : RaidR w 0 w.heap.size l0 x0) :
    Calls Tryz.prog 4 #[.agg l0.toArray, .int .i64 gt] w fun e w' => e = .returned (.bool true) ∧ Below w.heap.size w w' := by
  have PA := Lib.hid h0
  obtain ⟨Ap0, np0, cp0, rfl, _⟩ := h0
  show Calls Tryz.prog 4 #[.agg #[.slice Ap0 np0 cp0], .int .i64 gt] w _
  go_enter Tryz.func4, Tryz.ntmps4
  go_wp2_with fail
  refine (szRaid_any _ _ _ 0 w.heap.size 1048576 (RaidR.below bel1 (Nat.le_refl _) _ _ PA.out) (by omega) (by omega)).mono ?_
  rintro e w1 ⟨s0, rfl, p0_, o0_, z0, hb1⟩
  have ZZ := Lib.hid z0; clear z0
  have S1 : Below w.heap.size w w1 := bel1.trans (hb1.mono (by simp <;> omega))
  have c1_0 : w1.cell? ⟨w.heap.size, 0, none⟩ = some (.slice Ap0 np0 cp0) := (hb1.cell (by simp <;> omega)).trans (by simp [go_sem])
  have l1_0 : w.heap.size < w1.heap.size := World.block_lt_of_cell? _ _ c1_0
  have X1 : Below w.heap.size w w1 := S1
  clear hb1
  clear S1
  by_cases q0_ : s0 < 0
  · go_wp2_with fail
    go_ret
    exact ⟨rfl, X1⟩
  have dq0 : decide (s0 < 0) = false := by simpa using q0_
  have HZ : Hid (sizeRaid x0 ≤ 1048576) := Lib.hid (by have := ZZ.out (by omega); omega)
  clear ZZ
  have HBX2 : Hid (∀ n, dsum x0 n ≤ 1073741824) := Lib.hid (fun n => by have := HZ.out; have := dsum_size x0 n; omega)
  go_wp2_with fail
  refine (toRaid_any _ x0 _ 0 w.heap.size (RaidR.below X1 (Nat.le_refl _) _ _ PA.out) HZ.out).mono ?_
  rintro e w2 ⟨cs, rfl, hr, hb⟩
  obtain ⟨loa, hloa⟩ : ∃ x, x = w1.heap.size := ⟨_, rfl⟩
  have hr : RaidN w2 loa w2.heap.size cs x0 := by rw [hloa]; simpa using hr
  have oza_1 : w.heap.size < loa := by have := l1_0; omega
  have oza_w : w.heap.size ≤ loa := by have := X1.size; omega
  clear hloa
  have S2 : Below w1.heap.size w1 w2 := hb
  have c2_0 : w2.cell? ⟨w.heap.size, 0, none⟩ = some (.slice Ap0 np0 cp0) := (S2.cell l1_0).trans c1_0
  have l2_0 : w.heap.size < w2.heap.size := World.block_lt_of_cell? _ _ c2_0
  have X2 : Below w.heap.size w w2 := X1.trans (S2.mono X1.size)
  clear c1_0 l1_0 X1 hb
  clear S2
  obtain ⟨hia, hhia⟩ : ∃ x, x = w2.heap.size := ⟨_, rfl⟩
  rw [← hhia] at hr
  have hhla : hia ≤ w2.heap.size := Nat.le_of_eq hhia; clear hhia
  have hr2 := hr
  obtain ⟨Aa0, na0, ca0, _, rfl, _, _⟩ := hr2
  have Da_2 := Lib.hid (And.intro hhla hr); clear hr hhla
  go_wp2_with fail
  refine (spIntentList_any _ x0 gt _ _ _ (RaidR.below (Below.refl _ _) Da_2.out.1 _ _ Da_2.out.2.r)).mono ?_
  rintro e w3 ⟨Aw, cw, Sw_, rl, rfl, hRA, hRT, hb⟩
  have HRA := Lib.hid hRA; have hl4 := hRA.len; clear hRA
  obtain ⟨low, hlow⟩ : ∃ x, x = w2.heap.size := ⟨_, rfl⟩
  have hr : IntsN w3 low w3.heap.size [.slice Aw rl.length cw] (rl.map toD) := by have hsl := hRT.slice; rw [hlow]; exact ⟨Aw, cw, by simp, by simpa using hsl.1, by simpa using hsl.2⟩
  clear hRT
  have ozw_2 : w.heap.size < low := by have := l2_0; omega
  have ozw_3 : hia ≤ low := by have := Da_2.out.1; omega
  have ozw_w : w.heap.size ≤ low := by have := X2.size; omega
  clear hlow
  have S3 : Below w2.heap.size w2 w3 := hb
  have c3_0 : w3.cell? ⟨w.heap.size, 0, none⟩ = some (.slice Ap0 np0 cp0) := (S3.cell l2_0).trans c2_0
  have l3_0 : w.heap.size < w3.heap.size := World.block_lt_of_cell? _ _ c3_0
  have X3 : Below w.heap.size w w3 := X2.trans (S3.mono X2.size)
  have Da_3 : Hid (hia ≤ w3.heap.size ∧ RaidN w3 loa hia [.slice Aa0 na0 ca0] x0) := Lib.hid ⟨Nat.le_trans Da_2.out.1 S3.size, RaidN.below S3 Da_2.out.1 _ _ Da_2.out.2⟩
  clear c2_0 l2_0 Da_2 X2 hb
  clear S3
  obtain ⟨hiw, hhiw⟩ : ∃ x, x = w3.heap.size := ⟨_, rfl⟩
  rw [← hhiw] at hr
  have hhlw : hiw ≤ w3.heap.size := Nat.le_of_eq hhiw; clear hhiw
  have Dw_3 := Lib.hid (And.intro hhlw hr); clear hr hhlw
  clear Da_3
  go_wp2_with fail
  refine (toRaid_any _ x0 _ 0 w.heap.size (RaidR.below X3 (Nat.le_refl _) _ _ PA.out) HZ.out).mono ?_
  rintro e w4 ⟨cs, rfl, hr, hb⟩
  obtain ⟨lox, hlox⟩ : ∃ x, x = w3.heap.size := ⟨_, rfl⟩
  have hr : RaidN w4 lox w4.heap.size cs x0 := by rw [hlox]; simpa using hr
  have ozx_4 : w.heap.size < lox := by have := l3_0; omega
  have ozx_5 : hiw ≤ lox := by have := Dw_3.out.1; omega
  have ozx_w : w.heap.size ≤ lox := by have := X3.size; omega
  clear hlox
  have S4 : Below w3.heap.size w3 w4 := hb
  have c4_0 : w4.cell? ⟨w.heap.size, 0, none⟩ = some (.slice Ap0 np0 cp0) := (S4.cell l3_0).trans c3_0
  have l4_0 : w.heap.size < w4.heap.size := World.block_lt_of_cell? _ _ c4_0
  have X4 : Below w.heap.size w w4 := X3.trans (S4.mono X3.size)
  have Dw_4 : Hid (hiw ≤ w4.heap.size ∧ IntsN w4 low hiw [.slice Aw rl.length cw] (rl.map toD)) := Lib.hid ⟨Nat.le_trans Dw_3.out.1 S4.size, IntsN.below S4 Dw_3.out.1 _ _ Dw_3.out.2⟩
  clear c3_0 l3_0 Dw_3 X3 hb
  clear S4
  obtain ⟨hix, hhix⟩ : ∃ x, x = w4.heap.size := ⟨_, rfl⟩
  rw [← hhix] at hr
  have hhlx : hix ≤ w4.heap.size := Nat.le_of_eq hhix; clear hhix
  have hr2 := hr
  obtain ⟨Ax0, nx0, cx0, _, rfl, _, _⟩ := hr2
  have Dx_4 := Lib.hid (And.intro hhlx hr); clear hr hhlx
  have obDw_6 : hiw ≤ w4.heap.size := by have := Dw_4.out.1; omega
  have obDx_7 : hix ≤ w4.heap.size := by have := Dx_4.out.1; omega
  go_wp2_with fail
  refine (intentList_any _ x0 gt _ _ _ (he.below (X4.alloc (by first | exact X4.size | (have := X4.size; simp <;> omega)) _)) (RaidR.below bel1 Dx_4.out.1 _ _ Dx_4.out.2.r)).mono ?_
  rintro e w5 ⟨Ag, cg, Sg_, rl', rfl, hRA, hRT, hb⟩
  obtain rfl := HRA.out.one hRA; clear hRA
  obtain ⟨log, hlog⟩ : ∃ x, x = w4.heap.size + 1 := ⟨_, rfl⟩
  have hr : IntsN w5 log w5.heap.size [.slice Ag rl.length cg] (rl.map toD) := by have hsl := hRT.slice; rw [hlog]; exact ⟨Ag, cg, by simp, by simpa using hsl.1, by simpa using hsl.2⟩
  clear hRT
  have ozg_8 : w.heap.size < log := by have := l4_0; omega
  have ozg_9 : w4.heap.size < log := by omega
  have ozg_10 : hiw ≤ log := by have := Dw_4.out.1; omega
  have ozg_11 : hix ≤ log := by have := Dx_4.out.1; omega
  have ozg_w : w.heap.size ≤ log := by have := X4.size; omega
  clear hlog
  have S5 : Below w4.heap.size w4 w5 := bel1.trans (hb.mono (by simp <;> omega))
  have c5_0 : w5.cell? ⟨w.heap.size, 0, none⟩ = some (.slice Ap0 np0 cp0) := (S5.cell l4_0).trans c4_0
  have c5_1 : w5.cell? ⟨w4.heap.size, 0, none⟩ = some (.slice Ax0 nx0 cx0) := (hb.cell (by simp <;> omega)).trans (by simp [go_sem])
  have l5_0 : w.heap.size < w5.heap.size := World.block_lt_of_cell? _ _ c5_0
  have l5_1 : w4.heap.size < w5.heap.size := World.block_lt_of_cell? _ _ c5_1
  have X5 : Below w.heap.size w w5 := X4.trans (S5.mono X4.size)
  have Dw_5 : Hid (hiw ≤ w5.heap.size ∧ IntsN w5 low hiw [.slice Aw rl.length cw] (rl.map toD)) := Lib.hid ⟨Nat.le_trans Dw_4.out.1 S5.size, IntsN.below S5 Dw_4.out.1 _ _ Dw_4.out.2⟩
  have Dx_5 : Hid (hix ≤ w5.heap.size ∧ RaidN w5 lox hix [.slice Ax0 nx0 cx0] x0) := Lib.hid ⟨Nat.le_trans Dx_4.out.1 S5.size, RaidN.below S5 Dx_4.out.1 _ _ Dx_4.out.2⟩
  clear c4_0 l4_0 Dw_4 Dx_4 X4 hb
  clear S5
  obtain ⟨hig, hhig⟩ : ∃ x, x = w5.heap.size := ⟨_, rfl⟩
  rw [← hhig] at hr
  have hhlg : hig ≤ w5.heap.size := Nat.le_of_eq hhig; clear hhig
  have Dg_5 := Lib.hid (And.intro hhlg hr); clear hr hhlg
  go_wp2_with fail
  refine (eqIntentS_yes _ _ _ _ _ _ (rl.map toD) _ _ _ _ _ (IntsN.below (Below.refl _ _) Dg_5.out.1 _ _ Dg_5.out.2).p.1 (IntsN.below (Below.refl _ _) Dw_5.out.1 _ _ Dw_5.out.2).p.1).mono ?_
  rintro e w6 ⟨rfl, hb⟩
  have S6 : Below w5.heap.size w5 w6 := hb
  have c6_0 : w6.cell? ⟨w.heap.size, 0, none⟩ = some (.slice Ap0 np0 cp0) := (S6.cell l5_0).trans c5_0
  have c6_1 : w6.cell? ⟨w4.heap.size, 0, none⟩ = some (.slice Ax0 nx0 cx0) := (S6.cell l5_1).trans c5_1
  have l6_0 : w.heap.size < w6.heap.size := World.block_lt_of_cell? _ _ c6_0
  have l6_1 : w4.heap.size < w6.heap.size := World.block_lt_of_cell? _ _ c6_1
  have X6 : Below w.heap.size w w6 := X5.trans (S6.mono X5.size)
  have Dw_6 : Hid (hiw ≤ w6.heap.size ∧ IntsN w6 low hiw [.slice Aw rl.length cw] (rl.map toD)) := Lib.hid ⟨Nat.le_trans Dw_5.out.1 S6.size, IntsN.below S6 Dw_5.out.1 _ _ Dw_5.out.2⟩
  have Dx_6 : Hid (hix ≤ w6.heap.size ∧ RaidN w6 lox hix [.slice Ax0 nx0 cx0] x0) := Lib.hid ⟨Nat.le_trans Dx_5.out.1 S6.size, RaidN.below S6 Dx_5.out.1 _ _ Dx_5.out.2⟩
  have Dg_6 : Hid (hig ≤ w6.heap.size ∧ IntsN w6 log hig [.slice Ag rl.length cg] (rl.map toD)) := Lib.hid ⟨Nat.le_trans Dg_5.out.1 S6.size, IntsN.below S6 Dg_5.out.1 _ _ Dg_5.out.2⟩
  clear c5_0 c5_1 l5_0 l5_1 Dw_5 Dx_5 Dg_5 X5 hb
  clear S6
  go_wp2_with fail
  apply wp_region_rg (by kernel_rfl) (false :: false :: false :: false :: false :: false :: false :: false :: false :: false :: false :: false :: false :: false :: false :: false :: false :: false :: false :: false :: false :: false :: false :: false :: false :: false :: false :: false :: false :: false :: false :: true :: true :: true :: true :: true :: false :: false :: false :: false :: false :: false :: false :: false :: false :: false :: false :: false :: false :: false :: false :: false :: false :: false :: false :: false :: false :: false :: false :: false :: false :: false :: false :: false :: false :: false :: false :: false :: false :: false :: false :: false :: false :: false :: []) [some 31, some 32, some 33, some 34, some 35] [[], [], [1], [0, 2], [3]] [StP.is _, StP.is _, (RaidR.stp x0), StP.is _, StP.is _] (by kernel_rfl)
  case hobs =>
    refine ⟨fun y w' hS hF K hK => ?_, ?_⟩
    · skip -- 0: load
      simp only [fillL, cond_true, cond_false, List.getD_cons_zero, List.getD_cons_succ, StP.is, Act.put, List.setIfInBounds_toArray, List.set_cons_zero, List.set_cons_succ, Nat.reduceAdd] at hK ⊢
      refine rg_yes (by kernel_rfl) ?_
      have qx0_ := (Below.cell hS l6_0).trans c6_0
      have qx1_ := (Below.cell hS l6_1).trans c6_1
      clear hF
      go_simp
      exact hK _ _ (Ext.refl _) rfl
    refine ⟨fun y w' hS hF K hK => ?_, ?_⟩
    · skip -- 1: load
      simp only [fillL, cond_true, cond_false, List.getD_cons_zero, List.getD_cons_succ, StP.is, Act.put, List.setIfInBounds_toArray, List.set_cons_zero, List.set_cons_succ, Nat.reduceAdd] at hK ⊢
      refine rg_yes (by kernel_rfl) ?_
      have qx0_ := (Below.cell hS l6_0).trans c6_0
      have qx1_ := (Below.cell hS l6_1).trans c6_1
      clear hF
      go_simp
      exact hK _ _ (Ext.refl _) rfl
    refine ⟨fun y w' hS hF K hK => ?_, ?_⟩
    · skip -- 2: call
      have e32 : y 32 = _ := hF.1
      simp only [fillL, cond_true, cond_false, List.getD_cons_zero, List.getD_cons_succ, StP.is, Act.put, List.setIfInBounds_toArray, List.set_cons_zero, List.set_cons_succ, Nat.reduceAdd, e32] at hK ⊢
      refine rg_yes (by kernel_rfl) ?_
      clear e32
      clear hF
      go_simp
      go_at_call 11
      refine (toRaid_any _ x0 _ 0 w.heap.size (RaidR.below (X6.trans (Below.mono hS X6.size)) (Nat.le_refl _) _ _ PA.out) HZ.out).mono ?_
      rintro e w'' ⟨cs, rfl, hr, hb⟩
      exact hK _ _ hb ⟨cs, _, _, rfl, Nat.le_refl _, hr.r⟩
    refine ⟨fun y w' hS hF K hK => ?_, ?_⟩
    · skip -- 3: call
      have e31 : y 31 = _ := hF.1
      obtain ⟨cs33_, lo33_, hi33_, e33, hh33_, R33_⟩ := hF.2.1
      simp only [fillL, cond_true, cond_false, List.getD_cons_zero, List.getD_cons_succ, StP.is, Act.put, List.setIfInBounds_toArray, List.set_cons_zero, List.set_cons_succ, Nat.reduceAdd, e31, e33] at hK ⊢
      refine rg_yes (by kernel_rfl) ?_
      clear e31 e33
      clear hF
      go_simp
      go_at_call 13
      refine (eqRaid_yes _ _ x0 _ _ _ _ _ (RaidR.below hS Dx_6.out.1 _ _ Dx_6.out.2.r) R33_).mono ?_
      rintro e w'' ⟨rfl, hb⟩
      exact hK _ _ hb rfl
    refine ⟨fun y w' hS hF K hK => ?_, ?_⟩
    · skip -- 4: unOp
      have e34 : y 34 = _ := hF.1
      simp only [fillL, cond_true, cond_false, List.getD_cons_zero, List.getD_cons_succ, StP.is, Act.put, List.setIfInBounds_toArray, List.set_cons_zero, List.set_cons_succ, Nat.reduceAdd, e34] at hK ⊢
      refine rg_yes (by kernel_rfl) ?_
      clear e34
      clear hF
      go_simp
      exact hK _ _ (Ext.refl _) rfl
    trivial
  case hend =>
    intro y w7 hX hF
    have e35 : y 35 = _ := hF.2.2.2.2.1
    clear hF
    simp only [fillL, cond_true, cond_false, Nat.reduceAdd, e35]
    clear e35
    have S7 : Below w6.heap.size w6 w7 := hX
    have c7_0 : w7.cell? ⟨w.heap.size, 0, none⟩ = some (.slice Ap0 np0 cp0) := (S7.cell l6_0).trans c6_0
    have c7_1 : w7.cell? ⟨w4.heap.size, 0, none⟩ = some (.slice Ax0 nx0 cx0) := (S7.cell l6_1).trans c6_1
    have l7_0 : w.heap.size < w7.heap.size := World.block_lt_of_cell? _ _ c7_0
    have l7_1 : w4.heap.size < w7.heap.size := World.block_lt_of_cell? _ _ c7_1
    have X7 : Below w.heap.size w w7 := X6.trans (S7.mono X6.size)
    have Dw_7 : Hid (hiw ≤ w7.heap.size ∧ IntsN w7 low hiw [.slice Aw rl.length cw] (rl.map toD)) := Lib.hid ⟨Nat.le_trans Dw_6.out.1 S7.size, IntsN.below S7 Dw_6.out.1 _ _ Dw_6.out.2⟩
    have Dx_7 : Hid (hix ≤ w7.heap.size ∧ RaidN w7 lox hix [.slice Ax0 nx0 cx0] x0) := Lib.hid ⟨Nat.le_trans Dx_6.out.1 S7.size, RaidN.below S7 Dx_6.out.1 _ _ Dx_6.out.2⟩
    have Dg_7 : Hid (hig ≤ w7.heap.size ∧ IntsN w7 log hig [.slice Ag rl.length cg] (rl.map toD)) := Lib.hid ⟨Nat.le_trans Dg_6.out.1 S7.size, IntsN.below S7 Dg_6.out.1 _ _ Dg_6.out.2⟩
    clear c6_0 c6_1 l6_0 l6_1 Dw_6 Dx_6 Dg_6 X6 hX
    clear S7
    go_wp2_with fail
    have hbn := HBX2.out nx0
    refine (markRaid_any Ax0 nx0 cx0 x0 1 _ lox hix Dx_7.out.2 Dx_7.out.1 (by omega) (by omega)).mono ?_
    rintro e w8 ⟨rfl, hm0, hc⟩
    have c8_0 : w8.cell? ⟨w.heap.size, 0, none⟩ = some (.slice Ap0 np0 cp0) := (World.cell?_of_block (a := ⟨w.heap.size, 0, none⟩) (hc.block _ l7_0 (fun h => by have h1 := h.1; have h2 := h.2; simp only at h1 h2; omega))).trans c7_0
    have c8_1 : w8.cell? ⟨w4.heap.size, 0, none⟩ = some (.slice Ax0 nx0 cx0) := (World.cell?_of_block (a := ⟨w4.heap.size, 0, none⟩) (hc.block _ l7_1 (fun h => by have h1 := h.1; have h2 := h.2; simp only at h1 h2; omega))).trans c7_1
    have l8_0 : w.heap.size < w8.heap.size := Nat.lt_of_lt_of_le l7_0 hc.size
    have l8_1 : w4.heap.size < w8.heap.size := Nat.lt_of_lt_of_le l7_1 hc.size
    have X8 : Below w.heap.size w w8 := X7.trans (hc.below (fun k _ h => by have h1 := h.1; have h2 := h.2; omega) X7.size)
    have Dw_8 : Hid (hiw ≤ w8.heap.size ∧ IntsN w8 low hiw [.slice Aw rl.length cw] (rl.map toD)) := Lib.hid ⟨Nat.le_trans Dw_7.out.1 hc.size, IntsN.keep (fun k h1 h2 => hc.block k (Nat.lt_of_lt_of_le h2 Dw_7.out.1) (fun h => by have h3 := h.1; have h4 := h.2; omega)) hc.size _ _ Dw_7.out.2⟩
    have Dg_8 : Hid (hig ≤ w8.heap.size ∧ IntsN w8 log hig [.slice Ag rl.length cg] (rl.map toD)) := Lib.hid ⟨Nat.le_trans Dg_7.out.1 hc.size, IntsN.keep (fun k h1 h2 => hc.block k (Nat.lt_of_lt_of_le h2 Dg_7.out.1) (fun h => by have h3 := h.1; have h4 := h.2; omega)) hc.size _ _ Dg_7.out.2⟩
    clear Dx_7
    clear c7_0 c7_1 l7_0 l7_1 Dw_7 Dg_7 X7 hc
    clear hm0
    have dk : decide ((1 : Int) + (dsum x0 nx0 : Int) < 0) = false := by simp <;> omega
    have dk2 : ¬ ((1 : Int) + (dsum x0 nx0 : Int) < 0) := by omega
    go_wp2_with fail
    refine (eqIntentS_yes _ _ _ _ _ _ (rl.map toD) _ _ _ _ _ (IntsN.below (Below.refl _ _) Dg_8.out.1 _ _ Dg_8.out.2).p.1 (IntsN.below (Below.refl _ _) Dw_8.out.1 _ _ Dw_8.out.2).p.1).mono ?_
    rintro e w9 ⟨rfl, hb⟩
    have S9 : Below w8.heap.size w8 w9 := hb
    have c9_0 : w9.cell? ⟨w.heap.size, 0, none⟩ = some (.slice Ap0 np0 cp0) := (S9.cell l8_0).trans c8_0
    have c9_1 : w9.cell? ⟨w4.heap.size, 0, none⟩ = some (.slice Ax0 nx0 cx0) := (S9.cell l8_1).trans c8_1
    have l9_0 : w.heap.size < w9.heap.size := World.block_lt_of_cell? _ _ c9_0
    have l9_1 : w4.heap.size < w9.heap.size := World.block_lt_of_cell? _ _ c9_1
    have X9 : Below w.heap.size w w9 := X8.trans (S9.mono X8.size)
    have Dw_9 : Hid (hiw ≤ w9.heap.size ∧ IntsN w9 low hiw [.slice Aw rl.length cw] (rl.map toD)) := Lib.hid ⟨Nat.le_trans Dw_8.out.1 S9.size, IntsN.below S9 Dw_8.out.1 _ _ Dw_8.out.2⟩
    have Dg_9 : Hid (hig ≤ w9.heap.size ∧ IntsN w9 log hig [.slice Ag rl.length cg] (rl.map toD)) := Lib.hid ⟨Nat.le_trans Dg_8.out.1 S9.size, IntsN.below S9 Dg_8.out.1 _ _ Dg_8.out.2⟩
    clear c8_0 c8_1 l8_0 l8_1 Dw_8 Dg_8 X8 hb
    clear S9
    clear dk dk2
    go_wp2_with fail
    have hpg := Dg_9.out.2.p
    have hlh := Dg_9.out.1
    refine (markIntentS_any Ag rl.length cg 1 _ log hig hpg.2 (by omega) (by omega)).mono ?_
    rintro e w10 ⟨rfl, hm0, hw0, hc⟩
    have hc := hw0.chg hc; clear hw0 hpg
    have c10_0 : w10.cell? ⟨w.heap.size, 0, none⟩ = some (.slice Ap0 np0 cp0) := (World.cell?_of_block (a := ⟨w.heap.size, 0, none⟩) (hc.block _ l9_0 (fun h => by have h1 := h.1; have h2 := h.2; simp only at h1 h2; omega))).trans c9_0
    have c10_1 : w10.cell? ⟨w4.heap.size, 0, none⟩ = some (.slice Ax0 nx0 cx0) := (World.cell?_of_block (a := ⟨w4.heap.size, 0, none⟩) (hc.block _ l9_1 (fun h => by have h1 := h.1; have h2 := h.2; simp only at h1 h2; omega))).trans c9_1
    have l10_0 : w.heap.size < w10.heap.size := Nat.lt_of_lt_of_le l9_0 hc.size
    have l10_1 : w4.heap.size < w10.heap.size := Nat.lt_of_lt_of_le l9_1 hc.size
    have X10 : Below w.heap.size w w10 := X9.trans (hc.below (fun k _ h => by have h1 := h.1; have h2 := h.2; omega) X9.size)
    have Dw_10 : Hid (hiw ≤ w10.heap.size ∧ IntsN w10 low hiw [.slice Aw rl.length cw] (rl.map toD)) := Lib.hid ⟨Nat.le_trans Dw_9.out.1 hc.size, IntsN.keep (fun k h1 h2 => hc.block k (Nat.lt_of_lt_of_le h2 Dw_9.out.1) (fun h => by have h3 := h.1; have h4 := h.2; omega)) hc.size _ _ Dw_9.out.2⟩
    clear Dg_9
    have Mg_10 : Hid (hig ≤ w10.heap.size ∧ MarkedAt w10 KIntentS (1) Ag (rl.length * 8)) := Lib.hid ⟨Nat.le_trans hlh hc.size, hm0⟩
    clear c9_0 c9_1 l9_0 l9_1 Dw_9 X9 hc
    go_wp2_with fail
    refine (heldIntentS_any Ag rl.length cg 1 _ (Mg_10.out.2.below (Below.refl _ _)) (by omega) (by omega)).mono ?_
    rintro e w11 ⟨rfl, hb⟩
    have S11 : Below w10.heap.size w10 w11 := hb
    have c11_0 : w11.cell? ⟨w.heap.size, 0, none⟩ = some (.slice Ap0 np0 cp0) := (S11.cell l10_0).trans c10_0
    have c11_1 : w11.cell? ⟨w4.heap.size, 0, none⟩ = some (.slice Ax0 nx0 cx0) := (S11.cell l10_1).trans c10_1
    have l11_0 : w.heap.size < w11.heap.size := World.block_lt_of_cell? _ _ c11_0
    have l11_1 : w4.heap.size < w11.heap.size := World.block_lt_of_cell? _ _ c11_1
    have X11 : Below w.heap.size w w11 := X10.trans (S11.mono X10.size)
    have Dw_11 : Hid (hiw ≤ w11.heap.size ∧ IntsN w11 low hiw [.slice Aw rl.length cw] (rl.map toD)) := Lib.hid ⟨Nat.le_trans Dw_10.out.1 S11.size, IntsN.below S11 Dw_10.out.1 _ _ Dw_10.out.2⟩
    have Mg_11 : Hid (hig ≤ w11.heap.size ∧ MarkedAt w11 KIntentS (1) Ag (rl.length * 8)) := Lib.hid ⟨Nat.le_trans Mg_10.out.1 S11.size, (Mg_10.out.2).below S11⟩
    clear c10_0 c10_1 l10_0 l10_1 Dw_10 Mg_10 X10 hb
    clear S11
    have dk : decide ((1 : Int) + ((rl.length : Nat) : Int) * 8 < 0) = false := by simp <;> omega
    have dk2 : ¬ ((1 : Int) + ((rl.length : Nat) : Int) * 8 < 0) := by omega
    have dk3 : ((1 : Int) + ((rl.length : Nat) : Int) * 8 != (1 : Int) + ((rl.length : Nat) : Int) * 8) = false := by simp
    go_wp2_with fail
    clear dk dk2 dk3
    go_wp2_with fail
    refine (toRaid_any _ x0 _ 0 w.heap.size (RaidR.below X11 (Nat.le_refl _) _ _ PA.out) HZ.out).mono ?_
    rintro e w12 ⟨cs, rfl, hr, hb⟩
    obtain ⟨lob, hlob⟩ : ∃ x, x = w11.heap.size := ⟨_, rfl⟩
    have hr : RaidN w12 lob w12.heap.size cs x0 := by rw [hlob]; simpa using hr
    have ozb_12 : w.heap.size < lob := by have := l11_0; omega
    have ozb_13 : w4.heap.size < lob := by have := l11_1; omega
    have ozb_14 : hiw ≤ lob := by have := Dw_11.out.1; omega
    have ozb_15 : hig ≤ lob := by have := Mg_11.out.1; omega
    have ozb_w : w.heap.size ≤ lob := by have := X11.size; omega
    clear hlob
    have S12 : Below w11.heap.size w11 w12 := hb
    have c12_0 : w12.cell? ⟨w.heap.size, 0, none⟩ = some (.slice Ap0 np0 cp0) := (S12.cell l11_0).trans c11_0
    have c12_1 : w12.cell? ⟨w4.heap.size, 0, none⟩ = some (.slice Ax0 nx0 cx0) := (S12.cell l11_1).trans c11_1
    have l12_0 : w.heap.size < w12.heap.size := World.block_lt_of_cell? _ _ c12_0
    have l12_1 : w4.heap.size < w12.heap.size := World.block_lt_of_cell? _ _ c12_1
    have X12 : Below w.heap.size w w12 := X11.trans (S12.mono X11.size)
    have Dw_12 : Hid (hiw ≤ w12.heap.size ∧ IntsN w12 low hiw [.slice Aw rl.length cw] (rl.map toD)) := Lib.hid ⟨Nat.le_trans Dw_11.out.1 S12.size, IntsN.below S12 Dw_11.out.1 _ _ Dw_11.out.2⟩
    have Mg_12 : Hid (hig ≤ w12.heap.size ∧ MarkedAt w12 KIntentS (1) Ag (rl.length * 8)) := Lib.hid ⟨Nat.le_trans Mg_11.out.1 S12.size, (Mg_11.out.2).below S12⟩
    clear c11_0 c11_1 l11_0 l11_1 Dw_11 Mg_11 X11 hb
    clear S12
    obtain ⟨hib, hhib⟩ : ∃ x, x = w12.heap.size := ⟨_, rfl⟩
    rw [← hhib] at hr
    have hhlb : hib ≤ w12.heap.size := Nat.le_of_eq hhib; clear hhib
    have hr2 := hr
    obtain ⟨Ab0, nb0, cb0, _, rfl, _, _⟩ := hr2
    have Db_12 := Lib.hid (And.intro hhlb hr); clear hr hhlb
    go_wp2_with fail
    refine (intentList_any _ x0 gt _ _ _ (he.below X12) (RaidR.below (Below.refl _ _) Db_12.out.1 _ _ Db_12.out.2.r)).mono ?_
    rintro e w13 ⟨Ah, ch, Sh_, rl', rfl, hRA, hRT, hb⟩
    obtain rfl := HRA.out.one hRA; clear hRA
    obtain ⟨loh, hloh⟩ : ∃ x, x = w12.heap.size := ⟨_, rfl⟩
    have hr : IntsN w13 loh w13.heap.size [.slice Ah rl.length ch] (rl.map toD) := by have hsl := hRT.slice; rw [hloh]; exact ⟨Ah, ch, by simp, by simpa using hsl.1, by simpa using hsl.2⟩
    clear hRT
    have ozh_16 : w.heap.size < loh := by have := l12_0; omega
    have ozh_17 : w4.heap.size < loh := by have := l12_1; omega
    have ozh_18 : hiw ≤ loh := by have := Dw_12.out.1; omega
    have ozh_19 : hib ≤ loh := by have := Db_12.out.1; omega
    have ozh_20 : hig ≤ loh := by have := Mg_12.out.1; omega
    have ozh_w : w.heap.size ≤ loh := by have := X12.size; omega
    clear hloh
    have S13 : Below w12.heap.size w12 w13 := hb
    have c13_0 : w13.cell? ⟨w.heap.size, 0, none⟩ = some (.slice Ap0 np0 cp0) := (S13.cell l12_0).trans c12_0
    have c13_1 : w13.cell? ⟨w4.heap.size, 0, none⟩ = some (.slice Ax0 nx0 cx0) := (S13.cell l12_1).trans c12_1
    have l13_0 : w.heap.size < w13.heap.size := World.block_lt_of_cell? _ _ c13_0
    have l13_1 : w4.heap.size < w13.heap.size := World.block_lt_of_cell? _ _ c13_1
    have X13 : Below w.heap.size w w13 := X12.trans (S13.mono X12.size)
    have Dw_13 : Hid (hiw ≤ w13.heap.size ∧ IntsN w13 low hiw [.slice Aw rl.length cw] (rl.map toD)) := Lib.hid ⟨Nat.le_trans Dw_12.out.1 S13.size, IntsN.below S13 Dw_12.out.1 _ _ Dw_12.out.2⟩
    have Db_13 : Hid (hib ≤ w13.heap.size ∧ RaidN w13 lob hib [.slice Ab0 nb0 cb0] x0) := Lib.hid ⟨Nat.le_trans Db_12.out.1 S13.size, RaidN.below S13 Db_12.out.1 _ _ Db_12.out.2⟩
    have Mg_13 : Hid (hig ≤ w13.heap.size ∧ MarkedAt w13 KIntentS (1) Ag (rl.length * 8)) := Lib.hid ⟨Nat.le_trans Mg_12.out.1 S13.size, (Mg_12.out.2).below S13⟩
    clear c12_0 c12_1 l12_0 l12_1 Dw_12 Db_12 Mg_12 X12 hb
    clear S13
    obtain ⟨hih, hhih⟩ : ∃ x, x = w13.heap.size := ⟨_, rfl⟩
    rw [← hhih] at hr
    have hhlh : hih ≤ w13.heap.size := Nat.le_of_eq hhih; clear hhih
    have Dh_13 := Lib.hid (And.intro hhlh hr); clear hr hhlh
    go_wp2_with fail
    refine (eqIntentS_yes _ _ _ _ _ _ (rl.map toD) _ _ _ _ _ (IntsN.below (Below.refl _ _) Dh_13.out.1 _ _ Dh_13.out.2).p.1 (IntsN.below (Below.refl _ _) Dw_13.out.1 _ _ Dw_13.out.2).p.1).mono ?_
    rintro e w14 ⟨rfl, hb⟩
    have S14 : Below w13.heap.size w13 w14 := hb
    have c14_0 : w14.cell? ⟨w.heap.size, 0, none⟩ = some (.slice Ap0 np0 cp0) := (S14.cell l13_0).trans c13_0
    have c14_1 : w14.cell? ⟨w4.heap.size, 0, none⟩ = some (.slice Ax0 nx0 cx0) := (S14.cell l13_1).trans c13_1
    have l14_0 : w.heap.size < w14.heap.size := World.block_lt_of_cell? _ _ c14_0
    have l14_1 : w4.heap.size < w14.heap.size := World.block_lt_of_cell? _ _ c14_1
    have X14 : Below w.heap.size w w14 := X13.trans (S14.mono X13.size)
    have Dw_14 : Hid (hiw ≤ w14.heap.size ∧ IntsN w14 low hiw [.slice Aw rl.length cw] (rl.map toD)) := Lib.hid ⟨Nat.le_trans Dw_13.out.1 S14.size, IntsN.below S14 Dw_13.out.1 _ _ Dw_13.out.2⟩
    have Db_14 : Hid (hib ≤ w14.heap.size ∧ RaidN w14 lob hib [.slice Ab0 nb0 cb0] x0) := Lib.hid ⟨Nat.le_trans Db_13.out.1 S14.size, RaidN.below S14 Db_13.out.1 _ _ Db_13.out.2⟩
    have Dh_14 : Hid (hih ≤ w14.heap.size ∧ IntsN w14 loh hih [.slice Ah rl.length ch] (rl.map toD)) := Lib.hid ⟨Nat.le_trans Dh_13.out.1 S14.size, IntsN.below S14 Dh_13.out.1 _ _ Dh_13.out.2⟩
    have Mg_14 : Hid (hig ≤ w14.heap.size ∧ MarkedAt w14 KIntentS (1) Ag (rl.length * 8)) := Lib.hid ⟨Nat.le_trans Mg_13.out.1 S14.size, (Mg_13.out.2).below S14⟩
    clear c13_0 c13_1 l13_0 l13_1 Dw_13 Db_13 Dh_13 Mg_13 X13 hb
    clear S14
    go_wp2_with fail
    refine (heldIntentS_any Ag rl.length cg 1 _ (Mg_14.out.2.below (Below.refl _ _)) (by omega) (by omega)).mono ?_
    rintro e w15 ⟨rfl, hb⟩
    have S15 : Below w14.heap.size w14 w15 := hb
    have c15_0 : w15.cell? ⟨w.heap.size, 0, none⟩ = some (.slice Ap0 np0 cp0) := (S15.cell l14_0).trans c14_0
    have c15_1 : w15.cell? ⟨w4.heap.size, 0, none⟩ = some (.slice Ax0 nx0 cx0) := (S15.cell l14_1).trans c14_1
    have l15_0 : w.heap.size < w15.heap.size := World.block_lt_of_cell? _ _ c15_0
    have l15_1 : w4.heap.size < w15.heap.size := World.block_lt_of_cell? _ _ c15_1
    have X15 : Below w.heap.size w w15 := X14.trans (S15.mono X14.size)
    have Dw_15 : Hid (hiw ≤ w15.heap.size ∧ IntsN w15 low hiw [.slice Aw rl.length cw] (rl.map toD)) := Lib.hid ⟨Nat.le_trans Dw_14.out.1 S15.size, IntsN.below S15 Dw_14.out.1 _ _ Dw_14.out.2⟩
    have Db_15 : Hid (hib ≤ w15.heap.size ∧ RaidN w15 lob hib [.slice Ab0 nb0 cb0] x0) := Lib.hid ⟨Nat.le_trans Db_14.out.1 S15.size, RaidN.below S15 Db_14.out.1 _ _ Db_14.out.2⟩
    have Dh_15 : Hid (hih ≤ w15.heap.size ∧ IntsN w15 loh hih [.slice Ah rl.length ch] (rl.map toD)) := Lib.hid ⟨Nat.le_trans Dh_14.out.1 S15.size, IntsN.below S15 Dh_14.out.1 _ _ Dh_14.out.2⟩
    have Mg_15 : Hid (hig ≤ w15.heap.size ∧ MarkedAt w15 KIntentS (1) Ag (rl.length * 8)) := Lib.hid ⟨Nat.le_trans Mg_14.out.1 S15.size, (Mg_14.out.2).below S15⟩
    clear c14_0 c14_1 l14_0 l14_1 Dw_14 Db_14 Dh_14 Mg_14 X14 hb
    clear S15
    have dk : decide ((1 : Int) + ((rl.length : Nat) : Int) * 8 < 0) = false := by simp <;> omega
    have dk2 : ¬ ((1 : Int) + ((rl.length : Nat) : Int) * 8 < 0) := by omega
    have dk3 : ((1 : Int) + ((rl.length : Nat) : Int) * 8 != (1 : Int) + ((rl.length : Nat) : Int) * 8) = false := by simp
    go_wp2_with fail
    go_ret
    exact ⟨rfl, X15⟩
end Go.Proofs.YtggdjiklgakfnaaGreatDoor
