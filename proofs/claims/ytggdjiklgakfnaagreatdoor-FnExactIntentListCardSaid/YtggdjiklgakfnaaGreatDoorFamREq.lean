/- eq at Raid: equal data are told equal. No condition. -/
import Derived.Test.YtggdjiklgakfnaaGreatDoorTypes
import Derived.Test.YtggdjiklgakfnaaGreatDoorChecked
namespace Go.Proofs.YtggdjiklgakfnaaGreatDoor
set_option linter.unusedVariables false
set_option linter.unusedSimpArgs false
set_option linter.unnecessarySimpa false
section
open Go.RowKit

set_option maxRecDepth 100000 in
set_option maxHeartbeats 2000000 in
theorem eqStringS_yes (A B : Option Addr) (n c m d : Nat) (xs : List ByteArray) (w : World) (lo hi lo' hi' : Nat) (h : SliceR StrR 1 w lo hi A n c xs) (h' : SliceR StrR 1 w lo' hi' B m d xs) :
    Calls Tryz.prog 83 #[.slice A n c, .slice B m d] w fun e w' => e = .returned (.bool true) ∧ Below w.heap.size w w' := by
  obtain rfl : m = n := by have := h.len; have := h'.len; omega
  have hn := h.max
  have hl := Lib.hid h.len
  have H := Lib.hid h
  have H' := Lib.hid h'
  clear h h'
  go_enter Tryz.func83, Tryz.ntmps83
  go_wp2_with fail
  go_loopw [5] (fun i wr => ∃ k : Nat, k ≤ m ∧ i = .int .i64 k ∧ Below w.heap.size w wr) (fun i _ => m - (intOf i).toNat)
  case atStart => exact ⟨0, Nat.zero_le _, rfl, Below.refl _ _⟩
  case round =>
    obtain ⟨k, hk, rfl, hB⟩ := hrel
    by_cases hlt : k < m
    · obtain ⟨x, hx⟩ : ∃ x, xs[k]? = some x := ⟨xs[k]'(by rw [hl.out]; exact hlt), List.getElem?_eq_getElem _⟩
      have g := SliceR.below H.out hB (StrR.below hB H.out.lo_le)
      have g' := SliceR.below H'.out hB (StrR.below hB H'.out.lo_le)
      obtain ⟨b, off, rfl, _, _, bl, hc⟩ := g.at_ (by omega)
      obtain ⟨b', off', rfl, _, _, bl', hc'⟩ := g'.at_ (by omega)
      obtain ⟨cs, hcl, hcc, hr⟩ := hc k x hx
      obtain ⟨cs', hcl', hcc', hr'⟩ := hc' k x hx
      clear hc hc' hx g g'
      have G := Lib.hid hr
      have G' := Lib.hid hr'
      obtain ⟨rfl, _⟩ := hr; obtain ⟨rfl, _⟩ := hr'
      clear G G'
      have hr := 0; have hr' := 0
      have q0 := hcc 0 _ rfl
      have r0 := hcc' 0 _ rfl
      simp only [Nat.add_zero, Nat.mul_one] at q0 r0
      clear hcc hcc' hcl hcl' hr hr'
      have hhi := H.out.lo_le
      have hhi' := H'.out.lo_le
      have hi1 : hi ≤ wr.heap.size := Nat.le_trans hhi hB.size
      have hi2 : hi' ≤ wr.heap.size := Nat.le_trans hhi' hB.size
      clear hhi hhi'
      have k0 : (0 : Int) ≤ (k : Int) := by omega
      have k1 : (k : Int) < (m : Int) := by omega
      go_wp2_with fail
      apply wp_region_rg (by kernel_rfl) (false :: false :: false :: false :: false :: false :: false :: false :: false :: false :: false :: false :: false :: false :: false :: false :: false :: true :: true :: true :: true :: true :: true :: true :: true :: true :: []) [some 17, some 18, some 19, some 20, some 21, some 22, some 23, some 24, some 25] [[], [], [0, 1], [2], [], [], [4, 5], [6], [3, 7]] [StP.is _, StP.is _, StP.is _, StP.is _, StP.is _, StP.is _, StP.is _, StP.is _, StP.is _] (by kernel_rfl)
      case hobs =>
        refine ⟨fun y w' hS hF K hK => ?_, ?_⟩
        · skip -- 0: move
          simp only [fillL, cond_true, cond_false, List.getD_cons_zero, List.getD_cons_succ, StP.is, Act.put, List.setIfInBounds_toArray, List.set_cons_zero, List.set_cons_succ, Nat.reduceAdd] at hK ⊢
          refine rg_yes (by kernel_rfl) ?_
          clear hF
          go_simp
          exact hK _ _ (Ext.refl _) rfl
        refine ⟨fun y w' hS hF K hK => ?_, ?_⟩
        · skip -- 1: move
          simp only [fillL, cond_true, cond_false, List.getD_cons_zero, List.getD_cons_succ, StP.is, Act.put, List.setIfInBounds_toArray, List.set_cons_zero, List.set_cons_succ, Nat.reduceAdd] at hK ⊢
          refine rg_yes (by kernel_rfl) ?_
          clear hF
          go_simp
          exact hK _ _ (Ext.refl _) rfl
        refine ⟨fun y w' hS hF K hK => ?_, ?_⟩
        · skip -- 2: indexAddr
          have e17 : y 17 = _ := hF.1
          have e18 : y 18 = _ := hF.2.1
          simp only [fillL, cond_true, cond_false, List.getD_cons_zero, List.getD_cons_succ, StP.is, Act.put, List.setIfInBounds_toArray, List.set_cons_zero, List.set_cons_succ, Nat.reduceAdd, e17, e18] at hK ⊢
          refine rg_yes (by kernel_rfl) ?_
          clear e17 e18
          clear hF
          go_simp
          exact hK _ _ (Ext.refl _) rfl
        refine ⟨fun y w' hS hF K hK => ?_, ?_⟩
        · skip -- 3: load
          have e19 : y 19 = _ := hF.1
          simp only [fillL, cond_true, cond_false, List.getD_cons_zero, List.getD_cons_succ, StP.is, Act.put, List.setIfInBounds_toArray, List.set_cons_zero, List.set_cons_succ, Nat.reduceAdd, e19] at hK ⊢
          refine rg_yes (by kernel_rfl) ?_
          have qx0_ := (Below.cell hS bl).trans q0
          have qx1_ := (Below.cell hS bl').trans r0
          clear e19
          clear hF
          go_simp
          exact hK _ _ (Ext.refl _) rfl
        refine ⟨fun y w' hS hF K hK => ?_, ?_⟩
        · skip -- 4: move
          simp only [fillL, cond_true, cond_false, List.getD_cons_zero, List.getD_cons_succ, StP.is, Act.put, List.setIfInBounds_toArray, List.set_cons_zero, List.set_cons_succ, Nat.reduceAdd] at hK ⊢
          refine rg_yes (by kernel_rfl) ?_
          clear hF
          go_simp
          exact hK _ _ (Ext.refl _) rfl
        refine ⟨fun y w' hS hF K hK => ?_, ?_⟩
        · skip -- 5: move
          simp only [fillL, cond_true, cond_false, List.getD_cons_zero, List.getD_cons_succ, StP.is, Act.put, List.setIfInBounds_toArray, List.set_cons_zero, List.set_cons_succ, Nat.reduceAdd] at hK ⊢
          refine rg_yes (by kernel_rfl) ?_
          clear hF
          go_simp
          exact hK _ _ (Ext.refl _) rfl
        refine ⟨fun y w' hS hF K hK => ?_, ?_⟩
        · skip -- 6: indexAddr
          have e21 : y 21 = _ := hF.1
          have e22 : y 22 = _ := hF.2.1
          simp only [fillL, cond_true, cond_false, List.getD_cons_zero, List.getD_cons_succ, StP.is, Act.put, List.setIfInBounds_toArray, List.set_cons_zero, List.set_cons_succ, Nat.reduceAdd, e21, e22] at hK ⊢
          refine rg_yes (by kernel_rfl) ?_
          clear e21 e22
          clear hF
          go_simp
          exact hK _ _ (Ext.refl _) rfl
        refine ⟨fun y w' hS hF K hK => ?_, ?_⟩
        · skip -- 7: load
          have e23 : y 23 = _ := hF.1
          simp only [fillL, cond_true, cond_false, List.getD_cons_zero, List.getD_cons_succ, StP.is, Act.put, List.setIfInBounds_toArray, List.set_cons_zero, List.set_cons_succ, Nat.reduceAdd, e23] at hK ⊢
          refine rg_yes (by kernel_rfl) ?_
          have qx0_ := (Below.cell hS bl).trans q0
          have qx1_ := (Below.cell hS bl').trans r0
          clear e23
          clear hF
          go_simp
          exact hK _ _ (Ext.refl _) rfl
        refine ⟨fun y w' hS hF K hK => ?_, ?_⟩
        · skip -- 8: binOp
          have e20 : y 20 = _ := hF.1
          have e24 : y 24 = _ := hF.2.1
          simp only [fillL, cond_true, cond_false, List.getD_cons_zero, List.getD_cons_succ, StP.is, Act.put, List.setIfInBounds_toArray, List.set_cons_zero, List.set_cons_succ, Nat.reduceAdd, e20, e24] at hK ⊢
          refine rg_yes (by kernel_rfl) ?_
          clear e20 e24
          clear hF
          go_simp
          exact hK _ _ (Ext.refl _) rfl
        trivial
      case hend =>
        intro y w2 hX hF
        have e25 : y 25 = _ := hF.2.2.2.2.2.2.2.2.1
        clear hF
        simp only [fillL, cond_true, cond_false, Nat.reduceAdd, e25]
        clear e25
        have hB2 : Below w.heap.size w w2 := hB.trans (Below.mono hX hB.size)
        clear hX hB
        go_wp2_with fail
        go_roundw
        case rel => exact ⟨k + 1, by omega, by go_num, hB2⟩
        case measure => simp [intOf]; omega
    · go_wp2_with fail
      go_ret
      exact ⟨rfl, hB⟩


set_option maxHeartbeats 1000000 in
theorem eqWait_yes (cs cs' : List Value) (x : WaitD) (w : World) (lo hi lo' hi' : Nat) (h : WaitR w lo hi cs x) (h' : WaitR w lo' hi' cs' x) :
    Calls Tryz.prog 105 #[.agg cs.toArray, .agg cs'.toArray] w fun e w' => e = .returned (.bool true) ∧ Below w.heap.size w w' := by
  obtain ⟨at_, text_⟩ := x
  obtain ⟨rfl, ha0⟩ := h
  obtain ⟨rfl, hb0⟩ := h'
  show Calls Tryz.prog 105 #[.agg #[.int .i64 at_, .string text_], .agg #[.int .i64 at_, .string text_]] w _
  have Hha0 := Lib.hid ha0
  clear ha0
  have Hhb0 := Lib.hid hb0
  clear hb0
  go_enter Tryz.func105, Tryz.ntmps105
  go_wp2_with fail
  go_ret
  exact ⟨rfl, bel2⟩

set_option maxRecDepth 100000 in
set_option maxHeartbeats 2000000 in
theorem eqWaitS_yes (A B : Option Addr) (n c m d : Nat) (xs : List WaitD) (w : World) (lo hi lo' hi' : Nat) (h : SliceR WaitR 2 w lo hi A n c xs) (h' : SliceR WaitR 2 w lo' hi' B m d xs) :
    Calls Tryz.prog 84 #[.slice A n c, .slice B m d] w fun e w' => e = .returned (.bool true) ∧ Below w.heap.size w w' := by
  obtain rfl : m = n := by have := h.len; have := h'.len; omega
  have hn := h.max
  have hl := Lib.hid h.len
  have H := Lib.hid h
  have H' := Lib.hid h'
  clear h h'
  go_enter Tryz.func84, Tryz.ntmps84
  go_wp2_with fail
  go_loopw [5] (fun i wr => ∃ k : Nat, k ≤ m ∧ i = .int .i64 k ∧ Below w.heap.size w wr) (fun i _ => m - (intOf i).toNat)
  case atStart => exact ⟨0, Nat.zero_le _, rfl, Below.refl _ _⟩
  case round =>
    obtain ⟨k, hk, rfl, hB⟩ := hrel
    by_cases hlt : k < m
    · obtain ⟨x, hx⟩ : ∃ x, xs[k]? = some x := ⟨xs[k]'(by rw [hl.out]; exact hlt), List.getElem?_eq_getElem _⟩
      have g := SliceR.below H.out hB (WaitR.below hB H.out.lo_le)
      have g' := SliceR.below H'.out hB (WaitR.below hB H'.out.lo_le)
      obtain ⟨b, off, rfl, _, _, bl, hc⟩ := g.at_ (by omega)
      obtain ⟨b', off', rfl, _, _, bl', hc'⟩ := g'.at_ (by omega)
      obtain ⟨cs, hcl, hcc, hr⟩ := hc k x hx
      obtain ⟨cs', hcl', hcc', hr'⟩ := hc' k x hx
      clear hc hc' hx g g'
      have G := Lib.hid hr
      have G' := Lib.hid hr'
      obtain ⟨v0, v1, rfl⟩ := list2 hcl
      obtain ⟨u0, u1, rfl⟩ := list2 hcl'
      have q0 := hcc 0 _ rfl
      have r0 := hcc' 0 _ rfl
      have q1 := hcc 1 _ rfl
      have r1 := hcc' 1 _ rfl
      simp only [Nat.add_zero] at q0 r0
      clear hcc hcc' hcl hcl' hr hr'
      have hhi := H.out.lo_le
      have hhi' := H'.out.lo_le
      have hi1 : hi ≤ wr.heap.size := Nat.le_trans hhi hB.size
      have hi2 : hi' ≤ wr.heap.size := Nat.le_trans hhi' hB.size
      clear hhi hhi'
      have k0 : (0 : Int) ≤ (k : Int) := by omega
      have k1 : (k : Int) < (m : Int) := by omega
      go_wp2_with fail
      apply wp_region_rg (by kernel_rfl) (false :: false :: false :: false :: false :: false :: false :: false :: false :: false :: false :: false :: false :: false :: false :: false :: false :: true :: true :: true :: true :: true :: true :: true :: true :: true :: true :: []) [some 17, some 18, some 19, some 20, some 21, some 22, some 23, some 24, some 25, some 26] [[], [], [0, 1], [2], [], [], [4, 5], [6], [3, 7], [8]] [StP.is _, StP.is _, StP.is _, StP.is _, StP.is _, StP.is _, StP.is _, StP.is _, StP.is _, StP.is _] (by kernel_rfl)
      case hobs =>
        refine ⟨fun y w' hS hF K hK => ?_, ?_⟩
        · skip -- 0: move
          simp only [fillL, cond_true, cond_false, List.getD_cons_zero, List.getD_cons_succ, StP.is, Act.put, List.setIfInBounds_toArray, List.set_cons_zero, List.set_cons_succ, Nat.reduceAdd] at hK ⊢
          refine rg_yes (by kernel_rfl) ?_
          clear hF
          go_simp
          exact hK _ _ (Ext.refl _) rfl
        refine ⟨fun y w' hS hF K hK => ?_, ?_⟩
        · skip -- 1: move
          simp only [fillL, cond_true, cond_false, List.getD_cons_zero, List.getD_cons_succ, StP.is, Act.put, List.setIfInBounds_toArray, List.set_cons_zero, List.set_cons_succ, Nat.reduceAdd] at hK ⊢
          refine rg_yes (by kernel_rfl) ?_
          clear hF
          go_simp
          exact hK _ _ (Ext.refl _) rfl
        refine ⟨fun y w' hS hF K hK => ?_, ?_⟩
        · skip -- 2: indexAddr
          have e17 : y 17 = _ := hF.1
          have e18 : y 18 = _ := hF.2.1
          simp only [fillL, cond_true, cond_false, List.getD_cons_zero, List.getD_cons_succ, StP.is, Act.put, List.setIfInBounds_toArray, List.set_cons_zero, List.set_cons_succ, Nat.reduceAdd, e17, e18] at hK ⊢
          refine rg_yes (by kernel_rfl) ?_
          clear e17 e18
          clear hF
          go_simp
          exact hK _ _ (Ext.refl _) rfl
        refine ⟨fun y w' hS hF K hK => ?_, ?_⟩
        · skip -- 3: load
          have e19 : y 19 = _ := hF.1
          simp only [fillL, cond_true, cond_false, List.getD_cons_zero, List.getD_cons_succ, StP.is, Act.put, List.setIfInBounds_toArray, List.set_cons_zero, List.set_cons_succ, Nat.reduceAdd, e19] at hK ⊢
          refine rg_yes (by kernel_rfl) ?_
          have qx0_ := (Below.cell hS bl).trans q0
          have qx1_ := (Below.cell hS bl).trans q1
          have qx2_ := (Below.cell hS bl').trans r0
          have qx3_ := (Below.cell hS bl').trans r1
          clear e19
          clear hF
          go_simp
          exact hK _ _ (Ext.refl _) rfl
        refine ⟨fun y w' hS hF K hK => ?_, ?_⟩
        · skip -- 4: move
          simp only [fillL, cond_true, cond_false, List.getD_cons_zero, List.getD_cons_succ, StP.is, Act.put, List.setIfInBounds_toArray, List.set_cons_zero, List.set_cons_succ, Nat.reduceAdd] at hK ⊢
          refine rg_yes (by kernel_rfl) ?_
          clear hF
          go_simp
          exact hK _ _ (Ext.refl _) rfl
        refine ⟨fun y w' hS hF K hK => ?_, ?_⟩
        · skip -- 5: move
          simp only [fillL, cond_true, cond_false, List.getD_cons_zero, List.getD_cons_succ, StP.is, Act.put, List.setIfInBounds_toArray, List.set_cons_zero, List.set_cons_succ, Nat.reduceAdd] at hK ⊢
          refine rg_yes (by kernel_rfl) ?_
          clear hF
          go_simp
          exact hK _ _ (Ext.refl _) rfl
        refine ⟨fun y w' hS hF K hK => ?_, ?_⟩
        · skip -- 6: indexAddr
          have e21 : y 21 = _ := hF.1
          have e22 : y 22 = _ := hF.2.1
          simp only [fillL, cond_true, cond_false, List.getD_cons_zero, List.getD_cons_succ, StP.is, Act.put, List.setIfInBounds_toArray, List.set_cons_zero, List.set_cons_succ, Nat.reduceAdd, e21, e22] at hK ⊢
          refine rg_yes (by kernel_rfl) ?_
          clear e21 e22
          clear hF
          go_simp
          exact hK _ _ (Ext.refl _) rfl
        refine ⟨fun y w' hS hF K hK => ?_, ?_⟩
        · skip -- 7: load
          have e23 : y 23 = _ := hF.1
          simp only [fillL, cond_true, cond_false, List.getD_cons_zero, List.getD_cons_succ, StP.is, Act.put, List.setIfInBounds_toArray, List.set_cons_zero, List.set_cons_succ, Nat.reduceAdd, e23] at hK ⊢
          refine rg_yes (by kernel_rfl) ?_
          have qx0_ := (Below.cell hS bl).trans q0
          have qx1_ := (Below.cell hS bl).trans q1
          have qx2_ := (Below.cell hS bl').trans r0
          have qx3_ := (Below.cell hS bl').trans r1
          clear e23
          clear hF
          go_simp
          exact hK _ _ (Ext.refl _) rfl
        refine ⟨fun y w' hS hF K hK => ?_, ?_⟩
        · skip -- 8: call
          have e20 : y 20 = _ := hF.1
          have e24 : y 24 = _ := hF.2.1
          simp only [fillL, cond_true, cond_false, List.getD_cons_zero, List.getD_cons_succ, StP.is, Act.put, List.setIfInBounds_toArray, List.set_cons_zero, List.set_cons_succ, Nat.reduceAdd, e20, e24] at hK ⊢
          refine rg_yes (by kernel_rfl) ?_
          clear e20 e24
          clear hF
          go_simp
          go_at_call 105
          refine (eqWait_yes _ _ x _ _ _ _ _ (WaitR.below hS hi1 _ _ G.out) (WaitR.below hS hi2 _ _ G'.out)).mono ?_
          rintro e w'' ⟨rfl, hb⟩
          exact hK _ _ hb rfl
        refine ⟨fun y w' hS hF K hK => ?_, ?_⟩
        · skip -- 9: unOp
          have e25 : y 25 = _ := hF.1
          simp only [fillL, cond_true, cond_false, List.getD_cons_zero, List.getD_cons_succ, StP.is, Act.put, List.setIfInBounds_toArray, List.set_cons_zero, List.set_cons_succ, Nat.reduceAdd, e25] at hK ⊢
          refine rg_yes (by kernel_rfl) ?_
          clear e25
          clear hF
          go_simp
          exact hK _ _ (Ext.refl _) rfl
        trivial
      case hend =>
        intro y w2 hX hF
        have e26 : y 26 = _ := hF.2.2.2.2.2.2.2.2.2.1
        clear hF
        simp only [fillL, cond_true, cond_false, Nat.reduceAdd, e26]
        clear e26
        have hB2 : Below w.heap.size w w2 := hB.trans (Below.mono hX hB.size)
        clear hX hB
        go_wp2_with fail
        go_roundw
        case rel => exact ⟨k + 1, by omega, by go_num, hB2⟩
        case measure => simp [intOf]; omega
    · go_wp2_with fail
      go_ret
      exact ⟨rfl, hB⟩

set_option maxHeartbeats 1000000 in
theorem eqDisk_yes (cs cs' : List Value) (x : DiskD) (w : World) (lo hi lo' hi' : Nat) (h : DiskR w lo hi cs x) (h' : DiskR w lo' hi' cs' x) :
    Calls Tryz.prog 52 #[.agg cs.toArray, .agg cs'.toArray] w fun e w' => e = .returned (.bool true) ∧ Below w.heap.size w w' := by
  obtain ⟨cells_, waits_, gone_⟩ := x
  obtain ⟨Aa0, na0, ca0, Aa1, na1, ca1, rfl, ha0, ha1⟩ := h
  obtain ⟨Ab0, nb0, cb0, Ab1, nb1, cb1, rfl, hb0, hb1⟩ := h'
  show Calls Tryz.prog 52 #[.agg #[.slice Aa0 na0 ca0, .slice Aa1 na1 ca1, .bool gone_], .agg #[.slice Ab0 nb0 cb0, .slice Ab1 nb1 cb1, .bool gone_]] w _
  have Hha0 := Lib.hid ha0
  clear ha0
  have Hha1 := Lib.hid ha1
  clear ha1
  have Hhb0 := Lib.hid hb0
  clear hb0
  have Hhb1 := Lib.hid hb1
  clear hb1
  go_enter Tryz.func52, Tryz.ntmps52
  go_wp2_with fail
  refine (eqStringS_yes _ _ _ _ _ _ cells_ _ _ _ _ _ (SliceR.below Hha0.out bel2 (StrR.below bel2 Hha0.out.lo_le)) (SliceR.below Hhb0.out bel2 (StrR.below bel2 Hhb0.out.lo_le))).mono ?_
  rintro e w1 ⟨rfl, hb1⟩
  have X1 : Below w.heap.size w w1 := bel2.trans (hb1.mono (by first | exact bel2.size | (simp <;> omega)))
  have c1_0_0 : w1.cell? ⟨w.heap.size, 0, none⟩ = some (.slice Aa0 na0 ca0) := (hb1.cell (by simp <;> omega)).trans (by simp [go_sem])
  have c1_0_1 : w1.cell? ⟨w.heap.size, 1, none⟩ = some (.slice Aa1 na1 ca1) := (hb1.cell (by simp <;> omega)).trans (by simp [go_sem])
  have c1_0_2 : w1.cell? ⟨w.heap.size, 2, none⟩ = some (.bool gone_) := (hb1.cell (by simp <;> omega)).trans (by simp [go_sem])
  have c1_1_0 : w1.cell? ⟨w.heap.size + 1, 0, none⟩ = some (.slice Ab0 nb0 cb0) := (hb1.cell (by simp <;> omega)).trans (by simp [go_sem])
  have c1_1_1 : w1.cell? ⟨w.heap.size + 1, 1, none⟩ = some (.slice Ab1 nb1 cb1) := (hb1.cell (by simp <;> omega)).trans (by simp [go_sem])
  have c1_1_2 : w1.cell? ⟨w.heap.size + 1, 2, none⟩ = some (.bool gone_) := (hb1.cell (by simp <;> omega)).trans (by simp [go_sem])
  clear hb1
  go_wp2_with fail
  refine (eqWaitS_yes _ _ _ _ _ _ waits_ _ _ _ _ _ (SliceR.below Hha1.out X1 (WaitR.below X1 Hha1.out.lo_le)) (SliceR.below Hhb1.out X1 (WaitR.below X1 Hhb1.out.lo_le))).mono ?_
  rintro e w2 ⟨rfl, hb2⟩
  have X2 : Below w.heap.size w w2 := X1.trans (hb2.mono (by first | exact X1.size | (simp <;> omega)))
  have c2_0_0 : w2.cell? ⟨w.heap.size, 0, none⟩ = some (.slice Aa0 na0 ca0) := (hb2.cell (World.block_lt_of_cell? _ _ c1_0_0)).trans c1_0_0
  have c2_0_1 : w2.cell? ⟨w.heap.size, 1, none⟩ = some (.slice Aa1 na1 ca1) := (hb2.cell (World.block_lt_of_cell? _ _ c1_0_1)).trans c1_0_1
  have c2_0_2 : w2.cell? ⟨w.heap.size, 2, none⟩ = some (.bool gone_) := (hb2.cell (World.block_lt_of_cell? _ _ c1_0_2)).trans c1_0_2
  have c2_1_0 : w2.cell? ⟨w.heap.size + 1, 0, none⟩ = some (.slice Ab0 nb0 cb0) := (hb2.cell (World.block_lt_of_cell? _ _ c1_1_0)).trans c1_1_0
  have c2_1_1 : w2.cell? ⟨w.heap.size + 1, 1, none⟩ = some (.slice Ab1 nb1 cb1) := (hb2.cell (World.block_lt_of_cell? _ _ c1_1_1)).trans c1_1_1
  have c2_1_2 : w2.cell? ⟨w.heap.size + 1, 2, none⟩ = some (.bool gone_) := (hb2.cell (World.block_lt_of_cell? _ _ c1_1_2)).trans c1_1_2
  clear c1_0_0 c1_0_1 c1_0_2 c1_1_0 c1_1_1 c1_1_2
  clear hb2 X1
  go_wp2_with fail
  go_ret
  exact ⟨rfl, X2⟩
end
section
open Go.RowKit

set_option maxRecDepth 100000 in
set_option maxHeartbeats 2000000 in
theorem eqDiskS_yes (A B : Option Addr) (n c m d : Nat) (xs : List DiskD) (w : World) (lo hi lo' hi' : Nat) (h : SliceR DiskR 3 w lo hi A n c xs) (h' : SliceR DiskR 3 w lo' hi' B m d xs) :
    Calls Tryz.prog 30 #[.slice A n c, .slice B m d] w fun e w' => e = .returned (.bool true) ∧ Below w.heap.size w w' := by
  obtain rfl : m = n := by have := h.len; have := h'.len; omega
  have hn := h.max
  have hl := Lib.hid h.len
  have H := Lib.hid h
  have H' := Lib.hid h'
  clear h h'
  go_enter Tryz.func30, Tryz.ntmps30
  go_wp2_with fail
  go_loopw [5] (fun i wr => ∃ k : Nat, k ≤ m ∧ i = .int .i64 k ∧ Below w.heap.size w wr) (fun i _ => m - (intOf i).toNat)
  case atStart => exact ⟨0, Nat.zero_le _, rfl, Below.refl _ _⟩
  case round =>
    obtain ⟨k, hk, rfl, hB⟩ := hrel
    by_cases hlt : k < m
    · obtain ⟨x, hx⟩ : ∃ x, xs[k]? = some x := ⟨xs[k]'(by rw [hl.out]; exact hlt), List.getElem?_eq_getElem _⟩
      have g := SliceR.below H.out hB (DiskR.below hB H.out.lo_le)
      have g' := SliceR.below H'.out hB (DiskR.below hB H'.out.lo_le)
      obtain ⟨b, off, rfl, _, _, bl, hc⟩ := g.at_ (by omega)
      obtain ⟨b', off', rfl, _, _, bl', hc'⟩ := g'.at_ (by omega)
      obtain ⟨cs, hcl, hcc, hr⟩ := hc k x hx
      obtain ⟨cs', hcl', hcc', hr'⟩ := hc' k x hx
      clear hc hc' hx g g'
      have G := Lib.hid hr
      have G' := Lib.hid hr'
      obtain ⟨v0, v1, v2, rfl⟩ := list3 hcl
      obtain ⟨u0, u1, u2, rfl⟩ := list3 hcl'
      have q0 := hcc 0 _ rfl
      have r0 := hcc' 0 _ rfl
      have q1 := hcc 1 _ rfl
      have r1 := hcc' 1 _ rfl
      have q2 := hcc 2 _ rfl
      have r2 := hcc' 2 _ rfl
      simp only [Nat.add_zero] at q0 r0
      clear hcc hcc' hcl hcl' hr hr'
      have hhi := H.out.lo_le
      have hhi' := H'.out.lo_le
      have hi1 : hi ≤ wr.heap.size := Nat.le_trans hhi hB.size
      have hi2 : hi' ≤ wr.heap.size := Nat.le_trans hhi' hB.size
      clear hhi hhi'
      have k0 : (0 : Int) ≤ (k : Int) := by omega
      have k1 : (k : Int) < (m : Int) := by omega
      go_wp2_with fail
      apply wp_region_rg (by kernel_rfl) (false :: false :: false :: false :: false :: false :: false :: false :: false :: false :: false :: false :: false :: false :: false :: false :: false :: true :: true :: true :: true :: true :: true :: true :: true :: true :: true :: []) [some 17, some 18, some 19, some 20, some 21, some 22, some 23, some 24, some 25, some 26] [[], [], [0, 1], [2], [], [], [4, 5], [6], [3, 7], [8]] [StP.is _, StP.is _, StP.is _, StP.is _, StP.is _, StP.is _, StP.is _, StP.is _, StP.is _, StP.is _] (by kernel_rfl)
      case hobs =>
        refine ⟨fun y w' hS hF K hK => ?_, ?_⟩
        · skip -- 0: move
          simp only [fillL, cond_true, cond_false, List.getD_cons_zero, List.getD_cons_succ, StP.is, Act.put, List.setIfInBounds_toArray, List.set_cons_zero, List.set_cons_succ, Nat.reduceAdd] at hK ⊢
          refine rg_yes (by kernel_rfl) ?_
          clear hF
          go_simp
          exact hK _ _ (Ext.refl _) rfl
        refine ⟨fun y w' hS hF K hK => ?_, ?_⟩
        · skip -- 1: move
          simp only [fillL, cond_true, cond_false, List.getD_cons_zero, List.getD_cons_succ, StP.is, Act.put, List.setIfInBounds_toArray, List.set_cons_zero, List.set_cons_succ, Nat.reduceAdd] at hK ⊢
          refine rg_yes (by kernel_rfl) ?_
          clear hF
          go_simp
          exact hK _ _ (Ext.refl _) rfl
        refine ⟨fun y w' hS hF K hK => ?_, ?_⟩
        · skip -- 2: indexAddr
          have e17 : y 17 = _ := hF.1
          have e18 : y 18 = _ := hF.2.1
          simp only [fillL, cond_true, cond_false, List.getD_cons_zero, List.getD_cons_succ, StP.is, Act.put, List.setIfInBounds_toArray, List.set_cons_zero, List.set_cons_succ, Nat.reduceAdd, e17, e18] at hK ⊢
          refine rg_yes (by kernel_rfl) ?_
          clear e17 e18
          clear hF
          go_simp
          exact hK _ _ (Ext.refl _) rfl
        refine ⟨fun y w' hS hF K hK => ?_, ?_⟩
        · skip -- 3: load
          have e19 : y 19 = _ := hF.1
          simp only [fillL, cond_true, cond_false, List.getD_cons_zero, List.getD_cons_succ, StP.is, Act.put, List.setIfInBounds_toArray, List.set_cons_zero, List.set_cons_succ, Nat.reduceAdd, e19] at hK ⊢
          refine rg_yes (by kernel_rfl) ?_
          have qx0_ := (Below.cell hS bl).trans q0
          have qx1_ := (Below.cell hS bl).trans q1
          have qx2_ := (Below.cell hS bl).trans q2
          have qx3_ := (Below.cell hS bl').trans r0
          have qx4_ := (Below.cell hS bl').trans r1
          have qx5_ := (Below.cell hS bl').trans r2
          clear e19
          clear hF
          go_simp
          exact hK _ _ (Ext.refl _) rfl
        refine ⟨fun y w' hS hF K hK => ?_, ?_⟩
        · skip -- 4: move
          simp only [fillL, cond_true, cond_false, List.getD_cons_zero, List.getD_cons_succ, StP.is, Act.put, List.setIfInBounds_toArray, List.set_cons_zero, List.set_cons_succ, Nat.reduceAdd] at hK ⊢
          refine rg_yes (by kernel_rfl) ?_
          clear hF
          go_simp
          exact hK _ _ (Ext.refl _) rfl
        refine ⟨fun y w' hS hF K hK => ?_, ?_⟩
        · skip -- 5: move
          simp only [fillL, cond_true, cond_false, List.getD_cons_zero, List.getD_cons_succ, StP.is, Act.put, List.setIfInBounds_toArray, List.set_cons_zero, List.set_cons_succ, Nat.reduceAdd] at hK ⊢
          refine rg_yes (by kernel_rfl) ?_
          clear hF
          go_simp
          exact hK _ _ (Ext.refl _) rfl
        refine ⟨fun y w' hS hF K hK => ?_, ?_⟩
        · skip -- 6: indexAddr
          have e21 : y 21 = _ := hF.1
          have e22 : y 22 = _ := hF.2.1
          simp only [fillL, cond_true, cond_false, List.getD_cons_zero, List.getD_cons_succ, StP.is, Act.put, List.setIfInBounds_toArray, List.set_cons_zero, List.set_cons_succ, Nat.reduceAdd, e21, e22] at hK ⊢
          refine rg_yes (by kernel_rfl) ?_
          clear e21 e22
          clear hF
          go_simp
          exact hK _ _ (Ext.refl _) rfl
        refine ⟨fun y w' hS hF K hK => ?_, ?_⟩
        · skip -- 7: load
          have e23 : y 23 = _ := hF.1
          simp only [fillL, cond_true, cond_false, List.getD_cons_zero, List.getD_cons_succ, StP.is, Act.put, List.setIfInBounds_toArray, List.set_cons_zero, List.set_cons_succ, Nat.reduceAdd, e23] at hK ⊢
          refine rg_yes (by kernel_rfl) ?_
          have qx0_ := (Below.cell hS bl).trans q0
          have qx1_ := (Below.cell hS bl).trans q1
          have qx2_ := (Below.cell hS bl).trans q2
          have qx3_ := (Below.cell hS bl').trans r0
          have qx4_ := (Below.cell hS bl').trans r1
          have qx5_ := (Below.cell hS bl').trans r2
          clear e23
          clear hF
          go_simp
          exact hK _ _ (Ext.refl _) rfl
        refine ⟨fun y w' hS hF K hK => ?_, ?_⟩
        · skip -- 8: call
          have e20 : y 20 = _ := hF.1
          have e24 : y 24 = _ := hF.2.1
          simp only [fillL, cond_true, cond_false, List.getD_cons_zero, List.getD_cons_succ, StP.is, Act.put, List.setIfInBounds_toArray, List.set_cons_zero, List.set_cons_succ, Nat.reduceAdd, e20, e24] at hK ⊢
          refine rg_yes (by kernel_rfl) ?_
          clear e20 e24
          clear hF
          go_simp
          go_at_call 52
          refine (eqDisk_yes _ _ x _ _ _ _ _ (DiskR.below hS hi1 _ _ G.out) (DiskR.below hS hi2 _ _ G'.out)).mono ?_
          rintro e w'' ⟨rfl, hb⟩
          exact hK _ _ hb rfl
        refine ⟨fun y w' hS hF K hK => ?_, ?_⟩
        · skip -- 9: unOp
          have e25 : y 25 = _ := hF.1
          simp only [fillL, cond_true, cond_false, List.getD_cons_zero, List.getD_cons_succ, StP.is, Act.put, List.setIfInBounds_toArray, List.set_cons_zero, List.set_cons_succ, Nat.reduceAdd, e25] at hK ⊢
          refine rg_yes (by kernel_rfl) ?_
          clear e25
          clear hF
          go_simp
          exact hK _ _ (Ext.refl _) rfl
        trivial
      case hend =>
        intro y w2 hX hF
        have e26 : y 26 = _ := hF.2.2.2.2.2.2.2.2.2.1
        clear hF
        simp only [fillL, cond_true, cond_false, Nat.reduceAdd, e26]
        clear e26
        have hB2 : Below w.heap.size w w2 := hB.trans (Below.mono hX hB.size)
        clear hX hB
        go_wp2_with fail
        go_roundw
        case rel => exact ⟨k + 1, by omega, by go_num, hB2⟩
        case measure => simp [intOf]; omega
    · go_wp2_with fail
      go_ret
      exact ⟨rfl, hB⟩

set_option maxHeartbeats 1000000 in
theorem eqRaid_yes (cs cs' : List Value) (x : RaidD) (w : World) (lo hi lo' hi' : Nat) (h : RaidR w lo hi cs x) (h' : RaidR w lo' hi' cs' x) :
    Calls Tryz.prog 13 #[.agg cs.toArray, .agg cs'.toArray] w fun e w' => e = .returned (.bool true) ∧ Below w.heap.size w w' := by
  obtain ⟨disks_, rfl⟩ : ∃ y, y = x := ⟨_, rfl⟩
  obtain ⟨Aa0, na0, ca0, rfl, ha0⟩ := h
  obtain ⟨Ab0, nb0, cb0, rfl, hb0⟩ := h'
  show Calls Tryz.prog 13 #[.agg #[.slice Aa0 na0 ca0], .agg #[.slice Ab0 nb0 cb0]] w _
  have Hha0 := Lib.hid ha0
  clear ha0
  have Hhb0 := Lib.hid hb0
  clear hb0
  go_enter Tryz.func13, Tryz.ntmps13
  go_wp2_with fail
  refine (eqDiskS_yes _ _ _ _ _ _ disks_ _ _ _ _ _ (SliceR.below Hha0.out bel2 (DiskR.below bel2 Hha0.out.lo_le)) (SliceR.below Hhb0.out bel2 (DiskR.below bel2 Hhb0.out.lo_le))).mono ?_
  rintro e w1 ⟨rfl, hb1⟩
  have X1 : Below w.heap.size w w1 := bel2.trans (hb1.mono (by first | exact bel2.size | (simp <;> omega)))
  have c1_0_0 : w1.cell? ⟨w.heap.size, 0, none⟩ = some (.slice Aa0 na0 ca0) := (hb1.cell (by simp <;> omega)).trans (by simp [go_sem])
  have c1_1_0 : w1.cell? ⟨w.heap.size + 1, 0, none⟩ = some (.slice Ab0 nb0 cb0) := (hb1.cell (by simp <;> omega)).trans (by simp [go_sem])
  clear hb1
  go_wp2_with fail
  go_ret
  exact ⟨rfl, X1⟩
end
end Go.Proofs.YtggdjiklgakfnaaGreatDoor
