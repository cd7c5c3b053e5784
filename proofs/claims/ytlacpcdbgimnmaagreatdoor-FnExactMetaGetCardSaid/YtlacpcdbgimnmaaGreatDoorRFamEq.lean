/- eq at each type: equal data are told equal. No condition. -/
import Derived.Test.YtlacpcdbgimnmaaGreatDoorRTypes
import Derived.Test.YtlacpcdbgimnmaaGreatDoorChecked
set_option linter.unnecessarySimpa false
set_option linter.unusedSimpArgs false
set_option linter.unusedVariables false
namespace Go.Proofs.YtlacpcdbgimnmaaGreatDoor
open Go.RowKit
abbrev rl0FamEq : List Bool := [false, false, false, false, false, false, false, false, false, false, false, false, false, false, false, false, false, true, true, true, true, true, true, true, true, true, true]
abbrev rl1FamEq : List (Option Nat) := [some 17, some 18, some 19, some 20, some 21, some 22, some 23, some 24, some 25, some 26]
set_option maxHeartbeats 1000000 in
theorem eqPtr_yes (cs cs' : List Value) (x : PtrD) (w : World) (lo hi lo' hi' : Nat) (h : PtrR w lo hi cs x) (h' : PtrR w lo' hi' cs' x) :
 Calls Tryz.prog 85 #[.agg cs.toArray, .agg cs'.toArray] w fun e w' => e = .returned (.bool true) ∧ Below w.heap.size w w' := by
 obtain ⟨at_, birth_, size_, sum_, level_⟩ := x
 obtain rfl := h
 obtain rfl := h'
 show Calls Tryz.prog 85 #[.agg #[.int .i64 at_, .int .i64 birth_, .int .i64 size_, .int .i64 sum_, .int .i64 level_], .agg #[.int .i64 at_, .int .i64 birth_, .int .i64 size_, .int .i64 sum_, .int .i64 level_]] w _
 go_enter Tryz.func85, Tryz.ntmps85
 go_wp2_with fail
 go_ret
 exact ⟨rfl, bel2⟩
set_option maxRecDepth 100000 in
set_option maxHeartbeats 2000000 in
theorem eqPtrS_yes (A B : Option Addr) (n c m d : Nat) (xs : List PtrD) (w : World) (lo hi lo' hi' : Nat) (h : SliceR PtrR 5 w lo hi A n c xs) (h' : SliceR PtrR 5 w lo' hi' B m d xs) :
 Calls Tryz.prog 67 #[.slice A n c, .slice B m d] w fun e w' => e = .returned (.bool true) ∧ Below w.heap.size w w' := by
 obtain rfl : m = n := by have := h.len; have := h'.len; omega
 have hn := h.max
 have hl := Lib.hid h.len
 have H := Lib.hid h
 have H' := Lib.hid h'
 clear h h'
 go_enter Tryz.func67, Tryz.ntmps67
 go_wp2_with fail
 go_loopw [5] (fun i wr => ∃ k : Nat, k ≤ m ∧ i = .int .i64 k ∧ Below w.heap.size w wr) (fun i _ => m - (intOf i).toNat)
 case atStart => exact ⟨0, Nat.zero_le _, rfl, Below.refl _ _⟩
 obtain ⟨k, hk, rfl, hB⟩ := hrel
 by_cases hlt : k < m
 · obtain ⟨x, hx⟩ : ∃ x, xs[k]? = some x := ⟨xs[k]'(by rw [hl.out]; exact hlt), List.getElem?_eq_getElem _⟩
   have g := SliceR.below H.out hB (PtrR.below hB H.out.lo_le)
   have g' := SliceR.below H'.out hB (PtrR.below hB H'.out.lo_le)
   obtain ⟨b, off, rfl, _, _, bl, hc⟩ := g.at_ (by omega)
   obtain ⟨b', off', rfl, _, _, bl', hc'⟩ := g'.at_ (by omega)
   obtain ⟨cs, hcl, hcc, hr⟩ := hc k x hx
   obtain ⟨cs', hcl', hcc', hr'⟩ := hc' k x hx
   clear hc hc' hx g g'
   have G := Lib.hid hr
   have G' := Lib.hid hr'
   obtain ⟨v0, v1, v2, v3, v4, rfl⟩ := list5 hcl
   obtain ⟨u0, u1, u2, u3, u4, rfl⟩ := list5 hcl'
   have q0 := hcc 0 _ rfl
   have r0 := hcc' 0 _ rfl
   have q1 := hcc 1 _ rfl
   have r1 := hcc' 1 _ rfl
   have q2 := hcc 2 _ rfl
   have r2 := hcc' 2 _ rfl
   have q3 := hcc 3 _ rfl
   have r3 := hcc' 3 _ rfl
   have q4 := hcc 4 _ rfl
   have r4 := hcc' 4 _ rfl
   simp only [Nat.add_zero] at q0 r0
   clear hcc hcc' hcl hcl' hr hr'
   have hhi := H.out.lo_le
   have hhi' := H'.out.lo_le
   have hi1 : hi ≤ wr.heap.size := Nat.le_trans hhi hB.size
   have hi2 : hi' ≤ wr.heap.size := Nat.le_trans hhi' hB.size
   clear hhi hhi'
   have k0 : (0 : Int) ≤ (k : Int) := by omega
   have k1 : (k : Int) < (m : Int) := by omega
   go_wp2_with fail
   apply wp_region_rg (by kernel_rfl) rl0FamEq rl1FamEq [[], [], [0, 1], [2], [], [], [4, 5], [6], [3, 7], [8]] [.is _, .is _, .is _, .is _, .is _, .is _, .is _, .is _, .is _, .is _] (by kernel_rfl)
   case hobs =>
    refine ⟨fun y w' hS hF K hK => ?_, ?_⟩
    · skip
      simp only [fillL, rl0FamEq, rl1FamEq, cond_true, cond_false, zG0, zG1, StP.is, Act.put, zS2, zS0, zS1, Nat.reduceAdd] at hK ⊢
      refine rg_yes (by kernel_rfl) ?_
      clear hF
      go_simp
      exact hK _ _ (Ext.refl _) rfl
    refine ⟨fun y w' hS hF K hK => ?_, ?_⟩
    · skip
      simp only [fillL, rl0FamEq, rl1FamEq, cond_true, cond_false, zG0, zG1, StP.is, Act.put, zS2, zS0, zS1, Nat.reduceAdd] at hK ⊢
      refine rg_yes (by kernel_rfl) ?_
      clear hF
      go_simp
      exact hK _ _ (Ext.refl _) rfl
    refine ⟨fun y w' hS hF K hK => ?_, ?_⟩
    · skip
      have e17 : y 17 = _ := hF.1
      have e18 : y 18 = _ := hF.2.1
      simp only [fillL, rl0FamEq, rl1FamEq, cond_true, cond_false, zG0, zG1, StP.is, Act.put, zS2, zS0, zS1, Nat.reduceAdd, e17, e18] at hK ⊢
      refine rg_yes (by kernel_rfl) ?_
      clear e17 e18
      clear hF
      go_simp
      exact hK _ _ (Ext.refl _) rfl
    refine ⟨fun y w' hS hF K hK => ?_, ?_⟩
    · skip
      have e19 : y 19 = _ := hF.1
      simp only [fillL, rl0FamEq, rl1FamEq, cond_true, cond_false, zG0, zG1, StP.is, Act.put, zS2, zS0, zS1, Nat.reduceAdd, e19] at hK ⊢
      refine rg_yes (by kernel_rfl) ?_
      have q0 := (Below.cell hS bl).trans q0
      have q1 := (Below.cell hS bl).trans q1
      have q2 := (Below.cell hS bl).trans q2
      have q3 := (Below.cell hS bl).trans q3
      have q4 := (Below.cell hS bl).trans q4
      have q5 := (Below.cell hS bl').trans r0
      have q6 := (Below.cell hS bl').trans r1
      have q7 := (Below.cell hS bl').trans r2
      have q8 := (Below.cell hS bl').trans r3
      have q9 := (Below.cell hS bl').trans r4
      clear e19
      clear hF
      go_simp
      exact hK _ _ (Ext.refl _) rfl
    refine ⟨fun y w' hS hF K hK => ?_, ?_⟩
    · skip
      simp only [fillL, rl0FamEq, rl1FamEq, cond_true, cond_false, zG0, zG1, StP.is, Act.put, zS2, zS0, zS1, Nat.reduceAdd] at hK ⊢
      refine rg_yes (by kernel_rfl) ?_
      clear hF
      go_simp
      exact hK _ _ (Ext.refl _) rfl
    refine ⟨fun y w' hS hF K hK => ?_, ?_⟩
    · skip
      simp only [fillL, rl0FamEq, rl1FamEq, cond_true, cond_false, zG0, zG1, StP.is, Act.put, zS2, zS0, zS1, Nat.reduceAdd] at hK ⊢
      refine rg_yes (by kernel_rfl) ?_
      clear hF
      go_simp
      exact hK _ _ (Ext.refl _) rfl
    refine ⟨fun y w' hS hF K hK => ?_, ?_⟩
    · skip
      have e21 : y 21 = _ := hF.1
      have e22 : y 22 = _ := hF.2.1
      simp only [fillL, rl0FamEq, rl1FamEq, cond_true, cond_false, zG0, zG1, StP.is, Act.put, zS2, zS0, zS1, Nat.reduceAdd, e21, e22] at hK ⊢
      refine rg_yes (by kernel_rfl) ?_
      clear e21 e22
      clear hF
      go_simp
      exact hK _ _ (Ext.refl _) rfl
    refine ⟨fun y w' hS hF K hK => ?_, ?_⟩
    · skip
      have e23 : y 23 = _ := hF.1
      simp only [fillL, rl0FamEq, rl1FamEq, cond_true, cond_false, zG0, zG1, StP.is, Act.put, zS2, zS0, zS1, Nat.reduceAdd, e23] at hK ⊢
      refine rg_yes (by kernel_rfl) ?_
      have q0 := (Below.cell hS bl).trans q0
      have q1 := (Below.cell hS bl).trans q1
      have q2 := (Below.cell hS bl).trans q2
      have q3 := (Below.cell hS bl).trans q3
      have q4 := (Below.cell hS bl).trans q4
      have q5 := (Below.cell hS bl').trans r0
      have q6 := (Below.cell hS bl').trans r1
      have q7 := (Below.cell hS bl').trans r2
      have q8 := (Below.cell hS bl').trans r3
      have q9 := (Below.cell hS bl').trans r4
      clear e23
      clear hF
      go_simp
      exact hK _ _ (Ext.refl _) rfl
    refine ⟨fun y w' hS hF K hK => ?_, ?_⟩
    · skip
      have e20 : y 20 = _ := hF.1
      have e24 : y 24 = _ := hF.2.1
      simp only [fillL, rl0FamEq, rl1FamEq, cond_true, cond_false, zG0, zG1, StP.is, Act.put, zS2, zS0, zS1, Nat.reduceAdd, e20, e24] at hK ⊢
      refine rg_yes (by kernel_rfl) ?_
      clear e20 e24
      clear hF
      go_simp
      go_at_call 85
      refine (eqPtr_yes _ _ x _ _ _ _ _ (PtrR.below hS hi1 _ _ G.out) (PtrR.below hS hi2 _ _ G'.out)).mono ?_
      rintro e w'' ⟨rfl, hb⟩
      exact hK _ _ hb rfl
    refine ⟨fun y w' hS hF K hK => ?_, ?_⟩
    · skip
      have e25 : y 25 = _ := hF.1
      simp only [fillL, rl0FamEq, rl1FamEq, cond_true, cond_false, zG0, zG1, StP.is, Act.put, zS2, zS0, zS1, Nat.reduceAdd, e25] at hK ⊢
      refine rg_yes (by kernel_rfl) ?_
      clear e25
      clear hF
      go_simp
      exact hK _ _ (Ext.refl _) rfl
    trivial
   intro y w2 hX hF
   have e26 : y 26 = _ := hF.2.2.2.2.2.2.2.2.2.1
   clear hF
   simp only [fillL, rl0FamEq, rl1FamEq, cond_true, cond_false, Nat.reduceAdd, e26]
   clear e26
   have hB2 : Below w.heap.size w w2 := hB.trans (Below.mono hX hB.size)
   clear hX hB
   go_wp2_with fail
   go_roundw
   case rel => exact ⟨k + 1, by omega, by go_num, hB2⟩
   simp [intOf]; omega
 go_wp2_with fail
 go_ret
 exact ⟨rfl, hB⟩
set_option maxHeartbeats 1000000 in
theorem eqTree_yes (cs cs' : List Value) (x : TreeD) (w : World) (lo hi lo' hi' : Nat) (h : TreeR w lo hi cs x) (h' : TreeR w lo' hi' cs' x) :
 Calls Tryz.prog 66 #[.agg cs.toArray, .agg cs'.toArray] w fun e w' => e = .returned (.bool true) ∧ Below w.heap.size w w' := by
 obtain ⟨⟨root_at_, root_birth_, root_size_, root_sum_, root_level_⟩, depth_, many_⟩ := x
 obtain rfl := h
 obtain rfl := h'
 show Calls Tryz.prog 66 #[.agg #[.int .i64 root_at_, .int .i64 root_birth_, .int .i64 root_size_, .int .i64 root_sum_, .int .i64 root_level_, .int .i64 depth_, .int .i64 many_], .agg #[.int .i64 root_at_, .int .i64 root_birth_, .int .i64 root_size_, .int .i64 root_sum_, .int .i64 root_level_, .int .i64 depth_, .int .i64 many_]] w _
 go_enter Tryz.func66, Tryz.ntmps66
 go_wp2_with fail
 have ga : ∀ ww, PtrR ww 0 0 [.int .i64 root_at_, .int .i64 root_birth_, .int .i64 root_size_, .int .i64 root_sum_, .int .i64 root_level_] (root_at_, root_birth_, root_size_, root_sum_, root_level_) := fun _ => rfl
 have gb : ∀ ww, PtrR ww 0 0 [.int .i64 root_at_, .int .i64 root_birth_, .int .i64 root_size_, .int .i64 root_sum_, .int .i64 root_level_] (root_at_, root_birth_, root_size_, root_sum_, root_level_) := fun _ => rfl
 refine (eqPtr_yes _ _ _ _ _ _ _ _ (ga _) (gb _)).mono ?_
 rintro e w1 ⟨rfl, hb1⟩
 clear ga gb
 have X1 : Below w.heap.size w w1 := bel2.trans (hb1.mono (by first | exact bel2.size | (simp <;> omega)))
 have c1_0_0 : w1.cell? ⟨w.heap.size, 0, none⟩ = some (.int .i64 root_at_) := (hb1.cell (by simp <;> omega)).trans (by simp [go_sem])
 have c1_0_1 : w1.cell? ⟨w.heap.size, 1, none⟩ = some (.int .i64 root_birth_) := (hb1.cell (by simp <;> omega)).trans (by simp [go_sem])
 have c1_0_2 : w1.cell? ⟨w.heap.size, 2, none⟩ = some (.int .i64 root_size_) := (hb1.cell (by simp <;> omega)).trans (by simp [go_sem])
 have c1_0_3 : w1.cell? ⟨w.heap.size, 3, none⟩ = some (.int .i64 root_sum_) := (hb1.cell (by simp <;> omega)).trans (by simp [go_sem])
 have c1_0_4 : w1.cell? ⟨w.heap.size, 4, none⟩ = some (.int .i64 root_level_) := (hb1.cell (by simp <;> omega)).trans (by simp [go_sem])
 have c1_0_5 : w1.cell? ⟨w.heap.size, 5, none⟩ = some (.int .i64 depth_) := (hb1.cell (by simp <;> omega)).trans (by simp [go_sem])
 have c1_0_6 : w1.cell? ⟨w.heap.size, 6, none⟩ = some (.int .i64 many_) := (hb1.cell (by simp <;> omega)).trans (by simp [go_sem])
 have c1_1_0 : w1.cell? ⟨w.heap.size + 1, 0, none⟩ = some (.int .i64 root_at_) := (hb1.cell (by simp <;> omega)).trans (by simp [go_sem])
 have c1_1_1 : w1.cell? ⟨w.heap.size + 1, 1, none⟩ = some (.int .i64 root_birth_) := (hb1.cell (by simp <;> omega)).trans (by simp [go_sem])
 have c1_1_2 : w1.cell? ⟨w.heap.size + 1, 2, none⟩ = some (.int .i64 root_size_) := (hb1.cell (by simp <;> omega)).trans (by simp [go_sem])
 have c1_1_3 : w1.cell? ⟨w.heap.size + 1, 3, none⟩ = some (.int .i64 root_sum_) := (hb1.cell (by simp <;> omega)).trans (by simp [go_sem])
 have c1_1_4 : w1.cell? ⟨w.heap.size + 1, 4, none⟩ = some (.int .i64 root_level_) := (hb1.cell (by simp <;> omega)).trans (by simp [go_sem])
 have c1_1_5 : w1.cell? ⟨w.heap.size + 1, 5, none⟩ = some (.int .i64 depth_) := (hb1.cell (by simp <;> omega)).trans (by simp [go_sem])
 have c1_1_6 : w1.cell? ⟨w.heap.size + 1, 6, none⟩ = some (.int .i64 many_) := (hb1.cell (by simp <;> omega)).trans (by simp [go_sem])
 clear hb1
 go_wp2_with fail
 go_ret
 exact ⟨rfl, X1⟩
set_option maxHeartbeats 1000000 in
theorem eqHead_yes (cs cs' : List Value) (x : HeadD) (w : World) (lo hi lo' hi' : Nat) (h : HeadR w lo hi cs x) (h' : HeadR w lo' hi' cs' x) :
 Calls Tryz.prog 46 #[.agg cs.toArray, .agg cs'.toArray] w fun e w' => e = .returned (.bool true) ∧ Below w.heap.size w w' := by
 obtain ⟨name_, prev_, ⟨⟨tree_root_at_, tree_root_birth_, tree_root_size_, tree_root_sum_, tree_root_level_⟩, tree_depth_, tree_many_⟩, dead_, quota_⟩ := x
 obtain ⟨Aa0, na0, ca0, rfl, ha0, ha1⟩ := h
 obtain ⟨Ab0, nb0, cb0, rfl, hb0, hb1⟩ := h'
 show Calls Tryz.prog 46 #[.agg #[.string name_, .int .i64 prev_, .int .i64 tree_root_at_, .int .i64 tree_root_birth_, .int .i64 tree_root_size_, .int .i64 tree_root_sum_, .int .i64 tree_root_level_, .int .i64 tree_depth_, .int .i64 tree_many_, .slice Aa0 na0 ca0, .int .i64 quota_], .agg #[.string name_, .int .i64 prev_, .int .i64 tree_root_at_, .int .i64 tree_root_birth_, .int .i64 tree_root_size_, .int .i64 tree_root_sum_, .int .i64 tree_root_level_, .int .i64 tree_depth_, .int .i64 tree_many_, .slice Ab0 nb0 cb0, .int .i64 quota_]] w _
 have Hha0 := Lib.hid ha0
 clear ha0
 have Hha1 := Lib.hid ha1
 clear ha1
 have Hhb0 := Lib.hid hb0
 clear hb0
 have Hhb1 := Lib.hid hb1
 clear hb1
 go_enter Tryz.func46, Tryz.ntmps46
 go_wp2_with fail
 have ga : ∀ ww, TreeR ww 0 0 [.int .i64 tree_root_at_, .int .i64 tree_root_birth_, .int .i64 tree_root_size_, .int .i64 tree_root_sum_, .int .i64 tree_root_level_, .int .i64 tree_depth_, .int .i64 tree_many_] ((tree_root_at_, tree_root_birth_, tree_root_size_, tree_root_sum_, tree_root_level_), tree_depth_, tree_many_) := fun _ => rfl
 have gb : ∀ ww, TreeR ww 0 0 [.int .i64 tree_root_at_, .int .i64 tree_root_birth_, .int .i64 tree_root_size_, .int .i64 tree_root_sum_, .int .i64 tree_root_level_, .int .i64 tree_depth_, .int .i64 tree_many_] ((tree_root_at_, tree_root_birth_, tree_root_size_, tree_root_sum_, tree_root_level_), tree_depth_, tree_many_) := fun _ => rfl
 refine (eqTree_yes _ _ _ _ _ _ _ _ (ga _) (gb _)).mono ?_
 rintro e w1 ⟨rfl, hb1⟩
 clear ga gb
 have X1 : Below w.heap.size w w1 := bel2.trans (hb1.mono (by first | exact bel2.size | (simp <;> omega)))
 have c1_0_0 : w1.cell? ⟨w.heap.size, 0, none⟩ = some (.string name_) := (hb1.cell (by simp <;> omega)).trans (by simp [go_sem])
 have c1_0_1 : w1.cell? ⟨w.heap.size, 1, none⟩ = some (.int .i64 prev_) := (hb1.cell (by simp <;> omega)).trans (by simp [go_sem])
 have c1_0_2 : w1.cell? ⟨w.heap.size, 2, none⟩ = some (.int .i64 tree_root_at_) := (hb1.cell (by simp <;> omega)).trans (by simp [go_sem])
 have c1_0_3 : w1.cell? ⟨w.heap.size, 3, none⟩ = some (.int .i64 tree_root_birth_) := (hb1.cell (by simp <;> omega)).trans (by simp [go_sem])
 have c1_0_4 : w1.cell? ⟨w.heap.size, 4, none⟩ = some (.int .i64 tree_root_size_) := (hb1.cell (by simp <;> omega)).trans (by simp [go_sem])
 have c1_0_5 : w1.cell? ⟨w.heap.size, 5, none⟩ = some (.int .i64 tree_root_sum_) := (hb1.cell (by simp <;> omega)).trans (by simp [go_sem])
 have c1_0_6 : w1.cell? ⟨w.heap.size, 6, none⟩ = some (.int .i64 tree_root_level_) := (hb1.cell (by simp <;> omega)).trans (by simp [go_sem])
 have c1_0_7 : w1.cell? ⟨w.heap.size, 7, none⟩ = some (.int .i64 tree_depth_) := (hb1.cell (by simp <;> omega)).trans (by simp [go_sem])
 have c1_0_8 : w1.cell? ⟨w.heap.size, 8, none⟩ = some (.int .i64 tree_many_) := (hb1.cell (by simp <;> omega)).trans (by simp [go_sem])
 have c1_0_9 : w1.cell? ⟨w.heap.size, 9, none⟩ = some (.slice Aa0 na0 ca0) := (hb1.cell (by simp <;> omega)).trans (by simp [go_sem])
 have c1_0_10 : w1.cell? ⟨w.heap.size, 10, none⟩ = some (.int .i64 quota_) := (hb1.cell (by simp <;> omega)).trans (by simp [go_sem])
 have c1_1_0 : w1.cell? ⟨w.heap.size + 1, 0, none⟩ = some (.string name_) := (hb1.cell (by simp <;> omega)).trans (by simp [go_sem])
 have c1_1_1 : w1.cell? ⟨w.heap.size + 1, 1, none⟩ = some (.int .i64 prev_) := (hb1.cell (by simp <;> omega)).trans (by simp [go_sem])
 have c1_1_2 : w1.cell? ⟨w.heap.size + 1, 2, none⟩ = some (.int .i64 tree_root_at_) := (hb1.cell (by simp <;> omega)).trans (by simp [go_sem])
 have c1_1_3 : w1.cell? ⟨w.heap.size + 1, 3, none⟩ = some (.int .i64 tree_root_birth_) := (hb1.cell (by simp <;> omega)).trans (by simp [go_sem])
 have c1_1_4 : w1.cell? ⟨w.heap.size + 1, 4, none⟩ = some (.int .i64 tree_root_size_) := (hb1.cell (by simp <;> omega)).trans (by simp [go_sem])
 have c1_1_5 : w1.cell? ⟨w.heap.size + 1, 5, none⟩ = some (.int .i64 tree_root_sum_) := (hb1.cell (by simp <;> omega)).trans (by simp [go_sem])
 have c1_1_6 : w1.cell? ⟨w.heap.size + 1, 6, none⟩ = some (.int .i64 tree_root_level_) := (hb1.cell (by simp <;> omega)).trans (by simp [go_sem])
 have c1_1_7 : w1.cell? ⟨w.heap.size + 1, 7, none⟩ = some (.int .i64 tree_depth_) := (hb1.cell (by simp <;> omega)).trans (by simp [go_sem])
 have c1_1_8 : w1.cell? ⟨w.heap.size + 1, 8, none⟩ = some (.int .i64 tree_many_) := (hb1.cell (by simp <;> omega)).trans (by simp [go_sem])
 have c1_1_9 : w1.cell? ⟨w.heap.size + 1, 9, none⟩ = some (.slice Ab0 nb0 cb0) := (hb1.cell (by simp <;> omega)).trans (by simp [go_sem])
 have c1_1_10 : w1.cell? ⟨w.heap.size + 1, 10, none⟩ = some (.int .i64 quota_) := (hb1.cell (by simp <;> omega)).trans (by simp [go_sem])
 clear hb1
 go_wp2_with fail
 refine (eqPtrS_yes _ _ _ _ _ _ dead_ _ _ _ _ _ (SliceR.below Hha1.out X1 (PtrR.below X1 Hha1.out.lo_le)) (SliceR.below Hhb1.out X1 (PtrR.below X1 Hhb1.out.lo_le))).mono ?_
 rintro e w2 ⟨rfl, hb2⟩
 have X2 : Below w.heap.size w w2 := X1.trans (hb2.mono (by first | exact X1.size | (simp <;> omega)))
 have c2_0_0 := (hb2.cell (World.block_lt_of_cell? _ _ c1_0_0)).trans c1_0_0
 have c2_0_1 := (hb2.cell (World.block_lt_of_cell? _ _ c1_0_1)).trans c1_0_1
 have c2_0_2 := (hb2.cell (World.block_lt_of_cell? _ _ c1_0_2)).trans c1_0_2
 have c2_0_3 := (hb2.cell (World.block_lt_of_cell? _ _ c1_0_3)).trans c1_0_3
 have c2_0_4 := (hb2.cell (World.block_lt_of_cell? _ _ c1_0_4)).trans c1_0_4
 have c2_0_5 := (hb2.cell (World.block_lt_of_cell? _ _ c1_0_5)).trans c1_0_5
 have c2_0_6 := (hb2.cell (World.block_lt_of_cell? _ _ c1_0_6)).trans c1_0_6
 have c2_0_7 := (hb2.cell (World.block_lt_of_cell? _ _ c1_0_7)).trans c1_0_7
 have c2_0_8 := (hb2.cell (World.block_lt_of_cell? _ _ c1_0_8)).trans c1_0_8
 have c2_0_9 := (hb2.cell (World.block_lt_of_cell? _ _ c1_0_9)).trans c1_0_9
 have c2_0_10 := (hb2.cell (World.block_lt_of_cell? _ _ c1_0_10)).trans c1_0_10
 have c2_1_0 := (hb2.cell (World.block_lt_of_cell? _ _ c1_1_0)).trans c1_1_0
 have c2_1_1 := (hb2.cell (World.block_lt_of_cell? _ _ c1_1_1)).trans c1_1_1
 have c2_1_2 := (hb2.cell (World.block_lt_of_cell? _ _ c1_1_2)).trans c1_1_2
 have c2_1_3 := (hb2.cell (World.block_lt_of_cell? _ _ c1_1_3)).trans c1_1_3
 have c2_1_4 := (hb2.cell (World.block_lt_of_cell? _ _ c1_1_4)).trans c1_1_4
 have c2_1_5 := (hb2.cell (World.block_lt_of_cell? _ _ c1_1_5)).trans c1_1_5
 have c2_1_6 := (hb2.cell (World.block_lt_of_cell? _ _ c1_1_6)).trans c1_1_6
 have c2_1_7 := (hb2.cell (World.block_lt_of_cell? _ _ c1_1_7)).trans c1_1_7
 have c2_1_8 := (hb2.cell (World.block_lt_of_cell? _ _ c1_1_8)).trans c1_1_8
 have c2_1_9 := (hb2.cell (World.block_lt_of_cell? _ _ c1_1_9)).trans c1_1_9
 have c2_1_10 := (hb2.cell (World.block_lt_of_cell? _ _ c1_1_10)).trans c1_1_10
 clear c1_0_0 c1_0_1 c1_0_2 c1_0_3 c1_0_4 c1_0_5 c1_0_6 c1_0_7 c1_0_8 c1_0_9 c1_0_10 c1_1_0 c1_1_1 c1_1_2 c1_1_3 c1_1_4 c1_1_5 c1_1_6 c1_1_7 c1_1_8 c1_1_9 c1_1_10
 clear hb2 X1
 go_wp2_with fail
 go_ret
 exact ⟨rfl, X2⟩
set_option maxRecDepth 100000 in
set_option maxHeartbeats 2000000 in
theorem eqHeadS_yes (A B : Option Addr) (n c m d : Nat) (xs : List HeadD) (w : World) (lo hi lo' hi' : Nat) (h : SliceR HeadR 11 w lo hi A n c xs) (h' : SliceR HeadR 11 w lo' hi' B m d xs) :
 Calls Tryz.prog 19 #[.slice A n c, .slice B m d] w fun e w' => e = .returned (.bool true) ∧ Below w.heap.size w w' := by
 obtain rfl : m = n := by have := h.len; have := h'.len; omega
 have hn := h.max
 have hl := Lib.hid h.len
 have H := Lib.hid h
 have H' := Lib.hid h'
 clear h h'
 go_enter Tryz.func19, Tryz.ntmps19
 go_wp2_with fail
 go_loopw [5] (fun i wr => ∃ k : Nat, k ≤ m ∧ i = .int .i64 k ∧ Below w.heap.size w wr) (fun i _ => m - (intOf i).toNat)
 case atStart => exact ⟨0, Nat.zero_le _, rfl, Below.refl _ _⟩
 obtain ⟨k, hk, rfl, hB⟩ := hrel
 by_cases hlt : k < m
 · obtain ⟨x, hx⟩ : ∃ x, xs[k]? = some x := ⟨xs[k]'(by rw [hl.out]; exact hlt), List.getElem?_eq_getElem _⟩
   have g := SliceR.below H.out hB (HeadR.below hB H.out.lo_le)
   have g' := SliceR.below H'.out hB (HeadR.below hB H'.out.lo_le)
   obtain ⟨b, off, rfl, _, _, bl, hc⟩ := g.at_ (by omega)
   obtain ⟨b', off', rfl, _, _, bl', hc'⟩ := g'.at_ (by omega)
   obtain ⟨cs, hcl, hcc, hr⟩ := hc k x hx
   obtain ⟨cs', hcl', hcc', hr'⟩ := hc' k x hx
   clear hc hc' hx g g'
   have G := Lib.hid hr
   have G' := Lib.hid hr'
   obtain ⟨v0, v1, v2, v3, v4, v5, v6, v7, v8, v9, v10, rfl⟩ := list11 hcl
   obtain ⟨u0, u1, u2, u3, u4, u5, u6, u7, u8, u9, u10, rfl⟩ := list11 hcl'
   have q0 := hcc 0 _ rfl
   have r0 := hcc' 0 _ rfl
   have q1 := hcc 1 _ rfl
   have r1 := hcc' 1 _ rfl
   have q2 := hcc 2 _ rfl
   have r2 := hcc' 2 _ rfl
   have q3 := hcc 3 _ rfl
   have r3 := hcc' 3 _ rfl
   have q4 := hcc 4 _ rfl
   have r4 := hcc' 4 _ rfl
   have q5 := hcc 5 _ rfl
   have r5 := hcc' 5 _ rfl
   have q6 := hcc 6 _ rfl
   have r6 := hcc' 6 _ rfl
   have q7 := hcc 7 _ rfl
   have r7 := hcc' 7 _ rfl
   have q8 := hcc 8 _ rfl
   have r8 := hcc' 8 _ rfl
   have q9 := hcc 9 _ rfl
   have r9 := hcc' 9 _ rfl
   have q10 := hcc 10 _ rfl
   have r10 := hcc' 10 _ rfl
   simp only [Nat.add_zero] at q0 r0
   clear hcc hcc' hcl hcl' hr hr'
   have hhi := H.out.lo_le
   have hhi' := H'.out.lo_le
   have hi1 : hi ≤ wr.heap.size := Nat.le_trans hhi hB.size
   have hi2 : hi' ≤ wr.heap.size := Nat.le_trans hhi' hB.size
   clear hhi hhi'
   have k0 : (0 : Int) ≤ (k : Int) := by omega
   have k1 : (k : Int) < (m : Int) := by omega
   go_wp2_with fail
   apply wp_region_rg (by kernel_rfl) rl0FamEq rl1FamEq [[], [], [0, 1], [2], [], [], [4, 5], [6], [3, 7], [8]] [.is _, .is _, .is _, .is _, .is _, .is _, .is _, .is _, .is _, .is _] (by kernel_rfl)
   case hobs =>
    refine ⟨fun y w' hS hF K hK => ?_, ?_⟩
    · skip
      simp only [fillL, rl0FamEq, rl1FamEq, cond_true, cond_false, zG0, zG1, StP.is, Act.put, zS2, zS0, zS1, Nat.reduceAdd] at hK ⊢
      refine rg_yes (by kernel_rfl) ?_
      clear hF
      go_simp
      exact hK _ _ (Ext.refl _) rfl
    refine ⟨fun y w' hS hF K hK => ?_, ?_⟩
    · skip
      simp only [fillL, rl0FamEq, rl1FamEq, cond_true, cond_false, zG0, zG1, StP.is, Act.put, zS2, zS0, zS1, Nat.reduceAdd] at hK ⊢
      refine rg_yes (by kernel_rfl) ?_
      clear hF
      go_simp
      exact hK _ _ (Ext.refl _) rfl
    refine ⟨fun y w' hS hF K hK => ?_, ?_⟩
    · skip
      have e17 : y 17 = _ := hF.1
      have e18 : y 18 = _ := hF.2.1
      simp only [fillL, rl0FamEq, rl1FamEq, cond_true, cond_false, zG0, zG1, StP.is, Act.put, zS2, zS0, zS1, Nat.reduceAdd, e17, e18] at hK ⊢
      refine rg_yes (by kernel_rfl) ?_
      clear e17 e18
      clear hF
      go_simp
      exact hK _ _ (Ext.refl _) rfl
    refine ⟨fun y w' hS hF K hK => ?_, ?_⟩
    · skip
      have e19 : y 19 = _ := hF.1
      simp only [fillL, rl0FamEq, rl1FamEq, cond_true, cond_false, zG0, zG1, StP.is, Act.put, zS2, zS0, zS1, Nat.reduceAdd, e19] at hK ⊢
      refine rg_yes (by kernel_rfl) ?_
      have q0 := (Below.cell hS bl).trans q0
      have q1 := (Below.cell hS bl).trans q1
      have q2 := (Below.cell hS bl).trans q2
      have q3 := (Below.cell hS bl).trans q3
      have q4 := (Below.cell hS bl).trans q4
      have q5 := (Below.cell hS bl).trans q5
      have q6 := (Below.cell hS bl).trans q6
      have q7 := (Below.cell hS bl).trans q7
      have q8 := (Below.cell hS bl).trans q8
      have q9 := (Below.cell hS bl).trans q9
      have q10 := (Below.cell hS bl).trans q10
      have q11 := (Below.cell hS bl').trans r0
      have q12 := (Below.cell hS bl').trans r1
      have q13 := (Below.cell hS bl').trans r2
      have q14 := (Below.cell hS bl').trans r3
      have q15 := (Below.cell hS bl').trans r4
      have q16 := (Below.cell hS bl').trans r5
      have q17 := (Below.cell hS bl').trans r6
      have q18 := (Below.cell hS bl').trans r7
      have q19 := (Below.cell hS bl').trans r8
      have q20 := (Below.cell hS bl').trans r9
      have q21 := (Below.cell hS bl').trans r10
      clear e19
      clear hF
      go_simp
      exact hK _ _ (Ext.refl _) rfl
    refine ⟨fun y w' hS hF K hK => ?_, ?_⟩
    · skip
      simp only [fillL, rl0FamEq, rl1FamEq, cond_true, cond_false, zG0, zG1, StP.is, Act.put, zS2, zS0, zS1, Nat.reduceAdd] at hK ⊢
      refine rg_yes (by kernel_rfl) ?_
      clear hF
      go_simp
      exact hK _ _ (Ext.refl _) rfl
    refine ⟨fun y w' hS hF K hK => ?_, ?_⟩
    · skip
      simp only [fillL, rl0FamEq, rl1FamEq, cond_true, cond_false, zG0, zG1, StP.is, Act.put, zS2, zS0, zS1, Nat.reduceAdd] at hK ⊢
      refine rg_yes (by kernel_rfl) ?_
      clear hF
      go_simp
      exact hK _ _ (Ext.refl _) rfl
    refine ⟨fun y w' hS hF K hK => ?_, ?_⟩
    · skip
      have e21 : y 21 = _ := hF.1
      have e22 : y 22 = _ := hF.2.1
      simp only [fillL, rl0FamEq, rl1FamEq, cond_true, cond_false, zG0, zG1, StP.is, Act.put, zS2, zS0, zS1, Nat.reduceAdd, e21, e22] at hK ⊢
      refine rg_yes (by kernel_rfl) ?_
      clear e21 e22
      clear hF
      go_simp
      exact hK _ _ (Ext.refl _) rfl
    refine ⟨fun y w' hS hF K hK => ?_, ?_⟩
    · skip
      have e23 : y 23 = _ := hF.1
      simp only [fillL, rl0FamEq, rl1FamEq, cond_true, cond_false, zG0, zG1, StP.is, Act.put, zS2, zS0, zS1, Nat.reduceAdd, e23] at hK ⊢
      refine rg_yes (by kernel_rfl) ?_
      have q0 := (Below.cell hS bl).trans q0
      have q1 := (Below.cell hS bl).trans q1
      have q2 := (Below.cell hS bl).trans q2
      have q3 := (Below.cell hS bl).trans q3
      have q4 := (Below.cell hS bl).trans q4
      have q5 := (Below.cell hS bl).trans q5
      have q6 := (Below.cell hS bl).trans q6
      have q7 := (Below.cell hS bl).trans q7
      have q8 := (Below.cell hS bl).trans q8
      have q9 := (Below.cell hS bl).trans q9
      have q10 := (Below.cell hS bl).trans q10
      have q11 := (Below.cell hS bl').trans r0
      have q12 := (Below.cell hS bl').trans r1
      have q13 := (Below.cell hS bl').trans r2
      have q14 := (Below.cell hS bl').trans r3
      have q15 := (Below.cell hS bl').trans r4
      have q16 := (Below.cell hS bl').trans r5
      have q17 := (Below.cell hS bl').trans r6
      have q18 := (Below.cell hS bl').trans r7
      have q19 := (Below.cell hS bl').trans r8
      have q20 := (Below.cell hS bl').trans r9
      have q21 := (Below.cell hS bl').trans r10
      clear e23
      clear hF
      go_simp
      exact hK _ _ (Ext.refl _) rfl
    refine ⟨fun y w' hS hF K hK => ?_, ?_⟩
    · skip
      have e20 : y 20 = _ := hF.1
      have e24 : y 24 = _ := hF.2.1
      simp only [fillL, rl0FamEq, rl1FamEq, cond_true, cond_false, zG0, zG1, StP.is, Act.put, zS2, zS0, zS1, Nat.reduceAdd, e20, e24] at hK ⊢
      refine rg_yes (by kernel_rfl) ?_
      clear e20 e24
      clear hF
      go_simp
      go_at_call 46
      refine (eqHead_yes _ _ x _ _ _ _ _ (HeadR.below hS hi1 _ _ G.out) (HeadR.below hS hi2 _ _ G'.out)).mono ?_
      rintro e w'' ⟨rfl, hb⟩
      exact hK _ _ hb rfl
    refine ⟨fun y w' hS hF K hK => ?_, ?_⟩
    · skip
      have e25 : y 25 = _ := hF.1
      simp only [fillL, rl0FamEq, rl1FamEq, cond_true, cond_false, zG0, zG1, StP.is, Act.put, zS2, zS0, zS1, Nat.reduceAdd, e25] at hK ⊢
      refine rg_yes (by kernel_rfl) ?_
      clear e25
      clear hF
      go_simp
      exact hK _ _ (Ext.refl _) rfl
    trivial
   intro y w2 hX hF
   have e26 : y 26 = _ := hF.2.2.2.2.2.2.2.2.2.1
   clear hF
   simp only [fillL, rl0FamEq, rl1FamEq, cond_true, cond_false, Nat.reduceAdd, e26]
   clear e26
   have hB2 : Below w.heap.size w w2 := hB.trans (Below.mono hX hB.size)
   clear hX hB
   go_wp2_with fail
   go_roundw
   case rel => exact ⟨k + 1, by omega, by go_num, hB2⟩
   simp [intOf]; omega
 go_wp2_with fail
 go_ret
 exact ⟨rfl, hB⟩
set_option maxHeartbeats 1000000 in
theorem eqSnap_yes (cs cs' : List Value) (x : SnapD) (w : World) (lo hi lo' hi' : Nat) (h : SnapR w lo hi cs x) (h' : SnapR w lo' hi' cs' x) :
 Calls Tryz.prog 47 #[.agg cs.toArray, .agg cs'.toArray] w fun e w' => e = .returned (.bool true) ∧ Below w.heap.size w w' := by
 obtain ⟨id_, name_, txg_, prev_, ⟨⟨tree_root_at_, tree_root_birth_, tree_root_size_, tree_root_sum_, tree_root_level_⟩, tree_depth_, tree_many_⟩, dead_⟩ := x
 obtain ⟨Aa0, na0, ca0, rfl, ha0, ha1⟩ := h
 obtain ⟨Ab0, nb0, cb0, rfl, hb0, hb1⟩ := h'
 show Calls Tryz.prog 47 #[.agg #[.int .i64 id_, .string name_, .int .i64 txg_, .int .i64 prev_, .int .i64 tree_root_at_, .int .i64 tree_root_birth_, .int .i64 tree_root_size_, .int .i64 tree_root_sum_, .int .i64 tree_root_level_, .int .i64 tree_depth_, .int .i64 tree_many_, .slice Aa0 na0 ca0], .agg #[.int .i64 id_, .string name_, .int .i64 txg_, .int .i64 prev_, .int .i64 tree_root_at_, .int .i64 tree_root_birth_, .int .i64 tree_root_size_, .int .i64 tree_root_sum_, .int .i64 tree_root_level_, .int .i64 tree_depth_, .int .i64 tree_many_, .slice Ab0 nb0 cb0]] w _
 have Hha0 := Lib.hid ha0
 clear ha0
 have Hha1 := Lib.hid ha1
 clear ha1
 have Hhb0 := Lib.hid hb0
 clear hb0
 have Hhb1 := Lib.hid hb1
 clear hb1
 go_enter Tryz.func47, Tryz.ntmps47
 go_wp2_with fail
 have ga : ∀ ww, TreeR ww 0 0 [.int .i64 tree_root_at_, .int .i64 tree_root_birth_, .int .i64 tree_root_size_, .int .i64 tree_root_sum_, .int .i64 tree_root_level_, .int .i64 tree_depth_, .int .i64 tree_many_] ((tree_root_at_, tree_root_birth_, tree_root_size_, tree_root_sum_, tree_root_level_), tree_depth_, tree_many_) := fun _ => rfl
 have gb : ∀ ww, TreeR ww 0 0 [.int .i64 tree_root_at_, .int .i64 tree_root_birth_, .int .i64 tree_root_size_, .int .i64 tree_root_sum_, .int .i64 tree_root_level_, .int .i64 tree_depth_, .int .i64 tree_many_] ((tree_root_at_, tree_root_birth_, tree_root_size_, tree_root_sum_, tree_root_level_), tree_depth_, tree_many_) := fun _ => rfl
 refine (eqTree_yes _ _ _ _ _ _ _ _ (ga _) (gb _)).mono ?_
 rintro e w1 ⟨rfl, hb1⟩
 clear ga gb
 have X1 : Below w.heap.size w w1 := bel2.trans (hb1.mono (by first | exact bel2.size | (simp <;> omega)))
 have c1_0_0 : w1.cell? ⟨w.heap.size, 0, none⟩ = some (.int .i64 id_) := (hb1.cell (by simp <;> omega)).trans (by simp [go_sem])
 have c1_0_1 : w1.cell? ⟨w.heap.size, 1, none⟩ = some (.string name_) := (hb1.cell (by simp <;> omega)).trans (by simp [go_sem])
 have c1_0_2 : w1.cell? ⟨w.heap.size, 2, none⟩ = some (.int .i64 txg_) := (hb1.cell (by simp <;> omega)).trans (by simp [go_sem])
 have c1_0_3 : w1.cell? ⟨w.heap.size, 3, none⟩ = some (.int .i64 prev_) := (hb1.cell (by simp <;> omega)).trans (by simp [go_sem])
 have c1_0_4 : w1.cell? ⟨w.heap.size, 4, none⟩ = some (.int .i64 tree_root_at_) := (hb1.cell (by simp <;> omega)).trans (by simp [go_sem])
 have c1_0_5 : w1.cell? ⟨w.heap.size, 5, none⟩ = some (.int .i64 tree_root_birth_) := (hb1.cell (by simp <;> omega)).trans (by simp [go_sem])
 have c1_0_6 : w1.cell? ⟨w.heap.size, 6, none⟩ = some (.int .i64 tree_root_size_) := (hb1.cell (by simp <;> omega)).trans (by simp [go_sem])
 have c1_0_7 : w1.cell? ⟨w.heap.size, 7, none⟩ = some (.int .i64 tree_root_sum_) := (hb1.cell (by simp <;> omega)).trans (by simp [go_sem])
 have c1_0_8 : w1.cell? ⟨w.heap.size, 8, none⟩ = some (.int .i64 tree_root_level_) := (hb1.cell (by simp <;> omega)).trans (by simp [go_sem])
 have c1_0_9 : w1.cell? ⟨w.heap.size, 9, none⟩ = some (.int .i64 tree_depth_) := (hb1.cell (by simp <;> omega)).trans (by simp [go_sem])
 have c1_0_10 : w1.cell? ⟨w.heap.size, 10, none⟩ = some (.int .i64 tree_many_) := (hb1.cell (by simp <;> omega)).trans (by simp [go_sem])
 have c1_0_11 : w1.cell? ⟨w.heap.size, 11, none⟩ = some (.slice Aa0 na0 ca0) := (hb1.cell (by simp <;> omega)).trans (by simp [go_sem])
 have c1_1_0 : w1.cell? ⟨w.heap.size + 1, 0, none⟩ = some (.int .i64 id_) := (hb1.cell (by simp <;> omega)).trans (by simp [go_sem])
 have c1_1_1 : w1.cell? ⟨w.heap.size + 1, 1, none⟩ = some (.string name_) := (hb1.cell (by simp <;> omega)).trans (by simp [go_sem])
 have c1_1_2 : w1.cell? ⟨w.heap.size + 1, 2, none⟩ = some (.int .i64 txg_) := (hb1.cell (by simp <;> omega)).trans (by simp [go_sem])
 have c1_1_3 : w1.cell? ⟨w.heap.size + 1, 3, none⟩ = some (.int .i64 prev_) := (hb1.cell (by simp <;> omega)).trans (by simp [go_sem])
 have c1_1_4 : w1.cell? ⟨w.heap.size + 1, 4, none⟩ = some (.int .i64 tree_root_at_) := (hb1.cell (by simp <;> omega)).trans (by simp [go_sem])
 have c1_1_5 : w1.cell? ⟨w.heap.size + 1, 5, none⟩ = some (.int .i64 tree_root_birth_) := (hb1.cell (by simp <;> omega)).trans (by simp [go_sem])
 have c1_1_6 : w1.cell? ⟨w.heap.size + 1, 6, none⟩ = some (.int .i64 tree_root_size_) := (hb1.cell (by simp <;> omega)).trans (by simp [go_sem])
 have c1_1_7 : w1.cell? ⟨w.heap.size + 1, 7, none⟩ = some (.int .i64 tree_root_sum_) := (hb1.cell (by simp <;> omega)).trans (by simp [go_sem])
 have c1_1_8 : w1.cell? ⟨w.heap.size + 1, 8, none⟩ = some (.int .i64 tree_root_level_) := (hb1.cell (by simp <;> omega)).trans (by simp [go_sem])
 have c1_1_9 : w1.cell? ⟨w.heap.size + 1, 9, none⟩ = some (.int .i64 tree_depth_) := (hb1.cell (by simp <;> omega)).trans (by simp [go_sem])
 have c1_1_10 : w1.cell? ⟨w.heap.size + 1, 10, none⟩ = some (.int .i64 tree_many_) := (hb1.cell (by simp <;> omega)).trans (by simp [go_sem])
 have c1_1_11 : w1.cell? ⟨w.heap.size + 1, 11, none⟩ = some (.slice Ab0 nb0 cb0) := (hb1.cell (by simp <;> omega)).trans (by simp [go_sem])
 clear hb1
 go_wp2_with fail
 refine (eqPtrS_yes _ _ _ _ _ _ dead_ _ _ _ _ _ (SliceR.below Hha1.out X1 (PtrR.below X1 Hha1.out.lo_le)) (SliceR.below Hhb1.out X1 (PtrR.below X1 Hhb1.out.lo_le))).mono ?_
 rintro e w2 ⟨rfl, hb2⟩
 have X2 : Below w.heap.size w w2 := X1.trans (hb2.mono (by first | exact X1.size | (simp <;> omega)))
 have c2_0_0 := (hb2.cell (World.block_lt_of_cell? _ _ c1_0_0)).trans c1_0_0
 have c2_0_1 := (hb2.cell (World.block_lt_of_cell? _ _ c1_0_1)).trans c1_0_1
 have c2_0_2 := (hb2.cell (World.block_lt_of_cell? _ _ c1_0_2)).trans c1_0_2
 have c2_0_3 := (hb2.cell (World.block_lt_of_cell? _ _ c1_0_3)).trans c1_0_3
 have c2_0_4 := (hb2.cell (World.block_lt_of_cell? _ _ c1_0_4)).trans c1_0_4
 have c2_0_5 := (hb2.cell (World.block_lt_of_cell? _ _ c1_0_5)).trans c1_0_5
 have c2_0_6 := (hb2.cell (World.block_lt_of_cell? _ _ c1_0_6)).trans c1_0_6
 have c2_0_7 := (hb2.cell (World.block_lt_of_cell? _ _ c1_0_7)).trans c1_0_7
 have c2_0_8 := (hb2.cell (World.block_lt_of_cell? _ _ c1_0_8)).trans c1_0_8
 have c2_0_9 := (hb2.cell (World.block_lt_of_cell? _ _ c1_0_9)).trans c1_0_9
 have c2_0_10 := (hb2.cell (World.block_lt_of_cell? _ _ c1_0_10)).trans c1_0_10
 have c2_0_11 := (hb2.cell (World.block_lt_of_cell? _ _ c1_0_11)).trans c1_0_11
 have c2_1_0 := (hb2.cell (World.block_lt_of_cell? _ _ c1_1_0)).trans c1_1_0
 have c2_1_1 := (hb2.cell (World.block_lt_of_cell? _ _ c1_1_1)).trans c1_1_1
 have c2_1_2 := (hb2.cell (World.block_lt_of_cell? _ _ c1_1_2)).trans c1_1_2
 have c2_1_3 := (hb2.cell (World.block_lt_of_cell? _ _ c1_1_3)).trans c1_1_3
 have c2_1_4 := (hb2.cell (World.block_lt_of_cell? _ _ c1_1_4)).trans c1_1_4
 have c2_1_5 := (hb2.cell (World.block_lt_of_cell? _ _ c1_1_5)).trans c1_1_5
 have c2_1_6 := (hb2.cell (World.block_lt_of_cell? _ _ c1_1_6)).trans c1_1_6
 have c2_1_7 := (hb2.cell (World.block_lt_of_cell? _ _ c1_1_7)).trans c1_1_7
 have c2_1_8 := (hb2.cell (World.block_lt_of_cell? _ _ c1_1_8)).trans c1_1_8
 have c2_1_9 := (hb2.cell (World.block_lt_of_cell? _ _ c1_1_9)).trans c1_1_9
 have c2_1_10 := (hb2.cell (World.block_lt_of_cell? _ _ c1_1_10)).trans c1_1_10
 have c2_1_11 := (hb2.cell (World.block_lt_of_cell? _ _ c1_1_11)).trans c1_1_11
 clear c1_0_0 c1_0_1 c1_0_2 c1_0_3 c1_0_4 c1_0_5 c1_0_6 c1_0_7 c1_0_8 c1_0_9 c1_0_10 c1_0_11 c1_1_0 c1_1_1 c1_1_2 c1_1_3 c1_1_4 c1_1_5 c1_1_6 c1_1_7 c1_1_8 c1_1_9 c1_1_10 c1_1_11
 clear hb2 X1
 go_wp2_with fail
 go_ret
 exact ⟨rfl, X2⟩
set_option maxRecDepth 100000 in
set_option maxHeartbeats 2000000 in
theorem eqSnapS_yes (A B : Option Addr) (n c m d : Nat) (xs : List SnapD) (w : World) (lo hi lo' hi' : Nat) (h : SliceR SnapR 12 w lo hi A n c xs) (h' : SliceR SnapR 12 w lo' hi' B m d xs) :
 Calls Tryz.prog 20 #[.slice A n c, .slice B m d] w fun e w' => e = .returned (.bool true) ∧ Below w.heap.size w w' := by
 obtain rfl : m = n := by have := h.len; have := h'.len; omega
 have hn := h.max
 have hl := Lib.hid h.len
 have H := Lib.hid h
 have H' := Lib.hid h'
 clear h h'
 go_enter Tryz.func20, Tryz.ntmps20
 go_wp2_with fail
 go_loopw [5] (fun i wr => ∃ k : Nat, k ≤ m ∧ i = .int .i64 k ∧ Below w.heap.size w wr) (fun i _ => m - (intOf i).toNat)
 case atStart => exact ⟨0, Nat.zero_le _, rfl, Below.refl _ _⟩
 obtain ⟨k, hk, rfl, hB⟩ := hrel
 by_cases hlt : k < m
 · obtain ⟨x, hx⟩ : ∃ x, xs[k]? = some x := ⟨xs[k]'(by rw [hl.out]; exact hlt), List.getElem?_eq_getElem _⟩
   have g := SliceR.below H.out hB (SnapR.below hB H.out.lo_le)
   have g' := SliceR.below H'.out hB (SnapR.below hB H'.out.lo_le)
   obtain ⟨b, off, rfl, _, _, bl, hc⟩ := g.at_ (by omega)
   obtain ⟨b', off', rfl, _, _, bl', hc'⟩ := g'.at_ (by omega)
   obtain ⟨cs, hcl, hcc, hr⟩ := hc k x hx
   obtain ⟨cs', hcl', hcc', hr'⟩ := hc' k x hx
   clear hc hc' hx g g'
   have G := Lib.hid hr
   have G' := Lib.hid hr'
   obtain ⟨v0, v1, v2, v3, v4, v5, v6, v7, v8, v9, v10, v11, rfl⟩ := list12 hcl
   obtain ⟨u0, u1, u2, u3, u4, u5, u6, u7, u8, u9, u10, u11, rfl⟩ := list12 hcl'
   have q0 := hcc 0 _ rfl
   have r0 := hcc' 0 _ rfl
   have q1 := hcc 1 _ rfl
   have r1 := hcc' 1 _ rfl
   have q2 := hcc 2 _ rfl
   have r2 := hcc' 2 _ rfl
   have q3 := hcc 3 _ rfl
   have r3 := hcc' 3 _ rfl
   have q4 := hcc 4 _ rfl
   have r4 := hcc' 4 _ rfl
   have q5 := hcc 5 _ rfl
   have r5 := hcc' 5 _ rfl
   have q6 := hcc 6 _ rfl
   have r6 := hcc' 6 _ rfl
   have q7 := hcc 7 _ rfl
   have r7 := hcc' 7 _ rfl
   have q8 := hcc 8 _ rfl
   have r8 := hcc' 8 _ rfl
   have q9 := hcc 9 _ rfl
   have r9 := hcc' 9 _ rfl
   have q10 := hcc 10 _ rfl
   have r10 := hcc' 10 _ rfl
   have q11 := hcc 11 _ rfl
   have r11 := hcc' 11 _ rfl
   simp only [Nat.add_zero] at q0 r0
   clear hcc hcc' hcl hcl' hr hr'
   have hhi := H.out.lo_le
   have hhi' := H'.out.lo_le
   have hi1 : hi ≤ wr.heap.size := Nat.le_trans hhi hB.size
   have hi2 : hi' ≤ wr.heap.size := Nat.le_trans hhi' hB.size
   clear hhi hhi'
   have k0 : (0 : Int) ≤ (k : Int) := by omega
   have k1 : (k : Int) < (m : Int) := by omega
   go_wp2_with fail
   apply wp_region_rg (by kernel_rfl) rl0FamEq rl1FamEq [[], [], [0, 1], [2], [], [], [4, 5], [6], [3, 7], [8]] [.is _, .is _, .is _, .is _, .is _, .is _, .is _, .is _, .is _, .is _] (by kernel_rfl)
   case hobs =>
    refine ⟨fun y w' hS hF K hK => ?_, ?_⟩
    · skip
      simp only [fillL, rl0FamEq, rl1FamEq, cond_true, cond_false, zG0, zG1, StP.is, Act.put, zS2, zS0, zS1, Nat.reduceAdd] at hK ⊢
      refine rg_yes (by kernel_rfl) ?_
      clear hF
      go_simp
      exact hK _ _ (Ext.refl _) rfl
    refine ⟨fun y w' hS hF K hK => ?_, ?_⟩
    · skip
      simp only [fillL, rl0FamEq, rl1FamEq, cond_true, cond_false, zG0, zG1, StP.is, Act.put, zS2, zS0, zS1, Nat.reduceAdd] at hK ⊢
      refine rg_yes (by kernel_rfl) ?_
      clear hF
      go_simp
      exact hK _ _ (Ext.refl _) rfl
    refine ⟨fun y w' hS hF K hK => ?_, ?_⟩
    · skip
      have e17 : y 17 = _ := hF.1
      have e18 : y 18 = _ := hF.2.1
      simp only [fillL, rl0FamEq, rl1FamEq, cond_true, cond_false, zG0, zG1, StP.is, Act.put, zS2, zS0, zS1, Nat.reduceAdd, e17, e18] at hK ⊢
      refine rg_yes (by kernel_rfl) ?_
      clear e17 e18
      clear hF
      go_simp
      exact hK _ _ (Ext.refl _) rfl
    refine ⟨fun y w' hS hF K hK => ?_, ?_⟩
    · skip
      have e19 : y 19 = _ := hF.1
      simp only [fillL, rl0FamEq, rl1FamEq, cond_true, cond_false, zG0, zG1, StP.is, Act.put, zS2, zS0, zS1, Nat.reduceAdd, e19] at hK ⊢
      refine rg_yes (by kernel_rfl) ?_
      have q0 := (Below.cell hS bl).trans q0
      have q1 := (Below.cell hS bl).trans q1
      have q2 := (Below.cell hS bl).trans q2
      have q3 := (Below.cell hS bl).trans q3
      have q4 := (Below.cell hS bl).trans q4
      have q5 := (Below.cell hS bl).trans q5
      have q6 := (Below.cell hS bl).trans q6
      have q7 := (Below.cell hS bl).trans q7
      have q8 := (Below.cell hS bl).trans q8
      have q9 := (Below.cell hS bl).trans q9
      have q10 := (Below.cell hS bl).trans q10
      have q11 := (Below.cell hS bl).trans q11
      have q12 := (Below.cell hS bl').trans r0
      have q13 := (Below.cell hS bl').trans r1
      have q14 := (Below.cell hS bl').trans r2
      have q15 := (Below.cell hS bl').trans r3
      have q16 := (Below.cell hS bl').trans r4
      have q17 := (Below.cell hS bl').trans r5
      have q18 := (Below.cell hS bl').trans r6
      have q19 := (Below.cell hS bl').trans r7
      have q20 := (Below.cell hS bl').trans r8
      have q21 := (Below.cell hS bl').trans r9
      have q22 := (Below.cell hS bl').trans r10
      have q23 := (Below.cell hS bl').trans r11
      clear e19
      clear hF
      go_simp
      exact hK _ _ (Ext.refl _) rfl
    refine ⟨fun y w' hS hF K hK => ?_, ?_⟩
    · skip
      simp only [fillL, rl0FamEq, rl1FamEq, cond_true, cond_false, zG0, zG1, StP.is, Act.put, zS2, zS0, zS1, Nat.reduceAdd] at hK ⊢
      refine rg_yes (by kernel_rfl) ?_
      clear hF
      go_simp
      exact hK _ _ (Ext.refl _) rfl
    refine ⟨fun y w' hS hF K hK => ?_, ?_⟩
    · skip
      simp only [fillL, rl0FamEq, rl1FamEq, cond_true, cond_false, zG0, zG1, StP.is, Act.put, zS2, zS0, zS1, Nat.reduceAdd] at hK ⊢
      refine rg_yes (by kernel_rfl) ?_
      clear hF
      go_simp
      exact hK _ _ (Ext.refl _) rfl
    refine ⟨fun y w' hS hF K hK => ?_, ?_⟩
    · skip
      have e21 : y 21 = _ := hF.1
      have e22 : y 22 = _ := hF.2.1
      simp only [fillL, rl0FamEq, rl1FamEq, cond_true, cond_false, zG0, zG1, StP.is, Act.put, zS2, zS0, zS1, Nat.reduceAdd, e21, e22] at hK ⊢
      refine rg_yes (by kernel_rfl) ?_
      clear e21 e22
      clear hF
      go_simp
      exact hK _ _ (Ext.refl _) rfl
    refine ⟨fun y w' hS hF K hK => ?_, ?_⟩
    · skip
      have e23 : y 23 = _ := hF.1
      simp only [fillL, rl0FamEq, rl1FamEq, cond_true, cond_false, zG0, zG1, StP.is, Act.put, zS2, zS0, zS1, Nat.reduceAdd, e23] at hK ⊢
      refine rg_yes (by kernel_rfl) ?_
      have q0 := (Below.cell hS bl).trans q0
      have q1 := (Below.cell hS bl).trans q1
      have q2 := (Below.cell hS bl).trans q2
      have q3 := (Below.cell hS bl).trans q3
      have q4 := (Below.cell hS bl).trans q4
      have q5 := (Below.cell hS bl).trans q5
      have q6 := (Below.cell hS bl).trans q6
      have q7 := (Below.cell hS bl).trans q7
      have q8 := (Below.cell hS bl).trans q8
      have q9 := (Below.cell hS bl).trans q9
      have q10 := (Below.cell hS bl).trans q10
      have q11 := (Below.cell hS bl).trans q11
      have q12 := (Below.cell hS bl').trans r0
      have q13 := (Below.cell hS bl').trans r1
      have q14 := (Below.cell hS bl').trans r2
      have q15 := (Below.cell hS bl').trans r3
      have q16 := (Below.cell hS bl').trans r4
      have q17 := (Below.cell hS bl').trans r5
      have q18 := (Below.cell hS bl').trans r6
      have q19 := (Below.cell hS bl').trans r7
      have q20 := (Below.cell hS bl').trans r8
      have q21 := (Below.cell hS bl').trans r9
      have q22 := (Below.cell hS bl').trans r10
      have q23 := (Below.cell hS bl').trans r11
      clear e23
      clear hF
      go_simp
      exact hK _ _ (Ext.refl _) rfl
    refine ⟨fun y w' hS hF K hK => ?_, ?_⟩
    · skip
      have e20 : y 20 = _ := hF.1
      have e24 : y 24 = _ := hF.2.1
      simp only [fillL, rl0FamEq, rl1FamEq, cond_true, cond_false, zG0, zG1, StP.is, Act.put, zS2, zS0, zS1, Nat.reduceAdd, e20, e24] at hK ⊢
      refine rg_yes (by kernel_rfl) ?_
      clear e20 e24
      clear hF
      go_simp
      go_at_call 47
      refine (eqSnap_yes _ _ x _ _ _ _ _ (SnapR.below hS hi1 _ _ G.out) (SnapR.below hS hi2 _ _ G'.out)).mono ?_
      rintro e w'' ⟨rfl, hb⟩
      exact hK _ _ hb rfl
    refine ⟨fun y w' hS hF K hK => ?_, ?_⟩
    · skip
      have e25 : y 25 = _ := hF.1
      simp only [fillL, rl0FamEq, rl1FamEq, cond_true, cond_false, zG0, zG1, StP.is, Act.put, zS2, zS0, zS1, Nat.reduceAdd, e25] at hK ⊢
      refine rg_yes (by kernel_rfl) ?_
      clear e25
      clear hF
      go_simp
      exact hK _ _ (Ext.refl _) rfl
    trivial
   intro y w2 hX hF
   have e26 : y 26 = _ := hF.2.2.2.2.2.2.2.2.2.1
   clear hF
   simp only [fillL, rl0FamEq, rl1FamEq, cond_true, cond_false, Nat.reduceAdd, e26]
   clear e26
   have hB2 : Below w.heap.size w w2 := hB.trans (Below.mono hX hB.size)
   clear hX hB
   go_wp2_with fail
   go_roundw
   case rel => exact ⟨k + 1, by omega, by go_num, hB2⟩
   simp [intOf]; omega
 go_wp2_with fail
 go_ret
 exact ⟨rfl, hB⟩
set_option maxHeartbeats 1000000 in
theorem eqMeta_yes (cs cs' : List Value) (x : MetaD) (w : World) (lo hi lo' hi' : Nat) (h : MetaR w lo hi cs x) (h' : MetaR w lo' hi' cs' x) :
 Calls Tryz.prog 6 #[.agg cs.toArray, .agg cs'.toArray] w fun e w' => e = .returned (.bool true) ∧ Below w.heap.size w w' := by
 obtain ⟨heads_, snaps_, next_, same_⟩ := x
 obtain ⟨Aa0, na0, ca0, Aa1, na1, ca1, rfl, ha0, ha1⟩ := h
 obtain ⟨Ab0, nb0, cb0, Ab1, nb1, cb1, rfl, hb0, hb1⟩ := h'
 show Calls Tryz.prog 6 #[.agg #[.slice Aa0 na0 ca0, .slice Aa1 na1 ca1, .int .i64 next_, .bool same_], .agg #[.slice Ab0 nb0 cb0, .slice Ab1 nb1 cb1, .int .i64 next_, .bool same_]] w _
 have Hha0 := Lib.hid ha0
 clear ha0
 have Hha1 := Lib.hid ha1
 clear ha1
 have Hhb0 := Lib.hid hb0
 clear hb0
 have Hhb1 := Lib.hid hb1
 clear hb1
 go_enter Tryz.func6, Tryz.ntmps6
 go_wp2_with fail
 refine (eqHeadS_yes _ _ _ _ _ _ heads_ _ _ _ _ _ (SliceR.below Hha0.out bel2 (HeadR.below bel2 Hha0.out.lo_le)) (SliceR.below Hhb0.out bel2 (HeadR.below bel2 Hhb0.out.lo_le))).mono ?_
 rintro e w1 ⟨rfl, hb1⟩
 have X1 : Below w.heap.size w w1 := bel2.trans (hb1.mono (by first | exact bel2.size | (simp <;> omega)))
 have c1_0_0 : w1.cell? ⟨w.heap.size, 0, none⟩ = some (.slice Aa0 na0 ca0) := (hb1.cell (by simp <;> omega)).trans (by simp [go_sem])
 have c1_0_1 : w1.cell? ⟨w.heap.size, 1, none⟩ = some (.slice Aa1 na1 ca1) := (hb1.cell (by simp <;> omega)).trans (by simp [go_sem])
 have c1_0_2 : w1.cell? ⟨w.heap.size, 2, none⟩ = some (.int .i64 next_) := (hb1.cell (by simp <;> omega)).trans (by simp [go_sem])
 have c1_0_3 : w1.cell? ⟨w.heap.size, 3, none⟩ = some (.bool same_) := (hb1.cell (by simp <;> omega)).trans (by simp [go_sem])
 have c1_1_0 : w1.cell? ⟨w.heap.size + 1, 0, none⟩ = some (.slice Ab0 nb0 cb0) := (hb1.cell (by simp <;> omega)).trans (by simp [go_sem])
 have c1_1_1 : w1.cell? ⟨w.heap.size + 1, 1, none⟩ = some (.slice Ab1 nb1 cb1) := (hb1.cell (by simp <;> omega)).trans (by simp [go_sem])
 have c1_1_2 : w1.cell? ⟨w.heap.size + 1, 2, none⟩ = some (.int .i64 next_) := (hb1.cell (by simp <;> omega)).trans (by simp [go_sem])
 have c1_1_3 : w1.cell? ⟨w.heap.size + 1, 3, none⟩ = some (.bool same_) := (hb1.cell (by simp <;> omega)).trans (by simp [go_sem])
 clear hb1
 go_wp2_with fail
 refine (eqSnapS_yes _ _ _ _ _ _ snaps_ _ _ _ _ _ (SliceR.below Hha1.out X1 (SnapR.below X1 Hha1.out.lo_le)) (SliceR.below Hhb1.out X1 (SnapR.below X1 Hhb1.out.lo_le))).mono ?_
 rintro e w2 ⟨rfl, hb2⟩
 have X2 : Below w.heap.size w w2 := X1.trans (hb2.mono (by first | exact X1.size | (simp <;> omega)))
 have c2_0_0 := (hb2.cell (World.block_lt_of_cell? _ _ c1_0_0)).trans c1_0_0
 have c2_0_1 := (hb2.cell (World.block_lt_of_cell? _ _ c1_0_1)).trans c1_0_1
 have c2_0_2 := (hb2.cell (World.block_lt_of_cell? _ _ c1_0_2)).trans c1_0_2
 have c2_0_3 := (hb2.cell (World.block_lt_of_cell? _ _ c1_0_3)).trans c1_0_3
 have c2_1_0 := (hb2.cell (World.block_lt_of_cell? _ _ c1_1_0)).trans c1_1_0
 have c2_1_1 := (hb2.cell (World.block_lt_of_cell? _ _ c1_1_1)).trans c1_1_1
 have c2_1_2 := (hb2.cell (World.block_lt_of_cell? _ _ c1_1_2)).trans c1_1_2
 have c2_1_3 := (hb2.cell (World.block_lt_of_cell? _ _ c1_1_3)).trans c1_1_3
 clear c1_0_0 c1_0_1 c1_0_2 c1_0_3 c1_1_0 c1_1_1 c1_1_2 c1_1_3
 clear hb2 X1
 go_wp2_with fail
 go_ret
 exact ⟨rfl, X2⟩
end Go.Proofs.YtlacpcdbgimnmaaGreatDoor
