/- IntentPut of the program and of the reference. Condition: the table of powers of ten and the library's length lie in memory. -/
import Derived.Test.YtggdjiklgakfnaaGreatDoorOpOk2
import Derived.Test.YtggdjiklgakfnaaGreatDoorOpPut
namespace Go.Proofs.YtggdjiklgakfnaaGreatDoor
set_option linter.unusedVariables false
set_option linter.unusedSimpArgs false
set_option linter.unnecessarySimpa false
open Go Go.Lib Go.RowKit

theorem intF_le {x : IntS} (h : intB x = true) : ∀ f ∈ intF x, f.length ≤ 1099511627776 := by
  obtain ⟨_, _, h3, h4⟩ := intB_parts h
  have h3 := (namB_iff.1 h3).1
  have e1 := numS_len x.1; have e2 := numS_len x.2.1; have e4 := opS_len x.2.2.2
  intro f hf
  unfold intF at hf
  simp only [List.mem_cons, List.not_mem_nil, or_false] at hf
  rcases hf with rfl | rfl | rfl | rfl | rfl
  · simp
  all_goals omega
set_option maxRecDepth 100000 in
set_option maxHeartbeats 4000000 in
theorem spIntPut_any (g q : Int) (h : Str) (kd : Int) (p t : Str) (a : Int) (x : Str) (w : World) (hh : h.length ≤ 3000000000) (hp : p.length ≤ 3000000000) (ht : t.length ≤ 3000000000) (hx : x.length ≤ 3000000000) : Calls Tryz.prog 35 #[.agg #[.int .i64 g, .int .i64 q, .string (strB h), .int .i64 kd, .string (strB p), .string (strB t), .int .i64 a, .string (strB x)]] w (TextR (intS (g, q, h, kd, p, t, a, x)) w) := by
  obtain ⟨i0, hi0, hz0, hz1, hz2⟩ := info_parts info_strs
  go_enter Tryz.func35, Tryz.ntmps35
  go_wp2_with fail
  refine (spIntOk_any g q h kd p t a x _ hh hp ht hx).mono ?_
  rintro e w1 ⟨rfl, hb1⟩
  have HB1 := bel1.trans (hb1.mono (by simp))
  have c1_0 : w1.cell? ⟨w.heap.size, 0, none⟩ = some (.int .i64 g) := (hb1.cell (by simp)).trans (by simp [go_sem])
  have c1_1 : w1.cell? ⟨w.heap.size, 1, none⟩ = some (.int .i64 q) := (hb1.cell (by simp)).trans (by simp [go_sem])
  have c1_2 : w1.cell? ⟨w.heap.size, 2, none⟩ = some (.string (strB h)) := (hb1.cell (by simp)).trans (by simp [go_sem])
  have c1_3 : w1.cell? ⟨w.heap.size, 3, none⟩ = some (.int .i64 kd) := (hb1.cell (by simp)).trans (by simp [go_sem])
  have c1_4 : w1.cell? ⟨w.heap.size, 4, none⟩ = some (.string (strB p)) := (hb1.cell (by simp)).trans (by simp [go_sem])
  have c1_5 : w1.cell? ⟨w.heap.size, 5, none⟩ = some (.string (strB t)) := (hb1.cell (by simp)).trans (by simp [go_sem])
  have c1_6 : w1.cell? ⟨w.heap.size, 6, none⟩ = some (.int .i64 a) := (hb1.cell (by simp)).trans (by simp [go_sem])
  have c1_7 : w1.cell? ⟨w.heap.size, 7, none⟩ = some (.string (strB x)) := (hb1.cell (by simp)).trans (by simp [go_sem])
  have l1 : w.heap.size < w1.heap.size := World.block_lt_of_cell? w1 _ c1_0
  clear hb1
  obtain ⟨ok, hok⟩ : ∃ ok, ok = intB (g, q, h, kd, p, t, a, x) := ⟨_, rfl⟩
  have HOK := Lib.hid hok.symm
  rw [← hok]
  clear hok
  cases ok
  · go_wp2_with fail
    go_ret
    exact ⟨ret_str (by rw [intS_no HOK.out]; rfl), HB1⟩
  have HB1 := Lib.hid HB1
  obtain ⟨⟨g0, g1⟩, ⟨q0, q1⟩, _, _⟩ := intB_parts HOK.out
  simp only at g0 g1 q0 q1
  have HLE := Lib.hid (intF_le HOK.out)
  go_wp2_with fail
  apply wp_region_rgm (Own (w1.heap.size)) (Ext) (fun _ _ => True) (0 :: 0 :: 0 :: 0 :: 0 :: 0 :: 0 :: 0 :: 0 :: 0 :: 0 :: 0 :: 0 :: []) (by kernel_rfl) (false :: false :: false :: true :: false :: false :: false :: false :: false :: false :: false :: true :: true :: true :: true :: true :: true :: true :: true :: true :: true :: true :: true :: false :: false :: false :: false :: false :: false :: false :: false :: false :: false :: false :: false :: false :: false :: false :: false :: []) (some 11 :: some 12 :: some 13 :: some 14 :: some 15 :: some 16 :: some 17 :: some 18 :: some 19 :: some 20 :: some 21 :: some 22 :: some 3 :: []) ([] :: [0] :: [1] :: [] :: [3] :: [4] :: [] :: [6] :: [] :: [8] :: [9] :: [2, 5, 7, 10] :: [11] :: []) (false :: false :: false :: false :: false :: false :: false :: false :: false :: false :: false :: false :: false :: []) (true :: true :: true :: true :: true :: true :: true :: true :: true :: true :: true :: false :: false :: []) [12] (MStP.is _ :: MStP.is _ :: MStP.is _ :: MStP.is _ :: MStP.is _ :: MStP.is _ :: MStP.is _ :: MStP.is _ :: MStP.is _ :: MStP.is _ :: MStP.is _ :: softStrs (w1.heap.size) (intF (g, q, h, kd, p, t, a, x)) :: softStrs (w1.heap.size) (intF (g, q, h, kd, p, t, a, x)) :: []) (by kernel_rfl) (by kernel_rfl) (by kernel_rfl)
  case hobs =>
    refine ⟨fun y w' k hS hj hk hF K hK => ?_, ?_⟩
    · skip -- 0: fieldAddr
      simp only [fillL, cond_true, cond_false, List.getD_cons_zero, List.getD_cons_succ, StP.is, Act.put, List.setIfInBounds_toArray, List.set_cons_zero, List.set_cons_succ, Nat.reduceAdd, MStP.is, Option.isSome_some, Option.isSome_none] at hK ⊢
      refine rg_yes (by kernel_rfl) ?_
      clear hF
      go_simp
      exact hK _ _ (Ext.refl _) trivial rfl
    refine ⟨fun y w' k hS hj hk hF K hK => ?_, ?_⟩
    · skip -- 1: load
      have e11 : y 11 = _ := hF.1
      simp only [fillL, cond_true, cond_false, List.getD_cons_zero, List.getD_cons_succ, StP.is, Act.put, List.setIfInBounds_toArray, List.set_cons_zero, List.set_cons_succ, Nat.reduceAdd, e11, MStP.is, Option.isSome_some, Option.isSome_none] at hK ⊢
      refine rg_yes (by kernel_rfl) ?_
      have hSb := hS.below
      have hBw := hSb.size
      have q0_ := (hSb.cell l1).trans c1_0
      have q1_ := (hSb.cell l1).trans c1_1
      have q2_ := (hSb.cell l1).trans c1_2
      have q3_ := (hSb.cell l1).trans c1_3
      have q4_ := (hSb.cell l1).trans c1_4
      have q5_ := (hSb.cell l1).trans c1_5
      have q6_ := (hSb.cell l1).trans c1_6
      have q7_ := (hSb.cell l1).trans c1_7
      clear e11
      clear hF
      go_simp
      exact hK _ _ (Ext.refl _) trivial rfl
    refine ⟨fun y w' k hS hj hk hF K hK => ?_, ?_⟩
    · skip -- 2: call
      have e12 : y 12 = _ := hF.1
      simp only [fillL, cond_true, cond_false, List.getD_cons_zero, List.getD_cons_succ, StP.is, Act.put, List.setIfInBounds_toArray, List.set_cons_zero, List.set_cons_succ, Nat.reduceAdd, e12, MStP.is, Option.isSome_some, Option.isSome_none] at hK ⊢
      refine rg_yes (by kernel_rfl) ?_
      have hSb := hS.below
      have hBw := hSb.size
      have q0_ := (hSb.cell l1).trans c1_0
      have q1_ := (hSb.cell l1).trans c1_1
      have q2_ := (hSb.cell l1).trans c1_2
      have q3_ := (hSb.cell l1).trans c1_3
      have q4_ := (hSb.cell l1).trans c1_4
      have q5_ := (hSb.cell l1).trans c1_5
      have q6_ := (hSb.cell l1).trans c1_6
      have q7_ := (hSb.cell l1).trans c1_7
      clear e12
      clear hF
      go_simp
      go_at_call 59
      refine (spDec_any g (by omega) (by omega) w').mono ?_
      rintro e w'' ⟨rfl, hb9⟩
      exact hK _ _ hb9 trivial rfl
    refine ⟨fun y w' k hS hj hk hF K hK => ?_, ?_⟩
    · skip -- 3: fieldAddr
      simp only [fillL, cond_true, cond_false, List.getD_cons_zero, List.getD_cons_succ, StP.is, Act.put, List.setIfInBounds_toArray, List.set_cons_zero, List.set_cons_succ, Nat.reduceAdd, MStP.is, Option.isSome_some, Option.isSome_none] at hK ⊢
      refine rg_yes (by kernel_rfl) ?_
      clear hF
      go_simp
      exact hK _ _ (Ext.refl _) trivial rfl
    refine ⟨fun y w' k hS hj hk hF K hK => ?_, ?_⟩
    · skip -- 4: load
      have e14 : y 14 = _ := hF.1
      simp only [fillL, cond_true, cond_false, List.getD_cons_zero, List.getD_cons_succ, StP.is, Act.put, List.setIfInBounds_toArray, List.set_cons_zero, List.set_cons_succ, Nat.reduceAdd, e14, MStP.is, Option.isSome_some, Option.isSome_none] at hK ⊢
      refine rg_yes (by kernel_rfl) ?_
      have hSb := hS.below
      have hBw := hSb.size
      have q0_ := (hSb.cell l1).trans c1_0
      have q1_ := (hSb.cell l1).trans c1_1
      have q2_ := (hSb.cell l1).trans c1_2
      have q3_ := (hSb.cell l1).trans c1_3
      have q4_ := (hSb.cell l1).trans c1_4
      have q5_ := (hSb.cell l1).trans c1_5
      have q6_ := (hSb.cell l1).trans c1_6
      have q7_ := (hSb.cell l1).trans c1_7
      clear e14
      clear hF
      go_simp
      exact hK _ _ (Ext.refl _) trivial rfl
    refine ⟨fun y w' k hS hj hk hF K hK => ?_, ?_⟩
    · skip -- 5: call
      have e15 : y 15 = _ := hF.1
      simp only [fillL, cond_true, cond_false, List.getD_cons_zero, List.getD_cons_succ, StP.is, Act.put, List.setIfInBounds_toArray, List.set_cons_zero, List.set_cons_succ, Nat.reduceAdd, e15, MStP.is, Option.isSome_some, Option.isSome_none] at hK ⊢
      refine rg_yes (by kernel_rfl) ?_
      have hSb := hS.below
      have hBw := hSb.size
      have q0_ := (hSb.cell l1).trans c1_0
      have q1_ := (hSb.cell l1).trans c1_1
      have q2_ := (hSb.cell l1).trans c1_2
      have q3_ := (hSb.cell l1).trans c1_3
      have q4_ := (hSb.cell l1).trans c1_4
      have q5_ := (hSb.cell l1).trans c1_5
      have q6_ := (hSb.cell l1).trans c1_6
      have q7_ := (hSb.cell l1).trans c1_7
      clear e15
      clear hF
      go_simp
      go_at_call 59
      refine (spDec_any q (by omega) (by omega) w').mono ?_
      rintro e w'' ⟨rfl, hb9⟩
      exact hK _ _ hb9 trivial rfl
    refine ⟨fun y w' k hS hj hk hF K hK => ?_, ?_⟩
    · skip -- 6: fieldAddr
      simp only [fillL, cond_true, cond_false, List.getD_cons_zero, List.getD_cons_succ, StP.is, Act.put, List.setIfInBounds_toArray, List.set_cons_zero, List.set_cons_succ, Nat.reduceAdd, MStP.is, Option.isSome_some, Option.isSome_none] at hK ⊢
      refine rg_yes (by kernel_rfl) ?_
      clear hF
      go_simp
      exact hK _ _ (Ext.refl _) trivial rfl
    refine ⟨fun y w' k hS hj hk hF K hK => ?_, ?_⟩
    · skip -- 7: load
      have e17 : y 17 = _ := hF.1
      simp only [fillL, cond_true, cond_false, List.getD_cons_zero, List.getD_cons_succ, StP.is, Act.put, List.setIfInBounds_toArray, List.set_cons_zero, List.set_cons_succ, Nat.reduceAdd, e17, MStP.is, Option.isSome_some, Option.isSome_none] at hK ⊢
      refine rg_yes (by kernel_rfl) ?_
      have hSb := hS.below
      have hBw := hSb.size
      have q0_ := (hSb.cell l1).trans c1_0
      have q1_ := (hSb.cell l1).trans c1_1
      have q2_ := (hSb.cell l1).trans c1_2
      have q3_ := (hSb.cell l1).trans c1_3
      have q4_ := (hSb.cell l1).trans c1_4
      have q5_ := (hSb.cell l1).trans c1_5
      have q6_ := (hSb.cell l1).trans c1_6
      have q7_ := (hSb.cell l1).trans c1_7
      clear e17
      clear hF
      go_simp
      exact hK _ _ (Ext.refl _) trivial rfl
    refine ⟨fun y w' k hS hj hk hF K hK => ?_, ?_⟩
    · skip -- 8: fieldAddr
      simp only [fillL, cond_true, cond_false, List.getD_cons_zero, List.getD_cons_succ, StP.is, Act.put, List.setIfInBounds_toArray, List.set_cons_zero, List.set_cons_succ, Nat.reduceAdd, MStP.is, Option.isSome_some, Option.isSome_none] at hK ⊢
      refine rg_yes (by kernel_rfl) ?_
      clear hF
      go_simp
      exact hK _ _ (Ext.refl _) trivial rfl
    refine ⟨fun y w' k hS hj hk hF K hK => ?_, ?_⟩
    · skip -- 9: load
      have e19 : y 19 = _ := hF.1
      simp only [fillL, cond_true, cond_false, List.getD_cons_zero, List.getD_cons_succ, StP.is, Act.put, List.setIfInBounds_toArray, List.set_cons_zero, List.set_cons_succ, Nat.reduceAdd, e19, MStP.is, Option.isSome_some, Option.isSome_none] at hK ⊢
      refine rg_yes (by kernel_rfl) ?_
      have hSb := hS.below
      have hBw := hSb.size
      have q0_ := (hSb.cell l1).trans c1_0
      have q1_ := (hSb.cell l1).trans c1_1
      have q2_ := (hSb.cell l1).trans c1_2
      have q3_ := (hSb.cell l1).trans c1_3
      have q4_ := (hSb.cell l1).trans c1_4
      have q5_ := (hSb.cell l1).trans c1_5
      have q6_ := (hSb.cell l1).trans c1_6
      have q7_ := (hSb.cell l1).trans c1_7
      clear e19
      clear hF
      go_simp
      exact hK _ _ (Ext.refl _) trivial rfl
    refine ⟨fun y w' k hS hj hk hF K hK => ?_, ?_⟩
    · skip -- 10: call
      have e20 : y 20 = _ := hF.1
      simp only [fillL, cond_true, cond_false, List.getD_cons_zero, List.getD_cons_succ, StP.is, Act.put, List.setIfInBounds_toArray, List.set_cons_zero, List.set_cons_succ, Nat.reduceAdd, e20, MStP.is, Option.isSome_some, Option.isSome_none] at hK ⊢
      refine rg_yes (by kernel_rfl) ?_
      have hSb := hS.below
      have hBw := hSb.size
      have q0_ := (hSb.cell l1).trans c1_0
      have q1_ := (hSb.cell l1).trans c1_1
      have q2_ := (hSb.cell l1).trans c1_2
      have q3_ := (hSb.cell l1).trans c1_3
      have q4_ := (hSb.cell l1).trans c1_4
      have q5_ := (hSb.cell l1).trans c1_5
      have q6_ := (hSb.cell l1).trans c1_6
      have q7_ := (hSb.cell l1).trans c1_7
      clear e20
      clear hF
      go_simp
      go_at_call 60
      refine (spOpPut_any kd p t a x w' hp ht hx).mono ?_
      rintro e w'' ⟨rfl, hb9⟩
      exact hK _ _ hb9 trivial rfl
    refine ⟨fun y w' k hS hj hk hF K hK => ?_, ?_⟩
    · skip -- 11: buildSlice
      have e13 : y 13 = _ := hF.1
      have e16 : y 16 = _ := hF.2.1
      have e18 : y 18 = _ := hF.2.2.1
      have e21 : y 21 = _ := hF.2.2.2.1
      simp only [fillL, cond_true, cond_false, List.getD_cons_zero, List.getD_cons_succ, StP.is, Act.put, List.setIfInBounds_toArray, List.set_cons_zero, List.set_cons_succ, Nat.reduceAdd, e13, e16, e18, e21, MStP.is, Option.isSome_some, Option.isSome_none] at hK ⊢
      refine rg_yes (by kernel_rfl) ?_
      have hSb := hS.below
      have hBw := hSb.size
      have q0_ := (hSb.cell l1).trans c1_0
      have q1_ := (hSb.cell l1).trans c1_1
      have q2_ := (hSb.cell l1).trans c1_2
      have q3_ := (hSb.cell l1).trans c1_3
      have q4_ := (hSb.cell l1).trans c1_4
      have q5_ := (hSb.cell l1).trans c1_5
      have q6_ := (hSb.cell l1).trans c1_6
      have q7_ := (hSb.cell l1).trans c1_7
      clear e13 e16 e18 e21
      clear hF
      go_simp
      exact hK _ _ (Ext.alloc _ _) trivial ⟨_, _, _, rfl, rfl, StrsIn.lit (fs := intF (g, q, h, kd, p, t, a, x)) hBw (heap_alloc_new _ _) rfl (by unfold maxLen; simp [intF])⟩
    refine ⟨fun y w' k hS hj hk hF K hK => ?_, ?_⟩
    · skip -- 12: assign
      obtain ⟨Ae22, ce22, ne22, e22, hxe22, hIe22⟩ := hF.1
      have hne22 := Lib.hid hxe22; clear hxe22
      simp only [fillL, cond_true, cond_false, List.getD_cons_zero, List.getD_cons_succ, StP.is, Act.put, List.setIfInBounds_toArray, List.set_cons_zero, List.set_cons_succ, Nat.reduceAdd, e22, MStP.is, Option.isSome_some, Option.isSome_none] at hK ⊢
      refine rg_yes (by kernel_rfl) ?_
      have hSb := hS.below
      have hBw := hSb.size
      have q0_ := (hSb.cell l1).trans c1_0
      have q1_ := (hSb.cell l1).trans c1_1
      have q2_ := (hSb.cell l1).trans c1_2
      have q3_ := (hSb.cell l1).trans c1_3
      have q4_ := (hSb.cell l1).trans c1_4
      have q5_ := (hSb.cell l1).trans c1_5
      have q6_ := (hSb.cell l1).trans c1_6
      have q7_ := (hSb.cell l1).trans c1_7
      clear e22
      clear hF
      go_simp
      exact hK _ _ (Ext.refl _) trivial ⟨_, _, _, rfl, hne22.out, hIe22⟩
    trivial
  case hH => rfl
  case hNS => exact Own.of_ext _
  case hSt => exact fun a b => Own.trans a b
  case hJ => exact fun _ _ _ _ h => h
  case hdrew => exact Own.drew _ _
  case hj0 => trivial
  case hend =>
    intro y w9 hS _ hF
    obtain ⟨A, c, n9, e3, hn9, hI9⟩ := hF.1
    clear hF
    simp only [fillL, cond_true, cond_false, Nat.reduceAdd, e3]
    clear e3
    have hbS := hS.below
    have hBW0 : w1.heap.size ≤ w1.heap.size := Nat.le_refl _
    obtain ⟨fs, hfs⟩ : ∃ fs, fs = intF (g, q, h, kd, p, t, a, x) := ⟨_, rfl⟩
    rw [← hfs] at hI9 hn9
    have hb : ∀ f ∈ fs, f.length ≤ 1099511627776 := by rw [hfs]; exact HLE.out
    have hl : fs.length ≤ 1000 := by rw [hfs]; simp [intF]
    have HFS := Lib.hid hfs
    have HI9 := Lib.hid hI9
    subst hn9
    clear hfs hS hI9 c1_0 c1_1 c1_2 c1_3 c1_4 c1_5 c1_6 c1_7
    go_wp2_with fail
    refine (spFieldsPut_any A c fs w9 HI9.out.row hb (by omega)).mono ?_
    rintro e w2 ⟨rfl, hb2⟩
    obtain ⟨X, hX⟩ : ∃ X, X = (fieldsF fs).1 := ⟨_, rfl⟩
    obtain ⟨xo, hxo⟩ : ∃ X, X = (fieldsF fs).2 := ⟨_, rfl⟩
    have hXl : (strB X).size ≤ 2048 := by rw [hX]; exact fieldsF_len fs
    rw [← hX, ← hxo]
    have HX := Lib.hid hX
    clear hX hxo
    have HBW1 : Below w1.heap.size w1 w2 := hbS.trans (hb2.mono hbS.size)
    have HI1 := Lib.hid (HI9.out.below hb2)
    clear HI9 hb2 hbS
    go_wp2_with fail
    refine (spSumOf_any (strB X) (by omega) w2).mono ?_
    rintro e w2' ⟨rfl, rfl⟩
    obtain ⟨v, hv⟩ : ∃ v : Nat, v = sumL (strB X).data.toList := ⟨_, rfl⟩
    have HV : Hid (v = sumL (fieldsF fs).1) := Lib.hid (by rw [hv, strB_dl, HX.out])
    rw [← hv]
    have hv9 : v ≤ 99460728 := by rw [hv]; exact sumL_lt _
    clear hv
    go_wp2_with fail
    refine (l6Dec_any v (by omega) w2).mono ?_
    rintro e w3 ⟨rfl, hb3⟩
    obtain ⟨z, hz⟩ : ∃ z, z = decDigits v := ⟨_, rfl⟩
    have hxl : z.length ≤ 9 := by rw [hz]; exact dec_len9 (by omega)
    rw [← hz]
    have HXX : Hid (z = numS (sumL (fieldsF fs).1 : Nat)) := Lib.hid (by rw [hz, HV.out, signed_num])
    clear hz HV
    have HBW : Below w1.heap.size w1 w3 := HBW1.trans (hb3.mono HBW1.size)
    have hBW : w1.heap.size ≤ w3.heap.size := HBW.size
    have HI := Lib.hid (HI1.out.below hb3)
    clear HI1 hb3 HBW1
    have hlen1 : fs.length + 1 ≤ 1001 := by omega
    obtain ⟨S, hOS, hSB⟩ := HI.out
    have HOA := Lib.hid (hOS.below (bel1 (o := .cells #[.string (strB z)] 9)))
    have HLIT := Lib.hid (fun (W : World) => RowAt.lit (w := W) (e := 9) (cur := #[.string (strB z)]) (m := 1) rfl)
    have HONE : Hid (∀ u ∈ [z].map strV, u.oneCell' = true) := Lib.hid (strs_one _)
    have HSB := Lib.hid hSB
    clear hOS hSB HI
    go_wp2_with (at_builtin; go_must (refine wpList_append_row rfl _ _ 67 rfl 9 i0 (.string ByteArray.empty) 1 16 Tryz.underlying67 hi0 hz0 hz1 hz2 rfl (by decide) S A _ fs.length c 1 _ (fs.map strV) ([z].map strV) rfl rfl HOA.out (HLIT.out _) HONE.out (by unfold maxLen; omega) (by omega) ?_))
    intro A' c' S' w5 hO' hS' hC'
    obtain ⟨hI5, hb5⟩ := app_strs (B := w1.heap.size) HSB.out (w1 := w3.alloc (.cells #[.string (strB z)] 9)) (fs := fs) (gs := [z]) (by simp; omega) (by rw [List.length_append, List.length_singleton]) hO' (fun g hg => (hS' g hg).imp id (fun h => by simpa using h)) hC'
    have HB5 : Below w1.heap.size w1 w5 := HBW.trans (((Below.refl _ _).alloc hBW _).trans hb5)
    have HI5 := Lib.hid hI5
    have hl5 : Hid (fs.length + 1 = (fs ++ [z]).length) := Lib.hid (by rw [List.length_append, List.length_singleton])
    have hb5' : ∀ f ∈ fs ++ [z], f.length ≤ 1099511627776 := by
      intro f hf
      rcases List.mem_append.1 hf with hf | hf
      · exact hb f hf
      · rw [List.mem_singleton] at hf; subst hf; omega
    have HM := Lib.hid hb5'
    clear hI5 hb5 hO' hS' hC' HOA HLIT HONE HSB hb5'
    have P5 := spFieldsPut_any A' c' (fs ++ [z]) w5 HI5.out.row HM.out (by rw [← hl5.out]; omega)
    rw [← hl5.out] at P5
    have P5 := Lib.hid P5
    go_wp2_with fail
    refine P5.out.mono ?_
    rintro e w6 ⟨rfl, hb6⟩
    obtain ⟨Y, hY⟩ : ∃ Y, Y = (fieldsF (fs ++ [z])).1 := ⟨_, rfl⟩
    obtain ⟨yo, hyo⟩ : ∃ Y, Y = (fieldsF (fs ++ [z])).2 := ⟨_, rfl⟩
    rw [← hY, ← hyo]
    have HY := Lib.hid hY
    clear hY hyo
    have HB6 : Below w1.heap.size w1 w6 := HB5.trans (hb6.mono (Nat.le_trans hBW0 HB5.size))
    go_wp2_with fail
    go_ret
    exact ⟨ret_str (by rw [intS_yes HOK.out, HY.out, HXX.out, HFS.out]; rfl), HB1.out.trans (HB6.mono HB1.out.size)⟩
set_option maxRecDepth 100000 in
set_option maxHeartbeats 4000000 in
theorem intPut_any (g q : Int) (h : Str) (kd : Int) (p t : Str) (a : Int) (x : Str) (w : World) (hT : Tab w) (hm : MLen w) (hh : h.length ≤ 3000000000) (hp : p.length ≤ 3000000000) (ht : t.length ≤ 3000000000) (hx : x.length ≤ 3000000000) : Calls Tryz.prog 71 #[.agg #[.int .i64 g, .int .i64 q, .string (strB h), .int .i64 kd, .string (strB p), .string (strB t), .int .i64 a, .string (strB x)]] w (TextR (intS (g, q, h, kd, p, t, a, x)) w) := by
  obtain ⟨i0, hi0, hz0, hz1, hz2⟩ := info_parts info_strs
  go_enter Tryz.func71, Tryz.ntmps71
  go_wp2_with fail
  refine (intOk_any g q h kd p t a x _ (hm.below bel1) hh hp ht hx).mono ?_
  rintro e w1 ⟨rfl, hb1⟩
  have HB1 := bel1.trans (hb1.mono (by simp))
  have c1_0 : w1.cell? ⟨w.heap.size, 0, none⟩ = some (.int .i64 g) := (hb1.cell (by simp)).trans (by simp [go_sem])
  have c1_1 : w1.cell? ⟨w.heap.size, 1, none⟩ = some (.int .i64 q) := (hb1.cell (by simp)).trans (by simp [go_sem])
  have c1_2 : w1.cell? ⟨w.heap.size, 2, none⟩ = some (.string (strB h)) := (hb1.cell (by simp)).trans (by simp [go_sem])
  have c1_3 : w1.cell? ⟨w.heap.size, 3, none⟩ = some (.int .i64 kd) := (hb1.cell (by simp)).trans (by simp [go_sem])
  have c1_4 : w1.cell? ⟨w.heap.size, 4, none⟩ = some (.string (strB p)) := (hb1.cell (by simp)).trans (by simp [go_sem])
  have c1_5 : w1.cell? ⟨w.heap.size, 5, none⟩ = some (.string (strB t)) := (hb1.cell (by simp)).trans (by simp [go_sem])
  have c1_6 : w1.cell? ⟨w.heap.size, 6, none⟩ = some (.int .i64 a) := (hb1.cell (by simp)).trans (by simp [go_sem])
  have c1_7 : w1.cell? ⟨w.heap.size, 7, none⟩ = some (.string (strB x)) := (hb1.cell (by simp)).trans (by simp [go_sem])
  have l1 : w.heap.size < w1.heap.size := World.block_lt_of_cell? w1 _ c1_0
  clear hb1
  obtain ⟨ok, hok⟩ : ∃ ok, ok = intB (g, q, h, kd, p, t, a, x) := ⟨_, rfl⟩
  have HOK := Lib.hid hok.symm
  rw [← hok]
  clear hok
  cases ok
  · go_wp2_with fail
    go_ret
    exact ⟨ret_str (by rw [intS_no HOK.out]; rfl), HB1⟩
  have HB1 := Lib.hid HB1
  obtain ⟨⟨g0, g1⟩, ⟨q0, q1⟩, _, _⟩ := intB_parts HOK.out
  simp only at g0 g1 q0 q1
  have HT1 : Hid (TabB w1.heap.size w1) := Lib.hid (hT.below HB1.out).toB
  have HM1 := Lib.hid (hm.below HB1.out)
  clear hT hm
  have HLE := Lib.hid (intF_le HOK.out)
  go_wp2_with fail
  apply wp_region_rgm (Own (w1.heap.size)) (Ext) (fun _ _ => True) (0 :: 0 :: 0 :: 0 :: 0 :: 0 :: 0 :: 0 :: 0 :: 0 :: 0 :: 0 :: 0 :: 0 :: []) (by kernel_rfl) (false :: false :: true :: false :: false :: false :: true :: true :: true :: true :: true :: true :: true :: true :: true :: true :: true :: true :: true :: []) (some 6 :: some 7 :: some 8 :: some 9 :: some 10 :: some 11 :: some 12 :: some 13 :: some 14 :: some 15 :: some 16 :: some 17 :: some 18 :: some 2 :: []) ([] :: [0] :: [1] :: [] :: [3] :: [4] :: [] :: [6] :: [] :: [8] :: [9] :: [2, 5, 7, 10] :: [11] :: [12] :: []) (false :: false :: false :: false :: false :: false :: false :: false :: false :: false :: false :: false :: true :: false :: []) (true :: true :: true :: true :: true :: true :: true :: true :: true :: true :: true :: false :: true :: true :: []) [13] (MStP.is _ :: MStP.is _ :: MStP.is _ :: MStP.is _ :: MStP.is _ :: MStP.is _ :: MStP.is _ :: MStP.is _ :: MStP.is _ :: MStP.is _ :: MStP.is _ :: softStrs (w1.heap.size) (intF (g, q, h, kd, p, t, a, x)) :: MStP.is _ :: MStP.is _ :: []) (by kernel_rfl) (by kernel_rfl) (by kernel_rfl)
  case hobs =>
    refine ⟨fun y w' k hS hj hk hF K hK => ?_, ?_⟩
    · skip -- 0: fieldAddr
      simp only [fillL, cond_true, cond_false, List.getD_cons_zero, List.getD_cons_succ, StP.is, Act.put, List.setIfInBounds_toArray, List.set_cons_zero, List.set_cons_succ, Nat.reduceAdd, MStP.is, Option.isSome_some, Option.isSome_none] at hK ⊢
      refine rg_yes (by kernel_rfl) ?_
      clear hF
      go_simp
      exact hK _ _ (Ext.refl _) trivial rfl
    refine ⟨fun y w' k hS hj hk hF K hK => ?_, ?_⟩
    · skip -- 1: load
      have e6 : y 6 = _ := hF.1
      simp only [fillL, cond_true, cond_false, List.getD_cons_zero, List.getD_cons_succ, StP.is, Act.put, List.setIfInBounds_toArray, List.set_cons_zero, List.set_cons_succ, Nat.reduceAdd, e6, MStP.is, Option.isSome_some, Option.isSome_none] at hK ⊢
      refine rg_yes (by kernel_rfl) ?_
      have hSb := hS.below
      have hBw := hSb.size
      have q0_ := (hSb.cell l1).trans c1_0
      have q1_ := (hSb.cell l1).trans c1_1
      have q2_ := (hSb.cell l1).trans c1_2
      have q3_ := (hSb.cell l1).trans c1_3
      have q4_ := (hSb.cell l1).trans c1_4
      have q5_ := (hSb.cell l1).trans c1_5
      have q6_ := (hSb.cell l1).trans c1_6
      have q7_ := (hSb.cell l1).trans c1_7
      clear e6
      clear hF
      go_simp
      exact hK _ _ (Ext.refl _) trivial rfl
    refine ⟨fun y w' k hS hj hk hF K hK => ?_, ?_⟩
    · skip -- 2: call
      have e7 : y 7 = _ := hF.1
      simp only [fillL, cond_true, cond_false, List.getD_cons_zero, List.getD_cons_succ, StP.is, Act.put, List.setIfInBounds_toArray, List.set_cons_zero, List.set_cons_succ, Nat.reduceAdd, e7, MStP.is, Option.isSome_some, Option.isSome_none] at hK ⊢
      refine rg_yes (by kernel_rfl) ?_
      have hSb := hS.below
      have hBw := hSb.size
      have q0_ := (hSb.cell l1).trans c1_0
      have q1_ := (hSb.cell l1).trans c1_1
      have q2_ := (hSb.cell l1).trans c1_2
      have q3_ := (hSb.cell l1).trans c1_3
      have q4_ := (hSb.cell l1).trans c1_4
      have q5_ := (hSb.cell l1).trans c1_5
      have q6_ := (hSb.cell l1).trans c1_6
      have q7_ := (hSb.cell l1).trans c1_7
      clear e7
      clear hF
      go_simp
      go_at_call 97
      refine (numPut_any g w' (HT1.out.on hSb).here).mono ?_
      rintro e w'' ⟨rfl, hb9⟩
      exact hK _ _ hb9 trivial rfl
    refine ⟨fun y w' k hS hj hk hF K hK => ?_, ?_⟩
    · skip -- 3: fieldAddr
      simp only [fillL, cond_true, cond_false, List.getD_cons_zero, List.getD_cons_succ, StP.is, Act.put, List.setIfInBounds_toArray, List.set_cons_zero, List.set_cons_succ, Nat.reduceAdd, MStP.is, Option.isSome_some, Option.isSome_none] at hK ⊢
      refine rg_yes (by kernel_rfl) ?_
      clear hF
      go_simp
      exact hK _ _ (Ext.refl _) trivial rfl
    refine ⟨fun y w' k hS hj hk hF K hK => ?_, ?_⟩
    · skip -- 4: load
      have e9 : y 9 = _ := hF.1
      simp only [fillL, cond_true, cond_false, List.getD_cons_zero, List.getD_cons_succ, StP.is, Act.put, List.setIfInBounds_toArray, List.set_cons_zero, List.set_cons_succ, Nat.reduceAdd, e9, MStP.is, Option.isSome_some, Option.isSome_none] at hK ⊢
      refine rg_yes (by kernel_rfl) ?_
      have hSb := hS.below
      have hBw := hSb.size
      have q0_ := (hSb.cell l1).trans c1_0
      have q1_ := (hSb.cell l1).trans c1_1
      have q2_ := (hSb.cell l1).trans c1_2
      have q3_ := (hSb.cell l1).trans c1_3
      have q4_ := (hSb.cell l1).trans c1_4
      have q5_ := (hSb.cell l1).trans c1_5
      have q6_ := (hSb.cell l1).trans c1_6
      have q7_ := (hSb.cell l1).trans c1_7
      clear e9
      clear hF
      go_simp
      exact hK _ _ (Ext.refl _) trivial rfl
    refine ⟨fun y w' k hS hj hk hF K hK => ?_, ?_⟩
    · skip -- 5: call
      have e10 : y 10 = _ := hF.1
      simp only [fillL, cond_true, cond_false, List.getD_cons_zero, List.getD_cons_succ, StP.is, Act.put, List.setIfInBounds_toArray, List.set_cons_zero, List.set_cons_succ, Nat.reduceAdd, e10, MStP.is, Option.isSome_some, Option.isSome_none] at hK ⊢
      refine rg_yes (by kernel_rfl) ?_
      have hSb := hS.below
      have hBw := hSb.size
      have q0_ := (hSb.cell l1).trans c1_0
      have q1_ := (hSb.cell l1).trans c1_1
      have q2_ := (hSb.cell l1).trans c1_2
      have q3_ := (hSb.cell l1).trans c1_3
      have q4_ := (hSb.cell l1).trans c1_4
      have q5_ := (hSb.cell l1).trans c1_5
      have q6_ := (hSb.cell l1).trans c1_6
      have q7_ := (hSb.cell l1).trans c1_7
      clear e10
      clear hF
      go_simp
      go_at_call 97
      refine (numPut_any q w' (HT1.out.on hSb).here).mono ?_
      rintro e w'' ⟨rfl, hb9⟩
      exact hK _ _ hb9 trivial rfl
    refine ⟨fun y w' k hS hj hk hF K hK => ?_, ?_⟩
    · skip -- 6: fieldAddr
      simp only [fillL, cond_true, cond_false, List.getD_cons_zero, List.getD_cons_succ, StP.is, Act.put, List.setIfInBounds_toArray, List.set_cons_zero, List.set_cons_succ, Nat.reduceAdd, MStP.is, Option.isSome_some, Option.isSome_none] at hK ⊢
      refine rg_yes (by kernel_rfl) ?_
      clear hF
      go_simp
      exact hK _ _ (Ext.refl _) trivial rfl
    refine ⟨fun y w' k hS hj hk hF K hK => ?_, ?_⟩
    · skip -- 7: load
      have e12 : y 12 = _ := hF.1
      simp only [fillL, cond_true, cond_false, List.getD_cons_zero, List.getD_cons_succ, StP.is, Act.put, List.setIfInBounds_toArray, List.set_cons_zero, List.set_cons_succ, Nat.reduceAdd, e12, MStP.is, Option.isSome_some, Option.isSome_none] at hK ⊢
      refine rg_yes (by kernel_rfl) ?_
      have hSb := hS.below
      have hBw := hSb.size
      have q0_ := (hSb.cell l1).trans c1_0
      have q1_ := (hSb.cell l1).trans c1_1
      have q2_ := (hSb.cell l1).trans c1_2
      have q3_ := (hSb.cell l1).trans c1_3
      have q4_ := (hSb.cell l1).trans c1_4
      have q5_ := (hSb.cell l1).trans c1_5
      have q6_ := (hSb.cell l1).trans c1_6
      have q7_ := (hSb.cell l1).trans c1_7
      clear e12
      clear hF
      go_simp
      exact hK _ _ (Ext.refl _) trivial rfl
    refine ⟨fun y w' k hS hj hk hF K hK => ?_, ?_⟩
    · skip -- 8: fieldAddr
      simp only [fillL, cond_true, cond_false, List.getD_cons_zero, List.getD_cons_succ, StP.is, Act.put, List.setIfInBounds_toArray, List.set_cons_zero, List.set_cons_succ, Nat.reduceAdd, MStP.is, Option.isSome_some, Option.isSome_none] at hK ⊢
      refine rg_yes (by kernel_rfl) ?_
      clear hF
      go_simp
      exact hK _ _ (Ext.refl _) trivial rfl
    refine ⟨fun y w' k hS hj hk hF K hK => ?_, ?_⟩
    · skip -- 9: load
      have e14 : y 14 = _ := hF.1
      simp only [fillL, cond_true, cond_false, List.getD_cons_zero, List.getD_cons_succ, StP.is, Act.put, List.setIfInBounds_toArray, List.set_cons_zero, List.set_cons_succ, Nat.reduceAdd, e14, MStP.is, Option.isSome_some, Option.isSome_none] at hK ⊢
      refine rg_yes (by kernel_rfl) ?_
      have hSb := hS.below
      have hBw := hSb.size
      have q0_ := (hSb.cell l1).trans c1_0
      have q1_ := (hSb.cell l1).trans c1_1
      have q2_ := (hSb.cell l1).trans c1_2
      have q3_ := (hSb.cell l1).trans c1_3
      have q4_ := (hSb.cell l1).trans c1_4
      have q5_ := (hSb.cell l1).trans c1_5
      have q6_ := (hSb.cell l1).trans c1_6
      have q7_ := (hSb.cell l1).trans c1_7
      clear e14
      clear hF
      go_simp
      exact hK _ _ (Ext.refl _) trivial rfl
    refine ⟨fun y w' k hS hj hk hF K hK => ?_, ?_⟩
    · skip -- 10: call
      have e15 : y 15 = _ := hF.1
      simp only [fillL, cond_true, cond_false, List.getD_cons_zero, List.getD_cons_succ, StP.is, Act.put, List.setIfInBounds_toArray, List.set_cons_zero, List.set_cons_succ, Nat.reduceAdd, e15, MStP.is, Option.isSome_some, Option.isSome_none] at hK ⊢
      refine rg_yes (by kernel_rfl) ?_
      have hSb := hS.below
      have hBw := hSb.size
      have q0_ := (hSb.cell l1).trans c1_0
      have q1_ := (hSb.cell l1).trans c1_1
      have q2_ := (hSb.cell l1).trans c1_2
      have q3_ := (hSb.cell l1).trans c1_3
      have q4_ := (hSb.cell l1).trans c1_4
      have q5_ := (hSb.cell l1).trans c1_5
      have q6_ := (hSb.cell l1).trans c1_6
      have q7_ := (hSb.cell l1).trans c1_7
      clear e15
      clear hF
      go_simp
      go_at_call 95
      refine (opPut_any kd p t a x w' (HT1.out.on hSb).here (HM1.out.below hSb) hp ht hx).mono ?_
      rintro e w'' ⟨rfl, hb9⟩
      exact hK _ _ hb9 trivial rfl
    refine ⟨fun y w' k hS hj hk hF K hK => ?_, ?_⟩
    · skip -- 11: buildSlice
      have e8 : y 8 = _ := hF.1
      have e11 : y 11 = _ := hF.2.1
      have e13 : y 13 = _ := hF.2.2.1
      have e16 : y 16 = _ := hF.2.2.2.1
      simp only [fillL, cond_true, cond_false, List.getD_cons_zero, List.getD_cons_succ, StP.is, Act.put, List.setIfInBounds_toArray, List.set_cons_zero, List.set_cons_succ, Nat.reduceAdd, e8, e11, e13, e16, MStP.is, Option.isSome_some, Option.isSome_none] at hK ⊢
      refine rg_yes (by kernel_rfl) ?_
      have hSb := hS.below
      have hBw := hSb.size
      have q0_ := (hSb.cell l1).trans c1_0
      have q1_ := (hSb.cell l1).trans c1_1
      have q2_ := (hSb.cell l1).trans c1_2
      have q3_ := (hSb.cell l1).trans c1_3
      have q4_ := (hSb.cell l1).trans c1_4
      have q5_ := (hSb.cell l1).trans c1_5
      have q6_ := (hSb.cell l1).trans c1_6
      have q7_ := (hSb.cell l1).trans c1_7
      clear e8 e11 e13 e16
      clear hF
      go_simp
      exact hK _ _ (Ext.alloc _ _) trivial ⟨_, _, _, rfl, rfl, StrsIn.lit (fs := intF (g, q, h, kd, p, t, a, x)) hBw (heap_alloc_new _ _) rfl (by unfold maxLen; simp [intF])⟩
    refine ⟨fun y w' k hS hj hk hF K hK => ?_, ?_⟩
    · skip -- 12: call
      obtain ⟨Ae17, ce17, ne17, e17, hxe17, hIe17⟩ := hF.1
      have hne17 := Lib.hid hxe17; clear hxe17
      simp only [fillL, cond_true, cond_false, List.getD_cons_zero, List.getD_cons_succ, StP.is, Act.put, List.setIfInBounds_toArray, List.set_cons_zero, List.set_cons_succ, Nat.reduceAdd, e17, MStP.is, Option.isSome_some, Option.isSome_none] at hK ⊢
      refine rg_yes (by kernel_rfl) ?_
      have hSb := hS.below
      have hBw := hSb.size
      have q0_ := (hSb.cell l1).trans c1_0
      have q1_ := (hSb.cell l1).trans c1_1
      have q2_ := (hSb.cell l1).trans c1_2
      have q3_ := (hSb.cell l1).trans c1_3
      have q4_ := (hSb.cell l1).trans c1_4
      have q5_ := (hSb.cell l1).trans c1_5
      have q6_ := (hSb.cell l1).trans c1_6
      have q7_ := (hSb.cell l1).trans c1_7
      clear e17
      clear hF
      go_simp
      go_at_call 96
      refine (signed_any w1.heap.size _ _ _ (intF (g, q, h, kd, p, t, a, x)) w' (HT1.out.on hSb) hIe17 hBw HLE.out (by simp [intF]) hne17.out).mono ?_
      rintro e w'' ⟨rfl, hb9⟩
      exact hK _ _ (fun _ => hb9) trivial rfl
    refine ⟨fun y w' k hS hj hk hF K hK => ?_, ?_⟩
    · skip -- 13: assign
      have e18 : y 18 = _ := hF.1
      simp only [fillL, cond_true, cond_false, List.getD_cons_zero, List.getD_cons_succ, StP.is, Act.put, List.setIfInBounds_toArray, List.set_cons_zero, List.set_cons_succ, Nat.reduceAdd, e18, MStP.is, Option.isSome_some, Option.isSome_none] at hK ⊢
      refine rg_yes (by kernel_rfl) ?_
      clear e18
      clear hF
      go_simp
      exact hK _ _ (Ext.refl _) trivial rfl
    trivial
  case hH => rfl
  case hNS => exact Own.of_ext _
  case hSt => exact fun a b => Own.trans a b
  case hJ => exact fun _ _ _ _ h => h
  case hdrew => exact Own.drew _ _
  case hj0 => trivial
  case hend =>
    intro y w9 hS _ hF
    have e2 : y 2 = _ := hF.1
    clear hF
    simp only [fillL, cond_true, cond_false, Nat.reduceAdd, e2]
    clear e2
    have HBB : Hid (Below w.heap.size w w9) := Lib.hid (HB1.out.trans (hS.below.mono HB1.out.size))
    clear hS
    go_wp2_with fail
    go_ret
    exact ⟨ret_str (by rw [intS_yes HOK.out]), HBB.out⟩
end Go.Proofs.YtggdjiklgakfnaaGreatDoor
