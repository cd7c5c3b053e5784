/- signed; RootPut both: a root's text. Condition: the table of powers of ten lies as its initialiser lays it. -/
import Derived.Test.YtcfgbeajdkbbcaaGreatDoorTreeF
import Derived.Test.YtcfgbeajdkbbcaaGreatDoorNum
namespace Go.Proofs.YtcfgbeajdkbbcaaGreatDoor
set_option linter.unusedVariables false
set_option linter.unusedSimpArgs false
set_option linter.unnecessarySimpa false
open Go Go.Lib Go.RowKit

theorem strB_dl (l : Str) : (strB l).data.toList = l := by simp [strB]
def SignedR (B : Nat) (fs : List Str) (w : World) (e : Ending) (w' : World) : Prop := e = .returned (.string (strB (signedS fs))) ∧ Below B w w'
def rootF (t a b s m l d n : Int) : List Str := [114, 111, 111, 116] :: numS t :: treeS a b s m l d n
theorem rootF_le (t a b s m l d n : Int) : ∀ f ∈ rootF t a b s m l d n, f.length ≤ 1099511627776 := by
  intro f hf
  unfold rootF at hf
  rcases List.mem_cons.1 hf with rfl | hf
  · simp
  rcases List.mem_cons.1 hf with rfl | hf
  · have := numS_len t; omega
  · have := treeS_le a b s m l d n f hf; omega
theorem rootS_yes {t a b s m l d n : Int} (h : rootOkB t a b s m l d n = true) : rootS t a b s m l d n = signedS (rootF t a b s m l d n) := by unfold rootS; rw [h]; rfl
theorem rootS_no {t a b s m l d n : Int} (h : rootOkB t a b s m l d n = false) : rootS t a b s m l d n = [] := by unfold rootS; rw [h]; rfl
theorem rootOk_t {t a b s m l d n : Int} (h : rootOkB t a b s m l d n = true) : 1 ≤ t ∧ t ≤ 900 := by
  unfold rootOkB at h
  simp only [Bool.and_eq_true, inB_iff] at h
  exact h.1
set_option maxRecDepth 100000 in
set_option maxHeartbeats 4000000 in
theorem signed_any (B : Nat) (A : Option Addr) (c n : Nat) (fs : List Str) (w : World) (ht : TabB B w) (h : StrsIn B w A c fs) (hB : B ≤ w.heap.size) (hb : ∀ f ∈ fs, f.length ≤ 1099511627776) (hl : fs.length ≤ 1000) (hn : n = fs.length) :
    Calls Tryz.prog 116 #[.slice A n c] w (SignedR B fs w) := by
  subst hn
  obtain ⟨i0, hi0, hz0, hz1, hz2⟩ := info_parts info_strs
  have HT := Lib.hid ht
  clear ht
  go_enter Tryz.func116, Tryz.ntmps116
  go_wp2_with fail
  refine (fieldsPut_any A c fs w HT.out.here h.row hb (by omega)).mono ?_
  rintro e w1 ⟨rfl, hb1⟩
  obtain ⟨X, hX⟩ : ∃ X, X = (fieldsF fs).1 := ⟨_, rfl⟩
  obtain ⟨xo, hxo⟩ : ∃ X, X = (fieldsF fs).2 := ⟨_, rfl⟩
  have hXl : (strB X).size ≤ 2048 := by rw [hX]; exact fieldsF_len fs
  rw [← hX, ← hxo]
  have HX := Lib.hid hX
  clear hX hxo
  have HBW1 : Below B w w1 := hb1.mono hB
  have HI1 := Lib.hid (h.below hb1)
  clear h hb1
  go_wp2_with fail
  refine (sumOf_any (strB X) (by omega) w1).mono ?_
  rintro e w2 ⟨rfl, rfl⟩
  obtain ⟨v, hv⟩ : ∃ v : Nat, v = sumL (strB X).data.toList := ⟨_, rfl⟩
  have HV : Hid (v = sumL (fieldsF fs).1) := Lib.hid (by rw [hv, strB_dl, HX.out])
  rw [← hv]
  have hv9 : v ≤ 99460728 := by rw [hv]; exact sumL_lt _
  clear hv
  go_wp2_with fail
  refine (numPut_any (v : Int) w1 (HT.out.on HBW1).here).mono ?_
  rintro e w3 ⟨rfl, hb3⟩
  obtain ⟨x, hx⟩ : ∃ x, x = numS (v : Int) := ⟨_, rfl⟩
  have hxl : x.length ≤ 9 := by rw [hx]; exact numS_len _
  rw [← hx]
  have HXX : Hid (x = numS (sumL (fieldsF fs).1 : Nat)) := Lib.hid (by rw [hx, HV.out])
  clear hx HV
  have hBW0 : B ≤ w.heap.size := hB
  have HBW : Below B w w3 := HBW1.trans (hb3.mono (Nat.le_trans hB HBW1.size))
  have hBW : B ≤ w3.heap.size := Nat.le_trans hB HBW.size
  have HI := Lib.hid (HI1.out.below hb3)
  clear HI1 hb3 HBW1
  have hlen1 : fs.length + 1 ≤ 1001 := by omega
  obtain ⟨S, hOS, hSB⟩ := HI.out
  have HOA := Lib.hid (hOS.below (bel1 (o := .cells #[.string (strB x)] 9)))
  have HLIT := Lib.hid (fun (W : World) => RowAt.lit (w := W) (e := 9) (cur := #[.string (strB x)]) (m := 1) rfl)
  have HONE : Hid (∀ u ∈ [x].map strV, u.oneCell' = true) := Lib.hid (strs_one _)
  have HSB := Lib.hid hSB
  clear hOS hSB HI
  go_wp2_with (at_builtin; go_must (refine wpList_append_row rfl _ _ 70 rfl 9 i0 (.string ByteArray.empty) 1 16 Tryz.underlying70 hi0 hz0 hz1 hz2 rfl (by decide) S A _ fs.length c 1 _ (fs.map strV) ([x].map strV) rfl rfl HOA.out (HLIT.out _) HONE.out (by unfold maxLen; omega) (by omega) ?_))
  intro A' c' S' w5 hO' hS' hC'
  obtain ⟨hI5, hb5⟩ := app_strs (B := B) HSB.out (w1 := w3.alloc (.cells #[.string (strB x)] 9)) (fs := fs) (gs := [x]) (by simp; omega) (by rw [List.length_append, List.length_singleton]) hO' (fun g hg => (hS' g hg).imp id (fun h => by simpa using h)) hC'
  have HB5 : Below B w w5 := HBW.trans (((Below.refl _ _).alloc hBW _).trans hb5)
  have HI5 := Lib.hid hI5
  have hl5 : Hid (fs.length + 1 = (fs ++ [x]).length) := Lib.hid (by rw [List.length_append, List.length_singleton])
  have hb5' : ∀ f ∈ fs ++ [x], f.length ≤ 1099511627776 := by
    intro f hf
    rcases List.mem_append.1 hf with hf | hf
    · exact hb f hf
    · rw [List.mem_singleton] at hf; subst hf; omega
  have HM := Lib.hid hb5'
  clear hI5 hb5 hO' hS' hC' HOA HLIT HONE HSB hb5'
  have P5 := fieldsPut_any A' c' (fs ++ [x]) w5 (HT.out.on HB5).here HI5.out.row HM.out (by rw [← hl5.out]; omega)
  rw [← hl5.out] at P5
  have P5 := Lib.hid P5
  go_wp2_with fail
  refine P5.out.mono ?_
  rintro e w6 ⟨rfl, hb6⟩
  obtain ⟨Y, hY⟩ : ∃ Y, Y = (fieldsF (fs ++ [x])).1 := ⟨_, rfl⟩
  obtain ⟨yo, hyo⟩ : ∃ Y, Y = (fieldsF (fs ++ [x])).2 := ⟨_, rfl⟩
  rw [← hY, ← hyo]
  have HY := Lib.hid hY
  clear hY hyo
  have HB6 : Below B w w6 := HB5.trans (hb6.mono (Nat.le_trans hBW0 HB5.size))
  go_wp2_with fail
  go_ret
  exact ⟨ret_str (by rw [HY.out, HXX.out]; rfl), HB6⟩
set_option maxRecDepth 100000 in
set_option maxHeartbeats 4000000 in
theorem rootPut_any (t a b s m l d n : Int) (w : World) (ht : Tab w) : Calls Tryz.prog 82 #[rootV t a b s m l d n] w (TextR (rootS t a b s m l d n) w) := by
  obtain ⟨i0, hi0, hz0, hz1, hz2⟩ := info_parts info_strs
  show Calls Tryz.prog 82 #[.agg #[.int .i64 t, .int .i64 a, .int .i64 b, .int .i64 s, .int .i64 m, .int .i64 l, .int .i64 d, .int .i64 n]] w _
  go_enter Tryz.func82, Tryz.ntmps82
  go_wp2_with fail
  refine (rootOk_any t a b s m l d n _).mono ?_
  rintro e w1 ⟨rfl, hb1⟩
  have HB1 := bel1.trans (hb1.mono (by simp))
  have c1_0 : w1.cell? ⟨w.heap.size, 0, none⟩ = some (.int .i64 t) := (hb1.cell (by simp)).trans (by simp [go_sem])
  have c1_1 : w1.cell? ⟨w.heap.size, 1, none⟩ = some (.int .i64 a) := (hb1.cell (by simp)).trans (by simp [go_sem])
  have c1_2 : w1.cell? ⟨w.heap.size, 2, none⟩ = some (.int .i64 b) := (hb1.cell (by simp)).trans (by simp [go_sem])
  have c1_3 : w1.cell? ⟨w.heap.size, 3, none⟩ = some (.int .i64 s) := (hb1.cell (by simp)).trans (by simp [go_sem])
  have c1_4 : w1.cell? ⟨w.heap.size, 4, none⟩ = some (.int .i64 m) := (hb1.cell (by simp)).trans (by simp [go_sem])
  have c1_5 : w1.cell? ⟨w.heap.size, 5, none⟩ = some (.int .i64 l) := (hb1.cell (by simp)).trans (by simp [go_sem])
  have c1_6 : w1.cell? ⟨w.heap.size, 6, none⟩ = some (.int .i64 d) := (hb1.cell (by simp)).trans (by simp [go_sem])
  have c1_7 : w1.cell? ⟨w.heap.size, 7, none⟩ = some (.int .i64 n) := (hb1.cell (by simp)).trans (by simp [go_sem])
  have l1 : w.heap.size < w1.heap.size := World.block_lt_of_cell? w1 _ c1_0
  clear hb1
  obtain ⟨ok, hok⟩ : ∃ ok, ok = rootOkB t a b s m l d n := ⟨_, rfl⟩
  have HOK := Lib.hid hok.symm
  rw [← hok]
  clear hok
  cases ok
  · go_wp2_with fail
    go_ret
    exact ⟨ret_str (by rw [rootS_no HOK.out]; rfl), HB1⟩
  have HB1 := Lib.hid HB1
  have HT1 : Hid (TabB w1.heap.size w1) := Lib.hid (ht.below HB1.out).toB
  clear ht
  go_wp2_with fail
  apply wp_region_rgm (Own (w1.heap.size)) (Ext) (fun _ _ => True) [0, 0, 0, 0, 0, 0, 0, 0, 0, 0] (by kernel_rfl) (false :: false :: true :: false :: false :: false :: true :: true :: true :: true :: true :: true :: true :: true :: true :: []) [some 6, some 7, some 8, some 9, some 10, some 11, some 12, some 13, some 14, some 2] [[], [0], [1], [2], [], [4], [5], [3, 6], [7], [8]] [false, false, false, false, false, false, false, true, true, false] [true, true, true, false, true, true, false, false, true, true] [9] [MStP.is _, MStP.is _, MStP.is _, softStrs (w1.heap.size) ([[114, 111, 111, 116], numS t]), MStP.is _, MStP.is _, softStrs (w1.heap.size) (treeS a b s m l d n), softStrs (w1.heap.size) (rootF t a b s m l d n), MStP.is _, MStP.is _] (by kernel_rfl) (by kernel_rfl) (by kernel_rfl)
  case hobs =>
    refine ⟨fun y w' k hS hj hk hF K hK => ?_, ?_⟩
    · skip -- 0: fieldAddr
      simp only [fillL, cond_true, cond_false, List.getD_cons_zero, List.getD_cons_succ, StP.is, Act.put, List.setIfInBounds_toArray, List.set_cons_zero, List.set_cons_succ, Nat.reduceAdd, MStP.is, Option.isSome_some, Option.isSome_none] at hK ⊢
      refine rg_yes (by kernel_rfl) ?_
      clear hF
      go_simp
      exact hK _ _ (Ext.refl _) trivial rfl
    refine ⟨fun y w' k hS hj hk hF K hK => ?_, ?_⟩
    · skip -- 1: load
      have e6 : y 6 = _ := hF.1
      simp only [fillL, cond_true, cond_false, List.getD_cons_zero, List.getD_cons_succ, StP.is, Act.put, List.setIfInBounds_toArray, List.set_cons_zero, List.set_cons_succ, Nat.reduceAdd, e6, MStP.is, Option.isSome_some, Option.isSome_none] at hK ⊢
      refine rg_yes (by kernel_rfl) ?_
      have hSb := hS.below
      have hBw := hSb.size
      have q0_ := (hSb.cell l1).trans c1_0
      have q1_ := (hSb.cell l1).trans c1_1
      have q2_ := (hSb.cell l1).trans c1_2
      have q3_ := (hSb.cell l1).trans c1_3
      have q4_ := (hSb.cell l1).trans c1_4
      have q5_ := (hSb.cell l1).trans c1_5
      have q6_ := (hSb.cell l1).trans c1_6
      have q7_ := (hSb.cell l1).trans c1_7
      clear e6
      clear hF
      go_simp
      exact hK _ _ (Ext.refl _) trivial rfl
    refine ⟨fun y w' k hS hj hk hF K hK => ?_, ?_⟩
    · skip -- 2: call
      have e7 : y 7 = _ := hF.1
      simp only [fillL, cond_true, cond_false, List.getD_cons_zero, List.getD_cons_succ, StP.is, Act.put, List.setIfInBounds_toArray, List.set_cons_zero, List.set_cons_succ, Nat.reduceAdd, e7, MStP.is, Option.isSome_some, Option.isSome_none] at hK ⊢
      refine rg_yes (by kernel_rfl) ?_
      have hSb := hS.below
      have hBw := hSb.size
      have q0_ := (hSb.cell l1).trans c1_0
      have q1_ := (hSb.cell l1).trans c1_1
      have q2_ := (hSb.cell l1).trans c1_2
      have q3_ := (hSb.cell l1).trans c1_3
      have q4_ := (hSb.cell l1).trans c1_4
      have q5_ := (hSb.cell l1).trans c1_5
      have q6_ := (hSb.cell l1).trans c1_6
      have q7_ := (hSb.cell l1).trans c1_7
      clear e7
      clear hF
      go_simp
      go_at_call 114
      refine (numPut_any t w' (HT1.out.on hSb).here).mono ?_
      rintro e w'' ⟨rfl, hb9⟩
      exact hK _ _ hb9 trivial rfl
    refine ⟨fun y w' k hS hj hk hF K hK => ?_, ?_⟩
    · skip -- 3: buildSlice
      have e8 : y 8 = _ := hF.1
      simp only [fillL, cond_true, cond_false, List.getD_cons_zero, List.getD_cons_succ, StP.is, Act.put, List.setIfInBounds_toArray, List.set_cons_zero, List.set_cons_succ, Nat.reduceAdd, e8, MStP.is, Option.isSome_some, Option.isSome_none] at hK ⊢
      refine rg_yes (by kernel_rfl) ?_
      have hSb := hS.below
      have hBw := hSb.size
      have q0_ := (hSb.cell l1).trans c1_0
      have q1_ := (hSb.cell l1).trans c1_1
      have q2_ := (hSb.cell l1).trans c1_2
      have q3_ := (hSb.cell l1).trans c1_3
      have q4_ := (hSb.cell l1).trans c1_4
      have q5_ := (hSb.cell l1).trans c1_5
      have q6_ := (hSb.cell l1).trans c1_6
      have q7_ := (hSb.cell l1).trans c1_7
      clear e8
      clear hF
      go_simp
      exact hK _ _ (Ext.alloc _ _) trivial ⟨_, _, _, rfl, rfl, StrsIn.lit (fs := [[114, 111, 111, 116], numS t]) hBw (heap_alloc_new _ _) rfl (by unfold maxLen; simp)⟩
    refine ⟨fun y w' k hS hj hk hF K hK => ?_, ?_⟩
    · skip -- 4: fieldAddr
      simp only [fillL, cond_true, cond_false, List.getD_cons_zero, List.getD_cons_succ, StP.is, Act.put, List.setIfInBounds_toArray, List.set_cons_zero, List.set_cons_succ, Nat.reduceAdd, MStP.is, Option.isSome_some, Option.isSome_none] at hK ⊢
      refine rg_yes (by kernel_rfl) ?_
      clear hF
      go_simp
      exact hK _ _ (Ext.refl _) trivial rfl
    refine ⟨fun y w' k hS hj hk hF K hK => ?_, ?_⟩
    · skip -- 5: load
      have e10 : y 10 = _ := hF.1
      simp only [fillL, cond_true, cond_false, List.getD_cons_zero, List.getD_cons_succ, StP.is, Act.put, List.setIfInBounds_toArray, List.set_cons_zero, List.set_cons_succ, Nat.reduceAdd, e10, MStP.is, Option.isSome_some, Option.isSome_none] at hK ⊢
      refine rg_yes (by kernel_rfl) ?_
      have hSb := hS.below
      have hBw := hSb.size
      have q0_ := (hSb.cell l1).trans c1_0
      have q1_ := (hSb.cell l1).trans c1_1
      have q2_ := (hSb.cell l1).trans c1_2
      have q3_ := (hSb.cell l1).trans c1_3
      have q4_ := (hSb.cell l1).trans c1_4
      have q5_ := (hSb.cell l1).trans c1_5
      have q6_ := (hSb.cell l1).trans c1_6
      have q7_ := (hSb.cell l1).trans c1_7
      clear e10
      clear hF
      go_simp
      exact hK _ _ (Ext.refl _) trivial rfl
    refine ⟨fun y w' k hS hj hk hF K hK => ?_, ?_⟩
    · skip -- 6: call
      have e11 : y 11 = _ := hF.1
      simp only [fillL, cond_true, cond_false, List.getD_cons_zero, List.getD_cons_succ, StP.is, Act.put, List.setIfInBounds_toArray, List.set_cons_zero, List.set_cons_succ, Nat.reduceAdd, e11, MStP.is, Option.isSome_some, Option.isSome_none] at hK ⊢
      refine rg_yes (by kernel_rfl) ?_
      have hSb := hS.below
      have hBw := hSb.size
      have q0_ := (hSb.cell l1).trans c1_0
      have q1_ := (hSb.cell l1).trans c1_1
      have q2_ := (hSb.cell l1).trans c1_2
      have q3_ := (hSb.cell l1).trans c1_3
      have q4_ := (hSb.cell l1).trans c1_4
      have q5_ := (hSb.cell l1).trans c1_5
      have q6_ := (hSb.cell l1).trans c1_6
      have q7_ := (hSb.cell l1).trans c1_7
      clear e11
      clear hF
      go_simp
      go_at_call 117
      refine (treeFields_any a b s m l d n w' (HT1.out.on hSb).here).mono ?_
      rintro e w'' ⟨A2, c2, rfl, hI, hb9⟩
      exact hK _ _ hb9 trivial ⟨A2, c2, _, rfl, rfl, hI.mono hBw⟩
    refine ⟨fun y w' k hS hj hk hF K hK => ?_, ?_⟩
    · skip -- 7: call
      obtain ⟨Ae9, ce9, ne9, e9, hxe9, hIe9⟩ := hF.1
      have hne9 := Lib.hid hxe9; clear hxe9
      obtain ⟨Ae12, ce12, ne12, e12, hxe12, hIe12⟩ := hF.2.1
      have hne12 := Lib.hid hxe12; clear hxe12
      simp only [fillL, cond_true, cond_false, List.getD_cons_zero, List.getD_cons_succ, StP.is, Act.put, List.setIfInBounds_toArray, List.set_cons_zero, List.set_cons_succ, Nat.reduceAdd, e9, e12, MStP.is, Option.isSome_some, Option.isSome_none] at hK ⊢
      refine rg_yes (by kernel_rfl) ?_
      have hSb := hS.below
      have hBw := hSb.size
      have q0_ := (hSb.cell l1).trans c1_0
      have q1_ := (hSb.cell l1).trans c1_1
      have q2_ := (hSb.cell l1).trans c1_2
      have q3_ := (hSb.cell l1).trans c1_3
      have q4_ := (hSb.cell l1).trans c1_4
      have q5_ := (hSb.cell l1).trans c1_5
      have q6_ := (hSb.cell l1).trans c1_6
      have q7_ := (hSb.cell l1).trans c1_7
      clear e9 e12
      clear hF
      have hlr := (Nat.le_of_eq rfl : 0 ≤ 0)
      obtain ⟨Se9, hOS, hSB⟩ := hIe9
      have hne9 := hne9.out; have hne12 := hne12.out
      rw [← hne9] at hOS
      have hle1 : ne9 ≤ 2 := by rw [hne9]; exact Nat.le_refl _
      have hle2 : ne12 ≤ 3 := by rw [hne12]; exact Nat.le_refl _
      refine wp_append_row (.tmp 9) (.tmp 12) 70 rfl 9 i0 (.string ByteArray.empty) 1 16 Tryz.underlying70 hi0 hz0 hz1 hz2 rfl (by decide) Se9 Ae9 Ae12 ne9 ce9 ne12 ce12 (([[114, 111, 111, 116], numS t]).map strV) ((treeS a b s m l d n).map strV) rfl rfl hOS (by rw [hne12, Nat.mul_one]; exact hIe12.row) (strs_one _) (by unfold maxLen; omega) (by omega) ?_
      intro A' c' S' w'' hO' hS' hC'
      obtain ⟨hI9, hb9⟩ := app_strs (fs := [[114, 111, 111, 116], numS t]) (gs := treeS a b s m l d n) hSB hBw (by rw [List.length_append, hne9, hne12]) hO' hS' hC'
      exact hK _ _ (fun _ => hb9) trivial ⟨A', c', _, rfl, by rw [hne9, hne12]; rfl, hI9⟩
    refine ⟨fun y w' k hS hj hk hF K hK => ?_, ?_⟩
    · skip -- 8: call
      obtain ⟨Ae13, ce13, ne13, e13, hxe13, hIe13⟩ := hF.1
      have hne13 := Lib.hid hxe13; clear hxe13
      simp only [fillL, cond_true, cond_false, List.getD_cons_zero, List.getD_cons_succ, StP.is, Act.put, List.setIfInBounds_toArray, List.set_cons_zero, List.set_cons_succ, Nat.reduceAdd, e13, MStP.is, Option.isSome_some, Option.isSome_none] at hK ⊢
      refine rg_yes (by kernel_rfl) ?_
      have hSb := hS.below
      have hBw := hSb.size
      have q0_ := (hSb.cell l1).trans c1_0
      have q1_ := (hSb.cell l1).trans c1_1
      have q2_ := (hSb.cell l1).trans c1_2
      have q3_ := (hSb.cell l1).trans c1_3
      have q4_ := (hSb.cell l1).trans c1_4
      have q5_ := (hSb.cell l1).trans c1_5
      have q6_ := (hSb.cell l1).trans c1_6
      have q7_ := (hSb.cell l1).trans c1_7
      clear e13
      clear hF
      go_simp
      go_at_call 116
      refine (signed_any w1.heap.size _ _ _ (rootF t a b s m l d n) w' (HT1.out.on hSb) hIe13 hBw (rootF_le _ _ _ _ _ _ _ _) (by simp [rootF, treeS]) hne13.out).mono ?_
      rintro e w'' ⟨rfl, hb9⟩
      exact hK _ _ (fun _ => hb9) trivial rfl
    refine ⟨fun y w' k hS hj hk hF K hK => ?_, ?_⟩
    · skip -- 9: assign
      have e14 : y 14 = _ := hF.1
      simp only [fillL, cond_true, cond_false, List.getD_cons_zero, List.getD_cons_succ, StP.is, Act.put, List.setIfInBounds_toArray, List.set_cons_zero, List.set_cons_succ, Nat.reduceAdd, e14, MStP.is, Option.isSome_some, Option.isSome_none] at hK ⊢
      refine rg_yes (by kernel_rfl) ?_
      clear e14
      clear hF
      go_simp
      exact hK _ _ (Ext.refl _) trivial rfl
    trivial
  case hH => rfl
  case hNS => exact Own.of_ext _
  case hSt => exact fun a b => Own.trans a b
  case hJ => exact fun _ _ _ _ h => h
  case hdrew => exact Own.drew _ _
  case hj0 => trivial
  case hend =>
    intro y w9 hS _ hF
    have e2 : y 2 = _ := hF.1
    clear hF
    simp only [fillL, cond_true, cond_false, Nat.reduceAdd, e2]
    clear e2
    have HBB : Hid (Below w.heap.size w w9) := Lib.hid (HB1.out.trans (hS.below.mono HB1.out.size))
    clear hS
    go_wp2_with fail
    go_ret
    exact ⟨ret_str (by rw [rootS_yes HOK.out]), HBB.out⟩
set_option maxRecDepth 100000 in
set_option maxHeartbeats 4000000 in
theorem spRootPut_any (t a b s m l d n : Int) (w : World) : Calls Tryz.prog 55 #[rootV t a b s m l d n] w (TextR (rootS t a b s m l d n) w) := by
  obtain ⟨i0, hi0, hz0, hz1, hz2⟩ := info_parts info_strs
  show Calls Tryz.prog 55 #[.agg #[.int .i64 t, .int .i64 a, .int .i64 b, .int .i64 s, .int .i64 m, .int .i64 l, .int .i64 d, .int .i64 n]] w _
  go_enter Tryz.func55, Tryz.ntmps55
  go_wp2_with fail
  refine (spRootOk_any t a b s m l d n _).mono ?_
  rintro e w1 ⟨rfl, hb1⟩
  have HB1 := bel1.trans (hb1.mono (by simp))
  have c1_0 : w1.cell? ⟨w.heap.size, 0, none⟩ = some (.int .i64 t) := (hb1.cell (by simp)).trans (by simp [go_sem])
  have c1_1 : w1.cell? ⟨w.heap.size, 1, none⟩ = some (.int .i64 a) := (hb1.cell (by simp)).trans (by simp [go_sem])
  have c1_2 : w1.cell? ⟨w.heap.size, 2, none⟩ = some (.int .i64 b) := (hb1.cell (by simp)).trans (by simp [go_sem])
  have c1_3 : w1.cell? ⟨w.heap.size, 3, none⟩ = some (.int .i64 s) := (hb1.cell (by simp)).trans (by simp [go_sem])
  have c1_4 : w1.cell? ⟨w.heap.size, 4, none⟩ = some (.int .i64 m) := (hb1.cell (by simp)).trans (by simp [go_sem])
  have c1_5 : w1.cell? ⟨w.heap.size, 5, none⟩ = some (.int .i64 l) := (hb1.cell (by simp)).trans (by simp [go_sem])
  have c1_6 : w1.cell? ⟨w.heap.size, 6, none⟩ = some (.int .i64 d) := (hb1.cell (by simp)).trans (by simp [go_sem])
  have c1_7 : w1.cell? ⟨w.heap.size, 7, none⟩ = some (.int .i64 n) := (hb1.cell (by simp)).trans (by simp [go_sem])
  have l1 : w.heap.size < w1.heap.size := World.block_lt_of_cell? w1 _ c1_0
  clear hb1
  obtain ⟨ok, hok⟩ : ∃ ok, ok = rootOkB t a b s m l d n := ⟨_, rfl⟩
  have HOK := Lib.hid hok.symm
  rw [← hok]
  clear hok
  cases ok
  · go_wp2_with fail
    go_ret
    exact ⟨ret_str (by rw [rootS_no HOK.out]; rfl), HB1⟩
  have HB1 := Lib.hid HB1
  obtain ⟨ht1, ht9⟩ := rootOk_t HOK.out
  obtain ⟨t, rfl⟩ : ∃ x : Nat, t = (x : Int) := ⟨t.toNat, by omega⟩
  have HNT : Hid (numS (t : Int) = decDigits t) := Lib.hid (by rw [numS_yes (by omega)]; simp)
  go_wp2_with fail
  apply wp_region_rgm (Own (w1.heap.size)) (Ext) (fun _ _ => True) [0, 0, 0, 0, 0, 0, 0, 0, 0] (by kernel_rfl) (false :: false :: false :: true :: false :: false :: false :: false :: false :: false :: false :: true :: true :: true :: true :: true :: true :: true :: true :: false :: false :: false :: false :: false :: false :: false :: false :: false :: false :: false :: false :: false :: false :: false :: false :: []) [some 11, some 12, some 13, some 14, some 15, some 16, some 17, some 18, some 3] [[], [0], [1], [2], [], [4], [5], [3, 6], [7]] [false, false, false, false, false, false, false, true, false] [true, true, true, false, true, true, false, false, false] [8] [MStP.is _, MStP.is _, MStP.is _, softStrs (w1.heap.size) ([[114, 111, 111, 116], numS t]), MStP.is _, MStP.is _, softStrs (w1.heap.size) (treeS a b s m l d n), softStrs (w1.heap.size) (rootF t a b s m l d n), softStrs (w1.heap.size) (rootF t a b s m l d n)] (by kernel_rfl) (by kernel_rfl) (by kernel_rfl)
  case hobs =>
    refine ⟨fun y w' k hS hj hk hF K hK => ?_, ?_⟩
    · skip -- 0: fieldAddr
      simp only [fillL, cond_true, cond_false, List.getD_cons_zero, List.getD_cons_succ, StP.is, Act.put, List.setIfInBounds_toArray, List.set_cons_zero, List.set_cons_succ, Nat.reduceAdd, MStP.is, Option.isSome_some, Option.isSome_none] at hK ⊢
      refine rg_yes (by kernel_rfl) ?_
      clear hF
      go_simp
      exact hK _ _ (Ext.refl _) trivial rfl
    refine ⟨fun y w' k hS hj hk hF K hK => ?_, ?_⟩
    · skip -- 1: load
      have e11 : y 11 = _ := hF.1
      simp only [fillL, cond_true, cond_false, List.getD_cons_zero, List.getD_cons_succ, StP.is, Act.put, List.setIfInBounds_toArray, List.set_cons_zero, List.set_cons_succ, Nat.reduceAdd, e11, MStP.is, Option.isSome_some, Option.isSome_none] at hK ⊢
      refine rg_yes (by kernel_rfl) ?_
      have hSb := hS.below
      have hBw := hSb.size
      have q0_ := (hSb.cell l1).trans c1_0
      have q1_ := (hSb.cell l1).trans c1_1
      have q2_ := (hSb.cell l1).trans c1_2
      have q3_ := (hSb.cell l1).trans c1_3
      have q4_ := (hSb.cell l1).trans c1_4
      have q5_ := (hSb.cell l1).trans c1_5
      have q6_ := (hSb.cell l1).trans c1_6
      have q7_ := (hSb.cell l1).trans c1_7
      clear e11
      clear hF
      go_simp
      exact hK _ _ (Ext.refl _) trivial rfl
    refine ⟨fun y w' k hS hj hk hF K hK => ?_, ?_⟩
    · skip -- 2: call
      have e12 : y 12 = _ := hF.1
      simp only [fillL, cond_true, cond_false, List.getD_cons_zero, List.getD_cons_succ, StP.is, Act.put, List.setIfInBounds_toArray, List.set_cons_zero, List.set_cons_succ, Nat.reduceAdd, e12, MStP.is, Option.isSome_some, Option.isSome_none] at hK ⊢
      refine rg_yes (by kernel_rfl) ?_
      have hSb := hS.below
      have hBw := hSb.size
      have q0_ := (hSb.cell l1).trans c1_0
      have q1_ := (hSb.cell l1).trans c1_1
      have q2_ := (hSb.cell l1).trans c1_2
      have q3_ := (hSb.cell l1).trans c1_3
      have q4_ := (hSb.cell l1).trans c1_4
      have q5_ := (hSb.cell l1).trans c1_5
      have q6_ := (hSb.cell l1).trans c1_6
      have q7_ := (hSb.cell l1).trans c1_7
      clear e12
      clear hF
      go_simp
      go_at_call 88
      refine (l6Dec_any t (by omega) w').mono ?_
      rw [← HNT.out]
      rintro e w'' ⟨rfl, hb9⟩
      exact hK _ _ hb9 trivial rfl
    refine ⟨fun y w' k hS hj hk hF K hK => ?_, ?_⟩
    · skip -- 3: buildSlice
      have e13 : y 13 = _ := hF.1
      simp only [fillL, cond_true, cond_false, List.getD_cons_zero, List.getD_cons_succ, StP.is, Act.put, List.setIfInBounds_toArray, List.set_cons_zero, List.set_cons_succ, Nat.reduceAdd, e13, MStP.is, Option.isSome_some, Option.isSome_none] at hK ⊢
      refine rg_yes (by kernel_rfl) ?_
      have hSb := hS.below
      have hBw := hSb.size
      have q0_ := (hSb.cell l1).trans c1_0
      have q1_ := (hSb.cell l1).trans c1_1
      have q2_ := (hSb.cell l1).trans c1_2
      have q3_ := (hSb.cell l1).trans c1_3
      have q4_ := (hSb.cell l1).trans c1_4
      have q5_ := (hSb.cell l1).trans c1_5
      have q6_ := (hSb.cell l1).trans c1_6
      have q7_ := (hSb.cell l1).trans c1_7
      clear e13
      clear hF
      go_simp
      exact hK _ _ (Ext.alloc _ _) trivial ⟨_, _, _, rfl, rfl, StrsIn.lit (fs := [[114, 111, 111, 116], numS t]) hBw (heap_alloc_new _ _) rfl (by unfold maxLen; simp)⟩
    refine ⟨fun y w' k hS hj hk hF K hK => ?_, ?_⟩
    · skip -- 4: fieldAddr
      simp only [fillL, cond_true, cond_false, List.getD_cons_zero, List.getD_cons_succ, StP.is, Act.put, List.setIfInBounds_toArray, List.set_cons_zero, List.set_cons_succ, Nat.reduceAdd, MStP.is, Option.isSome_some, Option.isSome_none] at hK ⊢
      refine rg_yes (by kernel_rfl) ?_
      clear hF
      go_simp
      exact hK _ _ (Ext.refl _) trivial rfl
    refine ⟨fun y w' k hS hj hk hF K hK => ?_, ?_⟩
    · skip -- 5: load
      have e15 : y 15 = _ := hF.1
      simp only [fillL, cond_true, cond_false, List.getD_cons_zero, List.getD_cons_succ, StP.is, Act.put, List.setIfInBounds_toArray, List.set_cons_zero, List.set_cons_succ, Nat.reduceAdd, e15, MStP.is, Option.isSome_some, Option.isSome_none] at hK ⊢
      refine rg_yes (by kernel_rfl) ?_
      have hSb := hS.below
      have hBw := hSb.size
      have q0_ := (hSb.cell l1).trans c1_0
      have q1_ := (hSb.cell l1).trans c1_1
      have q2_ := (hSb.cell l1).trans c1_2
      have q3_ := (hSb.cell l1).trans c1_3
      have q4_ := (hSb.cell l1).trans c1_4
      have q5_ := (hSb.cell l1).trans c1_5
      have q6_ := (hSb.cell l1).trans c1_6
      have q7_ := (hSb.cell l1).trans c1_7
      clear e15
      clear hF
      go_simp
      exact hK _ _ (Ext.refl _) trivial rfl
    refine ⟨fun y w' k hS hj hk hF K hK => ?_, ?_⟩
    · skip -- 6: call
      have e16 : y 16 = _ := hF.1
      simp only [fillL, cond_true, cond_false, List.getD_cons_zero, List.getD_cons_succ, StP.is, Act.put, List.setIfInBounds_toArray, List.set_cons_zero, List.set_cons_succ, Nat.reduceAdd, e16, MStP.is, Option.isSome_some, Option.isSome_none] at hK ⊢
      refine rg_yes (by kernel_rfl) ?_
      have hSb := hS.below
      have hBw := hSb.size
      have q0_ := (hSb.cell l1).trans c1_0
      have q1_ := (hSb.cell l1).trans c1_1
      have q2_ := (hSb.cell l1).trans c1_2
      have q3_ := (hSb.cell l1).trans c1_3
      have q4_ := (hSb.cell l1).trans c1_4
      have q5_ := (hSb.cell l1).trans c1_5
      have q6_ := (hSb.cell l1).trans c1_6
      have q7_ := (hSb.cell l1).trans c1_7
      clear e16
      clear hF
      go_simp
      go_at_call 89
      refine (l21Tree_any a b s m l d n w').mono ?_
      rintro e w'' ⟨A2, c2, rfl, hI, hb9⟩
      exact hK _ _ hb9 trivial ⟨A2, c2, _, rfl, rfl, hI.mono hBw⟩
    refine ⟨fun y w' k hS hj hk hF K hK => ?_, ?_⟩
    · skip -- 7: call
      obtain ⟨Ae14, ce14, ne14, e14, hxe14, hIe14⟩ := hF.1
      have hne14 := Lib.hid hxe14; clear hxe14
      obtain ⟨Ae17, ce17, ne17, e17, hxe17, hIe17⟩ := hF.2.1
      have hne17 := Lib.hid hxe17; clear hxe17
      simp only [fillL, cond_true, cond_false, List.getD_cons_zero, List.getD_cons_succ, StP.is, Act.put, List.setIfInBounds_toArray, List.set_cons_zero, List.set_cons_succ, Nat.reduceAdd, e14, e17, MStP.is, Option.isSome_some, Option.isSome_none] at hK ⊢
      refine rg_yes (by kernel_rfl) ?_
      have hSb := hS.below
      have hBw := hSb.size
      have q0_ := (hSb.cell l1).trans c1_0
      have q1_ := (hSb.cell l1).trans c1_1
      have q2_ := (hSb.cell l1).trans c1_2
      have q3_ := (hSb.cell l1).trans c1_3
      have q4_ := (hSb.cell l1).trans c1_4
      have q5_ := (hSb.cell l1).trans c1_5
      have q6_ := (hSb.cell l1).trans c1_6
      have q7_ := (hSb.cell l1).trans c1_7
      clear e14 e17
      clear hF
      have hlr := (Nat.le_of_eq rfl : 0 ≤ 0)
      obtain ⟨Se14, hOS, hSB⟩ := hIe14
      have hne14 := hne14.out; have hne17 := hne17.out
      rw [← hne14] at hOS
      have hle1 : ne14 ≤ 2 := by rw [hne14]; exact Nat.le_refl _
      have hle2 : ne17 ≤ 3 := by rw [hne17]; exact Nat.le_refl _
      refine wp_append_row (.tmp 14) (.tmp 17) 70 rfl 9 i0 (.string ByteArray.empty) 1 16 Tryz.underlying70 hi0 hz0 hz1 hz2 rfl (by decide) Se14 Ae14 Ae17 ne14 ce14 ne17 ce17 (([[114, 111, 111, 116], numS t]).map strV) ((treeS a b s m l d n).map strV) rfl rfl hOS (by rw [hne17, Nat.mul_one]; exact hIe17.row) (strs_one _) (by unfold maxLen; omega) (by omega) ?_
      intro A' c' S' w'' hO' hS' hC'
      obtain ⟨hI9, hb9⟩ := app_strs (fs := [[114, 111, 111, 116], numS t]) (gs := treeS a b s m l d n) hSB hBw (by rw [List.length_append, hne14, hne17]) hO' hS' hC'
      exact hK _ _ (fun _ => hb9) trivial ⟨A', c', _, rfl, by rw [hne14, hne17]; rfl, hI9⟩
    refine ⟨fun y w' k hS hj hk hF K hK => ?_, ?_⟩
    · skip -- 8: assign
      obtain ⟨Ae18, ce18, ne18, e18, hxe18, hIe18⟩ := hF.1
      have hne18 := Lib.hid hxe18; clear hxe18
      simp only [fillL, cond_true, cond_false, List.getD_cons_zero, List.getD_cons_succ, StP.is, Act.put, List.setIfInBounds_toArray, List.set_cons_zero, List.set_cons_succ, Nat.reduceAdd, e18, MStP.is, Option.isSome_some, Option.isSome_none] at hK ⊢
      refine rg_yes (by kernel_rfl) ?_
      have hSb := hS.below
      have hBw := hSb.size
      have q0_ := (hSb.cell l1).trans c1_0
      have q1_ := (hSb.cell l1).trans c1_1
      have q2_ := (hSb.cell l1).trans c1_2
      have q3_ := (hSb.cell l1).trans c1_3
      have q4_ := (hSb.cell l1).trans c1_4
      have q5_ := (hSb.cell l1).trans c1_5
      have q6_ := (hSb.cell l1).trans c1_6
      have q7_ := (hSb.cell l1).trans c1_7
      clear e18
      clear hF
      go_simp
      exact hK _ _ (Ext.refl _) trivial ⟨_, _, _, rfl, hne18.out, hIe18⟩
    trivial
  case hH => rfl
  case hNS => exact Own.of_ext _
  case hSt => exact fun a b => Own.trans a b
  case hJ => exact fun _ _ _ _ h => h
  case hdrew => exact Own.drew _ _
  case hj0 => trivial
  case hend =>
    intro y w9 hS _ hF
    obtain ⟨A, c, n9, e3, hn9, hI9⟩ := hF.1
    clear hF
    simp only [fillL, cond_true, cond_false, Nat.reduceAdd, e3]
    clear e3
    have hbS := hS.below
    have hBW0 : w1.heap.size ≤ w1.heap.size := Nat.le_refl _
    obtain ⟨fs, hfs⟩ : ∃ fs, fs = rootF t a b s m l d n := ⟨_, rfl⟩
    rw [← hfs] at hI9 hn9
    have hb : ∀ f ∈ fs, f.length ≤ 1099511627776 := by rw [hfs]; exact rootF_le _ _ _ _ _ _ _ _
    have hl : fs.length ≤ 1000 := by rw [hfs]; simp [rootF, treeS]
    have HFS := Lib.hid hfs
    have HI9 := Lib.hid hI9
    subst hn9
    clear hfs hS hI9 c1_0 c1_1 c1_2 c1_3 c1_4 c1_5 c1_6 c1_7
    go_wp2_with fail
    refine (spFieldsPut_any A c fs w9 HI9.out.row hb (by omega)).mono ?_
    rintro e w2 ⟨rfl, hb2⟩
    obtain ⟨X, hX⟩ : ∃ X, X = (fieldsF fs).1 := ⟨_, rfl⟩
    obtain ⟨xo, hxo⟩ : ∃ X, X = (fieldsF fs).2 := ⟨_, rfl⟩
    have hXl : (strB X).size ≤ 2048 := by rw [hX]; exact fieldsF_len fs
    rw [← hX, ← hxo]
    have HX := Lib.hid hX
    clear hX hxo
    have HBW1 : Below w1.heap.size w1 w2 := hbS.trans (hb2.mono hbS.size)
    have HI1 := Lib.hid (HI9.out.below hb2)
    clear HI9 hb2 hbS
    go_wp2_with fail
    refine (spSumOf_any (strB X) (by omega) w2).mono ?_
    rintro e w2' ⟨rfl, rfl⟩
    obtain ⟨v, hv⟩ : ∃ v : Nat, v = sumL (strB X).data.toList := ⟨_, rfl⟩
    have HV : Hid (v = sumL (fieldsF fs).1) := Lib.hid (by rw [hv, strB_dl, HX.out])
    rw [← hv]
    have hv9 : v ≤ 99460728 := by rw [hv]; exact sumL_lt _
    clear hv
    go_wp2_with fail
    refine (l6Dec_any v (by omega) w2).mono ?_
    rintro e w3 ⟨rfl, hb3⟩
    obtain ⟨x, hx⟩ : ∃ x, x = decDigits v := ⟨_, rfl⟩
    have hxl : x.length ≤ 9 := by rw [hx]; exact dec_len9 (by omega)
    rw [← hx]
    have HXX : Hid (x = numS (sumL (fieldsF fs).1 : Nat)) := Lib.hid (by rw [hx, HV.out, signed_num])
    clear hx HV
    have HBW : Below w1.heap.size w1 w3 := HBW1.trans (hb3.mono HBW1.size)
    have hBW : w1.heap.size ≤ w3.heap.size := HBW.size
    have HI := Lib.hid (HI1.out.below hb3)
    clear HI1 hb3 HBW1
    have hlen1 : fs.length + 1 ≤ 1001 := by omega
    obtain ⟨S, hOS, hSB⟩ := HI.out
    have HOA := Lib.hid (hOS.below (bel1 (o := .cells #[.string (strB x)] 9)))
    have HLIT := Lib.hid (fun (W : World) => RowAt.lit (w := W) (e := 9) (cur := #[.string (strB x)]) (m := 1) rfl)
    have HONE : Hid (∀ u ∈ [x].map strV, u.oneCell' = true) := Lib.hid (strs_one _)
    have HSB := Lib.hid hSB
    clear hOS hSB HI
    go_wp2_with (at_builtin; go_must (refine wpList_append_row rfl _ _ 70 rfl 9 i0 (.string ByteArray.empty) 1 16 Tryz.underlying70 hi0 hz0 hz1 hz2 rfl (by decide) S A _ fs.length c 1 _ (fs.map strV) ([x].map strV) rfl rfl HOA.out (HLIT.out _) HONE.out (by unfold maxLen; omega) (by omega) ?_))
    intro A' c' S' w5 hO' hS' hC'
    obtain ⟨hI5, hb5⟩ := app_strs (B := w1.heap.size) HSB.out (w1 := w3.alloc (.cells #[.string (strB x)] 9)) (fs := fs) (gs := [x]) (by simp; omega) (by rw [List.length_append, List.length_singleton]) hO' (fun g hg => (hS' g hg).imp id (fun h => by simpa using h)) hC'
    have HB5 : Below w1.heap.size w1 w5 := HBW.trans (((Below.refl _ _).alloc hBW _).trans hb5)
    have HI5 := Lib.hid hI5
    have hl5 : Hid (fs.length + 1 = (fs ++ [x]).length) := Lib.hid (by rw [List.length_append, List.length_singleton])
    have hb5' : ∀ f ∈ fs ++ [x], f.length ≤ 1099511627776 := by
      intro f hf
      rcases List.mem_append.1 hf with hf | hf
      · exact hb f hf
      · rw [List.mem_singleton] at hf; subst hf; omega
    have HM := Lib.hid hb5'
    clear hI5 hb5 hO' hS' hC' HOA HLIT HONE HSB hb5'
    have P5 := spFieldsPut_any A' c' (fs ++ [x]) w5 HI5.out.row HM.out (by rw [← hl5.out]; omega)
    rw [← hl5.out] at P5
    have P5 := Lib.hid P5
    go_wp2_with fail
    refine P5.out.mono ?_
    rintro e w6 ⟨rfl, hb6⟩
    obtain ⟨Y, hY⟩ : ∃ Y, Y = (fieldsF (fs ++ [x])).1 := ⟨_, rfl⟩
    obtain ⟨yo, hyo⟩ : ∃ Y, Y = (fieldsF (fs ++ [x])).2 := ⟨_, rfl⟩
    rw [← hY, ← hyo]
    have HY := Lib.hid hY
    clear hY hyo
    have HB6 : Below w1.heap.size w1 w6 := HB5.trans (hb6.mono (Nat.le_trans hBW0 HB5.size))
    go_wp2_with fail
    go_ret
    exact ⟨ret_str (by rw [rootS_yes HOK.out, HY.out, HXX.out, HFS.out]; rfl), HB1.out.trans (HB6.mono HB1.out.size)⟩
end Go.Proofs.YtcfgbeajdkbbcaaGreatDoor
