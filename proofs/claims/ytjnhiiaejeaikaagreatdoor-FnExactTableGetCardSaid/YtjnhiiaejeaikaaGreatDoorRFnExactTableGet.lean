/- FnExactTableGet: the walk. Condition: the library's variables lie as the row says. -/
import Derived.Test.YtjnhiiaejeaikaaGreatDoorRFamSt
import Derived.Test.YtjnhiiaejeaikaaGreatDoorRTableGetS
set_option linter.unnecessarySimpa false
set_option linter.unusedSimpArgs false
set_option linter.unusedVariables false
namespace Go.Proofs.YtjnhiiaejeaikaaGreatDoor
open Go.RowKit
def HoldsR {α : Type} (R : Reads α) (x : α) (v : Value) (w : World) : Prop := ∃ cs lo hi, v = .agg (List.toArray cs) ∧ hi ≤ w.heap.size ∧ R w lo hi cs x
def StoreR.stp (x : StoreD) : StP := ⟨HoldsR StoreR x, fun v w w' he h => by
 obtain ⟨cs, lo, hi, e, h1, h2⟩ := h
 exact ⟨cs, lo, hi, e, Nat.le_trans h1 (Below.size he), StoreR.below he h1 _ _ h2⟩⟩
def StoreR.mst (B : Nat) (x : StoreD) : MStP (Own B) Ext := ⟨HoldsR StoreR x, false, (StoreR.stp x).2, fun h => by cases h⟩
def softBoxN (B : Nat) (T : TypeId) (cur : Array Value) : MStP (Own B) Ext := ⟨fun v w => ∃ g : Nat, B ≤ g ∧ v = .pointer (some ⟨g, 0, none⟩) ∧ w.heap[g]? = some (.cells cur T (0, 0)), false, fun v w w' hs ⟨g, hB, e, hg⟩ => ⟨g, hB, e, (Below.block hs g (Array.getElem?_eq_some_iff.1 hg).1).trans hg⟩, fun h => by cases h⟩
theorem gotN_ex (o : Option NodeD) : ∃ i0 i1 i2 i3 i4 i5 i6 i7 i8 i9 : Int, ∃ bb : Bool, gotN o = .tuple #[.agg #[.int .i64 i0, .int .i64 i1, .int .i64 i2, .int .i64 i3, .int .i64 i4, .int .i64 i5, .int .i64 i6, .int .i64 i7, .int .i64 i8, .int .i64 i9], .bool bb] := by
 rcases o with _ | ⟨i, j, z, ⟨a, b, s, m, l⟩, d, n⟩
 · exact ⟨0, 0, 0, 0, 0, 0, 0, 0, 0, 0, false, rfl⟩
 exact ⟨i, j, z, a, b, s, m, l, d, n, true, rfl⟩
set_option maxRecDepth 100000 in
theorem eqNode_yes (i0 i1 i2 i3 i4 i5 i6 i7 i8 i9 : Int) (w : World) :
 Calls Tryz.prog 23 #[.agg #[.int .i64 i0, .int .i64 i1, .int .i64 i2, .int .i64 i3, .int .i64 i4, .int .i64 i5, .int .i64 i6, .int .i64 i7, .int .i64 i8, .int .i64 i9], .agg #[.int .i64 i0, .int .i64 i1, .int .i64 i2, .int .i64 i3, .int .i64 i4, .int .i64 i5, .int .i64 i6, .int .i64 i7, .int .i64 i8, .int .i64 i9]] w fun e w' => e = .returned (.bool true) ∧ Below w.heap.size w w' := by
 have h0 : (i0 != i0) = false := by simp
 have h1 : (i1 != i1) = false := by simp
 have h2 : (i2 != i2) = false := by simp
 go_enter Tryz.func23, Tryz.ntmps23
 go_wp2_with fail
 refine (eqTree_yes [.int .i64 i3, .int .i64 i4, .int .i64 i5, .int .i64 i6, .int .i64 i7, .int .i64 i8, .int .i64 i9] [.int .i64 i3, .int .i64 i4, .int .i64 i5, .int .i64 i6, .int .i64 i7, .int .i64 i8, .int .i64 i9] ((i3, i4, i5, i6, i7), i8, i9) _ 0 0 0 0 rfl rfl).mono ?_
 rintro e w1 ⟨rfl, hb⟩
 go_wp2_with fail
 go_ret
 exact ⟨rfl, bel2.trans (hb.mono (by simp <;> omega))⟩
set_option maxRecDepth 100000 in
set_option maxHeartbeats 8000000 in
theorem fnExactTableGet_walk (l0 : List Value) (x0 : StoreD) (l1 : List Value) (x1 : TreeD) (x2 : Int) (w : World) (he : Env w) (h0 : StoreR w 0 w.heap.size l0 x0) (h1 : TreeR w 0 w.heap.size l1 x1) :
 Calls Tryz.prog 6 #[.agg l0.toArray, .agg l1.toArray, .int .i64 x2] w fun e w' => e = .returned (.bool true) ∧ Below w.heap.size w w' := by
 have PA0 := Lib.hid h0
 obtain ⟨v0_rows_, ⟨v0_space_refs_, v0_space_last_⟩, v0_txg_, v0_gone_, v0_keep_, v0_dead_, v0_same_⟩ := x0
 obtain ⟨Ap00, np00, cp00, Ap01, np01, cp01, Ap02, np02, cp02, Ap03, np03, cp03, Ap04, np04, cp04, rfl, hp00, hp01, hp02, hp03, hp04⟩ := h0
 clear hp00 hp01 hp02 hp03 hp04
 obtain ⟨⟨v1_root_at_, v1_root_birth_, v1_root_size_, v1_root_sum_, v1_root_level_⟩, v1_depth_, v1_many_⟩ := x1
 obtain rfl := h1
 show Calls Tryz.prog 6 #[.agg #[.slice Ap00 np00 cp00, .slice Ap01 np01 cp01, .slice Ap02 np02 cp02, .int .i64 v0_txg_, .slice Ap03 np03 cp03, .int .i64 v0_keep_, .slice Ap04 np04 cp04, .bool v0_same_], .agg #[.int .i64 v1_root_at_, .int .i64 v1_root_birth_, .int .i64 v1_root_size_, .int .i64 v1_root_sum_, .int .i64 v1_root_level_, .int .i64 v1_depth_, .int .i64 v1_many_], .int .i64 x2] w _
 generalize hres : gotN (tableGetF (v0_rows_, (v0_space_refs_, v0_space_last_), v0_txg_, v0_gone_, v0_keep_, v0_dead_, v0_same_) ((v1_root_at_, v1_root_birth_, v1_root_size_, v1_root_sum_, v1_root_level_), v1_depth_, v1_many_) x2) = res
 obtain ⟨i0, i1, i2, i3, i4, i5, i6, i7, i8, i9, bb, rfl⟩ : ∃ i0 i1 i2 i3 i4 i5 i6 i7 i8 i9 : Int, ∃ bb : Bool, res = .tuple #[.agg #[.int .i64 i0, .int .i64 i1, .int .i64 i2, .int .i64 i3, .int .i64 i4, .int .i64 i5, .int .i64 i6, .int .i64 i7, .int .i64 i8, .int .i64 i9], .bool bb] := by rw [← hres]; exact gotN_ex _
 have HRES := Lib.hid hres; clear hres
 go_enter Tryz.func6, Tryz.ntmps6
 go_wp2_with fail
 have HE := Lib.hid he; clear he
 refine (szStore_any _ _ _ 0 w.heap.size (1048576) (StoreR.below bel2 (Nat.le_refl _) _ _ PA0.out) (by omega) (by omega)).mono ?_
 rintro e w1 ⟨s0, rfl, p0_, o0_, z0, hb1⟩
 have ZZ0 := Lib.hid z0; clear z0
 have S1 : Below w.heap.size w w1 := bel2.trans (hb1.mono (by simp <;> omega))
 have c1_0 : w1.cell? ⟨w.heap.size, 0, none⟩ = some (.slice Ap00 np00 cp00) := (hb1.cell (by simp <;> omega)).trans (by simp [go_sem])
 have c1_1 : w1.cell? ⟨w.heap.size, 1, none⟩ = some (.slice Ap01 np01 cp01) := (hb1.cell (by simp <;> omega)).trans (by simp [go_sem])
 have c1_2 : w1.cell? ⟨w.heap.size, 2, none⟩ = some (.slice Ap02 np02 cp02) := (hb1.cell (by simp <;> omega)).trans (by simp [go_sem])
 have c1_3 : w1.cell? ⟨w.heap.size, 3, none⟩ = some (.int .i64 v0_txg_) := (hb1.cell (by simp <;> omega)).trans (by simp [go_sem])
 have c1_4 : w1.cell? ⟨w.heap.size, 4, none⟩ = some (.slice Ap03 np03 cp03) := (hb1.cell (by simp <;> omega)).trans (by simp [go_sem])
 have c1_5 : w1.cell? ⟨w.heap.size, 5, none⟩ = some (.int .i64 v0_keep_) := (hb1.cell (by simp <;> omega)).trans (by simp [go_sem])
 have c1_6 : w1.cell? ⟨w.heap.size, 6, none⟩ = some (.slice Ap04 np04 cp04) := (hb1.cell (by simp <;> omega)).trans (by simp [go_sem])
 have c1_7 : w1.cell? ⟨w.heap.size, 7, none⟩ = some (.bool v0_same_) := (hb1.cell (by simp <;> omega)).trans (by simp [go_sem])
 have c1_8 : w1.cell? ⟨w.heap.size + 1, 0, none⟩ = some (.int .i64 v1_root_at_) := (hb1.cell (by simp <;> omega)).trans (by simp [go_sem])
 have c1_9 : w1.cell? ⟨w.heap.size + 1, 1, none⟩ = some (.int .i64 v1_root_birth_) := (hb1.cell (by simp <;> omega)).trans (by simp [go_sem])
 have c1_10 : w1.cell? ⟨w.heap.size + 1, 2, none⟩ = some (.int .i64 v1_root_size_) := (hb1.cell (by simp <;> omega)).trans (by simp [go_sem])
 have c1_11 : w1.cell? ⟨w.heap.size + 1, 3, none⟩ = some (.int .i64 v1_root_sum_) := (hb1.cell (by simp <;> omega)).trans (by simp [go_sem])
 have c1_12 : w1.cell? ⟨w.heap.size + 1, 4, none⟩ = some (.int .i64 v1_root_level_) := (hb1.cell (by simp <;> omega)).trans (by simp [go_sem])
 have c1_13 : w1.cell? ⟨w.heap.size + 1, 5, none⟩ = some (.int .i64 v1_depth_) := (hb1.cell (by simp <;> omega)).trans (by simp [go_sem])
 have c1_14 : w1.cell? ⟨w.heap.size + 1, 6, none⟩ = some (.int .i64 v1_many_) := (hb1.cell (by simp <;> omega)).trans (by simp [go_sem])
 have l1_0 : w.heap.size < w1.heap.size := World.block_lt_of_cell? _ _ c1_0
 have l1_1 : w.heap.size + 1 < w1.heap.size := World.block_lt_of_cell? _ _ c1_8
 have X1 : Below w.heap.size w w1 := S1
 clear hb1
 clear S1
 by_cases q0_ : s0 < 0
 · go_wp2_with fail
   go_ret
   exact ⟨rfl, X1⟩
 have dq0 : decide (s0 < 0) = false := by simpa using q0_
 have Z0 : sizeStore (v0_rows_, (v0_space_refs_, v0_space_last_), v0_txg_, v0_gone_, v0_keep_, v0_dead_, v0_same_) ≤ 1048576 := by have := ZZ0.out (by omega); omega
 clear ZZ0
 have HZ0 := Lib.hid Z0; clear Z0
 go_wp2_with fail
 apply wp_region_rgz (Own (w1.heap.size)) (Ext) (fun y w' k' => 1000 ≤ k' → ∃ nb : Nat, y 8 = .pointer (some ⟨nb, 0, none⟩) ∧ w1.heap.size ≤ nb ∧ w'.heap[nb]? = some (.cells #[.int .i64 i0, .int .i64 i1, .int .i64 i2, .int .i64 i3, .int .i64 i4, .int .i64 i5, .int .i64 i6, .int .i64 i7, .int .i64 i8, .int .i64 i9] 53 (0, 0))) [0, 0, 0, 0, 0, 0, 0, 0, 0, 0, 1000, 0] [1000, 1000, 1000, 1000, 1000, 1000, 1000, 1000, 0, 1000, 1000, 0] (by kernel_rfl) (false :: false :: false :: false :: false :: false :: false :: false :: true :: true :: false :: false :: false :: false :: false :: false :: false :: false :: true :: true :: true :: true :: true :: true :: true :: true :: true :: false :: false :: false :: false :: false :: false :: false :: false :: false :: false :: false :: false :: false :: false :: false :: false :: false :: false :: false :: false :: false :: false :: false :: false :: []) [some 19, some 20, some 21, some 22, some 23, some 24, some 18, some 25, some 26, some 8, none, some 9] [[], [0], [], [2], [], [1, 3, 4], [5], [6], [6], [], [7, 9], [8]] [false, false, false, false, false, false, false, false, false, false, true, false] [true, false, true, true, true, true, true, true, true, false, true, true] [11] [MStP.is _, StoreR.mst (w1.heap.size) (v0_rows_, (v0_space_refs_, v0_space_last_), v0_txg_, v0_gone_, v0_keep_, v0_dead_, v0_same_), MStP.is _, MStP.is _, MStP.is _, MStP.is _, MStP.is _, MStP.is _, MStP.is _, softBoxN (w1.heap.size) 53 #[.int .i64 0, .int .i64 0, .int .i64 0, .int .i64 0, .int .i64 0, .int .i64 0, .int .i64 0, .int .i64 0, .int .i64 0, .int .i64 0], MStP.is _, MStP.is _] (by kernel_rfl) (by kernel_rfl) (by kernel_rfl) (by kernel_rfl)
 case hobs =>
  refine ⟨fun y w' k hS hj hk hF K hK => ?_, ?_⟩
  · skip
    simp only [fillL, cond_true, cond_false, zG0, zG1, StP.is, Act.put, zS2, zS0, zS1, Nat.reduceAdd, MStP.is, Option.isSome_some, Option.isSome_none] at hK ⊢
    simp only [List.sum_cons, List.sum_nil, zG0, zG1, Nat.reduceAdd, Nat.add_zero] at hk
    refine rg_yes (by kernel_rfl) ?_
    have hSb : Below w1.heap.size w1 w' := hS (Nat.le_refl _)
    have hsz := hSb.size
    clear hF
    have q0_ := (hSb.cell l1_0).trans c1_0
    have q1_ := (hSb.cell l1_0).trans c1_1
    have q2_ := (hSb.cell l1_0).trans c1_2
    have q3_ := (hSb.cell l1_0).trans c1_3
    have q4_ := (hSb.cell l1_0).trans c1_4
    have q5_ := (hSb.cell l1_0).trans c1_5
    have q6_ := (hSb.cell l1_0).trans c1_6
    have q7_ := (hSb.cell l1_0).trans c1_7
    have q8_ := (hSb.cell l1_1).trans c1_8
    have q9_ := (hSb.cell l1_1).trans c1_9
    have q10_ := (hSb.cell l1_1).trans c1_10
    have q11_ := (hSb.cell l1_1).trans c1_11
    have q12_ := (hSb.cell l1_1).trans c1_12
    have q13_ := (hSb.cell l1_1).trans c1_13
    have q14_ := (hSb.cell l1_1).trans c1_14
    go_simp
    exact hK _ _ (Ext.refl _) (fun h => absurd h (by omega)) rfl
  refine ⟨fun y w' k hS hj hk hF K hK => ?_, ?_⟩
  · skip
    have e19 : y 19 = _ := hF.1
    have e19' := Lib.hid e19
    simp only [fillL, cond_true, cond_false, zG0, zG1, StP.is, Act.put, zS2, zS0, zS1, Nat.reduceAdd, e19, MStP.is, Option.isSome_some, Option.isSome_none] at hK ⊢
    simp only [List.sum_cons, List.sum_nil, zG0, zG1, Nat.reduceAdd, Nat.add_zero] at hk
    refine rg_yes (by kernel_rfl) ?_
    have hSb : Below w1.heap.size w1 w' := hS (Nat.le_refl _)
    have hsz := hSb.size
    clear e19
    clear hF
    go_simp
    go_at_call 9
    refine (toStore_any _ _ _ 0 w.heap.size (StoreR.below (X1.trans (Below.mono hSb X1.size)) (Nat.le_refl _) _ _ PA0.out) HZ0.out).mono ?_
    rintro e w'' ⟨cs, rfl, hr, hb⟩
    exact hK _ _ hb (fun h => absurd h (by omega)) ⟨cs, _, _, rfl, Nat.le_refl _, hr⟩
  refine ⟨fun y w' k hS hj hk hF K hK => ?_, ?_⟩
  · skip
    simp only [fillL, cond_true, cond_false, zG0, zG1, StP.is, Act.put, zS2, zS0, zS1, Nat.reduceAdd, MStP.is, Option.isSome_some, Option.isSome_none] at hK ⊢
    simp only [List.sum_cons, List.sum_nil, zG0, zG1, Nat.reduceAdd, Nat.add_zero] at hk
    refine rg_yes (by kernel_rfl) ?_
    have hSb : Below w1.heap.size w1 w' := hS (Nat.le_refl _)
    have hsz := hSb.size
    clear hF
    have q0_ := (hSb.cell l1_0).trans c1_0
    have q1_ := (hSb.cell l1_0).trans c1_1
    have q2_ := (hSb.cell l1_0).trans c1_2
    have q3_ := (hSb.cell l1_0).trans c1_3
    have q4_ := (hSb.cell l1_0).trans c1_4
    have q5_ := (hSb.cell l1_0).trans c1_5
    have q6_ := (hSb.cell l1_0).trans c1_6
    have q7_ := (hSb.cell l1_0).trans c1_7
    have q8_ := (hSb.cell l1_1).trans c1_8
    have q9_ := (hSb.cell l1_1).trans c1_9
    have q10_ := (hSb.cell l1_1).trans c1_10
    have q11_ := (hSb.cell l1_1).trans c1_11
    have q12_ := (hSb.cell l1_1).trans c1_12
    have q13_ := (hSb.cell l1_1).trans c1_13
    have q14_ := (hSb.cell l1_1).trans c1_14
    go_simp
    exact hK _ _ (Ext.refl _) (fun h => absurd h (by omega)) rfl
  refine ⟨fun y w' k hS hj hk hF K hK => ?_, ?_⟩
  · skip
    have e21 : y 21 = _ := hF.1
    have e21' := Lib.hid e21
    simp only [fillL, cond_true, cond_false, zG0, zG1, StP.is, Act.put, zS2, zS0, zS1, Nat.reduceAdd, e21, MStP.is, Option.isSome_some, Option.isSome_none] at hK ⊢
    simp only [List.sum_cons, List.sum_nil, zG0, zG1, Nat.reduceAdd, Nat.add_zero] at hk
    refine rg_yes (by kernel_rfl) ?_
    have hSb : Below w1.heap.size w1 w' := hS (Nat.le_refl _)
    have hsz := hSb.size
    clear e21
    clear hF
    go_simp
    go_at_call 10
    refine (toTreeF_any [.int .i64 v1_root_at_, .int .i64 v1_root_birth_, .int .i64 v1_root_size_, .int .i64 v1_root_sum_, .int .i64 v1_root_level_, .int .i64 v1_depth_, .int .i64 v1_many_] ((v1_root_at_, v1_root_birth_, v1_root_size_, v1_root_sum_, v1_root_level_), v1_depth_, v1_many_) _ w 0 0 rfl).mono ?_
    rintro e w'' ⟨rfl, hb⟩
    exact hK _ _ hb (fun h => absurd h (by omega)) rfl
  refine ⟨fun y w' k hS hj hk hF K hK => ?_, ?_⟩
  · skip
    simp only [fillL, cond_true, cond_false, zG0, zG1, StP.is, Act.put, zS2, zS0, zS1, Nat.reduceAdd, MStP.is, Option.isSome_some, Option.isSome_none] at hK ⊢
    simp only [List.sum_cons, List.sum_nil, zG0, zG1, Nat.reduceAdd, Nat.add_zero] at hk
    refine rg_yes (by kernel_rfl) ?_
    have hSb : Below w1.heap.size w1 w' := hS (Nat.le_refl _)
    have hsz := hSb.size
    clear hF
    go_simp
    exact hK _ _ (Ext.refl _) (fun h => absurd h (by omega)) rfl
  refine ⟨fun y w' k hS hj hk hF K hK => ?_, ?_⟩
  · skip
    obtain ⟨cs_, lo_, hi_, e20, hh_, R_⟩ := hF.1
    have e22 : y 22 = _ := hF.2.1
    have e23 : y 23 = _ := hF.2.2.1
    have e20' := Lib.hid e20
    have e22' := Lib.hid e22
    have e23' := Lib.hid e23
    simp only [fillL, cond_true, cond_false, zG0, zG1, StP.is, Act.put, zS2, zS0, zS1, Nat.reduceAdd, e20, e22, e23, MStP.is, Option.isSome_some, Option.isSome_none] at hK ⊢
    simp only [List.sum_cons, List.sum_nil, zG0, zG1, Nat.reduceAdd, Nat.add_zero] at hk
    refine rg_yes (by kernel_rfl) ?_
    have hSb : Below w1.heap.size w1 w' := hS (Nat.le_refl _)
    have hsz := hSb.size
    clear e20 e22 e23
    clear hF
    go_simp
    go_at_call 21
    refine (spTableGet_any _ (v0_rows_, (v0_space_refs_, v0_space_last_), v0_txg_, v0_gone_, v0_keep_, v0_dead_, v0_same_) v1_root_at_ v1_root_birth_ v1_root_size_ v1_root_sum_ v1_root_level_ v1_depth_ v1_many_ x2 _ _ _ R_ hh_ (by have := HZ0.out; unfold sizeStore at this; unfold SmallS; simp only at this ⊢; constructor <;> omega)).mono ?_
    rw [HRES.out]
    rintro e w'' ⟨rfl, hb⟩
    exact hK _ _ hb (fun h => absurd h (by omega)) rfl
  refine ⟨fun y w' k hS hj hk hF K hK => ?_, ?_⟩
  · skip
    have e24 : y 24 = _ := hF.1
    have e24' := Lib.hid e24
    simp only [fillL, cond_true, cond_false, zG0, zG1, StP.is, Act.put, zS2, zS0, zS1, Nat.reduceAdd, e24, MStP.is, Option.isSome_some, Option.isSome_none] at hK ⊢
    simp only [List.sum_cons, List.sum_nil, zG0, zG1, Nat.reduceAdd, Nat.add_zero] at hk
    refine rg_yes (by kernel_rfl) ?_
    have hSb : Below w1.heap.size w1 w' := hS (Nat.le_refl _)
    have hsz := hSb.size
    clear e24
    clear hF
    go_simp
    exact hK _ _ (Ext.refl _) (fun h => absurd h (by omega)) rfl
  refine ⟨fun y w' k hS hj hk hF K hK => ?_, ?_⟩
  · skip
    have e18 : y 18 = _ := hF.1
    have e18' := Lib.hid e18
    simp only [fillL, cond_true, cond_false, zG0, zG1, StP.is, Act.put, zS2, zS0, zS1, Nat.reduceAdd, e18, MStP.is, Option.isSome_some, Option.isSome_none] at hK ⊢
    simp only [List.sum_cons, List.sum_nil, zG0, zG1, Nat.reduceAdd, Nat.add_zero] at hk
    refine rg_yes (by kernel_rfl) ?_
    have hSb : Below w1.heap.size w1 w' := hS (Nat.le_refl _)
    have hsz := hSb.size
    clear e18
    clear hF
    go_simp
    exact hK _ _ (Ext.refl _) (fun h => absurd h (by omega)) rfl
  refine ⟨fun y w' k hS hj hk hF K hK => ?_, ?_⟩
  · skip
    have e18 : y 18 = _ := hF.1
    have e18' := Lib.hid e18
    simp only [fillL, cond_true, cond_false, zG0, zG1, StP.is, Act.put, zS2, zS0, zS1, Nat.reduceAdd, e18, MStP.is, Option.isSome_some, Option.isSome_none] at hK ⊢
    simp only [List.sum_cons, List.sum_nil, zG0, zG1, Nat.reduceAdd, Nat.add_zero] at hk
    refine rg_yes (by kernel_rfl) ?_
    have hSb : Below w1.heap.size w1 w' := hS (Nat.le_refl _)
    have hsz := hSb.size
    clear e18
    clear hF
    go_simp
    exact hK _ _ (Ext.refl _) (fun h => by obtain ⟨nb, ha, hr⟩ := hj (by omega); exact ⟨nb, by simpa [updY] using ha, hr⟩) rfl
  refine ⟨fun y w' k hS hj hk hF K hK => ?_, ?_⟩
  · skip
    simp only [fillL, cond_true, cond_false, zG0, zG1, StP.is, Act.put, zS2, zS0, zS1, Nat.reduceAdd, MStP.is, Option.isSome_some, Option.isSome_none] at hK ⊢
    simp only [List.sum_cons, List.sum_nil, zG0, zG1, Nat.reduceAdd, Nat.add_zero] at hk
    refine rg_yes (by kernel_rfl) ?_
    have hSb : Below w1.heap.size w1 w' := hS (Nat.le_refl _)
    have hsz := hSb.size
    clear hF
    go_simp
    exact hK _ _ (Ext.alloc _ _) (fun h => absurd h (by omega)) ⟨_, by omega, rfl, heap_alloc_new _ _⟩
  refine ⟨fun y w' k hS hj hk hF K hK => ?_, ?_⟩
  · skip
    have e25 : y 25 = _ := hF.1
    obtain ⟨nb, hBn, e8, hln⟩ := hF.2.1
    have e25' := Lib.hid e25
    have e8' := Lib.hid e8
    simp only [fillL, cond_true, cond_false, zG0, zG1, StP.is, Act.put, zS2, zS0, zS1, Nat.reduceAdd, e25, e8, MStP.is, Option.isSome_some, Option.isSome_none] at hK ⊢
    simp only [List.sum_cons, List.sum_nil, zG0, zG1, Nat.reduceAdd, Nat.add_zero] at hk
    refine rg_yes (by kernel_rfl) ?_
    have hSb : Below w1.heap.size w1 w' := hS (Nat.le_refl _)
    have hsz := hSb.size
    clear e25 e8
    clear hF
    have fz := fun o => block_free hln o
    have fz0 := fz 0; have fz1 := fz 1; have fz2 := fz 2; have fz3 := fz 3; have fz4 := fz 4; have fz5 := fz 5; have fz6 := fz 6; have fz7 := fz 7; have fz8 := fz 8; have fz9 := fz 9
    have cz0 := celR 0 hln
    have cz1 := celR 1 hln
    have cz2 := celR 2 hln
    have cz3 := celR 3 hln
    have cz4 := celR 4 hln
    have cz5 := celR 5 hln
    have cz6 := celR 6 hln
    have cz7 := celR 7 hln
    have cz8 := celR 8 hln
    have cz9 := celR 9 hln
    clear fz
    have HE3 := e8'; clear e8'
    have HSET := Lib.hid (set_10 (x0 := .int .i64 i0) (x1 := .int .i64 i1) (x2 := .int .i64 i2) (x3 := .int .i64 i3) (x4 := .int .i64 i4) (x5 := .int .i64 i5) (x6 := .int .i64 i6) (x7 := .int .i64 i7) (x8 := .int .i64 i8) (x9 := .int .i64 i9) hln)
    have HL3 := Lib.hid hln; clear hln
    go_simp
    exact hK undef _ (fun hB => (Below.setCell (p := ⟨nb, 9, none⟩) (Below.setCell (p := ⟨nb, 8, none⟩) (Below.setCell (p := ⟨nb, 7, none⟩) (Below.setCell (p := ⟨nb, 6, none⟩) (Below.setCell (p := ⟨nb, 5, none⟩) (Below.setCell (p := ⟨nb, 4, none⟩) (Below.setCell (p := ⟨nb, 3, none⟩) (Below.setCell (p := ⟨nb, 2, none⟩) (Below.setCell (p := ⟨nb, 1, none⟩) (Below.setCell (p := ⟨nb, 0, none⟩) (Below.refl _ _) hBn _) hBn _) hBn _) hBn _) hBn _) hBn _) hBn _) hBn _) hBn _) hBn _)) (fun _ => ⟨nb, HE3.out, hBn, HSET.out⟩) rfl
  refine ⟨fun y w' k hS hj hk hF K hK => ?_, ?_⟩
  · skip
    have e26 : y 26 = _ := hF.1
    have e26' := Lib.hid e26
    simp only [fillL, cond_true, cond_false, zG0, zG1, StP.is, Act.put, zS2, zS0, zS1, Nat.reduceAdd, e26, MStP.is, Option.isSome_some, Option.isSome_none] at hK ⊢
    simp only [List.sum_cons, List.sum_nil, zG0, zG1, Nat.reduceAdd, Nat.add_zero] at hk
    refine rg_yes (by kernel_rfl) ?_
    have hSb : Below w1.heap.size w1 w' := hS (Nat.le_refl _)
    have hsz := hSb.size
    clear e26
    clear hF
    go_simp
    exact hK _ _ (Ext.refl _) (fun h => by obtain ⟨nb, ha, hr⟩ := hj (by omega); exact ⟨nb, by simpa [updY] using ha, hr⟩) rfl
  trivial
 case hH => rfl
 case hNS => exact Own.of_ext _
 case hSt => exact fun a b => Own.trans a b
 case hb => rfl
 case hdrew => exact Own.drew _ _
 case hj0 => exact fun y h => absurd h (by omega)
 intro y w2 hS hJ hF
 have e9 : y 9 = _ := hF.1
 obtain ⟨nbA, e8, hBn, hln⟩ := hJ (by decide)
 clear hJ hF
 simp only [fillL, cond_true, cond_false, Nat.reduceAdd, e8, e9]
 clear e8 e9
 have hb : Below w1.heap.size w1 w2 := hS (Nat.le_refl _)
 clear hS hBn
 have HLN := Lib.hid hln; clear hln
 have S2 : Below w1.heap.size w1 w2 := hb
 have c2_0 := (S2.cell l1_0).trans c1_0
 have c2_1 := (S2.cell l1_0).trans c1_1
 have c2_2 := (S2.cell l1_0).trans c1_2
 have c2_3 := (S2.cell l1_0).trans c1_3
 have c2_4 := (S2.cell l1_0).trans c1_4
 have c2_5 := (S2.cell l1_0).trans c1_5
 have c2_6 := (S2.cell l1_0).trans c1_6
 have c2_7 := (S2.cell l1_0).trans c1_7
 have c2_8 := (S2.cell l1_1).trans c1_8
 have c2_9 := (S2.cell l1_1).trans c1_9
 have c2_10 := (S2.cell l1_1).trans c1_10
 have c2_11 := (S2.cell l1_1).trans c1_11
 have c2_12 := (S2.cell l1_1).trans c1_12
 have c2_13 := (S2.cell l1_1).trans c1_13
 have c2_14 := (S2.cell l1_1).trans c1_14
 have l2_0 : w.heap.size < w2.heap.size := World.block_lt_of_cell? _ _ c2_0
 have l2_1 : w.heap.size + 1 < w2.heap.size := World.block_lt_of_cell? _ _ c2_8
 have X2 : Below w.heap.size w w2 := X1.trans (S2.mono X1.size)
 clear c1_0 c1_1 c1_2 c1_3 c1_4 c1_5 c1_6 c1_7 c1_8 c1_9 c1_10 c1_11 c1_12 c1_13 c1_14 l1_0 l1_1 X1 hb
 clear S2
 have l2_2 : nbA < w2.heap.size := (Array.getElem?_eq_some_iff.1 HLN.out).1
 have c2_15 := celR 0 HLN.out
 have c2_16 := celR 1 HLN.out
 have c2_17 := celR 2 HLN.out
 have c2_18 := celR 3 HLN.out
 have c2_19 := celR 4 HLN.out
 have c2_20 := celR 5 HLN.out
 have c2_21 := celR 6 HLN.out
 have c2_22 := celR 7 HLN.out
 have c2_23 := celR 8 HLN.out
 have c2_24 := celR 9 HLN.out
 clear HLN
 go_wp2_with fail
 refine (toStore_any _ _ _ 0 w.heap.size (StoreR.below X2 (Nat.le_refl _) _ _ PA0.out) HZ0.out).mono ?_
 rintro e w3 ⟨cs, rfl, hr, hb⟩
 obtain ⟨lo0, hlo0⟩ : ∃ x, x = w2.heap.size := ⟨_, rfl⟩
 have hr : StoreR w3 lo0 w3.heap.size cs (v0_rows_, (v0_space_refs_, v0_space_last_), v0_txg_, v0_gone_, v0_keep_, v0_dead_, v0_same_) := by rw [hlo0]; simpa using hr
 clear hlo0
 have S3 : Below w2.heap.size w2 w3 := hb
 have c3_0 := (S3.cell l2_0).trans c2_0
 have c3_1 := (S3.cell l2_0).trans c2_1
 have c3_2 := (S3.cell l2_0).trans c2_2
 have c3_3 := (S3.cell l2_0).trans c2_3
 have c3_4 := (S3.cell l2_0).trans c2_4
 have c3_5 := (S3.cell l2_0).trans c2_5
 have c3_6 := (S3.cell l2_0).trans c2_6
 have c3_7 := (S3.cell l2_0).trans c2_7
 have c3_8 := (S3.cell l2_1).trans c2_8
 have c3_9 := (S3.cell l2_1).trans c2_9
 have c3_10 := (S3.cell l2_1).trans c2_10
 have c3_11 := (S3.cell l2_1).trans c2_11
 have c3_12 := (S3.cell l2_1).trans c2_12
 have c3_13 := (S3.cell l2_1).trans c2_13
 have c3_14 := (S3.cell l2_1).trans c2_14
 have c3_15 := (S3.cell l2_2).trans c2_15
 have c3_16 := (S3.cell l2_2).trans c2_16
 have c3_17 := (S3.cell l2_2).trans c2_17
 have c3_18 := (S3.cell l2_2).trans c2_18
 have c3_19 := (S3.cell l2_2).trans c2_19
 have c3_20 := (S3.cell l2_2).trans c2_20
 have c3_21 := (S3.cell l2_2).trans c2_21
 have c3_22 := (S3.cell l2_2).trans c2_22
 have c3_23 := (S3.cell l2_2).trans c2_23
 have c3_24 := (S3.cell l2_2).trans c2_24
 have l3_0 : w.heap.size < w3.heap.size := World.block_lt_of_cell? _ _ c3_0
 have l3_1 : w.heap.size + 1 < w3.heap.size := World.block_lt_of_cell? _ _ c3_8
 have l3_2 : nbA < w3.heap.size := World.block_lt_of_cell? _ _ c3_15
 have X3 : Below w.heap.size w w3 := X2.trans (S3.mono X2.size)
 clear c2_0 c2_1 c2_2 c2_3 c2_4 c2_5 c2_6 c2_7 c2_8 c2_9 c2_10 c2_11 c2_12 c2_13 c2_14 c2_15 c2_16 c2_17 c2_18 c2_19 c2_20 c2_21 c2_22 c2_23 c2_24 l2_0 l2_1 l2_2 X2 hb
 clear S3
 obtain ⟨hi0, hhi0⟩ : ∃ x, x = w3.heap.size := ⟨_, rfl⟩
 rw [← hhi0] at hr
 have hhl0 : hi0 ≤ w3.heap.size := Nat.le_of_eq hhi0; clear hhi0
 have hr2 := hr
 obtain ⟨Ar00, nr00, cr00, Ar01, nr01, cr01, Ar02, nr02, cr02, Ar03, nr03, cr03, Ar04, nr04, cr04, rfl, hr00, hr01, hr02, hr03, hr04⟩ := hr2
 clear hr00 hr01 hr02 hr03 hr04
 have RA0_3 := Lib.hid (And.intro hhl0 hr); clear hr hhl0
 go_wp2_with fail
 generalize hwg : w3.alloc (.cells #[.slice Ar00 nr00 cr00, .slice Ar01 nr01 cr01, .slice Ar02 nr02 cr02, .int .i64 v0_txg_, .slice Ar03 nr03 cr03, .int .i64 v0_keep_, .slice Ar04 nr04 cr04, .bool v0_same_] 39) = w4
 have hb : Below (w3.alloc (.cells #[.slice Ar00 nr00 cr00, .slice Ar01 nr01 cr01, .slice Ar02 nr02 cr02, .int .i64 v0_txg_, .slice Ar03 nr03 cr03, .int .i64 v0_keep_, .slice Ar04 nr04 cr04, .bool v0_same_] 39)).heap.size (w3.alloc (.cells #[.slice Ar00 nr00 cr00, .slice Ar01 nr01 cr01, .slice Ar02 nr02 cr02, .int .i64 v0_txg_, .slice Ar03 nr03 cr03, .int .i64 v0_keep_, .slice Ar04 nr04 cr04, .bool v0_same_] 39)) w4 := by rw [← hwg]; exact Below.refl _ _
 clear hwg
 have S4 : Below w3.heap.size w3 w4 := bel1.trans (hb.mono (by simp <;> omega))
 have c4_0 := (S4.cell l3_0).trans c3_0
 have c4_1 := (S4.cell l3_0).trans c3_1
 have c4_2 := (S4.cell l3_0).trans c3_2
 have c4_3 := (S4.cell l3_0).trans c3_3
 have c4_4 := (S4.cell l3_0).trans c3_4
 have c4_5 := (S4.cell l3_0).trans c3_5
 have c4_6 := (S4.cell l3_0).trans c3_6
 have c4_7 := (S4.cell l3_0).trans c3_7
 have c4_8 := (S4.cell l3_1).trans c3_8
 have c4_9 := (S4.cell l3_1).trans c3_9
 have c4_10 := (S4.cell l3_1).trans c3_10
 have c4_11 := (S4.cell l3_1).trans c3_11
 have c4_12 := (S4.cell l3_1).trans c3_12
 have c4_13 := (S4.cell l3_1).trans c3_13
 have c4_14 := (S4.cell l3_1).trans c3_14
 have c4_15 := (S4.cell l3_2).trans c3_15
 have c4_16 := (S4.cell l3_2).trans c3_16
 have c4_17 := (S4.cell l3_2).trans c3_17
 have c4_18 := (S4.cell l3_2).trans c3_18
 have c4_19 := (S4.cell l3_2).trans c3_19
 have c4_20 := (S4.cell l3_2).trans c3_20
 have c4_21 := (S4.cell l3_2).trans c3_21
 have c4_22 := (S4.cell l3_2).trans c3_22
 have c4_23 := (S4.cell l3_2).trans c3_23
 have c4_24 := (S4.cell l3_2).trans c3_24
 have c4_25 : w4.cell? ⟨w3.heap.size, 0, none⟩ = some (.slice Ar00 nr00 cr00) := (hb.cell (by simp <;> omega)).trans (by simp [go_sem])
 have c4_26 : w4.cell? ⟨w3.heap.size, 1, none⟩ = some (.slice Ar01 nr01 cr01) := (hb.cell (by simp <;> omega)).trans (by simp [go_sem])
 have c4_27 : w4.cell? ⟨w3.heap.size, 2, none⟩ = some (.slice Ar02 nr02 cr02) := (hb.cell (by simp <;> omega)).trans (by simp [go_sem])
 have c4_28 : w4.cell? ⟨w3.heap.size, 3, none⟩ = some (.int .i64 v0_txg_) := (hb.cell (by simp <;> omega)).trans (by simp [go_sem])
 have c4_29 : w4.cell? ⟨w3.heap.size, 4, none⟩ = some (.slice Ar03 nr03 cr03) := (hb.cell (by simp <;> omega)).trans (by simp [go_sem])
 have c4_30 : w4.cell? ⟨w3.heap.size, 5, none⟩ = some (.int .i64 v0_keep_) := (hb.cell (by simp <;> omega)).trans (by simp [go_sem])
 have c4_31 : w4.cell? ⟨w3.heap.size, 6, none⟩ = some (.slice Ar04 nr04 cr04) := (hb.cell (by simp <;> omega)).trans (by simp [go_sem])
 have c4_32 : w4.cell? ⟨w3.heap.size, 7, none⟩ = some (.bool v0_same_) := (hb.cell (by simp <;> omega)).trans (by simp [go_sem])
 have l4_0 : w.heap.size < w4.heap.size := World.block_lt_of_cell? _ _ c4_0
 have l4_1 : w.heap.size + 1 < w4.heap.size := World.block_lt_of_cell? _ _ c4_8
 have l4_2 : nbA < w4.heap.size := World.block_lt_of_cell? _ _ c4_15
 have l4_3 : w3.heap.size < w4.heap.size := World.block_lt_of_cell? _ _ c4_25
 have X4 : Below w.heap.size w w4 := X3.trans (S4.mono X3.size)
 have RA0_4 : Hid (hi0 ≤ w4.heap.size ∧ StoreR w4 lo0 hi0 [.slice Ar00 nr00 cr00, .slice Ar01 nr01 cr01, .slice Ar02 nr02 cr02, .int .i64 v0_txg_, .slice Ar03 nr03 cr03, .int .i64 v0_keep_, .slice Ar04 nr04 cr04, .bool v0_same_] (v0_rows_, (v0_space_refs_, v0_space_last_), v0_txg_, v0_gone_, v0_keep_, v0_dead_, v0_same_)) := Lib.hid ⟨Nat.le_trans RA0_3.out.1 S4.size, StoreR.below S4 RA0_3.out.1 _ _ RA0_3.out.2⟩
 clear c3_0 c3_1 c3_2 c3_3 c3_4 c3_5 c3_6 c3_7 c3_8 c3_9 c3_10 c3_11 c3_12 c3_13 c3_14 c3_15 c3_16 c3_17 c3_18 c3_19 c3_20 c3_21 c3_22 c3_23 c3_24 l3_0 l3_1 l3_2 RA0_3 X3 hb
 clear S4
 apply wp_region_rgz (Own (w4.heap.size)) (Ext) (fun y w' k' => 1000 ≤ k' → ∃ nb : Nat, y 11 = .pointer (some ⟨nb, 0, none⟩) ∧ w4.heap.size ≤ nb ∧ w'.heap[nb]? = some (.cells #[.int .i64 i0, .int .i64 i1, .int .i64 i2, .int .i64 i3, .int .i64 i4, .int .i64 i5, .int .i64 i6, .int .i64 i7, .int .i64 i8, .int .i64 i9] 53 (0, 0))) [0, 0, 0, 0, 0, 0, 0, 0, 0, 1000, 0] [1000, 1000, 1000, 1000, 1000, 1000, 1000, 0, 1000, 1000, 0] (by kernel_rfl) (false :: false :: false :: false :: false :: false :: false :: false :: false :: false :: false :: true :: true :: false :: false :: false :: false :: false :: false :: false :: false :: false :: false :: false :: false :: false :: false :: false :: false :: true :: true :: true :: true :: true :: true :: true :: true :: false :: false :: false :: false :: false :: false :: false :: false :: false :: false :: false :: false :: false :: false :: []) [some 30, some 31, some 32, some 33, some 34, some 29, some 35, some 36, some 11, none, some 12] [[], [], [1], [], [0, 2, 3], [4], [5], [5], [], [6, 8], [7]] [false, false, false, false, false, false, false, false, false, true, false] [true, true, true, true, true, true, true, true, false, true, true] [10] [MStP.is _, MStP.is _, MStP.is _, MStP.is _, MStP.is _, MStP.is _, MStP.is _, MStP.is _, softBoxN (w4.heap.size) 53 #[.int .i64 0, .int .i64 0, .int .i64 0, .int .i64 0, .int .i64 0, .int .i64 0, .int .i64 0, .int .i64 0, .int .i64 0, .int .i64 0], MStP.is _, MStP.is _] (by kernel_rfl) (by kernel_rfl) (by kernel_rfl) (by kernel_rfl)
 case hobs =>
  refine ⟨fun y w' k hS hj hk hF K hK => ?_, ?_⟩
  · skip
    simp only [fillL, cond_true, cond_false, zG0, zG1, StP.is, Act.put, zS2, zS0, zS1, Nat.reduceAdd, MStP.is, Option.isSome_some, Option.isSome_none] at hK ⊢
    simp only [List.sum_cons, List.sum_nil, zG0, zG1, Nat.reduceAdd, Nat.add_zero] at hk
    refine rg_yes (by kernel_rfl) ?_
    have hSb : Below w4.heap.size w4 w' := hS (Nat.le_refl _)
    have hsz := hSb.size
    clear hF
    have q0_ := (hSb.cell l4_0).trans c4_0
    have q1_ := (hSb.cell l4_0).trans c4_1
    have q2_ := (hSb.cell l4_0).trans c4_2
    have q3_ := (hSb.cell l4_0).trans c4_3
    have q4_ := (hSb.cell l4_0).trans c4_4
    have q5_ := (hSb.cell l4_0).trans c4_5
    have q6_ := (hSb.cell l4_0).trans c4_6
    have q7_ := (hSb.cell l4_0).trans c4_7
    have q8_ := (hSb.cell l4_1).trans c4_8
    have q9_ := (hSb.cell l4_1).trans c4_9
    have q10_ := (hSb.cell l4_1).trans c4_10
    have q11_ := (hSb.cell l4_1).trans c4_11
    have q12_ := (hSb.cell l4_1).trans c4_12
    have q13_ := (hSb.cell l4_1).trans c4_13
    have q14_ := (hSb.cell l4_1).trans c4_14
    have q15_ := (hSb.cell l4_2).trans c4_15
    have q16_ := (hSb.cell l4_2).trans c4_16
    have q17_ := (hSb.cell l4_2).trans c4_17
    have q18_ := (hSb.cell l4_2).trans c4_18
    have q19_ := (hSb.cell l4_2).trans c4_19
    have q20_ := (hSb.cell l4_2).trans c4_20
    have q21_ := (hSb.cell l4_2).trans c4_21
    have q22_ := (hSb.cell l4_2).trans c4_22
    have q23_ := (hSb.cell l4_2).trans c4_23
    have q24_ := (hSb.cell l4_2).trans c4_24
    have q25_ := (hSb.cell l4_3).trans c4_25
    have q26_ := (hSb.cell l4_3).trans c4_26
    have q27_ := (hSb.cell l4_3).trans c4_27
    have q28_ := (hSb.cell l4_3).trans c4_28
    have q29_ := (hSb.cell l4_3).trans c4_29
    have q30_ := (hSb.cell l4_3).trans c4_30
    have q31_ := (hSb.cell l4_3).trans c4_31
    have q32_ := (hSb.cell l4_3).trans c4_32
    go_simp
    exact hK _ _ (Ext.refl _) (fun h => absurd h (by omega)) rfl
  refine ⟨fun y w' k hS hj hk hF K hK => ?_, ?_⟩
  · skip
    simp only [fillL, cond_true, cond_false, zG0, zG1, StP.is, Act.put, zS2, zS0, zS1, Nat.reduceAdd, MStP.is, Option.isSome_some, Option.isSome_none] at hK ⊢
    simp only [List.sum_cons, List.sum_nil, zG0, zG1, Nat.reduceAdd, Nat.add_zero] at hk
    refine rg_yes (by kernel_rfl) ?_
    have hSb : Below w4.heap.size w4 w' := hS (Nat.le_refl _)
    have hsz := hSb.size
    clear hF
    have q0_ := (hSb.cell l4_0).trans c4_0
    have q1_ := (hSb.cell l4_0).trans c4_1
    have q2_ := (hSb.cell l4_0).trans c4_2
    have q3_ := (hSb.cell l4_0).trans c4_3
    have q4_ := (hSb.cell l4_0).trans c4_4
    have q5_ := (hSb.cell l4_0).trans c4_5
    have q6_ := (hSb.cell l4_0).trans c4_6
    have q7_ := (hSb.cell l4_0).trans c4_7
    have q8_ := (hSb.cell l4_1).trans c4_8
    have q9_ := (hSb.cell l4_1).trans c4_9
    have q10_ := (hSb.cell l4_1).trans c4_10
    have q11_ := (hSb.cell l4_1).trans c4_11
    have q12_ := (hSb.cell l4_1).trans c4_12
    have q13_ := (hSb.cell l4_1).trans c4_13
    have q14_ := (hSb.cell l4_1).trans c4_14
    have q15_ := (hSb.cell l4_2).trans c4_15
    have q16_ := (hSb.cell l4_2).trans c4_16
    have q17_ := (hSb.cell l4_2).trans c4_17
    have q18_ := (hSb.cell l4_2).trans c4_18
    have q19_ := (hSb.cell l4_2).trans c4_19
    have q20_ := (hSb.cell l4_2).trans c4_20
    have q21_ := (hSb.cell l4_2).trans c4_21
    have q22_ := (hSb.cell l4_2).trans c4_22
    have q23_ := (hSb.cell l4_2).trans c4_23
    have q24_ := (hSb.cell l4_2).trans c4_24
    have q25_ := (hSb.cell l4_3).trans c4_25
    have q26_ := (hSb.cell l4_3).trans c4_26
    have q27_ := (hSb.cell l4_3).trans c4_27
    have q28_ := (hSb.cell l4_3).trans c4_28
    have q29_ := (hSb.cell l4_3).trans c4_29
    have q30_ := (hSb.cell l4_3).trans c4_30
    have q31_ := (hSb.cell l4_3).trans c4_31
    have q32_ := (hSb.cell l4_3).trans c4_32
    go_simp
    exact hK _ _ (Ext.refl _) (fun h => absurd h (by omega)) rfl
  refine ⟨fun y w' k hS hj hk hF K hK => ?_, ?_⟩
  · skip
    have e31 : y 31 = _ := hF.1
    have e31' := Lib.hid e31
    simp only [fillL, cond_true, cond_false, zG0, zG1, StP.is, Act.put, zS2, zS0, zS1, Nat.reduceAdd, e31, MStP.is, Option.isSome_some, Option.isSome_none] at hK ⊢
    simp only [List.sum_cons, List.sum_nil, zG0, zG1, Nat.reduceAdd, Nat.add_zero] at hk
    refine rg_yes (by kernel_rfl) ?_
    have hSb : Below w4.heap.size w4 w' := hS (Nat.le_refl _)
    have hsz := hSb.size
    clear e31
    clear hF
    go_simp
    go_at_call 10
    refine (toTreeF_any [.int .i64 v1_root_at_, .int .i64 v1_root_birth_, .int .i64 v1_root_size_, .int .i64 v1_root_sum_, .int .i64 v1_root_level_, .int .i64 v1_depth_, .int .i64 v1_many_] ((v1_root_at_, v1_root_birth_, v1_root_size_, v1_root_sum_, v1_root_level_), v1_depth_, v1_many_) _ w 0 0 rfl).mono ?_
    rintro e w'' ⟨rfl, hb⟩
    exact hK _ _ hb (fun h => absurd h (by omega)) rfl
  refine ⟨fun y w' k hS hj hk hF K hK => ?_, ?_⟩
  · skip
    simp only [fillL, cond_true, cond_false, zG0, zG1, StP.is, Act.put, zS2, zS0, zS1, Nat.reduceAdd, MStP.is, Option.isSome_some, Option.isSome_none] at hK ⊢
    simp only [List.sum_cons, List.sum_nil, zG0, zG1, Nat.reduceAdd, Nat.add_zero] at hk
    refine rg_yes (by kernel_rfl) ?_
    have hSb : Below w4.heap.size w4 w' := hS (Nat.le_refl _)
    have hsz := hSb.size
    clear hF
    go_simp
    exact hK _ _ (Ext.refl _) (fun h => absurd h (by omega)) rfl
  refine ⟨fun y w' k hS hj hk hF K hK => ?_, ?_⟩
  · skip
    have e30 : y 30 = _ := hF.1
    have e32 : y 32 = _ := hF.2.1
    have e33 : y 33 = _ := hF.2.2.1
    have e30' := Lib.hid e30
    have e32' := Lib.hid e32
    have e33' := Lib.hid e33
    simp only [fillL, cond_true, cond_false, zG0, zG1, StP.is, Act.put, zS2, zS0, zS1, Nat.reduceAdd, e30, e32, e33, MStP.is, Option.isSome_some, Option.isSome_none] at hK ⊢
    simp only [List.sum_cons, List.sum_nil, zG0, zG1, Nat.reduceAdd, Nat.add_zero] at hk
    refine rg_yes (by kernel_rfl) ?_
    have hSb : Below w4.heap.size w4 w' := hS (Nat.le_refl _)
    have hsz := hSb.size
    clear e30 e32 e33
    clear hF
    go_simp
    go_at_call 22
    refine (tableGet_any _ (v0_rows_, (v0_space_refs_, v0_space_last_), v0_txg_, v0_gone_, v0_keep_, v0_dead_, v0_same_) v1_root_at_ v1_root_birth_ v1_root_size_ v1_root_sum_ v1_root_level_ v1_depth_ v1_many_ x2 _ (HE.out.below (X4.trans (Below.mono hSb X4.size))) _ _ (StoreR.below hSb RA0_4.out.1 _ _ RA0_4.out.2) (Nat.le_trans RA0_4.out.1 hSb.size) (by have := HZ0.out; unfold sizeStore at this; unfold SmallS; simp only at this ⊢; constructor <;> omega)).mono ?_
    rw [HRES.out]
    rintro e w'' ⟨rfl, hb⟩
    exact hK _ _ hb (fun h => absurd h (by omega)) rfl
  refine ⟨fun y w' k hS hj hk hF K hK => ?_, ?_⟩
  · skip
    have e34 : y 34 = _ := hF.1
    have e34' := Lib.hid e34
    simp only [fillL, cond_true, cond_false, zG0, zG1, StP.is, Act.put, zS2, zS0, zS1, Nat.reduceAdd, e34, MStP.is, Option.isSome_some, Option.isSome_none] at hK ⊢
    simp only [List.sum_cons, List.sum_nil, zG0, zG1, Nat.reduceAdd, Nat.add_zero] at hk
    refine rg_yes (by kernel_rfl) ?_
    have hSb : Below w4.heap.size w4 w' := hS (Nat.le_refl _)
    have hsz := hSb.size
    clear e34
    clear hF
    go_simp
    exact hK _ _ (Ext.refl _) (fun h => absurd h (by omega)) rfl
  refine ⟨fun y w' k hS hj hk hF K hK => ?_, ?_⟩
  · skip
    have e29 : y 29 = _ := hF.1
    have e29' := Lib.hid e29
    simp only [fillL, cond_true, cond_false, zG0, zG1, StP.is, Act.put, zS2, zS0, zS1, Nat.reduceAdd, e29, MStP.is, Option.isSome_some, Option.isSome_none] at hK ⊢
    simp only [List.sum_cons, List.sum_nil, zG0, zG1, Nat.reduceAdd, Nat.add_zero] at hk
    refine rg_yes (by kernel_rfl) ?_
    have hSb : Below w4.heap.size w4 w' := hS (Nat.le_refl _)
    have hsz := hSb.size
    clear e29
    clear hF
    go_simp
    exact hK _ _ (Ext.refl _) (fun h => absurd h (by omega)) rfl
  refine ⟨fun y w' k hS hj hk hF K hK => ?_, ?_⟩
  · skip
    have e29 : y 29 = _ := hF.1
    have e29' := Lib.hid e29
    simp only [fillL, cond_true, cond_false, zG0, zG1, StP.is, Act.put, zS2, zS0, zS1, Nat.reduceAdd, e29, MStP.is, Option.isSome_some, Option.isSome_none] at hK ⊢
    simp only [List.sum_cons, List.sum_nil, zG0, zG1, Nat.reduceAdd, Nat.add_zero] at hk
    refine rg_yes (by kernel_rfl) ?_
    have hSb : Below w4.heap.size w4 w' := hS (Nat.le_refl _)
    have hsz := hSb.size
    clear e29
    clear hF
    go_simp
    exact hK _ _ (Ext.refl _) (fun h => by obtain ⟨nb, ha, hr⟩ := hj (by omega); exact ⟨nb, by simpa [updY] using ha, hr⟩) rfl
  refine ⟨fun y w' k hS hj hk hF K hK => ?_, ?_⟩
  · skip
    simp only [fillL, cond_true, cond_false, zG0, zG1, StP.is, Act.put, zS2, zS0, zS1, Nat.reduceAdd, MStP.is, Option.isSome_some, Option.isSome_none] at hK ⊢
    simp only [List.sum_cons, List.sum_nil, zG0, zG1, Nat.reduceAdd, Nat.add_zero] at hk
    refine rg_yes (by kernel_rfl) ?_
    have hSb : Below w4.heap.size w4 w' := hS (Nat.le_refl _)
    have hsz := hSb.size
    clear hF
    go_simp
    exact hK _ _ (Ext.alloc _ _) (fun h => absurd h (by omega)) ⟨_, by omega, rfl, heap_alloc_new _ _⟩
  refine ⟨fun y w' k hS hj hk hF K hK => ?_, ?_⟩
  · skip
    have e35 : y 35 = _ := hF.1
    obtain ⟨nb, hBn, e11, hln⟩ := hF.2.1
    have e35' := Lib.hid e35
    have e11' := Lib.hid e11
    simp only [fillL, cond_true, cond_false, zG0, zG1, StP.is, Act.put, zS2, zS0, zS1, Nat.reduceAdd, e35, e11, MStP.is, Option.isSome_some, Option.isSome_none] at hK ⊢
    simp only [List.sum_cons, List.sum_nil, zG0, zG1, Nat.reduceAdd, Nat.add_zero] at hk
    refine rg_yes (by kernel_rfl) ?_
    have hSb : Below w4.heap.size w4 w' := hS (Nat.le_refl _)
    have hsz := hSb.size
    clear e35 e11
    clear hF
    have fz := fun o => block_free hln o
    have fz0 := fz 0; have fz1 := fz 1; have fz2 := fz 2; have fz3 := fz 3; have fz4 := fz 4; have fz5 := fz 5; have fz6 := fz 6; have fz7 := fz 7; have fz8 := fz 8; have fz9 := fz 9
    have cz0 := celR 0 hln
    have cz1 := celR 1 hln
    have cz2 := celR 2 hln
    have cz3 := celR 3 hln
    have cz4 := celR 4 hln
    have cz5 := celR 5 hln
    have cz6 := celR 6 hln
    have cz7 := celR 7 hln
    have cz8 := celR 8 hln
    have cz9 := celR 9 hln
    clear fz
    have HE3 := e11'; clear e11'
    have HSET := Lib.hid (set_10 (x0 := .int .i64 i0) (x1 := .int .i64 i1) (x2 := .int .i64 i2) (x3 := .int .i64 i3) (x4 := .int .i64 i4) (x5 := .int .i64 i5) (x6 := .int .i64 i6) (x7 := .int .i64 i7) (x8 := .int .i64 i8) (x9 := .int .i64 i9) hln)
    have HL3 := Lib.hid hln; clear hln
    go_simp
    exact hK undef _ (fun hB => (Below.setCell (p := ⟨nb, 9, none⟩) (Below.setCell (p := ⟨nb, 8, none⟩) (Below.setCell (p := ⟨nb, 7, none⟩) (Below.setCell (p := ⟨nb, 6, none⟩) (Below.setCell (p := ⟨nb, 5, none⟩) (Below.setCell (p := ⟨nb, 4, none⟩) (Below.setCell (p := ⟨nb, 3, none⟩) (Below.setCell (p := ⟨nb, 2, none⟩) (Below.setCell (p := ⟨nb, 1, none⟩) (Below.setCell (p := ⟨nb, 0, none⟩) (Below.refl _ _) hBn _) hBn _) hBn _) hBn _) hBn _) hBn _) hBn _) hBn _) hBn _) hBn _)) (fun _ => ⟨nb, HE3.out, hBn, HSET.out⟩) rfl
  refine ⟨fun y w' k hS hj hk hF K hK => ?_, ?_⟩
  · skip
    have e36 : y 36 = _ := hF.1
    have e36' := Lib.hid e36
    simp only [fillL, cond_true, cond_false, zG0, zG1, StP.is, Act.put, zS2, zS0, zS1, Nat.reduceAdd, e36, MStP.is, Option.isSome_some, Option.isSome_none] at hK ⊢
    simp only [List.sum_cons, List.sum_nil, zG0, zG1, Nat.reduceAdd, Nat.add_zero] at hk
    refine rg_yes (by kernel_rfl) ?_
    have hSb : Below w4.heap.size w4 w' := hS (Nat.le_refl _)
    have hsz := hSb.size
    clear e36
    clear hF
    go_simp
    exact hK _ _ (Ext.refl _) (fun h => by obtain ⟨nb, ha, hr⟩ := hj (by omega); exact ⟨nb, by simpa [updY] using ha, hr⟩) rfl
  trivial
 case hH => rfl
 case hNS => exact Own.of_ext _
 case hSt => exact fun a b => Own.trans a b
 case hb => rfl
 case hdrew => exact Own.drew _ _
 case hj0 => exact fun y h => absurd h (by omega)
 intro y w5 hS hJ hF
 have e12 : y 12 = _ := hF.1
 obtain ⟨nbB, e11, hBn, hln⟩ := hJ (by decide)
 clear hJ hF
 simp only [fillL, cond_true, cond_false, Nat.reduceAdd, e11, e12]
 clear e11 e12
 have hb : Below w4.heap.size w4 w5 := hS (Nat.le_refl _)
 clear hS hBn
 have HLN := Lib.hid hln; clear hln
 have S5 : Below w4.heap.size w4 w5 := hb
 have c5_0 := (S5.cell l4_0).trans c4_0
 have c5_1 := (S5.cell l4_0).trans c4_1
 have c5_2 := (S5.cell l4_0).trans c4_2
 have c5_3 := (S5.cell l4_0).trans c4_3
 have c5_4 := (S5.cell l4_0).trans c4_4
 have c5_5 := (S5.cell l4_0).trans c4_5
 have c5_6 := (S5.cell l4_0).trans c4_6
 have c5_7 := (S5.cell l4_0).trans c4_7
 have c5_8 := (S5.cell l4_1).trans c4_8
 have c5_9 := (S5.cell l4_1).trans c4_9
 have c5_10 := (S5.cell l4_1).trans c4_10
 have c5_11 := (S5.cell l4_1).trans c4_11
 have c5_12 := (S5.cell l4_1).trans c4_12
 have c5_13 := (S5.cell l4_1).trans c4_13
 have c5_14 := (S5.cell l4_1).trans c4_14
 have c5_15 := (S5.cell l4_2).trans c4_15
 have c5_16 := (S5.cell l4_2).trans c4_16
 have c5_17 := (S5.cell l4_2).trans c4_17
 have c5_18 := (S5.cell l4_2).trans c4_18
 have c5_19 := (S5.cell l4_2).trans c4_19
 have c5_20 := (S5.cell l4_2).trans c4_20
 have c5_21 := (S5.cell l4_2).trans c4_21
 have c5_22 := (S5.cell l4_2).trans c4_22
 have c5_23 := (S5.cell l4_2).trans c4_23
 have c5_24 := (S5.cell l4_2).trans c4_24
 have c5_25 := (S5.cell l4_3).trans c4_25
 have c5_26 := (S5.cell l4_3).trans c4_26
 have c5_27 := (S5.cell l4_3).trans c4_27
 have c5_28 := (S5.cell l4_3).trans c4_28
 have c5_29 := (S5.cell l4_3).trans c4_29
 have c5_30 := (S5.cell l4_3).trans c4_30
 have c5_31 := (S5.cell l4_3).trans c4_31
 have c5_32 := (S5.cell l4_3).trans c4_32
 have l5_0 : w.heap.size < w5.heap.size := World.block_lt_of_cell? _ _ c5_0
 have l5_1 : w.heap.size + 1 < w5.heap.size := World.block_lt_of_cell? _ _ c5_8
 have l5_2 : nbA < w5.heap.size := World.block_lt_of_cell? _ _ c5_15
 have l5_3 : w3.heap.size < w5.heap.size := World.block_lt_of_cell? _ _ c5_25
 have X5 : Below w.heap.size w w5 := X4.trans (S5.mono X4.size)
 have RA0_5 : Hid (hi0 ≤ w5.heap.size ∧ StoreR w5 lo0 hi0 [.slice Ar00 nr00 cr00, .slice Ar01 nr01 cr01, .slice Ar02 nr02 cr02, .int .i64 v0_txg_, .slice Ar03 nr03 cr03, .int .i64 v0_keep_, .slice Ar04 nr04 cr04, .bool v0_same_] (v0_rows_, (v0_space_refs_, v0_space_last_), v0_txg_, v0_gone_, v0_keep_, v0_dead_, v0_same_)) := Lib.hid ⟨Nat.le_trans RA0_4.out.1 S5.size, StoreR.below S5 RA0_4.out.1 _ _ RA0_4.out.2⟩
 clear c4_0 c4_1 c4_2 c4_3 c4_4 c4_5 c4_6 c4_7 c4_8 c4_9 c4_10 c4_11 c4_12 c4_13 c4_14 c4_15 c4_16 c4_17 c4_18 c4_19 c4_20 c4_21 c4_22 c4_23 c4_24 c4_25 c4_26 c4_27 c4_28 c4_29 c4_30 c4_31 c4_32 l4_0 l4_1 l4_2 l4_3 RA0_4 X4 hb
 clear S5
 have l5_4 : nbB < w5.heap.size := (Array.getElem?_eq_some_iff.1 HLN.out).1
 have c5_33 := celR 0 HLN.out
 have c5_34 := celR 1 HLN.out
 have c5_35 := celR 2 HLN.out
 have c5_36 := celR 3 HLN.out
 have c5_37 := celR 4 HLN.out
 have c5_38 := celR 5 HLN.out
 have c5_39 := celR 6 HLN.out
 have c5_40 := celR 7 HLN.out
 have c5_41 := celR 8 HLN.out
 have c5_42 := celR 9 HLN.out
 clear HLN
 go_wp2_with fail
 refine (eqNode_yes i0 i1 i2 i3 i4 i5 i6 i7 i8 i9 _).mono ?_
 rintro e w6 ⟨rfl, hb⟩
 have S6 : Below w5.heap.size w5 w6 := hb
 have c6_0 := (S6.cell l5_0).trans c5_0
 have c6_1 := (S6.cell l5_0).trans c5_1
 have c6_2 := (S6.cell l5_0).trans c5_2
 have c6_3 := (S6.cell l5_0).trans c5_3
 have c6_4 := (S6.cell l5_0).trans c5_4
 have c6_5 := (S6.cell l5_0).trans c5_5
 have c6_6 := (S6.cell l5_0).trans c5_6
 have c6_7 := (S6.cell l5_0).trans c5_7
 have c6_8 := (S6.cell l5_1).trans c5_8
 have c6_9 := (S6.cell l5_1).trans c5_9
 have c6_10 := (S6.cell l5_1).trans c5_10
 have c6_11 := (S6.cell l5_1).trans c5_11
 have c6_12 := (S6.cell l5_1).trans c5_12
 have c6_13 := (S6.cell l5_1).trans c5_13
 have c6_14 := (S6.cell l5_1).trans c5_14
 have c6_15 := (S6.cell l5_2).trans c5_15
 have c6_16 := (S6.cell l5_2).trans c5_16
 have c6_17 := (S6.cell l5_2).trans c5_17
 have c6_18 := (S6.cell l5_2).trans c5_18
 have c6_19 := (S6.cell l5_2).trans c5_19
 have c6_20 := (S6.cell l5_2).trans c5_20
 have c6_21 := (S6.cell l5_2).trans c5_21
 have c6_22 := (S6.cell l5_2).trans c5_22
 have c6_23 := (S6.cell l5_2).trans c5_23
 have c6_24 := (S6.cell l5_2).trans c5_24
 have c6_25 := (S6.cell l5_3).trans c5_25
 have c6_26 := (S6.cell l5_3).trans c5_26
 have c6_27 := (S6.cell l5_3).trans c5_27
 have c6_28 := (S6.cell l5_3).trans c5_28
 have c6_29 := (S6.cell l5_3).trans c5_29
 have c6_30 := (S6.cell l5_3).trans c5_30
 have c6_31 := (S6.cell l5_3).trans c5_31
 have c6_32 := (S6.cell l5_3).trans c5_32
 have c6_33 := (S6.cell l5_4).trans c5_33
 have c6_34 := (S6.cell l5_4).trans c5_34
 have c6_35 := (S6.cell l5_4).trans c5_35
 have c6_36 := (S6.cell l5_4).trans c5_36
 have c6_37 := (S6.cell l5_4).trans c5_37
 have c6_38 := (S6.cell l5_4).trans c5_38
 have c6_39 := (S6.cell l5_4).trans c5_39
 have c6_40 := (S6.cell l5_4).trans c5_40
 have c6_41 := (S6.cell l5_4).trans c5_41
 have c6_42 := (S6.cell l5_4).trans c5_42
 have l6_0 : w.heap.size < w6.heap.size := World.block_lt_of_cell? _ _ c6_0
 have l6_1 : w.heap.size + 1 < w6.heap.size := World.block_lt_of_cell? _ _ c6_8
 have l6_2 : nbA < w6.heap.size := World.block_lt_of_cell? _ _ c6_15
 have l6_3 : w3.heap.size < w6.heap.size := World.block_lt_of_cell? _ _ c6_25
 have l6_4 : nbB < w6.heap.size := World.block_lt_of_cell? _ _ c6_33
 have X6 : Below w.heap.size w w6 := X5.trans (S6.mono X5.size)
 have RA0_6 : Hid (hi0 ≤ w6.heap.size ∧ StoreR w6 lo0 hi0 [.slice Ar00 nr00 cr00, .slice Ar01 nr01 cr01, .slice Ar02 nr02 cr02, .int .i64 v0_txg_, .slice Ar03 nr03 cr03, .int .i64 v0_keep_, .slice Ar04 nr04 cr04, .bool v0_same_] (v0_rows_, (v0_space_refs_, v0_space_last_), v0_txg_, v0_gone_, v0_keep_, v0_dead_, v0_same_)) := Lib.hid ⟨Nat.le_trans RA0_5.out.1 S6.size, StoreR.below S6 RA0_5.out.1 _ _ RA0_5.out.2⟩
 clear c5_0 c5_1 c5_2 c5_3 c5_4 c5_5 c5_6 c5_7 c5_8 c5_9 c5_10 c5_11 c5_12 c5_13 c5_14 c5_15 c5_16 c5_17 c5_18 c5_19 c5_20 c5_21 c5_22 c5_23 c5_24 c5_25 c5_26 c5_27 c5_28 c5_29 c5_30 c5_31 c5_32 c5_33 c5_34 c5_35 c5_36 c5_37 c5_38 c5_39 c5_40 c5_41 c5_42 l5_0 l5_1 l5_2 l5_3 l5_4 RA0_5 X5 hb
 clear S6
 have hrr : (bb != bb) = false := by simp
 go_wp2_with fail
 apply wp_region_rg (by kernel_rfl) (false :: false :: false :: false :: false :: false :: false :: false :: false :: false :: false :: false :: false :: false :: false :: false :: false :: false :: false :: false :: false :: false :: false :: false :: false :: false :: false :: false :: false :: false :: false :: false :: false :: false :: false :: false :: false :: false :: false :: false :: false :: false :: false :: false :: false :: false :: true :: true :: true :: true :: true :: []) [some 46, some 47, some 48, some 49, some 50] [[], [], [1], [0, 2], [3]] [StP.is _, StP.is _, (StoreR.stp (v0_rows_, (v0_space_refs_, v0_space_last_), v0_txg_, v0_gone_, v0_keep_, v0_dead_, v0_same_)), StP.is _, StP.is _] (by kernel_rfl)
 case hobs =>
  refine ⟨fun y w' hS hF K hK => ?_, ?_⟩
  · skip
    simp only [fillL, cond_true, cond_false, zG0, zG1, StP.is, Act.put, zS2, zS0, zS1, Nat.reduceAdd] at hK ⊢
    refine rg_yes (by kernel_rfl) ?_
    have qx0_ := (Below.cell hS l6_0).trans c6_0
    have qx1_ := (Below.cell hS l6_0).trans c6_1
    have qx2_ := (Below.cell hS l6_0).trans c6_2
    have qx3_ := (Below.cell hS l6_0).trans c6_3
    have qx4_ := (Below.cell hS l6_0).trans c6_4
    have qx5_ := (Below.cell hS l6_0).trans c6_5
    have qx6_ := (Below.cell hS l6_0).trans c6_6
    have qx7_ := (Below.cell hS l6_0).trans c6_7
    have qx8_ := (Below.cell hS l6_1).trans c6_8
    have qx9_ := (Below.cell hS l6_1).trans c6_9
    have qx10_ := (Below.cell hS l6_1).trans c6_10
    have qx11_ := (Below.cell hS l6_1).trans c6_11
    have qx12_ := (Below.cell hS l6_1).trans c6_12
    have qx13_ := (Below.cell hS l6_1).trans c6_13
    have qx14_ := (Below.cell hS l6_1).trans c6_14
    have qx15_ := (Below.cell hS l6_2).trans c6_15
    have qx16_ := (Below.cell hS l6_2).trans c6_16
    have qx17_ := (Below.cell hS l6_2).trans c6_17
    have qx18_ := (Below.cell hS l6_2).trans c6_18
    have qx19_ := (Below.cell hS l6_2).trans c6_19
    have qx20_ := (Below.cell hS l6_2).trans c6_20
    have qx21_ := (Below.cell hS l6_2).trans c6_21
    have qx22_ := (Below.cell hS l6_2).trans c6_22
    have qx23_ := (Below.cell hS l6_2).trans c6_23
    have qx24_ := (Below.cell hS l6_2).trans c6_24
    have qx25_ := (Below.cell hS l6_3).trans c6_25
    have qx26_ := (Below.cell hS l6_3).trans c6_26
    have qx27_ := (Below.cell hS l6_3).trans c6_27
    have qx28_ := (Below.cell hS l6_3).trans c6_28
    have qx29_ := (Below.cell hS l6_3).trans c6_29
    have qx30_ := (Below.cell hS l6_3).trans c6_30
    have qx31_ := (Below.cell hS l6_3).trans c6_31
    have qx32_ := (Below.cell hS l6_3).trans c6_32
    have qx33_ := (Below.cell hS l6_4).trans c6_33
    have qx34_ := (Below.cell hS l6_4).trans c6_34
    have qx35_ := (Below.cell hS l6_4).trans c6_35
    have qx36_ := (Below.cell hS l6_4).trans c6_36
    have qx37_ := (Below.cell hS l6_4).trans c6_37
    have qx38_ := (Below.cell hS l6_4).trans c6_38
    have qx39_ := (Below.cell hS l6_4).trans c6_39
    have qx40_ := (Below.cell hS l6_4).trans c6_40
    have qx41_ := (Below.cell hS l6_4).trans c6_41
    have qx42_ := (Below.cell hS l6_4).trans c6_42
    clear hF
    go_simp
    exact hK _ _ (Ext.refl _) rfl
  refine ⟨fun y w' hS hF K hK => ?_, ?_⟩
  · skip
    simp only [fillL, cond_true, cond_false, zG0, zG1, StP.is, Act.put, zS2, zS0, zS1, Nat.reduceAdd] at hK ⊢
    refine rg_yes (by kernel_rfl) ?_
    have qx0_ := (Below.cell hS l6_0).trans c6_0
    have qx1_ := (Below.cell hS l6_0).trans c6_1
    have qx2_ := (Below.cell hS l6_0).trans c6_2
    have qx3_ := (Below.cell hS l6_0).trans c6_3
    have qx4_ := (Below.cell hS l6_0).trans c6_4
    have qx5_ := (Below.cell hS l6_0).trans c6_5
    have qx6_ := (Below.cell hS l6_0).trans c6_6
    have qx7_ := (Below.cell hS l6_0).trans c6_7
    have qx8_ := (Below.cell hS l6_1).trans c6_8
    have qx9_ := (Below.cell hS l6_1).trans c6_9
    have qx10_ := (Below.cell hS l6_1).trans c6_10
    have qx11_ := (Below.cell hS l6_1).trans c6_11
    have qx12_ := (Below.cell hS l6_1).trans c6_12
    have qx13_ := (Below.cell hS l6_1).trans c6_13
    have qx14_ := (Below.cell hS l6_1).trans c6_14
    have qx15_ := (Below.cell hS l6_2).trans c6_15
    have qx16_ := (Below.cell hS l6_2).trans c6_16
    have qx17_ := (Below.cell hS l6_2).trans c6_17
    have qx18_ := (Below.cell hS l6_2).trans c6_18
    have qx19_ := (Below.cell hS l6_2).trans c6_19
    have qx20_ := (Below.cell hS l6_2).trans c6_20
    have qx21_ := (Below.cell hS l6_2).trans c6_21
    have qx22_ := (Below.cell hS l6_2).trans c6_22
    have qx23_ := (Below.cell hS l6_2).trans c6_23
    have qx24_ := (Below.cell hS l6_2).trans c6_24
    have qx25_ := (Below.cell hS l6_3).trans c6_25
    have qx26_ := (Below.cell hS l6_3).trans c6_26
    have qx27_ := (Below.cell hS l6_3).trans c6_27
    have qx28_ := (Below.cell hS l6_3).trans c6_28
    have qx29_ := (Below.cell hS l6_3).trans c6_29
    have qx30_ := (Below.cell hS l6_3).trans c6_30
    have qx31_ := (Below.cell hS l6_3).trans c6_31
    have qx32_ := (Below.cell hS l6_3).trans c6_32
    have qx33_ := (Below.cell hS l6_4).trans c6_33
    have qx34_ := (Below.cell hS l6_4).trans c6_34
    have qx35_ := (Below.cell hS l6_4).trans c6_35
    have qx36_ := (Below.cell hS l6_4).trans c6_36
    have qx37_ := (Below.cell hS l6_4).trans c6_37
    have qx38_ := (Below.cell hS l6_4).trans c6_38
    have qx39_ := (Below.cell hS l6_4).trans c6_39
    have qx40_ := (Below.cell hS l6_4).trans c6_40
    have qx41_ := (Below.cell hS l6_4).trans c6_41
    have qx42_ := (Below.cell hS l6_4).trans c6_42
    clear hF
    go_simp
    exact hK _ _ (Ext.refl _) rfl
  refine ⟨fun y w' hS hF K hK => ?_, ?_⟩
  · skip
    have e47 : y 47 = _ := hF.1
    simp only [fillL, cond_true, cond_false, zG0, zG1, StP.is, Act.put, zS2, zS0, zS1, Nat.reduceAdd, e47] at hK ⊢
    refine rg_yes (by kernel_rfl) ?_
    clear e47
    clear hF
    go_simp
    go_at_call 9
    refine (toStore_any _ _ _ 0 w.heap.size (StoreR.below (X6.trans (Below.mono hS X6.size)) (Nat.le_refl _) _ _ PA0.out) HZ0.out).mono ?_
    rintro e w'' ⟨cs, rfl, hr, hb⟩
    exact hK _ _ hb ⟨cs, _, _, rfl, Nat.le_refl _, hr⟩
  refine ⟨fun y w' hS hF K hK => ?_, ?_⟩
  · skip
    have e46 : y 46 = _ := hF.1
    obtain ⟨cs48_, lo48_, hi48_, e48, hh48_, R48_⟩ := hF.2.1
    simp only [fillL, cond_true, cond_false, zG0, zG1, StP.is, Act.put, zS2, zS0, zS1, Nat.reduceAdd, e46, e48] at hK ⊢
    refine rg_yes (by kernel_rfl) ?_
    clear e46 e48
    clear hF
    go_simp
    go_at_call 13
    refine (eqStore_yes _ _ (v0_rows_, (v0_space_refs_, v0_space_last_), v0_txg_, v0_gone_, v0_keep_, v0_dead_, v0_same_) _ _ _ _ _ (StoreR.below hS RA0_6.out.1 _ _ RA0_6.out.2) R48_).mono ?_
    rintro e w'' ⟨rfl, hb⟩
    exact hK _ _ hb rfl
  refine ⟨fun y w' hS hF K hK => ?_, ?_⟩
  · skip
    have e49 : y 49 = _ := hF.1
    simp only [fillL, cond_true, cond_false, zG0, zG1, StP.is, Act.put, zS2, zS0, zS1, Nat.reduceAdd, e49] at hK ⊢
    refine rg_yes (by kernel_rfl) ?_
    clear e49
    clear hF
    go_simp
    exact hK _ _ (Ext.refl _) rfl
  trivial
 intro y w7 hX hF
 have e50 : y 50 = _ := hF.2.2.2.2.1
 clear hF
 simp only [fillL, cond_true, cond_false, Nat.reduceAdd, e50]
 clear e50
 have S7 : Below w6.heap.size w6 w7 := hX
 have c7_0 := (S7.cell l6_0).trans c6_0
 have c7_1 := (S7.cell l6_0).trans c6_1
 have c7_2 := (S7.cell l6_0).trans c6_2
 have c7_3 := (S7.cell l6_0).trans c6_3
 have c7_4 := (S7.cell l6_0).trans c6_4
 have c7_5 := (S7.cell l6_0).trans c6_5
 have c7_6 := (S7.cell l6_0).trans c6_6
 have c7_7 := (S7.cell l6_0).trans c6_7
 have c7_8 := (S7.cell l6_1).trans c6_8
 have c7_9 := (S7.cell l6_1).trans c6_9
 have c7_10 := (S7.cell l6_1).trans c6_10
 have c7_11 := (S7.cell l6_1).trans c6_11
 have c7_12 := (S7.cell l6_1).trans c6_12
 have c7_13 := (S7.cell l6_1).trans c6_13
 have c7_14 := (S7.cell l6_1).trans c6_14
 have c7_15 := (S7.cell l6_2).trans c6_15
 have c7_16 := (S7.cell l6_2).trans c6_16
 have c7_17 := (S7.cell l6_2).trans c6_17
 have c7_18 := (S7.cell l6_2).trans c6_18
 have c7_19 := (S7.cell l6_2).trans c6_19
 have c7_20 := (S7.cell l6_2).trans c6_20
 have c7_21 := (S7.cell l6_2).trans c6_21
 have c7_22 := (S7.cell l6_2).trans c6_22
 have c7_23 := (S7.cell l6_2).trans c6_23
 have c7_24 := (S7.cell l6_2).trans c6_24
 have c7_25 := (S7.cell l6_3).trans c6_25
 have c7_26 := (S7.cell l6_3).trans c6_26
 have c7_27 := (S7.cell l6_3).trans c6_27
 have c7_28 := (S7.cell l6_3).trans c6_28
 have c7_29 := (S7.cell l6_3).trans c6_29
 have c7_30 := (S7.cell l6_3).trans c6_30
 have c7_31 := (S7.cell l6_3).trans c6_31
 have c7_32 := (S7.cell l6_3).trans c6_32
 have c7_33 := (S7.cell l6_4).trans c6_33
 have c7_34 := (S7.cell l6_4).trans c6_34
 have c7_35 := (S7.cell l6_4).trans c6_35
 have c7_36 := (S7.cell l6_4).trans c6_36
 have c7_37 := (S7.cell l6_4).trans c6_37
 have c7_38 := (S7.cell l6_4).trans c6_38
 have c7_39 := (S7.cell l6_4).trans c6_39
 have c7_40 := (S7.cell l6_4).trans c6_40
 have c7_41 := (S7.cell l6_4).trans c6_41
 have c7_42 := (S7.cell l6_4).trans c6_42
 have l7_0 : w.heap.size < w7.heap.size := World.block_lt_of_cell? _ _ c7_0
 have l7_1 : w.heap.size + 1 < w7.heap.size := World.block_lt_of_cell? _ _ c7_8
 have l7_2 : nbA < w7.heap.size := World.block_lt_of_cell? _ _ c7_15
 have l7_3 : w3.heap.size < w7.heap.size := World.block_lt_of_cell? _ _ c7_25
 have l7_4 : nbB < w7.heap.size := World.block_lt_of_cell? _ _ c7_33
 have X7 : Below w.heap.size w w7 := X6.trans (S7.mono X6.size)
 have RA0_7 : Hid (hi0 ≤ w7.heap.size ∧ StoreR w7 lo0 hi0 [.slice Ar00 nr00 cr00, .slice Ar01 nr01 cr01, .slice Ar02 nr02 cr02, .int .i64 v0_txg_, .slice Ar03 nr03 cr03, .int .i64 v0_keep_, .slice Ar04 nr04 cr04, .bool v0_same_] (v0_rows_, (v0_space_refs_, v0_space_last_), v0_txg_, v0_gone_, v0_keep_, v0_dead_, v0_same_)) := Lib.hid ⟨Nat.le_trans RA0_6.out.1 S7.size, StoreR.below S7 RA0_6.out.1 _ _ RA0_6.out.2⟩
 clear c6_0 c6_1 c6_2 c6_3 c6_4 c6_5 c6_6 c6_7 c6_8 c6_9 c6_10 c6_11 c6_12 c6_13 c6_14 c6_15 c6_16 c6_17 c6_18 c6_19 c6_20 c6_21 c6_22 c6_23 c6_24 c6_25 c6_26 c6_27 c6_28 c6_29 c6_30 c6_31 c6_32 c6_33 c6_34 c6_35 c6_36 c6_37 c6_38 c6_39 c6_40 c6_41 c6_42 l6_0 l6_1 l6_2 l6_3 l6_4 RA0_6 X6 hX
 clear S7
 go_wp2_with fail
 go_ret
 exact ⟨rfl, X7⟩
end Go.Proofs.YtjnhiiaejeaikaaGreatDoor
