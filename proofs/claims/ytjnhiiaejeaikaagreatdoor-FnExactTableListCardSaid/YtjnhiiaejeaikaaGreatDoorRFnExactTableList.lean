/- FnExactTableList: the walk. Condition: the library's variables lie as the row says. -/
import Derived.Test.YtjnhiiaejeaikaaGreatDoorRTableListS
import Derived.Test.YtjnhiiaejeaikaaGreatDoorRMarkSt
import Derived.Test.YtjnhiiaejeaikaaGreatDoorRFamStW
set_option linter.unnecessarySimpa false
set_option linter.unusedSimpArgs false
set_option linter.unusedVariables false
namespace Go.Proofs.YtjnhiiaejeaikaaGreatDoor
open Go Go.Lib Go.RowKit
def HoldsR {α : Type} (R : Reads α) (x : α) (v : Value) (w : World) : Prop := ∃ cs lo hi, v = .agg (List.toArray cs) ∧ hi ≤ w.heap.size ∧ R w lo hi cs x
def StoreR.stp (x : StoreD) : StP := ⟨HoldsR StoreR x, fun v w w' he h => by
 obtain ⟨cs, lo, hi, e, h1, h2⟩ := h
 exact ⟨cs, lo, hi, e, Nat.le_trans h1 (Below.size he), StoreR.below he h1 _ _ h2⟩⟩
def IntsN : Reads (List Int) := fun w lo hi cs x => ∃ A c, cs = [.slice A x.length c] ∧ SliceR IntR 1 w lo hi A x.length c x ∧ Whole w 3 1 lo hi A x.length c
theorem IntsN.keep {w w' : World} {lo hi : Nat} (hs : Same lo hi w w') (hz : w.heap.size ≤ w'.heap.size) (cs : List Value) (x : List Int) (h : IntsN w lo hi cs x) : IntsN w' lo hi cs x := by
 obtain ⟨A, c, rfl, h0, h1⟩ := h
 exact ⟨A, c, rfl, h0.keep hs hz (fun _ _ h => h), h1.keep hs⟩
theorem IntsN.below {w w' : World} {lo hi : Nat} (hb : Below w.heap.size w w') (hhi : hi ≤ w.heap.size) (cs : List Value) (x : List Int) (h : IntsN w lo hi cs x) : IntsN w' lo hi cs x := IntsN.keep (Same.of_below hb hhi) hb.size cs x h
theorem IntsN.p {w : World} {lo hi : Nat} {A : Option Addr} {n c : Nat} {x : List Int} (h : IntsN w lo hi [.slice A n c] x) : SliceR IntR 1 w lo hi A n c x ∧ Whole w 3 1 lo hi A n c := by
 obtain ⟨A', c', e, h0, h1⟩ := h
 injection e with e _; injection e with e1 e2 e3; subst e1 e2 e3
 exact ⟨h0, h1⟩
theorem IntsN.of {w : World} {B : Nat} {A : Option Addr} {c : Nat} {S : List Nat} {x : List Int} (h : OwnA w 3 1 S A x.length c (x.map (Value.int .i64))) (hS : ∀ g ∈ S, B ≤ g) : IntsN w B w.heap.size [.slice A x.length c] x := by
 have hv : RowV (IntR w B w.heap.size) 1 (x.map (Value.int .i64)) x := fun j y hy => ⟨[.int .i64 y], rfl, fun i v hv => by
  have hi : i = 0 := by
   have := (List.getElem?_eq_some_iff.1 hv).1
   simp at this; omega
  subst hi
  rw [Nat.mul_one, Nat.add_zero, List.getElem?_map, hy]
  simpa using hv, rfl⟩
 have hs := h.slice (lo := B) (hi := w.heap.size) (xs := x) rfl hv (fun g hg => ⟨hS g hg, h.lt g hg⟩) (Nat.le_refl _)
 exact ⟨A, c, rfl, hs.1, hs.2⟩
def ListV (B : Nat) (x : List Int) : StP := ⟨fun v w => ∃ A c S, v = .slice A x.length c ∧ OwnA w 3 1 S A x.length c (x.map (Value.int .i64)) ∧ ∀ g ∈ S, B ≤ g, fun v w w' he h => by
 obtain ⟨A, c, S, e, h1, h2⟩ := h
 exact ⟨A, c, S, e, h1.below he, h2⟩⟩
def ListT (B : Nat) (x : List Int) (b : Bool) : StP := ⟨fun v w => ∃ A c S, v = .tuple #[.slice A x.length c, .bool b] ∧ OwnA w 3 1 S A x.length c (x.map (Value.int .i64)) ∧ ∀ g ∈ S, B ≤ g, fun v w w' he h => by
 obtain ⟨A, c, S, e, h1, h2⟩ := h
 exact ⟨A, c, S, e, h1.below he, h2⟩⟩
theorem GotL.list {o : Option (List (Option NodeD))} {w w' : World} {e : Ending} {rl : List Int} {rb : Bool} (h : GotL o w e w') (h1 : numsO o = rl) (h2 : o.isSome = rb) : ∃ A c S, e = .returned (.tuple #[.slice A rl.length c, .bool rb]) ∧ OwnA w' 3 1 S A rl.length c (rl.map (Value.int .i64)) ∧ (∀ g ∈ S, w.heap.size ≤ g) ∧ Below w.heap.size w w' := by
 obtain ⟨A, n, c, S, rfl, hO, rfl, hS, hb⟩ := h
 subst h1 h2
 exact ⟨A, c, S, rfl, hO, hS, hb⟩
theorem numsO_len {x : StoreD} {t : TreeD} : (numsO (tableG x t)).length ≤ 16 := by
 cases h : tableG x t with
 | none => simp [numsO]
 | some L =>
   have := tableG_len h
   simp only [numsO]
   unfold numsF
   rw [List.length_map]
   exact Nat.le_trans (Nat.le_trans (List.length_filter_le _ _) (by rw [List.length_range]; exact Nat.le_refl _)) this
set_option maxRecDepth 100000 in
set_option maxHeartbeats 8000000 in
theorem fnExactTableList_walk (l0 : List Value) (x0 : StoreD) (l1 : List Value) (x1 : TreeD) (w : World) (he : Env w) (h0 : StoreR w 0 w.heap.size l0 x0) (h1 : TreeR w 0 w.heap.size l1 x1) :
 Calls Tryz.prog 3 #[.agg l0.toArray, .agg l1.toArray] w fun e w' => e = .returned (.bool true) ∧ Below w.heap.size w w' := by
 have PA := Lib.hid h0
 obtain ⟨zm_, ⟨zo_, zn_⟩, zc_, zl_, za_, zk_, zb_⟩ := x0
 obtain ⟨Ap0, np0, cp0, Ap1, np1, cp1, Ap2, np2, cp2, Ap3, np3, cp3, Ap4, np4, cp4, rfl, _, _, _, _, _⟩ := h0
 obtain ⟨⟨zf_, zg_, zi_, zj_, zh_⟩, zd_, ze_⟩ := x1
 obtain rfl := h1
 show Calls Tryz.prog 3 #[.agg #[.slice Ap0 np0 cp0, .slice Ap1 np1 cp1, .slice Ap2 np2 cp2, .int .i64 zc_, .slice Ap3 np3 cp3, .int .i64 za_, .slice Ap4 np4 cp4, .bool zb_], .agg #[.int .i64 zf_, .int .i64 zg_, .int .i64 zi_, .int .i64 zj_, .int .i64 zh_, .int .i64 zd_, .int .i64 ze_]] w _
 obtain ⟨rl, hrl⟩ : ∃ r, r = numsO (tableG (zm_, (zo_, zn_), zc_, zl_, za_, zk_, zb_) ((zf_, zg_, zi_, zj_, zh_), zd_, ze_)) := ⟨_, rfl⟩
 obtain ⟨rb, hrb⟩ : ∃ r, r = (tableG (zm_, (zo_, zn_), zc_, zl_, za_, zk_, zb_) ((zf_, zg_, zi_, zj_, zh_), zd_, ze_)).isSome := ⟨_, rfl⟩
 have hl4 : rl.length ≤ 16 := by rw [hrl]; exact numsO_len
 have HRL := Lib.hid hrl.symm; have HRB := Lib.hid hrb.symm; clear hrl hrb
 have hrr : (rb != rb) = false := by simp
 go_enter Tryz.func3, Tryz.ntmps3
 go_wp2_with fail
 have HE := Lib.hid he; clear he
 refine (szStore_any _ _ _ 0 w.heap.size 1048576 (StoreR.below bel2 (Nat.le_refl _) _ _ PA.out) (by omega) (by omega)).mono ?_
 rintro e w1 ⟨s0, rfl, p0_, o0_, z0, hb1⟩
 have ZZ := Lib.hid z0; clear z0
 have S1 : Below w.heap.size w w1 := bel2.trans (hb1.mono (by simp <;> omega))
 have c1_0 : w1.cell? ⟨w.heap.size, 0, none⟩ = some (.slice Ap0 np0 cp0) := (hb1.cell (by simp <;> omega)).trans (by simp [go_sem])
 have c1_1 : w1.cell? ⟨w.heap.size, 1, none⟩ = some (.slice Ap1 np1 cp1) := (hb1.cell (by simp <;> omega)).trans (by simp [go_sem])
 have c1_2 : w1.cell? ⟨w.heap.size, 2, none⟩ = some (.slice Ap2 np2 cp2) := (hb1.cell (by simp <;> omega)).trans (by simp [go_sem])
 have c1_3 : w1.cell? ⟨w.heap.size, 3, none⟩ = some (.int .i64 zc_) := (hb1.cell (by simp <;> omega)).trans (by simp [go_sem])
 have c1_4 : w1.cell? ⟨w.heap.size, 4, none⟩ = some (.slice Ap3 np3 cp3) := (hb1.cell (by simp <;> omega)).trans (by simp [go_sem])
 have c1_5 : w1.cell? ⟨w.heap.size, 5, none⟩ = some (.int .i64 za_) := (hb1.cell (by simp <;> omega)).trans (by simp [go_sem])
 have c1_6 : w1.cell? ⟨w.heap.size, 6, none⟩ = some (.slice Ap4 np4 cp4) := (hb1.cell (by simp <;> omega)).trans (by simp [go_sem])
 have c1_7 : w1.cell? ⟨w.heap.size, 7, none⟩ = some (.bool zb_) := (hb1.cell (by simp <;> omega)).trans (by simp [go_sem])
 have c1_8 : w1.cell? ⟨w.heap.size + 1, 0, none⟩ = some (.int .i64 zf_) := (hb1.cell (by simp <;> omega)).trans (by simp [go_sem])
 have c1_9 : w1.cell? ⟨w.heap.size + 1, 1, none⟩ = some (.int .i64 zg_) := (hb1.cell (by simp <;> omega)).trans (by simp [go_sem])
 have c1_10 : w1.cell? ⟨w.heap.size + 1, 2, none⟩ = some (.int .i64 zi_) := (hb1.cell (by simp <;> omega)).trans (by simp [go_sem])
 have c1_11 : w1.cell? ⟨w.heap.size + 1, 3, none⟩ = some (.int .i64 zj_) := (hb1.cell (by simp <;> omega)).trans (by simp [go_sem])
 have c1_12 : w1.cell? ⟨w.heap.size + 1, 4, none⟩ = some (.int .i64 zh_) := (hb1.cell (by simp <;> omega)).trans (by simp [go_sem])
 have c1_13 : w1.cell? ⟨w.heap.size + 1, 5, none⟩ = some (.int .i64 zd_) := (hb1.cell (by simp <;> omega)).trans (by simp [go_sem])
 have c1_14 : w1.cell? ⟨w.heap.size + 1, 6, none⟩ = some (.int .i64 ze_) := (hb1.cell (by simp <;> omega)).trans (by simp [go_sem])
 have l1_0 : w.heap.size < w1.heap.size := World.block_lt_of_cell? _ _ c1_0
 have l1_1 : w.heap.size + 1 < w1.heap.size := World.block_lt_of_cell? _ _ c1_8
 have X1 : Below w.heap.size w w1 := S1
 clear hb1
 clear S1
 by_cases q0_ : s0 < 0
 · go_wp2_with fail
   go_ret
   exact ⟨rfl, X1⟩
 have dq0 : decide (s0 < 0) = false := by simpa using q0_
 have HZ : Hid (sizeStore (zm_, (zo_, zn_), zc_, zl_, za_, zk_, zb_) ≤ 1048576) := Lib.hid (by have := ZZ.out (by omega); omega)
 clear ZZ
 go_wp2_with fail
 obtain ⟨low, hlow⟩ : ∃ x, x = w1.heap.size := ⟨_, rfl⟩
 have hlqw := Lib.hid hlow
 have ozw_1 : w.heap.size < low := by have := l1_0; omega
 have ozw_2 : w.heap.size + 1 < low := by have := l1_1; omega
 have ozw_w : w.heap.size ≤ low := by have := X1.size; omega
 clear hlow
 apply wp_region_rg (by kernel_rfl) (false :: false :: false :: false :: false :: false :: true :: true :: false :: false :: false :: false :: false :: false :: false :: false :: false :: false :: false :: false :: false :: true :: true :: true :: true :: true :: true :: true :: true :: false :: false :: false :: false :: false :: false :: false :: false :: false :: false :: false :: false :: false :: false :: false :: false :: false :: false :: false :: false :: false :: false :: false :: false :: false :: false :: false :: false :: false :: false :: false :: false :: false :: false :: false :: false :: false :: false :: false :: false :: false :: false :: false :: false :: false :: false :: false :: false :: false :: false :: false :: false :: false :: false :: false :: false :: false :: false :: false :: false :: false :: false :: false :: false :: false :: false :: false :: false :: false :: false :: false :: false :: false :: false :: false :: []) [some 22, some 23, some 24, some 25, some 26, some 21, some 27, some 28, some 6, some 7] [[], [0], [], [2], [1, 3], [4], [5], [5], [6], [7]] [StP.is _, (StoreR.stp (zm_, (zo_, zn_), zc_, zl_, za_, zk_, zb_)), StP.is _, StP.is _, (ListT low rl rb), (ListT low rl rb), (ListV low rl), StP.is _, (ListV low rl), StP.is _] (by kernel_rfl)
 case hobs =>
  refine ⟨fun y w' hS hF K hK => ?_, ?_⟩
  · skip
    simp only [fillL, cond_true, cond_false, zG0, zG1, StP.is, Act.put, zS2, zS0, zS1, Nat.reduceAdd] at hK ⊢
    refine rg_yes (by kernel_rfl) ?_
    have qx0_ := (Below.cell hS l1_0).trans c1_0
    have qx1_ := (Below.cell hS l1_0).trans c1_1
    have qx2_ := (Below.cell hS l1_0).trans c1_2
    have qx3_ := (Below.cell hS l1_0).trans c1_3
    have qx4_ := (Below.cell hS l1_0).trans c1_4
    have qx5_ := (Below.cell hS l1_0).trans c1_5
    have qx6_ := (Below.cell hS l1_0).trans c1_6
    have qx7_ := (Below.cell hS l1_0).trans c1_7
    have qx8_ := (Below.cell hS l1_1).trans c1_8
    have qx9_ := (Below.cell hS l1_1).trans c1_9
    have qx10_ := (Below.cell hS l1_1).trans c1_10
    have qx11_ := (Below.cell hS l1_1).trans c1_11
    have qx12_ := (Below.cell hS l1_1).trans c1_12
    have qx13_ := (Below.cell hS l1_1).trans c1_13
    have qx14_ := (Below.cell hS l1_1).trans c1_14
    clear hF
    go_simp
    exact hK _ _ (Ext.refl _) rfl
  refine ⟨fun y w' hS hF K hK => ?_, ?_⟩
  · skip
    have e22 : y 22 = _ := hF.1
    simp only [fillL, cond_true, cond_false, zG0, zG1, StP.is, Act.put, zS2, zS0, zS1, Nat.reduceAdd, e22] at hK ⊢
    refine rg_yes (by kernel_rfl) ?_
    clear e22
    clear hF
    go_simp
    go_at_call 9
    refine (toStoreW_any _ (zm_, (zo_, zn_), zc_, zl_, za_, zk_, zb_) _ 0 w.heap.size (StoreR.below (X1.trans (Below.mono hS X1.size)) (Nat.le_refl _) _ _ PA.out) HZ.out).mono ?_
    rintro e w'' ⟨cs, rfl, hr, hb⟩
    exact hK _ _ hb ⟨cs, _, _, rfl, Nat.le_refl _, hr.r⟩
  refine ⟨fun y w' hS hF K hK => ?_, ?_⟩
  · skip
    simp only [fillL, cond_true, cond_false, zG0, zG1, StP.is, Act.put, zS2, zS0, zS1, Nat.reduceAdd] at hK ⊢
    refine rg_yes (by kernel_rfl) ?_
    have qx0_ := (Below.cell hS l1_0).trans c1_0
    have qx1_ := (Below.cell hS l1_0).trans c1_1
    have qx2_ := (Below.cell hS l1_0).trans c1_2
    have qx3_ := (Below.cell hS l1_0).trans c1_3
    have qx4_ := (Below.cell hS l1_0).trans c1_4
    have qx5_ := (Below.cell hS l1_0).trans c1_5
    have qx6_ := (Below.cell hS l1_0).trans c1_6
    have qx7_ := (Below.cell hS l1_0).trans c1_7
    have qx8_ := (Below.cell hS l1_1).trans c1_8
    have qx9_ := (Below.cell hS l1_1).trans c1_9
    have qx10_ := (Below.cell hS l1_1).trans c1_10
    have qx11_ := (Below.cell hS l1_1).trans c1_11
    have qx12_ := (Below.cell hS l1_1).trans c1_12
    have qx13_ := (Below.cell hS l1_1).trans c1_13
    have qx14_ := (Below.cell hS l1_1).trans c1_14
    clear hF
    go_simp
    exact hK _ _ (Ext.refl _) rfl
  refine ⟨fun y w' hS hF K hK => ?_, ?_⟩
  · skip
    have e24 : y 24 = _ := hF.1
    simp only [fillL, cond_true, cond_false, zG0, zG1, StP.is, Act.put, zS2, zS0, zS1, Nat.reduceAdd, e24] at hK ⊢
    refine rg_yes (by kernel_rfl) ?_
    clear e24
    clear hF
    go_simp
    go_at_call 10
    refine (toTreeF_any [.int .i64 zf_, .int .i64 zg_, .int .i64 zi_, .int .i64 zj_, .int .i64 zh_, .int .i64 zd_, .int .i64 ze_] ((zf_, zg_, zi_, zj_, zh_), zd_, ze_) _ w 0 0 rfl).mono ?_
    rintro e w'' ⟨rfl, hb⟩
    exact hK _ _ hb rfl
  refine ⟨fun y w' hS hF K hK => ?_, ?_⟩
  · skip
    obtain ⟨cs23_, lo23_, hi23_, e23, hh23_, R23_⟩ := hF.1
    have e25 : y 25 = _ := hF.2.1
    simp only [fillL, cond_true, cond_false, zG0, zG1, StP.is, Act.put, zS2, zS0, zS1, Nat.reduceAdd, e23, e25] at hK ⊢
    refine rg_yes (by kernel_rfl) ?_
    clear e23 e25
    clear hF
    go_simp
    go_at_call 8
    refine (spTableList_any _ (zm_, (zo_, zn_), zc_, zl_, za_, zk_, zb_) zf_ zg_ zi_ zj_ zh_ zd_ ze_ _ _ _ R23_ hh23_ (by have := HZ.out; unfold sizeStore at this; unfold SmallS; simp only at this ⊢; constructor <;> omega)).mono ?_
    intro e w'' hG
    obtain ⟨A_, c_, S_, rfl, hO_, hS_, hb⟩ := hG.list HRL.out HRB.out
    exact hK _ _ hb ⟨A_, c_, S_, rfl, hO_, fun g hg => Nat.le_trans (by rw [hlqw.out]; exact hS.size) (hS_ g hg)⟩
  refine ⟨fun y w' hS hF K hK => ?_, ?_⟩
  · skip
    obtain ⟨A26_, c26_, S26_, e26, hO26_, hS26_⟩ := hF.1
    simp only [fillL, cond_true, cond_false, zG0, zG1, StP.is, Act.put, zS2, zS0, zS1, Nat.reduceAdd, e26] at hK ⊢
    refine rg_yes (by kernel_rfl) ?_
    clear e26
    clear hF
    go_simp
    exact hK _ _ (Ext.refl _) ⟨A26_, c26_, S26_, rfl, hO26_, hS26_⟩
  refine ⟨fun y w' hS hF K hK => ?_, ?_⟩
  · skip
    obtain ⟨A21_, c21_, S21_, e21, hO21_, hS21_⟩ := hF.1
    simp only [fillL, cond_true, cond_false, zG0, zG1, StP.is, Act.put, zS2, zS0, zS1, Nat.reduceAdd, e21] at hK ⊢
    refine rg_yes (by kernel_rfl) ?_
    clear e21
    clear hF
    go_simp
    exact hK _ _ (Ext.refl _) ⟨A21_, c21_, S21_, rfl, hO21_, hS21_⟩
  refine ⟨fun y w' hS hF K hK => ?_, ?_⟩
  · skip
    obtain ⟨A21_, c21_, S21_, e21, hO21_, hS21_⟩ := hF.1
    simp only [fillL, cond_true, cond_false, zG0, zG1, StP.is, Act.put, zS2, zS0, zS1, Nat.reduceAdd, e21] at hK ⊢
    refine rg_yes (by kernel_rfl) ?_
    clear e21
    clear hF
    go_simp
    exact hK _ _ (Ext.refl _) rfl
  refine ⟨fun y w' hS hF K hK => ?_, ?_⟩
  · skip
    obtain ⟨A27_, c27_, S27_, e27, hO27_, hS27_⟩ := hF.1
    simp only [fillL, cond_true, cond_false, zG0, zG1, StP.is, Act.put, zS2, zS0, zS1, Nat.reduceAdd, e27] at hK ⊢
    refine rg_yes (by kernel_rfl) ?_
    clear e27
    clear hF
    go_simp
    exact hK _ _ (Ext.refl _) ⟨A27_, c27_, S27_, rfl, hO27_, hS27_⟩
  refine ⟨fun y w' hS hF K hK => ?_, ?_⟩
  · skip
    have e28 : y 28 = _ := hF.1
    simp only [fillL, cond_true, cond_false, zG0, zG1, StP.is, Act.put, zS2, zS0, zS1, Nat.reduceAdd, e28] at hK ⊢
    refine rg_yes (by kernel_rfl) ?_
    clear e28
    clear hF
    go_simp
    exact hK _ _ (Ext.refl _) rfl
  trivial
 intro y w2 hX hF
 obtain ⟨Aw, cw, Sw_, e6, hO_, hS_⟩ := hF.2.2.2.2.2.2.2.2.1
 have e7 : y 7 = _ := hF.2.2.2.2.2.2.2.2.2.1
 clear hF
 simp only [fillL, cond_true, cond_false, Nat.reduceAdd, e6, e7]
 clear e6 e7
 have hr := IntsN.of hO_ hS_; clear hO_ hS_
 have S2 : Below w1.heap.size w1 w2 := hX
 have c2_0 := (S2.cell l1_0).trans c1_0
 have c2_1 := (S2.cell l1_0).trans c1_1
 have c2_2 := (S2.cell l1_0).trans c1_2
 have c2_3 := (S2.cell l1_0).trans c1_3
 have c2_4 := (S2.cell l1_0).trans c1_4
 have c2_5 := (S2.cell l1_0).trans c1_5
 have c2_6 := (S2.cell l1_0).trans c1_6
 have c2_7 := (S2.cell l1_0).trans c1_7
 have c2_8 := (S2.cell l1_1).trans c1_8
 have c2_9 := (S2.cell l1_1).trans c1_9
 have c2_10 := (S2.cell l1_1).trans c1_10
 have c2_11 := (S2.cell l1_1).trans c1_11
 have c2_12 := (S2.cell l1_1).trans c1_12
 have c2_13 := (S2.cell l1_1).trans c1_13
 have c2_14 := (S2.cell l1_1).trans c1_14
 have l2_0 : w.heap.size < w2.heap.size := World.block_lt_of_cell? _ _ c2_0
 have l2_1 : w.heap.size + 1 < w2.heap.size := World.block_lt_of_cell? _ _ c2_8
 have X2 : Below w.heap.size w w2 := X1.trans (S2.mono X1.size)
 clear c1_0 c1_1 c1_2 c1_3 c1_4 c1_5 c1_6 c1_7 c1_8 c1_9 c1_10 c1_11 c1_12 c1_13 c1_14 l1_0 l1_1 X1 hX
 clear S2
 obtain ⟨hiw, hhiw⟩ : ∃ x, x = w2.heap.size := ⟨_, rfl⟩
 rw [← hhiw] at hr
 have hhlw : hiw ≤ w2.heap.size := Nat.le_of_eq hhiw; clear hhiw
 have Dw_2 := Lib.hid (And.intro hhlw hr); clear hr hhlw hlqw
 go_wp2_with fail
 go_wp2_with fail
 refine (toStoreW_any _ (zm_, (zo_, zn_), zc_, zl_, za_, zk_, zb_) _ 0 w.heap.size (StoreR.below X2 (Nat.le_refl _) _ _ PA.out) HZ.out).mono ?_
 rintro e w3 ⟨cs, rfl, hr, hb⟩
 obtain ⟨lox, hlox⟩ : ∃ x, x = w2.heap.size := ⟨_, rfl⟩
 have hr : StoreN w3 lox w3.heap.size cs (zm_, (zo_, zn_), zc_, zl_, za_, zk_, zb_) := by rw [hlox]; simpa using hr
 have ozx_3 : w.heap.size < lox := by have := l2_0; omega
 have ozx_4 : w.heap.size + 1 < lox := by have := l2_1; omega
 have ozx_5 : hiw ≤ lox := by have := Dw_2.out.1; omega
 have ozx_w : w.heap.size ≤ lox := by have := X2.size; omega
 clear hlox
 have S3 : Below w2.heap.size w2 w3 := hb
 have c3_0 := (S3.cell l2_0).trans c2_0
 have c3_1 := (S3.cell l2_0).trans c2_1
 have c3_2 := (S3.cell l2_0).trans c2_2
 have c3_3 := (S3.cell l2_0).trans c2_3
 have c3_4 := (S3.cell l2_0).trans c2_4
 have c3_5 := (S3.cell l2_0).trans c2_5
 have c3_6 := (S3.cell l2_0).trans c2_6
 have c3_7 := (S3.cell l2_0).trans c2_7
 have c3_8 := (S3.cell l2_1).trans c2_8
 have c3_9 := (S3.cell l2_1).trans c2_9
 have c3_10 := (S3.cell l2_1).trans c2_10
 have c3_11 := (S3.cell l2_1).trans c2_11
 have c3_12 := (S3.cell l2_1).trans c2_12
 have c3_13 := (S3.cell l2_1).trans c2_13
 have c3_14 := (S3.cell l2_1).trans c2_14
 have l3_0 : w.heap.size < w3.heap.size := World.block_lt_of_cell? _ _ c3_0
 have l3_1 : w.heap.size + 1 < w3.heap.size := World.block_lt_of_cell? _ _ c3_8
 have X3 : Below w.heap.size w w3 := X2.trans (S3.mono X2.size)
 have Dw_3 : Hid (hiw ≤ w3.heap.size ∧ IntsN w3 low hiw [.slice Aw rl.length cw] rl) := Lib.hid ⟨Nat.le_trans Dw_2.out.1 S3.size, IntsN.below S3 Dw_2.out.1 _ _ Dw_2.out.2⟩
 clear c2_0 c2_1 c2_2 c2_3 c2_4 c2_5 c2_6 c2_7 c2_8 c2_9 c2_10 c2_11 c2_12 c2_13 c2_14 l2_0 l2_1 Dw_2 X2 hb
 clear S3
 obtain ⟨hix, hhix⟩ : ∃ x, x = w3.heap.size := ⟨_, rfl⟩
 rw [← hhix] at hr
 have hhlx : hix ≤ w3.heap.size := Nat.le_of_eq hhix; clear hhix
 have hr2 := hr
 obtain ⟨Ax0, nx0, cx0, Ax1, nx1, cx1, Ax2, nx2, cx2, Ax3, nx3, cx3, Ax4, nx4, cx4, rfl, _, _, _, _, _, _, _, _, _, _⟩ := hr2
 have Dx_3 := Lib.hid (And.intro hhlx hr); clear hr hhlx
 have obDw_6 : hiw ≤ w3.heap.size := by have := Dw_3.out.1; omega
 have obDx_7 : hix ≤ w3.heap.size := by have := Dx_3.out.1; omega
 go_wp2_with fail
 generalize hwg : w3.alloc (.cells #[.slice Ax0 nx0 cx0, .slice Ax1 nx1 cx1, .slice Ax2 nx2 cx2, .int .i64 zc_, .slice Ax3 nx3 cx3, .int .i64 za_, .slice Ax4 nx4 cx4, .bool zb_] 39) = w4
 have hb : Below (w3.alloc (.cells #[.slice Ax0 nx0 cx0, .slice Ax1 nx1 cx1, .slice Ax2 nx2 cx2, .int .i64 zc_, .slice Ax3 nx3 cx3, .int .i64 za_, .slice Ax4 nx4 cx4, .bool zb_] 39)).heap.size (w3.alloc (.cells #[.slice Ax0 nx0 cx0, .slice Ax1 nx1 cx1, .slice Ax2 nx2 cx2, .int .i64 zc_, .slice Ax3 nx3 cx3, .int .i64 za_, .slice Ax4 nx4 cx4, .bool zb_] 39)) w4 := by rw [← hwg]; exact Below.refl _ _
 clear hwg
 have S4 : Below w3.heap.size w3 w4 := bel1.trans (hb.mono (by simp <;> omega))
 have c4_0 := (S4.cell l3_0).trans c3_0
 have c4_1 := (S4.cell l3_0).trans c3_1
 have c4_2 := (S4.cell l3_0).trans c3_2
 have c4_3 := (S4.cell l3_0).trans c3_3
 have c4_4 := (S4.cell l3_0).trans c3_4
 have c4_5 := (S4.cell l3_0).trans c3_5
 have c4_6 := (S4.cell l3_0).trans c3_6
 have c4_7 := (S4.cell l3_0).trans c3_7
 have c4_8 := (S4.cell l3_1).trans c3_8
 have c4_9 := (S4.cell l3_1).trans c3_9
 have c4_10 := (S4.cell l3_1).trans c3_10
 have c4_11 := (S4.cell l3_1).trans c3_11
 have c4_12 := (S4.cell l3_1).trans c3_12
 have c4_13 := (S4.cell l3_1).trans c3_13
 have c4_14 := (S4.cell l3_1).trans c3_14
 have c4_15 : w4.cell? ⟨w3.heap.size, 0, none⟩ = some (.slice Ax0 nx0 cx0) := (hb.cell (by simp <;> omega)).trans (by simp [go_sem])
 have c4_16 : w4.cell? ⟨w3.heap.size, 1, none⟩ = some (.slice Ax1 nx1 cx1) := (hb.cell (by simp <;> omega)).trans (by simp [go_sem])
 have c4_17 : w4.cell? ⟨w3.heap.size, 2, none⟩ = some (.slice Ax2 nx2 cx2) := (hb.cell (by simp <;> omega)).trans (by simp [go_sem])
 have c4_18 : w4.cell? ⟨w3.heap.size, 3, none⟩ = some (.int .i64 zc_) := (hb.cell (by simp <;> omega)).trans (by simp [go_sem])
 have c4_19 : w4.cell? ⟨w3.heap.size, 4, none⟩ = some (.slice Ax3 nx3 cx3) := (hb.cell (by simp <;> omega)).trans (by simp [go_sem])
 have c4_20 : w4.cell? ⟨w3.heap.size, 5, none⟩ = some (.int .i64 za_) := (hb.cell (by simp <;> omega)).trans (by simp [go_sem])
 have c4_21 : w4.cell? ⟨w3.heap.size, 6, none⟩ = some (.slice Ax4 nx4 cx4) := (hb.cell (by simp <;> omega)).trans (by simp [go_sem])
 have c4_22 : w4.cell? ⟨w3.heap.size, 7, none⟩ = some (.bool zb_) := (hb.cell (by simp <;> omega)).trans (by simp [go_sem])
 have l4_0 : w.heap.size < w4.heap.size := World.block_lt_of_cell? _ _ c4_0
 have l4_1 : w.heap.size + 1 < w4.heap.size := World.block_lt_of_cell? _ _ c4_8
 have l4_2 : w3.heap.size < w4.heap.size := World.block_lt_of_cell? _ _ c4_15
 have X4 : Below w.heap.size w w4 := X3.trans (S4.mono X3.size)
 have Dw_4 : Hid (hiw ≤ w4.heap.size ∧ IntsN w4 low hiw [.slice Aw rl.length cw] rl) := Lib.hid ⟨Nat.le_trans Dw_3.out.1 S4.size, IntsN.below S4 Dw_3.out.1 _ _ Dw_3.out.2⟩
 have Dx_4 : Hid (hix ≤ w4.heap.size ∧ StoreN w4 lox hix [.slice Ax0 nx0 cx0, .slice Ax1 nx1 cx1, .slice Ax2 nx2 cx2, .int .i64 zc_, .slice Ax3 nx3 cx3, .int .i64 za_, .slice Ax4 nx4 cx4, .bool zb_] (zm_, (zo_, zn_), zc_, zl_, za_, zk_, zb_)) := Lib.hid ⟨Nat.le_trans Dx_3.out.1 S4.size, StoreN.below S4 Dx_3.out.1 _ _ Dx_3.out.2⟩
 clear c3_0 c3_1 c3_2 c3_3 c3_4 c3_5 c3_6 c3_7 c3_8 c3_9 c3_10 c3_11 c3_12 c3_13 c3_14 l3_0 l3_1 Dw_3 Dx_3 X3 hb
 clear S4
 obtain ⟨log, hlog⟩ : ∃ x, x = w4.heap.size := ⟨_, rfl⟩
 have hlqg := Lib.hid hlog
 have ozg_8 : w.heap.size < log := by have := l4_0; omega
 have ozg_9 : w.heap.size + 1 < log := by have := l4_1; omega
 have ozg_10 : w3.heap.size < log := by have := l4_2; omega
 have ozg_11 : hiw ≤ log := by have := Dw_4.out.1; omega
 have ozg_12 : hix ≤ log := by have := Dx_4.out.1; omega
 have ozg_w : w.heap.size ≤ log := by have := X4.size; omega
 clear hlog
 apply wp_region_rg (by kernel_rfl) (false :: false :: false :: false :: false :: false :: false :: false :: false :: true :: true :: false :: false :: false :: false :: false :: false :: false :: false :: false :: false :: false :: false :: false :: false :: false :: false :: false :: false :: false :: false :: true :: true :: true :: true :: true :: true :: true :: false :: false :: false :: false :: false :: false :: false :: false :: false :: false :: false :: false :: false :: false :: false :: false :: false :: false :: false :: false :: false :: false :: false :: false :: false :: false :: false :: false :: false :: false :: false :: false :: false :: false :: false :: false :: false :: false :: false :: false :: false :: false :: false :: false :: false :: false :: false :: false :: false :: false :: false :: false :: false :: false :: false :: false :: false :: false :: false :: false :: false :: false :: false :: false :: false :: false :: []) [some 32, some 33, some 34, some 35, some 31, some 36, some 37, some 9, some 10] [[], [], [1], [0, 2], [3], [4], [4], [5], [6]] [StP.is _, StP.is _, StP.is _, (ListT log rl rb), (ListT log rl rb), (ListV log rl), StP.is _, (ListV log rl), StP.is _] (by kernel_rfl)
 case hobs =>
  refine ⟨fun y w' hS hF K hK => ?_, ?_⟩
  · skip
    simp only [fillL, cond_true, cond_false, zG0, zG1, StP.is, Act.put, zS2, zS0, zS1, Nat.reduceAdd] at hK ⊢
    refine rg_yes (by kernel_rfl) ?_
    have qx0_ := (Below.cell hS l4_0).trans c4_0
    have qx1_ := (Below.cell hS l4_0).trans c4_1
    have qx2_ := (Below.cell hS l4_0).trans c4_2
    have qx3_ := (Below.cell hS l4_0).trans c4_3
    have qx4_ := (Below.cell hS l4_0).trans c4_4
    have qx5_ := (Below.cell hS l4_0).trans c4_5
    have qx6_ := (Below.cell hS l4_0).trans c4_6
    have qx7_ := (Below.cell hS l4_0).trans c4_7
    have qx8_ := (Below.cell hS l4_1).trans c4_8
    have qx9_ := (Below.cell hS l4_1).trans c4_9
    have qx10_ := (Below.cell hS l4_1).trans c4_10
    have qx11_ := (Below.cell hS l4_1).trans c4_11
    have qx12_ := (Below.cell hS l4_1).trans c4_12
    have qx13_ := (Below.cell hS l4_1).trans c4_13
    have qx14_ := (Below.cell hS l4_1).trans c4_14
    have qx15_ := (Below.cell hS l4_2).trans c4_15
    have qx16_ := (Below.cell hS l4_2).trans c4_16
    have qx17_ := (Below.cell hS l4_2).trans c4_17
    have qx18_ := (Below.cell hS l4_2).trans c4_18
    have qx19_ := (Below.cell hS l4_2).trans c4_19
    have qx20_ := (Below.cell hS l4_2).trans c4_20
    have qx21_ := (Below.cell hS l4_2).trans c4_21
    have qx22_ := (Below.cell hS l4_2).trans c4_22
    clear hF
    go_simp
    exact hK _ _ (Ext.refl _) rfl
  refine ⟨fun y w' hS hF K hK => ?_, ?_⟩
  · skip
    simp only [fillL, cond_true, cond_false, zG0, zG1, StP.is, Act.put, zS2, zS0, zS1, Nat.reduceAdd] at hK ⊢
    refine rg_yes (by kernel_rfl) ?_
    have qx0_ := (Below.cell hS l4_0).trans c4_0
    have qx1_ := (Below.cell hS l4_0).trans c4_1
    have qx2_ := (Below.cell hS l4_0).trans c4_2
    have qx3_ := (Below.cell hS l4_0).trans c4_3
    have qx4_ := (Below.cell hS l4_0).trans c4_4
    have qx5_ := (Below.cell hS l4_0).trans c4_5
    have qx6_ := (Below.cell hS l4_0).trans c4_6
    have qx7_ := (Below.cell hS l4_0).trans c4_7
    have qx8_ := (Below.cell hS l4_1).trans c4_8
    have qx9_ := (Below.cell hS l4_1).trans c4_9
    have qx10_ := (Below.cell hS l4_1).trans c4_10
    have qx11_ := (Below.cell hS l4_1).trans c4_11
    have qx12_ := (Below.cell hS l4_1).trans c4_12
    have qx13_ := (Below.cell hS l4_1).trans c4_13
    have qx14_ := (Below.cell hS l4_1).trans c4_14
    have qx15_ := (Below.cell hS l4_2).trans c4_15
    have qx16_ := (Below.cell hS l4_2).trans c4_16
    have qx17_ := (Below.cell hS l4_2).trans c4_17
    have qx18_ := (Below.cell hS l4_2).trans c4_18
    have qx19_ := (Below.cell hS l4_2).trans c4_19
    have qx20_ := (Below.cell hS l4_2).trans c4_20
    have qx21_ := (Below.cell hS l4_2).trans c4_21
    have qx22_ := (Below.cell hS l4_2).trans c4_22
    clear hF
    go_simp
    exact hK _ _ (Ext.refl _) rfl
  refine ⟨fun y w' hS hF K hK => ?_, ?_⟩
  · skip
    have e33 : y 33 = _ := hF.1
    simp only [fillL, cond_true, cond_false, zG0, zG1, StP.is, Act.put, zS2, zS0, zS1, Nat.reduceAdd, e33] at hK ⊢
    refine rg_yes (by kernel_rfl) ?_
    clear e33
    clear hF
    go_simp
    go_at_call 10
    refine (toTreeF_any [.int .i64 zf_, .int .i64 zg_, .int .i64 zi_, .int .i64 zj_, .int .i64 zh_, .int .i64 zd_, .int .i64 ze_] ((zf_, zg_, zi_, zj_, zh_), zd_, ze_) _ w 0 0 rfl).mono ?_
    rintro e w'' ⟨rfl, hb⟩
    exact hK _ _ hb rfl
  refine ⟨fun y w' hS hF K hK => ?_, ?_⟩
  · skip
    have e32 : y 32 = _ := hF.1
    have e34 : y 34 = _ := hF.2.1
    simp only [fillL, cond_true, cond_false, zG0, zG1, StP.is, Act.put, zS2, zS0, zS1, Nat.reduceAdd, e32, e34] at hK ⊢
    refine rg_yes (by kernel_rfl) ?_
    clear e32 e34
    clear hF
    go_simp
    go_at_call 11
    refine (tableList_any _ (zm_, (zo_, zn_), zc_, zl_, za_, zk_, zb_) zf_ zg_ zi_ zj_ zh_ zd_ ze_ _ (HE.out.below (X4.trans (Below.mono hS X4.size))) _ _ (StoreR.below hS Dx_4.out.1 _ _ Dx_4.out.2.r) (Nat.le_trans Dx_4.out.1 hS.size) (by have := HZ.out; unfold sizeStore at this; unfold SmallS; simp only at this ⊢; constructor <;> omega)).mono ?_
    intro e w'' hG
    obtain ⟨A_, c_, S_, rfl, hO_, hS_, hb⟩ := hG.list HRL.out HRB.out
    exact hK _ _ hb ⟨A_, c_, S_, rfl, hO_, fun g hg => Nat.le_trans (by rw [hlqg.out]; exact hS.size) (hS_ g hg)⟩
  refine ⟨fun y w' hS hF K hK => ?_, ?_⟩
  · skip
    obtain ⟨A35_, c35_, S35_, e35, hO35_, hS35_⟩ := hF.1
    simp only [fillL, cond_true, cond_false, zG0, zG1, StP.is, Act.put, zS2, zS0, zS1, Nat.reduceAdd, e35] at hK ⊢
    refine rg_yes (by kernel_rfl) ?_
    clear e35
    clear hF
    go_simp
    exact hK _ _ (Ext.refl _) ⟨A35_, c35_, S35_, rfl, hO35_, hS35_⟩
  refine ⟨fun y w' hS hF K hK => ?_, ?_⟩
  · skip
    obtain ⟨A31_, c31_, S31_, e31, hO31_, hS31_⟩ := hF.1
    simp only [fillL, cond_true, cond_false, zG0, zG1, StP.is, Act.put, zS2, zS0, zS1, Nat.reduceAdd, e31] at hK ⊢
    refine rg_yes (by kernel_rfl) ?_
    clear e31
    clear hF
    go_simp
    exact hK _ _ (Ext.refl _) ⟨A31_, c31_, S31_, rfl, hO31_, hS31_⟩
  refine ⟨fun y w' hS hF K hK => ?_, ?_⟩
  · skip
    obtain ⟨A31_, c31_, S31_, e31, hO31_, hS31_⟩ := hF.1
    simp only [fillL, cond_true, cond_false, zG0, zG1, StP.is, Act.put, zS2, zS0, zS1, Nat.reduceAdd, e31] at hK ⊢
    refine rg_yes (by kernel_rfl) ?_
    clear e31
    clear hF
    go_simp
    exact hK _ _ (Ext.refl _) rfl
  refine ⟨fun y w' hS hF K hK => ?_, ?_⟩
  · skip
    obtain ⟨A36_, c36_, S36_, e36, hO36_, hS36_⟩ := hF.1
    simp only [fillL, cond_true, cond_false, zG0, zG1, StP.is, Act.put, zS2, zS0, zS1, Nat.reduceAdd, e36] at hK ⊢
    refine rg_yes (by kernel_rfl) ?_
    clear e36
    clear hF
    go_simp
    exact hK _ _ (Ext.refl _) ⟨A36_, c36_, S36_, rfl, hO36_, hS36_⟩
  refine ⟨fun y w' hS hF K hK => ?_, ?_⟩
  · skip
    have e37 : y 37 = _ := hF.1
    simp only [fillL, cond_true, cond_false, zG0, zG1, StP.is, Act.put, zS2, zS0, zS1, Nat.reduceAdd, e37] at hK ⊢
    refine rg_yes (by kernel_rfl) ?_
    clear e37
    clear hF
    go_simp
    exact hK _ _ (Ext.refl _) rfl
  trivial
 intro y w5 hX hF
 obtain ⟨Ag, cg, Sg_, e9, hO_, hS_⟩ := hF.2.2.2.2.2.2.2.1
 have e10 : y 10 = _ := hF.2.2.2.2.2.2.2.2.1
 clear hF
 simp only [fillL, cond_true, cond_false, Nat.reduceAdd, e9, e10]
 clear e9 e10
 have hr := IntsN.of hO_ hS_; clear hO_ hS_
 have S5 : Below w4.heap.size w4 w5 := hX
 have c5_0 := (S5.cell l4_0).trans c4_0
 have c5_1 := (S5.cell l4_0).trans c4_1
 have c5_2 := (S5.cell l4_0).trans c4_2
 have c5_3 := (S5.cell l4_0).trans c4_3
 have c5_4 := (S5.cell l4_0).trans c4_4
 have c5_5 := (S5.cell l4_0).trans c4_5
 have c5_6 := (S5.cell l4_0).trans c4_6
 have c5_7 := (S5.cell l4_0).trans c4_7
 have c5_8 := (S5.cell l4_1).trans c4_8
 have c5_9 := (S5.cell l4_1).trans c4_9
 have c5_10 := (S5.cell l4_1).trans c4_10
 have c5_11 := (S5.cell l4_1).trans c4_11
 have c5_12 := (S5.cell l4_1).trans c4_12
 have c5_13 := (S5.cell l4_1).trans c4_13
 have c5_14 := (S5.cell l4_1).trans c4_14
 have c5_15 := (S5.cell l4_2).trans c4_15
 have c5_16 := (S5.cell l4_2).trans c4_16
 have c5_17 := (S5.cell l4_2).trans c4_17
 have c5_18 := (S5.cell l4_2).trans c4_18
 have c5_19 := (S5.cell l4_2).trans c4_19
 have c5_20 := (S5.cell l4_2).trans c4_20
 have c5_21 := (S5.cell l4_2).trans c4_21
 have c5_22 := (S5.cell l4_2).trans c4_22
 have l5_0 : w.heap.size < w5.heap.size := World.block_lt_of_cell? _ _ c5_0
 have l5_1 : w.heap.size + 1 < w5.heap.size := World.block_lt_of_cell? _ _ c5_8
 have l5_2 : w3.heap.size < w5.heap.size := World.block_lt_of_cell? _ _ c5_15
 have X5 : Below w.heap.size w w5 := X4.trans (S5.mono X4.size)
 have Dw_5 : Hid (hiw ≤ w5.heap.size ∧ IntsN w5 low hiw [.slice Aw rl.length cw] rl) := Lib.hid ⟨Nat.le_trans Dw_4.out.1 S5.size, IntsN.below S5 Dw_4.out.1 _ _ Dw_4.out.2⟩
 have Dx_5 : Hid (hix ≤ w5.heap.size ∧ StoreN w5 lox hix [.slice Ax0 nx0 cx0, .slice Ax1 nx1 cx1, .slice Ax2 nx2 cx2, .int .i64 zc_, .slice Ax3 nx3 cx3, .int .i64 za_, .slice Ax4 nx4 cx4, .bool zb_] (zm_, (zo_, zn_), zc_, zl_, za_, zk_, zb_)) := Lib.hid ⟨Nat.le_trans Dx_4.out.1 S5.size, StoreN.below S5 Dx_4.out.1 _ _ Dx_4.out.2⟩
 clear c4_0 c4_1 c4_2 c4_3 c4_4 c4_5 c4_6 c4_7 c4_8 c4_9 c4_10 c4_11 c4_12 c4_13 c4_14 c4_15 c4_16 c4_17 c4_18 c4_19 c4_20 c4_21 c4_22 l4_0 l4_1 l4_2 Dw_4 Dx_4 X4 hX
 clear S5
 obtain ⟨hig, hhig⟩ : ∃ x, x = w5.heap.size := ⟨_, rfl⟩
 rw [← hhig] at hr
 have hhlg : hig ≤ w5.heap.size := Nat.le_of_eq hhig; clear hhig
 have Dg_5 := Lib.hid (And.intro hhlg hr); clear hr hhlg hlqg
 go_wp2_with fail
 refine (eqIntS_yes _ _ _ _ _ _ rl _ _ _ _ _ (IntsN.below (Below.refl _ _) Dg_5.out.1 _ _ Dg_5.out.2).p.1 (IntsN.below (Below.refl _ _) Dw_5.out.1 _ _ Dw_5.out.2).p.1).mono ?_
 rintro e w6 ⟨rfl, hb⟩
 have S6 : Below w5.heap.size w5 w6 := hb
 have c6_0 := (S6.cell l5_0).trans c5_0
 have c6_1 := (S6.cell l5_0).trans c5_1
 have c6_2 := (S6.cell l5_0).trans c5_2
 have c6_3 := (S6.cell l5_0).trans c5_3
 have c6_4 := (S6.cell l5_0).trans c5_4
 have c6_5 := (S6.cell l5_0).trans c5_5
 have c6_6 := (S6.cell l5_0).trans c5_6
 have c6_7 := (S6.cell l5_0).trans c5_7
 have c6_8 := (S6.cell l5_1).trans c5_8
 have c6_9 := (S6.cell l5_1).trans c5_9
 have c6_10 := (S6.cell l5_1).trans c5_10
 have c6_11 := (S6.cell l5_1).trans c5_11
 have c6_12 := (S6.cell l5_1).trans c5_12
 have c6_13 := (S6.cell l5_1).trans c5_13
 have c6_14 := (S6.cell l5_1).trans c5_14
 have c6_15 := (S6.cell l5_2).trans c5_15
 have c6_16 := (S6.cell l5_2).trans c5_16
 have c6_17 := (S6.cell l5_2).trans c5_17
 have c6_18 := (S6.cell l5_2).trans c5_18
 have c6_19 := (S6.cell l5_2).trans c5_19
 have c6_20 := (S6.cell l5_2).trans c5_20
 have c6_21 := (S6.cell l5_2).trans c5_21
 have c6_22 := (S6.cell l5_2).trans c5_22
 have l6_0 : w.heap.size < w6.heap.size := World.block_lt_of_cell? _ _ c6_0
 have l6_1 : w.heap.size + 1 < w6.heap.size := World.block_lt_of_cell? _ _ c6_8
 have l6_2 : w3.heap.size < w6.heap.size := World.block_lt_of_cell? _ _ c6_15
 have X6 : Below w.heap.size w w6 := X5.trans (S6.mono X5.size)
 have Dw_6 : Hid (hiw ≤ w6.heap.size ∧ IntsN w6 low hiw [.slice Aw rl.length cw] rl) := Lib.hid ⟨Nat.le_trans Dw_5.out.1 S6.size, IntsN.below S6 Dw_5.out.1 _ _ Dw_5.out.2⟩
 have Dx_6 : Hid (hix ≤ w6.heap.size ∧ StoreN w6 lox hix [.slice Ax0 nx0 cx0, .slice Ax1 nx1 cx1, .slice Ax2 nx2 cx2, .int .i64 zc_, .slice Ax3 nx3 cx3, .int .i64 za_, .slice Ax4 nx4 cx4, .bool zb_] (zm_, (zo_, zn_), zc_, zl_, za_, zk_, zb_)) := Lib.hid ⟨Nat.le_trans Dx_5.out.1 S6.size, StoreN.below S6 Dx_5.out.1 _ _ Dx_5.out.2⟩
 have Dg_6 : Hid (hig ≤ w6.heap.size ∧ IntsN w6 log hig [.slice Ag rl.length cg] rl) := Lib.hid ⟨Nat.le_trans Dg_5.out.1 S6.size, IntsN.below S6 Dg_5.out.1 _ _ Dg_5.out.2⟩
 clear c5_0 c5_1 c5_2 c5_3 c5_4 c5_5 c5_6 c5_7 c5_8 c5_9 c5_10 c5_11 c5_12 c5_13 c5_14 c5_15 c5_16 c5_17 c5_18 c5_19 c5_20 c5_21 c5_22 l5_0 l5_1 l5_2 Dw_5 Dx_5 Dg_5 X5 hb
 clear S6
 go_wp2_with fail
 apply wp_region_rg (by kernel_rfl) (false :: false :: false :: false :: false :: false :: false :: false :: false :: false :: false :: false :: false :: false :: false :: false :: false :: false :: false :: false :: false :: false :: false :: false :: false :: false :: false :: false :: false :: false :: false :: false :: false :: false :: false :: false :: false :: false :: false :: false :: false :: false :: false :: false :: false :: false :: false :: true :: true :: true :: true :: true :: false :: false :: false :: false :: false :: false :: false :: false :: false :: false :: false :: false :: false :: false :: false :: false :: false :: false :: false :: false :: false :: false :: false :: false :: false :: false :: false :: false :: false :: false :: false :: false :: false :: false :: false :: false :: false :: false :: false :: false :: false :: false :: false :: false :: false :: false :: false :: false :: false :: false :: false :: false :: []) [some 47, some 48, some 49, some 50, some 51] [[], [], [1], [0, 2], [3]] [StP.is _, StP.is _, (StoreR.stp (zm_, (zo_, zn_), zc_, zl_, za_, zk_, zb_)), StP.is _, StP.is _] (by kernel_rfl)
 case hobs =>
  refine ⟨fun y w' hS hF K hK => ?_, ?_⟩
  · skip
    simp only [fillL, cond_true, cond_false, zG0, zG1, StP.is, Act.put, zS2, zS0, zS1, Nat.reduceAdd] at hK ⊢
    refine rg_yes (by kernel_rfl) ?_
    have qx0_ := (Below.cell hS l6_0).trans c6_0
    have qx1_ := (Below.cell hS l6_0).trans c6_1
    have qx2_ := (Below.cell hS l6_0).trans c6_2
    have qx3_ := (Below.cell hS l6_0).trans c6_3
    have qx4_ := (Below.cell hS l6_0).trans c6_4
    have qx5_ := (Below.cell hS l6_0).trans c6_5
    have qx6_ := (Below.cell hS l6_0).trans c6_6
    have qx7_ := (Below.cell hS l6_0).trans c6_7
    have qx8_ := (Below.cell hS l6_1).trans c6_8
    have qx9_ := (Below.cell hS l6_1).trans c6_9
    have qx10_ := (Below.cell hS l6_1).trans c6_10
    have qx11_ := (Below.cell hS l6_1).trans c6_11
    have qx12_ := (Below.cell hS l6_1).trans c6_12
    have qx13_ := (Below.cell hS l6_1).trans c6_13
    have qx14_ := (Below.cell hS l6_1).trans c6_14
    have qx15_ := (Below.cell hS l6_2).trans c6_15
    have qx16_ := (Below.cell hS l6_2).trans c6_16
    have qx17_ := (Below.cell hS l6_2).trans c6_17
    have qx18_ := (Below.cell hS l6_2).trans c6_18
    have qx19_ := (Below.cell hS l6_2).trans c6_19
    have qx20_ := (Below.cell hS l6_2).trans c6_20
    have qx21_ := (Below.cell hS l6_2).trans c6_21
    have qx22_ := (Below.cell hS l6_2).trans c6_22
    clear hF
    go_simp
    exact hK _ _ (Ext.refl _) rfl
  refine ⟨fun y w' hS hF K hK => ?_, ?_⟩
  · skip
    simp only [fillL, cond_true, cond_false, zG0, zG1, StP.is, Act.put, zS2, zS0, zS1, Nat.reduceAdd] at hK ⊢
    refine rg_yes (by kernel_rfl) ?_
    have qx0_ := (Below.cell hS l6_0).trans c6_0
    have qx1_ := (Below.cell hS l6_0).trans c6_1
    have qx2_ := (Below.cell hS l6_0).trans c6_2
    have qx3_ := (Below.cell hS l6_0).trans c6_3
    have qx4_ := (Below.cell hS l6_0).trans c6_4
    have qx5_ := (Below.cell hS l6_0).trans c6_5
    have qx6_ := (Below.cell hS l6_0).trans c6_6
    have qx7_ := (Below.cell hS l6_0).trans c6_7
    have qx8_ := (Below.cell hS l6_1).trans c6_8
    have qx9_ := (Below.cell hS l6_1).trans c6_9
    have qx10_ := (Below.cell hS l6_1).trans c6_10
    have qx11_ := (Below.cell hS l6_1).trans c6_11
    have qx12_ := (Below.cell hS l6_1).trans c6_12
    have qx13_ := (Below.cell hS l6_1).trans c6_13
    have qx14_ := (Below.cell hS l6_1).trans c6_14
    have qx15_ := (Below.cell hS l6_2).trans c6_15
    have qx16_ := (Below.cell hS l6_2).trans c6_16
    have qx17_ := (Below.cell hS l6_2).trans c6_17
    have qx18_ := (Below.cell hS l6_2).trans c6_18
    have qx19_ := (Below.cell hS l6_2).trans c6_19
    have qx20_ := (Below.cell hS l6_2).trans c6_20
    have qx21_ := (Below.cell hS l6_2).trans c6_21
    have qx22_ := (Below.cell hS l6_2).trans c6_22
    clear hF
    go_simp
    exact hK _ _ (Ext.refl _) rfl
  refine ⟨fun y w' hS hF K hK => ?_, ?_⟩
  · skip
    have e48 : y 48 = _ := hF.1
    simp only [fillL, cond_true, cond_false, zG0, zG1, StP.is, Act.put, zS2, zS0, zS1, Nat.reduceAdd, e48] at hK ⊢
    refine rg_yes (by kernel_rfl) ?_
    clear e48
    clear hF
    go_simp
    go_at_call 9
    refine (toStoreW_any _ (zm_, (zo_, zn_), zc_, zl_, za_, zk_, zb_) _ 0 w.heap.size (StoreR.below (X6.trans (Below.mono hS X6.size)) (Nat.le_refl _) _ _ PA.out) HZ.out).mono ?_
    rintro e w'' ⟨cs, rfl, hr, hb⟩
    exact hK _ _ hb ⟨cs, _, _, rfl, Nat.le_refl _, hr.r⟩
  refine ⟨fun y w' hS hF K hK => ?_, ?_⟩
  · skip
    have e47 : y 47 = _ := hF.1
    obtain ⟨cs49_, lo49_, hi49_, e49, hh49_, R49_⟩ := hF.2.1
    simp only [fillL, cond_true, cond_false, zG0, zG1, StP.is, Act.put, zS2, zS0, zS1, Nat.reduceAdd, e47, e49] at hK ⊢
    refine rg_yes (by kernel_rfl) ?_
    clear e47 e49
    clear hF
    go_simp
    go_at_call 13
    refine (eqStore_yes _ _ (zm_, (zo_, zn_), zc_, zl_, za_, zk_, zb_) _ _ _ _ _ (StoreR.below hS Dx_6.out.1 _ _ Dx_6.out.2.r) R49_).mono ?_
    rintro e w'' ⟨rfl, hb⟩
    exact hK _ _ hb rfl
  refine ⟨fun y w' hS hF K hK => ?_, ?_⟩
  · skip
    have e50 : y 50 = _ := hF.1
    simp only [fillL, cond_true, cond_false, zG0, zG1, StP.is, Act.put, zS2, zS0, zS1, Nat.reduceAdd, e50] at hK ⊢
    refine rg_yes (by kernel_rfl) ?_
    clear e50
    clear hF
    go_simp
    exact hK _ _ (Ext.refl _) rfl
  trivial
 intro y w7 hX hF
 have e51 : y 51 = _ := hF.2.2.2.2.1
 clear hF
 simp only [fillL, cond_true, cond_false, Nat.reduceAdd, e51]
 clear e51
 have S7 : Below w6.heap.size w6 w7 := hX
 have c7_0 := (S7.cell l6_0).trans c6_0
 have c7_1 := (S7.cell l6_0).trans c6_1
 have c7_2 := (S7.cell l6_0).trans c6_2
 have c7_3 := (S7.cell l6_0).trans c6_3
 have c7_4 := (S7.cell l6_0).trans c6_4
 have c7_5 := (S7.cell l6_0).trans c6_5
 have c7_6 := (S7.cell l6_0).trans c6_6
 have c7_7 := (S7.cell l6_0).trans c6_7
 have c7_8 := (S7.cell l6_1).trans c6_8
 have c7_9 := (S7.cell l6_1).trans c6_9
 have c7_10 := (S7.cell l6_1).trans c6_10
 have c7_11 := (S7.cell l6_1).trans c6_11
 have c7_12 := (S7.cell l6_1).trans c6_12
 have c7_13 := (S7.cell l6_1).trans c6_13
 have c7_14 := (S7.cell l6_1).trans c6_14
 have c7_15 := (S7.cell l6_2).trans c6_15
 have c7_16 := (S7.cell l6_2).trans c6_16
 have c7_17 := (S7.cell l6_2).trans c6_17
 have c7_18 := (S7.cell l6_2).trans c6_18
 have c7_19 := (S7.cell l6_2).trans c6_19
 have c7_20 := (S7.cell l6_2).trans c6_20
 have c7_21 := (S7.cell l6_2).trans c6_21
 have c7_22 := (S7.cell l6_2).trans c6_22
 have l7_0 : w.heap.size < w7.heap.size := World.block_lt_of_cell? _ _ c7_0
 have l7_1 : w.heap.size + 1 < w7.heap.size := World.block_lt_of_cell? _ _ c7_8
 have l7_2 : w3.heap.size < w7.heap.size := World.block_lt_of_cell? _ _ c7_15
 have X7 : Below w.heap.size w w7 := X6.trans (S7.mono X6.size)
 have Dw_7 : Hid (hiw ≤ w7.heap.size ∧ IntsN w7 low hiw [.slice Aw rl.length cw] rl) := Lib.hid ⟨Nat.le_trans Dw_6.out.1 S7.size, IntsN.below S7 Dw_6.out.1 _ _ Dw_6.out.2⟩
 have Dx_7 : Hid (hix ≤ w7.heap.size ∧ StoreN w7 lox hix [.slice Ax0 nx0 cx0, .slice Ax1 nx1 cx1, .slice Ax2 nx2 cx2, .int .i64 zc_, .slice Ax3 nx3 cx3, .int .i64 za_, .slice Ax4 nx4 cx4, .bool zb_] (zm_, (zo_, zn_), zc_, zl_, za_, zk_, zb_)) := Lib.hid ⟨Nat.le_trans Dx_6.out.1 S7.size, StoreN.below S7 Dx_6.out.1 _ _ Dx_6.out.2⟩
 have Dg_7 : Hid (hig ≤ w7.heap.size ∧ IntsN w7 log hig [.slice Ag rl.length cg] rl) := Lib.hid ⟨Nat.le_trans Dg_6.out.1 S7.size, IntsN.below S7 Dg_6.out.1 _ _ Dg_6.out.2⟩
 clear c6_0 c6_1 c6_2 c6_3 c6_4 c6_5 c6_6 c6_7 c6_8 c6_9 c6_10 c6_11 c6_12 c6_13 c6_14 c6_15 c6_16 c6_17 c6_18 c6_19 c6_20 c6_21 c6_22 l6_0 l6_1 l6_2 Dw_6 Dx_6 Dg_6 X6 hX
 clear S7
 go_wp2_with fail
 have hw2 := Dx_7.out.2; obtain ⟨_, _, _, _, _, _, _, _, _, _, _, _, _, _, _, hcz, g0, k0, g1, k1, g2, k2, g3, k3, g4, k4⟩ := hw2
 simp only [List.cons.injEq, Value.slice.injEq, and_true, true_and] at hcz
 obtain ⟨⟨rfl, rfl, rfl⟩, ⟨rfl, rfl, rfl⟩, ⟨rfl, rfl, rfl⟩, ⟨rfl, rfl, rfl⟩, ⟨rfl, rfl, rfl⟩⟩ := hcz
 have e0_ : zm_.length = nx0 := g0.len
 have e1_ : zo_.length = nx1 := g1.len
 have e2_ : zn_.length = nx2 := g2.len
 have e3_ : zl_.length = nx3 := g3.len
 have e4_ : zk_.length = nx4 := g4.len
 have hbn : nx0 ≤ 1048576 ∧ nx1 ≤ 1048576 ∧ nx2 ≤ 1048576 ∧ nx3 ≤ 1048576 ∧ nx4 ≤ 1048576 := by have := HZ.out; unfold sizeStore at this; simp only at this; omega
 refine (markStoreW_any Ax0 nx0 cx0 Ax1 nx1 cx1 Ax2 nx2 cx2 Ax3 nx3 cx3 Ax4 nx4 cx4 zc_ za_ zb_ 1 _ lox hix k0 k1 k2 k3 k4 Dx_7.out.1 (by omega) (by omega)).mono ?_
 clear g0 g1 g2 g3 g4 k0 k1 k2 k3 k4 e0_ e1_ e2_ e3_ e4_
 rintro e w8 ⟨rfl, _, hc⟩
 have c8_0 : w8.cell? ⟨w.heap.size, 0, none⟩ = some (.slice Ap0 np0 cp0) := (World.cell?_of_block (a := ⟨w.heap.size, 0, none⟩) (hc.block _ l7_0 (fun h => by have h1 := h.1; have h2 := h.2; simp only at h1 h2; omega))).trans c7_0
 have c8_1 : w8.cell? ⟨w.heap.size, 1, none⟩ = some (.slice Ap1 np1 cp1) := (World.cell?_of_block (a := ⟨w.heap.size, 1, none⟩) (hc.block _ l7_0 (fun h => by have h1 := h.1; have h2 := h.2; simp only at h1 h2; omega))).trans c7_1
 have c8_2 : w8.cell? ⟨w.heap.size, 2, none⟩ = some (.slice Ap2 np2 cp2) := (World.cell?_of_block (a := ⟨w.heap.size, 2, none⟩) (hc.block _ l7_0 (fun h => by have h1 := h.1; have h2 := h.2; simp only at h1 h2; omega))).trans c7_2
 have c8_3 : w8.cell? ⟨w.heap.size, 3, none⟩ = some (.int .i64 zc_) := (World.cell?_of_block (a := ⟨w.heap.size, 3, none⟩) (hc.block _ l7_0 (fun h => by have h1 := h.1; have h2 := h.2; simp only at h1 h2; omega))).trans c7_3
 have c8_4 : w8.cell? ⟨w.heap.size, 4, none⟩ = some (.slice Ap3 np3 cp3) := (World.cell?_of_block (a := ⟨w.heap.size, 4, none⟩) (hc.block _ l7_0 (fun h => by have h1 := h.1; have h2 := h.2; simp only at h1 h2; omega))).trans c7_4
 have c8_5 : w8.cell? ⟨w.heap.size, 5, none⟩ = some (.int .i64 za_) := (World.cell?_of_block (a := ⟨w.heap.size, 5, none⟩) (hc.block _ l7_0 (fun h => by have h1 := h.1; have h2 := h.2; simp only at h1 h2; omega))).trans c7_5
 have c8_6 : w8.cell? ⟨w.heap.size, 6, none⟩ = some (.slice Ap4 np4 cp4) := (World.cell?_of_block (a := ⟨w.heap.size, 6, none⟩) (hc.block _ l7_0 (fun h => by have h1 := h.1; have h2 := h.2; simp only at h1 h2; omega))).trans c7_6
 have c8_7 : w8.cell? ⟨w.heap.size, 7, none⟩ = some (.bool zb_) := (World.cell?_of_block (a := ⟨w.heap.size, 7, none⟩) (hc.block _ l7_0 (fun h => by have h1 := h.1; have h2 := h.2; simp only at h1 h2; omega))).trans c7_7
 have c8_8 : w8.cell? ⟨w.heap.size + 1, 0, none⟩ = some (.int .i64 zf_) := (World.cell?_of_block (a := ⟨w.heap.size + 1, 0, none⟩) (hc.block _ l7_1 (fun h => by have h1 := h.1; have h2 := h.2; simp only at h1 h2; omega))).trans c7_8
 have c8_9 : w8.cell? ⟨w.heap.size + 1, 1, none⟩ = some (.int .i64 zg_) := (World.cell?_of_block (a := ⟨w.heap.size + 1, 1, none⟩) (hc.block _ l7_1 (fun h => by have h1 := h.1; have h2 := h.2; simp only at h1 h2; omega))).trans c7_9
 have c8_10 : w8.cell? ⟨w.heap.size + 1, 2, none⟩ = some (.int .i64 zi_) := (World.cell?_of_block (a := ⟨w.heap.size + 1, 2, none⟩) (hc.block _ l7_1 (fun h => by have h1 := h.1; have h2 := h.2; simp only at h1 h2; omega))).trans c7_10
 have c8_11 : w8.cell? ⟨w.heap.size + 1, 3, none⟩ = some (.int .i64 zj_) := (World.cell?_of_block (a := ⟨w.heap.size + 1, 3, none⟩) (hc.block _ l7_1 (fun h => by have h1 := h.1; have h2 := h.2; simp only at h1 h2; omega))).trans c7_11
 have c8_12 : w8.cell? ⟨w.heap.size + 1, 4, none⟩ = some (.int .i64 zh_) := (World.cell?_of_block (a := ⟨w.heap.size + 1, 4, none⟩) (hc.block _ l7_1 (fun h => by have h1 := h.1; have h2 := h.2; simp only at h1 h2; omega))).trans c7_12
 have c8_13 : w8.cell? ⟨w.heap.size + 1, 5, none⟩ = some (.int .i64 zd_) := (World.cell?_of_block (a := ⟨w.heap.size + 1, 5, none⟩) (hc.block _ l7_1 (fun h => by have h1 := h.1; have h2 := h.2; simp only at h1 h2; omega))).trans c7_13
 have c8_14 : w8.cell? ⟨w.heap.size + 1, 6, none⟩ = some (.int .i64 ze_) := (World.cell?_of_block (a := ⟨w.heap.size + 1, 6, none⟩) (hc.block _ l7_1 (fun h => by have h1 := h.1; have h2 := h.2; simp only at h1 h2; omega))).trans c7_14
 have c8_15 : w8.cell? ⟨w3.heap.size, 0, none⟩ = some (.slice Ax0 nx0 cx0) := (World.cell?_of_block (a := ⟨w3.heap.size, 0, none⟩) (hc.block _ l7_2 (fun h => by have h1 := h.1; have h2 := h.2; simp only at h1 h2; omega))).trans c7_15
 have c8_16 : w8.cell? ⟨w3.heap.size, 1, none⟩ = some (.slice Ax1 nx1 cx1) := (World.cell?_of_block (a := ⟨w3.heap.size, 1, none⟩) (hc.block _ l7_2 (fun h => by have h1 := h.1; have h2 := h.2; simp only at h1 h2; omega))).trans c7_16
 have c8_17 : w8.cell? ⟨w3.heap.size, 2, none⟩ = some (.slice Ax2 nx2 cx2) := (World.cell?_of_block (a := ⟨w3.heap.size, 2, none⟩) (hc.block _ l7_2 (fun h => by have h1 := h.1; have h2 := h.2; simp only at h1 h2; omega))).trans c7_17
 have c8_18 : w8.cell? ⟨w3.heap.size, 3, none⟩ = some (.int .i64 zc_) := (World.cell?_of_block (a := ⟨w3.heap.size, 3, none⟩) (hc.block _ l7_2 (fun h => by have h1 := h.1; have h2 := h.2; simp only at h1 h2; omega))).trans c7_18
 have c8_19 : w8.cell? ⟨w3.heap.size, 4, none⟩ = some (.slice Ax3 nx3 cx3) := (World.cell?_of_block (a := ⟨w3.heap.size, 4, none⟩) (hc.block _ l7_2 (fun h => by have h1 := h.1; have h2 := h.2; simp only at h1 h2; omega))).trans c7_19
 have c8_20 : w8.cell? ⟨w3.heap.size, 5, none⟩ = some (.int .i64 za_) := (World.cell?_of_block (a := ⟨w3.heap.size, 5, none⟩) (hc.block _ l7_2 (fun h => by have h1 := h.1; have h2 := h.2; simp only at h1 h2; omega))).trans c7_20
 have c8_21 : w8.cell? ⟨w3.heap.size, 6, none⟩ = some (.slice Ax4 nx4 cx4) := (World.cell?_of_block (a := ⟨w3.heap.size, 6, none⟩) (hc.block _ l7_2 (fun h => by have h1 := h.1; have h2 := h.2; simp only at h1 h2; omega))).trans c7_21
 have c8_22 : w8.cell? ⟨w3.heap.size, 7, none⟩ = some (.bool zb_) := (World.cell?_of_block (a := ⟨w3.heap.size, 7, none⟩) (hc.block _ l7_2 (fun h => by have h1 := h.1; have h2 := h.2; simp only at h1 h2; omega))).trans c7_22
 have l8_0 : w.heap.size < w8.heap.size := Nat.lt_of_lt_of_le l7_0 hc.size
 have l8_1 : w.heap.size + 1 < w8.heap.size := Nat.lt_of_lt_of_le l7_1 hc.size
 have l8_2 : w3.heap.size < w8.heap.size := Nat.lt_of_lt_of_le l7_2 hc.size
 have X8 : Below w.heap.size w w8 := X7.trans (hc.below (fun k _ h => by have h1 := h.1; have h2 := h.2; omega) X7.size)
 have Dw_8 : Hid (hiw ≤ w8.heap.size ∧ IntsN w8 low hiw [.slice Aw rl.length cw] rl) := Lib.hid ⟨Nat.le_trans Dw_7.out.1 hc.size, IntsN.keep (fun k h1 h2 => hc.block k (Nat.lt_of_lt_of_le h2 Dw_7.out.1) (fun h => by have h3 := h.1; have h4 := h.2; omega)) hc.size _ _ Dw_7.out.2⟩
 have Dg_8 : Hid (hig ≤ w8.heap.size ∧ IntsN w8 log hig [.slice Ag rl.length cg] rl) := Lib.hid ⟨Nat.le_trans Dg_7.out.1 hc.size, IntsN.keep (fun k h1 h2 => hc.block k (Nat.lt_of_lt_of_le h2 Dg_7.out.1) (fun h => by have h3 := h.1; have h4 := h.2; omega)) hc.size _ _ Dg_7.out.2⟩
 clear Dx_7
 clear c7_0 c7_1 c7_2 c7_3 c7_4 c7_5 c7_6 c7_7 c7_8 c7_9 c7_10 c7_11 c7_12 c7_13 c7_14 c7_15 c7_16 c7_17 c7_18 c7_19 c7_20 c7_21 c7_22 l7_0 l7_1 l7_2 Dw_7 Dg_7 X7 hc
 have dk : decide ((1 : Int) + (nx0 : Int) + (nx1 : Int) + (nx2 : Int) + (nx3 : Int) * 5 + (nx4 : Int) * 5 < 0) = false := by simp <;> omega
 have dk2 : ¬ ((1 : Int) + (nx0 : Int) + (nx1 : Int) + (nx2 : Int) + (nx3 : Int) * 5 + (nx4 : Int) * 5 < 0) := by omega
 go_wp2_with fail
 refine (eqIntS_yes _ _ _ _ _ _ rl _ _ _ _ _ (IntsN.below (Below.refl _ _) Dg_8.out.1 _ _ Dg_8.out.2).p.1 (IntsN.below (Below.refl _ _) Dw_8.out.1 _ _ Dw_8.out.2).p.1).mono ?_
 rintro e w9 ⟨rfl, hb⟩
 have S9 : Below w8.heap.size w8 w9 := hb
 have c9_0 := (S9.cell l8_0).trans c8_0
 have c9_1 := (S9.cell l8_0).trans c8_1
 have c9_2 := (S9.cell l8_0).trans c8_2
 have c9_3 := (S9.cell l8_0).trans c8_3
 have c9_4 := (S9.cell l8_0).trans c8_4
 have c9_5 := (S9.cell l8_0).trans c8_5
 have c9_6 := (S9.cell l8_0).trans c8_6
 have c9_7 := (S9.cell l8_0).trans c8_7
 have c9_8 := (S9.cell l8_1).trans c8_8
 have c9_9 := (S9.cell l8_1).trans c8_9
 have c9_10 := (S9.cell l8_1).trans c8_10
 have c9_11 := (S9.cell l8_1).trans c8_11
 have c9_12 := (S9.cell l8_1).trans c8_12
 have c9_13 := (S9.cell l8_1).trans c8_13
 have c9_14 := (S9.cell l8_1).trans c8_14
 have c9_15 := (S9.cell l8_2).trans c8_15
 have c9_16 := (S9.cell l8_2).trans c8_16
 have c9_17 := (S9.cell l8_2).trans c8_17
 have c9_18 := (S9.cell l8_2).trans c8_18
 have c9_19 := (S9.cell l8_2).trans c8_19
 have c9_20 := (S9.cell l8_2).trans c8_20
 have c9_21 := (S9.cell l8_2).trans c8_21
 have c9_22 := (S9.cell l8_2).trans c8_22
 have l9_0 : w.heap.size < w9.heap.size := World.block_lt_of_cell? _ _ c9_0
 have l9_1 : w.heap.size + 1 < w9.heap.size := World.block_lt_of_cell? _ _ c9_8
 have l9_2 : w3.heap.size < w9.heap.size := World.block_lt_of_cell? _ _ c9_15
 have X9 : Below w.heap.size w w9 := X8.trans (S9.mono X8.size)
 have Dw_9 : Hid (hiw ≤ w9.heap.size ∧ IntsN w9 low hiw [.slice Aw rl.length cw] rl) := Lib.hid ⟨Nat.le_trans Dw_8.out.1 S9.size, IntsN.below S9 Dw_8.out.1 _ _ Dw_8.out.2⟩
 have Dg_9 : Hid (hig ≤ w9.heap.size ∧ IntsN w9 log hig [.slice Ag rl.length cg] rl) := Lib.hid ⟨Nat.le_trans Dg_8.out.1 S9.size, IntsN.below S9 Dg_8.out.1 _ _ Dg_8.out.2⟩
 clear c8_0 c8_1 c8_2 c8_3 c8_4 c8_5 c8_6 c8_7 c8_8 c8_9 c8_10 c8_11 c8_12 c8_13 c8_14 c8_15 c8_16 c8_17 c8_18 c8_19 c8_20 c8_21 c8_22 l8_0 l8_1 l8_2 Dw_8 Dg_8 X8 hb
 clear S9
 clear dk dk2
 go_wp2_with fail
 have hpg := Dg_9.out.2.p
 have hlh := Dg_9.out.1
 refine (markIntSW_any Ag rl.length cg 1 _ log hig hpg.2 (by omega) (by omega)).mono ?_
 rintro e w10 ⟨rfl, hm0, hw0, hc⟩
 have hc := hw0.chgIn hc; clear hw0 hpg
 have c10_0 : w10.cell? ⟨w.heap.size, 0, none⟩ = some (.slice Ap0 np0 cp0) := (World.cell?_of_block (a := ⟨w.heap.size, 0, none⟩) (hc.block _ l9_0 (fun h => by have h1 := h.1; have h2 := h.2; simp only at h1 h2; omega))).trans c9_0
 have c10_1 : w10.cell? ⟨w.heap.size, 1, none⟩ = some (.slice Ap1 np1 cp1) := (World.cell?_of_block (a := ⟨w.heap.size, 1, none⟩) (hc.block _ l9_0 (fun h => by have h1 := h.1; have h2 := h.2; simp only at h1 h2; omega))).trans c9_1
 have c10_2 : w10.cell? ⟨w.heap.size, 2, none⟩ = some (.slice Ap2 np2 cp2) := (World.cell?_of_block (a := ⟨w.heap.size, 2, none⟩) (hc.block _ l9_0 (fun h => by have h1 := h.1; have h2 := h.2; simp only at h1 h2; omega))).trans c9_2
 have c10_3 : w10.cell? ⟨w.heap.size, 3, none⟩ = some (.int .i64 zc_) := (World.cell?_of_block (a := ⟨w.heap.size, 3, none⟩) (hc.block _ l9_0 (fun h => by have h1 := h.1; have h2 := h.2; simp only at h1 h2; omega))).trans c9_3
 have c10_4 : w10.cell? ⟨w.heap.size, 4, none⟩ = some (.slice Ap3 np3 cp3) := (World.cell?_of_block (a := ⟨w.heap.size, 4, none⟩) (hc.block _ l9_0 (fun h => by have h1 := h.1; have h2 := h.2; simp only at h1 h2; omega))).trans c9_4
 have c10_5 : w10.cell? ⟨w.heap.size, 5, none⟩ = some (.int .i64 za_) := (World.cell?_of_block (a := ⟨w.heap.size, 5, none⟩) (hc.block _ l9_0 (fun h => by have h1 := h.1; have h2 := h.2; simp only at h1 h2; omega))).trans c9_5
 have c10_6 : w10.cell? ⟨w.heap.size, 6, none⟩ = some (.slice Ap4 np4 cp4) := (World.cell?_of_block (a := ⟨w.heap.size, 6, none⟩) (hc.block _ l9_0 (fun h => by have h1 := h.1; have h2 := h.2; simp only at h1 h2; omega))).trans c9_6
 have c10_7 : w10.cell? ⟨w.heap.size, 7, none⟩ = some (.bool zb_) := (World.cell?_of_block (a := ⟨w.heap.size, 7, none⟩) (hc.block _ l9_0 (fun h => by have h1 := h.1; have h2 := h.2; simp only at h1 h2; omega))).trans c9_7
 have c10_8 : w10.cell? ⟨w.heap.size + 1, 0, none⟩ = some (.int .i64 zf_) := (World.cell?_of_block (a := ⟨w.heap.size + 1, 0, none⟩) (hc.block _ l9_1 (fun h => by have h1 := h.1; have h2 := h.2; simp only at h1 h2; omega))).trans c9_8
 have c10_9 : w10.cell? ⟨w.heap.size + 1, 1, none⟩ = some (.int .i64 zg_) := (World.cell?_of_block (a := ⟨w.heap.size + 1, 1, none⟩) (hc.block _ l9_1 (fun h => by have h1 := h.1; have h2 := h.2; simp only at h1 h2; omega))).trans c9_9
 have c10_10 : w10.cell? ⟨w.heap.size + 1, 2, none⟩ = some (.int .i64 zi_) := (World.cell?_of_block (a := ⟨w.heap.size + 1, 2, none⟩) (hc.block _ l9_1 (fun h => by have h1 := h.1; have h2 := h.2; simp only at h1 h2; omega))).trans c9_10
 have c10_11 : w10.cell? ⟨w.heap.size + 1, 3, none⟩ = some (.int .i64 zj_) := (World.cell?_of_block (a := ⟨w.heap.size + 1, 3, none⟩) (hc.block _ l9_1 (fun h => by have h1 := h.1; have h2 := h.2; simp only at h1 h2; omega))).trans c9_11
 have c10_12 : w10.cell? ⟨w.heap.size + 1, 4, none⟩ = some (.int .i64 zh_) := (World.cell?_of_block (a := ⟨w.heap.size + 1, 4, none⟩) (hc.block _ l9_1 (fun h => by have h1 := h.1; have h2 := h.2; simp only at h1 h2; omega))).trans c9_12
 have c10_13 : w10.cell? ⟨w.heap.size + 1, 5, none⟩ = some (.int .i64 zd_) := (World.cell?_of_block (a := ⟨w.heap.size + 1, 5, none⟩) (hc.block _ l9_1 (fun h => by have h1 := h.1; have h2 := h.2; simp only at h1 h2; omega))).trans c9_13
 have c10_14 : w10.cell? ⟨w.heap.size + 1, 6, none⟩ = some (.int .i64 ze_) := (World.cell?_of_block (a := ⟨w.heap.size + 1, 6, none⟩) (hc.block _ l9_1 (fun h => by have h1 := h.1; have h2 := h.2; simp only at h1 h2; omega))).trans c9_14
 have c10_15 : w10.cell? ⟨w3.heap.size, 0, none⟩ = some (.slice Ax0 nx0 cx0) := (World.cell?_of_block (a := ⟨w3.heap.size, 0, none⟩) (hc.block _ l9_2 (fun h => by have h1 := h.1; have h2 := h.2; simp only at h1 h2; omega))).trans c9_15
 have c10_16 : w10.cell? ⟨w3.heap.size, 1, none⟩ = some (.slice Ax1 nx1 cx1) := (World.cell?_of_block (a := ⟨w3.heap.size, 1, none⟩) (hc.block _ l9_2 (fun h => by have h1 := h.1; have h2 := h.2; simp only at h1 h2; omega))).trans c9_16
 have c10_17 : w10.cell? ⟨w3.heap.size, 2, none⟩ = some (.slice Ax2 nx2 cx2) := (World.cell?_of_block (a := ⟨w3.heap.size, 2, none⟩) (hc.block _ l9_2 (fun h => by have h1 := h.1; have h2 := h.2; simp only at h1 h2; omega))).trans c9_17
 have c10_18 : w10.cell? ⟨w3.heap.size, 3, none⟩ = some (.int .i64 zc_) := (World.cell?_of_block (a := ⟨w3.heap.size, 3, none⟩) (hc.block _ l9_2 (fun h => by have h1 := h.1; have h2 := h.2; simp only at h1 h2; omega))).trans c9_18
 have c10_19 : w10.cell? ⟨w3.heap.size, 4, none⟩ = some (.slice Ax3 nx3 cx3) := (World.cell?_of_block (a := ⟨w3.heap.size, 4, none⟩) (hc.block _ l9_2 (fun h => by have h1 := h.1; have h2 := h.2; simp only at h1 h2; omega))).trans c9_19
 have c10_20 : w10.cell? ⟨w3.heap.size, 5, none⟩ = some (.int .i64 za_) := (World.cell?_of_block (a := ⟨w3.heap.size, 5, none⟩) (hc.block _ l9_2 (fun h => by have h1 := h.1; have h2 := h.2; simp only at h1 h2; omega))).trans c9_20
 have c10_21 : w10.cell? ⟨w3.heap.size, 6, none⟩ = some (.slice Ax4 nx4 cx4) := (World.cell?_of_block (a := ⟨w3.heap.size, 6, none⟩) (hc.block _ l9_2 (fun h => by have h1 := h.1; have h2 := h.2; simp only at h1 h2; omega))).trans c9_21
 have c10_22 : w10.cell? ⟨w3.heap.size, 7, none⟩ = some (.bool zb_) := (World.cell?_of_block (a := ⟨w3.heap.size, 7, none⟩) (hc.block _ l9_2 (fun h => by have h1 := h.1; have h2 := h.2; simp only at h1 h2; omega))).trans c9_22
 have l10_0 : w.heap.size < w10.heap.size := Nat.lt_of_lt_of_le l9_0 hc.size
 have l10_1 : w.heap.size + 1 < w10.heap.size := Nat.lt_of_lt_of_le l9_1 hc.size
 have l10_2 : w3.heap.size < w10.heap.size := Nat.lt_of_lt_of_le l9_2 hc.size
 have X10 : Below w.heap.size w w10 := X9.trans (hc.below (fun k _ h => by have h1 := h.1; have h2 := h.2; omega) X9.size)
 have Dw_10 : Hid (hiw ≤ w10.heap.size ∧ IntsN w10 low hiw [.slice Aw rl.length cw] rl) := Lib.hid ⟨Nat.le_trans Dw_9.out.1 hc.size, IntsN.keep (fun k h1 h2 => hc.block k (Nat.lt_of_lt_of_le h2 Dw_9.out.1) (fun h => by have h3 := h.1; have h4 := h.2; omega)) hc.size _ _ Dw_9.out.2⟩
 clear Dg_9
 have Mg_10 : Hid (hig ≤ w10.heap.size ∧ MarkedAt w10 KIntS (1) Ag (rl.length)) := Lib.hid ⟨Nat.le_trans hlh hc.size, hm0⟩
 clear c9_0 c9_1 c9_2 c9_3 c9_4 c9_5 c9_6 c9_7 c9_8 c9_9 c9_10 c9_11 c9_12 c9_13 c9_14 c9_15 c9_16 c9_17 c9_18 c9_19 c9_20 c9_21 c9_22 l9_0 l9_1 l9_2 Dw_9 X9 hc
 go_wp2_with fail
 refine (heldIntSW_any Ag rl.length cg 1 _ (Mg_10.out.2.below (Below.refl _ _)) (by omega) (by omega)).mono ?_
 rintro e w11 ⟨rfl, hb⟩
 have S11 : Below w10.heap.size w10 w11 := hb
 have c11_0 := (S11.cell l10_0).trans c10_0
 have c11_1 := (S11.cell l10_0).trans c10_1
 have c11_2 := (S11.cell l10_0).trans c10_2
 have c11_3 := (S11.cell l10_0).trans c10_3
 have c11_4 := (S11.cell l10_0).trans c10_4
 have c11_5 := (S11.cell l10_0).trans c10_5
 have c11_6 := (S11.cell l10_0).trans c10_6
 have c11_7 := (S11.cell l10_0).trans c10_7
 have c11_8 := (S11.cell l10_1).trans c10_8
 have c11_9 := (S11.cell l10_1).trans c10_9
 have c11_10 := (S11.cell l10_1).trans c10_10
 have c11_11 := (S11.cell l10_1).trans c10_11
 have c11_12 := (S11.cell l10_1).trans c10_12
 have c11_13 := (S11.cell l10_1).trans c10_13
 have c11_14 := (S11.cell l10_1).trans c10_14
 have c11_15 := (S11.cell l10_2).trans c10_15
 have c11_16 := (S11.cell l10_2).trans c10_16
 have c11_17 := (S11.cell l10_2).trans c10_17
 have c11_18 := (S11.cell l10_2).trans c10_18
 have c11_19 := (S11.cell l10_2).trans c10_19
 have c11_20 := (S11.cell l10_2).trans c10_20
 have c11_21 := (S11.cell l10_2).trans c10_21
 have c11_22 := (S11.cell l10_2).trans c10_22
 have l11_0 : w.heap.size < w11.heap.size := World.block_lt_of_cell? _ _ c11_0
 have l11_1 : w.heap.size + 1 < w11.heap.size := World.block_lt_of_cell? _ _ c11_8
 have l11_2 : w3.heap.size < w11.heap.size := World.block_lt_of_cell? _ _ c11_15
 have X11 : Below w.heap.size w w11 := X10.trans (S11.mono X10.size)
 have Dw_11 : Hid (hiw ≤ w11.heap.size ∧ IntsN w11 low hiw [.slice Aw rl.length cw] rl) := Lib.hid ⟨Nat.le_trans Dw_10.out.1 S11.size, IntsN.below S11 Dw_10.out.1 _ _ Dw_10.out.2⟩
 have Mg_11 : Hid (hig ≤ w11.heap.size ∧ MarkedAt w11 KIntS (1) Ag (rl.length)) := Lib.hid ⟨Nat.le_trans Mg_10.out.1 S11.size, (Mg_10.out.2).below S11⟩
 clear c10_0 c10_1 c10_2 c10_3 c10_4 c10_5 c10_6 c10_7 c10_8 c10_9 c10_10 c10_11 c10_12 c10_13 c10_14 c10_15 c10_16 c10_17 c10_18 c10_19 c10_20 c10_21 c10_22 l10_0 l10_1 l10_2 Dw_10 Mg_10 X10 hb
 clear S11
 have dk : decide ((1 : Int) + ((rl.length : Nat) : Int) < 0) = false := by simp <;> omega
 have dk2 : ¬ ((1 : Int) + ((rl.length : Nat) : Int) < 0) := by omega
 have dk3 : ((1 : Int) + ((rl.length : Nat) : Int) != (1 : Int) + ((rl.length : Nat) : Int)) = false := by simp
 go_wp2_with fail
 clear dk dk2 dk3
 obtain ⟨loh, hloh⟩ : ∃ x, x = w11.heap.size := ⟨_, rfl⟩
 have hlqh := Lib.hid hloh
 have ozh_13 : w.heap.size < loh := by have := l11_0; omega
 have ozh_14 : w.heap.size + 1 < loh := by have := l11_1; omega
 have ozh_15 : w3.heap.size < loh := by have := l11_2; omega
 have ozh_16 : hiw ≤ loh := by have := Dw_11.out.1; omega
 have ozh_17 : hig ≤ loh := by have := Mg_11.out.1; omega
 have ozh_w : w.heap.size ≤ loh := by have := X11.size; omega
 clear hloh
 apply wp_region_rg (by kernel_rfl) (false :: false :: false :: false :: false :: false :: false :: false :: false :: false :: false :: false :: false :: false :: true :: true :: false :: false :: false :: false :: false :: false :: false :: false :: false :: false :: false :: false :: false :: false :: false :: false :: false :: false :: false :: false :: false :: false :: false :: false :: false :: false :: false :: false :: false :: false :: false :: false :: false :: false :: false :: false :: false :: false :: false :: false :: false :: false :: false :: false :: false :: false :: false :: false :: false :: false :: false :: false :: false :: false :: false :: false :: false :: false :: false :: false :: false :: false :: false :: true :: true :: true :: true :: true :: true :: true :: true :: false :: false :: false :: false :: false :: false :: false :: false :: false :: false :: false :: false :: false :: false :: false :: false :: false :: []) [some 80, some 81, some 82, some 83, some 84, some 79, some 85, some 86, some 14, some 15] [[], [0], [], [2], [1, 3], [4], [5], [5], [6], [7]] [StP.is _, (StoreR.stp (zm_, (zo_, zn_), zc_, zl_, za_, zk_, zb_)), StP.is _, StP.is _, (ListT loh rl rb), (ListT loh rl rb), (ListV loh rl), StP.is _, (ListV loh rl), StP.is _] (by kernel_rfl)
 case hobs =>
  refine ⟨fun y w' hS hF K hK => ?_, ?_⟩
  · skip
    simp only [fillL, cond_true, cond_false, zG0, zG1, StP.is, Act.put, zS2, zS0, zS1, Nat.reduceAdd] at hK ⊢
    refine rg_yes (by kernel_rfl) ?_
    have qx0_ := (Below.cell hS l11_0).trans c11_0
    have qx1_ := (Below.cell hS l11_0).trans c11_1
    have qx2_ := (Below.cell hS l11_0).trans c11_2
    have qx3_ := (Below.cell hS l11_0).trans c11_3
    have qx4_ := (Below.cell hS l11_0).trans c11_4
    have qx5_ := (Below.cell hS l11_0).trans c11_5
    have qx6_ := (Below.cell hS l11_0).trans c11_6
    have qx7_ := (Below.cell hS l11_0).trans c11_7
    have qx8_ := (Below.cell hS l11_1).trans c11_8
    have qx9_ := (Below.cell hS l11_1).trans c11_9
    have qx10_ := (Below.cell hS l11_1).trans c11_10
    have qx11_ := (Below.cell hS l11_1).trans c11_11
    have qx12_ := (Below.cell hS l11_1).trans c11_12
    have qx13_ := (Below.cell hS l11_1).trans c11_13
    have qx14_ := (Below.cell hS l11_1).trans c11_14
    have qx15_ := (Below.cell hS l11_2).trans c11_15
    have qx16_ := (Below.cell hS l11_2).trans c11_16
    have qx17_ := (Below.cell hS l11_2).trans c11_17
    have qx18_ := (Below.cell hS l11_2).trans c11_18
    have qx19_ := (Below.cell hS l11_2).trans c11_19
    have qx20_ := (Below.cell hS l11_2).trans c11_20
    have qx21_ := (Below.cell hS l11_2).trans c11_21
    have qx22_ := (Below.cell hS l11_2).trans c11_22
    clear hF
    go_simp
    exact hK _ _ (Ext.refl _) rfl
  refine ⟨fun y w' hS hF K hK => ?_, ?_⟩
  · skip
    have e80 : y 80 = _ := hF.1
    simp only [fillL, cond_true, cond_false, zG0, zG1, StP.is, Act.put, zS2, zS0, zS1, Nat.reduceAdd, e80] at hK ⊢
    refine rg_yes (by kernel_rfl) ?_
    clear e80
    clear hF
    go_simp
    go_at_call 9
    refine (toStoreW_any _ (zm_, (zo_, zn_), zc_, zl_, za_, zk_, zb_) _ 0 w.heap.size (StoreR.below (X11.trans (Below.mono hS X11.size)) (Nat.le_refl _) _ _ PA.out) HZ.out).mono ?_
    rintro e w'' ⟨cs, rfl, hr, hb⟩
    exact hK _ _ hb ⟨cs, _, _, rfl, Nat.le_refl _, hr.r⟩
  refine ⟨fun y w' hS hF K hK => ?_, ?_⟩
  · skip
    simp only [fillL, cond_true, cond_false, zG0, zG1, StP.is, Act.put, zS2, zS0, zS1, Nat.reduceAdd] at hK ⊢
    refine rg_yes (by kernel_rfl) ?_
    have qx0_ := (Below.cell hS l11_0).trans c11_0
    have qx1_ := (Below.cell hS l11_0).trans c11_1
    have qx2_ := (Below.cell hS l11_0).trans c11_2
    have qx3_ := (Below.cell hS l11_0).trans c11_3
    have qx4_ := (Below.cell hS l11_0).trans c11_4
    have qx5_ := (Below.cell hS l11_0).trans c11_5
    have qx6_ := (Below.cell hS l11_0).trans c11_6
    have qx7_ := (Below.cell hS l11_0).trans c11_7
    have qx8_ := (Below.cell hS l11_1).trans c11_8
    have qx9_ := (Below.cell hS l11_1).trans c11_9
    have qx10_ := (Below.cell hS l11_1).trans c11_10
    have qx11_ := (Below.cell hS l11_1).trans c11_11
    have qx12_ := (Below.cell hS l11_1).trans c11_12
    have qx13_ := (Below.cell hS l11_1).trans c11_13
    have qx14_ := (Below.cell hS l11_1).trans c11_14
    have qx15_ := (Below.cell hS l11_2).trans c11_15
    have qx16_ := (Below.cell hS l11_2).trans c11_16
    have qx17_ := (Below.cell hS l11_2).trans c11_17
    have qx18_ := (Below.cell hS l11_2).trans c11_18
    have qx19_ := (Below.cell hS l11_2).trans c11_19
    have qx20_ := (Below.cell hS l11_2).trans c11_20
    have qx21_ := (Below.cell hS l11_2).trans c11_21
    have qx22_ := (Below.cell hS l11_2).trans c11_22
    clear hF
    go_simp
    exact hK _ _ (Ext.refl _) rfl
  refine ⟨fun y w' hS hF K hK => ?_, ?_⟩
  · skip
    have e82 : y 82 = _ := hF.1
    simp only [fillL, cond_true, cond_false, zG0, zG1, StP.is, Act.put, zS2, zS0, zS1, Nat.reduceAdd, e82] at hK ⊢
    refine rg_yes (by kernel_rfl) ?_
    clear e82
    clear hF
    go_simp
    go_at_call 10
    refine (toTreeF_any [.int .i64 zf_, .int .i64 zg_, .int .i64 zi_, .int .i64 zj_, .int .i64 zh_, .int .i64 zd_, .int .i64 ze_] ((zf_, zg_, zi_, zj_, zh_), zd_, ze_) _ w 0 0 rfl).mono ?_
    rintro e w'' ⟨rfl, hb⟩
    exact hK _ _ hb rfl
  refine ⟨fun y w' hS hF K hK => ?_, ?_⟩
  · skip
    obtain ⟨cs81_, lo81_, hi81_, e81, hh81_, R81_⟩ := hF.1
    have e83 : y 83 = _ := hF.2.1
    simp only [fillL, cond_true, cond_false, zG0, zG1, StP.is, Act.put, zS2, zS0, zS1, Nat.reduceAdd, e81, e83] at hK ⊢
    refine rg_yes (by kernel_rfl) ?_
    clear e81 e83
    clear hF
    go_simp
    go_at_call 11
    refine (tableList_any _ (zm_, (zo_, zn_), zc_, zl_, za_, zk_, zb_) zf_ zg_ zi_ zj_ zh_ zd_ ze_ _ (HE.out.below (X11.trans (Below.mono hS X11.size))) _ _ R81_ hh81_ (by have := HZ.out; unfold sizeStore at this; unfold SmallS; simp only at this ⊢; constructor <;> omega)).mono ?_
    intro e w'' hG
    obtain ⟨A_, c_, S_, rfl, hO_, hS_, hb⟩ := hG.list HRL.out HRB.out
    exact hK _ _ hb ⟨A_, c_, S_, rfl, hO_, fun g hg => Nat.le_trans (by rw [hlqh.out]; exact hS.size) (hS_ g hg)⟩
  refine ⟨fun y w' hS hF K hK => ?_, ?_⟩
  · skip
    obtain ⟨A84_, c84_, S84_, e84, hO84_, hS84_⟩ := hF.1
    simp only [fillL, cond_true, cond_false, zG0, zG1, StP.is, Act.put, zS2, zS0, zS1, Nat.reduceAdd, e84] at hK ⊢
    refine rg_yes (by kernel_rfl) ?_
    clear e84
    clear hF
    go_simp
    exact hK _ _ (Ext.refl _) ⟨A84_, c84_, S84_, rfl, hO84_, hS84_⟩
  refine ⟨fun y w' hS hF K hK => ?_, ?_⟩
  · skip
    obtain ⟨A79_, c79_, S79_, e79, hO79_, hS79_⟩ := hF.1
    simp only [fillL, cond_true, cond_false, zG0, zG1, StP.is, Act.put, zS2, zS0, zS1, Nat.reduceAdd, e79] at hK ⊢
    refine rg_yes (by kernel_rfl) ?_
    clear e79
    clear hF
    go_simp
    exact hK _ _ (Ext.refl _) ⟨A79_, c79_, S79_, rfl, hO79_, hS79_⟩
  refine ⟨fun y w' hS hF K hK => ?_, ?_⟩
  · skip
    obtain ⟨A79_, c79_, S79_, e79, hO79_, hS79_⟩ := hF.1
    simp only [fillL, cond_true, cond_false, zG0, zG1, StP.is, Act.put, zS2, zS0, zS1, Nat.reduceAdd, e79] at hK ⊢
    refine rg_yes (by kernel_rfl) ?_
    clear e79
    clear hF
    go_simp
    exact hK _ _ (Ext.refl _) rfl
  refine ⟨fun y w' hS hF K hK => ?_, ?_⟩
  · skip
    obtain ⟨A85_, c85_, S85_, e85, hO85_, hS85_⟩ := hF.1
    simp only [fillL, cond_true, cond_false, zG0, zG1, StP.is, Act.put, zS2, zS0, zS1, Nat.reduceAdd, e85] at hK ⊢
    refine rg_yes (by kernel_rfl) ?_
    clear e85
    clear hF
    go_simp
    exact hK _ _ (Ext.refl _) ⟨A85_, c85_, S85_, rfl, hO85_, hS85_⟩
  refine ⟨fun y w' hS hF K hK => ?_, ?_⟩
  · skip
    have e86 : y 86 = _ := hF.1
    simp only [fillL, cond_true, cond_false, zG0, zG1, StP.is, Act.put, zS2, zS0, zS1, Nat.reduceAdd, e86] at hK ⊢
    refine rg_yes (by kernel_rfl) ?_
    clear e86
    clear hF
    go_simp
    exact hK _ _ (Ext.refl _) rfl
  trivial
 intro y w12 hX hF
 obtain ⟨Ah, ch, Sh_, e14, hO_, hS_⟩ := hF.2.2.2.2.2.2.2.2.1
 have e15 : y 15 = _ := hF.2.2.2.2.2.2.2.2.2.1
 clear hF
 simp only [fillL, cond_true, cond_false, Nat.reduceAdd, e14, e15]
 clear e14 e15
 have hr := IntsN.of hO_ hS_; clear hO_ hS_
 have S12 : Below w11.heap.size w11 w12 := hX
 have c12_0 := (S12.cell l11_0).trans c11_0
 have c12_1 := (S12.cell l11_0).trans c11_1
 have c12_2 := (S12.cell l11_0).trans c11_2
 have c12_3 := (S12.cell l11_0).trans c11_3
 have c12_4 := (S12.cell l11_0).trans c11_4
 have c12_5 := (S12.cell l11_0).trans c11_5
 have c12_6 := (S12.cell l11_0).trans c11_6
 have c12_7 := (S12.cell l11_0).trans c11_7
 have c12_8 := (S12.cell l11_1).trans c11_8
 have c12_9 := (S12.cell l11_1).trans c11_9
 have c12_10 := (S12.cell l11_1).trans c11_10
 have c12_11 := (S12.cell l11_1).trans c11_11
 have c12_12 := (S12.cell l11_1).trans c11_12
 have c12_13 := (S12.cell l11_1).trans c11_13
 have c12_14 := (S12.cell l11_1).trans c11_14
 have c12_15 := (S12.cell l11_2).trans c11_15
 have c12_16 := (S12.cell l11_2).trans c11_16
 have c12_17 := (S12.cell l11_2).trans c11_17
 have c12_18 := (S12.cell l11_2).trans c11_18
 have c12_19 := (S12.cell l11_2).trans c11_19
 have c12_20 := (S12.cell l11_2).trans c11_20
 have c12_21 := (S12.cell l11_2).trans c11_21
 have c12_22 := (S12.cell l11_2).trans c11_22
 have l12_0 : w.heap.size < w12.heap.size := World.block_lt_of_cell? _ _ c12_0
 have l12_1 : w.heap.size + 1 < w12.heap.size := World.block_lt_of_cell? _ _ c12_8
 have l12_2 : w3.heap.size < w12.heap.size := World.block_lt_of_cell? _ _ c12_15
 have X12 : Below w.heap.size w w12 := X11.trans (S12.mono X11.size)
 have Dw_12 : Hid (hiw ≤ w12.heap.size ∧ IntsN w12 low hiw [.slice Aw rl.length cw] rl) := Lib.hid ⟨Nat.le_trans Dw_11.out.1 S12.size, IntsN.below S12 Dw_11.out.1 _ _ Dw_11.out.2⟩
 have Mg_12 : Hid (hig ≤ w12.heap.size ∧ MarkedAt w12 KIntS (1) Ag (rl.length)) := Lib.hid ⟨Nat.le_trans Mg_11.out.1 S12.size, (Mg_11.out.2).below S12⟩
 clear c11_0 c11_1 c11_2 c11_3 c11_4 c11_5 c11_6 c11_7 c11_8 c11_9 c11_10 c11_11 c11_12 c11_13 c11_14 c11_15 c11_16 c11_17 c11_18 c11_19 c11_20 c11_21 c11_22 l11_0 l11_1 l11_2 Dw_11 Mg_11 X11 hX
 clear S12
 obtain ⟨hih, hhih⟩ : ∃ x, x = w12.heap.size := ⟨_, rfl⟩
 rw [← hhih] at hr
 have hhlh : hih ≤ w12.heap.size := Nat.le_of_eq hhih; clear hhih
 have Dh_12 := Lib.hid (And.intro hhlh hr); clear hr hhlh hlqh
 go_wp2_with fail
 go_wp2_with fail
 refine (eqIntS_yes _ _ _ _ _ _ rl _ _ _ _ _ (IntsN.below (Below.refl _ _) Dh_12.out.1 _ _ Dh_12.out.2).p.1 (IntsN.below (Below.refl _ _) Dw_12.out.1 _ _ Dw_12.out.2).p.1).mono ?_
 rintro e w13 ⟨rfl, hb⟩
 have S13 : Below w12.heap.size w12 w13 := hb
 have c13_0 := (S13.cell l12_0).trans c12_0
 have c13_1 := (S13.cell l12_0).trans c12_1
 have c13_2 := (S13.cell l12_0).trans c12_2
 have c13_3 := (S13.cell l12_0).trans c12_3
 have c13_4 := (S13.cell l12_0).trans c12_4
 have c13_5 := (S13.cell l12_0).trans c12_5
 have c13_6 := (S13.cell l12_0).trans c12_6
 have c13_7 := (S13.cell l12_0).trans c12_7
 have c13_8 := (S13.cell l12_1).trans c12_8
 have c13_9 := (S13.cell l12_1).trans c12_9
 have c13_10 := (S13.cell l12_1).trans c12_10
 have c13_11 := (S13.cell l12_1).trans c12_11
 have c13_12 := (S13.cell l12_1).trans c12_12
 have c13_13 := (S13.cell l12_1).trans c12_13
 have c13_14 := (S13.cell l12_1).trans c12_14
 have c13_15 := (S13.cell l12_2).trans c12_15
 have c13_16 := (S13.cell l12_2).trans c12_16
 have c13_17 := (S13.cell l12_2).trans c12_17
 have c13_18 := (S13.cell l12_2).trans c12_18
 have c13_19 := (S13.cell l12_2).trans c12_19
 have c13_20 := (S13.cell l12_2).trans c12_20
 have c13_21 := (S13.cell l12_2).trans c12_21
 have c13_22 := (S13.cell l12_2).trans c12_22
 have l13_0 : w.heap.size < w13.heap.size := World.block_lt_of_cell? _ _ c13_0
 have l13_1 : w.heap.size + 1 < w13.heap.size := World.block_lt_of_cell? _ _ c13_8
 have l13_2 : w3.heap.size < w13.heap.size := World.block_lt_of_cell? _ _ c13_15
 have X13 : Below w.heap.size w w13 := X12.trans (S13.mono X12.size)
 have Dw_13 : Hid (hiw ≤ w13.heap.size ∧ IntsN w13 low hiw [.slice Aw rl.length cw] rl) := Lib.hid ⟨Nat.le_trans Dw_12.out.1 S13.size, IntsN.below S13 Dw_12.out.1 _ _ Dw_12.out.2⟩
 have Dh_13 : Hid (hih ≤ w13.heap.size ∧ IntsN w13 loh hih [.slice Ah rl.length ch] rl) := Lib.hid ⟨Nat.le_trans Dh_12.out.1 S13.size, IntsN.below S13 Dh_12.out.1 _ _ Dh_12.out.2⟩
 have Mg_13 : Hid (hig ≤ w13.heap.size ∧ MarkedAt w13 KIntS (1) Ag (rl.length)) := Lib.hid ⟨Nat.le_trans Mg_12.out.1 S13.size, (Mg_12.out.2).below S13⟩
 clear c12_0 c12_1 c12_2 c12_3 c12_4 c12_5 c12_6 c12_7 c12_8 c12_9 c12_10 c12_11 c12_12 c12_13 c12_14 c12_15 c12_16 c12_17 c12_18 c12_19 c12_20 c12_21 c12_22 l12_0 l12_1 l12_2 Dw_12 Dh_12 Mg_12 X12 hb
 clear S13
 go_wp2_with fail
 refine (heldIntSW_any Ag rl.length cg 1 _ (Mg_13.out.2.below (Below.refl _ _)) (by omega) (by omega)).mono ?_
 rintro e w14 ⟨rfl, hb⟩
 have S14 : Below w13.heap.size w13 w14 := hb
 have c14_0 := (S14.cell l13_0).trans c13_0
 have c14_1 := (S14.cell l13_0).trans c13_1
 have c14_2 := (S14.cell l13_0).trans c13_2
 have c14_3 := (S14.cell l13_0).trans c13_3
 have c14_4 := (S14.cell l13_0).trans c13_4
 have c14_5 := (S14.cell l13_0).trans c13_5
 have c14_6 := (S14.cell l13_0).trans c13_6
 have c14_7 := (S14.cell l13_0).trans c13_7
 have c14_8 := (S14.cell l13_1).trans c13_8
 have c14_9 := (S14.cell l13_1).trans c13_9
 have c14_10 := (S14.cell l13_1).trans c13_10
 have c14_11 := (S14.cell l13_1).trans c13_11
 have c14_12 := (S14.cell l13_1).trans c13_12
 have c14_13 := (S14.cell l13_1).trans c13_13
 have c14_14 := (S14.cell l13_1).trans c13_14
 have c14_15 := (S14.cell l13_2).trans c13_15
 have c14_16 := (S14.cell l13_2).trans c13_16
 have c14_17 := (S14.cell l13_2).trans c13_17
 have c14_18 := (S14.cell l13_2).trans c13_18
 have c14_19 := (S14.cell l13_2).trans c13_19
 have c14_20 := (S14.cell l13_2).trans c13_20
 have c14_21 := (S14.cell l13_2).trans c13_21
 have c14_22 := (S14.cell l13_2).trans c13_22
 have l14_0 : w.heap.size < w14.heap.size := World.block_lt_of_cell? _ _ c14_0
 have l14_1 : w.heap.size + 1 < w14.heap.size := World.block_lt_of_cell? _ _ c14_8
 have l14_2 : w3.heap.size < w14.heap.size := World.block_lt_of_cell? _ _ c14_15
 have X14 : Below w.heap.size w w14 := X13.trans (S14.mono X13.size)
 have Dw_14 : Hid (hiw ≤ w14.heap.size ∧ IntsN w14 low hiw [.slice Aw rl.length cw] rl) := Lib.hid ⟨Nat.le_trans Dw_13.out.1 S14.size, IntsN.below S14 Dw_13.out.1 _ _ Dw_13.out.2⟩
 have Dh_14 : Hid (hih ≤ w14.heap.size ∧ IntsN w14 loh hih [.slice Ah rl.length ch] rl) := Lib.hid ⟨Nat.le_trans Dh_13.out.1 S14.size, IntsN.below S14 Dh_13.out.1 _ _ Dh_13.out.2⟩
 have Mg_14 : Hid (hig ≤ w14.heap.size ∧ MarkedAt w14 KIntS (1) Ag (rl.length)) := Lib.hid ⟨Nat.le_trans Mg_13.out.1 S14.size, (Mg_13.out.2).below S14⟩
 clear c13_0 c13_1 c13_2 c13_3 c13_4 c13_5 c13_6 c13_7 c13_8 c13_9 c13_10 c13_11 c13_12 c13_13 c13_14 c13_15 c13_16 c13_17 c13_18 c13_19 c13_20 c13_21 c13_22 l13_0 l13_1 l13_2 Dw_13 Dh_13 Mg_13 X13 hb
 clear S14
 have dk : decide ((1 : Int) + ((rl.length : Nat) : Int) < 0) = false := by simp <;> omega
 have dk2 : ¬ ((1 : Int) + ((rl.length : Nat) : Int) < 0) := by omega
 have dk3 : ((1 : Int) + ((rl.length : Nat) : Int) != (1 : Int) + ((rl.length : Nat) : Int)) = false := by simp
 go_wp2_with fail
 go_ret
 exact ⟨rfl, X14⟩
end Go.Proofs.YtjnhiiaejeaikaaGreatDoor
