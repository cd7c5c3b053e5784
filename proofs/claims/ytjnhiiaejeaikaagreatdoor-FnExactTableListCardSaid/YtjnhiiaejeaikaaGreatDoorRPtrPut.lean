/- PtrPut both: the text of a pointer. Condition: the table of powers of ten lies as its initialiser lays it. -/
import Derived.Test.YtjnhiiaejeaikaaGreatDoorRNum
set_option linter.unnecessarySimpa false
set_option linter.unusedSimpArgs false
set_option linter.unusedVariables false
namespace Go.Proofs.YtjnhiiaejeaikaaGreatDoor
open Go Go.Lib Go.RowKit
def newLit (B : Nat) (T : TypeId) (cur : Array Value) (n : Nat) : StP := ⟨fun v w => ∃ g : Nat, v = .slice (some ⟨g, 0, none⟩) n n ∧ w.heap[g]? = some (.cells cur T (0, 0)) ∧ B ≤ g, fun _ _ _ he ⟨g, e, hg, hB⟩ => ⟨g, e, (Below.block he g (Array.getElem?_eq_some_iff.1 hg).1).trans hg, hB⟩⟩
def TextR (t : Str) (w : World) (e : Ending) (w' : World) : Prop := e = .returned (.string (strB t)) ∧ Below w.heap.size w w'
theorem join_str (x1 x2 x3 x4 x5 : Str) : strB x1 ++ ⟨#[46]⟩ ++ strB x2 ++ ⟨#[46]⟩ ++ strB x3 ++ ⟨#[46]⟩ ++ strB x4 ++ ⟨#[46]⟩ ++ strB x5 = strB (join [x1, x2, x3, x4, x5] [46]) := by
 rw [join5]
 show strB x1 ++ strB [46] ++ strB x2 ++ strB [46] ++ strB x3 ++ strB [46] ++ strB x4 ++ strB [46] ++ strB x5 = _
 simp only [strB_app]
set_option maxRecDepth 100000 in
set_option maxHeartbeats 4000000 in
theorem spPtrPut_any (a b s m l : Int) (w : World) :
 Calls Tryz.prog 95 #[ptrV a b s m l] w (TextR (ptrS a b s m l) w) := by
 show Calls Tryz.prog 95 #[.agg #[.int .i64 a, .int .i64 b, .int .i64 s, .int .i64 m, .int .i64 l]] w _
 go_enter Tryz.func95, Tryz.ntmps95
 go_wp2_with fail
 refine (spPtrOk_any a b s m l _).mono ?_
 rintro e w1 ⟨rfl, hb1⟩
 have HB1 := bel1.trans (hb1.mono (by simp))
 have c1_0 : w1.cell? ⟨w.heap.size, 0, none⟩ = some (.int .i64 a) := (hb1.cell (by simp)).trans (by simp [go_sem])
 have c1_1 : w1.cell? ⟨w.heap.size, 1, none⟩ = some (.int .i64 b) := (hb1.cell (by simp)).trans (by simp [go_sem])
 have c1_2 : w1.cell? ⟨w.heap.size, 2, none⟩ = some (.int .i64 s) := (hb1.cell (by simp)).trans (by simp [go_sem])
 have c1_3 : w1.cell? ⟨w.heap.size, 3, none⟩ = some (.int .i64 m) := (hb1.cell (by simp)).trans (by simp [go_sem])
 have c1_4 : w1.cell? ⟨w.heap.size, 4, none⟩ = some (.int .i64 l) := (hb1.cell (by simp)).trans (by simp [go_sem])
 have l1 : w.heap.size < w1.heap.size := World.block_lt_of_cell? w1 _ c1_0
 clear hb1
 obtain ⟨ok, hok⟩ : ∃ ok, ok = ptrOkB a b s m l := ⟨_, rfl⟩
 have HOK := Lib.hid hok.symm
 rw [← hok]
 clear hok
 cases ok
 · go_wp2_with fail
   go_ret
   exact ⟨ret_str (by rw [ptrS_no HOK.out]; rfl), HB1⟩
 go_wp2_with fail
 refine (spPtrHole_any a b s m l _).mono ?_
 rintro e w2 ⟨rfl, hb2⟩
 have HB2 := HB1.trans (hb2.mono HB1.size)
 have c2_0 := (hb2.cell l1).trans c1_0
 have c2_1 := (hb2.cell l1).trans c1_1
 have c2_2 := (hb2.cell l1).trans c1_2
 have c2_3 := (hb2.cell l1).trans c1_3
 have c2_4 := (hb2.cell l1).trans c1_4
 have l2 : w.heap.size < w2.heap.size := World.block_lt_of_cell? w2 _ c2_0
 clear hb2 c1_0 c1_1 c1_2 c1_3 c1_4 l1 HB1
 obtain ⟨hole, hhole⟩ : ∃ x, x = ptrHole a b s m l := ⟨_, rfl⟩
 have HHO := Lib.hid hhole.symm
 rw [← hhole]
 clear hhole
 cases hole
 case true =>
  go_wp2_with fail
  go_ret
  exact ⟨ret_str (by rw [ptrS_hole HOK.out HHO.out]; rfl), HB2⟩
 obtain ⟨⟨ha1, ha2⟩, ⟨hb1, hb2⟩, ⟨hs1, hs2⟩, ⟨hm1, hm2⟩, hl1, hl2⟩ := ptr_bounds HOK.out HHO.out
 obtain ⟨a, rfl⟩ : ∃ x : Nat, a = (x : Int) := ⟨a.toNat, by omega⟩
 obtain ⟨b, rfl⟩ : ∃ x : Nat, b = (x : Int) := ⟨b.toNat, by omega⟩
 obtain ⟨s, rfl⟩ : ∃ x : Nat, s = (x : Int) := ⟨s.toNat, by omega⟩
 obtain ⟨m, rfl⟩ : ∃ x : Nat, m = (x : Int) := ⟨m.toNat, by omega⟩
 obtain ⟨l, rfl⟩ : ∃ x : Nat, l = (x : Int) := ⟨l.toNat, by omega⟩
 have HS : Hid (ptrS (a : Int) (b : Int) (s : Int) (m : Int) (l : Int) = join [decDigits a, decDigits b, decDigits s, decDigits m, decDigits l] [46]) := Lib.hid (by rw [ptrS_yes HOK.out HHO.out]; simp)
 have na : a ≤ 999999999 := by omega
 have nb : b ≤ 999999999 := by omega
 have ns : s ≤ 999999999 := by omega
 have nm : m ≤ 999999999 := by omega
 have nl : l ≤ 999999999 := by omega
 clear ha1 ha2 hb1 hb2 hs1 hs2 hm1 hm2 hl1 hl2 HOK HHO
 have z1 : (strB (decDigits a)).size ≤ 9 := dec_len9 na
 have z2 : (strB (decDigits b)).size ≤ 9 := dec_len9 nb
 have z3 : (strB (decDigits s)).size ≤ 9 := dec_len9 ns
 have z4 : (strB (decDigits m)).size ≤ 9 := dec_len9 nm
 have z5 : (strB (decDigits l)).size ≤ 9 := dec_len9 nl
 have HJ := Lib.hid (join_str (decDigits a) (decDigits b) (decDigits s) (decDigits m) (decDigits l))
 go_wp2_with fail
 apply wp_region_rg (by kernel_rfl) (false :: false :: true :: false :: false :: false :: false :: false :: true :: true :: true :: true :: true :: true :: true :: true :: true :: true :: true :: true :: true :: true :: true :: true :: true :: true :: true :: true :: true :: true :: true :: []) (some 8 :: some 9 :: some 10 :: some 11 :: some 12 :: some 13 :: some 14 :: some 15 :: some 16 :: some 17 :: some 18 :: some 19 :: some 20 :: some 21 :: some 22 :: some 23 :: some 24 :: some 25 :: some 26 :: some 27 :: some 28 :: some 29 :: some 30 :: some 2 :: []) ([] :: [0] :: [1] :: [2] :: [] :: [4] :: [5] :: [3, 6] :: [7] :: [] :: [9] :: [10] :: [8, 11] :: [12] :: [] :: [14] :: [15] :: [13, 16] :: [17] :: [] :: [19] :: [20] :: [18, 21] :: [22] :: []) (StP.is _ :: StP.is _ :: StP.is _ :: StP.is _ :: StP.is _ :: StP.is _ :: StP.is _ :: StP.is _ :: StP.is _ :: StP.is _ :: StP.is _ :: StP.is _ :: StP.is _ :: StP.is _ :: StP.is _ :: StP.is _ :: StP.is _ :: StP.is _ :: StP.is _ :: StP.is _ :: StP.is _ :: StP.is _ :: StP.is _ :: StP.is _ :: []) (by kernel_rfl)
 case hobs =>
  refine ⟨fun y w' hS hF K hK => ?_, ?_⟩
  · skip
    simp only [fillL, cond_true, cond_false, zG0, zG1, StP.is, Act.put, zS2, zS0, zS1, Nat.reduceAdd] at hK ⊢
    refine rg_yes (by kernel_rfl) ?_
    clear hF
    go_simp
    exact hK _ _ (Ext.refl _) rfl
  refine ⟨fun y w' hS hF K hK => ?_, ?_⟩
  · skip
    have e8 : y 8 = _ := hF.1
    simp only [fillL, cond_true, cond_false, zG0, zG1, StP.is, Act.put, zS2, zS0, zS1, Nat.reduceAdd, e8] at hK ⊢
    refine rg_yes (by kernel_rfl) ?_
    have qx0_ := (Below.cell hS l2).trans c2_0
    have qx1_ := (Below.cell hS l2).trans c2_1
    have qx2_ := (Below.cell hS l2).trans c2_2
    have qx3_ := (Below.cell hS l2).trans c2_3
    have qx4_ := (Below.cell hS l2).trans c2_4
    clear e8
    clear hF
    go_simp
    exact hK _ _ (Ext.refl _) rfl
  refine ⟨fun y w' hS hF K hK => ?_, ?_⟩
  · skip
    have e9 : y 9 = _ := hF.1
    simp only [fillL, cond_true, cond_false, zG0, zG1, StP.is, Act.put, zS2, zS0, zS1, Nat.reduceAdd, e9] at hK ⊢
    refine rg_yes (by kernel_rfl) ?_
    clear e9
    clear hF
    go_simp
    go_at_call 94
    refine (l6Dec_any a (by omega) _).mono ?_
    rintro e w'' ⟨rfl, hb9⟩
    exact hK _ _ hb9 rfl
  refine ⟨fun y w' hS hF K hK => ?_, ?_⟩
  · skip
    have e10 : y 10 = _ := hF.1
    simp only [fillL, cond_true, cond_false, zG0, zG1, StP.is, Act.put, zS2, zS0, zS1, Nat.reduceAdd, e10] at hK ⊢
    refine rg_yes (by kernel_rfl) ?_
    clear e10
    clear hF
    go_simp
    rw [if_neg (by omega)]
    go_simp
    exact hK _ _ (Ext.refl _) rfl
  refine ⟨fun y w' hS hF K hK => ?_, ?_⟩
  · skip
    simp only [fillL, cond_true, cond_false, zG0, zG1, StP.is, Act.put, zS2, zS0, zS1, Nat.reduceAdd] at hK ⊢
    refine rg_yes (by kernel_rfl) ?_
    clear hF
    go_simp
    exact hK _ _ (Ext.refl _) rfl
  refine ⟨fun y w' hS hF K hK => ?_, ?_⟩
  · skip
    have e12 : y 12 = _ := hF.1
    simp only [fillL, cond_true, cond_false, zG0, zG1, StP.is, Act.put, zS2, zS0, zS1, Nat.reduceAdd, e12] at hK ⊢
    refine rg_yes (by kernel_rfl) ?_
    have qx0_ := (Below.cell hS l2).trans c2_0
    have qx1_ := (Below.cell hS l2).trans c2_1
    have qx2_ := (Below.cell hS l2).trans c2_2
    have qx3_ := (Below.cell hS l2).trans c2_3
    have qx4_ := (Below.cell hS l2).trans c2_4
    clear e12
    clear hF
    go_simp
    exact hK _ _ (Ext.refl _) rfl
  refine ⟨fun y w' hS hF K hK => ?_, ?_⟩
  · skip
    have e13 : y 13 = _ := hF.1
    simp only [fillL, cond_true, cond_false, zG0, zG1, StP.is, Act.put, zS2, zS0, zS1, Nat.reduceAdd, e13] at hK ⊢
    refine rg_yes (by kernel_rfl) ?_
    clear e13
    clear hF
    go_simp
    go_at_call 94
    refine (l6Dec_any b (by omega) _).mono ?_
    rintro e w'' ⟨rfl, hb9⟩
    exact hK _ _ hb9 rfl
  refine ⟨fun y w' hS hF K hK => ?_, ?_⟩
  · skip
    have e11 : y 11 = _ := hF.1
    have e14 : y 14 = _ := hF.2.1
    simp only [fillL, cond_true, cond_false, zG0, zG1, StP.is, Act.put, zS2, zS0, zS1, Nat.reduceAdd, e11, e14] at hK ⊢
    refine rg_yes (by kernel_rfl) ?_
    clear e11 e14
    clear hF
    go_simp
    rw [if_neg (by omega)]
    go_simp
    exact hK _ _ (Ext.refl _) rfl
  refine ⟨fun y w' hS hF K hK => ?_, ?_⟩
  · skip
    have e15 : y 15 = _ := hF.1
    simp only [fillL, cond_true, cond_false, zG0, zG1, StP.is, Act.put, zS2, zS0, zS1, Nat.reduceAdd, e15] at hK ⊢
    refine rg_yes (by kernel_rfl) ?_
    clear e15
    clear hF
    go_simp
    rw [if_neg (by omega)]
    go_simp
    exact hK _ _ (Ext.refl _) rfl
  refine ⟨fun y w' hS hF K hK => ?_, ?_⟩
  · skip
    simp only [fillL, cond_true, cond_false, zG0, zG1, StP.is, Act.put, zS2, zS0, zS1, Nat.reduceAdd] at hK ⊢
    refine rg_yes (by kernel_rfl) ?_
    clear hF
    go_simp
    exact hK _ _ (Ext.refl _) rfl
  refine ⟨fun y w' hS hF K hK => ?_, ?_⟩
  · skip
    have e17 : y 17 = _ := hF.1
    simp only [fillL, cond_true, cond_false, zG0, zG1, StP.is, Act.put, zS2, zS0, zS1, Nat.reduceAdd, e17] at hK ⊢
    refine rg_yes (by kernel_rfl) ?_
    have qx0_ := (Below.cell hS l2).trans c2_0
    have qx1_ := (Below.cell hS l2).trans c2_1
    have qx2_ := (Below.cell hS l2).trans c2_2
    have qx3_ := (Below.cell hS l2).trans c2_3
    have qx4_ := (Below.cell hS l2).trans c2_4
    clear e17
    clear hF
    go_simp
    exact hK _ _ (Ext.refl _) rfl
  refine ⟨fun y w' hS hF K hK => ?_, ?_⟩
  · skip
    have e18 : y 18 = _ := hF.1
    simp only [fillL, cond_true, cond_false, zG0, zG1, StP.is, Act.put, zS2, zS0, zS1, Nat.reduceAdd, e18] at hK ⊢
    refine rg_yes (by kernel_rfl) ?_
    clear e18
    clear hF
    go_simp
    go_at_call 94
    refine (l6Dec_any s (by omega) _).mono ?_
    rintro e w'' ⟨rfl, hb9⟩
    exact hK _ _ hb9 rfl
  refine ⟨fun y w' hS hF K hK => ?_, ?_⟩
  · skip
    have e16 : y 16 = _ := hF.1
    have e19 : y 19 = _ := hF.2.1
    simp only [fillL, cond_true, cond_false, zG0, zG1, StP.is, Act.put, zS2, zS0, zS1, Nat.reduceAdd, e16, e19] at hK ⊢
    refine rg_yes (by kernel_rfl) ?_
    clear e16 e19
    clear hF
    go_simp
    rw [if_neg (by omega)]
    go_simp
    exact hK _ _ (Ext.refl _) rfl
  refine ⟨fun y w' hS hF K hK => ?_, ?_⟩
  · skip
    have e20 : y 20 = _ := hF.1
    simp only [fillL, cond_true, cond_false, zG0, zG1, StP.is, Act.put, zS2, zS0, zS1, Nat.reduceAdd, e20] at hK ⊢
    refine rg_yes (by kernel_rfl) ?_
    clear e20
    clear hF
    go_simp
    rw [if_neg (by omega)]
    go_simp
    exact hK _ _ (Ext.refl _) rfl
  refine ⟨fun y w' hS hF K hK => ?_, ?_⟩
  · skip
    simp only [fillL, cond_true, cond_false, zG0, zG1, StP.is, Act.put, zS2, zS0, zS1, Nat.reduceAdd] at hK ⊢
    refine rg_yes (by kernel_rfl) ?_
    clear hF
    go_simp
    exact hK _ _ (Ext.refl _) rfl
  refine ⟨fun y w' hS hF K hK => ?_, ?_⟩
  · skip
    have e22 : y 22 = _ := hF.1
    simp only [fillL, cond_true, cond_false, zG0, zG1, StP.is, Act.put, zS2, zS0, zS1, Nat.reduceAdd, e22] at hK ⊢
    refine rg_yes (by kernel_rfl) ?_
    have qx0_ := (Below.cell hS l2).trans c2_0
    have qx1_ := (Below.cell hS l2).trans c2_1
    have qx2_ := (Below.cell hS l2).trans c2_2
    have qx3_ := (Below.cell hS l2).trans c2_3
    have qx4_ := (Below.cell hS l2).trans c2_4
    clear e22
    clear hF
    go_simp
    exact hK _ _ (Ext.refl _) rfl
  refine ⟨fun y w' hS hF K hK => ?_, ?_⟩
  · skip
    have e23 : y 23 = _ := hF.1
    simp only [fillL, cond_true, cond_false, zG0, zG1, StP.is, Act.put, zS2, zS0, zS1, Nat.reduceAdd, e23] at hK ⊢
    refine rg_yes (by kernel_rfl) ?_
    clear e23
    clear hF
    go_simp
    go_at_call 94
    refine (l6Dec_any m (by omega) _).mono ?_
    rintro e w'' ⟨rfl, hb9⟩
    exact hK _ _ hb9 rfl
  refine ⟨fun y w' hS hF K hK => ?_, ?_⟩
  · skip
    have e21 : y 21 = _ := hF.1
    have e24 : y 24 = _ := hF.2.1
    simp only [fillL, cond_true, cond_false, zG0, zG1, StP.is, Act.put, zS2, zS0, zS1, Nat.reduceAdd, e21, e24] at hK ⊢
    refine rg_yes (by kernel_rfl) ?_
    clear e21 e24
    clear hF
    go_simp
    rw [if_neg (by omega)]
    go_simp
    exact hK _ _ (Ext.refl _) rfl
  refine ⟨fun y w' hS hF K hK => ?_, ?_⟩
  · skip
    have e25 : y 25 = _ := hF.1
    simp only [fillL, cond_true, cond_false, zG0, zG1, StP.is, Act.put, zS2, zS0, zS1, Nat.reduceAdd, e25] at hK ⊢
    refine rg_yes (by kernel_rfl) ?_
    clear e25
    clear hF
    go_simp
    rw [if_neg (by omega)]
    go_simp
    exact hK _ _ (Ext.refl _) rfl
  refine ⟨fun y w' hS hF K hK => ?_, ?_⟩
  · skip
    simp only [fillL, cond_true, cond_false, zG0, zG1, StP.is, Act.put, zS2, zS0, zS1, Nat.reduceAdd] at hK ⊢
    refine rg_yes (by kernel_rfl) ?_
    clear hF
    go_simp
    exact hK _ _ (Ext.refl _) rfl
  refine ⟨fun y w' hS hF K hK => ?_, ?_⟩
  · skip
    have e27 : y 27 = _ := hF.1
    simp only [fillL, cond_true, cond_false, zG0, zG1, StP.is, Act.put, zS2, zS0, zS1, Nat.reduceAdd, e27] at hK ⊢
    refine rg_yes (by kernel_rfl) ?_
    have qx0_ := (Below.cell hS l2).trans c2_0
    have qx1_ := (Below.cell hS l2).trans c2_1
    have qx2_ := (Below.cell hS l2).trans c2_2
    have qx3_ := (Below.cell hS l2).trans c2_3
    have qx4_ := (Below.cell hS l2).trans c2_4
    clear e27
    clear hF
    go_simp
    exact hK _ _ (Ext.refl _) rfl
  refine ⟨fun y w' hS hF K hK => ?_, ?_⟩
  · skip
    have e28 : y 28 = _ := hF.1
    simp only [fillL, cond_true, cond_false, zG0, zG1, StP.is, Act.put, zS2, zS0, zS1, Nat.reduceAdd, e28] at hK ⊢
    refine rg_yes (by kernel_rfl) ?_
    clear e28
    clear hF
    go_simp
    go_at_call 94
    refine (l6Dec_any l (by omega) _).mono ?_
    rintro e w'' ⟨rfl, hb9⟩
    exact hK _ _ hb9 rfl
  refine ⟨fun y w' hS hF K hK => ?_, ?_⟩
  · skip
    have e26 : y 26 = _ := hF.1
    have e29 : y 29 = _ := hF.2.1
    simp only [fillL, cond_true, cond_false, zG0, zG1, StP.is, Act.put, zS2, zS0, zS1, Nat.reduceAdd, e26, e29] at hK ⊢
    refine rg_yes (by kernel_rfl) ?_
    clear e26 e29
    clear hF
    go_simp
    rw [if_neg (by omega)]
    go_simp
    exact hK _ _ (Ext.refl _) rfl
  refine ⟨fun y w' hS hF K hK => ?_, ?_⟩
  · skip
    have e30 : y 30 = _ := hF.1
    simp only [fillL, cond_true, cond_false, zG0, zG1, StP.is, Act.put, zS2, zS0, zS1, Nat.reduceAdd, e30] at hK ⊢
    refine rg_yes (by kernel_rfl) ?_
    clear e30
    clear hF
    go_simp
    exact hK _ _ (Ext.refl _) rfl
  trivial
 intro y w9 hS9 hF
 have e2 : y 2 = _ := hF.2.2.2.2.2.2.2.2.2.2.2.2.2.2.2.2.2.2.2.2.2.2.2.1
 clear hF
 simp only [fillL, cond_true, cond_false, Nat.reduceAdd, e2]
 clear e2
 have HB9 : Below w.heap.size w w9 := HB2.trans (Below.mono hS9 HB2.size)
 go_wp2_with fail
 go_ret
 exact ⟨ret_str (by rw [HS.out, ← HJ.out]), HB9⟩
def partsC (q : Nat) : Array Value := #[.pointer (some ⟨q, 0, none⟩), .pointer (some ⟨q, 1, none⟩), .pointer (some ⟨q, 2, none⟩), .pointer (some ⟨q, 3, none⟩), .pointer (some ⟨q, 4, none⟩)]
def PartsR (q : Nat) (w : World) (e : Ending) (w' : World) : Prop := ∃ g : Nat, e = .returned (.slice (some ⟨g, 0, none⟩) 5 5) ∧ w'.heap[g]? = some (.cells (partsC q) 114 (0, 0)) ∧ w.heap.size ≤ g ∧ Below w.heap.size w w'
set_option maxRecDepth 100000 in
set_option maxHeartbeats 4000000 in
theorem parts_any (q : Nat) (w : World) (a b s m l : Value) (hq : w.heap[q]? = some (.cells #[a, b, s, m, l] 41 (0, 0))) : Calls Tryz.prog 120 #[.pointer (some ⟨q, 0, none⟩)] w (PartsR q w) := by
 have hlq : q < w.heap.size := (Array.getElem?_eq_some_iff.1 hq).1
 go_enter Tryz.func120, Tryz.ntmps120
 go_wp2_with fail
 apply wp_region_rg (by kernel_rfl) (false :: false :: true :: true :: true :: true :: true :: true :: true :: true :: true :: true :: true :: true :: true :: true :: true :: true :: true :: []) (some 3 :: some 4 :: some 5 :: some 6 :: some 7 :: some 8 :: some 9 :: some 10 :: some 11 :: some 12 :: some 13 :: some 14 :: some 15 :: some 16 :: some 17 :: some 18 :: some 2 :: []) ([] :: [0] :: [1] :: [] :: [3] :: [4] :: [] :: [6] :: [7] :: [] :: [9] :: [10] :: [] :: [12] :: [13] :: [2, 5, 8, 11, 14] :: [15] :: []) (StP.is _ :: StP.is _ :: StP.is _ :: StP.is _ :: StP.is _ :: StP.is _ :: StP.is _ :: StP.is _ :: StP.is _ :: StP.is _ :: StP.is _ :: StP.is _ :: StP.is _ :: StP.is _ :: StP.is _ :: newLit w.heap.size 114 (partsC q) 5 :: newLit w.heap.size 114 (partsC q) 5 :: []) (by kernel_rfl)
 case hobs =>
  refine ⟨fun y w' hS hF K hK => ?_, ?_⟩
  · skip
    simp only [fillL, cond_true, cond_false, zG0, zG1, StP.is, Act.put, zS2, zS0, zS1, Nat.reduceAdd] at hK ⊢
    refine rg_yes (by kernel_rfl) ?_
    clear hF
    go_simp
    exact hK _ _ (Ext.refl _) rfl
  refine ⟨fun y w' hS hF K hK => ?_, ?_⟩
  · skip
    have e3 : y 3 = _ := hF.1
    simp only [fillL, cond_true, cond_false, zG0, zG1, StP.is, Act.put, zS2, zS0, zS1, Nat.reduceAdd, e3] at hK ⊢
    refine rg_yes (by kernel_rfl) ?_
    clear e3
    clear hF
    go_simp
    exact hK _ _ (Ext.refl _) rfl
  refine ⟨fun y w' hS hF K hK => ?_, ?_⟩
  · skip
    have e4 : y 4 = _ := hF.1
    simp only [fillL, cond_true, cond_false, zG0, zG1, StP.is, Act.put, zS2, zS0, zS1, Nat.reduceAdd, e4] at hK ⊢
    refine rg_yes (by kernel_rfl) ?_
    clear e4
    clear hF
    go_simp
    exact hK _ _ (Ext.refl _) rfl
  refine ⟨fun y w' hS hF K hK => ?_, ?_⟩
  · skip
    simp only [fillL, cond_true, cond_false, zG0, zG1, StP.is, Act.put, zS2, zS0, zS1, Nat.reduceAdd] at hK ⊢
    refine rg_yes (by kernel_rfl) ?_
    clear hF
    go_simp
    exact hK _ _ (Ext.refl _) rfl
  refine ⟨fun y w' hS hF K hK => ?_, ?_⟩
  · skip
    have e6 : y 6 = _ := hF.1
    simp only [fillL, cond_true, cond_false, zG0, zG1, StP.is, Act.put, zS2, zS0, zS1, Nat.reduceAdd, e6] at hK ⊢
    refine rg_yes (by kernel_rfl) ?_
    clear e6
    clear hF
    go_simp
    exact hK _ _ (Ext.refl _) rfl
  refine ⟨fun y w' hS hF K hK => ?_, ?_⟩
  · skip
    have e7 : y 7 = _ := hF.1
    simp only [fillL, cond_true, cond_false, zG0, zG1, StP.is, Act.put, zS2, zS0, zS1, Nat.reduceAdd, e7] at hK ⊢
    refine rg_yes (by kernel_rfl) ?_
    clear e7
    clear hF
    go_simp
    exact hK _ _ (Ext.refl _) rfl
  refine ⟨fun y w' hS hF K hK => ?_, ?_⟩
  · skip
    simp only [fillL, cond_true, cond_false, zG0, zG1, StP.is, Act.put, zS2, zS0, zS1, Nat.reduceAdd] at hK ⊢
    refine rg_yes (by kernel_rfl) ?_
    clear hF
    go_simp
    exact hK _ _ (Ext.refl _) rfl
  refine ⟨fun y w' hS hF K hK => ?_, ?_⟩
  · skip
    have e9 : y 9 = _ := hF.1
    simp only [fillL, cond_true, cond_false, zG0, zG1, StP.is, Act.put, zS2, zS0, zS1, Nat.reduceAdd, e9] at hK ⊢
    refine rg_yes (by kernel_rfl) ?_
    clear e9
    clear hF
    go_simp
    exact hK _ _ (Ext.refl _) rfl
  refine ⟨fun y w' hS hF K hK => ?_, ?_⟩
  · skip
    have e10 : y 10 = _ := hF.1
    simp only [fillL, cond_true, cond_false, zG0, zG1, StP.is, Act.put, zS2, zS0, zS1, Nat.reduceAdd, e10] at hK ⊢
    refine rg_yes (by kernel_rfl) ?_
    clear e10
    clear hF
    go_simp
    exact hK _ _ (Ext.refl _) rfl
  refine ⟨fun y w' hS hF K hK => ?_, ?_⟩
  · skip
    simp only [fillL, cond_true, cond_false, zG0, zG1, StP.is, Act.put, zS2, zS0, zS1, Nat.reduceAdd] at hK ⊢
    refine rg_yes (by kernel_rfl) ?_
    clear hF
    go_simp
    exact hK _ _ (Ext.refl _) rfl
  refine ⟨fun y w' hS hF K hK => ?_, ?_⟩
  · skip
    have e12 : y 12 = _ := hF.1
    simp only [fillL, cond_true, cond_false, zG0, zG1, StP.is, Act.put, zS2, zS0, zS1, Nat.reduceAdd, e12] at hK ⊢
    refine rg_yes (by kernel_rfl) ?_
    clear e12
    clear hF
    go_simp
    exact hK _ _ (Ext.refl _) rfl
  refine ⟨fun y w' hS hF K hK => ?_, ?_⟩
  · skip
    have e13 : y 13 = _ := hF.1
    simp only [fillL, cond_true, cond_false, zG0, zG1, StP.is, Act.put, zS2, zS0, zS1, Nat.reduceAdd, e13] at hK ⊢
    refine rg_yes (by kernel_rfl) ?_
    clear e13
    clear hF
    go_simp
    exact hK _ _ (Ext.refl _) rfl
  refine ⟨fun y w' hS hF K hK => ?_, ?_⟩
  · skip
    simp only [fillL, cond_true, cond_false, zG0, zG1, StP.is, Act.put, zS2, zS0, zS1, Nat.reduceAdd] at hK ⊢
    refine rg_yes (by kernel_rfl) ?_
    clear hF
    go_simp
    exact hK _ _ (Ext.refl _) rfl
  refine ⟨fun y w' hS hF K hK => ?_, ?_⟩
  · skip
    have e15 : y 15 = _ := hF.1
    simp only [fillL, cond_true, cond_false, zG0, zG1, StP.is, Act.put, zS2, zS0, zS1, Nat.reduceAdd, e15] at hK ⊢
    refine rg_yes (by kernel_rfl) ?_
    clear e15
    clear hF
    go_simp
    exact hK _ _ (Ext.refl _) rfl
  refine ⟨fun y w' hS hF K hK => ?_, ?_⟩
  · skip
    have e16 : y 16 = _ := hF.1
    simp only [fillL, cond_true, cond_false, zG0, zG1, StP.is, Act.put, zS2, zS0, zS1, Nat.reduceAdd, e16] at hK ⊢
    refine rg_yes (by kernel_rfl) ?_
    clear e16
    clear hF
    go_simp
    exact hK _ _ (Ext.refl _) rfl
  refine ⟨fun y w' hS hF K hK => ?_, ?_⟩
  · skip
    have e5 : y 5 = _ := hF.1
    have e8 : y 8 = _ := hF.2.1
    have e11 : y 11 = _ := hF.2.2.1
    have e14 : y 14 = _ := hF.2.2.2.1
    have e17 : y 17 = _ := hF.2.2.2.2.1
    simp only [fillL, cond_true, cond_false, zG0, zG1, StP.is, Act.put, zS2, zS0, zS1, Nat.reduceAdd, e5, e8, e11, e14, e17] at hK ⊢
    refine rg_yes (by kernel_rfl) ?_
    clear e5 e8 e11 e14 e17
    clear hF
    go_simp
    exact hK _ _ (Ext.alloc _ _) ⟨_, rfl, heap_alloc_new _ _, hS.size⟩
  refine ⟨fun y w' hS hF K hK => ?_, ?_⟩
  · skip
    obtain ⟨g, e18, hg, hgB⟩ := hF.1
    simp only [fillL, cond_true, cond_false, zG0, zG1, StP.is, Act.put, zS2, zS0, zS1, Nat.reduceAdd, e18] at hK ⊢
    refine rg_yes (by kernel_rfl) ?_
    clear e18
    clear hF
    go_simp
    exact hK _ _ (Ext.refl _) ⟨_, rfl, hg, hgB⟩
  trivial
 intro y w9 hS9 hF
 obtain ⟨g, e2, hg, hgB⟩ := hF.2.2.2.2.2.2.2.2.2.2.2.2.2.2.2.2.1
 clear hF
 simp only [fillL, cond_true, cond_false, Nat.reduceAdd, e2]
 clear e2
 go_wp2_with fail
 go_ret
 exact ⟨g, rfl, hg, hgB, hS9⟩
set_option maxRecDepth 100000 in
set_option maxHeartbeats 4000000 in
theorem ptrPut_any (a b s m l : Int) (w : World) (ht : Tab w) :
 Calls Tryz.prog 121 #[ptrV a b s m l] w (TextR (ptrS a b s m l) w) := by
 show Calls Tryz.prog 121 #[.agg #[.int .i64 a, .int .i64 b, .int .i64 s, .int .i64 m, .int .i64 l]] w _
 go_enter Tryz.func121, Tryz.ntmps121
 go_wp2_with fail
 refine (ptrOk_any a b s m l _).mono ?_
 rintro e w1 ⟨rfl, hb1⟩
 have HB1 := bel1.trans (hb1.mono (by simp))
 have c1_0 : w1.cell? ⟨w.heap.size, 0, none⟩ = some (.int .i64 a) := (hb1.cell (by simp)).trans (by simp [go_sem])
 have c1_1 : w1.cell? ⟨w.heap.size, 1, none⟩ = some (.int .i64 b) := (hb1.cell (by simp)).trans (by simp [go_sem])
 have c1_2 : w1.cell? ⟨w.heap.size, 2, none⟩ = some (.int .i64 s) := (hb1.cell (by simp)).trans (by simp [go_sem])
 have c1_3 : w1.cell? ⟨w.heap.size, 3, none⟩ = some (.int .i64 m) := (hb1.cell (by simp)).trans (by simp [go_sem])
 have c1_4 : w1.cell? ⟨w.heap.size, 4, none⟩ = some (.int .i64 l) := (hb1.cell (by simp)).trans (by simp [go_sem])
 have l1 : w.heap.size < w1.heap.size := World.block_lt_of_cell? w1 _ c1_0
 have h1b := (hb1.block _ (by simp)).trans (heap_alloc_new w (.cells #[.int .i64 a, .int .i64 b, .int .i64 s, .int .i64 m, .int .i64 l] 41))
 clear hb1
 obtain ⟨ok, hok⟩ : ∃ ok, ok = ptrOkB a b s m l := ⟨_, rfl⟩
 have HOK := Lib.hid hok.symm
 rw [← hok]
 clear hok
 cases ok
 · go_wp2_with fail
   go_ret
   exact ⟨ret_str (by rw [ptrS_no HOK.out]; rfl), HB1⟩
 go_wp2_with fail
 refine (ptrHole_any a b s m l _).mono ?_
 rintro e w2 ⟨rfl, hb2⟩
 have HB2 := HB1.trans (hb2.mono HB1.size)
 have c2_0 := (hb2.cell l1).trans c1_0
 have c2_1 := (hb2.cell l1).trans c1_1
 have c2_2 := (hb2.cell l1).trans c1_2
 have c2_3 := (hb2.cell l1).trans c1_3
 have c2_4 := (hb2.cell l1).trans c1_4
 have l2 : w.heap.size < w2.heap.size := World.block_lt_of_cell? w2 _ c2_0
 have h2b := (hb2.block _ l1).trans h1b
 clear h1b hb2 c1_0 c1_1 c1_2 c1_3 c1_4 l1 HB1
 obtain ⟨hole, hhole⟩ : ∃ x, x = ptrHole a b s m l := ⟨_, rfl⟩
 have HHO := Lib.hid hhole.symm
 rw [← hhole]
 clear hhole
 cases hole
 case true =>
  go_wp2_with fail
  go_ret
  exact ⟨ret_str (by rw [ptrS_hole HOK.out HHO.out]; rfl), HB2⟩
 obtain ⟨⟨ha1, ha2⟩, ⟨hb1, hb2⟩, ⟨hs1, hs2⟩, ⟨hm1, hm2⟩, hl1, hl2⟩ := ptr_bounds HOK.out HHO.out
 obtain ⟨a, rfl⟩ : ∃ x : Nat, a = (x : Int) := ⟨a.toNat, by omega⟩
 obtain ⟨b, rfl⟩ : ∃ x : Nat, b = (x : Int) := ⟨b.toNat, by omega⟩
 obtain ⟨s, rfl⟩ : ∃ x : Nat, s = (x : Int) := ⟨s.toNat, by omega⟩
 obtain ⟨m, rfl⟩ : ∃ x : Nat, m = (x : Int) := ⟨m.toNat, by omega⟩
 obtain ⟨l, rfl⟩ : ∃ x : Nat, l = (x : Int) := ⟨l.toNat, by omega⟩
 have HS : Hid (ptrS (a : Int) (b : Int) (s : Int) (m : Int) (l : Int) = join [decDigits a, decDigits b, decDigits s, decDigits m, decDigits l] [46]) := Lib.hid (by rw [ptrS_yes HOK.out HHO.out]; simp)
 have na : a ≤ 999999999 := by omega
 have nb : b ≤ 999999999 := by omega
 have ns : s ≤ 999999999 := by omega
 have nm : m ≤ 999999999 := by omega
 have nl : l ≤ 999999999 := by omega
 clear ha1 ha2 hb1 hb2 hs1 hs2 hm1 hm2 hl1 hl2 HOK HHO
 obtain ⟨i0, hi0, hz0, hz1, hz2⟩ := info_parts info_strs
 go_wp2_with fail
 refine (parts_any w.heap.size w2 _ _ _ _ _ h2b).mono ?_
 rintro e w3 ⟨g, rfl, hg, hgB, hb3⟩
 have HB3 := HB2.trans (hb3.mono HB2.size)
 have l3 : w.heap.size < w3.heap.size := Nat.lt_of_lt_of_le l2 hb3.size
 have c3_0 := (hb3.cell l2).trans c2_0
 have c3_1 := (hb3.cell l2).trans c2_1
 have c3_2 := (hb3.cell l2).trans c2_2
 have c3_3 := (hb3.cell l2).trans c2_3
 have c3_4 := (hb3.cell l2).trans c2_4
 have l3g : g < w3.heap.size := (Array.getElem?_eq_some_iff.1 hg).1
 have HG := Lib.hid hg
 have HX : Hid (∀ j, j < 5 → ∃ n : Nat, [a, b, s, m, l][j]? = some n ∧ n ≤ 999999999 ∧ w3.cell? ⟨w.heap.size, j, none⟩ = some (.int .i64 (n : Int)) ∧ w3.cell? ⟨g, j, none⟩ = some (.pointer (some ⟨w.heap.size, j, none⟩))) := Lib.hid (by
  intro j hj
  have hx : j = 0 ∨ j = 1 ∨ j = 2 ∨ j = 3 ∨ j = 4 := by omega
  rcases hx with rfl | rfl | rfl | rfl | rfl
  · exact ⟨a, rfl, na, c3_0, celR 0 hg⟩
  · exact ⟨b, rfl, nb, c3_1, celR 1 hg⟩
  · exact ⟨s, rfl, ns, c3_2, celR 2 hg⟩
  · exact ⟨m, rfl, nm, c3_3, celR 3 hg⟩
  · exact ⟨l, rfl, nl, c3_4, celR 4 hg⟩)
 have HT3 := Lib.hid (ht.below HB3)
 clear hg hb3 c2_0 c2_1 c2_2 c2_3 c2_4 c3_0 c3_1 c3_2 c3_3 c3_4 h2b l2 HB2 ht
 go_wp2_with fail
 go_loopw [3, 15] (fun t i wr => ∃ (j : Nat) (A : Option Addr) (n c : Nat), i = .int .i64 (j : Int) ∧ j ≤ 5 ∧ t = .slice A n c ∧ n = j ∧ Hid (StrsIn w3.heap.size wr A c (([a, b, s, m, l].map decDigits).take j)) ∧ Hid (Below w3.heap.size w3 wr)) (fun _ i _ => 5 - (RowKit.intOf i).toNat)
 case atStart => exact ⟨0, none, 0, 0, rfl, by omega, rfl, rfl, Lib.hid StrsIn.nil, Lib.hid (Below.refl _ _)⟩
 obtain ⟨j, A, n, c, rfl, hj, rfl, hnj, HI, HB⟩ := hrel
 subst hnj
 by_cases hlt : n < 5
 · have hd : ((n : Nat) : Int) < 5 := by omega
   obtain ⟨x, hx, hx9, hcx, hcp⟩ := HX.out n hlt
   have hcx : wr.cell? ⟨w.heap.size, n, none⟩ = some (.int .i64 (x : Int)) := (HB.out.cell l3).trans hcx
   have hcp : wr.cell? ⟨g, n, none⟩ = some (.pointer (some ⟨w.heap.size, n, none⟩)) := (HB.out.cell l3g).trans hcp
   have hw3 : w3.heap.size ≤ wr.heap.size := HB.out.size
   have HTr := Lib.hid (HT3.out.below HB.out)
   have HXX := Lib.hid hx
   clear hx
   go_wp2_with fail
   refine (numPut_any (x : Int) wr HTr.out).mono ?_
   rintro e w4 ⟨rfl, hb4⟩
   have HN : Hid (numS (x : Int) = decDigits x) := Lib.hid (by rw [numS_yes (by omega)]; simp)
   have hI4 := HI.out.below hb4
   have HB4 : Below w3.heap.size w3 w4 := HB.out.trans (hb4.mono hw3)
   clear hb4 hcx hcp
   obtain ⟨S, hOS, hSB⟩ := hI4
   have hlen : ((([a, b, s, m, l].map decDigits).take n)).length = n := by simp; omega
   rw [hlen] at hOS
   obtain ⟨gs, hgs⟩ : ∃ gs, gs = (([a, b, s, m, l].map decDigits).take n) := ⟨_, rfl⟩
   rw [← hgs] at hOS hlen
   have HGS := Lib.hid hgs
   clear hgs
   have HOA := Lib.hid (hOS.below (bel1 (o := .cells #[.string (strB (numS (x : Int)))] 9)))
   have HLIT := Lib.hid (fun (W : World) => RowAt.lit (w := W) (e := 9) (cur := #[.string (strB (numS (x : Int)))]) (m := 1) rfl)
   have HONE : Hid (∀ u ∈ [numS (x : Int)].map strV, u.oneCell' = true) := Lib.hid (strs_one _)
   have HSB := Lib.hid hSB
   have HB4' := Lib.hid HB4
   clear hOS hSB HB4 HB HI
   go_wp2_with (at_builtin; go_must (refine wpList_append_row rfl _ _ 22 rfl 9 i0 (.string ByteArray.empty) 1 16 Tryz.underlying22 hi0 hz0 hz1 hz2 rfl (by decide) S A _ n c 1 _ (gs.map strV) ([numS (x : Int)].map strV) rfl rfl HOA.out (HLIT.out _) HONE.out (by unfold maxLen; omega) (by omega) ?_))
   intro A' c' S' w5 hO' hS' hC'
   have hr := app_strs (B := w3.heap.size) HSB.out (w1 := w4.alloc (.cells #[.string (strB (numS (x : Int)))] 9)) (fs := gs) (gs := [numS (x : Int)]) (by have := HB4'.out.size; simp; omega) (by rw [List.length_append, hlen, List.length_singleton]) hO' (fun g hg => (hS' g hg).imp id (fun h => by simpa using h)) hC'
   obtain ⟨hI5, hb5⟩ := hr
   have HB5 : Below w3.heap.size w3 w5 := HB4'.out.trans (((Below.refl _ _).alloc HB4'.out.size _).trans hb5)
   have HI5 : Hid (StrsIn w3.heap.size w5 A' c' (([a, b, s, m, l].map decDigits).take (n + 1))) := Lib.hid (by
    rw [List.take_add_one, List.getElem?_map, HXX.out]
    rw [HN.out, HGS.out] at hI5
    exact hI5)
   have HB5 := Lib.hid HB5
   clear hI5 hb5 hO' hS' hC' HOA HLIT HONE HSB HB4' hlen
   go_wp2_with fail
   go_roundw
   case rel => exact ⟨n + 1, A', n + 1, c', by simp, by omega, rfl, rfl, HI5, HB5⟩
   simp [RowKit.intOf]; omega
 have hd : ¬ ((n : Nat) : Int) < 5 := by omega
 obtain rfl : n = 5 := by omega
 have hI := HI.out
 have e5 : ([a, b, s, m, l].map decDigits).take 5 = [decDigits a, decDigits b, decDigits s, decDigits m, decDigits l] := rfl
 rw [e5] at hI
 obtain ⟨g2, rfl, hg2, _⟩ := hI.cell (j := 0) rfl
 have hcs : ∀ (j : Nat) x, ([decDigits a, decDigits b, decDigits s, decDigits m, decDigits l].map strB)[j]? = some x → wr.cell? ⟨g2, 0 + j, none⟩ = some (.string x) := by
  intro j x hx
  rw [List.getElem?_map] at hx
  obtain ⟨y, hy, rfl⟩ := Option.map_eq_some_iff.1 hx
  obtain ⟨g3, e3, _, hc3⟩ := hI.cell hy
  injection e3 with e3; injection e3 with e3
  subst e3
  rw [Nat.zero_add]; exact hc3
 have hcap : 5 ≤ c := hI.le
 have z1 := dec_len9 na
 have z2 := dec_len9 nb
 have z3 := dec_len9 ns
 have z4 := dec_len9 nm
 have z5 := dec_len9 nl
 have hmap : ([decDigits a, decDigits b, decDigits s, decDigits m, decDigits l].map strB).map (·.data.toList) = [decDigits a, decDigits b, decDigits s, decDigits m, decDigits l] := by simp [strB]
 have hjl : (Lib.join [decDigits a, decDigits b, decDigits s, decDigits m, decDigits l] [46]).length ≤ 140737488355328 := by rw [join5]; simp; omega
 have HJ := Tryz.strings_Join g2 0 c ([decDigits a, decDigits b, decDigits s, decDigits m, decDigits l].map strB) ⟨#[46]⟩ wr hcs hg2 (by simp) (by simpa using hcap) (by rw [hmap]; exact hjl)
 rw [hmap] at HJ
 clear hI HI hcs hcap z1 z2 z3 z4 z5 hmap hjl
 go_wp2_with fail
 refine HJ.mono ?_
 rintro e w5 ⟨rfl, hb5⟩
 go_wp2_with fail
 go_ret
 exact ⟨ret_str (by rw [HS.out]; rfl), HB3.trans ((HB.out.mono HB3.size).trans (hb5.mono (Nat.le_trans HB3.size HB.out.size)))⟩
end Go.Proofs.YtjnhiiaejeaikaaGreatDoor
