/- What a pointer leads to: the program and the reference. Condition: the store has 64 rows of at most 128 bytes; the pointer is formed. -/
import Derived.Test.YtjnhiiaejeaikaaGreatDoorRFits
set_option linter.unnecessarySimpa false
set_option linter.unusedSimpArgs false
set_option linter.unusedVariables false
namespace Go.Proofs.YtjnhiiaejeaikaaGreatDoor
open Go Go.Lib Go.RowKit
def read_any_post (x : StoreD) (d : PtrD) (w : World) (e : Ending) (w' : World) : Prop := e = .returned (.tuple #[.string ((readF x d).getD ByteArray.empty), .bool (readF x d).isSome]) ∧ Below w.heap.size w w'
theorem read_any_yes {x : StoreD} {d : PtrD} {w w' : World} {s : ByteArray} (h : readF x d = some s) (hb : Below w.heap.size w w') : read_any_post x d w (.returned (.tuple #[.string s, .bool true])) w' := ⟨by rw [h]; rfl, hb⟩
theorem read_any_no {x : StoreD} {d : PtrD} {w w' : World} (h : readF x d = none) (hb : Below w.heap.size w w') : read_any_post x d w (.returned (.tuple #[.string ByteArray.empty, .bool false])) w' := ⟨by rw [h]; rfl, hb⟩
set_option maxRecDepth 100000 in
set_option maxHeartbeats 4000000 in
theorem read_any (bo : Nat) (cs : List Value) (x : StoreD) (a b s m l : Int) (w : World) (lo hi : Nat) (hbo : w.heap[bo]? = some (.cells cs.toArray 39 (0, 0))) (h : StoreR w lo hi cs x) (h64 : x.1.length = 64) (hz : ∀ r ∈ x.1, r.size ≤ 128) (hok : okP (a, b, s, m, l) = true) :
 Calls Tryz.prog 71 #[.pointer (some ⟨bo, 0, none⟩), .agg #[.int .i64 a, .int .i64 b, .int .i64 s, .int .i64 m, .int .i64 l]] w (read_any_post x (a, b, s, m, l) w) := by
 obtain ⟨rows, ⟨refs, last⟩, txg, gone, keep, dead, same⟩ := x
 obtain ⟨A0, n0, c0, A1, n1, c1, A2, n2, c2, A3, n3, c3, A4, n4, c4, rfl, h0, h1, h2, h3, h4⟩ := h
 clear h1 h2 h3 h4
 obtain rfl : n0 = 64 := by rw [← h0.len]; exact h64
 have H0 := Lib.hid h0; have HZ := Lib.hid hz; have HOK := Lib.hid hok
 clear h0 hz h64 hok
 have hbo' : w.heap[bo]? = some (.cells #[.slice A0 64 c0, .slice A1 n1 c1, .slice A2 n2 c2, .int .i64 txg, .slice A3 n3 c3, .int .i64 keep, .slice A4 n4 c4, .bool same] 39 (0, 0)) := hbo
 have HBO := Lib.hid hbo'; clear hbo hbo'
 have lbo : bo < w.heap.size := (Array.getElem?_eq_some_iff.1 HBO.out).1
 generalize hX : ((rows, (refs, last), txg, gone, keep, dead, same) : StoreD) = X
 have HXX : Hid (X.1 = rows) := Lib.hid (by rw [← hX])
 clear hX
 go_enter Tryz.func71, Tryz.ntmps71
 go_wp2_with fail
 refine (ptrHole_any a b s m l _).mono ?_
 rintro e w1 ⟨rfl, hb1⟩
 have z1 : w.heap.size + 1 ≤ w1.heap.size := by have := hb1.size; simpa using this
 have HB1 : Hid (Below w.heap.size w w1) := Lib.hid (bel1.trans (hb1.mono (by simp)))
 have HBX : Hid (w1.heap[w.heap.size]? = some (.cells #[.int .i64 a, .int .i64 b, .int .i64 s, .int .i64 m, .int .i64 l] 41 (0, 0))) := Lib.hid ((hb1.block _ (by simp)).trans (heap_alloc_new _ _))
 have HST : Hid (w1.heap[bo]? = some (.cells #[.slice A0 64 c0, .slice A1 n1 c1, .slice A2 n2 c2, .int .i64 txg, .slice A3 n3 c3, .int .i64 keep, .slice A4 n4 c4, .bool same] 39 (0, 0))) := Lib.hid ((HB1.out.block _ lbo).trans HBO.out)
 clear hb1
 have l1 : w.heap.size < w1.heap.size := by omega
 have l1s : bo < w1.heap.size := by omega
 have s0 := celR 0 HST.out
 have b0 := celR 0 HBX.out
 have b1 := celR 1 HBX.out; have b2 := celR 2 HBX.out; have b3 := celR 3 HBX.out; have b4 := celR 4 HBX.out
 cases e2 : ptrHole a b s m l
 rotate_left
 · have HN := Lib.hid (readF_hole (x := X) (p := (a, b, s, m, l)) e2)
   clear e2
   go_wp2_with fail
   exact bodyPost_ret (v := .tuple #[.string ⟨#[]⟩, .bool true]) (by simp [results, Tryz.results71, go_sem]) rfl (read_any_yes HN.out HB1.out)
 have HHO : Hid (holeP (a, b, s, m, l) = false) := Lib.hid e2
 clear e2
 obtain ⟨⟨g1, g2⟩, -⟩ := okP_parts HOK.out HHO.out
 dsimp only at g1 g2
 obtain ⟨an, rfl⟩ : ∃ an : Nat, a = (an : Int) := ⟨a.toNat, by omega⟩
 have HRW : Hid (rowP X ((an : Int), b, s, m, l) = rows.getD an ByteArray.empty) := Lib.hid (by unfold rowP; dsimp only; rw [HXX.out, Int.toNat_natCast])
 obtain ⟨t, ht⟩ : ∃ t, t = rows.getD an ByteArray.empty := ⟨_, rfl⟩
 have HTZ : t.size ≤ 128 := by
  rw [ht, List.getD_eq_getElem?_getD]
  cases hx : rows[an]? with
  | none => exact Nat.zero_le _
  | some y => exact HZ.out y (List.mem_of_getElem? hx)
 rw [← ht] at HRW
 obtain ⟨gb, go_, rfl, lg0, hg⟩ := rows_at (k := an) H0.out (by omega)
 rw [← ht] at hg
 have r0 := (HB1.out.cell lg0).trans hg
 have lg1 : gb < w1.heap.size := Nat.lt_of_lt_of_le lg0 HB1.out.size
 clear ht hg
 have k0 : (0 : Int) ≤ (an : Int) := by omega
 have k1 : (an : Int) < 64 := by omega
 obtain ⟨ok, hok⟩ : ∃ ok, ok = fitsP ((an : Int), b, s, m, l) t := ⟨_, rfl⟩
 have HFI := Lib.hid hok; clear hok
 go_wp2_with fail
 apply wp_region_rg (by kernel_rfl) (false :: false :: false :: false :: false :: false :: false :: false :: false :: true :: true :: true :: true :: true :: true :: true :: true :: true :: true :: true :: true :: false :: false :: false :: false :: false :: false :: false :: false :: []) [some 10, some 11, some 12, some 13, some 14, some 15, some 16, some 17, some 18, some 19, some 20, some 9] [[], [], [1], [2], [3], [], [5], [4, 6], [7], [0, 8], [9], [10]] [StP.is _, StP.is _, StP.is _, StP.is _, StP.is _, StP.is _, StP.is _, StP.is _, StP.is _, StP.is _, StP.is _, StP.is _] (by kernel_rfl)
 case hobs =>
  refine ⟨fun y w' hS hF K hK => ?_, ?_⟩
  · skip
    simp only [fillL, cond_true, cond_false, zG0, zG1, StP.is, Act.put, zS2, zS0, zS1, Nat.reduceAdd] at hK ⊢
    refine rg_yes (by kernel_rfl) ?_
    have qx0_ := (Below.cell hS l1).trans b0
    have qx1_ := (Below.cell hS l1).trans b1
    have qx2_ := (Below.cell hS l1).trans b2
    have qx3_ := (Below.cell hS l1).trans b3
    have qx4_ := (Below.cell hS l1).trans b4
    have qx5_ := (Below.cell hS l1s).trans s0
    have qx6_ := (Below.cell hS lg1).trans r0
    clear hF
    go_simp
    exact hK _ _ (Ext.refl _) rfl
  refine ⟨fun y w' hS hF K hK => ?_, ?_⟩
  · skip
    simp only [fillL, cond_true, cond_false, zG0, zG1, StP.is, Act.put, zS2, zS0, zS1, Nat.reduceAdd] at hK ⊢
    refine rg_yes (by kernel_rfl) ?_
    clear hF
    go_simp
    exact hK _ _ (Ext.refl _) rfl
  refine ⟨fun y w' hS hF K hK => ?_, ?_⟩
  · skip
    have e11 : y 11 = _ := hF.1
    simp only [fillL, cond_true, cond_false, zG0, zG1, StP.is, Act.put, zS2, zS0, zS1, Nat.reduceAdd, e11] at hK ⊢
    refine rg_yes (by kernel_rfl) ?_
    clear e11
    clear hF
    go_simp
    exact hK _ _ (Ext.refl _) rfl
  refine ⟨fun y w' hS hF K hK => ?_, ?_⟩
  · skip
    have e12 : y 12 = _ := hF.1
    simp only [fillL, cond_true, cond_false, zG0, zG1, StP.is, Act.put, zS2, zS0, zS1, Nat.reduceAdd, e12] at hK ⊢
    refine rg_yes (by kernel_rfl) ?_
    clear e12
    clear hF
    go_simp
    exact hK _ _ (Ext.refl _) rfl
  refine ⟨fun y w' hS hF K hK => ?_, ?_⟩
  · skip
    have e13 : y 13 = _ := hF.1
    simp only [fillL, cond_true, cond_false, zG0, zG1, StP.is, Act.put, zS2, zS0, zS1, Nat.reduceAdd, e13] at hK ⊢
    refine rg_yes (by kernel_rfl) ?_
    have qx0_ := (Below.cell hS l1).trans b0
    have qx1_ := (Below.cell hS l1).trans b1
    have qx2_ := (Below.cell hS l1).trans b2
    have qx3_ := (Below.cell hS l1).trans b3
    have qx4_ := (Below.cell hS l1).trans b4
    have qx5_ := (Below.cell hS l1s).trans s0
    have qx6_ := (Below.cell hS lg1).trans r0
    clear e13
    clear hF
    go_simp
    exact hK _ _ (Ext.refl _) rfl
  refine ⟨fun y w' hS hF K hK => ?_, ?_⟩
  · skip
    simp only [fillL, cond_true, cond_false, zG0, zG1, StP.is, Act.put, zS2, zS0, zS1, Nat.reduceAdd] at hK ⊢
    refine rg_yes (by kernel_rfl) ?_
    clear hF
    go_simp
    exact hK _ _ (Ext.refl _) rfl
  refine ⟨fun y w' hS hF K hK => ?_, ?_⟩
  · skip
    have e15 : y 15 = _ := hF.1
    simp only [fillL, cond_true, cond_false, zG0, zG1, StP.is, Act.put, zS2, zS0, zS1, Nat.reduceAdd, e15] at hK ⊢
    refine rg_yes (by kernel_rfl) ?_
    have qx0_ := (Below.cell hS l1).trans b0
    have qx1_ := (Below.cell hS l1).trans b1
    have qx2_ := (Below.cell hS l1).trans b2
    have qx3_ := (Below.cell hS l1).trans b3
    have qx4_ := (Below.cell hS l1).trans b4
    have qx5_ := (Below.cell hS l1s).trans s0
    have qx6_ := (Below.cell hS lg1).trans r0
    clear e15
    clear hF
    go_simp
    exact hK _ _ (Ext.refl _) rfl
  refine ⟨fun y w' hS hF K hK => ?_, ?_⟩
  · skip
    have e14 : y 14 = _ := hF.1
    have e16 : y 16 = _ := hF.2.1
    simp only [fillL, cond_true, cond_false, zG0, zG1, StP.is, Act.put, zS2, zS0, zS1, Nat.reduceAdd, e14, e16] at hK ⊢
    refine rg_yes (by kernel_rfl) ?_
    clear e14 e16
    clear hF
    go_simp
    exact hK _ _ (Ext.refl _) rfl
  refine ⟨fun y w' hS hF K hK => ?_, ?_⟩
  · skip
    have e17 : y 17 = _ := hF.1
    simp only [fillL, cond_true, cond_false, zG0, zG1, StP.is, Act.put, zS2, zS0, zS1, Nat.reduceAdd, e17] at hK ⊢
    refine rg_yes (by kernel_rfl) ?_
    have qx0_ := (Below.cell hS l1).trans b0
    have qx1_ := (Below.cell hS l1).trans b1
    have qx2_ := (Below.cell hS l1).trans b2
    have qx3_ := (Below.cell hS l1).trans b3
    have qx4_ := (Below.cell hS l1).trans b4
    have qx5_ := (Below.cell hS l1s).trans s0
    have qx6_ := (Below.cell hS lg1).trans r0
    clear e17
    clear hF
    go_simp
    exact hK _ _ (Ext.refl _) rfl
  refine ⟨fun y w' hS hF K hK => ?_, ?_⟩
  · skip
    have e10 : y 10 = _ := hF.1
    have e18 : y 18 = _ := hF.2.1
    simp only [fillL, cond_true, cond_false, zG0, zG1, StP.is, Act.put, zS2, zS0, zS1, Nat.reduceAdd, e10, e18] at hK ⊢
    refine rg_yes (by kernel_rfl) ?_
    clear e10 e18
    clear hF
    go_simp
    go_at_call 85
    refine (ptrFits_any (an : Int) b s m l t _ (by omega)).mono ?_
    rw [← HFI.out]
    rintro e w'' ⟨rfl, hb⟩
    exact hK _ _ hb rfl
  refine ⟨fun y w' hS hF K hK => ?_, ?_⟩
  · skip
    have e19 : y 19 = _ := hF.1
    simp only [fillL, cond_true, cond_false, zG0, zG1, StP.is, Act.put, zS2, zS0, zS1, Nat.reduceAdd, e19] at hK ⊢
    refine rg_yes (by kernel_rfl) ?_
    clear e19
    clear hF
    go_simp
    exact hK _ _ (Ext.refl _) rfl
  refine ⟨fun y w' hS hF K hK => ?_, ?_⟩
  · skip
    have e20 : y 20 = _ := hF.1
    simp only [fillL, cond_true, cond_false, zG0, zG1, StP.is, Act.put, zS2, zS0, zS1, Nat.reduceAdd, e20] at hK ⊢
    refine rg_yes (by kernel_rfl) ?_
    clear e20
    clear hF
    go_simp
    exact hK _ _ (Ext.refl _) rfl
  trivial
 intro y w2 hX2 hF
 have e9 : y 9 = _ := hF.2.2.2.2.2.2.2.2.2.2.2.1
 clear hF
 simp only [fillL, cond_true, cond_false, Nat.reduceAdd, e9]
 clear e9
 have HB2 : Hid (Below w1.heap.size w1 w2) := Lib.hid hX2
 have HB3 : Hid (Below w.heap.size w w2) := Lib.hid (HB1.out.trans (Below.mono hX2 HB1.out.size))
 clear hX2
 cases ok
 · have HN := Lib.hid (readF_no (x := X) HHO.out (by rw [HRW.out]; exact HFI.out.symm))
   clear b0 b1 b2 b3 b4 s0 r0
   go_wp2_with fail
   exact bodyPost_ret (v := .tuple #[.string ⟨#[]⟩, .bool false]) (by simp [results, Tryz.results71, go_sem]) rfl (read_any_no HN.out HB3.out)
 have HN : Hid (readF X ((an : Int), b, s, m, l) = some t) := Lib.hid (by rw [← HRW.out]; exact readF_yes (x := X) HHO.out (by rw [HRW.out]; exact HFI.out.symm))
 have b0 := (HB2.out.cell l1).trans b0; have s0 := (HB2.out.cell l1s).trans s0; have r0 := (HB2.out.cell lg1).trans r0
 have l1 := Nat.lt_of_lt_of_le l1 HB2.out.size; have l1s := Nat.lt_of_lt_of_le l1s HB2.out.size; have lg1 := Nat.lt_of_lt_of_le lg1 HB2.out.size
 clear b1 b2 b3 b4
 go_wp2_with fail
 apply wp_region_rg (by kernel_rfl) (false :: false :: false :: false :: true :: true :: false :: false :: false :: false :: false :: false :: false :: false :: false :: false :: false :: false :: false :: false :: false :: true :: true :: true :: true :: true :: true :: true :: true :: []) [some 21, some 22, some 23, some 24, some 25, some 26, some 27, some 28, some 4, some 5] [[], [0], [1], [2], [], [4], [3, 5], [6], [7], []] [StP.is _, StP.is _, StP.is _, StP.is _, StP.is _, StP.is _, StP.is _, StP.is _, StP.is _, StP.is _] (by kernel_rfl)
 case hobs =>
  refine ⟨fun y w' hS hF K hK => ?_, ?_⟩
  · skip
    simp only [fillL, cond_true, cond_false, zG0, zG1, StP.is, Act.put, zS2, zS0, zS1, Nat.reduceAdd] at hK ⊢
    refine rg_yes (by kernel_rfl) ?_
    clear hF
    go_simp
    exact hK _ _ (Ext.refl _) rfl
  refine ⟨fun y w' hS hF K hK => ?_, ?_⟩
  · skip
    have e21 : y 21 = _ := hF.1
    simp only [fillL, cond_true, cond_false, zG0, zG1, StP.is, Act.put, zS2, zS0, zS1, Nat.reduceAdd, e21] at hK ⊢
    refine rg_yes (by kernel_rfl) ?_
    clear e21
    clear hF
    go_simp
    exact hK _ _ (Ext.refl _) rfl
  refine ⟨fun y w' hS hF K hK => ?_, ?_⟩
  · skip
    have e22 : y 22 = _ := hF.1
    simp only [fillL, cond_true, cond_false, zG0, zG1, StP.is, Act.put, zS2, zS0, zS1, Nat.reduceAdd, e22] at hK ⊢
    refine rg_yes (by kernel_rfl) ?_
    clear e22
    clear hF
    go_simp
    exact hK _ _ (Ext.refl _) rfl
  refine ⟨fun y w' hS hF K hK => ?_, ?_⟩
  · skip
    have e23 : y 23 = _ := hF.1
    simp only [fillL, cond_true, cond_false, zG0, zG1, StP.is, Act.put, zS2, zS0, zS1, Nat.reduceAdd, e23] at hK ⊢
    refine rg_yes (by kernel_rfl) ?_
    have qx0_ := (Below.cell hS l1).trans b0
    have qx1_ := (Below.cell hS l1s).trans s0
    have qx2_ := (Below.cell hS lg1).trans r0
    clear e23
    clear hF
    go_simp
    exact hK _ _ (Ext.refl _) rfl
  refine ⟨fun y w' hS hF K hK => ?_, ?_⟩
  · skip
    simp only [fillL, cond_true, cond_false, zG0, zG1, StP.is, Act.put, zS2, zS0, zS1, Nat.reduceAdd] at hK ⊢
    refine rg_yes (by kernel_rfl) ?_
    clear hF
    go_simp
    exact hK _ _ (Ext.refl _) rfl
  refine ⟨fun y w' hS hF K hK => ?_, ?_⟩
  · skip
    have e25 : y 25 = _ := hF.1
    simp only [fillL, cond_true, cond_false, zG0, zG1, StP.is, Act.put, zS2, zS0, zS1, Nat.reduceAdd, e25] at hK ⊢
    refine rg_yes (by kernel_rfl) ?_
    have qx0_ := (Below.cell hS l1).trans b0
    have qx1_ := (Below.cell hS l1s).trans s0
    have qx2_ := (Below.cell hS lg1).trans r0
    clear e25
    clear hF
    go_simp
    exact hK _ _ (Ext.refl _) rfl
  refine ⟨fun y w' hS hF K hK => ?_, ?_⟩
  · skip
    have e24 : y 24 = _ := hF.1
    have e26 : y 26 = _ := hF.2.1
    simp only [fillL, cond_true, cond_false, zG0, zG1, StP.is, Act.put, zS2, zS0, zS1, Nat.reduceAdd, e24, e26] at hK ⊢
    refine rg_yes (by kernel_rfl) ?_
    clear e24 e26
    clear hF
    go_simp
    exact hK _ _ (Ext.refl _) rfl
  refine ⟨fun y w' hS hF K hK => ?_, ?_⟩
  · skip
    have e27 : y 27 = _ := hF.1
    simp only [fillL, cond_true, cond_false, zG0, zG1, StP.is, Act.put, zS2, zS0, zS1, Nat.reduceAdd, e27] at hK ⊢
    refine rg_yes (by kernel_rfl) ?_
    have qx0_ := (Below.cell hS l1).trans b0
    have qx1_ := (Below.cell hS l1s).trans s0
    have qx2_ := (Below.cell hS lg1).trans r0
    clear e27
    clear hF
    go_simp
    exact hK _ _ (Ext.refl _) rfl
  refine ⟨fun y w' hS hF K hK => ?_, ?_⟩
  · skip
    have e28 : y 28 = _ := hF.1
    simp only [fillL, cond_true, cond_false, zG0, zG1, StP.is, Act.put, zS2, zS0, zS1, Nat.reduceAdd, e28] at hK ⊢
    refine rg_yes (by kernel_rfl) ?_
    clear e28
    clear hF
    go_simp
    exact hK _ _ (Ext.refl _) rfl
  refine ⟨fun y w' hS hF K hK => ?_, ?_⟩
  · skip
    simp only [fillL, cond_true, cond_false, zG0, zG1, StP.is, Act.put, zS2, zS0, zS1, Nat.reduceAdd] at hK ⊢
    refine rg_yes (by kernel_rfl) ?_
    clear hF
    go_simp
    exact hK _ _ (Ext.refl _) rfl
  trivial
 intro y w4 hX4 hF
 have e4 : y 4 = _ := hF.2.2.2.2.2.2.2.2.1
 have e5 : y 5 = _ := hF.2.2.2.2.2.2.2.2.2.1
 clear hF
 simp only [fillL, cond_true, cond_false, Nat.reduceAdd, e4, e5]
 clear e4 e5
 have HB4 : Hid (Below w.heap.size w w4) := Lib.hid (HB3.out.trans (Below.mono hX4 HB3.out.size))
 clear hX4 b0 s0 r0
 go_wp2_with fail
 exact bodyPost_ret (v := .tuple #[.string t, .bool true]) (by simp [results, Tryz.results71, go_sem]) rfl (read_any_yes HN.out HB4.out)
def l7Read_any_post (x : StoreD) (d : PtrD) (w : World) (e : Ending) (w' : World) : Prop := e = .returned (.tuple #[.string ((readF x d).getD ByteArray.empty), .bool (readF x d).isSome]) ∧ Below w.heap.size w w'
theorem l7Read_any_yes {x : StoreD} {d : PtrD} {w w' : World} {s : ByteArray} (h : readF x d = some s) (hb : Below w.heap.size w w') : l7Read_any_post x d w (.returned (.tuple #[.string s, .bool true])) w' := ⟨by rw [h]; rfl, hb⟩
theorem l7Read_any_no {x : StoreD} {d : PtrD} {w w' : World} (h : readF x d = none) (hb : Below w.heap.size w w') : l7Read_any_post x d w (.returned (.tuple #[.string ByteArray.empty, .bool false])) w' := ⟨by rw [h]; rfl, hb⟩
set_option maxRecDepth 100000 in
set_option maxHeartbeats 4000000 in
theorem l7Read_any (cs : List Value) (x : StoreD) (a b s m l : Int) (w : World) (lo hi : Nat) (h : StoreR w lo hi cs x) (h64 : x.1.length = 64) (hz : ∀ r ∈ x.1, r.size ≤ 128) (hok : okP (a, b, s, m, l) = true) :
 Calls Tryz.prog 48 #[.agg cs.toArray, .agg #[.int .i64 a, .int .i64 b, .int .i64 s, .int .i64 m, .int .i64 l]] w (l7Read_any_post x (a, b, s, m, l) w) := by
 obtain ⟨rows, ⟨refs, last⟩, txg, gone, keep, dead, same⟩ := x
 obtain ⟨A0, n0, c0, A1, n1, c1, A2, n2, c2, A3, n3, c3, A4, n4, c4, rfl, h0, h1, h2, h3, h4⟩ := h
 clear h1 h2 h3 h4
 obtain rfl : n0 = 64 := by rw [← h0.len]; exact h64
 have H0 := Lib.hid h0; have HZ := Lib.hid hz; have HOK := Lib.hid hok
 clear h0 hz h64 hok
 show Calls Tryz.prog 48 #[.agg #[.slice A0 64 c0, .slice A1 n1 c1, .slice A2 n2 c2, .int .i64 txg, .slice A3 n3 c3, .int .i64 keep, .slice A4 n4 c4, .bool same], .agg #[.int .i64 a, .int .i64 b, .int .i64 s, .int .i64 m, .int .i64 l]] w _
 generalize hX : ((rows, (refs, last), txg, gone, keep, dead, same) : StoreD) = X
 have HXX : Hid (X.1 = rows) := Lib.hid (by rw [← hX])
 clear hX
 go_enter Tryz.func48, Tryz.ntmps48
 go_wp2_with fail
 refine (spPtrHole_any a b s m l _).mono ?_
 rintro e w1 ⟨rfl, hb1⟩
 have z1 : w.heap.size + 1 + 1 ≤ w1.heap.size := by have := hb1.size; simpa using this
 have HB1 : Hid (Below w.heap.size w w1) := Lib.hid ((bel2 (o := .cells #[.slice A0 64 c0, .slice A1 n1 c1, .slice A2 n2 c2, .int .i64 txg, .slice A3 n3 c3, .int .i64 keep, .slice A4 n4 c4, .bool same] 39) (o' := .cells #[.int .i64 a, .int .i64 b, .int .i64 s, .int .i64 m, .int .i64 l] 41)).trans (hb1.mono (by simp <;> omega)))
 have HST : Hid (w1.heap[w.heap.size]? = some (.cells #[.slice A0 64 c0, .slice A1 n1 c1, .slice A2 n2 c2, .int .i64 txg, .slice A3 n3 c3, .int .i64 keep, .slice A4 n4 c4, .bool same] 39 (0, 0))) := Lib.hid ((hb1.block _ (by simp <;> omega)).trans ((Below.heap_alloc _ _ _ (by simp)).trans (heap_alloc_new _ _)))
 have HBX : Hid (w1.heap[w.heap.size + 1]? = some (.cells #[.int .i64 a, .int .i64 b, .int .i64 s, .int .i64 m, .int .i64 l] 41 (0, 0))) := Lib.hid ((hb1.block _ (by simp <;> omega)).trans (by have := heap_alloc_new (w.alloc (.cells #[.slice A0 64 c0, .slice A1 n1 c1, .slice A2 n2 c2, .int .i64 txg, .slice A3 n3 c3, .int .i64 keep, .slice A4 n4 c4, .bool same] 39)) (.cells #[.int .i64 a, .int .i64 b, .int .i64 s, .int .i64 m, .int .i64 l] 41); simpa using this))
 clear hb1
 have l1s : w.heap.size < w1.heap.size := by omega
 have l1 : w.heap.size + 1 < w1.heap.size := by omega
 have s0 := celR 0 HST.out
 have b0 := celR 0 HBX.out
 have b1 := celR 1 HBX.out; have b2 := celR 2 HBX.out; have b3 := celR 3 HBX.out; have b4 := celR 4 HBX.out
 cases e2 : ptrHole a b s m l
 rotate_left
 · have HN := Lib.hid (readF_hole (x := X) (p := (a, b, s, m, l)) e2)
   clear e2
   go_wp2_with fail
   exact bodyPost_ret (v := .tuple #[.string ⟨#[]⟩, .bool true]) (by simp [results, Tryz.results48, go_sem]) rfl (l7Read_any_yes HN.out HB1.out)
 have HHO : Hid (holeP (a, b, s, m, l) = false) := Lib.hid e2
 clear e2
 obtain ⟨⟨g1, g2⟩, -⟩ := okP_parts HOK.out HHO.out
 dsimp only at g1 g2
 obtain ⟨an, rfl⟩ : ∃ an : Nat, a = (an : Int) := ⟨a.toNat, by omega⟩
 have HRW : Hid (rowP X ((an : Int), b, s, m, l) = rows.getD an ByteArray.empty) := Lib.hid (by unfold rowP; dsimp only; rw [HXX.out, Int.toNat_natCast])
 obtain ⟨t, ht⟩ : ∃ t, t = rows.getD an ByteArray.empty := ⟨_, rfl⟩
 have HTZ : t.size ≤ 128 := by
  rw [ht, List.getD_eq_getElem?_getD]
  cases hx : rows[an]? with
  | none => exact Nat.zero_le _
  | some y => exact HZ.out y (List.mem_of_getElem? hx)
 rw [← ht] at HRW
 obtain ⟨gb, go_, rfl, lg0, hg⟩ := rows_at (k := an) H0.out (by omega)
 rw [← ht] at hg
 have r0 := (HB1.out.cell lg0).trans hg
 have lg1 : gb < w1.heap.size := Nat.lt_of_lt_of_le lg0 HB1.out.size
 clear ht hg
 have k0 : (0 : Int) ≤ (an : Int) := by omega
 have k1 : (an : Int) < 64 := by omega
 obtain ⟨ok, hok⟩ : ∃ ok, ok = fitsP ((an : Int), b, s, m, l) t := ⟨_, rfl⟩
 have HFI := Lib.hid hok; clear hok
 go_wp2_with fail
 apply wp_region_rg (by kernel_rfl) (false :: false :: false :: false :: false :: false :: false :: false :: true :: true :: true :: true :: true :: true :: true :: true :: true :: false :: false :: false :: false :: false :: false :: []) [some 8, some 9, some 10, some 11, some 12, some 13, some 14, some 15, some 16] [[], [], [1], [], [3], [2, 4], [5], [0, 6], [7]] [StP.is _, StP.is _, StP.is _, StP.is _, StP.is _, StP.is _, StP.is _, StP.is _, StP.is _] (by kernel_rfl)
 case hobs =>
  refine ⟨fun y w' hS hF K hK => ?_, ?_⟩
  · skip
    simp only [fillL, cond_true, cond_false, zG0, zG1, StP.is, Act.put, zS2, zS0, zS1, Nat.reduceAdd] at hK ⊢
    refine rg_yes (by kernel_rfl) ?_
    have qx0_ := (Below.cell hS l1).trans b0
    have qx1_ := (Below.cell hS l1).trans b1
    have qx2_ := (Below.cell hS l1).trans b2
    have qx3_ := (Below.cell hS l1).trans b3
    have qx4_ := (Below.cell hS l1).trans b4
    have qx5_ := (Below.cell hS l1s).trans s0
    have qx6_ := (Below.cell hS lg1).trans r0
    clear hF
    go_simp
    exact hK _ _ (Ext.refl _) rfl
  refine ⟨fun y w' hS hF K hK => ?_, ?_⟩
  · skip
    simp only [fillL, cond_true, cond_false, zG0, zG1, StP.is, Act.put, zS2, zS0, zS1, Nat.reduceAdd] at hK ⊢
    refine rg_yes (by kernel_rfl) ?_
    clear hF
    go_simp
    exact hK _ _ (Ext.refl _) rfl
  refine ⟨fun y w' hS hF K hK => ?_, ?_⟩
  · skip
    have e9 : y 9 = _ := hF.1
    simp only [fillL, cond_true, cond_false, zG0, zG1, StP.is, Act.put, zS2, zS0, zS1, Nat.reduceAdd, e9] at hK ⊢
    refine rg_yes (by kernel_rfl) ?_
    have qx0_ := (Below.cell hS l1).trans b0
    have qx1_ := (Below.cell hS l1).trans b1
    have qx2_ := (Below.cell hS l1).trans b2
    have qx3_ := (Below.cell hS l1).trans b3
    have qx4_ := (Below.cell hS l1).trans b4
    have qx5_ := (Below.cell hS l1s).trans s0
    have qx6_ := (Below.cell hS lg1).trans r0
    clear e9
    clear hF
    go_simp
    exact hK _ _ (Ext.refl _) rfl
  refine ⟨fun y w' hS hF K hK => ?_, ?_⟩
  · skip
    simp only [fillL, cond_true, cond_false, zG0, zG1, StP.is, Act.put, zS2, zS0, zS1, Nat.reduceAdd] at hK ⊢
    refine rg_yes (by kernel_rfl) ?_
    clear hF
    go_simp
    exact hK _ _ (Ext.refl _) rfl
  refine ⟨fun y w' hS hF K hK => ?_, ?_⟩
  · skip
    have e11 : y 11 = _ := hF.1
    simp only [fillL, cond_true, cond_false, zG0, zG1, StP.is, Act.put, zS2, zS0, zS1, Nat.reduceAdd, e11] at hK ⊢
    refine rg_yes (by kernel_rfl) ?_
    have qx0_ := (Below.cell hS l1).trans b0
    have qx1_ := (Below.cell hS l1).trans b1
    have qx2_ := (Below.cell hS l1).trans b2
    have qx3_ := (Below.cell hS l1).trans b3
    have qx4_ := (Below.cell hS l1).trans b4
    have qx5_ := (Below.cell hS l1s).trans s0
    have qx6_ := (Below.cell hS lg1).trans r0
    clear e11
    clear hF
    go_simp
    exact hK _ _ (Ext.refl _) rfl
  refine ⟨fun y w' hS hF K hK => ?_, ?_⟩
  · skip
    have e10 : y 10 = _ := hF.1
    have e12 : y 12 = _ := hF.2.1
    simp only [fillL, cond_true, cond_false, zG0, zG1, StP.is, Act.put, zS2, zS0, zS1, Nat.reduceAdd, e10, e12] at hK ⊢
    refine rg_yes (by kernel_rfl) ?_
    clear e10 e12
    clear hF
    go_simp
    exact hK _ _ (Ext.refl _) rfl
  refine ⟨fun y w' hS hF K hK => ?_, ?_⟩
  · skip
    have e13 : y 13 = _ := hF.1
    simp only [fillL, cond_true, cond_false, zG0, zG1, StP.is, Act.put, zS2, zS0, zS1, Nat.reduceAdd, e13] at hK ⊢
    refine rg_yes (by kernel_rfl) ?_
    have qx0_ := (Below.cell hS l1).trans b0
    have qx1_ := (Below.cell hS l1).trans b1
    have qx2_ := (Below.cell hS l1).trans b2
    have qx3_ := (Below.cell hS l1).trans b3
    have qx4_ := (Below.cell hS l1).trans b4
    have qx5_ := (Below.cell hS l1s).trans s0
    have qx6_ := (Below.cell hS lg1).trans r0
    clear e13
    clear hF
    go_simp
    exact hK _ _ (Ext.refl _) rfl
  refine ⟨fun y w' hS hF K hK => ?_, ?_⟩
  · skip
    have e8 : y 8 = _ := hF.1
    have e14 : y 14 = _ := hF.2.1
    simp only [fillL, cond_true, cond_false, zG0, zG1, StP.is, Act.put, zS2, zS0, zS1, Nat.reduceAdd, e8, e14] at hK ⊢
    refine rg_yes (by kernel_rfl) ?_
    clear e8 e14
    clear hF
    go_simp
    go_at_call 64
    refine (spPtrFits_any (an : Int) b s m l t _ (by omega)).mono ?_
    rw [← HFI.out]
    rintro e w'' ⟨rfl, hb⟩
    exact hK _ _ hb rfl
  refine ⟨fun y w' hS hF K hK => ?_, ?_⟩
  · skip
    have e15 : y 15 = _ := hF.1
    simp only [fillL, cond_true, cond_false, zG0, zG1, StP.is, Act.put, zS2, zS0, zS1, Nat.reduceAdd, e15] at hK ⊢
    refine rg_yes (by kernel_rfl) ?_
    clear e15
    clear hF
    go_simp
    exact hK _ _ (Ext.refl _) rfl
  trivial
 intro y w2 hX2 hF
 have e16 : y 16 = _ := hF.2.2.2.2.2.2.2.2.1
 clear hF
 simp only [fillL, cond_true, cond_false, Nat.reduceAdd, e16]
 clear e16
 have HB2 : Hid (Below w1.heap.size w1 w2) := Lib.hid hX2
 have HB3 : Hid (Below w.heap.size w w2) := Lib.hid (HB1.out.trans (Below.mono hX2 HB1.out.size))
 clear hX2
 cases ok
 · have HN := Lib.hid (readF_no (x := X) HHO.out (by rw [HRW.out]; exact HFI.out.symm))
   clear b0 b1 b2 b3 b4 s0 r0
   go_wp2_with fail
   exact bodyPost_ret (v := .tuple #[.string ⟨#[]⟩, .bool false]) (by simp [results, Tryz.results48, go_sem]) rfl (l7Read_any_no HN.out HB3.out)
 have HN : Hid (readF X ((an : Int), b, s, m, l) = some t) := Lib.hid (by rw [← HRW.out]; exact readF_yes (x := X) HHO.out (by rw [HRW.out]; exact HFI.out.symm))
 have b0 := (HB2.out.cell l1).trans b0; have s0 := (HB2.out.cell l1s).trans s0; have r0 := (HB2.out.cell lg1).trans r0
 have l1 := Nat.lt_of_lt_of_le l1 HB2.out.size; have l1s := Nat.lt_of_lt_of_le l1s HB2.out.size; have lg1 := Nat.lt_of_lt_of_le lg1 HB2.out.size
 clear b1 b2 b3 b4
 go_wp2_with fail
 exact bodyPost_ret (v := .tuple #[.string t, .bool true]) (by simp [results, Tryz.results48, go_sem]) rfl (l7Read_any_yes HN.out HB3.out)
end Go.Proofs.YtjnhiiaejeaikaaGreatDoor
