/- StoreRoom, the program's and the reference's. Condition: fewer than 2^20 pointers given up. -/
import Derived.Test.YtffieobjcipeoaaStoreNext
import Derived.Test.YtffieobjcipeoaaStoreOkS
import Derived.Test.YtffieobjcipeoaaStoreNew
namespace Go.Proofs.Ytffieobjcipeoaa
set_option linter.unnecessarySimpa false
open Go.RowKit
set_option linter.unusedVariables false
set_option linter.unusedSimpArgs false
set_option maxRecDepth 100000 in
set_option maxHeartbeats 4000000 in
theorem storeRoom_any (cs : List Value) (x : StoreD) (w : World) (lo hi : Nat) (h : StoreR w lo hi cs x) (hsz : x.2.2.2.1.length ≤ 2000000 ∧ x.2.2.2.2.2.1.length ≤ 2000000) :
    Calls Try.prog 13 #[.agg cs.toArray] w fun e w' => e = .returned (.tuple #[.int .i64 (roomS x).1, .int .i64 (roomS x).2]) ∧ Below w.heap.size w w' := by
  have HSZ := Lib.hid hsz
  have HX := Lib.hid h
  obtain ⟨ok, hok⟩ : ∃ b, b = storeOk x := ⟨_, rfl⟩
  have HOK := Lib.hid hok
  obtain ⟨P1, P2, hP⟩ : ∃ a b, roomS x = (a, b) := ⟨_, _, rfl⟩
  have e1 : (roomS x).1 = P1 := by rw [hP]
  have e2 : (roomS x).2 = P2 := by rw [hP]
  rw [e1, e2]
  have HP := Lib.hid hP
  clear hP e1 e2 hok hsz
  have hxx := h
  obtain ⟨rows, ⟨refs, last⟩, txg, gone, keep, dead, same⟩ := x
  obtain ⟨A0, n0, c0, A1, n1, c1, A2, n2, c2, A3, n3, c3, A4, n4, c4, rfl, h0, h1, h2, h3, h4⟩ := h
  have HLE := Lib.hid h0.lo_le
  have L0 := Lib.hid h0.len; have L1 := Lib.hid h1.len; have L2 := Lib.hid h2.len
  have N0 := Lib.hid h0.2.1; have N1 := Lib.hid h1.2.1; have H1 := Lib.hid h1; have H2 := Lib.hid h2
  clear h0 h1 h2 h3 h4 hxx
  show Calls Try.prog 13 #[.agg #[.slice A0 n0 c0, .slice A1 n1 c1, .slice A2 n2 c2, .int .i64 txg, .slice A3 n3 c3, .int .i64 keep, .slice A4 n4 c4, .bool same]] w _
  go_enter Try.func13, Try.ntmps13
  go_wp2_with fail
  refine (storeOk_any [.slice A0 n0 c0, .slice A1 n1 c1, .slice A2 n2 c2, .int .i64 txg, .slice A3 n3 c3, .int .i64 keep, .slice A4 n4 c4, .bool same] (rows, (refs, last), txg, gone, keep, dead, same) _ lo hi (StoreR.below bel1 HLE.out _ _ HX.out) HSZ.out).mono ?_
  rintro e w1 ⟨rfl, hb1⟩
  have HB1 : Hid (Below w.heap.size w w1) := Lib.hid (bel1.trans (hb1.mono (by simp)))
  have HBX1 : Hid (w1.heap[w.heap.size]? = some (.cells #[.slice A0 n0 c0, .slice A1 n1 c1, .slice A2 n2 c2, .int .i64 txg, .slice A3 n3 c3, .int .i64 keep, .slice A4 n4 c4, .bool same] 30 (0, 0))) := Lib.hid ((hb1.block _ (by simp)).trans (heap_alloc_new _ _))
  have l1 := (Array.getElem?_eq_some_iff.1 HBX1.out).1
  clear hb1
  have b0 := cell_of_row _ _ 0 _ _ (0, 0) HBX1.out; have b1 := cell_of_row _ _ 1 _ _ (0, 0) HBX1.out; have b2 := cell_of_row _ _ 2 _ _ (0, 0) HBX1.out; have b3 := cell_of_row _ _ 3 _ _ (0, 0) HBX1.out; have b4 := cell_of_row _ _ 4 _ _ (0, 0) HBX1.out; have b5 := cell_of_row _ _ 5 _ _ (0, 0) HBX1.out; have b6 := cell_of_row _ _ 6 _ _ (0, 0) HBX1.out; have b7 := cell_of_row _ _ 7 _ _ (0, 0) HBX1.out
  rw [← HOK.out]
  cases ok
  · obtain ⟨rfl, rfl⟩ : P1 = -1 ∧ P2 = -1 := by
      have := HP.out
      unfold roomS at this
      rw [← HOK.out] at this
      injection this with a b
      exact ⟨a.symm, b.symm⟩
    go_wp2_with fail
    exact bodyPost_ret (v := .tuple #[.int .i64 (-1), .int .i64 (-1)]) (by simp [results, Try.results13, go_sem]) rfl ⟨rfl, HB1.out⟩
  have SOK := Lib.hid (storeOk_of HOK.out.symm)
  obtain ⟨rfl, rfl⟩ : P1 = (roomTo refs 56 : Int) ∧ P2 = (roomTo (dropsS (refs, last) gone).1 56 : Int) := by
    have := HP.out
    unfold roomS at this
    rw [← HOK.out] at this
    injection this with a b
    exact ⟨a.symm, b.symm⟩
  obtain ⟨p1, p2, -⟩ := spOk_iff.1 SOK.out.sp
  have p0 : rows.length = 64 := SOK.out.len
  obtain rfl : n0 = 64 := by rw [← L0.out]; exact p0
  obtain rfl : n1 = 64 := by rw [← L1.out]; exact p1
  obtain rfl : n2 = 64 := by rw [← L2.out]; exact p2
  have HLN : Hid (rows.length = 64 ∧ refs.length = 64 ∧ last.length = 64) := Lib.hid ⟨p0, p1, p2⟩
  clear p0 p1 p2
  go_wp2_with fail
  refine (cloneSt_any [.slice A0 64 c0, .slice A1 64 c1, .slice A2 64 c2, .int .i64 txg, .slice A3 n3 c3, .int .i64 keep, .slice A4 n4 c4, .bool same] (rows, (refs, last), txg, gone, keep, dead, same) w1 lo hi (StoreR.below HB1.out HLE.out _ _ HX.out) HLN.out HSZ.out).mono ?_
  rintro e w2 ⟨B, r, g, k, e0, d1, d2, B3, m3, e3, B4, m4, e4, rfl, he0, hd1, hr1, hg1, hk1, hS, hb2⟩
  clear b0 b1 b2 b3 b4 b5 b6 b7
  have HB2 := Lib.hid (HB1.out.trans (hb2.mono HB1.out.size))
  have HBX2 := Lib.hid ((hb2.block _ l1).trans HBX1.out)
  have HS := Lib.hid hS
  have lr := hS.rows.lt; have lg := hS.refs.lt; have lk := hS.last.lt
  have hBw := hS.hiB
  have l2 := (Array.getElem?_eq_some_iff.1 HBX2.out).1
  clear hb2 hS
  obtain ⟨bx, hbx⟩ : ∃ b, b = w2.heap.size := ⟨_, rfl⟩
  obtain ⟨w3, hw3⟩ : ∃ W, W = w2.alloc (.cells #[.slice (some ⟨r, 0, none⟩) 64 e0, .slice (some ⟨g, 0, none⟩) 64 d1, .slice (some ⟨k, 0, none⟩) 64 d2, .int .i64 txg, .slice B3 m3 e3, .int .i64 keep, .slice B4 m4 e4, .bool same] 30) := ⟨_, rfl⟩
  have HY3 : Hid (Below w2.heap.size w2 w3) := Lib.hid (by rw [hw3]; exact bel1)
  have HL3 : Hid (BoxS bx r g k e0 d1 d2 txg B3 m3 e3 keep B4 m4 e4 same w3) := Lib.hid (by rw [hw3, hbx]; exact heap_alloc_new _ _)
  have HS3 := Lib.hid (HS.out.below HY3.out)
  have HB3 := Lib.hid (HB2.out.trans (HY3.out.mono HB2.out.size))
  have HBX3 := Lib.hid ((HY3.out.block _ l2).trans HBX2.out)
  have z3 : bx < w3.heap.size := by rw [hw3, hbx]; simp
  have l3 : w.heap.size < w3.heap.size := Nat.lt_of_lt_of_le l2 HY3.out.size
  have br : bx ≠ r := by omega
  have bg : bx ≠ g := by omega
  have bk : bx ≠ k := by omega
  have hbw : w.heap.size ≠ bx := by omega
  have zz : w1.heap.size ≤ w2.heap.size := by omega
  have hbxw : w1.heap.size ≤ bx := by omega
  have b0 := cell_of_row _ _ 0 _ _ (0, 0) HBX2.out; have b1 := cell_of_row _ _ 1 _ _ (0, 0) HBX2.out; have b2 := cell_of_row _ _ 2 _ _ (0, 0) HBX2.out; have b3 := cell_of_row _ _ 3 _ _ (0, 0) HBX2.out; have b4 := cell_of_row _ _ 4 _ _ (0, 0) HBX2.out; have b5 := cell_of_row _ _ 5 _ _ (0, 0) HBX2.out; have b6 := cell_of_row _ _ 6 _ _ (0, 0) HBX2.out; have b7 := cell_of_row _ _ 7 _ _ (0, 0) HBX2.out
  go_wp2_with fail
  rw [← hw3, ← hbx]
  have HBE := Lib.hid hbx
  clear hw3 hbx b0 b1 b2 b3 b4 b5 b6 b7
  go_wp2_with fail
  refine (next_any (rows, (refs, last), txg, gone, keep, dead, same) SOK.out B bx r g k e0 d1 d2 B3 m3 e3 B4 m4 e4 w3 HL3.out HS3.out br bg bk (by have := HS3.out.hiB; omega)).mono ?_
  rintro e w4 ⟨rfl, og4, q1, q2, hc4⟩
  have hge : ∀ b, b ∈ [bx, r, g, k] → w1.heap.size ≤ b := by intro b hb; simp at hb; rcases hb with rfl | rfl | rfl | rfl <;> omega
  have HB4 : Hid (Below w.heap.size w w4) := Lib.hid (HB3.out.trans (hc4.below (fun b _ hb => by have := hge b hb; omega) HB3.out.size))
  have HBX4 := Lib.hid ((hc4.block w.heap.size l3 (fun hm => by have := hge _ hm; omega)).trans HBX3.out)
  have OG4 := Lib.hid og4
  have l4 := (Array.getElem?_eq_some_iff.1 HBX4.out).1
  have lbx : bx < w4.heap.size := World.block_lt_of_cell? _ _ q1
  have hI : ∀ W, Below w4.heap.size w4 W → IntsAt W A1 64 refs := fun W hb => by
    have hw : Below w.heap.size w W := HB4.out.trans (hb.mono HB4.out.size)
    exact (H1.out.below hw (IntR.below hw H1.out.lo_le)).ints
  have HI := Lib.hid hI; have HC1 := Lib.hid N1.out; have HD1 := Lib.hid hd1
  clear hI hc4 og4 hge
  have b0 := cell_of_row _ _ 0 _ _ (0, 0) HBX4.out; have b1 := cell_of_row _ _ 1 _ _ (0, 0) HBX4.out; have b2 := cell_of_row _ _ 2 _ _ (0, 0) HBX4.out; have b3 := cell_of_row _ _ 3 _ _ (0, 0) HBX4.out; have b4 := cell_of_row _ _ 4 _ _ (0, 0) HBX4.out; have b5 := cell_of_row _ _ 5 _ _ (0, 0) HBX4.out; have b6 := cell_of_row _ _ 6 _ _ (0, 0) HBX4.out; have b7 := cell_of_row _ _ 7 _ _ (0, 0) HBX4.out
  go_wp2_with fail
  apply wp_region_rg (by kernel_rfl) (false :: false :: true :: true :: false :: false :: false :: false :: false :: false :: false :: true :: true :: true :: true :: true :: true :: []) [some 11, some 12, some 13, some 14, some 15, some 16, some 2, some 3] [[], [0], [1], [], [3], [4], [2], [5]] [StP.is _, StP.is _, StP.is _, StP.is _, StP.is _, StP.is _, StP.is _, StP.is _] (by kernel_rfl)
  case hobs =>
    refine ⟨fun y w' hS hF K hK => ?_, ?_⟩
    · skip -- 0: fieldAddr
      simp only [fillL, cond_true, cond_false, List.getD_cons_zero, List.getD_cons_succ, StP.is, Act.put, List.setIfInBounds_toArray, List.set_cons_zero, List.set_cons_succ, Nat.reduceAdd] at hK ⊢
      refine rg_yes (by kernel_rfl) ?_
      clear hF
      go_simp
      exact hK _ _ (Ext.refl _) rfl
    refine ⟨fun y w' hS hF K hK => ?_, ?_⟩
    · skip -- 1: load
      have e11 : y 11 = _ := hF.1
      simp only [fillL, cond_true, cond_false, List.getD_cons_zero, List.getD_cons_succ, StP.is, Act.put, List.setIfInBounds_toArray, List.set_cons_zero, List.set_cons_succ, Nat.reduceAdd, e11] at hK ⊢
      refine rg_yes (by kernel_rfl) ?_
      have qx0_ := (Below.cell hS l4).trans b0
      have qx1_ := (Below.cell hS l4).trans b1
      have qx2_ := (Below.cell hS l4).trans b2
      have qx3_ := (Below.cell hS l4).trans b3
      have qx4_ := (Below.cell hS l4).trans b4
      have qx5_ := (Below.cell hS l4).trans b5
      have qx6_ := (Below.cell hS l4).trans b6
      have qx7_ := (Below.cell hS l4).trans b7
      have qx8_ := (Below.cell hS lbx).trans q1
      have qx9_ := (Below.cell hS lbx).trans q2
      clear e11
      clear hF
      go_simp
      exact hK _ _ (Ext.refl _) rfl
    refine ⟨fun y w' hS hF K hK => ?_, ?_⟩
    · skip -- 2: call
      have e12 : y 12 = _ := hF.1
      simp only [fillL, cond_true, cond_false, List.getD_cons_zero, List.getD_cons_succ, StP.is, Act.put, List.setIfInBounds_toArray, List.set_cons_zero, List.set_cons_succ, Nat.reduceAdd, e12] at hK ⊢
      refine rg_yes (by kernel_rfl) ?_
      clear e12
      clear hF
      go_simp
      go_at_call 45
      refine (room_any _ _ _ _ _ refs _ (HI.out w' hS) HC1.out).mono ?_
      rintro e w'' ⟨rfl, hb⟩
      exact hK _ _ hb rfl
    refine ⟨fun y w' hS hF K hK => ?_, ?_⟩
    · skip -- 3: fieldAddr
      simp only [fillL, cond_true, cond_false, List.getD_cons_zero, List.getD_cons_succ, StP.is, Act.put, List.setIfInBounds_toArray, List.set_cons_zero, List.set_cons_succ, Nat.reduceAdd] at hK ⊢
      refine rg_yes (by kernel_rfl) ?_
      clear hF
      go_simp
      exact hK _ _ (Ext.refl _) rfl
    refine ⟨fun y w' hS hF K hK => ?_, ?_⟩
    · skip -- 4: load
      have e14 : y 14 = _ := hF.1
      simp only [fillL, cond_true, cond_false, List.getD_cons_zero, List.getD_cons_succ, StP.is, Act.put, List.setIfInBounds_toArray, List.set_cons_zero, List.set_cons_succ, Nat.reduceAdd, e14] at hK ⊢
      refine rg_yes (by kernel_rfl) ?_
      have qx0_ := (Below.cell hS l4).trans b0
      have qx1_ := (Below.cell hS l4).trans b1
      have qx2_ := (Below.cell hS l4).trans b2
      have qx3_ := (Below.cell hS l4).trans b3
      have qx4_ := (Below.cell hS l4).trans b4
      have qx5_ := (Below.cell hS l4).trans b5
      have qx6_ := (Below.cell hS l4).trans b6
      have qx7_ := (Below.cell hS l4).trans b7
      have qx8_ := (Below.cell hS lbx).trans q1
      have qx9_ := (Below.cell hS lbx).trans q2
      clear e14
      clear hF
      go_simp
      exact hK _ _ (Ext.refl _) rfl
    refine ⟨fun y w' hS hF K hK => ?_, ?_⟩
    · skip -- 5: call
      have e15 : y 15 = _ := hF.1
      simp only [fillL, cond_true, cond_false, List.getD_cons_zero, List.getD_cons_succ, StP.is, Act.put, List.setIfInBounds_toArray, List.set_cons_zero, List.set_cons_succ, Nat.reduceAdd, e15] at hK ⊢
      refine rg_yes (by kernel_rfl) ?_
      clear e15
      clear hF
      go_simp
      go_at_call 45
      refine (room_any _ _ _ _ _ (dropsS (refs, last) gone).1 _ (OG4.out.below hS).at_ HD1.out).mono ?_
      rintro e w'' ⟨rfl, hb⟩
      exact hK _ _ hb rfl
    refine ⟨fun y w' hS hF K hK => ?_, ?_⟩
    · skip -- 6: assign
      have e13 : y 13 = _ := hF.1
      simp only [fillL, cond_true, cond_false, List.getD_cons_zero, List.getD_cons_succ, StP.is, Act.put, List.setIfInBounds_toArray, List.set_cons_zero, List.set_cons_succ, Nat.reduceAdd, e13] at hK ⊢
      refine rg_yes (by kernel_rfl) ?_
      clear e13
      clear hF
      go_simp
      exact hK _ _ (Ext.refl _) rfl
    refine ⟨fun y w' hS hF K hK => ?_, ?_⟩
    · skip -- 7: assign
      have e16 : y 16 = _ := hF.1
      simp only [fillL, cond_true, cond_false, List.getD_cons_zero, List.getD_cons_succ, StP.is, Act.put, List.setIfInBounds_toArray, List.set_cons_zero, List.set_cons_succ, Nat.reduceAdd, e16] at hK ⊢
      refine rg_yes (by kernel_rfl) ?_
      clear e16
      clear hF
      go_simp
      exact hK _ _ (Ext.refl _) rfl
    trivial
  case hend =>
    intro y w5 hX hF
    have f2 : y 2 = _ := hF.2.2.2.2.2.2.1
    have f3 : y 3 = _ := hF.2.2.2.2.2.2.2.1
    clear hF
    simp only [fillL, cond_true, cond_false, Nat.reduceAdd, f2, f3]
    have HB5 : Hid (Below w.heap.size w w5) := Lib.hid (HB4.out.trans (Below.mono hX HB4.out.size))
    clear hX f2 f3 b0 b1 b2 b3 b4 b5 b6 b7 q1 q2
    go_wp2_with fail
    exact bodyPost_ret (v := .tuple #[.int .i64 (roomTo refs 56 : Int), .int .i64 (roomTo (dropsS (refs, last) gone).1 56 : Int)]) (by simp [results, Try.results13, go_sem]) rfl ⟨rfl, HB5.out⟩
end Go.Proofs.Ytffieobjcipeoaa
