/- StoreRoom of the reference. Condition: fewer than 2^20 pointers given up. -/
import Derived.Test.YtffieobjcipeoaaStoreRoom
import Derived.Test.YtffieobjcipeoaaStoreDrop
namespace Go.Proofs.Ytffieobjcipeoaa
set_option linter.unnecessarySimpa false
open Go.RowKit
set_option linter.unusedVariables false
set_option linter.unusedSimpArgs false
set_option maxRecDepth 100000 in
set_option maxHeartbeats 4000000 in
theorem spStoreRoom_any (cs : List Value) (x : StoreD) (w : World) (lo hi : Nat) (h : StoreR w lo hi cs x) (hsz : x.2.2.2.1.length ≤ 2000000 ∧ x.2.2.2.2.2.1.length ≤ 2000000) :
    Calls Try.prog 22 #[.agg cs.toArray] w fun e w' => e = .returned (.tuple #[.int .i64 (roomS x).1, .int .i64 (roomS x).2]) ∧ Below w.heap.size w w' := by
  have HSZ := Lib.hid hsz
  have HX := Lib.hid h
  obtain ⟨ok, hok⟩ : ∃ b, b = storeOk x := ⟨_, rfl⟩
  have HOK := Lib.hid hok
  obtain ⟨P1, P2, hP⟩ : ∃ a b, roomS x = (a, b) := ⟨_, _, rfl⟩
  have e1 : (roomS x).1 = P1 := by rw [hP]
  have e2 : (roomS x).2 = P2 := by rw [hP]
  rw [e1, e2]
  have HP := Lib.hid hP
  clear hP e1 e2 hok hsz
  have hxx := h
  obtain ⟨rows, ⟨refs, last⟩, txg, gone, keep, dead, same⟩ := x
  obtain ⟨A0, n0, c0, A1, n1, c1, A2, n2, c2, A3, n3, c3, A4, n4, c4, rfl, h0, h1, h2, h3, h4⟩ := h
  have HLE := Lib.hid h0.lo_le
  have L0 := Lib.hid h0.len; have L1 := Lib.hid h1.len; have L2 := Lib.hid h2.len
  have N0 := Lib.hid h0.2.1; have N1 := Lib.hid h1.2.1; have H1 := Lib.hid h1; have H2 := Lib.hid h2
  clear h0 h1 h2 h3 h4 hxx
  show Calls Try.prog 22 #[.agg #[.slice A0 n0 c0, .slice A1 n1 c1, .slice A2 n2 c2, .int .i64 txg, .slice A3 n3 c3, .int .i64 keep, .slice A4 n4 c4, .bool same]] w _
  go_enter Try.func22, Try.ntmps22
  go_wp2_with fail
  refine (spStoreOk_any [.slice A0 n0 c0, .slice A1 n1 c1, .slice A2 n2 c2, .int .i64 txg, .slice A3 n3 c3, .int .i64 keep, .slice A4 n4 c4, .bool same] (rows, (refs, last), txg, gone, keep, dead, same) _ lo hi (StoreR.below bel1 HLE.out _ _ HX.out) HSZ.out).mono ?_
  rintro e w1 ⟨rfl, hb1⟩
  have HB1 : Hid (Below w.heap.size w w1) := Lib.hid (bel1.trans (hb1.mono (by simp)))
  have HBX1 : Hid (w1.heap[w.heap.size]? = some (.cells #[.slice A0 n0 c0, .slice A1 n1 c1, .slice A2 n2 c2, .int .i64 txg, .slice A3 n3 c3, .int .i64 keep, .slice A4 n4 c4, .bool same] 30 (0, 0))) := Lib.hid ((hb1.block _ (by simp)).trans (heap_alloc_new _ _))
  have l1 := (Array.getElem?_eq_some_iff.1 HBX1.out).1
  clear hb1
  have b0 := cell_of_row _ _ 0 _ _ (0, 0) HBX1.out; have b1 := cell_of_row _ _ 1 _ _ (0, 0) HBX1.out; have b2 := cell_of_row _ _ 2 _ _ (0, 0) HBX1.out; have b3 := cell_of_row _ _ 3 _ _ (0, 0) HBX1.out; have b4 := cell_of_row _ _ 4 _ _ (0, 0) HBX1.out; have b5 := cell_of_row _ _ 5 _ _ (0, 0) HBX1.out; have b6 := cell_of_row _ _ 6 _ _ (0, 0) HBX1.out; have b7 := cell_of_row _ _ 7 _ _ (0, 0) HBX1.out
  rw [← HOK.out]
  cases ok
  · obtain ⟨rfl, rfl⟩ : P1 = -1 ∧ P2 = -1 := by
      have := HP.out
      unfold roomS at this
      rw [← HOK.out] at this
      injection this with a b
      exact ⟨a.symm, b.symm⟩
    go_wp2_with fail
    exact bodyPost_ret (v := .tuple #[.int .i64 (-1), .int .i64 (-1)]) (by simp [results, Try.results22, go_sem]) rfl ⟨rfl, HB1.out⟩
  have SOK := Lib.hid (storeOk_of HOK.out.symm)
  obtain ⟨rfl, rfl⟩ : P1 = (roomTo refs 56 : Int) ∧ P2 = (roomTo (dropsS (refs, last) gone).1 56 : Int) := by
    have := HP.out
    unfold roomS at this
    rw [← HOK.out] at this
    injection this with a b
    exact ⟨a.symm, b.symm⟩
  obtain ⟨p1, p2, -⟩ := spOk_iff.1 SOK.out.sp
  have p0 : rows.length = 64 := SOK.out.len
  obtain rfl : n0 = 64 := by rw [← L0.out]; exact p0
  obtain rfl : n1 = 64 := by rw [← L1.out]; exact p1
  obtain rfl : n2 = 64 := by rw [← L2.out]; exact p2
  have HLN : Hid (rows.length = 64 ∧ refs.length = 64 ∧ last.length = 64) := Lib.hid ⟨p0, p1, p2⟩
  clear p0 p1 p2
  go_wp2_with fail
  refine (l7Copy_any [.slice A0 64 c0, .slice A1 64 c1, .slice A2 64 c2, .int .i64 txg, .slice A3 n3 c3, .int .i64 keep, .slice A4 n4 c4, .bool same] (rows, (refs, last), txg, gone, keep, dead, same) w1 lo hi (StoreR.below HB1.out HLE.out _ _ HX.out) HLN.out HSZ.out).mono ?_
  rintro e w2 ⟨B, r, g, kq, e0, d1, d2, B3, m3, e3, B4, m4, e4, rfl, he0, hd1, hr1, hg1, hk1, hS, hb2⟩
  clear b0 b1 b2 b3 b4 b5 b6 b7
  have HB2 := Lib.hid (HB1.out.trans (hb2.mono HB1.out.size))
  have HBX2 := Lib.hid ((hb2.block _ l1).trans HBX1.out)
  have HS := Lib.hid hS
  have lr := hS.rows.lt; have lg := hS.refs.lt; have lk := hS.last.lt
  have hBw := hS.hiB
  have l2 := (Array.getElem?_eq_some_iff.1 HBX2.out).1
  clear hb2 hS
  obtain ⟨bx, hbx⟩ : ∃ b, b = w2.heap.size := ⟨_, rfl⟩
  obtain ⟨w3, hw3⟩ : ∃ W, W = w2.alloc (.cells #[.slice (some ⟨r, 0, none⟩) 64 e0, .slice (some ⟨g, 0, none⟩) 64 d1, .slice (some ⟨kq, 0, none⟩) 64 d2, .int .i64 txg, .slice B3 m3 e3, .int .i64 keep, .slice B4 m4 e4, .bool same] 30) := ⟨_, rfl⟩
  have HY3 : Hid (Below w2.heap.size w2 w3) := Lib.hid (by rw [hw3]; exact bel1)
  have HL3 : Hid (w3.heap[bx]? = some (.cells #[.slice (some ⟨r, 0, none⟩) 64 e0, .slice (some ⟨g, 0, none⟩) 64 d1, .slice (some ⟨kq, 0, none⟩) 64 d2, .int .i64 txg, .slice B3 m3 e3, .int .i64 keep, .slice B4 m4 e4, .bool same] 30 (0, 0))) := Lib.hid (by rw [hw3, hbx]; exact heap_alloc_new _ _)
  have HS3 := Lib.hid (HS.out.below HY3.out)
  have HB3 := Lib.hid (HB2.out.trans (HY3.out.mono HB2.out.size))
  have HBX3 := Lib.hid ((HY3.out.block _ l2).trans HBX2.out)
  have z3 : bx < w3.heap.size := by rw [hw3, hbx]; simp
  have l3 : w.heap.size < w3.heap.size := Nat.lt_of_lt_of_le l2 HY3.out.size
  have br : bx ≠ r := by omega
  have bg : bx ≠ g := by omega
  have bk : bx ≠ kq := by omega
  have hBb : B ≤ bx := by omega
  have hbxw : w1.heap.size ≤ bx := by omega
  have hgl : SliceR PtrR 5 w3 B bx B3 m3 e3 gone := by rw [hbx]; exact HS.out.gone.below HY3.out (fun _ _ h => h)
  have HGL := Lib.hid hgl; clear hgl
  have HLG : Hid (gone.length = m3) := Lib.hid HS.out.gone.len
  have hm := HS.out.gone.max
  have hrB := HS.out.ltr; have hgB := HS.out.ltg; have hkB := HS.out.ltk
  have hgk := HS.out.gk; have hrg := HS.out.rg; have hrk := HS.out.rk
  have b0 := cell_of_row _ _ 0 _ _ (0, 0) HBX2.out; have b1 := cell_of_row _ _ 1 _ _ (0, 0) HBX2.out; have b2 := cell_of_row _ _ 2 _ _ (0, 0) HBX2.out; have b3 := cell_of_row _ _ 3 _ _ (0, 0) HBX2.out; have b4 := cell_of_row _ _ 4 _ _ (0, 0) HBX2.out; have b5 := cell_of_row _ _ 5 _ _ (0, 0) HBX2.out; have b6 := cell_of_row _ _ 6 _ _ (0, 0) HBX2.out; have b7 := cell_of_row _ _ 7 _ _ (0, 0) HBX2.out
  go_wp2_with fail
  rw [← hw3, ← hbx]
  have HBE := Lib.hid hbx
  clear hw3 hbx b0 b1 b2 b3 b4 b5 b6 b7
  have HR3 := Lib.hid HS3.out.rows; have HG3 := Lib.hid HS3.out.refs; have HK3 := Lib.hid HS3.out.last
  go_wp2_with fail
  go_loopw [5] (fun i wr => ∃ j : Nat, j ≤ m3 ∧ i = .int .i64 (j : Int) ∧ Hid (RowsB r wr) ∧ Hid (OwnI wr g 64 d1 (dropsS (refs, last) (gone.take j)).1) ∧ Hid (OwnI wr kq 64 d2 (dropsS (refs, last) (gone.take j)).2) ∧ Hid (wr.heap[bx]? = some (.cells #[.slice (some ⟨r, 0, none⟩) 64 e0, .slice (some ⟨g, 0, none⟩) 64 d1, .slice (some ⟨kq, 0, none⟩) 64 d2, .int .i64 txg, .slice B3 m3 e3, .int .i64 keep, .slice B4 m4 e4, .bool same] 30 (0, 0))) ∧ Hid (Chg (· ∈ [bx, r, g, kq]) w3 wr)) (fun i _ => m3 - (intOf i).toNat)
  case atStart => exact ⟨0, Nat.zero_le _, rfl, HR3, HG3, HK3, HL3, Lib.hid (Chg.refl _ _)⟩
  case round =>
    obtain ⟨j, hj, rfl, HRr, HGr, HKr, HBr, HC⟩ := hrel
    have lbr := (Array.getElem?_eq_some_iff.1 HBr.out).1
    have b0 := cell_of_row _ _ 0 _ _ (0, 0) HBr.out; have b1 := cell_of_row _ _ 1 _ _ (0, 0) HBr.out; have b2 := cell_of_row _ _ 2 _ _ (0, 0) HBr.out; have b3 := cell_of_row _ _ 3 _ _ (0, 0) HBr.out; have b4 := cell_of_row _ _ 4 _ _ (0, 0) HBr.out; have b5 := cell_of_row _ _ 5 _ _ (0, 0) HBr.out; have b6 := cell_of_row _ _ 6 _ _ (0, 0) HBr.out; have b7 := cell_of_row _ _ 7 _ _ (0, 0) HBr.out
    by_cases hlt : j < m3
    · obtain ⟨u, hu⟩ : ∃ x, gone[j]? = some x := ⟨gone[j]'(by rw [HLG.out]; exact hlt), List.getElem?_eq_getElem _⟩
      obtain ⟨h8, h63, h1, h900⟩ := drops_one SOK.out hu
      have hsl : SliceR PtrR 5 wr B bx B3 m3 e3 gone := HGL.out.keep (fun b b1 b2 => HC.out.block b (by omega) (by simp; omega)) HC.out.size (fun _ _ h => h)
      obtain ⟨b, off, rfl, hb1, hb2, bl, hc⟩ := hsl.at_ (by omega)
      obtain ⟨cs, hcl, hcc, hr_⟩ := hc j u hu
      have HD := Lib.hid (dropsS_take (s := (refs, last)) hu)
      have HPP := Lib.hid (And.intro h1 h900)
      obtain ⟨a, bi, sz, sm, lv⟩ := u
      obtain rfl := hr_
      have q0 := hcc 0 _ rfl
      simp only [Nat.add_zero] at q0
      have h8 : 8 ≤ a := h8
      have h63 : a ≤ 63 := h63
      obtain ⟨an, rfl⟩ : ∃ m : Nat, a = (m : Int) := ⟨a.toNat, by omega⟩
      have ha : an < 64 := by omega
      have k0 : (0 : Int) ≤ (j : Int) := by omega
      have k1 : (j : Int) < (m3 : Int) := by omega
      have nbr : b ≠ r := by have := HS3.out.ltr; omega
      have nbg : b ≠ g := by have := HS3.out.ltg; omega
      have nbk : b ≠ kq := by have := HS3.out.ltk; omega
      have nbx : b ≠ bx := by omega
      have Q0 := Lib.hid q0
      clear hcc hcl hc hu h1 h900 h8 h63 q0
      go_wp2_with fail
      apply wp_region_rgz (Chg (· ∈ [bx, r, g, kq])) (Ext) (fun y w' k' => w'.heap[bx]? = some (.cells #[.slice (some ⟨r, 0, none⟩) 64 e0, .slice (some ⟨g, 0, none⟩) 64 d1, .slice (some ⟨kq, 0, none⟩) 64 d2, .int .i64 txg, .slice (some ⟨b, off, none⟩) m3 e3, .int .i64 keep, .slice B4 m4 e4, .bool same] 30 (0, 0)) ∧ (k' < 500 → RowsB r w' ∧ OwnI w' g 64 d1 (dropsS (refs, last) (gone.take j)).1 ∧ OwnI w' kq 64 d2 (dropsS (refs, last) (gone.take j)).2) ∧ (1000 ≤ k' → RowsB r w' ∧ OwnI w' g 64 d1 (dropsS (refs, last) (gone.take (j + 1))).1 ∧ OwnI w' kq 64 d2 (dropsS (refs, last) (gone.take (j + 1))).2)) [0, 0, 0, 0, 0, 0, 0, 500, 1000] [1500, 1500, 1500, 1500, 1500, 1500, 1500, 1500, 1000] (by kernel_rfl) (false :: false :: false :: false :: false :: false :: false :: false :: false :: false :: false :: false :: false :: false :: false :: false :: false :: false :: true :: true :: true :: true :: true :: true :: true :: true :: false :: false :: false :: false :: false :: false :: []) [some 18, some 19, some 20, some 21, some 22, some 23, some 24, some 25, none] [[], [], [1], [], [2, 3], [4], [5], [0, 6], [7]] [false, false, false, false, false, false, false, true, true] [true, true, true, true, true, true, true, false, true] [] [MStP.is _, MStP.is _, MStP.is _, MStP.is _, MStP.is _, MStP.is _, MStP.is _, (⟨fun v w' => v = .agg #[.slice (some ⟨r, 0, none⟩) 64 e0, .slice (some ⟨g, 0, none⟩) 64 d1, .slice (some ⟨kq, 0, none⟩) 64 d2, .int .i64 txg, .slice (some ⟨b, off, none⟩) m3 e3, .int .i64 keep, .slice B4 m4 e4, .bool same] ∧ RowsB r w' ∧ OwnI w' g 64 d1 (dropsS (refs, last) (gone.take (j + 1))).1 ∧ OwnI w' kq 64 d2 (dropsS (refs, last) (gone.take (j + 1))).2, false, fun v w w' hs ⟨e, h1, h2, h3⟩ => ⟨e, h1.keep (Below.block hs r h1.lt), h2.below hs, h3.below hs⟩, fun h => by cases h⟩), MStP.is _] (by kernel_rfl) (by kernel_rfl) (by kernel_rfl) (by kernel_rfl)
      case hobs =>
        refine ⟨fun y w' k hS hj hk hF K hK => ?_, ?_⟩
        · skip -- 0: load
          simp only [fillL, cond_true, cond_false, List.getD_cons_zero, List.getD_cons_succ, StP.is, Act.put, List.setIfInBounds_toArray, List.set_cons_zero, List.set_cons_succ, Nat.reduceAdd, MStP.is, Option.isSome_some, Option.isSome_none] at hK ⊢
          simp only [List.sum_cons, List.sum_nil, List.getD_cons_zero, List.getD_cons_succ, Nat.reduceAdd, Nat.add_zero] at hk
          refine rg_yes (by kernel_rfl) ?_
          clear hF
          have hqb := hj.1
          have c0_ := cell_of_row _ _ 0 _ _ (0, 0) hqb
          have c1_ := cell_of_row _ _ 1 _ _ (0, 0) hqb
          have c2_ := cell_of_row _ _ 2 _ _ (0, 0) hqb
          have c3_ := cell_of_row _ _ 3 _ _ (0, 0) hqb
          have c4_ := cell_of_row _ _ 4 _ _ (0, 0) hqb
          have c5_ := cell_of_row _ _ 5 _ _ (0, 0) hqb
          have c6_ := cell_of_row _ _ 6 _ _ (0, 0) hqb
          have c7_ := cell_of_row _ _ 7 _ _ (0, 0) hqb
          have lqb := (Array.getElem?_eq_some_iff.1 hqb).1
          have HJ := Lib.hid hj; clear hj hqb
          go_simp
          have hj := HJ.out
          exact hK _ _ (Ext.refl _) ⟨hj.1, fun h => hj.2.1 (by omega), fun h => absurd h (by omega)⟩ rfl
        refine ⟨fun y w' k hS hj hk hF K hK => ?_, ?_⟩
        · skip -- 1: fieldAddr
          simp only [fillL, cond_true, cond_false, List.getD_cons_zero, List.getD_cons_succ, StP.is, Act.put, List.setIfInBounds_toArray, List.set_cons_zero, List.set_cons_succ, Nat.reduceAdd, MStP.is, Option.isSome_some, Option.isSome_none] at hK ⊢
          simp only [List.sum_cons, List.sum_nil, List.getD_cons_zero, List.getD_cons_succ, Nat.reduceAdd, Nat.add_zero] at hk
          refine rg_yes (by kernel_rfl) ?_
          clear hF
          go_simp
          exact hK _ _ (Ext.refl _) ⟨hj.1, fun h => hj.2.1 (by omega), fun h => absurd h (by omega)⟩ rfl
        refine ⟨fun y w' k hS hj hk hF K hK => ?_, ?_⟩
        · skip -- 2: load
          have e19 : y 19 = _ := hF.1
          have e19' := Lib.hid e19
          simp only [fillL, cond_true, cond_false, List.getD_cons_zero, List.getD_cons_succ, StP.is, Act.put, List.setIfInBounds_toArray, List.set_cons_zero, List.set_cons_succ, Nat.reduceAdd, e19, MStP.is, Option.isSome_some, Option.isSome_none] at hK ⊢
          simp only [List.sum_cons, List.sum_nil, List.getD_cons_zero, List.getD_cons_succ, Nat.reduceAdd, Nat.add_zero] at hk
          refine rg_yes (by kernel_rfl) ?_
          clear e19
          clear hF
          have hqb := hj.1
          have c0_ := cell_of_row _ _ 0 _ _ (0, 0) hqb
          have c1_ := cell_of_row _ _ 1 _ _ (0, 0) hqb
          have c2_ := cell_of_row _ _ 2 _ _ (0, 0) hqb
          have c3_ := cell_of_row _ _ 3 _ _ (0, 0) hqb
          have c4_ := cell_of_row _ _ 4 _ _ (0, 0) hqb
          have c5_ := cell_of_row _ _ 5 _ _ (0, 0) hqb
          have c6_ := cell_of_row _ _ 6 _ _ (0, 0) hqb
          have c7_ := cell_of_row _ _ 7 _ _ (0, 0) hqb
          have lqb := (Array.getElem?_eq_some_iff.1 hqb).1
          have HJ := Lib.hid hj; clear hj hqb
          go_simp
          have hj := HJ.out
          exact hK _ _ (Ext.refl _) ⟨hj.1, fun h => hj.2.1 (by omega), fun h => absurd h (by omega)⟩ rfl
        refine ⟨fun y w' k hS hj hk hF K hK => ?_, ?_⟩
        · skip -- 3: move
          simp only [fillL, cond_true, cond_false, List.getD_cons_zero, List.getD_cons_succ, StP.is, Act.put, List.setIfInBounds_toArray, List.set_cons_zero, List.set_cons_succ, Nat.reduceAdd, MStP.is, Option.isSome_some, Option.isSome_none] at hK ⊢
          simp only [List.sum_cons, List.sum_nil, List.getD_cons_zero, List.getD_cons_succ, Nat.reduceAdd, Nat.add_zero] at hk
          refine rg_yes (by kernel_rfl) ?_
          clear hF
          go_simp
          exact hK _ _ (Ext.refl _) ⟨hj.1, fun h => hj.2.1 (by omega), fun h => absurd h (by omega)⟩ rfl
        refine ⟨fun y w' k hS hj hk hF K hK => ?_, ?_⟩
        · skip -- 4: indexAddr
          have e20 : y 20 = _ := hF.1
          have e21 : y 21 = _ := hF.2.1
          have e20' := Lib.hid e20
          have e21' := Lib.hid e21
          simp only [fillL, cond_true, cond_false, List.getD_cons_zero, List.getD_cons_succ, StP.is, Act.put, List.setIfInBounds_toArray, List.set_cons_zero, List.set_cons_succ, Nat.reduceAdd, e20, e21, MStP.is, Option.isSome_some, Option.isSome_none] at hK ⊢
          simp only [List.sum_cons, List.sum_nil, List.getD_cons_zero, List.getD_cons_succ, Nat.reduceAdd, Nat.add_zero] at hk
          refine rg_yes (by kernel_rfl) ?_
          clear e20 e21
          clear hF
          go_simp
          exact hK _ _ (Ext.refl _) ⟨hj.1, fun h => hj.2.1 (by omega), fun h => absurd h (by omega)⟩ rfl
        refine ⟨fun y w' k hS hj hk hF K hK => ?_, ?_⟩
        · skip -- 5: fieldAddr
          have e22 : y 22 = _ := hF.1
          have e22' := Lib.hid e22
          simp only [fillL, cond_true, cond_false, List.getD_cons_zero, List.getD_cons_succ, StP.is, Act.put, List.setIfInBounds_toArray, List.set_cons_zero, List.set_cons_succ, Nat.reduceAdd, e22, MStP.is, Option.isSome_some, Option.isSome_none] at hK ⊢
          simp only [List.sum_cons, List.sum_nil, List.getD_cons_zero, List.getD_cons_succ, Nat.reduceAdd, Nat.add_zero] at hk
          refine rg_yes (by kernel_rfl) ?_
          clear e22
          clear hF
          go_simp
          exact hK _ _ (Ext.refl _) ⟨hj.1, fun h => hj.2.1 (by omega), fun h => absurd h (by omega)⟩ rfl
        refine ⟨fun y w' k hS hj hk hF K hK => ?_, ?_⟩
        · skip -- 6: load
          have e23 : y 23 = _ := hF.1
          have e23' := Lib.hid e23
          simp only [fillL, cond_true, cond_false, List.getD_cons_zero, List.getD_cons_succ, StP.is, Act.put, List.setIfInBounds_toArray, List.set_cons_zero, List.set_cons_succ, Nat.reduceAdd, e23, MStP.is, Option.isSome_some, Option.isSome_none] at hK ⊢
          simp only [List.sum_cons, List.sum_nil, List.getD_cons_zero, List.getD_cons_succ, Nat.reduceAdd, Nat.add_zero] at hk
          refine rg_yes (by kernel_rfl) ?_
          clear e23
          clear hF
          have qc := (World.cell?_of_block (hS.block b bl (by simp; exact ⟨nbx, nbr, nbg, nbk⟩))).trans Q0.out
          have lqc : b < w'.heap.size := Nat.lt_of_lt_of_le bl hS.size
          have HJ := Lib.hid hj; clear hj
          go_simp
          have hj := HJ.out
          exact hK _ _ (Ext.refl _) ⟨hj.1, fun h => hj.2.1 (by omega), fun h => absurd h (by omega)⟩ rfl
        refine ⟨fun y w' k hS hj hk hF K hK => ?_, ?_⟩
        · skip -- 7: call
          have e18 : y 18 = _ := hF.1
          have e24 : y 24 = _ := hF.2.1
          have e18' := Lib.hid e18
          have e24' := Lib.hid e24
          simp only [fillL, cond_true, cond_false, List.getD_cons_zero, List.getD_cons_succ, StP.is, Act.put, List.setIfInBounds_toArray, List.set_cons_zero, List.set_cons_succ, Nat.reduceAdd, e18, e24, MStP.is, Option.isSome_some, Option.isSome_none] at hK ⊢
          simp only [List.sum_cons, List.sum_nil, List.getD_cons_zero, List.getD_cons_succ, Nat.reduceAdd, Nat.add_zero] at hk
          refine rg_yes (by kernel_rfl) ?_
          clear e18 e24
          clear hF
          obtain ⟨hbo, hA, -⟩ := hj
          obtain ⟨a1_, a2_, a3_⟩ := hA (by omega)
          have HBO := Lib.hid hbo; have HA1 := Lib.hid a1_; have HA2 := Lib.hid a2_; have HA3 := Lib.hid a3_; clear hbo hA a1_ a2_ a3_
          go_simp
          go_at_call 67
          refine (l7Drop_any r g kq e0 d1 d2 txg _ m3 e3 keep B4 m4 e4 same an _ _ w' ha HA1.out HA2.out HA3.out hgk hrg hrk HPP.out).mono ?_
          rintro e w'' ⟨rfl, hr1_, hg1_, hk1_, hc1_⟩
          refine hK _ _ (hc1_.mono (fun b _ hb => by simp at hb ⊢; exact .inr hb)) ⟨(hc1_.block bx (Array.getElem?_eq_some_iff.1 HBO.out).1 (by simp; exact ⟨br, bg, bk⟩)).trans HBO.out, fun h => absurd h (by omega), fun h => absurd h (by omega)⟩ ⟨rfl, hr1_, ?_, ?_⟩
          · rw [HD.out]; exact hg1_
          · rw [HD.out]; exact hk1_
        refine ⟨fun y w' k hS hj hk hF K hK => ?_, ?_⟩
        · skip -- 8: store
          obtain ⟨e25, sr, sg, sk⟩ := hF.1
          have HSR := Lib.hid sr; have HSG := Lib.hid sg; have HSK := Lib.hid sk; clear sr sg sk
          have e25' := Lib.hid e25
          simp only [fillL, cond_true, cond_false, List.getD_cons_zero, List.getD_cons_succ, StP.is, Act.put, List.setIfInBounds_toArray, List.set_cons_zero, List.set_cons_succ, Nat.reduceAdd, e25, MStP.is, Option.isSome_some, Option.isSome_none] at hK ⊢
          simp only [List.sum_cons, List.sum_nil, List.getD_cons_zero, List.getD_cons_succ, Nat.reduceAdd, Nat.add_zero] at hk
          refine rg_yes (by kernel_rfl) ?_
          clear e25
          clear hF
          have hqb := hj.1
          have c0_ := cell_of_row _ _ 0 _ _ (0, 0) hqb; have f0_ := block_free hqb 0
          have c1_ := cell_of_row _ _ 1 _ _ (0, 0) hqb; have f1_ := block_free hqb 1
          have c2_ := cell_of_row _ _ 2 _ _ (0, 0) hqb; have f2_ := block_free hqb 2
          have c3_ := cell_of_row _ _ 3 _ _ (0, 0) hqb; have f3_ := block_free hqb 3
          have c4_ := cell_of_row _ _ 4 _ _ (0, 0) hqb; have f4_ := block_free hqb 4
          have c5_ := cell_of_row _ _ 5 _ _ (0, 0) hqb; have f5_ := block_free hqb 5
          have c6_ := cell_of_row _ _ 6 _ _ (0, 0) hqb; have f6_ := block_free hqb 6
          have c7_ := cell_of_row _ _ 7 _ _ (0, 0) hqb; have f7_ := block_free hqb 7
          have lqb := (Array.getElem?_eq_some_iff.1 hqb).1
          have HQB := Lib.hid hqb; clear hj hqb
          go_simp
          exact hK undef _ (Chg.setCell (p := ⟨bx, 7, none⟩) (Chg.setCell (p := ⟨bx, 6, none⟩) (Chg.setCell (p := ⟨bx, 5, none⟩) (Chg.setCell (p := ⟨bx, 4, none⟩) (Chg.setCell (p := ⟨bx, 3, none⟩) (Chg.setCell (p := ⟨bx, 2, none⟩) (Chg.setCell (p := ⟨bx, 1, none⟩) (Chg.setCell (p := ⟨bx, 0, none⟩) (Chg.refl _ _) (.inl (by simp)) _) (.inl (by simp)) _) (.inl (by simp)) _) (.inl (by simp)) _) (.inl (by simp)) _) (.inl (by simp)) _) (.inl (by simp)) _) (.inl (by simp)) _) ⟨set_8s HQB.out, fun h => absurd h (by omega), fun _ => ⟨HSR.out.keep (far8s br.symm), HSG.out.keep (far8s bg.symm), HSK.out.keep (far8s bk.symm)⟩⟩ rfl
        trivial
      case hH => rfl
      case hNS => exact fun _ _ h => Chg.of_below h _
      case hSt => exact fun a b => Chg.trans a b
      case hb => rfl
      case hdrew => exact (Chg.refl _ _).drewN 1
      case hj0 => exact fun y => ⟨HBr.out, fun _ => ⟨HRr.out.keep rfl, HGr.out.drewN 1, HKr.out.drewN 1⟩, fun h => absurd h (by omega)⟩
      case hend =>
        intro y_ w8 hS hJ hF
        obtain ⟨hbo, -, hA⟩ := hJ
        obtain ⟨a1_, a2_, a3_⟩ := hA (by decide)
        have E1 := Lib.hid hbo; have E2 := Lib.hid a1_; have E3 := Lib.hid a2_; have E4 := Lib.hid a3_
        have E5 := Lib.hid (HC.out.trans hS)
        clear hF hA hbo a1_ a2_ a3_ hS b0 b1 b2 b3 b4 b5 b6 b7
        simp only [fillL, cond_true, cond_false, Nat.reduceAdd]
        go_wp2_with fail
        go_roundw
        case rel => exact ⟨j + 1, by omega, by go_num, E2, E3, E4, E1, E5⟩
        case measure => simp [intOf]; omega
    · obtain rfl : j = m3 := by omega
      have hT : gone.take j = gone := List.take_of_length_le (by rw [HLG.out]; exact Nat.le_refl _)
      rw [hT] at HGr HKr
      have hge : ∀ b, b ∈ [bx, r, g, kq] → w1.heap.size ≤ b := by intro b hb; simp at hb; rcases hb with rfl | rfl | rfl | rfl <;> omega
      have HBw : Hid (Below w.heap.size w wr) := Lib.hid (HB3.out.trans (HC.out.below (fun b _ hb => by have := hge b hb; omega) HB3.out.size))
      have HBXr := Lib.hid ((HC.out.block w.heap.size l3 (fun hm => by have := hge _ hm; omega)).trans HBX3.out)
      have l4 := (Array.getElem?_eq_some_iff.1 HBXr.out).1
      have hI : ∀ W, Below wr.heap.size wr W → IntsAt W A1 64 refs ∧ IntsAt W A2 64 last := fun W hb => by
        have hw : Below w.heap.size w W := HBw.out.trans (hb.mono HBw.out.size)
        exact ⟨(H1.out.below hw (IntR.below hw H1.out.lo_le)).ints, (H2.out.below hw (IntR.below hw H2.out.lo_le)).ints⟩
      have HI := Lib.hid hI
      have HSP1 : Hid (spRoom refs last = (roomTo refs 56 : Int)) := Lib.hid (by unfold spRoom; rw [if_pos SOK.out.sp])
      have HSP2 : Hid (spRoom (dropsS (refs, last) gone).1 (dropsS (refs, last) gone).2 = (roomTo (dropsS (refs, last) gone).1 56 : Int)) := Lib.hid (by
        have h_ := (drops_ok SOK.out gone.length (Nat.le_refl _)).1
        have h2_ : SpOk (dropsS (refs, last) (gone.take gone.length)).1 (dropsS (refs, last) (gone.take gone.length)).2 := h_
        rw [List.take_length] at h2_
        unfold spRoom
        rw [if_pos (spOk_iff.2 h2_)])
      clear hI hge hT
      have k1 : ¬ (j : Int) < (j : Int) := by omega
      have x0 := cell_of_row _ _ 0 _ _ (0, 0) HBXr.out; have x1 := cell_of_row _ _ 1 _ _ (0, 0) HBXr.out; have x2 := cell_of_row _ _ 2 _ _ (0, 0) HBXr.out; have x3 := cell_of_row _ _ 3 _ _ (0, 0) HBXr.out; have x4 := cell_of_row _ _ 4 _ _ (0, 0) HBXr.out; have x5 := cell_of_row _ _ 5 _ _ (0, 0) HBXr.out; have x6 := cell_of_row _ _ 6 _ _ (0, 0) HBXr.out; have x7 := cell_of_row _ _ 7 _ _ (0, 0) HBXr.out
      go_wp2_with fail
      apply wp_region_rg (by kernel_rfl) (false :: false :: true :: true :: false :: false :: false :: false :: false :: false :: false :: false :: false :: false :: false :: false :: false :: false :: false :: false :: false :: false :: false :: false :: false :: false :: true :: true :: true :: true :: true :: true :: []) [some 26, some 27, some 28, some 29, some 30, some 31, some 2, some 3] [[], [0], [1], [], [3], [4], [2], [5]] [StP.is _, StP.is _, StP.is _, StP.is _, StP.is _, StP.is _, StP.is _, StP.is _] (by kernel_rfl)
      case hobs =>
        refine ⟨fun y w' hS hF K hK => ?_, ?_⟩
        · skip -- 0: fieldAddr
          simp only [fillL, cond_true, cond_false, List.getD_cons_zero, List.getD_cons_succ, StP.is, Act.put, List.setIfInBounds_toArray, List.set_cons_zero, List.set_cons_succ, Nat.reduceAdd] at hK ⊢
          refine rg_yes (by kernel_rfl) ?_
          clear hF
          go_simp
          exact hK _ _ (Ext.refl _) rfl
        refine ⟨fun y w' hS hF K hK => ?_, ?_⟩
        · skip -- 1: load
          have e26 : y 26 = _ := hF.1
          simp only [fillL, cond_true, cond_false, List.getD_cons_zero, List.getD_cons_succ, StP.is, Act.put, List.setIfInBounds_toArray, List.set_cons_zero, List.set_cons_succ, Nat.reduceAdd, e26] at hK ⊢
          refine rg_yes (by kernel_rfl) ?_
          have qx0_ := (Below.cell hS l4).trans x0
          have qx1_ := (Below.cell hS l4).trans x1
          have qx2_ := (Below.cell hS l4).trans x2
          have qx3_ := (Below.cell hS l4).trans x3
          have qx4_ := (Below.cell hS l4).trans x4
          have qx5_ := (Below.cell hS l4).trans x5
          have qx6_ := (Below.cell hS l4).trans x6
          have qx7_ := (Below.cell hS l4).trans x7
          have qx8_ := (Below.cell hS lbr).trans b0
          have qx9_ := (Below.cell hS lbr).trans b1
          have qx10_ := (Below.cell hS lbr).trans b2
          have qx11_ := (Below.cell hS lbr).trans b3
          have qx12_ := (Below.cell hS lbr).trans b4
          have qx13_ := (Below.cell hS lbr).trans b5
          have qx14_ := (Below.cell hS lbr).trans b6
          have qx15_ := (Below.cell hS lbr).trans b7
          clear e26
          clear hF
          go_simp
          exact hK _ _ (Ext.refl _) rfl
        refine ⟨fun y w' hS hF K hK => ?_, ?_⟩
        · skip -- 2: call
          have e27 : y 27 = _ := hF.1
          simp only [fillL, cond_true, cond_false, List.getD_cons_zero, List.getD_cons_succ, StP.is, Act.put, List.setIfInBounds_toArray, List.set_cons_zero, List.set_cons_succ, Nat.reduceAdd, e27] at hK ⊢
          refine rg_yes (by kernel_rfl) ?_
          clear e27
          clear hF
          go_simp
          go_at_call 68
          refine (spSpaceRoom_any _ _ _ _ _ _ refs last _ (HI.out w' hS).1 (HI.out w' hS).2).mono ?_
          rw [HSP1.out]
          rintro e w'' ⟨rfl, hb⟩
          exact hK _ _ hb rfl
        refine ⟨fun y w' hS hF K hK => ?_, ?_⟩
        · skip -- 3: fieldAddr
          simp only [fillL, cond_true, cond_false, List.getD_cons_zero, List.getD_cons_succ, StP.is, Act.put, List.setIfInBounds_toArray, List.set_cons_zero, List.set_cons_succ, Nat.reduceAdd] at hK ⊢
          refine rg_yes (by kernel_rfl) ?_
          clear hF
          go_simp
          exact hK _ _ (Ext.refl _) rfl
        refine ⟨fun y w' hS hF K hK => ?_, ?_⟩
        · skip -- 4: load
          have e29 : y 29 = _ := hF.1
          simp only [fillL, cond_true, cond_false, List.getD_cons_zero, List.getD_cons_succ, StP.is, Act.put, List.setIfInBounds_toArray, List.set_cons_zero, List.set_cons_succ, Nat.reduceAdd, e29] at hK ⊢
          refine rg_yes (by kernel_rfl) ?_
          have qx0_ := (Below.cell hS l4).trans x0
          have qx1_ := (Below.cell hS l4).trans x1
          have qx2_ := (Below.cell hS l4).trans x2
          have qx3_ := (Below.cell hS l4).trans x3
          have qx4_ := (Below.cell hS l4).trans x4
          have qx5_ := (Below.cell hS l4).trans x5
          have qx6_ := (Below.cell hS l4).trans x6
          have qx7_ := (Below.cell hS l4).trans x7
          have qx8_ := (Below.cell hS lbr).trans b0
          have qx9_ := (Below.cell hS lbr).trans b1
          have qx10_ := (Below.cell hS lbr).trans b2
          have qx11_ := (Below.cell hS lbr).trans b3
          have qx12_ := (Below.cell hS lbr).trans b4
          have qx13_ := (Below.cell hS lbr).trans b5
          have qx14_ := (Below.cell hS lbr).trans b6
          have qx15_ := (Below.cell hS lbr).trans b7
          clear e29
          clear hF
          go_simp
          exact hK _ _ (Ext.refl _) rfl
        refine ⟨fun y w' hS hF K hK => ?_, ?_⟩
        · skip -- 5: call
          have e30 : y 30 = _ := hF.1
          simp only [fillL, cond_true, cond_false, List.getD_cons_zero, List.getD_cons_succ, StP.is, Act.put, List.setIfInBounds_toArray, List.set_cons_zero, List.set_cons_succ, Nat.reduceAdd, e30] at hK ⊢
          refine rg_yes (by kernel_rfl) ?_
          clear e30
          clear hF
          go_simp
          go_at_call 68
          refine (spSpaceRoom_any _ _ _ _ _ _ (dropsS (refs, last) gone).1 (dropsS (refs, last) gone).2 _ (HGr.out.below hS).at_ (HKr.out.below hS).at_).mono ?_
          rw [HSP2.out]
          rintro e w'' ⟨rfl, hb⟩
          exact hK _ _ hb rfl
        refine ⟨fun y w' hS hF K hK => ?_, ?_⟩
        · skip -- 6: assign
          have e28 : y 28 = _ := hF.1
          simp only [fillL, cond_true, cond_false, List.getD_cons_zero, List.getD_cons_succ, StP.is, Act.put, List.setIfInBounds_toArray, List.set_cons_zero, List.set_cons_succ, Nat.reduceAdd, e28] at hK ⊢
          refine rg_yes (by kernel_rfl) ?_
          clear e28
          clear hF
          go_simp
          exact hK _ _ (Ext.refl _) rfl
        refine ⟨fun y w' hS hF K hK => ?_, ?_⟩
        · skip -- 7: assign
          have e31 : y 31 = _ := hF.1
          simp only [fillL, cond_true, cond_false, List.getD_cons_zero, List.getD_cons_succ, StP.is, Act.put, List.setIfInBounds_toArray, List.set_cons_zero, List.set_cons_succ, Nat.reduceAdd, e31] at hK ⊢
          refine rg_yes (by kernel_rfl) ?_
          clear e31
          clear hF
          go_simp
          exact hK _ _ (Ext.refl _) rfl
        trivial
      case hend =>
        intro y w5 hX hF
        have f2 : y 2 = _ := hF.2.2.2.2.2.2.1
        have f3 : y 3 = _ := hF.2.2.2.2.2.2.2.1
        clear hF
        simp only [fillL, cond_true, cond_false, Nat.reduceAdd, f2, f3]
        have HB5 : Hid (Below w.heap.size w w5) := Lib.hid (HBw.out.trans (Below.mono hX HBw.out.size))
        clear hX f2 f3 b0 b1 b2 b3 b4 b5 b6 b7 x0 x1 x2 x3 x4 x5 x6 x7
        go_wp2_with fail
        exact bodyPost_ret (v := .tuple #[.int .i64 (roomTo refs 56 : Int), .int .i64 (roomTo (dropsS (refs, last) gone).1 56 : Int)]) (by simp [results, Try.results22, go_sem]) rfl ⟨rfl, HB5.out⟩
end Go.Proofs.Ytffieobjcipeoaa
