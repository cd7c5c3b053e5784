/- TableFree and TableGet of the reference. No condition. -/
import Derived.Test.YtjnhiiaejeaikaaGreatDoorRTableGet
import Derived.Test.YtjnhiiaejeaikaaGreatDoorRTableOkS
set_option linter.unnecessarySimpa false
set_option linter.unusedSimpArgs false
set_option linter.unusedVariables false
namespace Go.Proofs.YtjnhiiaejeaikaaGreatDoor
open Go Go.Lib Go.RowKit
theorem tableF_rows {x : StoreD} {a b s m l d n : Int} {L : List (Option NodeD)} (h : tableF x ((a, b, s, m, l), d, n) = some L) : ∃ (dn nn : Nat) (ls : List PtrD), d = (dn : Int) ∧ n = (nn : Int) ∧ TreeV x a b s m l dn nn ls ∧ L.length = nn ∧ nn ≤ 16 ∧ ∀ j p, j < nn → ls[j]? = some p → L[j]? = some (nodeP x p) ∧ rowN x p = true := by
 obtain ⟨ls, hT, hL, hrow, hlen, h16⟩ := tableF_some h
 obtain ⟨dn, nn, rfl, rfl, hv⟩ := TreeV.of hT
 simp only [Int.toNat_natCast] at hL hrow hlen
 refine ⟨dn, nn, ls, rfl, rfl, hv, hlen, by omega, fun j p hj hp => ?_⟩
 have ht : (ls.take nn)[j]? = some p := by rw [List.getElem?_take, if_pos hj]; exact hp
 exact ⟨by rw [hL, List.getElem?_map, ht]; rfl, hrow p (List.mem_of_getElem? ht)⟩
theorem nodeGet_nil : nodeGet [] = none := node_len (s := []) (L := []) ⟨rfl, by simp, by simp⟩ (by simp)
set_option maxRecDepth 100000 in
set_option maxHeartbeats 8000000 in
theorem l11Free_any (cs : List Value) (x : StoreD) (a b s m l d n : Int) (L : List (Option NodeD)) (w : World) (lo hi : Nat) (h : StoreR w lo hi cs x) (hhi : hi ≤ w.heap.size) (h64 : x.1.length = 64) (hz : ∀ r ∈ x.1, r.size ≤ 128) (hG : tableF x ((a, b, s, m, l), d, n) = some L) :
 Calls Tryz.prog 41 #[.agg cs.toArray, .agg #[.int .i64 a, .int .i64 b, .int .i64 s, .int .i64 m, .int .i64 l, .int .i64 d, .int .i64 n]] w fun e w' => e = .returned (.int .i64 (freeF L)) ∧ Below w.heap.size w w' := by
 have HTX0 := Lib.hid (fun (W : World) (hb : Below w.heap.size w W) (dn nn : Nat) (ls : List PtrD) (hv : TreeV x a b s m l dn nn ls) => l8Texts_any cs x a b s m l dn nn ls W lo hi (StoreR.below hb hhi cs x h) (Nat.le_trans hhi hb.size) h64 hz hv)
 clear hhi h64 hz
 obtain ⟨dn, nn, ls, rfl, rfl, hv, hLn, hn16, hLr⟩ := tableF_rows hG
 have HV := Lib.hid hv; have HLR := Lib.hid hLr; have HLN := Lib.hid hLn; clear hv hLr hLn hG
 obtain ⟨rows, ⟨refs, last⟩, txg, gone, keep, dead, same⟩ := x
 obtain ⟨A0, n0, c0, A1, n1, c1, A2, n2, c2, A3, n3, c3, A4, n4, c4, rfl, h0, h1, h2, h3, h4⟩ := h
 clear h0 h1 h2 h3 h4
 have HTX : Hid (∀ (W : World), Below w.heap.size w W → ∀ (dn nn : Nat) (ls : List PtrD), TreeV (rows, (refs, last), txg, gone, keep, dead, same) a b s m l dn nn ls → Calls Tryz.prog 27 #[.agg #[.slice A0 n0 c0, .slice A1 n1 c1, .slice A2 n2 c2, .int .i64 txg, .slice A3 n3 c3, .int .i64 keep, .slice A4 n4 c4, .bool same], .agg #[.int .i64 a, .int .i64 b, .int .i64 s, .int .i64 m, .int .i64 l, .int .i64 (dn : Int), .int .i64 (nn : Int)]] W (NewStrs (textsT (rows, (refs, last), txg, gone, keep, dead, same) nn ls) W)) := Lib.hid (fun W hb dn nn ls hv => HTX0.out W hb dn nn ls hv)
 clear HTX0
 show Calls Tryz.prog 41 #[.agg #[.slice A0 n0 c0, .slice A1 n1 c1, .slice A2 n2 c2, .int .i64 txg, .slice A3 n3 c3, .int .i64 keep, .slice A4 n4 c4, .bool same], .agg #[.int .i64 a, .int .i64 b, .int .i64 s, .int .i64 m, .int .i64 l, .int .i64 (dn : Int), .int .i64 (nn : Int)]] w _
 generalize hX : ((rows, (refs, last), txg, gone, keep, dead, same) : StoreD) = X at *
 clear hX
 go_enter Tryz.func41, Tryz.ntmps41
 obtain ⟨w2, hw2⟩ : ∃ W, W = (w.alloc (.cells #[.slice A0 n0 c0, .slice A1 n1 c1, .slice A2 n2 c2, .int .i64 txg, .slice A3 n3 c3, .int .i64 keep, .slice A4 n4 c4, .bool same] 39)).alloc (.cells #[.int .i64 a, .int .i64 b, .int .i64 s, .int .i64 m, .int .i64 l, .int .i64 (dn : Int), .int .i64 (nn : Int)] 43) := ⟨_, rfl⟩
 have HB2 : Hid (Below w.heap.size w w2) := Lib.hid (by rw [hw2]; exact bel2)
 have HSX : Hid (w2.heap[w.heap.size]? = some (.cells #[.slice A0 n0 c0, .slice A1 n1 c1, .slice A2 n2 c2, .int .i64 txg, .slice A3 n3 c3, .int .i64 keep, .slice A4 n4 c4, .bool same] 39 (0, 0))) := Lib.hid (by rw [hw2]; exact (Below.heap_alloc _ _ _ (by simp)).trans (heap_alloc_new _ _))
 have HTR : Hid (w2.heap[w.heap.size + 1]? = some (.cells #[.int .i64 a, .int .i64 b, .int .i64 s, .int .i64 m, .int .i64 l, .int .i64 (dn : Int), .int .i64 (nn : Int)] 43 (0, 0))) := Lib.hid (by rw [hw2]; have := heap_alloc_new (w.alloc (.cells #[.slice A0 n0 c0, .slice A1 n1 c1, .slice A2 n2 c2, .int .i64 txg, .slice A3 n3 c3, .int .i64 keep, .slice A4 n4 c4, .bool same] 39)) (.cells #[.int .i64 a, .int .i64 b, .int .i64 s, .int .i64 m, .int .i64 l, .int .i64 (dn : Int), .int .i64 (nn : Int)] 43); simpa using this)
 have l2 : w.heap.size < w2.heap.size := (Array.getElem?_eq_some_iff.1 HSX.out).1
 have l2x : w.heap.size + 1 < w2.heap.size := (Array.getElem?_eq_some_iff.1 HTR.out).1
 go_wp2_with fail
 rw [← hw2]; clear hw2
 have s0 := celR 0 HSX.out; have s1 := celR 1 HSX.out; have s2 := celR 2 HSX.out; have s3 := celR 3 HSX.out; have s4 := celR 4 HSX.out; have s5 := celR 5 HSX.out; have s6 := celR 6 HSX.out; have s7 := celR 7 HSX.out
 have t0 := celR 0 HTR.out; have t1 := celR 1 HTR.out; have t2 := celR 2 HTR.out; have t3 := celR 3 HTR.out; have t4 := celR 4 HTR.out; have t5 := celR 5 HTR.out; have t6 := celR 6 HTR.out
 go_wp2_with fail
 refine (HTX.out w2 HB2.out dn nn ls HV.out).mono ?_
 rintro e w4 ⟨A, c, rfl, hI, hb4⟩
 have HTL : Hid ((textsT X nn ls).length = nn) := Lib.hid (textsT_len HV.out.nn)
 obtain ⟨NN, hNN⟩ : ∃ NN, NN = (textsT X nn ls).length := ⟨_, rfl⟩
 rw [← hNN]
 obtain rfl : NN = nn := hNN.trans HTL.out
 have HB4 := Lib.hid (HB2.out.trans (hb4.mono HB2.out.size))
 have HI := Lib.hid hI
 clear hb4 hI hNN s0 s1 s2 s3 s4 s5 s6 s7 t0 t1 t2 t3 t4 t5 t6
 go_wp2_with fail
 go_loopw [6] (fun i wr => ∃ k : Nat, k ≤ 16 ∧ i = .int .i64 (k : Int) ∧ Hid (∀ j : Nat, j < k → (getF L (j : Int)).isSome = true) ∧ Hid (Below w4.heap.size w4 wr)) (fun i _ => 16 - (RowKit.intOf i).toNat)
 case atStart => exact ⟨0, Nat.zero_le _, rfl, Lib.hid (fun j hj => absurd hj (by omega)), Lib.hid (Below.refl _ _)⟩
 obtain ⟨k, hk, rfl, HPR, HB5⟩ := hrel
 have HBW := Lib.hid (HB4.out.trans (HB5.out.mono HB4.out.size))
 have k0 : (0 : Int) ≤ (k : Int) := by omega
 by_cases hlt : k < 16
 case neg =>
  have k1 : ¬ (k : Int) < 16 := by omega
  have HN := Lib.hid (freeF_no (L := L) (fun j hj => HPR.out j (by omega)))
  go_wp2_with fail
  go_ret
  exact ⟨by rw [HN.out]; rfl, HBW.out⟩
 have k1 : (k : Int) < 16 := by omega
 by_cases hln : k < NN
 case neg =>
  have k2 : decide ((k : Int) ≥ (NN : Int)) = true := by simp; omega
  have k3 : ((NN : Int) ≤ (k : Int)) := by omega
  have HN := Lib.hid (freeF_yes hlt HPR.out (getF_out (L := L) (k := (k : Int)) (by rw [HLN.out]; omega)))
  go_wp2_with fail
  go_ret
  exact ⟨by rw [HN.out]; rfl, HBW.out⟩
 have k2 : ¬ ((NN : Int) ≤ (k : Int)) := by omega
 have k3 : (k : Int) < (NN : Int) := by omega
 obtain ⟨pp, hp⟩ : ∃ q, ls[k]? = some q := ⟨ls[k]'(by have := HV.out.nn; omega), List.getElem?_eq_getElem _⟩
 obtain ⟨ts, hts⟩ : ∃ ts, ts = (textP X pp).data.toList := ⟨_, rfl⟩
 have hx := textsT_get (x := X) hp hln
 rw [← hts] at hx
 obtain ⟨g, hA, lg, hc⟩ := (HI.out.below HB5.out).cellP hx
 subst hA
 have HX := Lib.hid hp
 have HRS := HV.out.read pp (List.mem_of_getElem? hp)
 obtain ⟨hg1, hg2⟩ := HLR.out k pp hln hp
 have HGK : Hid (getF L (k : Int) = nodeP X pp) := Lib.hid (getF_in hg1)
 have HNT : Hid (ts = [] ↔ nodeP X pp = none) := Lib.hid (by
  rw [← nodeP_text HRS hg2, hts]
  constructor
  · intro e; show (textP X pp).data.size = 0; rw [← Array.length_toList, e]; rfl
  · intro e; have e' : (textP X pp).data.size = 0 := e; rw [← Array.length_toList] at e'; exact List.eq_nil_of_length_eq_zero e')
 clear hp hx hts HRS hg1 hg2
 by_cases hh : ts = []
 · have HN := Lib.hid (freeF_yes hlt HPR.out (HGK.out.trans (HNT.out.1 hh)))
   subst hh
   have dz : ((strB []).toList == []) = true := by rw [strB_list]; rfl
   have dz2 : (strB []).toList.isEmpty = true := by rw [strB_list]; rfl
   go_wp2_with fail
   go_ret
   exact ⟨by rw [HN.out]; rfl, HBW.out⟩
 have HPR' : Hid (∀ j : Nat, j < k + 1 → (getF L (j : Int)).isSome = true) := Lib.hid (fun j hj => by
  by_cases e : j = k
  · rw [e, HGK.out]
    cases hn : nodeP X pp with
    | none => exact absurd (HNT.out.2 hn) hh
    | some _ => rfl
  · exact HPR.out j (by omega))
 have dz : ((strB ts).toList == []) = false := by
  rw [strB_list]
  cases ts with
  | nil => exact absurd rfl hh
  | cons c cs => rfl
 have dz2 : (strB ts).toList.isEmpty = false := by
  rw [strB_list]
  cases ts with
  | nil => exact absurd rfl hh
  | cons c cs => rfl
 clear hh
 go_wp2_with fail
 go_roundw
 case rel => first | exact ⟨k + 1, by omega, by go_num, HPR', HB5⟩ | ((repeat apply Exists.intro); exact ⟨⟨k + 1, by omega, by go_num, HPR', HB5⟩, rfl⟩)
 simp [RowKit.intOf]; omega
set_option maxRecDepth 100000 in
set_option maxHeartbeats 8000000 in
theorem l11Get_any (cs : List Value) (x : StoreD) (a b s m l d n : Int) (k : Int) (L : List (Option NodeD)) (w : World) (lo hi : Nat) (h : StoreR w lo hi cs x) (hhi : hi ≤ w.heap.size) (h64 : x.1.length = 64) (hz : ∀ r ∈ x.1, r.size ≤ 128) (hG : tableF x ((a, b, s, m, l), d, n) = some L) :
 Calls Tryz.prog 43 #[.agg cs.toArray, .agg #[.int .i64 a, .int .i64 b, .int .i64 s, .int .i64 m, .int .i64 l, .int .i64 d, .int .i64 n], .int .i64 k] w fun e w' => e = .returned (gotN (getF L k)) ∧ Below w.heap.size w w' := by
 have HGT0 := Lib.hid (fun (W : World) (hb : Below w.heap.size w W) (dn nn : Nat) (ls : List PtrD) (hv : TreeV x a b s m l dn nn ls) (q : Nat) (hq : q < nn) => l8Get_any cs x a b s m l dn nn q ls W lo hi (StoreR.below hb hhi cs x h) (Nat.le_trans hhi hb.size) h64 hz hv hq)
 clear hhi h64 hz
 obtain ⟨dn, nn, ls, rfl, rfl, hv, hLn, hn16, hLr⟩ := tableF_rows hG
 have HV := Lib.hid hv; have HLR := Lib.hid hLr; have HLN := Lib.hid hLn; clear hv hLr hLn hG
 obtain ⟨rows, ⟨refs, last⟩, txg, gone, keep, dead, same⟩ := x
 obtain ⟨A0, n0, c0, A1, n1, c1, A2, n2, c2, A3, n3, c3, A4, n4, c4, rfl, h0, h1, h2, h3, h4⟩ := h
 clear h0 h1 h2 h3 h4
 have HGT : Hid (∀ (W : World), Below w.heap.size w W → ∀ (dn nn : Nat) (ls : List PtrD), TreeV (rows, (refs, last), txg, gone, keep, dead, same) a b s m l dn nn ls → ∀ q : Nat, q < nn → Calls Tryz.prog 60 #[.agg #[.slice A0 n0 c0, .slice A1 n1 c1, .slice A2 n2 c2, .int .i64 txg, .slice A3 n3 c3, .int .i64 keep, .slice A4 n4 c4, .bool same], .agg #[.int .i64 a, .int .i64 b, .int .i64 s, .int .i64 m, .int .i64 l, .int .i64 (dn : Int), .int .i64 (nn : Int)], .int .i64 (q : Int)] W fun e w' => (∃ p, ls[q]? = some p ∧ e = .returned (.string (textP (rows, (refs, last), txg, gone, keep, dead, same) p))) ∧ Below W.heap.size W w') := Lib.hid (fun W hb dn nn ls hv q hq => HGT0.out W hb dn nn ls hv q hq)
 clear HGT0
 show Calls Tryz.prog 43 #[.agg #[.slice A0 n0 c0, .slice A1 n1 c1, .slice A2 n2 c2, .int .i64 txg, .slice A3 n3 c3, .int .i64 keep, .slice A4 n4 c4, .bool same], .agg #[.int .i64 a, .int .i64 b, .int .i64 s, .int .i64 m, .int .i64 l, .int .i64 (dn : Int), .int .i64 (nn : Int)], .int .i64 k] w _
 generalize hX : ((rows, (refs, last), txg, gone, keep, dead, same) : StoreD) = X at *
 clear hX
 go_enter Tryz.func43, Tryz.ntmps43
 obtain ⟨w2, hw2⟩ : ∃ W, W = ((w.alloc (.cells #[.slice A0 n0 c0, .slice A1 n1 c1, .slice A2 n2 c2, .int .i64 txg, .slice A3 n3 c3, .int .i64 keep, .slice A4 n4 c4, .bool same] 39)).alloc (.cells #[.int .i64 a, .int .i64 b, .int .i64 s, .int .i64 m, .int .i64 l, .int .i64 (dn : Int), .int .i64 (nn : Int)] 43)).alloc (.cells #[.int .i64 0, .int .i64 0, .int .i64 0, .int .i64 0, .int .i64 0, .int .i64 0, .int .i64 0, .int .i64 0, .int .i64 0, .int .i64 0] 53) := ⟨_, rfl⟩
 have HB2 : Hid (Below w.heap.size w w2) := Lib.hid (by rw [hw2]; exact bel3)
 have HSX : Hid (w2.heap[w.heap.size]? = some (.cells #[.slice A0 n0 c0, .slice A1 n1 c1, .slice A2 n2 c2, .int .i64 txg, .slice A3 n3 c3, .int .i64 keep, .slice A4 n4 c4, .bool same] 39 (0, 0))) := Lib.hid (by rw [hw2]; exact (Below.heap_alloc _ _ _ (by simp <;> omega)).trans ((Below.heap_alloc _ _ _ (by simp)).trans (heap_alloc_new _ _)))
 have HTR : Hid (w2.heap[w.heap.size + 1]? = some (.cells #[.int .i64 a, .int .i64 b, .int .i64 s, .int .i64 m, .int .i64 l, .int .i64 (dn : Int), .int .i64 (nn : Int)] 43 (0, 0))) := Lib.hid (by rw [hw2]; have := heap_alloc_new (w.alloc (.cells #[.slice A0 n0 c0, .slice A1 n1 c1, .slice A2 n2 c2, .int .i64 txg, .slice A3 n3 c3, .int .i64 keep, .slice A4 n4 c4, .bool same] 39)) (.cells #[.int .i64 a, .int .i64 b, .int .i64 s, .int .i64 m, .int .i64 l, .int .i64 (dn : Int), .int .i64 (nn : Int)] 43); refine (Below.heap_alloc _ _ _ (by simp)).trans ?_; simpa using this)
 have HND : Hid (w2.heap[w.heap.size + 2]? = some (.cells #[.int .i64 0, .int .i64 0, .int .i64 0, .int .i64 0, .int .i64 0, .int .i64 0, .int .i64 0, .int .i64 0, .int .i64 0, .int .i64 0] 53 (0, 0))) := Lib.hid (by rw [hw2]; have := heap_alloc_new ((w.alloc (.cells #[.slice A0 n0 c0, .slice A1 n1 c1, .slice A2 n2 c2, .int .i64 txg, .slice A3 n3 c3, .int .i64 keep, .slice A4 n4 c4, .bool same] 39)).alloc (.cells #[.int .i64 a, .int .i64 b, .int .i64 s, .int .i64 m, .int .i64 l, .int .i64 (dn : Int), .int .i64 (nn : Int)] 43)) (.cells #[.int .i64 0, .int .i64 0, .int .i64 0, .int .i64 0, .int .i64 0, .int .i64 0, .int .i64 0, .int .i64 0, .int .i64 0, .int .i64 0] 53); simpa using this)
 have l2 : w.heap.size < w2.heap.size := (Array.getElem?_eq_some_iff.1 HSX.out).1
 have l2x : w.heap.size + 1 < w2.heap.size := (Array.getElem?_eq_some_iff.1 HTR.out).1
 have l2n : w.heap.size + 2 < w2.heap.size := (Array.getElem?_eq_some_iff.1 HND.out).1
 go_wp2_with fail
 rw [← hw2]; clear hw2
 have s0 := celR 0 HSX.out; have s1 := celR 1 HSX.out; have s2 := celR 2 HSX.out; have s3 := celR 3 HSX.out; have s4 := celR 4 HSX.out; have s5 := celR 5 HSX.out; have s6 := celR 6 HSX.out; have s7 := celR 7 HSX.out
 have t0 := celR 0 HTR.out; have t1 := celR 1 HTR.out; have t2 := celR 2 HTR.out; have t3 := celR 3 HTR.out; have t4 := celR 4 HTR.out; have t5 := celR 5 HTR.out; have t6 := celR 6 HTR.out
 go_wp2_with fail
 refine (l6In_any _ _ _ _).mono ?_
 obtain ⟨bb, hbb⟩ : ∃ bb, bb = inB k 0 ((nn : Int) - 1) := ⟨_, rfl⟩
 rw [← hbb]
 have HBB := Lib.hid hbb.symm; clear hbb
 rintro e w3 ⟨rfl, rfl⟩
 cases bb
 · have HN := Lib.hid (getF_out (L := L) (k := k) (by rw [HLN.out]; intro hc; have := HBB.out; unfold inB at this; simp [hc.1, hc.2] at this <;> omega))
   clear s0 s1 s2 s3 s4 s5 s6 s7 t0 t1 t2 t3 t4 t5 t6
   have rc0 := celR 0 HND.out; have rf0 := block_free HND.out 0; have rc1 := celR 1 HND.out; have rf1 := block_free HND.out 1; have rc2 := celR 2 HND.out; have rf2 := block_free HND.out 2; have rc3 := celR 3 HND.out; have rf3 := block_free HND.out 3; have rc4 := celR 4 HND.out; have rf4 := block_free HND.out 4; have rc5 := celR 5 HND.out; have rf5 := block_free HND.out 5; have rc6 := celR 6 HND.out; have rf6 := block_free HND.out 6; have rc7 := celR 7 HND.out; have rf7 := block_free HND.out 7; have rc8 := celR 8 HND.out; have rf8 := block_free HND.out 8; have rc9 := celR 9 HND.out; have rf9 := block_free HND.out 9
   go_wp2_with fail
   clear rc0 rf0 rc1 rf1 rc2 rf2 rc3 rf3 rc4 rf4 rc5 rf5 rc6 rf6 rc7 rf7 rc8 rf8 rc9 rf9
   have hst := set_10 (x0 := .int .i64 0) (x1 := .int .i64 0) (x2 := .int .i64 0) (x3 := .int .i64 0) (x4 := .int .i64 0) (x5 := .int .i64 0) (x6 := .int .i64 0) (x7 := .int .i64 0) (x8 := .int .i64 0) (x9 := .int .i64 0) HND.out
   have r0 := celR 0 hst; have r1 := celR 1 hst; have r2 := celR 2 hst; have r3 := celR 3 hst; have r4 := celR 4 hst; have r5 := celR 5 hst; have r6 := celR 6 hst; have r7 := celR 7 hst; have r8 := celR 8 hst; have r9 := celR 9 hst
   clear hst
   exact bodyPost_ret (v := gotN (getF L k)) (by rw [gotN_no HN.out]; simp [results, Tryz.results43, go_sem, r0, r1, r2, r3, r4, r5, r6, r7, r8, r9]) rfl ⟨rfl, below_10 HB2.out (by omega)⟩
 have hkk : 0 ≤ k ∧ k ≤ (nn : Int) - 1 := by have := HBB.out; unfold inB at this; simp at this; omega
 obtain ⟨q, rfl⟩ : ∃ q : Nat, k = (q : Int) := ⟨k.toNat, by omega⟩
 have hq : q < nn := by omega
 clear hkk
 go_wp2_with fail
 refine (HGT.out w2 HB2.out dn nn ls HV.out q hq).mono ?_
 rintro e w4 ⟨⟨pp, hp, rfl⟩, hb4⟩
 have HB4 := Lib.hid (HB2.out.trans (hb4.mono HB2.out.size))
 have HND4 := Lib.hid ((hb4.block _ l2n).trans HND.out)
 have l4n := (Array.getElem?_eq_some_iff.1 HND4.out).1
 have HRS := HV.out.read pp (List.mem_of_getElem? hp)
 obtain ⟨tx, htx⟩ := Option.isSome_iff_exists.1 HRS
 obtain ⟨ts, hts⟩ : ∃ ts, ts = (textP X pp).data.toList := ⟨_, rfl⟩
 have hst : textP X pp = strB ts := by rw [hts, strB_data]
 have htl : ts.length ≤ 128 := by rw [hts]; unfold textP; rw [htx]; exact readF_small htx
 obtain ⟨hg1, hg2⟩ := HLR.out q pp hq hp
 have HN : Hid (getF L (q : Int) = nodeGet ts) := Lib.hid (by
  rw [getF_in hg1]
  cases hh : holeP pp with
  | true => rw [nodeP_hole hh, hts]; unfold textP; rw [readF_hole hh]; exact nodeGet_nil.symm
  | false => rw [nodeP_some hh, hts])
 rw [hst]
 clear hb4 hp HRS htx hts hst hg1 hg2 s0 s1 s2 s3 s4 s5 s6 s7 t0 t1 t2 t3 t4 t5 t6
 go_wp2_with fail
 refine (spNodeGet_any ts w4 (by omega)).mono ?_
 unfold GotNode
 obtain ⟨N, hN⟩ : ∃ N, N = nodeGet ts := ⟨_, rfl⟩
 rw [← hN]
 have HN' : Hid (getF L (q : Int) = N) := Lib.hid (HN.out.trans hN.symm)
 clear hN
 rcases N with _ | ⟨i', j', z', ⟨a2, b2, s2', m2, l2'⟩, d2, n2'⟩
 · simp only [Option.getD_none, Option.isSome_none]
   rw [show nodeV zeroN = .agg #[.int .i64 0, .int .i64 0, .int .i64 0, .int .i64 0, .int .i64 0, .int .i64 0, .int .i64 0, .int .i64 0, .int .i64 0, .int .i64 0] from rfl]
   rintro e w5 ⟨rfl, hb5⟩
   have HB5 := Lib.hid (HB4.out.trans (hb5.mono HB4.out.size))
   have HND5 := Lib.hid ((hb5.block _ l4n).trans HND4.out)
   clear hb5
   have rc0 := celR 0 HND5.out; have rf0 := block_free HND5.out 0; have rc1 := celR 1 HND5.out; have rf1 := block_free HND5.out 1; have rc2 := celR 2 HND5.out; have rf2 := block_free HND5.out 2; have rc3 := celR 3 HND5.out; have rf3 := block_free HND5.out 3; have rc4 := celR 4 HND5.out; have rf4 := block_free HND5.out 4; have rc5 := celR 5 HND5.out; have rf5 := block_free HND5.out 5; have rc6 := celR 6 HND5.out; have rf6 := block_free HND5.out 6; have rc7 := celR 7 HND5.out; have rf7 := block_free HND5.out 7; have rc8 := celR 8 HND5.out; have rf8 := block_free HND5.out 8; have rc9 := celR 9 HND5.out; have rf9 := block_free HND5.out 9
   go_wp2_with fail
   clear rc0 rf0 rc1 rf1 rc2 rf2 rc3 rf3 rc4 rf4 rc5 rf5 rc6 rf6 rc7 rf7 rc8 rf8 rc9 rf9
   have hst := set_10 (x0 := .int .i64 0) (x1 := .int .i64 0) (x2 := .int .i64 0) (x3 := .int .i64 0) (x4 := .int .i64 0) (x5 := .int .i64 0) (x6 := .int .i64 0) (x7 := .int .i64 0) (x8 := .int .i64 0) (x9 := .int .i64 0) HND5.out
   have r0 := celR 0 hst; have r1 := celR 1 hst; have r2 := celR 2 hst; have r3 := celR 3 hst; have r4 := celR 4 hst; have r5 := celR 5 hst; have r6 := celR 6 hst; have r7 := celR 7 hst; have r8 := celR 8 hst; have r9 := celR 9 hst
   clear hst
   exact bodyPost_ret (v := gotN (getF L (q : Int))) (by rw [gotN_no HN'.out]; simp [results, Tryz.results43, go_sem, r0, r1, r2, r3, r4, r5, r6, r7, r8, r9]) rfl ⟨rfl, below_10 HB5.out (by omega)⟩
 simp only [Option.getD_some, Option.isSome_some, nodeV_mk]
 rintro e w5 ⟨rfl, hb5⟩
 have HB5 := Lib.hid (HB4.out.trans (hb5.mono HB4.out.size))
 have HND5 := Lib.hid ((hb5.block _ l4n).trans HND4.out)
 clear hb5
 have rc0 := celR 0 HND5.out; have rf0 := block_free HND5.out 0; have rc1 := celR 1 HND5.out; have rf1 := block_free HND5.out 1; have rc2 := celR 2 HND5.out; have rf2 := block_free HND5.out 2; have rc3 := celR 3 HND5.out; have rf3 := block_free HND5.out 3; have rc4 := celR 4 HND5.out; have rf4 := block_free HND5.out 4; have rc5 := celR 5 HND5.out; have rf5 := block_free HND5.out 5; have rc6 := celR 6 HND5.out; have rf6 := block_free HND5.out 6; have rc7 := celR 7 HND5.out; have rf7 := block_free HND5.out 7; have rc8 := celR 8 HND5.out; have rf8 := block_free HND5.out 8; have rc9 := celR 9 HND5.out; have rf9 := block_free HND5.out 9
 go_wp2_with fail
 clear rc0 rf0 rc1 rf1 rc2 rf2 rc3 rf3 rc4 rf4 rc5 rf5 rc6 rf6 rc7 rf7 rc8 rf8 rc9 rf9
 have hst := set_10 (x0 := .int .i64 i') (x1 := .int .i64 j') (x2 := .int .i64 z') (x3 := .int .i64 a2) (x4 := .int .i64 b2) (x5 := .int .i64 s2') (x6 := .int .i64 m2) (x7 := .int .i64 l2') (x8 := .int .i64 d2) (x9 := .int .i64 n2') HND5.out
 have r0 := celR 0 hst; have r1 := celR 1 hst; have r2 := celR 2 hst; have r3 := celR 3 hst; have r4 := celR 4 hst; have r5 := celR 5 hst; have r6 := celR 6 hst; have r7 := celR 7 hst; have r8 := celR 8 hst; have r9 := celR 9 hst
 clear hst
 exact bodyPost_ret (v := gotN (getF L (q : Int))) (by rw [gotN_yes HN'.out]; simp [results, Tryz.results43, go_sem, r0, r1, r2, r3, r4, r5, r6, r7, r8, r9]) rfl ⟨rfl, below_10 HB5.out (by omega)⟩
theorem tableG_ok {x : StoreD} {t : TreeD} {L : List (Option NodeD)} (h : tableG x t = some L) : storeOk x = true ∧ tableF x t = some L := by
 unfold tableG at h
 split at h
 · exact ⟨by assumption, h⟩
 cases h
set_option maxRecDepth 100000 in
set_option maxHeartbeats 8000000 in
theorem spTableFree_any (cs : List Value) (x : StoreD) (a b s m l d n : Int) (w : World) (lo hi : Nat) (h : StoreR w lo hi cs x) (hhi : hi ≤ w.heap.size) (hsz : SmallS x) :
 Calls Tryz.prog 19 #[.agg cs.toArray, .agg #[.int .i64 a, .int .i64 b, .int .i64 s, .int .i64 m, .int .i64 l, .int .i64 d, .int .i64 n]] w fun e w' => e = .returned (.int .i64 (tableFreeF x ((a, b, s, m, l), d, n))) ∧ Below w.heap.size w w' := by
 have HTO0 := Lib.hid (fun (W : World) (hb : Below w.heap.size w W) => spTableOk_any cs x a b s m l d n W lo hi (StoreR.below hb hhi cs x h) (Nat.le_trans hhi hb.size) hsz)
 have HLF0 := Lib.hid (fun (W : World) (hb : Below w.heap.size w W) (L : List (Option NodeD)) (hG : tableG x ((a, b, s, m, l), d, n) = some L) => l11Free_any cs x a b s m l d n L W lo hi (StoreR.below hb hhi cs x h) (Nat.le_trans hhi hb.size) (storeOk_rows (tableG_ok hG).1).1 (storeOk_rows (tableG_ok hG).1).2.1 (tableG_ok hG).2)
 clear hhi hsz
 obtain ⟨rows, ⟨refs, last⟩, txg, gone, keep, dead, same⟩ := x
 obtain ⟨A0, n0, c0, A1, n1, c1, A2, n2, c2, A3, n3, c3, A4, n4, c4, rfl, h0, h1, h2, h3, h4⟩ := h
 clear h0 h1 h2 h3 h4
 have HTO : Hid (∀ (W : World), Below w.heap.size w W → Calls Tryz.prog 17 #[.agg #[.slice A0 n0 c0, .slice A1 n1 c1, .slice A2 n2 c2, .int .i64 txg, .slice A3 n3 c3, .int .i64 keep, .slice A4 n4 c4, .bool same], .agg #[.int .i64 a, .int .i64 b, .int .i64 s, .int .i64 m, .int .i64 l, .int .i64 d, .int .i64 n]] W fun e w' => e = .returned (.bool (tableG (rows, (refs, last), txg, gone, keep, dead, same) ((a, b, s, m, l), d, n)).isSome) ∧ Below W.heap.size W w') := Lib.hid (fun W hb => HTO0.out W hb)
 have HLF : Hid (∀ (W : World), Below w.heap.size w W → ∀ L, tableG (rows, (refs, last), txg, gone, keep, dead, same) ((a, b, s, m, l), d, n) = some L → Calls Tryz.prog 41 #[.agg #[.slice A0 n0 c0, .slice A1 n1 c1, .slice A2 n2 c2, .int .i64 txg, .slice A3 n3 c3, .int .i64 keep, .slice A4 n4 c4, .bool same], .agg #[.int .i64 a, .int .i64 b, .int .i64 s, .int .i64 m, .int .i64 l, .int .i64 d, .int .i64 n]] W fun e w' => e = .returned (.int .i64 (freeF L)) ∧ Below W.heap.size W w') := Lib.hid (fun W hb L hG => HLF0.out W hb L hG)
 clear HTO0 HLF0
 show Calls Tryz.prog 19 #[.agg #[.slice A0 n0 c0, .slice A1 n1 c1, .slice A2 n2 c2, .int .i64 txg, .slice A3 n3 c3, .int .i64 keep, .slice A4 n4 c4, .bool same], .agg #[.int .i64 a, .int .i64 b, .int .i64 s, .int .i64 m, .int .i64 l, .int .i64 d, .int .i64 n]] w _
 generalize hX : ((rows, (refs, last), txg, gone, keep, dead, same) : StoreD) = X at *
 clear hX
 go_enter Tryz.func19, Tryz.ntmps19
 obtain ⟨w2, hw2⟩ : ∃ W, W = (w.alloc (.cells #[.slice A0 n0 c0, .slice A1 n1 c1, .slice A2 n2 c2, .int .i64 txg, .slice A3 n3 c3, .int .i64 keep, .slice A4 n4 c4, .bool same] 39)).alloc (.cells #[.int .i64 a, .int .i64 b, .int .i64 s, .int .i64 m, .int .i64 l, .int .i64 d, .int .i64 n] 43) := ⟨_, rfl⟩
 have HB2 : Hid (Below w.heap.size w w2) := Lib.hid (by rw [hw2]; exact bel2)
 have HSX : Hid (w2.heap[w.heap.size]? = some (.cells #[.slice A0 n0 c0, .slice A1 n1 c1, .slice A2 n2 c2, .int .i64 txg, .slice A3 n3 c3, .int .i64 keep, .slice A4 n4 c4, .bool same] 39 (0, 0))) := Lib.hid (by rw [hw2]; exact (Below.heap_alloc _ _ _ (by simp)).trans (heap_alloc_new _ _))
 have HTR : Hid (w2.heap[w.heap.size + 1]? = some (.cells #[.int .i64 a, .int .i64 b, .int .i64 s, .int .i64 m, .int .i64 l, .int .i64 d, .int .i64 n] 43 (0, 0))) := Lib.hid (by rw [hw2]; have := heap_alloc_new (w.alloc (.cells #[.slice A0 n0 c0, .slice A1 n1 c1, .slice A2 n2 c2, .int .i64 txg, .slice A3 n3 c3, .int .i64 keep, .slice A4 n4 c4, .bool same] 39)) (.cells #[.int .i64 a, .int .i64 b, .int .i64 s, .int .i64 m, .int .i64 l, .int .i64 d, .int .i64 n] 43); simpa using this)
 have l2 : w.heap.size < w2.heap.size := (Array.getElem?_eq_some_iff.1 HSX.out).1
 have l2x : w.heap.size + 1 < w2.heap.size := (Array.getElem?_eq_some_iff.1 HTR.out).1
 go_wp2_with fail
 rw [← hw2]; clear hw2
 have s0 := celR 0 HSX.out; have s1 := celR 1 HSX.out; have s2 := celR 2 HSX.out; have s3 := celR 3 HSX.out; have s4 := celR 4 HSX.out; have s5 := celR 5 HSX.out; have s6 := celR 6 HSX.out; have s7 := celR 7 HSX.out
 have t0 := celR 0 HTR.out; have t1 := celR 1 HTR.out; have t2 := celR 2 HTR.out; have t3 := celR 3 HTR.out; have t4 := celR 4 HTR.out; have t5 := celR 5 HTR.out; have t6 := celR 6 HTR.out
 go_wp2_with fail
 refine (HTO.out w2 HB2.out).mono ?_
 obtain ⟨G, hG⟩ : ∃ G, G = tableG X ((a, b, s, m, l), d, n) := ⟨_, rfl⟩
 rw [← hG]
 have HG := Lib.hid hG.symm; clear hG
 rintro e w4 ⟨rfl, hb4⟩
 have HB4 := Lib.hid (HB2.out.trans (hb4.mono HB2.out.size))
 have HSX4 := Lib.hid ((hb4.block _ l2).trans HSX.out)
 have HTR4 := Lib.hid ((hb4.block _ l2x).trans HTR.out)
 clear hb4 s0 s1 s2 s3 s4 s5 s6 s7 t0 t1 t2 t3 t4 t5 t6
 cases G with
 | none =>
   have HN := Lib.hid (tableFreeF_no HG.out)
   go_wp2_with fail
   go_ret
   exact ⟨by rw [HN.out]; rfl, HB4.out⟩
 | some L =>
   have HN := Lib.hid (tableFreeF_yes HG.out)
   have s0 := celR 0 HSX4.out; have s1 := celR 1 HSX4.out; have s2 := celR 2 HSX4.out; have s3 := celR 3 HSX4.out; have s4 := celR 4 HSX4.out; have s5 := celR 5 HSX4.out; have s6 := celR 6 HSX4.out; have s7 := celR 7 HSX4.out
   have t0 := celR 0 HTR4.out; have t1 := celR 1 HTR4.out; have t2 := celR 2 HTR4.out; have t3 := celR 3 HTR4.out; have t4 := celR 4 HTR4.out; have t5 := celR 5 HTR4.out; have t6 := celR 6 HTR4.out
   go_wp2_with fail
   refine (HLF.out w4 HB4.out L HG.out).mono ?_
   rw [← HN.out]
   rintro e w5 ⟨rfl, hb5⟩
   have HB5 := Lib.hid (HB4.out.trans (hb5.mono HB4.out.size))
   clear hb5 s0 s1 s2 s3 s4 s5 s6 s7 t0 t1 t2 t3 t4 t5 t6
   go_wp2_with fail
   go_ret
   exact ⟨rfl, HB5.out⟩
set_option maxRecDepth 100000 in
set_option maxHeartbeats 8000000 in
theorem spTableGet_any (cs : List Value) (x : StoreD) (a b s m l d n : Int) (k : Int) (w : World) (lo hi : Nat) (h : StoreR w lo hi cs x) (hhi : hi ≤ w.heap.size) (hsz : SmallS x) :
 Calls Tryz.prog 21 #[.agg cs.toArray, .agg #[.int .i64 a, .int .i64 b, .int .i64 s, .int .i64 m, .int .i64 l, .int .i64 d, .int .i64 n], .int .i64 k] w fun e w' => e = .returned (gotN (tableGetF x ((a, b, s, m, l), d, n) k)) ∧ Below w.heap.size w w' := by
 have HTO0 := Lib.hid (fun (W : World) (hb : Below w.heap.size w W) => spTableOk_any cs x a b s m l d n W lo hi (StoreR.below hb hhi cs x h) (Nat.le_trans hhi hb.size) hsz)
 have HLF0 := Lib.hid (fun (W : World) (hb : Below w.heap.size w W) (L : List (Option NodeD)) (hG : tableG x ((a, b, s, m, l), d, n) = some L) => l11Get_any cs x a b s m l d n k L W lo hi (StoreR.below hb hhi cs x h) (Nat.le_trans hhi hb.size) (storeOk_rows (tableG_ok hG).1).1 (storeOk_rows (tableG_ok hG).1).2.1 (tableG_ok hG).2)
 clear hhi hsz
 obtain ⟨rows, ⟨refs, last⟩, txg, gone, keep, dead, same⟩ := x
 obtain ⟨A0, n0, c0, A1, n1, c1, A2, n2, c2, A3, n3, c3, A4, n4, c4, rfl, h0, h1, h2, h3, h4⟩ := h
 clear h0 h1 h2 h3 h4
 have HTO : Hid (∀ (W : World), Below w.heap.size w W → Calls Tryz.prog 17 #[.agg #[.slice A0 n0 c0, .slice A1 n1 c1, .slice A2 n2 c2, .int .i64 txg, .slice A3 n3 c3, .int .i64 keep, .slice A4 n4 c4, .bool same], .agg #[.int .i64 a, .int .i64 b, .int .i64 s, .int .i64 m, .int .i64 l, .int .i64 d, .int .i64 n]] W fun e w' => e = .returned (.bool (tableG (rows, (refs, last), txg, gone, keep, dead, same) ((a, b, s, m, l), d, n)).isSome) ∧ Below W.heap.size W w') := Lib.hid (fun W hb => HTO0.out W hb)
 have HLF : Hid (∀ (W : World), Below w.heap.size w W → ∀ L, tableG (rows, (refs, last), txg, gone, keep, dead, same) ((a, b, s, m, l), d, n) = some L → Calls Tryz.prog 43 #[.agg #[.slice A0 n0 c0, .slice A1 n1 c1, .slice A2 n2 c2, .int .i64 txg, .slice A3 n3 c3, .int .i64 keep, .slice A4 n4 c4, .bool same], .agg #[.int .i64 a, .int .i64 b, .int .i64 s, .int .i64 m, .int .i64 l, .int .i64 d, .int .i64 n], .int .i64 k] W fun e w' => e = .returned (gotN (getF L k)) ∧ Below W.heap.size W w') := Lib.hid (fun W hb L hG => HLF0.out W hb L hG)
 clear HTO0 HLF0
 show Calls Tryz.prog 21 #[.agg #[.slice A0 n0 c0, .slice A1 n1 c1, .slice A2 n2 c2, .int .i64 txg, .slice A3 n3 c3, .int .i64 keep, .slice A4 n4 c4, .bool same], .agg #[.int .i64 a, .int .i64 b, .int .i64 s, .int .i64 m, .int .i64 l, .int .i64 d, .int .i64 n], .int .i64 k] w _
 generalize hX : ((rows, (refs, last), txg, gone, keep, dead, same) : StoreD) = X at *
 clear hX
 go_enter Tryz.func21, Tryz.ntmps21
 obtain ⟨w2, hw2⟩ : ∃ W, W = ((w.alloc (.cells #[.slice A0 n0 c0, .slice A1 n1 c1, .slice A2 n2 c2, .int .i64 txg, .slice A3 n3 c3, .int .i64 keep, .slice A4 n4 c4, .bool same] 39)).alloc (.cells #[.int .i64 a, .int .i64 b, .int .i64 s, .int .i64 m, .int .i64 l, .int .i64 d, .int .i64 n] 43)).alloc (.cells #[.int .i64 0, .int .i64 0, .int .i64 0, .int .i64 0, .int .i64 0, .int .i64 0, .int .i64 0, .int .i64 0, .int .i64 0, .int .i64 0] 53) := ⟨_, rfl⟩
 have HB2 : Hid (Below w.heap.size w w2) := Lib.hid (by rw [hw2]; exact bel3)
 have HSX : Hid (w2.heap[w.heap.size]? = some (.cells #[.slice A0 n0 c0, .slice A1 n1 c1, .slice A2 n2 c2, .int .i64 txg, .slice A3 n3 c3, .int .i64 keep, .slice A4 n4 c4, .bool same] 39 (0, 0))) := Lib.hid (by rw [hw2]; exact (Below.heap_alloc _ _ _ (by simp <;> omega)).trans ((Below.heap_alloc _ _ _ (by simp)).trans (heap_alloc_new _ _)))
 have HTR : Hid (w2.heap[w.heap.size + 1]? = some (.cells #[.int .i64 a, .int .i64 b, .int .i64 s, .int .i64 m, .int .i64 l, .int .i64 d, .int .i64 n] 43 (0, 0))) := Lib.hid (by rw [hw2]; have := heap_alloc_new (w.alloc (.cells #[.slice A0 n0 c0, .slice A1 n1 c1, .slice A2 n2 c2, .int .i64 txg, .slice A3 n3 c3, .int .i64 keep, .slice A4 n4 c4, .bool same] 39)) (.cells #[.int .i64 a, .int .i64 b, .int .i64 s, .int .i64 m, .int .i64 l, .int .i64 d, .int .i64 n] 43); refine (Below.heap_alloc _ _ _ (by simp)).trans ?_; simpa using this)
 have HND : Hid (w2.heap[w.heap.size + 2]? = some (.cells #[.int .i64 0, .int .i64 0, .int .i64 0, .int .i64 0, .int .i64 0, .int .i64 0, .int .i64 0, .int .i64 0, .int .i64 0, .int .i64 0] 53 (0, 0))) := Lib.hid (by rw [hw2]; have := heap_alloc_new ((w.alloc (.cells #[.slice A0 n0 c0, .slice A1 n1 c1, .slice A2 n2 c2, .int .i64 txg, .slice A3 n3 c3, .int .i64 keep, .slice A4 n4 c4, .bool same] 39)).alloc (.cells #[.int .i64 a, .int .i64 b, .int .i64 s, .int .i64 m, .int .i64 l, .int .i64 d, .int .i64 n] 43)) (.cells #[.int .i64 0, .int .i64 0, .int .i64 0, .int .i64 0, .int .i64 0, .int .i64 0, .int .i64 0, .int .i64 0, .int .i64 0, .int .i64 0] 53); simpa using this)
 have l2 : w.heap.size < w2.heap.size := (Array.getElem?_eq_some_iff.1 HSX.out).1
 have l2x : w.heap.size + 1 < w2.heap.size := (Array.getElem?_eq_some_iff.1 HTR.out).1
 have l2n : w.heap.size + 2 < w2.heap.size := (Array.getElem?_eq_some_iff.1 HND.out).1
 go_wp2_with fail
 rw [← hw2]; clear hw2
 have s0 := celR 0 HSX.out; have s1 := celR 1 HSX.out; have s2 := celR 2 HSX.out; have s3 := celR 3 HSX.out; have s4 := celR 4 HSX.out; have s5 := celR 5 HSX.out; have s6 := celR 6 HSX.out; have s7 := celR 7 HSX.out
 have t0 := celR 0 HTR.out; have t1 := celR 1 HTR.out; have t2 := celR 2 HTR.out; have t3 := celR 3 HTR.out; have t4 := celR 4 HTR.out; have t5 := celR 5 HTR.out; have t6 := celR 6 HTR.out
 go_wp2_with fail
 refine (HTO.out w2 HB2.out).mono ?_
 obtain ⟨G, hG⟩ : ∃ G, G = tableG X ((a, b, s, m, l), d, n) := ⟨_, rfl⟩
 rw [← hG]
 have HG := Lib.hid hG.symm; clear hG
 rintro e w4 ⟨rfl, hb4⟩
 have HB4 := Lib.hid (HB2.out.trans (hb4.mono HB2.out.size))
 have HSX4 := Lib.hid ((hb4.block _ l2).trans HSX.out)
 have HTR4 := Lib.hid ((hb4.block _ l2x).trans HTR.out)
 have HND4 := Lib.hid ((hb4.block _ l2n).trans HND.out)
 have l4n := (Array.getElem?_eq_some_iff.1 HND4.out).1
 clear hb4 s0 s1 s2 s3 s4 s5 s6 s7 t0 t1 t2 t3 t4 t5 t6
 cases G with
 | none =>
   have HN := Lib.hid (tableGetF_no (k := k) HG.out)
   have rc0 := celR 0 HND4.out; have rf0 := block_free HND4.out 0; have rc1 := celR 1 HND4.out; have rf1 := block_free HND4.out 1; have rc2 := celR 2 HND4.out; have rf2 := block_free HND4.out 2; have rc3 := celR 3 HND4.out; have rf3 := block_free HND4.out 3; have rc4 := celR 4 HND4.out; have rf4 := block_free HND4.out 4; have rc5 := celR 5 HND4.out; have rf5 := block_free HND4.out 5; have rc6 := celR 6 HND4.out; have rf6 := block_free HND4.out 6; have rc7 := celR 7 HND4.out; have rf7 := block_free HND4.out 7; have rc8 := celR 8 HND4.out; have rf8 := block_free HND4.out 8; have rc9 := celR 9 HND4.out; have rf9 := block_free HND4.out 9
   go_wp2_with fail
   clear rc0 rf0 rc1 rf1 rc2 rf2 rc3 rf3 rc4 rf4 rc5 rf5 rc6 rf6 rc7 rf7 rc8 rf8 rc9 rf9
   have hst := set_10 (x0 := .int .i64 0) (x1 := .int .i64 0) (x2 := .int .i64 0) (x3 := .int .i64 0) (x4 := .int .i64 0) (x5 := .int .i64 0) (x6 := .int .i64 0) (x7 := .int .i64 0) (x8 := .int .i64 0) (x9 := .int .i64 0) HND4.out
   have r0 := celR 0 hst; have r1 := celR 1 hst; have r2 := celR 2 hst; have r3 := celR 3 hst; have r4 := celR 4 hst; have r5 := celR 5 hst; have r6 := celR 6 hst; have r7 := celR 7 hst; have r8 := celR 8 hst; have r9 := celR 9 hst
   clear hst
   exact bodyPost_ret (v := gotN (tableGetF X ((a, b, s, m, l), d, n) k)) (by rw [gotN_no HN.out]; simp [results, Tryz.results21, go_sem, r0, r1, r2, r3, r4, r5, r6, r7, r8, r9]) rfl ⟨rfl, below_10 HB4.out (by omega)⟩
 | some L =>
   have s0 := celR 0 HSX4.out; have s1 := celR 1 HSX4.out; have s2 := celR 2 HSX4.out; have s3 := celR 3 HSX4.out; have s4 := celR 4 HSX4.out; have s5 := celR 5 HSX4.out; have s6 := celR 6 HSX4.out; have s7 := celR 7 HSX4.out
   have t0 := celR 0 HTR4.out; have t1 := celR 1 HTR4.out; have t2 := celR 2 HTR4.out; have t3 := celR 3 HTR4.out; have t4 := celR 4 HTR4.out; have t5 := celR 5 HTR4.out; have t6 := celR 6 HTR4.out
   go_wp2_with fail
   refine (HLF.out w4 HB4.out L HG.out).mono ?_
   obtain ⟨o, ho⟩ : ∃ o, o = getF L k := ⟨_, rfl⟩
   rw [← ho]
   have HN : Hid (tableGetF X ((a, b, s, m, l), d, n) k = o) := Lib.hid ((tableGetF_yes HG.out).trans ho.symm)
   clear ho
   rcases o with _ | ⟨i', j', z', ⟨a2, b2, s2', m2, l2'⟩, d2, n2'⟩
   · rw [gotN_no rfl]
     rintro e w5 ⟨rfl, hb5⟩
     have HB5 := Lib.hid (HB4.out.trans (hb5.mono HB4.out.size))
     have HND5 := Lib.hid ((hb5.block _ l4n).trans HND4.out)
     clear hb5 s0 s1 s2 s3 s4 s5 s6 s7 t0 t1 t2 t3 t4 t5 t6
     have rc0 := celR 0 HND5.out; have rf0 := block_free HND5.out 0; have rc1 := celR 1 HND5.out; have rf1 := block_free HND5.out 1; have rc2 := celR 2 HND5.out; have rf2 := block_free HND5.out 2; have rc3 := celR 3 HND5.out; have rf3 := block_free HND5.out 3; have rc4 := celR 4 HND5.out; have rf4 := block_free HND5.out 4; have rc5 := celR 5 HND5.out; have rf5 := block_free HND5.out 5; have rc6 := celR 6 HND5.out; have rf6 := block_free HND5.out 6; have rc7 := celR 7 HND5.out; have rf7 := block_free HND5.out 7; have rc8 := celR 8 HND5.out; have rf8 := block_free HND5.out 8; have rc9 := celR 9 HND5.out; have rf9 := block_free HND5.out 9
     go_wp2_with fail
     clear rc0 rf0 rc1 rf1 rc2 rf2 rc3 rf3 rc4 rf4 rc5 rf5 rc6 rf6 rc7 rf7 rc8 rf8 rc9 rf9
     have hst := set_10 (x0 := .int .i64 0) (x1 := .int .i64 0) (x2 := .int .i64 0) (x3 := .int .i64 0) (x4 := .int .i64 0) (x5 := .int .i64 0) (x6 := .int .i64 0) (x7 := .int .i64 0) (x8 := .int .i64 0) (x9 := .int .i64 0) HND5.out
     have r0 := celR 0 hst; have r1 := celR 1 hst; have r2 := celR 2 hst; have r3 := celR 3 hst; have r4 := celR 4 hst; have r5 := celR 5 hst; have r6 := celR 6 hst; have r7 := celR 7 hst; have r8 := celR 8 hst; have r9 := celR 9 hst
     clear hst
     exact bodyPost_ret (v := gotN (tableGetF X ((a, b, s, m, l), d, n) k)) (by rw [gotN_no HN.out]; simp [results, Tryz.results21, go_sem, r0, r1, r2, r3, r4, r5, r6, r7, r8, r9]) rfl ⟨rfl, below_10 HB5.out (by omega)⟩
   rw [gotN_yes rfl]
   rintro e w5 ⟨rfl, hb5⟩
   have HB5 := Lib.hid (HB4.out.trans (hb5.mono HB4.out.size))
   have HND5 := Lib.hid ((hb5.block _ l4n).trans HND4.out)
   clear hb5 s0 s1 s2 s3 s4 s5 s6 s7 t0 t1 t2 t3 t4 t5 t6
   have rc0 := celR 0 HND5.out; have rf0 := block_free HND5.out 0; have rc1 := celR 1 HND5.out; have rf1 := block_free HND5.out 1; have rc2 := celR 2 HND5.out; have rf2 := block_free HND5.out 2; have rc3 := celR 3 HND5.out; have rf3 := block_free HND5.out 3; have rc4 := celR 4 HND5.out; have rf4 := block_free HND5.out 4; have rc5 := celR 5 HND5.out; have rf5 := block_free HND5.out 5; have rc6 := celR 6 HND5.out; have rf6 := block_free HND5.out 6; have rc7 := celR 7 HND5.out; have rf7 := block_free HND5.out 7; have rc8 := celR 8 HND5.out; have rf8 := block_free HND5.out 8; have rc9 := celR 9 HND5.out; have rf9 := block_free HND5.out 9
   go_wp2_with fail
   clear rc0 rf0 rc1 rf1 rc2 rf2 rc3 rf3 rc4 rf4 rc5 rf5 rc6 rf6 rc7 rf7 rc8 rf8 rc9 rf9
   have hst := set_10 (x0 := .int .i64 i') (x1 := .int .i64 j') (x2 := .int .i64 z') (x3 := .int .i64 a2) (x4 := .int .i64 b2) (x5 := .int .i64 s2') (x6 := .int .i64 m2) (x7 := .int .i64 l2') (x8 := .int .i64 d2) (x9 := .int .i64 n2') HND5.out
   have r0 := celR 0 hst; have r1 := celR 1 hst; have r2 := celR 2 hst; have r3 := celR 3 hst; have r4 := celR 4 hst; have r5 := celR 5 hst; have r6 := celR 6 hst; have r7 := celR 7 hst; have r8 := celR 8 hst; have r9 := celR 9 hst
   clear hst
   exact bodyPost_ret (v := gotN (tableGetF X ((a, b, s, m, l), d, n) k)) (by rw [gotN_yes HN.out]; simp [results, Tryz.results21, go_sem, r0, r1, r2, r3, r4, r5, r6, r7, r8, r9]) rfl ⟨rfl, below_10 HB5.out (by omega)⟩
end Go.Proofs.YtjnhiiaejeaikaaGreatDoor
