/- Tables: l11Ok and TableOk of the reference. Condition: a list of what was given up has at most 2000000 members. -/
import Derived.Test.YtjnhiiaejeaikaaGreatDoorRTableOk
set_option linter.unnecessarySimpa false
set_option linter.unusedSimpArgs false
set_option linter.unusedVariables false
namespace Go.Proofs.YtjnhiiaejeaikaaGreatDoor
open Go Go.Lib Go.RowKit
theorem textsT_get {x : StoreD} {nn k : Nat} {ls : List PtrD} {p : PtrD} (hp : ls[k]? = some p) (hk : k < nn) : (textsT x nn ls)[k]? = some (textP x p).data.toList := by
 unfold textsT
 rw [List.getElem?_map, List.getElem?_take, if_pos hk, hp]; rfl
set_option maxRecDepth 100000 in
set_option maxHeartbeats 16000000 in
theorem l11Ok_any (cs : List Value) (x : StoreD) (a b s m l d n : Int) (w : World) (lo hi : Nat) (h : StoreR w lo hi cs x) (hhi : hi ≤ w.heap.size) (h64 : x.1.length = 64) (hz : ∀ r ∈ x.1, r.size ≤ 128) (htx : 0 ≤ x.2.2.1) :
 Calls Tryz.prog 40 #[.agg cs.toArray, .agg #[.int .i64 a, .int .i64 b, .int .i64 s, .int .i64 m, .int .i64 l, .int .i64 d, .int .i64 n]] w fun e w' => e = .returned (.bool (tableF x ((a, b, s, m, l), d, n)).isSome) ∧ Below w.heap.size w w' := by
 have HOK0 := Lib.hid (fun (W : World) (hb : Below w.heap.size w W) (a b s m l d n : Int) => l8Ok_any cs x a b s m l d n W lo hi (StoreR.below hb hhi cs x h) (Nat.le_trans hhi hb.size) h64 hz htx)
 have HTX0 := Lib.hid (fun (W : World) (hb : Below w.heap.size w W) (dn nn : Nat) (ls : List PtrD) (hv : TreeV x a b s m l dn nn ls) => l8Texts_any cs x a b s m l dn nn ls W lo hi (StoreR.below hb hhi cs x h) (Nat.le_trans hhi hb.size) h64 hz hv)
 clear hhi h64 hz htx
 obtain ⟨rows, ⟨refs, last⟩, txg, gone, keep, dead, same⟩ := x
 obtain ⟨A0, n0, c0, A1, n1, c1, A2, n2, c2, A3, n3, c3, A4, n4, c4, rfl, h0, h1, h2, h3, h4⟩ := h
 clear h0 h1 h2 h3 h4
 have HOK : Hid (∀ (W : World), Below w.heap.size w W → ∀ (a b s m l d n : Int), Calls Tryz.prog 58 #[.agg #[.slice A0 n0 c0, .slice A1 n1 c1, .slice A2 n2 c2, .int .i64 txg, .slice A3 n3 c3, .int .i64 keep, .slice A4 n4 c4, .bool same], .agg #[.int .i64 a, .int .i64 b, .int .i64 s, .int .i64 m, .int .i64 l, .int .i64 d, .int .i64 n]] W fun e w' => e = .returned (.bool (treeF (rows, (refs, last), txg, gone, keep, dead, same) ((a, b, s, m, l), d, n)).isSome) ∧ Below W.heap.size W w') := Lib.hid (fun W hb a b s m l d n => HOK0.out W hb a b s m l d n)
 have HTX : Hid (∀ (W : World), Below w.heap.size w W → ∀ (dn nn : Nat) (ls : List PtrD), TreeV (rows, (refs, last), txg, gone, keep, dead, same) a b s m l dn nn ls → Calls Tryz.prog 27 #[.agg #[.slice A0 n0 c0, .slice A1 n1 c1, .slice A2 n2 c2, .int .i64 txg, .slice A3 n3 c3, .int .i64 keep, .slice A4 n4 c4, .bool same], .agg #[.int .i64 a, .int .i64 b, .int .i64 s, .int .i64 m, .int .i64 l, .int .i64 (dn : Int), .int .i64 (nn : Int)]] W (NewStrs (textsT (rows, (refs, last), txg, gone, keep, dead, same) nn ls) W)) := Lib.hid (fun W hb dn nn ls hv => HTX0.out W hb dn nn ls hv)
 clear HOK0 HTX0
 show Calls Tryz.prog 40 #[.agg #[.slice A0 n0 c0, .slice A1 n1 c1, .slice A2 n2 c2, .int .i64 txg, .slice A3 n3 c3, .int .i64 keep, .slice A4 n4 c4, .bool same], .agg #[.int .i64 a, .int .i64 b, .int .i64 s, .int .i64 m, .int .i64 l, .int .i64 d, .int .i64 n]] w _
 generalize hX : ((rows, (refs, last), txg, gone, keep, dead, same) : StoreD) = X at *
 clear hX
 obtain ⟨R, hR⟩ : ∃ R, R = (tableF X ((a, b, s, m, l), d, n)).isSome := ⟨_, rfl⟩
 rw [← hR]
 have HR := Lib.hid hR.symm; clear hR
 go_enter Tryz.func40, Tryz.ntmps40
 obtain ⟨w2, hw2⟩ : ∃ W, W = (w.alloc (.cells #[.slice A0 n0 c0, .slice A1 n1 c1, .slice A2 n2 c2, .int .i64 txg, .slice A3 n3 c3, .int .i64 keep, .slice A4 n4 c4, .bool same] 39)).alloc (.cells #[.int .i64 a, .int .i64 b, .int .i64 s, .int .i64 m, .int .i64 l, .int .i64 d, .int .i64 n] 43) := ⟨_, rfl⟩
 have HB2 : Hid (Below w.heap.size w w2) := Lib.hid (by rw [hw2]; exact bel2)
 have HSX : Hid (w2.heap[w.heap.size]? = some (.cells #[.slice A0 n0 c0, .slice A1 n1 c1, .slice A2 n2 c2, .int .i64 txg, .slice A3 n3 c3, .int .i64 keep, .slice A4 n4 c4, .bool same] 39 (0, 0))) := Lib.hid (by rw [hw2]; exact (Below.heap_alloc _ _ _ (by simp)).trans (heap_alloc_new _ _))
 have HTR : Hid (w2.heap[w.heap.size + 1]? = some (.cells #[.int .i64 a, .int .i64 b, .int .i64 s, .int .i64 m, .int .i64 l, .int .i64 d, .int .i64 n] 43 (0, 0))) := Lib.hid (by rw [hw2]; have := heap_alloc_new (w.alloc (.cells #[.slice A0 n0 c0, .slice A1 n1 c1, .slice A2 n2 c2, .int .i64 txg, .slice A3 n3 c3, .int .i64 keep, .slice A4 n4 c4, .bool same] 39)) (.cells #[.int .i64 a, .int .i64 b, .int .i64 s, .int .i64 m, .int .i64 l, .int .i64 d, .int .i64 n] 43); simpa using this)
 have l2 : w.heap.size < w2.heap.size := (Array.getElem?_eq_some_iff.1 HSX.out).1
 have l2x : w.heap.size + 1 < w2.heap.size := (Array.getElem?_eq_some_iff.1 HTR.out).1
 go_wp2_with fail
 rw [← hw2]; clear hw2
 have s0 := celR 0 HSX.out; have s1 := celR 1 HSX.out; have s2 := celR 2 HSX.out; have s3 := celR 3 HSX.out; have s4 := celR 4 HSX.out; have s5 := celR 5 HSX.out; have s6 := celR 6 HSX.out; have s7 := celR 7 HSX.out
 have t0 := celR 0 HTR.out; have t1 := celR 1 HTR.out; have t2 := celR 2 HTR.out; have t3 := celR 3 HTR.out; have t4 := celR 4 HTR.out; have t5 := celR 5 HTR.out; have t6 := celR 6 HTR.out
 go_wp2_with fail
 refine (HOK.out w2 HB2.out a b s m l d n).mono ?_
 obtain ⟨T, hT⟩ : ∃ T, T = treeF X ((a, b, s, m, l), d, n) := ⟨_, rfl⟩
 rw [← hT]
 have HT := Lib.hid hT.symm; clear hT
 rintro e w3 ⟨rfl, hb3⟩
 have HB3 := Lib.hid (HB2.out.trans (hb3.mono HB2.out.size))
 have HSX3 := Lib.hid ((hb3.block _ l2).trans HSX.out)
 have HTR3 := Lib.hid ((hb3.block _ l2x).trans HTR.out)
 have l3 := (Array.getElem?_eq_some_iff.1 HSX3.out).1
 have l3x := (Array.getElem?_eq_some_iff.1 HTR3.out).1
 clear hb3 s0 s1 s2 s3 s4 s5 s6 s7 t0 t1 t2 t3 t4 t5 t6
 cases T
 · have HN : Hid (false = R) := Lib.hid (by rw [← HR.out, tableF_tree HT.out]; rfl)
   go_wp2_with fail
   go_ret
   exact ⟨ret_bool HN.out, HB3.out⟩
 rename_i ls
 obtain ⟨dn, nn, rfl, rfl, hv⟩ := TreeV.of HT.out
 have HV := Lib.hid hv; clear hv
 have hn16 : nn ≤ 16 := by have h1 := HV.out.nn; have h2 := HV.out.len; omega
 simp only [Option.isSome_some]
 have s0 := celR 0 HSX3.out; have s1 := celR 1 HSX3.out; have s2 := celR 2 HSX3.out; have s3 := celR 3 HSX3.out; have s4 := celR 4 HSX3.out; have s5 := celR 5 HSX3.out; have s6 := celR 6 HSX3.out; have s7 := celR 7 HSX3.out
 have t0 := celR 0 HTR3.out; have t1 := celR 1 HTR3.out; have t2 := celR 2 HTR3.out; have t3 := celR 3 HTR3.out; have t4 := celR 4 HTR3.out; have t5 := celR 5 HTR3.out; have t6 := celR 6 HTR3.out
 go_wp2_with fail
 refine (HTX.out w3 HB3.out dn nn ls HV.out).mono ?_
 rintro e w4 ⟨A, c, rfl, hI, hb4⟩
 have HTL : Hid ((textsT X nn ls).length = nn) := Lib.hid (textsT_len HV.out.nn)
 obtain ⟨NN, hNN⟩ : ∃ NN, NN = (textsT X nn ls).length := ⟨_, rfl⟩
 rw [← hNN]
 obtain rfl : NN = nn := hNN.trans HTL.out
 have HB4 := Lib.hid (HB3.out.trans (hb4.mono HB3.out.size))
 have HSX4 := Lib.hid ((hb4.block _ l3).trans HSX3.out)
 have HTR4 := Lib.hid ((hb4.block _ l3x).trans HTR3.out)
 have l4 := (Array.getElem?_eq_some_iff.1 HSX4.out).1
 have l4x := (Array.getElem?_eq_some_iff.1 HTR4.out).1
 have HI := Lib.hid hI
 clear hb4 hI hNN s0 s1 s2 s3 s4 s5 s6 s7 t0 t1 t2 t3 t4 t5 t6
 have HBAD : Hid (∀ j q, j < NN → ls[j]? = some q → rowN X q = false → false = R) := Lib.hid (fun j q hj hq hr => by
  rw [← HR.out, tableF_bad HT.out (by dsimp only; rw [Int.toNat_natCast, List.getElem?_take, if_pos hj]; exact hq) hr]; rfl)
 have HYES : Hid ((∀ j q, j < NN → ls[j]? = some q → rowN X q = true) → true = R) := Lib.hid (fun hy => by
  rw [← HR.out, tableF_yes HT.out (fun j q hq => by dsimp only at hq; rw [Int.toNat_natCast, List.getElem?_take] at hq; split at hq; exact hy j q (by assumption) hq; cases hq)]; rfl)
 go_wp2_with fail
 go_loopw [6] (fun i wr => ∃ k : Nat, k ≤ NN ∧ i = .int .i64 (k : Int) ∧ Hid (∀ j q, j < k → ls[j]? = some q → rowN X q = true) ∧ Hid (Below w4.heap.size w4 wr)) (fun i _ => NN - (RowKit.intOf i).toNat)
 case atStart => exact ⟨0, Nat.zero_le _, rfl, Lib.hid (fun j q hj => absurd hj (by omega)), Lib.hid (Below.refl _ _)⟩
 obtain ⟨k, hk, rfl, HPR, HB5⟩ := hrel
 have HBW := Lib.hid (HB4.out.trans (HB5.out.mono HB4.out.size))
 have HTRW := Lib.hid ((HB5.out.block _ l4x).trans HTR4.out)
 have t6 := celR 6 HTRW.out
 have k0 : (0 : Int) ≤ (k : Int) := by omega
 by_cases hlt : k < NN
 case neg =>
  obtain rfl : k = NN := by omega
  have HN := Lib.hid (HYES.out HPR.out)
  go_wp2_with fail
  go_ret
  exact ⟨ret_bool HN.out, HBW.out⟩
 have k1 : (k : Int) < (NN : Int) := by omega
 obtain ⟨pp, hp⟩ : ∃ q, ls[k]? = some q := ⟨ls[k]'(by have := HV.out.nn; omega), List.getElem?_eq_getElem _⟩
 obtain ⟨ts, hts⟩ : ∃ ts, ts = (textP X pp).data.toList := ⟨_, rfl⟩
 have hx := textsT_get (x := X) hp hlt
 rw [← hts] at hx
 obtain ⟨g, hA, lg, hc⟩ := (HI.out.below HB5.out).cellP hx
 subst hA
 have HX := Lib.hid hp
 have HRS := HV.out.read pp (List.mem_of_getElem? hp)
 obtain ⟨tx, htx⟩ := Option.isSome_iff_exists.1 HRS
 have HTXT : Hid (ts = tx.data.toList) := Lib.hid (by rw [hts]; unfold textP; rw [htx]; rfl)
 have htl : ts.length ≤ 128 := by rw [HTXT.out]; exact readF_small htx
 have HTS := Lib.hid hts
 have HSZ : Hid (holeP pp = false → ts ≠ []) := Lib.hid (fun hh e => by
  obtain ⟨q1, _, _⟩ := readF_size hh htx
  rw [HTXT.out] at e
  have : tx.size = 0 := by show tx.data.size = 0; rw [← Array.length_toList, e]; rfl
  omega)
 have HZ : Hid (holeP pp = true → ts = []) := Lib.hid (fun hh => by rw [HTXT.out]; rw [readF_hole hh] at htx; injection htx with htx; rw [← htx]; rfl)
 clear hp hx hts htx HRS
 cases hh : holeP pp
 rotate_left
 · obtain rfl := HZ.out hh
   have HPR' := Lib.hid (upto_stepI (Q := fun _ q => rowN X q = true) HPR.out HX.out (rowN_hole hh))
   have dz : ((strB []).toList == []) = true := by rw [strB_list]; rfl
   clear hh
   go_wp2_with fail
   go_roundw
   case rel => first | exact ⟨k + 1, by omega, by go_num, HPR', HB5⟩ | ((repeat apply Exists.intro); exact ⟨⟨k + 1, by omega, by go_num, HPR', HB5⟩, rfl⟩)
   simp [RowKit.intOf]; omega
 have HNE := Lib.hid (HSZ.out hh)
 have HH := Lib.hid hh
 have dz : ((strB ts).toList == []) = false := by
  rw [strB_list]
  have := HNE.out
  cases ts with
  | nil => exact absurd rfl this
  | cons c cs => rfl
 have dz2 : (strB ts).toList.isEmpty = false := by
  rw [strB_list]
  have := HNE.out
  cases ts with
  | nil => exact absurd rfl this
  | cons c cs => rfl
 clear hh
 go_wp2_with fail
 refine (spNodeGet_any ts wr (by omega)).mono ?_
 unfold GotNode
 obtain ⟨N, hN⟩ : ∃ N, N = nodeGet ts := ⟨_, rfl⟩
 rw [← hN]
 have HNG := Lib.hid hN.symm; clear hN
 rintro e w8 ⟨rfl, hb8⟩
 have HY8 := Lib.hid (HB5.out.trans (hb8.mono HB5.out.size))
 have HBW8 := Lib.hid (HBW.out.trans (hb8.mono HBW.out.size))
 clear hb8 t6 hc dz dz2
 cases N
 · have HN := Lib.hid (HBAD.out k _ hlt HX.out (rowN_node HH.out (by rw [← HTS.out]; exact HNG.out)))
   simp only [Option.getD_none, Option.isSome_none]
   rw [show nodeV zeroN = .agg #[.int .i64 0, .int .i64 0, .int .i64 0, .int .i64 0, .int .i64 0, .int .i64 0, .int .i64 0, .int .i64 0, .int .i64 0, .int .i64 0] from rfl]
   go_wp2_with fail
   go_ret
   exact ⟨ret_bool HN.out, Below.alloc HBW8.out HBW8.out.size _⟩
 rename_i N
 obtain ⟨i', j', z', ⟨a2, b2, sz', m2, l2'⟩, d2, n2'⟩ := N
 simp only [Option.getD_some, Option.isSome_some, nodeV_mk]
 obtain ⟨w9, hw9⟩ : ∃ W, W = w8.alloc (.cells #[.int .i64 i', .int .i64 j', .int .i64 z', .int .i64 a2, .int .i64 b2, .int .i64 sz', .int .i64 m2, .int .i64 l2', .int .i64 d2, .int .i64 n2'] 53) := ⟨_, rfl⟩
 have HY9 : Hid (Below w4.heap.size w4 w9) := Lib.hid (by rw [hw9]; exact Below.alloc HY8.out HY8.out.size _)
 have HNB : Hid (w9.heap[w8.heap.size]? = some (.cells #[.int .i64 i', .int .i64 j', .int .i64 z', .int .i64 a2, .int .i64 b2, .int .i64 sz', .int .i64 m2, .int .i64 l2', .int .i64 d2, .int .i64 n2'] 53 (0, 0))) := Lib.hid (by rw [hw9]; exact heap_alloc_new _ _)
 have HB9 := Lib.hid (HB4.out.trans (HY9.out.mono HB4.out.size))
 have HSX9 := Lib.hid ((HY9.out.block _ l4).trans HSX4.out)
 have c3 := celR 3 HNB.out; have c4 := celR 4 HNB.out; have c5 := celR 5 HNB.out; have c6 := celR 6 HNB.out; have c7 := celR 7 HNB.out; have c8 := celR 8 HNB.out; have c9 := celR 9 HNB.out
 have s0 := celR 0 HSX9.out; have s1 := celR 1 HSX9.out; have s2 := celR 2 HSX9.out; have s3 := celR 3 HSX9.out; have s4 := celR 4 HSX9.out; have s5 := celR 5 HSX9.out; have s6 := celR 6 HSX9.out; have s7 := celR 7 HSX9.out
 rw [hw9] at c3 c4 c5 c6 c7 c8 c9 s0 s1 s2 s3 s4 s5 s6 s7
 go_wp2_with fail
 rw [← hw9]
 clear hw9
 refine (HOK.out w9 HB9.out a2 b2 sz' m2 l2' d2 n2').mono ?_
 obtain ⟨T2, hT2⟩ : ∃ T2, T2 = (treeF X ((a2, b2, sz', m2, l2'), d2, n2')).isSome := ⟨_, rfl⟩
 rw [← hT2]
 have HT2 := Lib.hid hT2.symm; clear hT2
 rintro e w10 ⟨rfl, hb10⟩
 have HY10 := Lib.hid (HY9.out.trans (hb10.mono HY9.out.size))
 have HB10 := Lib.hid (HB9.out.trans (hb10.mono HB9.out.size))
 have HRW : Hid (rowN X pp = T2) := Lib.hid (by rw [rowN_tree HH.out (by rw [← HTS.out]; exact HNG.out)]; dsimp only; exact HT2.out)
 clear hb10 c3 c4 c5 c6 c7 c8 c9 s0 s1 s2 s3 s4 s5 s6 s7
 cases T2
 · have HN := Lib.hid (HBAD.out k _ hlt HX.out HRW.out)
   go_wp2_with fail
   go_ret
   exact ⟨ret_bool HN.out, HB10.out⟩
 have HPR' := Lib.hid (upto_stepI (Q := fun _ q => rowN X q = true) HPR.out HX.out HRW.out)
 go_wp2_with fail
 go_roundw
 case rel => first | exact ⟨k + 1, by omega, by go_num, HPR', HY10⟩ | ((repeat apply Exists.intro); exact ⟨⟨k + 1, by omega, by go_num, HPR', HY10⟩, rfl⟩)
 simp [RowKit.intOf]; omega
set_option maxRecDepth 100000 in
set_option maxHeartbeats 8000000 in
theorem spTableOk_any (cs : List Value) (x : StoreD) (a b s m l d n : Int) (w : World) (lo hi : Nat) (h : StoreR w lo hi cs x) (hhi : hi ≤ w.heap.size) (hsz : SmallS x) :
 Calls Tryz.prog 17 #[.agg cs.toArray, .agg #[.int .i64 a, .int .i64 b, .int .i64 s, .int .i64 m, .int .i64 l, .int .i64 d, .int .i64 n]] w fun e w' => e = .returned (.bool (tableG x ((a, b, s, m, l), d, n)).isSome) ∧ Below w.heap.size w w' := by
 have HSO0 := Lib.hid (fun (W : World) (hb : Below w.heap.size w W) => spStoreOk_any cs x W lo hi (StoreR.below hb hhi cs x h) hsz)
 have HND0 := Lib.hid (fun (W : World) (hb : Below w.heap.size w W) (hok : storeOk x = true) => l11Ok_any cs x a b s m l d n W lo hi (StoreR.below hb hhi cs x h) (Nat.le_trans hhi hb.size) (storeOk_rows hok).1 (storeOk_rows hok).2.1 (storeOk_rows hok).2.2)
 clear hhi hsz
 obtain ⟨rows, ⟨refs, last⟩, txg, gone, keep, dead, same⟩ := x
 obtain ⟨A0, n0, c0, A1, n1, c1, A2, n2, c2, A3, n3, c3, A4, n4, c4, rfl, h0, h1, h2, h3, h4⟩ := h
 clear h0 h1 h2 h3 h4
 have HSO : Hid (∀ (W : World), Below w.heap.size w W → Calls Tryz.prog 39 #[.agg #[.slice A0 n0 c0, .slice A1 n1 c1, .slice A2 n2 c2, .int .i64 txg, .slice A3 n3 c3, .int .i64 keep, .slice A4 n4 c4, .bool same]] W fun e w' => e = .returned (.bool (storeOk (rows, (refs, last), txg, gone, keep, dead, same))) ∧ Below W.heap.size W w') := Lib.hid (fun W hb => HSO0.out W hb)
 have HND : Hid (∀ (W : World), Below w.heap.size w W → storeOk (rows, (refs, last), txg, gone, keep, dead, same) = true → Calls Tryz.prog 40 #[.agg #[.slice A0 n0 c0, .slice A1 n1 c1, .slice A2 n2 c2, .int .i64 txg, .slice A3 n3 c3, .int .i64 keep, .slice A4 n4 c4, .bool same], .agg #[.int .i64 a, .int .i64 b, .int .i64 s, .int .i64 m, .int .i64 l, .int .i64 d, .int .i64 n]] W fun e w' => e = .returned (.bool (tableF (rows, (refs, last), txg, gone, keep, dead, same) ((a, b, s, m, l), d, n)).isSome) ∧ Below W.heap.size W w') := Lib.hid (fun W hb hok => HND0.out W hb hok)
 clear HSO0 HND0
 show Calls Tryz.prog 17 #[.agg #[.slice A0 n0 c0, .slice A1 n1 c1, .slice A2 n2 c2, .int .i64 txg, .slice A3 n3 c3, .int .i64 keep, .slice A4 n4 c4, .bool same], .agg #[.int .i64 a, .int .i64 b, .int .i64 s, .int .i64 m, .int .i64 l, .int .i64 d, .int .i64 n]] w _
 generalize hX : ((rows, (refs, last), txg, gone, keep, dead, same) : StoreD) = X at *
 clear hX
 go_enter Tryz.func17, Tryz.ntmps17
 obtain ⟨w2, hw2⟩ : ∃ W, W = (w.alloc (.cells #[.slice A0 n0 c0, .slice A1 n1 c1, .slice A2 n2 c2, .int .i64 txg, .slice A3 n3 c3, .int .i64 keep, .slice A4 n4 c4, .bool same] 39)).alloc (.cells #[.int .i64 a, .int .i64 b, .int .i64 s, .int .i64 m, .int .i64 l, .int .i64 d, .int .i64 n] 43) := ⟨_, rfl⟩
 have HB2 : Hid (Below w.heap.size w w2) := Lib.hid (by rw [hw2]; exact bel2)
 have HSX : Hid (w2.heap[w.heap.size]? = some (.cells #[.slice A0 n0 c0, .slice A1 n1 c1, .slice A2 n2 c2, .int .i64 txg, .slice A3 n3 c3, .int .i64 keep, .slice A4 n4 c4, .bool same] 39 (0, 0))) := Lib.hid (by rw [hw2]; exact (Below.heap_alloc _ _ _ (by simp)).trans (heap_alloc_new _ _))
 have HTR : Hid (w2.heap[w.heap.size + 1]? = some (.cells #[.int .i64 a, .int .i64 b, .int .i64 s, .int .i64 m, .int .i64 l, .int .i64 d, .int .i64 n] 43 (0, 0))) := Lib.hid (by rw [hw2]; have := heap_alloc_new (w.alloc (.cells #[.slice A0 n0 c0, .slice A1 n1 c1, .slice A2 n2 c2, .int .i64 txg, .slice A3 n3 c3, .int .i64 keep, .slice A4 n4 c4, .bool same] 39)) (.cells #[.int .i64 a, .int .i64 b, .int .i64 s, .int .i64 m, .int .i64 l, .int .i64 d, .int .i64 n] 43); simpa using this)
 have l2 : w.heap.size < w2.heap.size := (Array.getElem?_eq_some_iff.1 HSX.out).1
 have l2x : w.heap.size + 1 < w2.heap.size := (Array.getElem?_eq_some_iff.1 HTR.out).1
 go_wp2_with fail
 rw [← hw2]; clear hw2
 have s0 := celR 0 HSX.out; have s1 := celR 1 HSX.out; have s2 := celR 2 HSX.out; have s3 := celR 3 HSX.out; have s4 := celR 4 HSX.out; have s5 := celR 5 HSX.out; have s6 := celR 6 HSX.out; have s7 := celR 7 HSX.out
 have t0 := celR 0 HTR.out; have t1 := celR 1 HTR.out; have t2 := celR 2 HTR.out; have t3 := celR 3 HTR.out; have t4 := celR 4 HTR.out; have t5 := celR 5 HTR.out; have t6 := celR 6 HTR.out
 go_wp2_with fail
 refine (HSO.out w2 HB2.out).mono ?_
 obtain ⟨ok, hok⟩ : ∃ ok, ok = storeOk X := ⟨_, rfl⟩
 rw [← hok]
 have HOK := Lib.hid hok.symm; clear hok
 rintro e w3 ⟨rfl, hb3⟩
 have HB3 := Lib.hid (HB2.out.trans (hb3.mono HB2.out.size))
 have HSX3 := Lib.hid ((hb3.block _ l2).trans HSX.out)
 have HTR3 := Lib.hid ((hb3.block _ l2x).trans HTR.out)
 clear hb3 s0 s1 s2 s3 s4 s5 s6 s7 t0 t1 t2 t3 t4 t5 t6
 cases ok
 · have HN : Hid (false = (tableG X ((a, b, s, m, l), d, n)).isSome) := Lib.hid (by rw [tableG_no HOK.out]; rfl)
   go_wp2_with fail
   go_ret
   exact ⟨ret_bool HN.out, HB3.out⟩
 have s0 := celR 0 HSX3.out; have s1 := celR 1 HSX3.out; have s2 := celR 2 HSX3.out; have s3 := celR 3 HSX3.out; have s4 := celR 4 HSX3.out; have s5 := celR 5 HSX3.out; have s6 := celR 6 HSX3.out; have s7 := celR 7 HSX3.out
 have t0 := celR 0 HTR3.out; have t1 := celR 1 HTR3.out; have t2 := celR 2 HTR3.out; have t3 := celR 3 HTR3.out; have t4 := celR 4 HTR3.out; have t5 := celR 5 HTR3.out; have t6 := celR 6 HTR3.out
 have HGE := Lib.hid (tableG_yes (t := ((a, b, s, m, l), d, n)) HOK.out)
 go_wp2_with fail
 refine (HND.out w3 HB3.out HOK.out).mono ?_
 rw [← HGE.out]
 obtain ⟨bb, hbb⟩ : ∃ bb, bb = (tableG X ((a, b, s, m, l), d, n)).isSome := ⟨_, rfl⟩
 rw [← hbb]
 have HBB := Lib.hid hbb; clear hbb
 rintro e w4 ⟨rfl, hb4⟩
 have HB4 := Lib.hid (HB3.out.trans (hb4.mono HB3.out.size))
 clear hb4
 go_wp2_with fail
 go_ret
 exact ⟨ret_bool HBB.out, HB4.out⟩
end Go.Proofs.YtjnhiiaejeaikaaGreatDoor
