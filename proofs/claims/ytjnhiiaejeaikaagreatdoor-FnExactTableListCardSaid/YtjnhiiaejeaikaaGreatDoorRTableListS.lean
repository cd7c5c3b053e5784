/- TableList of the reference. No condition. -/
import Derived.Test.YtjnhiiaejeaikaaGreatDoorRMarkSt
import Derived.Test.YtjnhiiaejeaikaaGreatDoorRFamEq
set_option linter.unnecessarySimpa false
set_option linter.unusedSimpArgs false
set_option linter.unusedVariables false
namespace Go.Proofs.YtjnhiiaejeaikaaGreatDoor
open Go Go.Lib Go.RowKit
set_option maxRecDepth 100000 in
set_option maxHeartbeats 8000000 in
theorem spTableList_any (cs : List Value) (x : StoreD) (a b s m l d n : Int) (w : World) (lo hi : Nat) (h : StoreR w lo hi cs x) (hhi : hi ≤ w.heap.size) (hsz : SmallS x) :
 Calls Tryz.prog 8 #[.agg cs.toArray, .agg #[.int .i64 a, .int .i64 b, .int .i64 s, .int .i64 m, .int .i64 l, .int .i64 d, .int .i64 n]] w (GotL (tableG x ((a, b, s, m, l), d, n)) w) := by
 have HTO0 := Lib.hid (fun (W : World) (hb : Below w.heap.size w W) => spTableOk_any cs x a b s m l d n W lo hi (StoreR.below hb hhi cs x h) (Nat.le_trans hhi hb.size) hsz)
 have HTX0 := Lib.hid (fun (W : World) (hb : Below w.heap.size w W) (hok : storeOk x = true) (dn nn : Nat) (ls : List PtrD) (hv : TreeV x a b s m l dn nn ls) => l8Texts_any cs x a b s m l dn nn ls W lo hi (StoreR.below hb hhi cs x h) (Nat.le_trans hhi hb.size) (storeOk_rows hok).1 (storeOk_rows hok).2.1 hv)
 clear hhi hsz
 obtain ⟨rows, ⟨refs, last⟩, txg, gone, keep, dead, same⟩ := x
 obtain ⟨A0, n0, c0, A1, n1, c1, A2, n2, c2, A3, n3, c3, A4, n4, c4, rfl, h0, h1, h2, h3, h4⟩ := h
 clear h0 h1 h2 h3 h4
 have HTO : Hid (∀ (W : World), Below w.heap.size w W → Calls Tryz.prog 17 #[.agg #[.slice A0 n0 c0, .slice A1 n1 c1, .slice A2 n2 c2, .int .i64 txg, .slice A3 n3 c3, .int .i64 keep, .slice A4 n4 c4, .bool same], .agg #[.int .i64 a, .int .i64 b, .int .i64 s, .int .i64 m, .int .i64 l, .int .i64 d, .int .i64 n]] W fun e w' => e = .returned (.bool (tableG (rows, (refs, last), txg, gone, keep, dead, same) ((a, b, s, m, l), d, n)).isSome) ∧ Below W.heap.size W w') := Lib.hid (fun W hb => HTO0.out W hb)
 have HTX : Hid (∀ (W : World), Below w.heap.size w W → storeOk (rows, (refs, last), txg, gone, keep, dead, same) = true → ∀ (dn nn : Nat) (ls : List PtrD), TreeV (rows, (refs, last), txg, gone, keep, dead, same) a b s m l dn nn ls → Calls Tryz.prog 27 #[.agg #[.slice A0 n0 c0, .slice A1 n1 c1, .slice A2 n2 c2, .int .i64 txg, .slice A3 n3 c3, .int .i64 keep, .slice A4 n4 c4, .bool same], .agg #[.int .i64 a, .int .i64 b, .int .i64 s, .int .i64 m, .int .i64 l, .int .i64 (dn : Int), .int .i64 (nn : Int)]] W (NewStrs (textsT (rows, (refs, last), txg, gone, keep, dead, same) nn ls) W)) := Lib.hid (fun W hb hok dn nn ls hv => HTX0.out W hb hok dn nn ls hv)
 clear HTO0 HTX0
 show Calls Tryz.prog 8 #[.agg #[.slice A0 n0 c0, .slice A1 n1 c1, .slice A2 n2 c2, .int .i64 txg, .slice A3 n3 c3, .int .i64 keep, .slice A4 n4 c4, .bool same], .agg #[.int .i64 a, .int .i64 b, .int .i64 s, .int .i64 m, .int .i64 l, .int .i64 d, .int .i64 n]] w _
 generalize hX : ((rows, (refs, last), txg, gone, keep, dead, same) : StoreD) = X at *
 clear hX
 go_enter Tryz.func8, Tryz.ntmps8
 obtain ⟨w2, hw2⟩ : ∃ W, W = (w.alloc (.cells #[.slice A0 n0 c0, .slice A1 n1 c1, .slice A2 n2 c2, .int .i64 txg, .slice A3 n3 c3, .int .i64 keep, .slice A4 n4 c4, .bool same] 39)).alloc (.cells #[.int .i64 a, .int .i64 b, .int .i64 s, .int .i64 m, .int .i64 l, .int .i64 d, .int .i64 n] 43) := ⟨_, rfl⟩
 have HB2 : Hid (Below w.heap.size w w2) := Lib.hid (by rw [hw2]; exact bel2)
 have HSX : Hid (w2.heap[w.heap.size]? = some (.cells #[.slice A0 n0 c0, .slice A1 n1 c1, .slice A2 n2 c2, .int .i64 txg, .slice A3 n3 c3, .int .i64 keep, .slice A4 n4 c4, .bool same] 39 (0, 0))) := Lib.hid (by rw [hw2]; exact (Below.heap_alloc _ _ _ (by simp)).trans (heap_alloc_new _ _))
 have HTR : Hid (w2.heap[w.heap.size + 1]? = some (.cells #[.int .i64 a, .int .i64 b, .int .i64 s, .int .i64 m, .int .i64 l, .int .i64 d, .int .i64 n] 43 (0, 0))) := Lib.hid (by rw [hw2]; have := heap_alloc_new (w.alloc (.cells #[.slice A0 n0 c0, .slice A1 n1 c1, .slice A2 n2 c2, .int .i64 txg, .slice A3 n3 c3, .int .i64 keep, .slice A4 n4 c4, .bool same] 39)) (.cells #[.int .i64 a, .int .i64 b, .int .i64 s, .int .i64 m, .int .i64 l, .int .i64 d, .int .i64 n] 43); simpa using this)
 have l2 : w.heap.size < w2.heap.size := (Array.getElem?_eq_some_iff.1 HSX.out).1
 have l2x : w.heap.size + 1 < w2.heap.size := (Array.getElem?_eq_some_iff.1 HTR.out).1
 go_wp2_with fail
 rw [← hw2]; clear hw2
 have s0 := celR 0 HSX.out; have s1 := celR 1 HSX.out; have s2 := celR 2 HSX.out; have s3 := celR 3 HSX.out; have s4 := celR 4 HSX.out; have s5 := celR 5 HSX.out; have s6 := celR 6 HSX.out; have s7 := celR 7 HSX.out
 have t0 := celR 0 HTR.out; have t1 := celR 1 HTR.out; have t2 := celR 2 HTR.out; have t3 := celR 3 HTR.out; have t4 := celR 4 HTR.out; have t5 := celR 5 HTR.out; have t6 := celR 6 HTR.out
 go_wp2_with fail
 obtain ⟨wz, hwz⟩ : ∃ W, W = w2.alloc (.cells #[] 3) := ⟨_, rfl⟩
 rw [← hwz]
 have hbz : Below w2.heap.size w2 wz := by rw [hwz]; exact bel1
 have HBZ := Lib.hid (HB2.out.trans (hbz.mono HB2.out.size))
 have HSXZ := Lib.hid ((hbz.block _ l2).trans HSX.out)
 have HTRZ := Lib.hid ((hbz.block _ l2x).trans HTR.out)
 have lz : w.heap.size < wz.heap.size := (Array.getElem?_eq_some_iff.1 HSXZ.out).1
 have lzx : w.heap.size + 1 < wz.heap.size := (Array.getElem?_eq_some_iff.1 HTRZ.out).1
 clear hbz hwz
 refine (HTO.out wz HBZ.out).mono ?_
 obtain ⟨G, hG⟩ : ∃ G, G = tableG X ((a, b, s, m, l), d, n) := ⟨_, rfl⟩
 rw [← hG]
 have HG := Lib.hid hG.symm; clear hG
 rintro e w4 ⟨rfl, hb4⟩
 have HB4 := Lib.hid (HBZ.out.trans (hb4.mono HBZ.out.size))
 have HSX4 := Lib.hid ((hb4.block _ lz).trans HSXZ.out)
 have HTR4 := Lib.hid ((hb4.block _ lzx).trans HTRZ.out)
 clear hb4 s0 s1 s2 s3 s4 s5 s6 s7 t0 t1 t2 t3 t4 t5 t6
 cases G with
 | none =>
   go_wp2_with fail
   exact bodyPost_ret (v := .tuple #[.slice (some ⟨w.heap.size + 1 + 1, 0, none⟩) 0 0, .bool false]) (by simp [results, Tryz.results8, go_sem]) rfl ⟨_, 0, 0, [], by rw [HG.out]; rfl, by rw [HG.out]; exact OwnA.nil _, by rw [HG.out]; rfl, by simp, HB4.out⟩
 | some Lst =>
   have HOK : Hid (storeOk X = true) := Lib.hid (tableG_ok HG.out).1
   obtain ⟨dn, nn, ls, rfl, rfl, hv, hLn, hn16, hLr⟩ := tableF_rows (tableG_ok HG.out).2
   have HV := Lib.hid hv; have HLR := Lib.hid hLr; have HLN := Lib.hid hLn; clear hv hLr hLn
   obtain ⟨i0, hi0, hz0, hz1, hz2⟩ := info_parts info_int
   have s0 := celR 0 HSX4.out; have s1 := celR 1 HSX4.out; have s2 := celR 2 HSX4.out; have s3 := celR 3 HSX4.out; have s4 := celR 4 HSX4.out; have s5 := celR 5 HSX4.out; have s6 := celR 6 HSX4.out; have s7 := celR 7 HSX4.out
   have t0 := celR 0 HTR4.out; have t1 := celR 1 HTR4.out; have t2 := celR 2 HTR4.out; have t3 := celR 3 HTR4.out; have t4 := celR 4 HTR4.out; have t5 := celR 5 HTR4.out; have t6 := celR 6 HTR4.out
   go_wp2_with fail
   refine (HTX.out w4 HB4.out HOK.out dn nn ls HV.out).mono ?_
   rintro e w5 ⟨A, c, rfl, hI, hb5⟩
   have HTL : Hid ((textsT X nn ls).length = nn) := Lib.hid (textsT_len HV.out.nn)
   obtain ⟨NN, hNN⟩ : ∃ NN, NN = (textsT X nn ls).length := ⟨_, rfl⟩
   rw [← hNN]
   obtain rfl : NN = nn := hNN.trans HTL.out
   have HB5 := Lib.hid (HB4.out.trans (hb5.mono HB4.out.size))
   have HI := Lib.hid hI
   have lw5 : w.heap.size ≤ w5.heap.size := HB5.out.size
   clear hb5 hI hNN s0 s1 s2 s3 s4 s5 s6 s7 t0 t1 t2 t3 t4 t5 t6
   go_wp2_with fail
   go_loopw [6, 8] (fun b i wr => ∃ (k : Nat) (C : Option Addr) (nb cb : Nat) (S : List Nat), k ≤ NN ∧ i = .int .i64 (k : Int) ∧ b = .slice C nb cb ∧ nb ≤ k ∧ Hid ((numsTo Lst k).length = nb) ∧ Hid (OwnA wr 3 1 S C nb cb ((numsTo Lst k).map (Value.int .i64))) ∧ Hid (∀ g ∈ S, w5.heap.size ≤ g) ∧ Hid (Below w5.heap.size w5 wr)) (fun _ i _ => NN - (RowKit.intOf i).toNat)
   case atStart => exact ⟨0, _, 0, 0, [], Nat.zero_le _, rfl, rfl, Nat.le_refl _, Lib.hid rfl, Lib.hid (OwnA.nil _), Lib.hid (by simp), Lib.hid (Below.refl _ _)⟩
   obtain ⟨k, C, nb, cb, S, hk, rfl, rfl, hnb, HY, HO, HS, HB⟩ := hrel
   have k0 : (0 : Int) ≤ (k : Int) := by omega
   by_cases hlt : k < NN
   · have k1 : (k : Int) < (NN : Int) := by omega
     obtain ⟨pp, hp⟩ : ∃ q, ls[k]? = some q := ⟨ls[k]'(by have := HV.out.nn; omega), List.getElem?_eq_getElem _⟩
     obtain ⟨ts, hts⟩ : ∃ ts, ts = (textP X pp).data.toList := ⟨_, rfl⟩
     have hx := textsT_get (x := X) hp hlt
     rw [← hts] at hx
     obtain ⟨g, hA, lg, hc⟩ := (HI.out.below HB.out).cellP hx
     subst hA
     have HRS := HV.out.read pp (List.mem_of_getElem? hp)
     obtain ⟨hg1, hg2⟩ := HLR.out k pp hlt hp
     have HNT : Hid (ts = [] ↔ nodeP X pp = none) := Lib.hid (by
      rw [← nodeP_text HRS hg2, hts]
      constructor
      · intro e; show (textP X pp).data.size = 0; rw [← Array.length_toList, e]; rfl
      · intro e; have e' : (textP X pp).data.size = 0 := e; rw [← Array.length_toList] at e'; exact List.eq_nil_of_length_eq_zero e')
     clear hp hx hts HRS hg2
     by_cases hh : ts = []
     · have HE := Lib.hid (numsTo_none (hg1.trans (by rw [HNT.out.1 hh])))
       subst hh
       have dz : ((strB []).toList != []) = false := by rw [strB_list]; rfl
       have dz1 : ((strB []).toList == []) = true := by rw [strB_list]; rfl
       have dz2 : (strB []).toList.isEmpty = true := by rw [strB_list]; rfl
       clear hg1
       go_wp2_with fail
       go_roundw
       case rel => exact ⟨k + 1, C, nb, cb, S, by omega, by go_num, rfl, by omega, Lib.hid (by rw [HE.out]; exact HY.out), Lib.hid (by rw [HE.out]; exact HO.out), HS, HB⟩
       simp [RowKit.intOf]; omega
     obtain ⟨N, hN⟩ : ∃ N, nodeP X pp = some N := by
      cases hn : nodeP X pp with
      | none => exact absurd (HNT.out.2 hn) hh
      | some N => exact ⟨N, rfl⟩
     have HE := Lib.hid (numsTo_some (hg1.trans (by rw [hN])))
     have dz1 : ((strB ts).toList == []) = false := by
      rw [strB_list]
      cases ts with
      | nil => exact absurd rfl hh
      | cons c cs => rfl
     have dz : ((strB ts).toList != []) = true := by simp [bne, dz1]
     have dz2 : (strB ts).toList.isEmpty = false := by
      rw [strB_list]
      cases ts with
      | nil => exact absurd rfl hh
      | cons c cs => rfl
     have HO2 : Hid (OwnA (wr.alloc (.cells #[.int .i64 (k : Int)] 3)) 3 1 S C nb cb ((numsTo Lst k).map (Value.int .i64))) := Lib.hid (HO.out.below bel1)
     have HRL : Hid (RowAt (wr.alloc (.cells #[.int .i64 (k : Int)] 3)) (some ⟨wr.heap.size, 0, none⟩) (1 * 1) [.int .i64 (k : Int)]) := Lib.hid (RowAt.lit rfl)
     clear hg1 hN hh
     go_wp2_with (at_builtin; go_must (refine wpList_append_row rfl _ _ 23 rfl 3 i0 (.int .i64 0) 1 8 Tryz.underlying23 hi0 hz0 hz1 hz2 rfl (by decide) S (C) (some ⟨wr.heap.size, 0, none⟩) nb cb 1 1 ((numsTo Lst k).map (Value.int .i64)) [.int .i64 (k : Int)] rfl rfl HO2.out HRL.out (by intro u hu; simp at hu; subst hu; rfl) (by unfold maxLen; omega) (by omega) ?_))
     intro C' cb' S' w6 hO5 hS5 hC5
     have hB5 : Below w5.heap.size w5 w6 := (HB.out.alloc HB.out.size _).trans (hC5.below (fun g _ hg => HS.out g hg) (by have := HB.out.size; first | omega | (simp; omega)))
     have HO5 : Hid (OwnA w6 3 1 S' C' (nb + 1) cb' ((numsTo Lst (k + 1)).map (Value.int .i64))) := Lib.hid (by rw [HE.out, List.map_append]; simpa using hO5)
     have HS5 : Hid (∀ g ∈ S', w5.heap.size ≤ g) := Lib.hid (fun g hg => (hS5 g hg).elim (HS.out g) (fun h => by have := HB.out.size; first | omega | (simp at h; omega)))
     have HB6 := Lib.hid hB5
     clear hO5 hS5 hC5 hB5
     go_wp2_with fail
     go_roundw
     case rel => exact ⟨k + 1, C', nb + 1, cb', S', by omega, by go_num, rfl, by omega, Lib.hid (by rw [HE.out, List.length_append, HY.out]; rfl), HO5, HS5, HB6⟩
     simp [RowKit.intOf]; omega
   obtain rfl : k = NN := by omega
   have HN : Hid (numsO (some Lst) = numsTo Lst k) := Lib.hid (by show numsF Lst = _; rw [numsF_all, HLN.out])
   go_wp2_with fail
   exact bodyPost_ret (v := .tuple #[.slice C nb cb, .bool true]) (by simp [results, Tryz.results8, go_sem]) rfl ⟨C, nb, cb, S, by rw [HG.out]; rfl, by rw [HG.out, HN.out]; exact HO.out, by rw [HG.out, HN.out]; exact HY.out, fun g hg => Nat.le_trans lw5 (HS.out g hg), HB5.out.trans (HB.out.mono HB5.out.size)⟩
end Go.Proofs.YtjnhiiaejeaikaaGreatDoor
