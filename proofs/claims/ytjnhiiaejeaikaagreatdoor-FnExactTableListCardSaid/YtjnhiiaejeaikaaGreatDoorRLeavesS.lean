/- The places of a tree: l8Leaves and l8Ok of the reference. Condition: the store has 64 rows of at most 128 bytes. -/
import Derived.Test.YtjnhiiaejeaikaaGreatDoorRLeaves
set_option linter.unnecessarySimpa false
set_option linter.unusedSimpArgs false
set_option linter.unusedVariables false
namespace Go.Proofs.YtjnhiiaejeaikaaGreatDoor
open Go Go.Lib Go.RowKit
theorem belowS_parts {x : StoreD} {lev : Int} {p : PtrD} {qs : List PtrD} (h : belowS x lev p = some qs) : qs.length = 4 ∧ ∀ q ∈ qs, okP q = true := by
 unfold belowS at h
 split at h
 · rename_i hh
   injection h with h
   subst h
   exact ⟨List.length_replicate, fun q hq => by obtain rfl := List.eq_of_mem_replicate hq; rfl⟩
 split at h
 · obtain ⟨h1, h2, _⟩ := belowF_parts h
   exact ⟨h1, h2⟩
 cases h
def SlP (o : Option (List PtrD)) (B : Nat) (A : Option Addr) (n c : Nat) (w : World) : Prop := ∃ ps, (∀ qs, o = some qs → ps = qs) ∧ SliceR PtrR 5 w B w.heap.size A n c ps
theorem SlP.ext {o : Option (List PtrD)} {B : Nat} {A : Option Addr} {n c : Nat} {w w' : World} (h : SlP o B A n c w) (he : Ext w w') : SlP o B A n c w' := by
 obtain ⟨ps, h1, h2⟩ := h
 exact ⟨ps, h1, h2.newer he⟩
def gotP (o : Option (List PtrD)) (B : Nat) : StP := ⟨fun v w => ∃ A n c, v = .tuple #[.slice A n c, .bool o.isSome] ∧ SlP o B A n c w, fun _ _ _ he ⟨A, n, c, e, h⟩ => ⟨A, n, c, e, h.ext he⟩⟩
def slP (o : Option (List PtrD)) (B : Nat) : StP := ⟨fun v w => ∃ A n c, v = .slice A n c ∧ SlP o B A n c w, fun _ _ _ he ⟨A, n, c, e, h⟩ => ⟨A, n, c, e, h.ext he⟩⟩
theorem headS_eq (a b s m l d n : Int) : headS ((a, b, s, m, l), d, n) = (inB n 0 16 && (decide (d = depthF n) && ptrOkB a b s m l)) := rfl
theorem endS_eq (x : StoreD) (many : Int) (i : Nat) (a b s m l : Int) : endS x many i (a, b, s, m, l) = (ptrHole a b s m l || ((readF x (a, b, s, m, l)).isSome && (decide (l = 0) && (decide (b ≤ x.2.2.1) && decide ((i : Int) < many))))) := rfl
set_option maxRecDepth 100000 in
set_option maxHeartbeats 16000000 in
theorem l8Leaves_any (cs : List Value) (x : StoreD) (a b s m l n : Int) (dn : Nat) (w : World) (lo hi : Nat) (h : StoreR w lo hi cs x) (hhi : hi ≤ w.heap.size) (h64 : x.1.length = 64) (hz : ∀ r ∈ x.1, r.size ≤ 128) (hd2 : dn ≤ 2) :
 Calls Tryz.prog 62 #[.agg cs.toArray, .agg #[.int .i64 a, .int .i64 b, .int .i64 s, .int .i64 m, .int .i64 l, .int .i64 (dn : Int), .int .i64 n]] w (GotPs (leavesG (belowS x) dn [((a, b, s, m, l) : PtrD)]) w) := by
 obtain ⟨i0, hi0, hz0, hz1, hz2⟩ := info_parts infoPtr
 have H64 := Lib.hid h64
 have HBL := Lib.hid (fun (W : World) (hb : Below w.heap.size w W) (a b s m l lev : Int) => l8Below_any cs x a b s m l lev W lo hi (StoreR.below hb hhi cs x h) (Nat.le_trans hhi hb.size) h64 hz)
 clear hhi h64 hz
 obtain ⟨rows, ⟨refs, last⟩, txg, gone, keep, dead, same⟩ := x
 obtain ⟨A0, n0, c0, A1, n1, c1, A2, n2, c2, A3, n3, c3, A4, n4, c4, rfl, h0, h1, h2, h3, h4⟩ := h
 obtain rfl : n0 = 64 := by rw [← h0.len]; exact H64.out
 clear h0 h1 h2 h3 h4
 have HBL : Hid (∀ (W : World), Below w.heap.size w W → ∀ (a b s m l lev : Int), Calls Tryz.prog 80 #[.agg #[.slice A0 64 c0, .slice A1 n1 c1, .slice A2 n2 c2, .int .i64 txg, .slice A3 n3 c3, .int .i64 keep, .slice A4 n4 c4, .bool same], .agg #[.int .i64 a, .int .i64 b, .int .i64 s, .int .i64 m, .int .i64 l], .int .i64 lev] W (GotPs (belowS (rows, (refs, last), txg, gone, keep, dead, same) lev (a, b, s, m, l)) W)) := Lib.hid (fun W hb a b s m l lev => HBL.out W hb a b s m l lev)
 show Calls Tryz.prog 62 #[.agg #[.slice A0 64 c0, .slice A1 n1 c1, .slice A2 n2 c2, .int .i64 txg, .slice A3 n3 c3, .int .i64 keep, .slice A4 n4 c4, .bool same], .agg #[.int .i64 a, .int .i64 b, .int .i64 s, .int .i64 m, .int .i64 l, .int .i64 (dn : Int), .int .i64 n]] w _
 generalize hX : ((rows, (refs, last), txg, gone, keep, dead, same) : StoreD) = X at *
 clear hX H64
 obtain ⟨R, hR⟩ : ∃ R, R = leavesG (belowS X) dn [((a, b, s, m, l) : PtrD)] := ⟨_, rfl⟩
 rw [← hR]
 have HRR := Lib.hid hR; clear hR
 go_enter Tryz.func62, Tryz.ntmps62
 obtain ⟨w2, hw2⟩ : ∃ W, W = (w.alloc (.cells #[.slice A0 64 c0, .slice A1 n1 c1, .slice A2 n2 c2, .int .i64 txg, .slice A3 n3 c3, .int .i64 keep, .slice A4 n4 c4, .bool same] 39)).alloc (.cells #[.int .i64 a, .int .i64 b, .int .i64 s, .int .i64 m, .int .i64 l, .int .i64 (dn : Int), .int .i64 n] 43) := ⟨_, rfl⟩
 have HB2 : Hid (Below w.heap.size w w2) := Lib.hid (by rw [hw2]; exact bel2)
 have HSX : Hid (w2.heap[w.heap.size]? = some (.cells #[.slice A0 64 c0, .slice A1 n1 c1, .slice A2 n2 c2, .int .i64 txg, .slice A3 n3 c3, .int .i64 keep, .slice A4 n4 c4, .bool same] 39 (0, 0))) := Lib.hid (by rw [hw2]; exact (Below.heap_alloc _ _ _ (by simp)).trans (heap_alloc_new _ _))
 have HTX : Hid (w2.heap[w.heap.size + 1]? = some (.cells #[.int .i64 a, .int .i64 b, .int .i64 s, .int .i64 m, .int .i64 l, .int .i64 (dn : Int), .int .i64 n] 43 (0, 0))) := Lib.hid (by rw [hw2]; have := heap_alloc_new (w.alloc (.cells #[.slice A0 64 c0, .slice A1 n1 c1, .slice A2 n2 c2, .int .i64 txg, .slice A3 n3 c3, .int .i64 keep, .slice A4 n4 c4, .bool same] 39)) (.cells #[.int .i64 a, .int .i64 b, .int .i64 s, .int .i64 m, .int .i64 l, .int .i64 (dn : Int), .int .i64 n] 43); simpa using this)
 obtain ⟨w3, hw3⟩ : ∃ W, W = w2.alloc (.cells #[.int .i64 a, .int .i64 b, .int .i64 s, .int .i64 m, .int .i64 l] 41) := ⟨_, rfl⟩
 have z2 : w2.heap.size = w.heap.size + 1 + 1 := by rw [hw2]; simp
 have HB3 : Hid (Below w.heap.size w w3) := Lib.hid (by rw [hw3]; exact Below.alloc HB2.out HB2.out.size _)
 have HSX3 : Hid (w3.heap[w.heap.size]? = some (.cells #[.slice A0 64 c0, .slice A1 n1 c1, .slice A2 n2 c2, .int .i64 txg, .slice A3 n3 c3, .int .i64 keep, .slice A4 n4 c4, .bool same] 39 (0, 0))) := Lib.hid (by rw [hw3]; exact (Below.heap_alloc _ _ _ (by omega)).trans HSX.out)
 have HP3 : Hid (PtrsAt (w.heap.size + 2) (some ⟨w.heap.size + 1 + 1, 0, none⟩) 1 [w2.heap.size] [((a, b, s, m, l) : PtrD)] w3) := Lib.hid (by rw [hw3, ← z2]; exact PtrsAt.lit (ys := [((a, b, s, m, l) : PtrD)]) (by simp [pcL]) (by simp [maxLen]) (by omega))
 have l3 : w.heap.size + 2 < w3.heap.size := by rw [hw3]; simp; omega
 go_wp2_with fail
 rw [← hw2, ← hw3]
 clear hw2 hw3 HSX HTX HB2 z2
 have HY3 : Hid (Below (w.heap.size + 2) w3 w3) := Lib.hid (Below.refl _ _)
 go_loopw [6, 7] (fun t i wr => ∃ (dk len c : Nat) (A : Option Addr) (S : List Nat) (ls : List PtrD), dk ≤ 2 ∧ i = .int .i64 (dk : Int) ∧ t = .slice A len c ∧ len ≤ 16 ∧ Hid (len = ls.length) ∧ Hid (len * 4 ^ dk ≤ 16) ∧ Hid (PtrsAt (w.heap.size + 2) A c S ls wr) ∧ Hid (R = leavesG (belowS X) dk ls) ∧ Hid (Below (w.heap.size + 2) w3 wr)) (fun _ i _ => (RowKit.intOf i).toNat)
 case atStart => exact ⟨dn, 1, 1, _, _, [(a, b, s, m, l)], hd2, rfl, rfl, by omega, Lib.hid rfl, Lib.hid (by rcases (by omega : dn = 0 ∨ dn = 1 ∨ dn = 2) with rfl | rfl | rfl <;> decide), HP3, HRR, HY3⟩
 clear HP3 HY3
 obtain ⟨dk, len, c, A, S, ls, hdk, rfl, rfl, hlen, HLL, HL4, HPS, HLV, HBR⟩ := hrel
 have HBW := Lib.hid (HB3.out.trans (HBR.out.mono (by omega)))
 obtain ⟨wq, rfl⟩ : ∃ wq, wq = wr := ⟨_, rfl⟩
 have lq : w.heap.size + 2 ≤ wq.heap.size := Nat.le_trans (Nat.le_of_lt l3) HBR.out.size
 have HSQ := Lib.hid ((HBR.out.block _ (by omega)).trans HSX3.out)
 by_cases hpos : 0 < dk
 case pos =>
  obtain ⟨dk, rfl⟩ : ∃ k', dk = k' + 1 := ⟨dk - 1, by omega⟩
  have hp1 : (0 : Int) < ((dk + 1 : Nat) : Int) := by omega
  have HL16 : Hid (4 * len ≤ 16) := Lib.hid (by have h_ := HL4.out; rcases (by omega : dk = 0 ∨ dk = 1) with rfl | rfl <;> omega)
  have hL16 := HL16.out
  obtain ⟨lv, hlv⟩ : ∃ lv : Int, lv = ((dk + 1 : Nat) : Int) := ⟨_, rfl⟩
  have HLVN := Lib.hid hlv
  rw [← hlv] at hp1 ⊢
  clear hlv
  obtain ⟨wp, hwp⟩ : ∃ W, W = wq.alloc (.cells #[] 41) := ⟨_, rfl⟩
  have HBP : Hid (Below wq.heap.size wq wp) := Lib.hid (by rw [hwp]; exact bel1)
  go_wp2_with fail
  rw [← hwp]
  clear hwp
  go_loopw [8, 9] (fun t i wr => ∃ (k mm c2' : Nat) (A2' : Option Addr) (S2 : List Nat) (nx : List PtrD), k ≤ len ∧ mm ≤ 16 ∧ i = .int .i64 (k : Int) ∧ t = .slice A2' mm c2' ∧ Hid (mm = 4 * k) ∧ Hid (mm = nx.length) ∧ Hid (LvlTo (belowS X lv) ls k nx) ∧ Hid (PtrsAt wq.heap.size A2' c2' S2 nx wr) ∧ Hid (Below wq.heap.size wq wr)) (fun _ i _ => len - (RowKit.intOf i).toNat)
  case atStart => exact ⟨0, 0, 0, _, [], [], Nat.zero_le _, by omega, rfl, rfl, Lib.hid rfl, Lib.hid rfl, Lib.hid (LvlTo.zero _ _), Lib.hid PtrsAt.nil, HBP⟩
  clear HBP
  obtain ⟨k, mm, c2', A2', S2, nx, hk, hm16, rfl, rfl, HMM, HMN, HLT, HPN, HB2⟩ := hrel
  have HBW2 := Lib.hid (HBW.out.trans (HB2.out.mono HBW.out.size))
  have k0 : (0 : Int) ≤ (k : Int) := by omega
  by_cases hlt : k < len
  case pos =>
   have k1 : (k : Int) < (len : Int) := by omega
   obtain ⟨pp, hp⟩ : ∃ q, ls[k]? = some q := ⟨ls[k]'(by rw [← HLL.out]; exact hlt), List.getElem?_eq_getElem _⟩
   have hsl := (HPS.out.below HB2.out).slice
   rw [← HLL.out] at hsl
   obtain ⟨b_, off, rfl, _, _, bl, hc⟩ := hsl.at_ (by omega)
   obtain ⟨cs_, hcl, hcc, hr⟩ := hc k pp hp
   have HX := Lib.hid hp
   clear hp hc hsl
   obtain ⟨a', b', s', m', l'⟩ := pp
   obtain rfl := hr
   have q0 := hcc 0 _ rfl; have q1 := hcc 1 _ rfl; have q2 := hcc 2 _ rfl; have q3 := hcc 3 _ rfl; have q4 := hcc 4 _ rfl
   simp only [Nat.add_zero] at q0
   clear hcc hcl
   have HSR := Lib.hid ((HB2.out.block _ (by omega)).trans HSQ.out)
   have ls0 := (Array.getElem?_eq_some_iff.1 HSR.out).1
   have s0_ := celR 0 HSR.out; have s1_ := celR 1 HSR.out; have s2_ := celR 2 HSR.out; have s3_ := celR 3 HSR.out; have s4_ := celR 4 HSR.out; have s5_ := celR 5 HSR.out; have s6_ := celR 6 HSR.out; have s7_ := celR 7 HSR.out
   obtain ⟨o, ho⟩ : ∃ o, o = belowS X lv (a', b', s', m', l') := ⟨_, rfl⟩
   have HO := Lib.hid ho.symm; clear ho
   go_wp2_with fail
   apply wp_region_rg (by kernel_rfl) (false :: false :: false :: false :: false :: false :: false :: false :: false :: false :: true :: true :: false :: false :: false :: false :: false :: false :: false :: false :: false :: false :: false :: false :: false :: false :: false :: false :: true :: true :: true :: true :: true :: true :: true :: true :: true :: true :: false :: false :: false :: false :: false :: false :: false :: false :: []) [some 29, some 30, some 31, some 32, some 33, some 34, some 35, some 28, some 36, some 37, some 10, some 11] [[], [], [], [1, 2], [3], [], [0, 4, 5], [6], [7], [7], [8], [9]] [StP.is _, StP.is _, StP.is _, StP.is _, StP.is _, StP.is _, gotP o wr.heap.size, gotP o wr.heap.size, slP o wr.heap.size, StP.is _, slP o wr.heap.size, StP.is _] (by kernel_rfl)
   case hobs =>
    refine ⟨fun y w' hS hF K hK => ?_, ?_⟩
    · skip
      simp only [fillL, cond_true, cond_false, zG0, zG1, StP.is, Act.put, zS2, zS0, zS1, Nat.reduceAdd] at hK ⊢
      refine rg_yes (by kernel_rfl) ?_
      have qx0_ := (Below.cell hS ls0).trans s0_
      have qx1_ := (Below.cell hS ls0).trans s1_
      have qx2_ := (Below.cell hS ls0).trans s2_
      have qx3_ := (Below.cell hS ls0).trans s3_
      have qx4_ := (Below.cell hS ls0).trans s4_
      have qx5_ := (Below.cell hS ls0).trans s5_
      have qx6_ := (Below.cell hS ls0).trans s6_
      have qx7_ := (Below.cell hS ls0).trans s7_
      have qx8_ := (Below.cell hS bl).trans q0
      have qx9_ := (Below.cell hS bl).trans q1
      have qx10_ := (Below.cell hS bl).trans q2
      have qx11_ := (Below.cell hS bl).trans q3
      have qx12_ := (Below.cell hS bl).trans q4
      clear hF
      go_simp
      exact hK _ _ (Ext.refl _) rfl
    refine ⟨fun y w' hS hF K hK => ?_, ?_⟩
    · skip
      simp only [fillL, cond_true, cond_false, zG0, zG1, StP.is, Act.put, zS2, zS0, zS1, Nat.reduceAdd] at hK ⊢
      refine rg_yes (by kernel_rfl) ?_
      clear hF
      go_simp
      exact hK _ _ (Ext.refl _) rfl
    refine ⟨fun y w' hS hF K hK => ?_, ?_⟩
    · skip
      simp only [fillL, cond_true, cond_false, zG0, zG1, StP.is, Act.put, zS2, zS0, zS1, Nat.reduceAdd] at hK ⊢
      refine rg_yes (by kernel_rfl) ?_
      clear hF
      go_simp
      exact hK _ _ (Ext.refl _) rfl
    refine ⟨fun y w' hS hF K hK => ?_, ?_⟩
    · skip
      have e30 : y 30 = _ := hF.1
      have e31 : y 31 = _ := hF.2.1
      simp only [fillL, cond_true, cond_false, zG0, zG1, StP.is, Act.put, zS2, zS0, zS1, Nat.reduceAdd, e30, e31] at hK ⊢
      refine rg_yes (by kernel_rfl) ?_
      clear e30 e31
      clear hF
      go_simp
      exact hK _ _ (Ext.refl _) rfl
    refine ⟨fun y w' hS hF K hK => ?_, ?_⟩
    · skip
      have e32 : y 32 = _ := hF.1
      simp only [fillL, cond_true, cond_false, zG0, zG1, StP.is, Act.put, zS2, zS0, zS1, Nat.reduceAdd, e32] at hK ⊢
      refine rg_yes (by kernel_rfl) ?_
      have qx0_ := (Below.cell hS ls0).trans s0_
      have qx1_ := (Below.cell hS ls0).trans s1_
      have qx2_ := (Below.cell hS ls0).trans s2_
      have qx3_ := (Below.cell hS ls0).trans s3_
      have qx4_ := (Below.cell hS ls0).trans s4_
      have qx5_ := (Below.cell hS ls0).trans s5_
      have qx6_ := (Below.cell hS ls0).trans s6_
      have qx7_ := (Below.cell hS ls0).trans s7_
      have qx8_ := (Below.cell hS bl).trans q0
      have qx9_ := (Below.cell hS bl).trans q1
      have qx10_ := (Below.cell hS bl).trans q2
      have qx11_ := (Below.cell hS bl).trans q3
      have qx12_ := (Below.cell hS bl).trans q4
      clear e32
      clear hF
      go_simp
      exact hK _ _ (Ext.refl _) rfl
    refine ⟨fun y w' hS hF K hK => ?_, ?_⟩
    · skip
      simp only [fillL, cond_true, cond_false, zG0, zG1, StP.is, Act.put, zS2, zS0, zS1, Nat.reduceAdd] at hK ⊢
      refine rg_yes (by kernel_rfl) ?_
      clear hF
      go_simp
      exact hK _ _ (Ext.refl _) rfl
    refine ⟨fun y w' hS hF K hK => ?_, ?_⟩
    · skip
      have e29 : y 29 = _ := hF.1
      have e33 : y 33 = _ := hF.2.1
      have e34 : y 34 = _ := hF.2.2.1
      simp only [fillL, cond_true, cond_false, zG0, zG1, StP.is, Act.put, zS2, zS0, zS1, Nat.reduceAdd, e29, e33, e34] at hK ⊢
      refine rg_yes (by kernel_rfl) ?_
      clear e29 e33 e34
      clear hF
      go_simp
      go_at_call 80
      refine (HBL.out w' (HBW2.out.trans (Below.mono hS HBW2.out.size)) a' b' s' m' l' lv).mono ?_
      rw [HO.out]
      rintro e w'' ⟨A_, n_, c_, ps_, ok_, rfl, rfl, hq_, hs_, hb_⟩
      exact hK _ _ hb_ ⟨A_, n_, c_, rfl, ps_, hq_, hs_.wide (Below.size hS) (Nat.le_refl _) (Nat.le_refl _) (PtrR.wide (Below.size hS) (Nat.le_refl _) (Nat.le_refl _))⟩
    refine ⟨fun y w' hS hF K hK => ?_, ?_⟩
    · skip
      obtain ⟨Ae35, ne35, ce35, e35, hSe35⟩ := hF.1
      simp only [fillL, cond_true, cond_false, zG0, zG1, StP.is, Act.put, zS2, zS0, zS1, Nat.reduceAdd, e35] at hK ⊢
      refine rg_yes (by kernel_rfl) ?_
      clear e35
      clear hF
      go_simp
      exact hK _ _ (Ext.refl _) ⟨_, _, _, rfl, hSe35⟩
    refine ⟨fun y w' hS hF K hK => ?_, ?_⟩
    · skip
      obtain ⟨Ae28, ne28, ce28, e28, hSe28⟩ := hF.1
      simp only [fillL, cond_true, cond_false, zG0, zG1, StP.is, Act.put, zS2, zS0, zS1, Nat.reduceAdd, e28] at hK ⊢
      refine rg_yes (by kernel_rfl) ?_
      clear e28
      clear hF
      go_simp
      exact hK _ _ (Ext.refl _) ⟨_, _, _, rfl, hSe28⟩
    refine ⟨fun y w' hS hF K hK => ?_, ?_⟩
    · skip
      obtain ⟨Ae28, ne28, ce28, e28, hSe28⟩ := hF.1
      simp only [fillL, cond_true, cond_false, zG0, zG1, StP.is, Act.put, zS2, zS0, zS1, Nat.reduceAdd, e28] at hK ⊢
      refine rg_yes (by kernel_rfl) ?_
      clear e28
      clear hF
      go_simp
      exact hK _ _ (Ext.refl _) rfl
    refine ⟨fun y w' hS hF K hK => ?_, ?_⟩
    · skip
      obtain ⟨Ae36, ne36, ce36, e36, hSe36⟩ := hF.1
      simp only [fillL, cond_true, cond_false, zG0, zG1, StP.is, Act.put, zS2, zS0, zS1, Nat.reduceAdd, e36] at hK ⊢
      refine rg_yes (by kernel_rfl) ?_
      clear e36
      clear hF
      go_simp
      exact hK _ _ (Ext.refl _) ⟨_, _, _, rfl, hSe36⟩
    refine ⟨fun y w' hS hF K hK => ?_, ?_⟩
    · skip
      have e37 : y 37 = _ := hF.1
      simp only [fillL, cond_true, cond_false, zG0, zG1, StP.is, Act.put, zS2, zS0, zS1, Nat.reduceAdd, e37] at hK ⊢
      refine rg_yes (by kernel_rfl) ?_
      clear e37
      clear hF
      go_simp
      exact hK _ _ (Ext.refl _) rfl
    trivial
   intro y w6 hX6 hF
   obtain ⟨A3', n3', c3', e10, ps, hqs, hsl⟩ := hF.2.2.2.2.2.2.2.2.2.2.1
   have e11 : y 11 = _ := hF.2.2.2.2.2.2.2.2.2.2.2.1
   clear hF
   simp only [fillL, cond_true, cond_false, Nat.reduceAdd, e10, e11]
   clear e10 e11 q0 q1 q2 q3 q4 s0_ s1_ s2_ s3_ s4_ s5_ s6_ s7_
   have HB6 := Lib.hid (HB2.out.trans (Below.mono hX6 HB2.out.size))
   have HPN6 := Lib.hid (HPN.out.below hX6)
   have HBW6 := Lib.hid (HBW2.out.trans (Below.mono hX6 HBW2.out.size))
   have HSL := Lib.hid hsl
   have HQS := Lib.hid hqs
   clear hX6 hsl hqs
   cases o
   · have HN : Hid (R = none) := Lib.hid (by
      rw [HLV.out]
      refine leavesG_none (lvlG_none (List.mem_of_getElem? HX.out) ?_)
      rw [← HLVN.out]; exact HO.out)
     go_wp2_with fail
     exact bodyPost_ret (v := .tuple #[.slice (some ⟨w6.heap.size, 0, none⟩) 0 0, .bool false]) (by simp [results, Tryz.results62, go_sem]) rfl (GotPs.no HN.out (Below.alloc HBW6.out HBW6.out.size _))
   rename_i q'
   obtain rfl := HQS.out q' rfl
   have hq4 := (belowS_parts HO.out).1
   obtain rfl : n3' = 4 := by rw [← HSL.out.len]; exact hq4
   have HLT' := Lib.hid (HLT.out.step HX.out HO.out)
   have HOW : Hid (OwnA w6 41 5 S2 A2' mm c2' (nx.flatMap pcL)) := Lib.hid (by have h_ := HPN6.out.1; rw [← HMN.out] at h_; exact h_)
   have HRW : Hid (RowAt w6 A3' (4 * 5) (ps.flatMap pcL)) := Lib.hid HSL.out.ptrRow
   have HSB : Hid (∀ g ∈ S2, wq.heap.size ≤ g) := Lib.hid HPN6.out.2
   go_wp2_with (at_builtin; go_must (refine wpList_append_row rfl _ _ 37 rfl 41 i0 (.agg #[.int .i64 0, .int .i64 0, .int .i64 0, .int .i64 0, .int .i64 0]) 5 40 Tryz.underlying37 hi0 hz0 hz1 hz2 rfl (by decide) S2 A2' A3' mm c2' 4 c3' (nx.flatMap pcL) (ps.flatMap pcL) rfl rfl HOW.out HRW.out (pcL_one ps) (by unfold maxLen; omega) (by omega) ?_))
   intro A' c' S' w7 hO' hS' hC'
   obtain ⟨hP7, hb7⟩ := app_ptrs (B := wq.heap.size) (fs := nx) (gs := ps) HSB.out (w1 := w6) HB6.out.size (by rw [List.length_append, ← HMN.out, hq4]) hO' hS' hC'
   have HP7 := Lib.hid hP7
   have HB7 : Hid (Below wq.heap.size wq w7) := Lib.hid (HB6.out.trans hb7)
   have HM7 : Hid (mm + 4 = (nx ++ ps).length) := Lib.hid (by rw [List.length_append, ← HMN.out, hq4])
   clear hO' hS' hC' HOW HRW HSB hP7 hb7 hq4
   go_wp2_with fail
   go_roundw
   case rel => exact ⟨k + 1, mm + 4, c', A', S', nx ++ ps, by omega, by have := HMM.out; omega, by go_num, rfl, Lib.hid (by have := HMM.out; omega), HM7, HLT', HP7, HB7⟩
   simp [RowKit.intOf]; omega
  obtain rfl : k = len := by omega
  have HGOT : Hid (lvlG (belowS X ((dk + 1 : Nat) : Int)) ls = some nx) := Lib.hid (by have h_ := HLT.out; rw [HLL.out] at h_; rw [← HLVN.out]; exact h_.all)
  have HLV2 : Hid (R = leavesG (belowS X) dk nx) := Lib.hid (by rw [HLV.out, leavesG_some HGOT.out])
  have HPS2 := Lib.hid (HPN.out.up lq)
  have HBR2 := Lib.hid (HBR.out.trans (HB2.out.mono lq))
  have HL42 : Hid (mm * 4 ^ dk ≤ 16) := Lib.hid (by have h_ := HL4.out; rw [Nat.pow_succ] at h_; rw [HMM.out, Nat.mul_comm 4 k, Nat.mul_assoc, Nat.mul_comm 4]; exact h_)
  have u1 : IntKind.i64.wrap (lv - 1) = (dk : Int) := by rw [HLVN.out, IntWalk.i64_in _ (by omega)]; omega
  go_wp2_with fail
  go_roundw
  case rel => exact ⟨dk, mm, c2', A2', S2, nx, by omega, by first | rfl | exact congrArg _ u1 | (rw [u1]), rfl, by omega, HMN, HL42, HPS2, HLV2, HBR2⟩
  simp [RowKit.intOf, u1]; rw [HLVN.out]; omega
 obtain rfl : dk = 0 := by omega
 have HLS : Hid (R = some ls) := Lib.hid HLV.out
 have HSL := Lib.hid (by have h_ := HPS.out.slice; rw [← HLL.out] at h_; exact h_ : SliceR PtrR 5 wq (w.heap.size + 2) wq.heap.size A len c ls)
 have LW : Hid (w.heap.size ≤ w.heap.size + 2) := Lib.hid (by omega)
 clear hpos HL4
 go_wp2_with fail
 exact bodyPost_ret (v := .tuple #[.slice A len c, .bool true]) (by simp [results, Tryz.results62, go_sem]) rfl (GotPs.got HLS.out HSL.out LW.out HBW.out)
end Go.Proofs.YtjnhiiaejeaikaaGreatDoor
