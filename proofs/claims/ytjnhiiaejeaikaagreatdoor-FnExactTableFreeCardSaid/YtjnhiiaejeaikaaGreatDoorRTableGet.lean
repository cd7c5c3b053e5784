/- TableFree and TableGet of the program. Condition: the library's variables lie as the row says. -/
import Derived.Test.YtjnhiiaejeaikaaGreatDoorRNodeAt
set_option linter.unnecessarySimpa false
set_option linter.unusedSimpArgs false
set_option linter.unusedVariables false
namespace Go.Proofs.YtjnhiiaejeaikaaGreatDoor
open Go Go.Lib Go.RowKit
noncomputable def tableGetF (x : StoreD) (t : TreeD) (k : Int) : Option NodeD := (tableG x t).bind (fun L => getF L k)
noncomputable def tableFreeF (x : StoreD) (t : TreeD) : Int := match tableG x t with | some L => freeF L | none => -1
theorem tableGetF_no {x : StoreD} {t : TreeD} {k : Int} (h : tableG x t = none) : tableGetF x t k = none := by unfold tableGetF; rw [h]; rfl
theorem tableGetF_yes {x : StoreD} {t : TreeD} {k : Int} {L : List (Option NodeD)} (h : tableG x t = some L) : tableGetF x t k = getF L k := by unfold tableGetF; rw [h]; rfl
theorem tableFreeF_no {x : StoreD} {t : TreeD} (h : tableG x t = none) : tableFreeF x t = -1 := by unfold tableFreeF; rw [h]
theorem tableFreeF_yes {x : StoreD} {t : TreeD} {L : List (Option NodeD)} (h : tableG x t = some L) : tableFreeF x t = freeF L := by unfold tableFreeF; rw [h]
theorem below_10 {B r : Nat} {w0 w : World} {x0 x1 x2 x3 x4 x5 x6 x7 x8 x9 : Value} (h : Below B w0 w) (hr : B ≤ r) : Below B w0 ((((((((((w.setCell ⟨r, 0, none⟩ x0).setCell ⟨r, 1, none⟩ x1).setCell ⟨r, 2, none⟩ x2).setCell ⟨r, 3, none⟩ x3).setCell ⟨r, 4, none⟩ x4).setCell ⟨r, 5, none⟩ x5).setCell ⟨r, 6, none⟩ x6).setCell ⟨r, 7, none⟩ x7).setCell ⟨r, 8, none⟩ x8).setCell ⟨r, 9, none⟩ x9) :=
 (((((((((((h.setCell (p := ⟨r, 0, none⟩) hr _).setCell (p := ⟨r, 1, none⟩) hr _).setCell (p := ⟨r, 2, none⟩) hr _).setCell (p := ⟨r, 3, none⟩) hr _).setCell (p := ⟨r, 4, none⟩) hr _).setCell (p := ⟨r, 5, none⟩) hr _).setCell (p := ⟨r, 6, none⟩) hr _).setCell (p := ⟨r, 7, none⟩) hr _).setCell (p := ⟨r, 8, none⟩) hr _).setCell (p := ⟨r, 9, none⟩) hr _))
set_option maxRecDepth 100000 in
set_option maxHeartbeats 8000000 in
theorem freeNode_any (A : Option Addr) (n c : Nat) (L : List (Option NodeD)) (w : World) (lo hi : Nat) (h : SliceR NodePR 1 w lo hi A n c L) :
 Calls Tryz.prog 42 #[.slice A n c] w fun e w' => e = .returned (.int .i64 (freeF L)) ∧ Below w.heap.size w w' := by
 have HNA := Lib.hid (fun (W : World) (hb : Below w.heap.size w W) (k : Int) => nodeAt_any A n c L k W lo hi (h.below hb (fun cs x hr => NodePR.below hb h.lo_le cs x hr)))
 clear h
 go_enter Tryz.func42, Tryz.ntmps42
 go_wp2_with fail
 go_loopw [6] (fun i wr => ∃ k : Nat, k ≤ 16 ∧ i = .int .i64 (k : Int) ∧ Hid (∀ j : Nat, j < k → (getF L (j : Int)).isSome = true) ∧ Hid (Below w.heap.size w wr)) (fun i _ => 16 - (RowKit.intOf i).toNat)
 case atStart => exact ⟨0, Nat.zero_le _, rfl, Lib.hid (fun j hj => absurd hj (by omega)), Lib.hid (Below.refl _ _)⟩
 obtain ⟨k, hk, rfl, HPR, HB⟩ := hrel
 have k0 : (0 : Int) ≤ (k : Int) := by omega
 by_cases hlt : k < 16
 case neg =>
  obtain ⟨kk, hkk⟩ : ∃ z : Int, z = (k : Int) := ⟨_, rfl⟩
  have k1 : ¬ (k : Int) < 16 := by omega
  have HN := Lib.hid (freeF_no (L := L) (fun j hj => HPR.out j (by omega)))
  clear hkk
  go_wp2_with fail
  go_ret
  exact ⟨by rw [HN.out]; rfl, HB.out⟩
 have k1 : (k : Int) < 16 := by omega
 go_wp2_with fail
 refine (HNA.out wr HB.out (k : Int)).mono ?_
 obtain ⟨o, ho⟩ : ∃ o, o = getF L (k : Int) := ⟨_, rfl⟩
 rw [← ho]
 have HO := Lib.hid ho.symm; clear ho
 rcases o with _ | ⟨i', j', z', ⟨a2, b2, s2, m2, l2⟩, d2, n2⟩
 · rw [gotN_no rfl]
   rintro e w2 ⟨rfl, hb2⟩
   have HB2 := Lib.hid (HB.out.trans (hb2.mono HB.out.size))
   clear hb2
   have HN := Lib.hid (freeF_yes hlt HPR.out HO.out)
   go_wp2_with fail
   go_ret
   exact ⟨by rw [HN.out]; rfl, by repeat (first | exact HB2.out | refine Below.setCell ?_ (by have := HB2.out.size; simp <;> omega) _ | refine Below.alloc ?_ (by have := HB2.out.size; simp <;> omega) _)⟩
 rw [gotN_yes rfl]
 rintro e w2 ⟨rfl, hb2⟩
 have HB2 := Lib.hid (HB.out.trans (hb2.mono HB.out.size))
 clear hb2
 have HPR' : Hid (∀ j : Nat, j < k + 1 → (getF L (j : Int)).isSome = true) := Lib.hid (fun j hj => by
  by_cases e : j = k
  · rw [e, HO.out]; rfl
  · exact HPR.out j (by omega))
 go_wp2_with fail
 go_roundw
 case rel => first | exact ⟨k + 1, by omega, by go_num, HPR', Lib.hid (Below.alloc HB2.out HB2.out.size _)⟩ | ((repeat apply Exists.intro); exact ⟨⟨k + 1, by omega, by go_num, HPR', Lib.hid (Below.alloc HB2.out HB2.out.size _)⟩, rfl⟩)
 simp [RowKit.intOf]; omega
set_option maxRecDepth 100000 in
set_option maxHeartbeats 8000000 in
theorem tableFree_any (cs : List Value) (x : StoreD) (a b s m l d n : Int) (w : World) (he : Env w) (lo hi : Nat) (h : StoreR w lo hi cs x) (hhi : hi ≤ w.heap.size) (hsz : SmallS x) :
 Calls Tryz.prog 20 #[.agg cs.toArray, .agg #[.int .i64 a, .int .i64 b, .int .i64 s, .int .i64 m, .int .i64 l, .int .i64 d, .int .i64 n]] w fun e w' => e = .returned (.int .i64 (tableFreeF x ((a, b, s, m, l), d, n))) ∧ Below w.heap.size w w' := by
 have HTB0 := Lib.hid (fun (W : World) (hb : Below w.heap.size w W) => table_any cs x a b s m l d n W (he.below hb) lo hi (StoreR.below hb hhi cs x h) (Nat.le_trans hhi hb.size) hsz)
 clear hhi hsz he
 obtain ⟨rows, ⟨refs, last⟩, txg, gone, keep, dead, same⟩ := x
 obtain ⟨A0, n0, c0, A1, n1, c1, A2, n2, c2, A3, n3, c3, A4, n4, c4, rfl, h0, h1, h2, h3, h4⟩ := h
 clear h0 h1 h2 h3 h4
 have HTB : Hid (∀ (W : World), Below w.heap.size w W → Calls Tryz.prog 32 #[.agg #[.slice A0 n0 c0, .slice A1 n1 c1, .slice A2 n2 c2, .int .i64 txg, .slice A3 n3 c3, .int .i64 keep, .slice A4 n4 c4, .bool same], .agg #[.int .i64 a, .int .i64 b, .int .i64 s, .int .i64 m, .int .i64 l, .int .i64 d, .int .i64 n]] W (GotNs (tableG (rows, (refs, last), txg, gone, keep, dead, same) ((a, b, s, m, l), d, n)) W)) := Lib.hid (fun W hb => HTB0.out W hb)
 clear HTB0
 show Calls Tryz.prog 20 #[.agg #[.slice A0 n0 c0, .slice A1 n1 c1, .slice A2 n2 c2, .int .i64 txg, .slice A3 n3 c3, .int .i64 keep, .slice A4 n4 c4, .bool same], .agg #[.int .i64 a, .int .i64 b, .int .i64 s, .int .i64 m, .int .i64 l, .int .i64 d, .int .i64 n]] w _
 generalize hX : ((rows, (refs, last), txg, gone, keep, dead, same) : StoreD) = X at *
 clear hX
 go_enter Tryz.func20, Tryz.ntmps20
 obtain ⟨w2, hw2⟩ : ∃ W, W = (w.alloc (.cells #[.slice A0 n0 c0, .slice A1 n1 c1, .slice A2 n2 c2, .int .i64 txg, .slice A3 n3 c3, .int .i64 keep, .slice A4 n4 c4, .bool same] 39)).alloc (.cells #[.int .i64 a, .int .i64 b, .int .i64 s, .int .i64 m, .int .i64 l, .int .i64 d, .int .i64 n] 43) := ⟨_, rfl⟩
 have HB2 : Hid (Below w.heap.size w w2) := Lib.hid (by rw [hw2]; exact bel2)
 have HSX : Hid (w2.heap[w.heap.size]? = some (.cells #[.slice A0 n0 c0, .slice A1 n1 c1, .slice A2 n2 c2, .int .i64 txg, .slice A3 n3 c3, .int .i64 keep, .slice A4 n4 c4, .bool same] 39 (0, 0))) := Lib.hid (by rw [hw2]; exact (Below.heap_alloc _ _ _ (by simp)).trans (heap_alloc_new _ _))
 have HTR : Hid (w2.heap[w.heap.size + 1]? = some (.cells #[.int .i64 a, .int .i64 b, .int .i64 s, .int .i64 m, .int .i64 l, .int .i64 d, .int .i64 n] 43 (0, 0))) := Lib.hid (by rw [hw2]; have := heap_alloc_new (w.alloc (.cells #[.slice A0 n0 c0, .slice A1 n1 c1, .slice A2 n2 c2, .int .i64 txg, .slice A3 n3 c3, .int .i64 keep, .slice A4 n4 c4, .bool same] 39)) (.cells #[.int .i64 a, .int .i64 b, .int .i64 s, .int .i64 m, .int .i64 l, .int .i64 d, .int .i64 n] 43); simpa using this)
 have l2 : w.heap.size < w2.heap.size := (Array.getElem?_eq_some_iff.1 HSX.out).1
 have l2x : w.heap.size + 1 < w2.heap.size := (Array.getElem?_eq_some_iff.1 HTR.out).1
 go_wp2_with fail
 rw [← hw2]; clear hw2
 have s0 := celR 0 HSX.out; have s1 := celR 1 HSX.out; have s2 := celR 2 HSX.out; have s3 := celR 3 HSX.out; have s4 := celR 4 HSX.out; have s5 := celR 5 HSX.out; have s6 := celR 6 HSX.out; have s7 := celR 7 HSX.out
 have t0 := celR 0 HTR.out; have t1 := celR 1 HTR.out; have t2 := celR 2 HTR.out; have t3 := celR 3 HTR.out; have t4 := celR 4 HTR.out; have t5 := celR 5 HTR.out; have t6 := celR 6 HTR.out
 go_wp2_with fail
 refine (HTB.out w2 HB2.out).mono ?_
 obtain ⟨G, hG⟩ : ∃ G, G = tableG X ((a, b, s, m, l), d, n) := ⟨_, rfl⟩
 rw [← hG]
 have HG := Lib.hid hG.symm; clear hG
 rintro e w4 ⟨A, len, c, Lst, rfl, hM, hsl, hb4⟩
 have HB4 := Lib.hid (HB2.out.trans (hb4.mono HB2.out.size))
 clear s0 s1 s2 s3 s4 s5 s6 s7 t0 t1 t2 t3 t4 t5 t6
 cases G with
 | none =>
   have HN := Lib.hid (tableFreeF_no HG.out)
   clear hb4
   go_wp2_with fail
   go_ret
   exact ⟨by rw [HN.out]; rfl, HB4.out⟩
 | some L =>
   obtain rfl := hM L rfl
   have HN := Lib.hid (tableFreeF_yes HG.out)
   have HSL := Lib.hid hsl
   clear hb4 hsl hM
   go_wp2_with fail
   refine (freeNode_any _ _ _ _ _ _ _ HSL.out).mono ?_
   rw [← HN.out]
   rintro e w5 ⟨rfl, hb5⟩
   have HB5 := Lib.hid (HB4.out.trans (hb5.mono HB4.out.size))
   clear hb5
   go_wp2_with fail
   go_ret
   exact ⟨rfl, HB5.out⟩
set_option maxRecDepth 100000 in
set_option maxHeartbeats 8000000 in
theorem tableGet_any (cs : List Value) (x : StoreD) (a b s m l d n : Int) (k : Int) (w : World) (he : Env w) (lo hi : Nat) (h : StoreR w lo hi cs x) (hhi : hi ≤ w.heap.size) (hsz : SmallS x) :
 Calls Tryz.prog 22 #[.agg cs.toArray, .agg #[.int .i64 a, .int .i64 b, .int .i64 s, .int .i64 m, .int .i64 l, .int .i64 d, .int .i64 n], .int .i64 k] w fun e w' => e = .returned (gotN (tableGetF x ((a, b, s, m, l), d, n) k)) ∧ Below w.heap.size w w' := by
 have HTB0 := Lib.hid (fun (W : World) (hb : Below w.heap.size w W) => table_any cs x a b s m l d n W (he.below hb) lo hi (StoreR.below hb hhi cs x h) (Nat.le_trans hhi hb.size) hsz)
 clear hhi hsz he
 obtain ⟨rows, ⟨refs, last⟩, txg, gone, keep, dead, same⟩ := x
 obtain ⟨A0, n0, c0, A1, n1, c1, A2, n2, c2, A3, n3, c3, A4, n4, c4, rfl, h0, h1, h2, h3, h4⟩ := h
 clear h0 h1 h2 h3 h4
 have HTB : Hid (∀ (W : World), Below w.heap.size w W → Calls Tryz.prog 32 #[.agg #[.slice A0 n0 c0, .slice A1 n1 c1, .slice A2 n2 c2, .int .i64 txg, .slice A3 n3 c3, .int .i64 keep, .slice A4 n4 c4, .bool same], .agg #[.int .i64 a, .int .i64 b, .int .i64 s, .int .i64 m, .int .i64 l, .int .i64 d, .int .i64 n]] W (GotNs (tableG (rows, (refs, last), txg, gone, keep, dead, same) ((a, b, s, m, l), d, n)) W)) := Lib.hid (fun W hb => HTB0.out W hb)
 clear HTB0
 show Calls Tryz.prog 22 #[.agg #[.slice A0 n0 c0, .slice A1 n1 c1, .slice A2 n2 c2, .int .i64 txg, .slice A3 n3 c3, .int .i64 keep, .slice A4 n4 c4, .bool same], .agg #[.int .i64 a, .int .i64 b, .int .i64 s, .int .i64 m, .int .i64 l, .int .i64 d, .int .i64 n], .int .i64 k] w _
 generalize hX : ((rows, (refs, last), txg, gone, keep, dead, same) : StoreD) = X at *
 clear hX
 go_enter Tryz.func22, Tryz.ntmps22
 obtain ⟨w2, hw2⟩ : ∃ W, W = ((w.alloc (.cells #[.slice A0 n0 c0, .slice A1 n1 c1, .slice A2 n2 c2, .int .i64 txg, .slice A3 n3 c3, .int .i64 keep, .slice A4 n4 c4, .bool same] 39)).alloc (.cells #[.int .i64 a, .int .i64 b, .int .i64 s, .int .i64 m, .int .i64 l, .int .i64 d, .int .i64 n] 43)).alloc (.cells #[.int .i64 0, .int .i64 0, .int .i64 0, .int .i64 0, .int .i64 0, .int .i64 0, .int .i64 0, .int .i64 0, .int .i64 0, .int .i64 0] 53) := ⟨_, rfl⟩
 have HB2 : Hid (Below w.heap.size w w2) := Lib.hid (by rw [hw2]; exact bel3)
 have HSX : Hid (w2.heap[w.heap.size]? = some (.cells #[.slice A0 n0 c0, .slice A1 n1 c1, .slice A2 n2 c2, .int .i64 txg, .slice A3 n3 c3, .int .i64 keep, .slice A4 n4 c4, .bool same] 39 (0, 0))) := Lib.hid (by rw [hw2]; exact (Below.heap_alloc _ _ _ (by simp <;> omega)).trans ((Below.heap_alloc _ _ _ (by simp)).trans (heap_alloc_new _ _)))
 have HTR : Hid (w2.heap[w.heap.size + 1]? = some (.cells #[.int .i64 a, .int .i64 b, .int .i64 s, .int .i64 m, .int .i64 l, .int .i64 d, .int .i64 n] 43 (0, 0))) := Lib.hid (by rw [hw2]; have := heap_alloc_new (w.alloc (.cells #[.slice A0 n0 c0, .slice A1 n1 c1, .slice A2 n2 c2, .int .i64 txg, .slice A3 n3 c3, .int .i64 keep, .slice A4 n4 c4, .bool same] 39)) (.cells #[.int .i64 a, .int .i64 b, .int .i64 s, .int .i64 m, .int .i64 l, .int .i64 d, .int .i64 n] 43); refine (Below.heap_alloc _ _ _ (by simp)).trans ?_; simpa using this)
 have HND : Hid (w2.heap[w.heap.size + 2]? = some (.cells #[.int .i64 0, .int .i64 0, .int .i64 0, .int .i64 0, .int .i64 0, .int .i64 0, .int .i64 0, .int .i64 0, .int .i64 0, .int .i64 0] 53 (0, 0))) := Lib.hid (by rw [hw2]; have := heap_alloc_new ((w.alloc (.cells #[.slice A0 n0 c0, .slice A1 n1 c1, .slice A2 n2 c2, .int .i64 txg, .slice A3 n3 c3, .int .i64 keep, .slice A4 n4 c4, .bool same] 39)).alloc (.cells #[.int .i64 a, .int .i64 b, .int .i64 s, .int .i64 m, .int .i64 l, .int .i64 d, .int .i64 n] 43)) (.cells #[.int .i64 0, .int .i64 0, .int .i64 0, .int .i64 0, .int .i64 0, .int .i64 0, .int .i64 0, .int .i64 0, .int .i64 0, .int .i64 0] 53); simpa using this)
 have l2 : w.heap.size < w2.heap.size := (Array.getElem?_eq_some_iff.1 HSX.out).1
 have l2x : w.heap.size + 1 < w2.heap.size := (Array.getElem?_eq_some_iff.1 HTR.out).1
 have l2n : w.heap.size + 2 < w2.heap.size := (Array.getElem?_eq_some_iff.1 HND.out).1
 go_wp2_with fail
 rw [← hw2]; clear hw2
 have s0 := celR 0 HSX.out; have s1 := celR 1 HSX.out; have s2 := celR 2 HSX.out; have s3 := celR 3 HSX.out; have s4 := celR 4 HSX.out; have s5 := celR 5 HSX.out; have s6 := celR 6 HSX.out; have s7 := celR 7 HSX.out
 have t0 := celR 0 HTR.out; have t1 := celR 1 HTR.out; have t2 := celR 2 HTR.out; have t3 := celR 3 HTR.out; have t4 := celR 4 HTR.out; have t5 := celR 5 HTR.out; have t6 := celR 6 HTR.out
 go_wp2_with fail
 refine (HTB.out w2 HB2.out).mono ?_
 obtain ⟨G, hG⟩ : ∃ G, G = tableG X ((a, b, s, m, l), d, n) := ⟨_, rfl⟩
 rw [← hG]
 have HG := Lib.hid hG.symm; clear hG
 rintro e w4 ⟨A, len, c, Lst, rfl, hM, hsl, hb4⟩
 have HB4 := Lib.hid (HB2.out.trans (hb4.mono HB2.out.size))
 have HND4 := Lib.hid ((hb4.block _ l2n).trans HND.out)
 clear s0 s1 s2 s3 s4 s5 s6 s7 t0 t1 t2 t3 t4 t5 t6
 cases G with
 | none =>
   have HN := Lib.hid (tableGetF_no (k := k) HG.out)
   clear hb4
   have rc0 := celR 0 HND4.out; have rf0 := block_free HND4.out 0; have rc1 := celR 1 HND4.out; have rf1 := block_free HND4.out 1; have rc2 := celR 2 HND4.out; have rf2 := block_free HND4.out 2; have rc3 := celR 3 HND4.out; have rf3 := block_free HND4.out 3; have rc4 := celR 4 HND4.out; have rf4 := block_free HND4.out 4; have rc5 := celR 5 HND4.out; have rf5 := block_free HND4.out 5; have rc6 := celR 6 HND4.out; have rf6 := block_free HND4.out 6; have rc7 := celR 7 HND4.out; have rf7 := block_free HND4.out 7; have rc8 := celR 8 HND4.out; have rf8 := block_free HND4.out 8; have rc9 := celR 9 HND4.out; have rf9 := block_free HND4.out 9
   go_wp2_with fail
   clear rc0 rf0 rc1 rf1 rc2 rf2 rc3 rf3 rc4 rf4 rc5 rf5 rc6 rf6 rc7 rf7 rc8 rf8 rc9 rf9
   have hst := set_10 (x0 := .int .i64 0) (x1 := .int .i64 0) (x2 := .int .i64 0) (x3 := .int .i64 0) (x4 := .int .i64 0) (x5 := .int .i64 0) (x6 := .int .i64 0) (x7 := .int .i64 0) (x8 := .int .i64 0) (x9 := .int .i64 0) HND4.out
   have r0 := celR 0 hst; have r1 := celR 1 hst; have r2 := celR 2 hst; have r3 := celR 3 hst; have r4 := celR 4 hst; have r5 := celR 5 hst; have r6 := celR 6 hst; have r7 := celR 7 hst; have r8 := celR 8 hst; have r9 := celR 9 hst
   clear hst
   exact bodyPost_ret (v := gotN (tableGetF X ((a, b, s, m, l), d, n) k)) (by rw [gotN_no HN.out]; simp [results, Tryz.results22, go_sem, r0, r1, r2, r3, r4, r5, r6, r7, r8, r9]) rfl ⟨rfl, below_10 HB4.out (by omega)⟩
 | some L =>
   obtain rfl := hM L rfl
   have HSL := Lib.hid hsl
   clear hb4 hsl hM
   have l4n := (Array.getElem?_eq_some_iff.1 HND4.out).1
   go_wp2_with fail
   refine (nodeAt_any _ _ _ _ k _ _ _ HSL.out).mono ?_
   obtain ⟨o, ho⟩ : ∃ o, o = getF Lst k := ⟨_, rfl⟩
   rw [← ho]
   have HN : Hid (tableGetF X ((a, b, s, m, l), d, n) k = o) := Lib.hid ((tableGetF_yes HG.out).trans ho.symm)
   clear ho
   rcases o with _ | ⟨i', j', z', ⟨a2, b2, s2', m2, l2'⟩, d2, n2'⟩
   · rw [gotN_no rfl]
     rintro e w5 ⟨rfl, hb5⟩
     have HB5 := Lib.hid (HB4.out.trans (hb5.mono HB4.out.size))
     have HND5 := Lib.hid ((hb5.block _ l4n).trans HND4.out)
     clear hb5
     have rc0 := celR 0 HND5.out; have rf0 := block_free HND5.out 0; have rc1 := celR 1 HND5.out; have rf1 := block_free HND5.out 1; have rc2 := celR 2 HND5.out; have rf2 := block_free HND5.out 2; have rc3 := celR 3 HND5.out; have rf3 := block_free HND5.out 3; have rc4 := celR 4 HND5.out; have rf4 := block_free HND5.out 4; have rc5 := celR 5 HND5.out; have rf5 := block_free HND5.out 5; have rc6 := celR 6 HND5.out; have rf6 := block_free HND5.out 6; have rc7 := celR 7 HND5.out; have rf7 := block_free HND5.out 7; have rc8 := celR 8 HND5.out; have rf8 := block_free HND5.out 8; have rc9 := celR 9 HND5.out; have rf9 := block_free HND5.out 9
     go_wp2_with fail
     clear rc0 rf0 rc1 rf1 rc2 rf2 rc3 rf3 rc4 rf4 rc5 rf5 rc6 rf6 rc7 rf7 rc8 rf8 rc9 rf9
     have hst := set_10 (x0 := .int .i64 0) (x1 := .int .i64 0) (x2 := .int .i64 0) (x3 := .int .i64 0) (x4 := .int .i64 0) (x5 := .int .i64 0) (x6 := .int .i64 0) (x7 := .int .i64 0) (x8 := .int .i64 0) (x9 := .int .i64 0) HND5.out
     have r0 := celR 0 hst; have r1 := celR 1 hst; have r2 := celR 2 hst; have r3 := celR 3 hst; have r4 := celR 4 hst; have r5 := celR 5 hst; have r6 := celR 6 hst; have r7 := celR 7 hst; have r8 := celR 8 hst; have r9 := celR 9 hst
     clear hst
     exact bodyPost_ret (v := gotN (tableGetF X ((a, b, s, m, l), d, n) k)) (by rw [gotN_no HN.out]; simp [results, Tryz.results22, go_sem, r0, r1, r2, r3, r4, r5, r6, r7, r8, r9]) rfl ⟨rfl, below_10 HB5.out (by omega)⟩
   rw [gotN_yes rfl]
   rintro e w5 ⟨rfl, hb5⟩
   have HB5 := Lib.hid (HB4.out.trans (hb5.mono HB4.out.size))
   have HND5 := Lib.hid ((hb5.block _ l4n).trans HND4.out)
   clear hb5
   have rc0 := celR 0 HND5.out; have rf0 := block_free HND5.out 0; have rc1 := celR 1 HND5.out; have rf1 := block_free HND5.out 1; have rc2 := celR 2 HND5.out; have rf2 := block_free HND5.out 2; have rc3 := celR 3 HND5.out; have rf3 := block_free HND5.out 3; have rc4 := celR 4 HND5.out; have rf4 := block_free HND5.out 4; have rc5 := celR 5 HND5.out; have rf5 := block_free HND5.out 5; have rc6 := celR 6 HND5.out; have rf6 := block_free HND5.out 6; have rc7 := celR 7 HND5.out; have rf7 := block_free HND5.out 7; have rc8 := celR 8 HND5.out; have rf8 := block_free HND5.out 8; have rc9 := celR 9 HND5.out; have rf9 := block_free HND5.out 9
   go_wp2_with fail
   clear rc0 rf0 rc1 rf1 rc2 rf2 rc3 rf3 rc4 rf4 rc5 rf5 rc6 rf6 rc7 rf7 rc8 rf8 rc9 rf9
   have hst := set_10 (x0 := .int .i64 i') (x1 := .int .i64 j') (x2 := .int .i64 z') (x3 := .int .i64 a2) (x4 := .int .i64 b2) (x5 := .int .i64 s2') (x6 := .int .i64 m2) (x7 := .int .i64 l2') (x8 := .int .i64 d2) (x9 := .int .i64 n2') HND5.out
   have r0 := celR 0 hst; have r1 := celR 1 hst; have r2 := celR 2 hst; have r3 := celR 3 hst; have r4 := celR 4 hst; have r5 := celR 5 hst; have r6 := celR 6 hst; have r7 := celR 7 hst; have r8 := celR 8 hst; have r9 := celR 9 hst
   clear hst
   exact bodyPost_ret (v := gotN (tableGetF X ((a, b, s, m, l), d, n) k)) (by rw [gotN_yes HN.out]; simp [results, Tryz.results22, go_sem, r0, r1, r2, r3, r4, r5, r6, r7, r8, r9]) rfl ⟨rfl, below_10 HB5.out (by omega)⟩
end Go.Proofs.YtjnhiiaejeaikaaGreatDoor
