import Derived.Test.YtjnhiiaejeaikaaGreatDoorQNodes
import Derived.Test.YtjnhiiaejeaikaaGreatDoorQTexts3
import Derived.Test.YtjnhiiaejeaikaaGreatDoorQStoreOkS
set_option linter.unnecessarySimpa false
set_option linter.unusedSimpArgs false
set_option linter.unusedVariables false
namespace Go.Proofs.YtjnhiiaejeaikaaGreatDoor
open Go Go.Lib Go.RowKit
open Classical in
noncomputable def tableG (x : StoreD) (t : TreeD) : Option (List (Option NodeD)) := if storeOk x = true then tableF x t else none
theorem tableG_no {x : StoreD} {t : TreeD} (h : storeOk x = false) : tableG x t = none := by unfold tableG; rw [if_neg (by simp [h])]
theorem tableG_yes {x : StoreD} {t : TreeD} (h : storeOk x = true) : tableG x t = tableF x t := by unfold tableG; rw [if_pos h]
theorem storeOk_rows {x : StoreD} (h : storeOk x = true) : x.1.length = 64 ∧ (∀ r ∈ x.1, r.size ≤ 128) ∧ 0 ≤ x.2.2.1 := by
 have k := storeOk_of h
 refine ⟨k.len, fun r hr => ?_, by have := k.txg; unfold inB at this; simp at this; omega⟩
 obtain ⟨i, hi, rfl⟩ := List.mem_iff_getElem.1 hr
 have := (k.rows i (by rw [← k.len]; exact hi)).1
 rwa [List.getD_eq_getElem?_getD, List.getElem?_eq_getElem hi] at this
def SmallS (x : StoreD) : Prop := x.2.2.2.1.length ≤ 2000000 ∧ x.2.2.2.2.2.1.length ≤ 2000000
set_option maxRecDepth 100000 in
set_option maxHeartbeats 8000000 in
theorem table_any (cs : List Value) (x : StoreD) (a b s m l d n : Int) (w : World) (he : Env w) (lo hi : Nat) (h : StoreR w lo hi cs x) (hhi : hi ≤ w.heap.size) (hsz : SmallS x) :
 Calls Tryz.prog 32 #[.agg cs.toArray, .agg #[.int .i64 a, .int .i64 b, .int .i64 s, .int .i64 m, .int .i64 l, .int .i64 d, .int .i64 n]] w (GotNs (tableG x ((a, b, s, m, l), d, n)) w) := by
 have HSO0 := Lib.hid (fun (W : World) (hb : Below w.heap.size w W) => storeOk_any cs x W lo hi (StoreR.below hb hhi cs x h) hsz)
 have HND0 := Lib.hid (fun (W : World) (hb : Below w.heap.size w W) (bo : Nat) (hbo : W.heap[bo]? = some (.cells cs.toArray 39 (0, 0))) (hok : storeOk x = true) => nodes_any bo cs x a b s m l d n W (he.below hb) lo hi hbo (StoreR.below hb hhi cs x h) (Nat.le_trans hhi hb.size) (storeOk_rows hok).1 (storeOk_rows hok).2.1)
 clear hhi hsz he
 obtain ⟨rows, ⟨refs, last⟩, txg, gone, keep, dead, same⟩ := x
 obtain ⟨A0, n0, c0, A1, n1, c1, A2, n2, c2, A3, n3, c3, A4, n4, c4, rfl, h0, h1, h2, h3, h4⟩ := h
 clear h0 h1 h2 h3 h4
 have HSO : Hid (∀ (W : World), Below w.heap.size w W → Calls Tryz.prog 50 #[.agg #[.slice A0 n0 c0, .slice A1 n1 c1, .slice A2 n2 c2, .int .i64 txg, .slice A3 n3 c3, .int .i64 keep, .slice A4 n4 c4, .bool same]] W fun e w' => e = .returned (.bool (storeOk (rows, (refs, last), txg, gone, keep, dead, same))) ∧ Below W.heap.size W w') := Lib.hid (fun W hb => HSO0.out W hb)
 have HND : Hid (∀ (W : World), Below w.heap.size w W → ∀ bo : Nat, W.heap[bo]? = some (.cells #[.slice A0 n0 c0, .slice A1 n1 c1, .slice A2 n2 c2, .int .i64 txg, .slice A3 n3 c3, .int .i64 keep, .slice A4 n4 c4, .bool same] 39 (0, 0)) → storeOk (rows, (refs, last), txg, gone, keep, dead, same) = true → Calls Tryz.prog 51 #[.pointer (some ⟨bo, 0, none⟩), .agg #[.int .i64 a, .int .i64 b, .int .i64 s, .int .i64 m, .int .i64 l, .int .i64 d, .int .i64 n]] W (GotNs (tableF (rows, (refs, last), txg, gone, keep, dead, same) ((a, b, s, m, l), d, n)) W)) := Lib.hid (fun W hb bo hbo hok => HND0.out W hb bo hbo hok)
 clear HSO0 HND0
 show Calls Tryz.prog 32 #[.agg #[.slice A0 n0 c0, .slice A1 n1 c1, .slice A2 n2 c2, .int .i64 txg, .slice A3 n3 c3, .int .i64 keep, .slice A4 n4 c4, .bool same], .agg #[.int .i64 a, .int .i64 b, .int .i64 s, .int .i64 m, .int .i64 l, .int .i64 d, .int .i64 n]] w _
 generalize hX : ((rows, (refs, last), txg, gone, keep, dead, same) : StoreD) = X at *
 clear hX
 go_enter Tryz.func32, Tryz.ntmps32
 obtain ⟨w2, hw2⟩ : ∃ W, W = (w.alloc (.cells #[.slice A0 n0 c0, .slice A1 n1 c1, .slice A2 n2 c2, .int .i64 txg, .slice A3 n3 c3, .int .i64 keep, .slice A4 n4 c4, .bool same] 39)).alloc (.cells #[.int .i64 a, .int .i64 b, .int .i64 s, .int .i64 m, .int .i64 l, .int .i64 d, .int .i64 n] 43) := ⟨_, rfl⟩
 have HB2 : Hid (Below w.heap.size w w2) := Lib.hid (by rw [hw2]; exact bel2)
 have HSX : Hid (w2.heap[w.heap.size]? = some (.cells #[.slice A0 n0 c0, .slice A1 n1 c1, .slice A2 n2 c2, .int .i64 txg, .slice A3 n3 c3, .int .i64 keep, .slice A4 n4 c4, .bool same] 39 (0, 0))) := Lib.hid (by rw [hw2]; exact (Below.heap_alloc _ _ _ (by simp)).trans (heap_alloc_new _ _))
 have HTR : Hid (w2.heap[w.heap.size + 1]? = some (.cells #[.int .i64 a, .int .i64 b, .int .i64 s, .int .i64 m, .int .i64 l, .int .i64 d, .int .i64 n] 43 (0, 0))) := Lib.hid (by rw [hw2]; have := heap_alloc_new (w.alloc (.cells #[.slice A0 n0 c0, .slice A1 n1 c1, .slice A2 n2 c2, .int .i64 txg, .slice A3 n3 c3, .int .i64 keep, .slice A4 n4 c4, .bool same] 39)) (.cells #[.int .i64 a, .int .i64 b, .int .i64 s, .int .i64 m, .int .i64 l, .int .i64 d, .int .i64 n] 43); simpa using this)
 have l2 : w.heap.size < w2.heap.size := (Array.getElem?_eq_some_iff.1 HSX.out).1
 have l2x : w.heap.size + 1 < w2.heap.size := (Array.getElem?_eq_some_iff.1 HTR.out).1
 go_wp2_with fail
 rw [← hw2]; clear hw2
 have s0 := celR 0 HSX.out; have s1 := celR 1 HSX.out; have s2 := celR 2 HSX.out; have s3 := celR 3 HSX.out; have s4 := celR 4 HSX.out; have s5 := celR 5 HSX.out; have s6 := celR 6 HSX.out; have s7 := celR 7 HSX.out
 go_wp2_with fail
 refine (HSO.out w2 HB2.out).mono ?_
 obtain ⟨ok, hok⟩ : ∃ ok, ok = storeOk X := ⟨_, rfl⟩
 rw [← hok]
 have HOK := Lib.hid hok.symm; clear hok
 rintro e w3 ⟨rfl, hb3⟩
 have HB3 := Lib.hid (HB2.out.trans (hb3.mono HB2.out.size))
 have HSX3 := Lib.hid ((hb3.block _ l2).trans HSX.out)
 have HTR3 := Lib.hid ((hb3.block _ l2x).trans HTR.out)
 clear hb3 s0 s1 s2 s3 s4 s5 s6 s7
 cases ok
 · have HN := Lib.hid (tableG_no (t := ((a, b, s, m, l), d, n)) HOK.out)
   go_wp2_with fail
   exact bodyPost_ret (v := .tuple #[.slice none 0 0, .bool false]) (by simp [results, Tryz.results32, go_sem]) rfl (GotNs.no HN.out HB3.out)
 have t0 := celR 0 HTR3.out; have t1 := celR 1 HTR3.out; have t2 := celR 2 HTR3.out; have t3 := celR 3 HTR3.out; have t4 := celR 4 HTR3.out; have t5 := celR 5 HTR3.out; have t6 := celR 6 HTR3.out
 have HGE := Lib.hid (tableG_yes (t := ((a, b, s, m, l), d, n)) HOK.out)
 go_wp2_with fail
 refine (HND.out w3 HB3.out w.heap.size HSX3.out HOK.out).mono ?_
 rintro e w4 ⟨A, len, c, Lst, rfl, hM, hsl, hb4⟩
 have HB4 := Lib.hid (HB3.out.trans (hb4.mono HB3.out.size))
 have HSL := Lib.hid (hsl.wide HB3.out.size (Nat.le_refl _) (Nat.le_refl _) (NodePR.wide HB3.out.size (Nat.le_refl _) (Nat.le_refl _)))
 have HM : Hid (∀ M, tableG X ((a, b, s, m, l), d, n) = some M → Lst = M) := Lib.hid (fun M e => hM M (by rw [← HGE.out]; exact e))
 have HIS : Hid ((tableF X ((a, b, s, m, l), d, n)).isSome = (tableG X ((a, b, s, m, l), d, n)).isSome) := Lib.hid (by rw [HGE.out])
 clear hb4 hsl hM
 obtain ⟨bb, hbb⟩ : ∃ bb, bb = (tableF X ((a, b, s, m, l), d, n)).isSome := ⟨_, rfl⟩
 rw [← hbb]
 have HBB := Lib.hid hbb; clear hbb
 go_wp2_with fail
 exact bodyPost_ret (v := .tuple #[.slice A len c, .bool bb]) (by simp [results, Tryz.results32, go_sem]) rfl ⟨A, len, c, Lst, by rw [HBB.out, HIS.out], HM.out, HSL.out, HB4.out⟩
set_option maxRecDepth 100000 in
set_option maxHeartbeats 8000000 in
theorem tableOk_any (cs : List Value) (x : StoreD) (a b s m l d n : Int) (w : World) (he : Env w) (lo hi : Nat) (h : StoreR w lo hi cs x) (hhi : hi ≤ w.heap.size) (hsz : SmallS x) :
 Calls Tryz.prog 18 #[.agg cs.toArray, .agg #[.int .i64 a, .int .i64 b, .int .i64 s, .int .i64 m, .int .i64 l, .int .i64 d, .int .i64 n]] w fun e w' => e = .returned (.bool (tableG x ((a, b, s, m, l), d, n)).isSome) ∧ Below w.heap.size w w' := by
 have HTB0 := Lib.hid (fun (W : World) (hb : Below w.heap.size w W) => table_any cs x a b s m l d n W (he.below hb) lo hi (StoreR.below hb hhi cs x h) (Nat.le_trans hhi hb.size) hsz)
 clear hhi hsz he
 obtain ⟨rows, ⟨refs, last⟩, txg, gone, keep, dead, same⟩ := x
 obtain ⟨A0, n0, c0, A1, n1, c1, A2, n2, c2, A3, n3, c3, A4, n4, c4, rfl, h0, h1, h2, h3, h4⟩ := h
 clear h0 h1 h2 h3 h4
 have HTB : Hid (∀ (W : World), Below w.heap.size w W → Calls Tryz.prog 32 #[.agg #[.slice A0 n0 c0, .slice A1 n1 c1, .slice A2 n2 c2, .int .i64 txg, .slice A3 n3 c3, .int .i64 keep, .slice A4 n4 c4, .bool same], .agg #[.int .i64 a, .int .i64 b, .int .i64 s, .int .i64 m, .int .i64 l, .int .i64 d, .int .i64 n]] W (GotNs (tableG (rows, (refs, last), txg, gone, keep, dead, same) ((a, b, s, m, l), d, n)) W)) := Lib.hid (fun W hb => HTB0.out W hb)
 clear HTB0
 show Calls Tryz.prog 18 #[.agg #[.slice A0 n0 c0, .slice A1 n1 c1, .slice A2 n2 c2, .int .i64 txg, .slice A3 n3 c3, .int .i64 keep, .slice A4 n4 c4, .bool same], .agg #[.int .i64 a, .int .i64 b, .int .i64 s, .int .i64 m, .int .i64 l, .int .i64 d, .int .i64 n]] w _
 generalize hX : ((rows, (refs, last), txg, gone, keep, dead, same) : StoreD) = X at *
 clear hX
 go_enter Tryz.func18, Tryz.ntmps18
 obtain ⟨w2, hw2⟩ : ∃ W, W = (w.alloc (.cells #[.slice A0 n0 c0, .slice A1 n1 c1, .slice A2 n2 c2, .int .i64 txg, .slice A3 n3 c3, .int .i64 keep, .slice A4 n4 c4, .bool same] 39)).alloc (.cells #[.int .i64 a, .int .i64 b, .int .i64 s, .int .i64 m, .int .i64 l, .int .i64 d, .int .i64 n] 43) := ⟨_, rfl⟩
 have HB2 : Hid (Below w.heap.size w w2) := Lib.hid (by rw [hw2]; exact bel2)
 have HSX : Hid (w2.heap[w.heap.size]? = some (.cells #[.slice A0 n0 c0, .slice A1 n1 c1, .slice A2 n2 c2, .int .i64 txg, .slice A3 n3 c3, .int .i64 keep, .slice A4 n4 c4, .bool same] 39 (0, 0))) := Lib.hid (by rw [hw2]; exact (Below.heap_alloc _ _ _ (by simp)).trans (heap_alloc_new _ _))
 have HTR : Hid (w2.heap[w.heap.size + 1]? = some (.cells #[.int .i64 a, .int .i64 b, .int .i64 s, .int .i64 m, .int .i64 l, .int .i64 d, .int .i64 n] 43 (0, 0))) := Lib.hid (by rw [hw2]; have := heap_alloc_new (w.alloc (.cells #[.slice A0 n0 c0, .slice A1 n1 c1, .slice A2 n2 c2, .int .i64 txg, .slice A3 n3 c3, .int .i64 keep, .slice A4 n4 c4, .bool same] 39)) (.cells #[.int .i64 a, .int .i64 b, .int .i64 s, .int .i64 m, .int .i64 l, .int .i64 d, .int .i64 n] 43); simpa using this)
 have l2 : w.heap.size < w2.heap.size := (Array.getElem?_eq_some_iff.1 HSX.out).1
 have l2x : w.heap.size + 1 < w2.heap.size := (Array.getElem?_eq_some_iff.1 HTR.out).1
 go_wp2_with fail
 rw [← hw2]; clear hw2
 have s0 := celR 0 HSX.out; have s1 := celR 1 HSX.out; have s2 := celR 2 HSX.out; have s3 := celR 3 HSX.out; have s4 := celR 4 HSX.out; have s5 := celR 5 HSX.out; have s6 := celR 6 HSX.out; have s7 := celR 7 HSX.out
 have t0 := celR 0 HTR.out; have t1 := celR 1 HTR.out; have t2 := celR 2 HTR.out; have t3 := celR 3 HTR.out; have t4 := celR 4 HTR.out; have t5 := celR 5 HTR.out; have t6 := celR 6 HTR.out
 go_wp2_with fail
 refine (HTB.out w2 HB2.out).mono ?_
 obtain ⟨bb, hbb⟩ : ∃ bb, bb = (tableG X ((a, b, s, m, l), d, n)).isSome := ⟨_, rfl⟩
 rintro e w4 ⟨A, len, c, Lst, rfl, hM, hsl, hb4⟩
 rw [← hbb]
 have HB4 := Lib.hid (HB2.out.trans (hb4.mono HB2.out.size))
 have HBB := Lib.hid hbb
 clear hbb hb4 hsl hM s0 s1 s2 s3 s4 s5 s6 s7 t0 t1 t2 t3 t4 t5 t6
 go_wp2_with fail
 go_ret
 exact ⟨ret_bool HBB.out, HB4.out⟩
end Go.Proofs.YtjnhiiaejeaikaaGreatDoor
