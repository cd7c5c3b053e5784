/- Trees of the reference: the places of a valid tree and their texts. Condition: the store has 64 rows of at most 128 bytes; the tree is valid. -/
import Derived.Test.YtjnhiiaejeaikaaGreatDoorRTexts
set_option linter.unnecessarySimpa false
set_option linter.unusedSimpArgs false
set_option linter.unusedVariables false
namespace Go.Proofs.YtjnhiiaejeaikaaGreatDoor
open Go Go.Lib Go.RowKit
def WideP (ls : List PtrD) (w : World) (e : Ending) (w' : World) : Prop := ∃ (A : Option Addr) (c : Nat), e = .returned (.slice A 16 c) ∧ SliceR PtrR 5 w' w.heap.size w'.heap.size A 16 c (ls ++ holes (16 - ls.length)) ∧ Below w.heap.size w w'
structure TreeV (x : StoreD) (a b s m l : Int) (dn nn : Nat) (ls : List PtrD) : Prop where
 got : leavesG (belowS x) dn [((a, b, s, m, l) : PtrD)] = some ls
 d2 : dn ≤ 2
 len : ls.length ≤ 16
 nn : nn ≤ ls.length
 ok : ∀ p ∈ ls, okP p = true
 read : ∀ p ∈ ls, (readF x p).isSome = true
theorem TreeV.of {x : StoreD} {a b s m l d n : Int} {ls : List PtrD} (h : treeF x ((a, b, s, m, l), d, n) = some ls) : ∃ dn nn : Nat, d = (dn : Int) ∧ n = (nn : Int) ∧ TreeV x a b s m l dn nn ls := by
 obtain ⟨h0, h1, h2, h3, h4, h5⟩ := treeF_some h
 obtain ⟨g1, g2, g3, g4⟩ := headT_parts h0
 dsimp only at g1 g2 g3 g4 h1 h2 h4
 obtain ⟨dn, hdn, hd2⟩ := depthF_nat n
 refine ⟨dn, n.toNat, by rw [g2, hdn], by omega, ?_, hd2, h5, h4, fun p hp => (h3 p hp).1, fun p hp => ?_⟩
 · rw [g2, hdn, Int.toNat_natCast] at h1
   rw [leavesG_same _ (old_root h0)]
   exact h1
 obtain ⟨j, hj, rfl⟩ := List.mem_iff_getElem.1 hp
 have := h2 j _ (List.getElem?_eq_getElem hj)
 unfold endB at this
 simp only [Bool.and_eq_true] at this
 exact this.1
set_option maxRecDepth 100000 in
set_option maxHeartbeats 8000000 in
theorem l8Wide_any (cs : List Value) (x : StoreD) (a b s m l : Int) (dn nn : Nat) (ls : List PtrD) (w : World) (lo hi : Nat) (h : StoreR w lo hi cs x) (hhi : hi ≤ w.heap.size) (h64 : x.1.length = 64) (hz : ∀ r ∈ x.1, r.size ≤ 128) (hv : TreeV x a b s m l dn nn ls) :
 Calls Tryz.prog 47 #[.agg cs.toArray, .agg #[.int .i64 a, .int .i64 b, .int .i64 s, .int .i64 m, .int .i64 l, .int .i64 (dn : Int), .int .i64 (nn : Int)]] w (WideP ls w) := by
 obtain ⟨i0, hi0, hz0, hz1, hz2⟩ := info_parts infoPtr
 have H64 := Lib.hid h64
 have HLF := Lib.hid (fun (W : World) (hb : Below w.heap.size w W) (a b s m l n : Int) (dn : Nat) (hd2 : dn ≤ 2) => l8Leaves_any cs x a b s m l n dn W lo hi (StoreR.below hb hhi cs x h) (Nat.le_trans hhi hb.size) h64 hz hd2)
 have HRD := Lib.hid (fun (W : World) (hb : Below w.heap.size w W) (a b s m l : Int) (hok : okP (a, b, s, m, l) = true) => l7Read_any cs x a b s m l W lo hi (StoreR.below hb hhi cs x h) h64 hz hok)
 have HV := Lib.hid hv; clear hv
 clear hhi h64 hz
 obtain ⟨rows, ⟨refs, last⟩, txg, gone, keep, dead, same⟩ := x
 obtain ⟨A0, n0, c0, A1, n1, c1, A2, n2, c2, A3, n3, c3, A4, n4, c4, rfl, h0, h1, h2, h3, h4⟩ := h
 obtain rfl : n0 = 64 := by rw [← h0.len]; exact H64.out
 clear h0 h1 h2 h3 h4
 have HLF : Hid (∀ (W : World), Below w.heap.size w W → ∀ (a b s m l n : Int) (dn : Nat), dn ≤ 2 → Calls Tryz.prog 62 #[.agg #[.slice A0 64 c0, .slice A1 n1 c1, .slice A2 n2 c2, .int .i64 txg, .slice A3 n3 c3, .int .i64 keep, .slice A4 n4 c4, .bool same], .agg #[.int .i64 a, .int .i64 b, .int .i64 s, .int .i64 m, .int .i64 l, .int .i64 (dn : Int), .int .i64 n]] W (GotPs (leavesG (belowS (rows, (refs, last), txg, gone, keep, dead, same)) dn [((a, b, s, m, l) : PtrD)]) W)) := Lib.hid (fun W hb a b s m l n dn hd2 => HLF.out W hb a b s m l n dn hd2)
 have HRD : Hid (∀ (W : World), Below w.heap.size w W → ∀ (a b s m l : Int), okP (a, b, s, m, l) = true → Calls Tryz.prog 48 #[.agg #[.slice A0 64 c0, .slice A1 n1 c1, .slice A2 n2 c2, .int .i64 txg, .slice A3 n3 c3, .int .i64 keep, .slice A4 n4 c4, .bool same], .agg #[.int .i64 a, .int .i64 b, .int .i64 s, .int .i64 m, .int .i64 l]] W (l7Read_any_post (rows, (refs, last), txg, gone, keep, dead, same) (a, b, s, m, l) W)) := Lib.hid (fun W hb a b s m l hok => HRD.out W hb a b s m l hok)
 have HTX : Hid (((rows, (refs, last), txg, gone, keep, dead, same) : StoreD).2.2.1 = txg) := Lib.hid rfl
 show Calls Tryz.prog 47 #[.agg #[.slice A0 64 c0, .slice A1 n1 c1, .slice A2 n2 c2, .int .i64 txg, .slice A3 n3 c3, .int .i64 keep, .slice A4 n4 c4, .bool same], .agg #[.int .i64 a, .int .i64 b, .int .i64 s, .int .i64 m, .int .i64 l, .int .i64 (dn : Int), .int .i64 (nn : Int)]] w _
 generalize hX : ((rows, (refs, last), txg, gone, keep, dead, same) : StoreD) = X at *
 clear hX H64
 go_enter Tryz.func47, Tryz.ntmps47
 obtain ⟨w2, hw2⟩ : ∃ W, W = (w.alloc (.cells #[.slice A0 64 c0, .slice A1 n1 c1, .slice A2 n2 c2, .int .i64 txg, .slice A3 n3 c3, .int .i64 keep, .slice A4 n4 c4, .bool same] 39)).alloc (.cells #[.int .i64 a, .int .i64 b, .int .i64 s, .int .i64 m, .int .i64 l, .int .i64 (dn : Int), .int .i64 (nn : Int)] 43) := ⟨_, rfl⟩
 have HB2 : Hid (Below w.heap.size w w2) := Lib.hid (by rw [hw2]; exact bel2)
 have HSX : Hid (w2.heap[w.heap.size]? = some (.cells #[.slice A0 64 c0, .slice A1 n1 c1, .slice A2 n2 c2, .int .i64 txg, .slice A3 n3 c3, .int .i64 keep, .slice A4 n4 c4, .bool same] 39 (0, 0))) := Lib.hid (by rw [hw2]; exact (Below.heap_alloc _ _ _ (by simp)).trans (heap_alloc_new _ _))
 have HTR : Hid (w2.heap[w.heap.size + 1]? = some (.cells #[.int .i64 a, .int .i64 b, .int .i64 s, .int .i64 m, .int .i64 l, .int .i64 (dn : Int), .int .i64 (nn : Int)] 43 (0, 0))) := Lib.hid (by rw [hw2]; have := heap_alloc_new (w.alloc (.cells #[.slice A0 64 c0, .slice A1 n1 c1, .slice A2 n2 c2, .int .i64 txg, .slice A3 n3 c3, .int .i64 keep, .slice A4 n4 c4, .bool same] 39)) (.cells #[.int .i64 a, .int .i64 b, .int .i64 s, .int .i64 m, .int .i64 l, .int .i64 (dn : Int), .int .i64 (nn : Int)] 43); simpa using this)
 have l2 : w.heap.size < w2.heap.size := (Array.getElem?_eq_some_iff.1 HSX.out).1
 have l2x : w.heap.size + 1 < w2.heap.size := (Array.getElem?_eq_some_iff.1 HTR.out).1
 go_wp2_with fail
 rw [← hw2]; clear hw2
 have s0 := celR 0 HSX.out; have s1 := celR 1 HSX.out; have s2 := celR 2 HSX.out; have s3 := celR 3 HSX.out; have s4 := celR 4 HSX.out; have s5 := celR 5 HSX.out; have s6 := celR 6 HSX.out; have s7 := celR 7 HSX.out
 have t0 := celR 0 HTR.out; have t1 := celR 1 HTR.out; have t2 := celR 2 HTR.out; have t3 := celR 3 HTR.out; have t4 := celR 4 HTR.out; have t5 := celR 5 HTR.out; have t6 := celR 6 HTR.out
 go_wp2_with fail
 refine (HLF.out w2 HB2.out a b s m l nn dn HV.out.d2).mono ?_
 rw [HV.out.got]
 rintro e w4 ⟨A, len, c, ps, ok, rfl, rfl, hps, hsl, hb4⟩
 obtain rfl := hps ls rfl
 have HB4 := Lib.hid (HB2.out.trans (hb4.mono HB2.out.size))
 have HSL := Lib.hid hsl
 have HLE : Hid (len = ps.length) := Lib.hid hsl.len.symm
 have hlen : len ≤ 16 := by rw [HLE.out]; exact HV.out.len
 clear hb4 hsl hps s0 s1 s2 s3 s4 s5 s6 s7 t0 t1 t2 t3 t4 t5 t6
 have HOW : Hid (OwnA (w4.alloc (.cells #[] 41)) 41 5 [] (some ⟨w4.heap.size, 0, none⟩) 0 0 []) := Lib.hid (OwnA.nil _)
 have HRW : Hid (RowAt (w4.alloc (.cells #[] 41)) A (len * 5) (ps.flatMap pcL)) := Lib.hid (HSL.out.newer bel1).ptrRow
 go_wp2_with (at_builtin; go_must (refine wpList_append_row rfl _ _ 37 rfl 41 i0 (.agg #[.int .i64 0, .int .i64 0, .int .i64 0, .int .i64 0, .int .i64 0]) 5 40 Tryz.underlying37 hi0 hz0 hz1 hz2 rfl (by decide) [] (some ⟨w4.heap.size, 0, none⟩) A 0 0 len c [] (ps.flatMap pcL) rfl rfl HOW.out HRW.out (pcL_one ps) (by unfold maxLen; omega) (by omega) ?_))
 intro A5 c5 S5 w5 hO5 hS5 hC5
 have hC5 : Chg (· ∈ ([] : List Nat)) (w4.alloc (.cells #[] 41)) w5 := hC5.mono (fun b _ h => by simp at h)
 obtain ⟨hP5, hb5⟩ := app_ptrs (B := w.heap.size) (S := []) (S' := S5) (fs := []) (gs := ps) (fun g hg => absurd hg List.not_mem_nil) (w1 := w4.alloc (.cells #[] 41)) (by have := HB4.out.size; simp; omega) (by rw [List.nil_append, ← HLE.out] <;> first | done | omega) hO5 (fun g hg => .inr (by have h_ := hS5 g hg; simp at h_ ⊢; exact h_)) hC5
 rw [List.nil_append] at hP5
 have HP5 := Lib.hid hP5
 have HB5 : Hid (Below w.heap.size w w5) := Lib.hid ((Below.alloc HB4.out HB4.out.size _).trans hb5)
 have hb45 : Below w4.heap.size w4 w5 := by
  refine bel1.trans (hC5.below (B := w4.heap.size) (fun g _ hg => absurd hg (by simp)) (by simp))
 have HSL5 := Lib.hid (HSL.out.newer hb45)
 clear hO5 hS5 hC5 HOW HRW hP5 hb5 hb45
 have u1 : IntKind.i64.wrap (16 - (len : Int)) = ((16 - len : Nat) : Int) := by rw [IntWalk.i64_in _ (by omega)]; omega
 go_wp2_with fail
 refine (l8Holes_any (16 - len) (by omega) w5).mono ?_
 rintro e w6 ⟨rfl, hp6, hb6⟩
 have HB6 := Lib.hid (HB5.out.trans (hb6.mono HB5.out.size))
 have HP56 := Lib.hid (HP5.out.below hb6)
 have HRW6 : Hid (RowAt w6 (some ⟨w5.heap.size, 0, none⟩) ((16 - len) * 5) ((holes (16 - len)).flatMap pcL)) := Lib.hid (by have := hp6.slice.ptrRow; rwa [holes_len] at this)
 have HOW6 : Hid (OwnA w6 41 5 S5 A5 len c5 (ps.flatMap pcL)) := Lib.hid (by have h_ := HP56.out.1; rw [← HLE.out] at h_; exact h_)
 clear hp6 hb6
 go_wp2_with (at_builtin; go_must (refine wpList_append_row rfl _ _ 37 rfl 41 i0 (.agg #[.int .i64 0, .int .i64 0, .int .i64 0, .int .i64 0, .int .i64 0]) 5 40 Tryz.underlying37 hi0 hz0 hz1 hz2 rfl (by decide) S5 A5 (some ⟨w5.heap.size, 0, none⟩) len c5 (16 - len) (16 - len) (ps.flatMap pcL) ((holes (16 - len)).flatMap pcL) rfl rfl HOW6.out HRW6.out (pcL_one _) (by unfold maxLen; omega) (by omega) ?_))
 intro A7 c7 S7 w7 hO7 hS7 hC7
 obtain ⟨hP7, hb7⟩ := app_ptrs (B := w.heap.size) (fs := ps) (gs := holes (16 - len)) HP56.out.2 (w1 := w6) HB6.out.size (by rw [List.length_append, ← HLE.out, holes_len]; omega) hO7 hS7 hC7
 have HB7 : Hid (Below w.heap.size w w7) := Lib.hid (HB6.out.trans hb7)
 have HF : Hid (SliceR PtrR 5 w7 w.heap.size w7.heap.size A7 16 c7 (ps ++ holes (16 - ps.length))) := Lib.hid (by
  have h_ := hP7.slice
  rw [← HLE.out]
  have e_ : (ps ++ holes (16 - len)).length = 16 := by rw [List.length_append, ← HLE.out, holes_len]; omega
  rwa [e_] at h_)
 have e16 : Hid (len + (16 - len) = 16) := Lib.hid (by omega)
 clear hO7 hS7 hC7 hP7 hb7
 go_wp2_with fail
 go_ret
 refine ⟨A7, c7, ?_, HF.out, HB7.out⟩
 first | rfl | (rw [e16.out]) | (simp; exact e16.out) | (congr 2; exact e16.out)
end Go.Proofs.YtjnhiiaejeaikaaGreatDoor
