/- Trees of the reference: the text at a place, all texts. Condition: the store has 64 rows of at most 128 bytes; the tree is valid. -/
import Derived.Test.YtjnhiiaejeaikaaGreatDoorRTexts2
set_option linter.unnecessarySimpa false
set_option linter.unusedSimpArgs false
set_option linter.unusedVariables false
namespace Go.Proofs.YtjnhiiaejeaikaaGreatDoor
open Go Go.Lib Go.RowKit
noncomputable def textsT (x : StoreD) (nn : Nat) (ls : List PtrD) : List Str := (ls.take nn).map (fun p => (textP x p).data.toList)
theorem textsT_step {x : StoreD} {k : Nat} {ls : List PtrD} {p : PtrD} (h : ls[k]? = some p) : textsT x (k + 1) ls = textsT x k ls ++ [(textP x p).data.toList] := by
 unfold textsT
 rw [List.take_add_one, h, List.map_append]; rfl
theorem textsT_len {x : StoreD} {k : Nat} {ls : List PtrD} (h : k ≤ ls.length) : (textsT x k ls).length = k := by unfold textsT; rw [List.length_map, List.length_take]; omega
set_option maxRecDepth 100000 in
set_option maxHeartbeats 8000000 in
theorem l8Texts_any (cs : List Value) (x : StoreD) (a b s m l : Int) (dn nn : Nat) (ls : List PtrD) (w : World) (lo hi : Nat) (h : StoreR w lo hi cs x) (hhi : hi ≤ w.heap.size) (h64 : x.1.length = 64) (hz : ∀ r ∈ x.1, r.size ≤ 128) (hv : TreeV x a b s m l dn nn ls) :
 Calls Tryz.prog 27 #[.agg cs.toArray, .agg #[.int .i64 a, .int .i64 b, .int .i64 s, .int .i64 m, .int .i64 l, .int .i64 (dn : Int), .int .i64 (nn : Int)]] w (NewStrs (textsT x nn ls) w) := by
 obtain ⟨i0, hi0, hz0, hz1, hz2⟩ := info_parts info_strs
 have H64 := Lib.hid h64
 have HWD0 := Lib.hid (fun (W : World) (hb : Below w.heap.size w W) => l8Wide_any cs x a b s m l dn nn ls W lo hi (StoreR.below hb hhi cs x h) (Nat.le_trans hhi hb.size) h64 hz hv)
 have HRD := Lib.hid (fun (W : World) (hb : Below w.heap.size w W) (a b s m l : Int) (hok : okP (a, b, s, m, l) = true) => l7Read_any cs x a b s m l W lo hi (StoreR.below hb hhi cs x h) h64 hz hok)
 have HV := Lib.hid hv; clear hv
 clear hhi h64 hz
 obtain ⟨rows, ⟨refs, last⟩, txg, gone, keep, dead, same⟩ := x
 obtain ⟨A0, n0, c0, A1, n1, c1, A2, n2, c2, A3, n3, c3, A4, n4, c4, rfl, h0, h1, h2, h3, h4⟩ := h
 obtain rfl : n0 = 64 := by rw [← h0.len]; exact H64.out
 clear h0 h1 h2 h3 h4
 have HWD : Hid (∀ (W : World), Below w.heap.size w W → Calls Tryz.prog 47 #[.agg #[.slice A0 64 c0, .slice A1 n1 c1, .slice A2 n2 c2, .int .i64 txg, .slice A3 n3 c3, .int .i64 keep, .slice A4 n4 c4, .bool same], .agg #[.int .i64 a, .int .i64 b, .int .i64 s, .int .i64 m, .int .i64 l, .int .i64 (dn : Int), .int .i64 (nn : Int)]] W (WideP ls W)) := Lib.hid (fun W hb => HWD0.out W hb)
 clear HWD0
 have HRD : Hid (∀ (W : World), Below w.heap.size w W → ∀ (a b s m l : Int), okP (a, b, s, m, l) = true → Calls Tryz.prog 48 #[.agg #[.slice A0 64 c0, .slice A1 n1 c1, .slice A2 n2 c2, .int .i64 txg, .slice A3 n3 c3, .int .i64 keep, .slice A4 n4 c4, .bool same], .agg #[.int .i64 a, .int .i64 b, .int .i64 s, .int .i64 m, .int .i64 l]] W (l7Read_any_post (rows, (refs, last), txg, gone, keep, dead, same) (a, b, s, m, l) W)) := Lib.hid (fun W hb a b s m l hok => HRD.out W hb a b s m l hok)
 have HTX : Hid (((rows, (refs, last), txg, gone, keep, dead, same) : StoreD).2.2.1 = txg) := Lib.hid rfl
 show Calls Tryz.prog 27 #[.agg #[.slice A0 64 c0, .slice A1 n1 c1, .slice A2 n2 c2, .int .i64 txg, .slice A3 n3 c3, .int .i64 keep, .slice A4 n4 c4, .bool same], .agg #[.int .i64 a, .int .i64 b, .int .i64 s, .int .i64 m, .int .i64 l, .int .i64 (dn : Int), .int .i64 (nn : Int)]] w _
 generalize hX : ((rows, (refs, last), txg, gone, keep, dead, same) : StoreD) = X at *
 clear hX H64
 go_enter Tryz.func27, Tryz.ntmps27
 obtain ⟨w2, hw2⟩ : ∃ W, W = (w.alloc (.cells #[.slice A0 64 c0, .slice A1 n1 c1, .slice A2 n2 c2, .int .i64 txg, .slice A3 n3 c3, .int .i64 keep, .slice A4 n4 c4, .bool same] 39)).alloc (.cells #[.int .i64 a, .int .i64 b, .int .i64 s, .int .i64 m, .int .i64 l, .int .i64 (dn : Int), .int .i64 (nn : Int)] 43) := ⟨_, rfl⟩
 have HB2 : Hid (Below w.heap.size w w2) := Lib.hid (by rw [hw2]; exact bel2)
 have HSX : Hid (w2.heap[w.heap.size]? = some (.cells #[.slice A0 64 c0, .slice A1 n1 c1, .slice A2 n2 c2, .int .i64 txg, .slice A3 n3 c3, .int .i64 keep, .slice A4 n4 c4, .bool same] 39 (0, 0))) := Lib.hid (by rw [hw2]; exact (Below.heap_alloc _ _ _ (by simp)).trans (heap_alloc_new _ _))
 have HTR : Hid (w2.heap[w.heap.size + 1]? = some (.cells #[.int .i64 a, .int .i64 b, .int .i64 s, .int .i64 m, .int .i64 l, .int .i64 (dn : Int), .int .i64 (nn : Int)] 43 (0, 0))) := Lib.hid (by rw [hw2]; have := heap_alloc_new (w.alloc (.cells #[.slice A0 64 c0, .slice A1 n1 c1, .slice A2 n2 c2, .int .i64 txg, .slice A3 n3 c3, .int .i64 keep, .slice A4 n4 c4, .bool same] 39)) (.cells #[.int .i64 a, .int .i64 b, .int .i64 s, .int .i64 m, .int .i64 l, .int .i64 (dn : Int), .int .i64 (nn : Int)] 43); simpa using this)
 have l2 : w.heap.size < w2.heap.size := (Array.getElem?_eq_some_iff.1 HSX.out).1
 have l2x : w.heap.size + 1 < w2.heap.size := (Array.getElem?_eq_some_iff.1 HTR.out).1
 obtain ⟨w3, hw3⟩ : ∃ W, W = w2.alloc (.cells #[] 9) := ⟨_, rfl⟩
 have HB3 : Hid (Below w.heap.size w w3) := Lib.hid (by rw [hw3]; exact Below.alloc HB2.out HB2.out.size _)
 have HSX3 : Hid (w3.heap[w.heap.size]? = some (.cells #[.slice A0 64 c0, .slice A1 n1 c1, .slice A2 n2 c2, .int .i64 txg, .slice A3 n3 c3, .int .i64 keep, .slice A4 n4 c4, .bool same] 39 (0, 0))) := Lib.hid (by rw [hw3]; exact (Below.heap_alloc _ _ _ l2).trans HSX.out)
 have HTR3 : Hid (w3.heap[w.heap.size + 1]? = some (.cells #[.int .i64 a, .int .i64 b, .int .i64 s, .int .i64 m, .int .i64 l, .int .i64 (dn : Int), .int .i64 (nn : Int)] 43 (0, 0))) := Lib.hid (by rw [hw3]; exact (Below.heap_alloc _ _ _ l2x).trans HTR.out)
 have l3 := (Array.getElem?_eq_some_iff.1 HSX3.out).1
 have l3x := (Array.getElem?_eq_some_iff.1 HTR3.out).1
 go_wp2_with fail
 rw [← hw2, ← hw3]; clear hw2 hw3
 have s0 := celR 0 HSX3.out; have s1 := celR 1 HSX3.out; have s2 := celR 2 HSX3.out; have s3 := celR 3 HSX3.out; have s4 := celR 4 HSX3.out; have s5 := celR 5 HSX3.out; have s6 := celR 6 HSX3.out; have s7 := celR 7 HSX3.out
 have t0 := celR 0 HTR3.out; have t1 := celR 1 HTR3.out; have t2 := celR 2 HTR3.out; have t3 := celR 3 HTR3.out; have t4 := celR 4 HTR3.out; have t5 := celR 5 HTR3.out; have t6 := celR 6 HTR3.out
 go_wp2_with fail
 refine (HWD.out w3 HB3.out).mono ?_
 rintro e w4 ⟨A, c, rfl, hsl, hb4⟩
 have HB4 := Lib.hid (HB3.out.trans (hb4.mono HB3.out.size))
 have HSX4 := Lib.hid ((hb4.block _ l3).trans HSX3.out)
 have HTR4 := Lib.hid ((hb4.block _ l3x).trans HTR3.out)
 have l4 := (Array.getElem?_eq_some_iff.1 HSX4.out).1
 have l4x := (Array.getElem?_eq_some_iff.1 HTR4.out).1
 have HSL := Lib.hid hsl
 clear hb4 hsl s0 s1 s2 s3 s4 s5 s6 s7 t0 t1 t2 t3 t4 t5 t6
 have hn16 : nn ≤ 16 := by have h1 := HV.out.nn; have h2 := HV.out.len; omega
 go_wp2_with fail
 go_loopw [5, 7] (fun t i wr => ∃ (k mm c2' : Nat) (A2' : Option Addr), k ≤ nn ∧ mm = k ∧ i = .int .i64 (k : Int) ∧ t = .slice A2' mm c2' ∧ Hid (StrsIn w4.heap.size wr A2' c2' (textsT X k ls)) ∧ Hid (Below w4.heap.size w4 wr)) (fun _ i _ => nn - (RowKit.intOf i).toNat)
 case atStart => exact ⟨0, 0, 0, _, Nat.zero_le _, rfl, rfl, rfl, Lib.hid (by show StrsIn _ _ _ _ ((ls.take 0).map _); simpa using StrsIn.nil' _), Lib.hid (Below.refl _ _)⟩
 obtain ⟨k, mm, c2', A2', hk, hmk, rfl, rfl, HI, HB5⟩ := hrel
 subst hmk
 have HBW := Lib.hid (HB4.out.trans (HB5.out.mono HB4.out.size))
 have HTRW := Lib.hid ((HB5.out.block _ l4x).trans HTR4.out)
 have t6 := celR 6 HTRW.out
 have lt6 := (Array.getElem?_eq_some_iff.1 HTRW.out).1
 have k0 : (0 : Int) ≤ (mm : Int) := by omega
 by_cases hlt : mm < nn
 case neg =>
  obtain rfl : mm = nn := by omega
  have HL : Hid (mm = (textsT X mm ls).length) := Lib.hid (textsT_len HV.out.nn).symm
  have HI2 := Lib.hid (HI.out.mono HB4.out.size)
  go_wp2_with fail
  go_ret
  exact ⟨A2', c2', congrArg (fun t => Ending.returned (.slice A2' t c2')) HL.out, HI2.out, HBW.out⟩
 have k1 : (mm : Int) < (nn : Int) := by omega
 have k116 : (mm : Int) < 16 := by omega
 have HSXW := Lib.hid ((HB5.out.block _ l4).trans HSX4.out)
 have l5 := (Array.getElem?_eq_some_iff.1 HSXW.out).1
 have s0 := celR 0 HSXW.out; have s1 := celR 1 HSXW.out; have s2 := celR 2 HSXW.out; have s3 := celR 3 HSXW.out; have s4 := celR 4 HSXW.out; have s5 := celR 5 HSXW.out; have s6 := celR 6 HSXW.out; have s7 := celR 7 HSXW.out
 obtain ⟨pp, hp⟩ : ∃ q, ls[mm]? = some q := ⟨ls[mm]'(by have := HV.out.nn; omega), List.getElem?_eq_getElem _⟩
 have hpw : (ls ++ holes (16 - ls.length))[mm]? = some pp := by rw [List.getElem?_append_left (by have := HV.out.nn; omega)]; exact hp
 obtain ⟨b_, off, rfl, _, _, bl, hc⟩ := (HSL.out.newer HB5.out).at_ (by omega)
 obtain ⟨cs_, hcl, hcc, hr⟩ := hc mm pp hpw
 have HX := Lib.hid hp
 have HOP := Lib.hid (HV.out.ok pp (List.mem_of_getElem? hp))
 obtain ⟨tx, htx⟩ := Option.isSome_iff_exists.1 (HV.out.read pp (List.mem_of_getElem? hp))
 clear hp hpw hc
 obtain ⟨a', b', s', m', l'⟩ := pp
 obtain rfl := hr
 have HTXT := Lib.hid htx; clear htx
 have q0 := hcc 0 _ rfl; have q1 := hcc 1 _ rfl; have q2 := hcc 2 _ rfl; have q3 := hcc 3 _ rfl; have q4 := hcc 4 _ rfl
 simp only [Nat.add_zero] at q0
 clear hcc hcl
 go_wp2_with fail
 apply wp_region_rg (by kernel_rfl) (false :: false :: false :: false :: false :: false :: false :: false :: true :: true :: false :: false :: false :: false :: false :: false :: false :: false :: false :: false :: true :: true :: true :: true :: true :: true :: true :: true :: true :: false :: false :: false :: false :: false :: []) [some 21, some 22, some 23, some 24, some 25, some 26, some 20, some 27, some 28, some 8, some 9] [[], [], [], [1, 2], [3], [0, 4], [5], [6], [6], [7], [8]] [StP.is _, StP.is _, StP.is _, StP.is _, StP.is _, StP.is _, StP.is _, StP.is _, StP.is _, StP.is _, StP.is _] (by kernel_rfl)
 case hobs =>
  constructor; have ld_ := trivial; rotate_left
  iterate 3 (constructor; rotate_left)
  constructor; have ld_ := trivial; rotate_left
  iterate 6 (constructor; rotate_left)
  · trivial
  all_goals (
   intro y w' hS hF K hK
   have eF := trivial
   repeat (obtain ⟨f1, hF⟩ := hF; replace eF := And.intro (show y _ = _ from f1) eF; clear f1)
   first
    | simp only [fillL, cond_true, cond_false, zG0, zG1, StP.is, Act.put, zS2, zS0, zS1, Nat.reduceAdd, eF] at hK ⊢
    | simp only [fillL, cond_true, cond_false, zG0, zG1, StP.is, Act.put, zS2, zS0, zS1, Nat.reduceAdd] at hK ⊢
   clear eF hF
   first
    | (refine rg_yes (by kernel_rfl) ?_
       try (clear ld_; have qx0_ := (Below.cell hS l5).trans s0; have qx1_ := (Below.cell hS l5).trans s1; have qx2_ := (Below.cell hS l5).trans s2; have qx3_ := (Below.cell hS l5).trans s3; have qx4_ := (Below.cell hS l5).trans s4; have qx5_ := (Below.cell hS l5).trans s5; have qx6_ := (Below.cell hS l5).trans s6; have qx7_ := (Below.cell hS l5).trans s7; have qx8_ := (Below.cell hS bl).trans q0; have qx9_ := (Below.cell hS bl).trans q1; have qx10_ := (Below.cell hS bl).trans q2; have qx11_ := (Below.cell hS bl).trans q3; have qx12_ := (Below.cell hS bl).trans q4)
       go_simp
       first
        | (go_at_call 48
           refine (HRD.out w' (HBW.out.trans (Below.mono hS HBW.out.size)) a' b' s' m' l' HOP.out).mono ?_
           unfold l7Read_any_post
           rw [HTXT.out]
           simp only [Option.getD_some, Option.isSome_some]
           rintro e w'' ⟨rfl, hb⟩
           exact hK _ _ hb rfl)
        | exact hK _ _ (Ext.refl _) rfl))
 intro y w6 hX6 hF
 have e8 : y 8 = _ := hF.2.2.2.2.2.2.2.2.2.1
 have e9 : y 9 = _ := hF.2.2.2.2.2.2.2.2.2.2.1
 clear hF
 simp only [fillL, cond_true, cond_false, Nat.reduceAdd, e8, e9]
 clear e8 e9 q0 q1 q2 q3 q4 s0 s1 s2 s3 s4 s5 s6 s7 t6
 have HB6 := Lib.hid (HB5.out.trans (Below.mono hX6 HB5.out.size))
 have HI6 := Lib.hid (HI.out.below hX6)
 clear hX6
 obtain ⟨ts, rfl⟩ : ∃ ts, tx = strB ts := ⟨tx.data.toList, (strB_data tx).symm⟩
 have HTP : Hid (textsT X (mm + 1) ls = textsT X mm ls ++ [ts]) := Lib.hid (by rw [textsT_step HX.out]; unfold textP; rw [HTXT.out]; simp [strB])
 obtain ⟨gs, hgs⟩ : ∃ gs, gs = textsT X mm ls := ⟨_, rfl⟩
 have HGL : Hid (mm = gs.length) := Lib.hid (by rw [hgs, textsT_len (by have := HV.out.nn; omega)])
 rw [← hgs] at HI6 HTP
 clear hgs HI
 obtain ⟨S, hOS, hSB⟩ := HI6.out
 rw [← HGL.out] at hOS
 have HOA := Lib.hid (hOS.below (bel1 (o := .cells #[.string (strB ts)] 9)))
 have HLIT := Lib.hid (fun (W : World) => RowAt.lit (w := W) (e := 9) (cur := #[.string (strB ts)]) (m := 1) rfl)
 have HONE : Hid (∀ u ∈ [ts].map strV, u.oneCell' = true) := Lib.hid (strs_one _)
 have HSB := Lib.hid hSB
 clear hOS hSB
 go_wp2_with (at_builtin; go_must (refine wpList_append_row rfl _ _ 22 rfl 9 i0 (.string ByteArray.empty) 1 16 Tryz.underlying22 hi0 hz0 hz1 hz2 rfl (by decide) S A2' _ mm c2' 1 _ (gs.map strV) ([ts].map strV) rfl rfl HOA.out (HLIT.out _) HONE.out (by unfold maxLen; omega) (by omega) ?_))
 intro A' c' S' w7 hO' hS' hC'
 obtain ⟨hI7, hb7⟩ := app_strs (B := w4.heap.size) HSB.out (w1 := w6.alloc (.cells #[.string (strB ts)] 9)) (fs := gs) (gs := [ts]) (by have := HB6.out.size; simp; omega) (by rw [List.length_append, ← HGL.out, List.length_singleton]) hO' (fun g hg => (hS' g hg).imp id (fun h => by simpa using h)) hC'
 have HB7 : Hid (Below w4.heap.size w4 w7) := Lib.hid ((Below.alloc HB6.out HB6.out.size _).trans hb7)
 have HI7 : Hid (StrsIn w4.heap.size w7 A' c' (textsT X (mm + 1) ls)) := Lib.hid (by rw [HTP.out]; exact hI7)
 clear hI7 hb7 hO' hS' hC' HOA HLIT HONE HSB
 go_wp2_with fail
 go_roundw
 case rel => exact ⟨mm + 1, mm + 1, c', A', by omega, rfl, by go_num, rfl, HI7, HB7⟩
 simp [RowKit.intOf]; omega
end Go.Proofs.YtjnhiiaejeaikaaGreatDoor
