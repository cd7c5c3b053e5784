/- The fields of a tree. Condition: the table of powers of ten lies as its initialiser lays it. -/
import Derived.Test.YtjnhiiaejeaikaaGreatDoorRPtrPut
set_option linter.unnecessarySimpa false
set_option linter.unusedSimpArgs false
set_option linter.unusedVariables false
namespace Go.Proofs.YtjnhiiaejeaikaaGreatDoor
open Go Go.Lib Go.RowKit
def TabB (B : Nat) (w : World) : Prop := ∀ w', Below B w w' → Tab w'
theorem Tab.toB {w : World} (h : Tab w) : TabB w.heap.size w := fun _ hb => h.below hb
theorem TabB.here {B : Nat} {w : World} (h : TabB B w) : Tab w := h w (Below.refl _ _)
theorem TabB.on {B : Nat} {w w1 : World} (h : TabB B w) (hb : Below B w w1) : TabB B w1 := fun w' h' => h w' (hb.trans h')
theorem intsAt2 {w : World} {g T : Nat} {d n : Int} (hg : w.heap[g]? = some (.cells #[.int .i64 d, .int .i64 n] T (0, 0))) : IntsAt w (some ⟨g, 0, none⟩) 2 [d, n] := by
 refine ⟨rfl, by unfold maxLen; omega, fun _ => ⟨g, 0, rfl, fun j hj => ?_⟩⟩
 rw [Nat.zero_add, cell_of_row _ _ j _ _ (0, 0) hg]
 have hx : j = 0 ∨ j = 1 := by omega
 rcases hx with rfl | rfl <;> rfl
def strsP (B : Nat) (fs : List Str) : StP := ⟨fun v w => ∃ A c n, v = .slice A n c ∧ n = fs.length ∧ StrsIn B w A c fs, fun _ _ _ he ⟨A, c, n, e, hn, h⟩ => ⟨A, c, n, e, hn, h.below he⟩⟩
set_option maxRecDepth 100000 in
set_option maxHeartbeats 4000000 in
theorem numbers_any (A : Option Addr) (n c : Nat) (xs : List Int) (w : World) (ht : Tab w) (h : IntsAt w A n xs) (hn : n ≤ 1000) : Calls Tryz.prog 108 #[.slice A n c] w (NewStrs (xs.map numS) w) := by
 obtain ⟨i0, hi0, hz0, hz1, hz2⟩ := info_parts info_strs
 have hln := h.len
 go_enter Tryz.func108, Tryz.ntmps108
 go_wp2_with fail
 go_loopw [3, 8] (fun t i wr => ∃ (j : Nat) (A' : Option Addr) (n' c' : Nat), i = .int .i64 (j : Int) ∧ j ≤ n ∧ t = .slice A' n' c' ∧ n' = j ∧ Hid (StrsIn w.heap.size wr A' c' ((xs.map numS).take j)) ∧ Hid (Below w.heap.size w wr)) (fun _ i _ => n - (RowKit.intOf i).toNat)
 case atStart => exact ⟨0, none, 0, 0, rfl, Nat.zero_le _, rfl, rfl, Lib.hid StrsIn.nil, Lib.hid (Below.refl _ _)⟩
 obtain ⟨j, A1, n1, c1, rfl, hj, rfl, hnj, HI, HB⟩ := hrel
 subst hnj
 have hw3 : w.heap.size ≤ wr.heap.size := HB.out.size
 by_cases hlt : n1 < n
 · have hd : ((n1 : Nat) : Int) < (n : Int) := by omega
   obtain ⟨b, off, rfl, hbl, hc⟩ := h.at_ (k := n1) hlt
   obtain ⟨x, hx⟩ : ∃ x, x = xs.getD n1 0 := ⟨_, rfl⟩
   have hcx : wr.cell? ⟨b, off + n1, none⟩ = some (.int .i64 x) := by rw [hx]; exact (HB.out.cell hbl).trans (hc n1 hlt)
   have HXX : Hid ((xs.map numS)[n1]? = some (numS x)) := Lib.hid (by rw [List.getElem?_map, hx, List.getD_eq_getElem?_getD, List.getElem?_eq_getElem (by omega)]; rfl)
   have HTr := Lib.hid (ht.below HB.out)
   clear hc hx
   go_wp2_with fail
   refine (numPut_any x wr HTr.out).mono ?_
   rintro e w4 ⟨rfl, hb4⟩
   have hI4 := HI.out.below hb4
   have HB4 : Below w.heap.size w w4 := HB.out.trans (hb4.mono hw3)
   clear hb4 hcx
   obtain ⟨S, hOS, hSB⟩ := hI4
   have hlen : ((xs.map numS).take n1).length = n1 := by simp; omega
   obtain ⟨gs, hgs⟩ : ∃ gs, gs = (xs.map numS).take n1 := ⟨_, rfl⟩
   rw [← hgs] at hOS hlen
   rw [hlen] at hOS
   have HGS := Lib.hid hgs
   clear hgs
   have HOA := Lib.hid (hOS.below (bel1 (o := .cells #[.string (strB (numS x))] 9)))
   have HLIT := Lib.hid (fun (W : World) => RowAt.lit (w := W) (e := 9) (cur := #[.string (strB (numS x))]) (m := 1) rfl)
   have HONE : Hid (∀ u ∈ [numS x].map strV, u.oneCell' = true) := Lib.hid (strs_one _)
   have HSB := Lib.hid hSB
   have HB4' := Lib.hid HB4
   clear hOS hSB HB4 HB HI
   go_wp2_with (at_builtin; go_must (refine wpList_append_row rfl _ _ 22 rfl 9 i0 (.string ByteArray.empty) 1 16 Tryz.underlying22 hi0 hz0 hz1 hz2 rfl (by decide) S A1 _ n1 c1 1 _ (gs.map strV) ([numS x].map strV) rfl rfl HOA.out (HLIT.out _) HONE.out (by unfold maxLen; omega) (by omega) ?_))
   intro A' c' S' w5 hO' hS' hC'
   obtain ⟨hI5, hb5⟩ := app_strs (B := w.heap.size) HSB.out (w1 := w4.alloc (.cells #[.string (strB (numS x))] 9)) (fs := gs) (gs := [numS x]) (by have := HB4'.out.size; simp; omega) (by rw [List.length_append, hlen, List.length_singleton]) hO' (fun g hg => (hS' g hg).imp id (fun h => by simpa using h)) hC'
   have HB5 := Lib.hid (HB4'.out.trans (((Below.refl _ _).alloc HB4'.out.size _).trans hb5))
   have HI5 : Hid (StrsIn w.heap.size w5 A' c' ((xs.map numS).take (n1 + 1))) := Lib.hid (by
    rw [List.take_add_one, HXX.out]
    rw [HGS.out] at hI5
    exact hI5)
   clear hI5 hb5 hO' hS' hC' HOA HLIT HONE HSB HB4' hlen
   go_wp2_with fail
   go_roundw
   case rel => exact ⟨n1 + 1, A', n1 + 1, c', by simp, by omega, rfl, rfl, HI5, HB5⟩
   simp [RowKit.intOf]; omega
 have hd : ¬ ((n1 : Nat) : Int) < (n : Int) := by omega
 obtain rfl : n1 = n := by omega
 have hI := HI.out
 rw [List.take_of_length_le (by simp; omega)] at hI
 have HI2 := Lib.hid hI
 have hln2 : (xs.map numS).length = n1 := by simp; omega
 clear hI HI
 go_wp2_with fail
 go_ret
 exact ⟨A1, c1, by rw [hln2]; rfl, HI2.out, HB.out⟩
set_option maxRecDepth 100000 in
set_option maxHeartbeats 4000000 in
theorem treeFields_any (a b s m l d n : Int) (w : World) (ht : Tab w) : Calls Tryz.prog 109 #[treeV a b s m l d n] w (NewStrs (treeS a b s m l d n) w) := by
 obtain ⟨i0, hi0, hz0, hz1, hz2⟩ := info_parts info_strs
 show Calls Tryz.prog 109 #[.agg #[.int .i64 a, .int .i64 b, .int .i64 s, .int .i64 m, .int .i64 l, .int .i64 d, .int .i64 n]] w _
 go_enter Tryz.func109, Tryz.ntmps109
 go_wp2_with fail
 obtain ⟨w1, hw1⟩ : ∃ x, x = w.alloc (.cells #[.int .i64 a, .int .i64 b, .int .i64 s, .int .i64 m, .int .i64 l, .int .i64 d, .int .i64 n] 43) := ⟨_, rfl⟩
 have hb1 : Below w.heap.size w w1 := by rw [hw1]; exact bel1
 have hs1 : w1.heap.size = w.heap.size + 1 := by rw [hw1]; simp
 have l1 : w.heap.size < w1.heap.size := by omega
 have hg1 : w1.heap[w.heap.size]? = some (.cells #[.int .i64 a, .int .i64 b, .int .i64 s, .int .i64 m, .int .i64 l, .int .i64 d, .int .i64 n] 43 (0, 0)) := by rw [hw1]; exact heap_alloc_new _ _
 rw [← hw1]
 have c1_0 := celR 0 hg1
 have c1_1 := celR 1 hg1
 have c1_2 := celR 2 hg1
 have c1_3 := celR 3 hg1
 have c1_4 := celR 4 hg1
 have c1_5 := celR 5 hg1
 have c1_6 := celR 6 hg1
 clear hw1 hg1 hs1
 have HT1 := Lib.hid (ht.below hb1)
 have HB1 := Lib.hid hb1
 clear hb1 ht
 apply wp_region_rgm (Own (w1.heap.size)) (Ext) (fun _ _ => True) [0, 0, 0, 0, 0, 0, 0, 0, 0, 0, 0, 0] (by kernel_rfl) (false :: false :: true :: true :: true :: true :: true :: true :: true :: true :: true :: true :: true :: true :: []) [some 3, some 4, some 5, some 6, some 7, some 8, some 9, some 10, some 11, some 12, some 13, some 2] [[], [0], [1], [2], [], [4], [], [6], [5, 7], [8], [3, 9], [10]] [false, false, false, false, false, false, false, false, false, false, true, false] [true, true, true, false, true, true, true, true, false, false, false, false] [11] [MStP.is _, MStP.is _, MStP.is _, softStrs (w1.heap.size) ([ptrS a b s m l]), MStP.is _, MStP.is _, MStP.is _, MStP.is _, softLit (w1.heap.size) 3 (#[.int .i64 d, .int .i64 n]) 2, softStrs (w1.heap.size) ([numS d, numS n]), softStrs (w1.heap.size) (treeS a b s m l d n), softStrs (w1.heap.size) (treeS a b s m l d n)] (by kernel_rfl) (by kernel_rfl) (by kernel_rfl)
 case hobs =>
  refine ⟨fun y w' k hS hj hk hF K hK => ?_, ?_⟩
  · skip
    simp only [fillL, cond_true, cond_false, zG0, zG1, StP.is, Act.put, zS2, zS0, zS1, Nat.reduceAdd, MStP.is, Option.isSome_some, Option.isSome_none] at hK ⊢
    refine rg_yes (by kernel_rfl) ?_
    clear hF
    go_simp
    exact hK _ _ (Ext.refl _) trivial rfl
  refine ⟨fun y w' k hS hj hk hF K hK => ?_, ?_⟩
  · skip
    have e3 : y 3 = _ := hF.1
    simp only [fillL, cond_true, cond_false, zG0, zG1, StP.is, Act.put, zS2, zS0, zS1, Nat.reduceAdd, e3, MStP.is, Option.isSome_some, Option.isSome_none] at hK ⊢
    refine rg_yes (by kernel_rfl) ?_
    have hSb := hS.below
    have hBw := hSb.size
    have q0_ := (hSb.cell l1).trans c1_0
    have q1_ := (hSb.cell l1).trans c1_1
    have q2_ := (hSb.cell l1).trans c1_2
    have q3_ := (hSb.cell l1).trans c1_3
    have q4_ := (hSb.cell l1).trans c1_4
    have q5_ := (hSb.cell l1).trans c1_5
    have q6_ := (hSb.cell l1).trans c1_6
    clear e3
    clear hF
    go_simp
    exact hK _ _ (Ext.refl _) trivial rfl
  refine ⟨fun y w' k hS hj hk hF K hK => ?_, ?_⟩
  · skip
    have e4 : y 4 = _ := hF.1
    simp only [fillL, cond_true, cond_false, zG0, zG1, StP.is, Act.put, zS2, zS0, zS1, Nat.reduceAdd, e4, MStP.is, Option.isSome_some, Option.isSome_none] at hK ⊢
    refine rg_yes (by kernel_rfl) ?_
    have hSb := hS.below
    have hBw := hSb.size
    have q0_ := (hSb.cell l1).trans c1_0
    have q1_ := (hSb.cell l1).trans c1_1
    have q2_ := (hSb.cell l1).trans c1_2
    have q3_ := (hSb.cell l1).trans c1_3
    have q4_ := (hSb.cell l1).trans c1_4
    have q5_ := (hSb.cell l1).trans c1_5
    have q6_ := (hSb.cell l1).trans c1_6
    clear e4
    clear hF
    go_simp
    go_at_call 121
    refine (ptrPut_any a b s m l w' (HT1.out.below hSb)).mono ?_
    rintro e w'' ⟨rfl, hb9⟩
    exact hK _ _ hb9 trivial rfl
  refine ⟨fun y w' k hS hj hk hF K hK => ?_, ?_⟩
  · skip
    have e5 : y 5 = _ := hF.1
    simp only [fillL, cond_true, cond_false, zG0, zG1, StP.is, Act.put, zS2, zS0, zS1, Nat.reduceAdd, e5, MStP.is, Option.isSome_some, Option.isSome_none] at hK ⊢
    refine rg_yes (by kernel_rfl) ?_
    have hSb := hS.below
    have hBw := hSb.size
    have q0_ := (hSb.cell l1).trans c1_0
    have q1_ := (hSb.cell l1).trans c1_1
    have q2_ := (hSb.cell l1).trans c1_2
    have q3_ := (hSb.cell l1).trans c1_3
    have q4_ := (hSb.cell l1).trans c1_4
    have q5_ := (hSb.cell l1).trans c1_5
    have q6_ := (hSb.cell l1).trans c1_6
    clear e5
    clear hF
    go_simp
    exact hK _ _ (Ext.alloc _ _) trivial ⟨_, _, _, rfl, rfl, StrsIn.lit (fs := [ptrS a b s m l]) hBw (heap_alloc_new _ _) rfl (by unfold maxLen; simp)⟩
  refine ⟨fun y w' k hS hj hk hF K hK => ?_, ?_⟩
  · skip
    simp only [fillL, cond_true, cond_false, zG0, zG1, StP.is, Act.put, zS2, zS0, zS1, Nat.reduceAdd, MStP.is, Option.isSome_some, Option.isSome_none] at hK ⊢
    refine rg_yes (by kernel_rfl) ?_
    clear hF
    go_simp
    exact hK _ _ (Ext.refl _) trivial rfl
  refine ⟨fun y w' k hS hj hk hF K hK => ?_, ?_⟩
  · skip
    have e7 : y 7 = _ := hF.1
    simp only [fillL, cond_true, cond_false, zG0, zG1, StP.is, Act.put, zS2, zS0, zS1, Nat.reduceAdd, e7, MStP.is, Option.isSome_some, Option.isSome_none] at hK ⊢
    refine rg_yes (by kernel_rfl) ?_
    have hSb := hS.below
    have hBw := hSb.size
    have q0_ := (hSb.cell l1).trans c1_0
    have q1_ := (hSb.cell l1).trans c1_1
    have q2_ := (hSb.cell l1).trans c1_2
    have q3_ := (hSb.cell l1).trans c1_3
    have q4_ := (hSb.cell l1).trans c1_4
    have q5_ := (hSb.cell l1).trans c1_5
    have q6_ := (hSb.cell l1).trans c1_6
    clear e7
    clear hF
    go_simp
    exact hK _ _ (Ext.refl _) trivial rfl
  refine ⟨fun y w' k hS hj hk hF K hK => ?_, ?_⟩
  · skip
    simp only [fillL, cond_true, cond_false, zG0, zG1, StP.is, Act.put, zS2, zS0, zS1, Nat.reduceAdd, MStP.is, Option.isSome_some, Option.isSome_none] at hK ⊢
    refine rg_yes (by kernel_rfl) ?_
    clear hF
    go_simp
    exact hK _ _ (Ext.refl _) trivial rfl
  refine ⟨fun y w' k hS hj hk hF K hK => ?_, ?_⟩
  · skip
    have e9 : y 9 = _ := hF.1
    simp only [fillL, cond_true, cond_false, zG0, zG1, StP.is, Act.put, zS2, zS0, zS1, Nat.reduceAdd, e9, MStP.is, Option.isSome_some, Option.isSome_none] at hK ⊢
    refine rg_yes (by kernel_rfl) ?_
    have hSb := hS.below
    have hBw := hSb.size
    have q0_ := (hSb.cell l1).trans c1_0
    have q1_ := (hSb.cell l1).trans c1_1
    have q2_ := (hSb.cell l1).trans c1_2
    have q3_ := (hSb.cell l1).trans c1_3
    have q4_ := (hSb.cell l1).trans c1_4
    have q5_ := (hSb.cell l1).trans c1_5
    have q6_ := (hSb.cell l1).trans c1_6
    clear e9
    clear hF
    go_simp
    exact hK _ _ (Ext.refl _) trivial rfl
  refine ⟨fun y w' k hS hj hk hF K hK => ?_, ?_⟩
  · skip
    have e8 : y 8 = _ := hF.1
    have e10 : y 10 = _ := hF.2.1
    simp only [fillL, cond_true, cond_false, zG0, zG1, StP.is, Act.put, zS2, zS0, zS1, Nat.reduceAdd, e8, e10, MStP.is, Option.isSome_some, Option.isSome_none] at hK ⊢
    refine rg_yes (by kernel_rfl) ?_
    have hSb := hS.below
    have hBw := hSb.size
    have q0_ := (hSb.cell l1).trans c1_0
    have q1_ := (hSb.cell l1).trans c1_1
    have q2_ := (hSb.cell l1).trans c1_2
    have q3_ := (hSb.cell l1).trans c1_3
    have q4_ := (hSb.cell l1).trans c1_4
    have q5_ := (hSb.cell l1).trans c1_5
    have q6_ := (hSb.cell l1).trans c1_6
    clear e8 e10
    clear hF
    go_simp
    exact hK _ _ (Ext.alloc _ _) trivial ⟨_, rfl, heap_alloc_new _ _⟩
  refine ⟨fun y w' k hS hj hk hF K hK => ?_, ?_⟩
  · skip
    obtain ⟨ge11, e11, hge11⟩ := hF.1
    simp only [fillL, cond_true, cond_false, zG0, zG1, StP.is, Act.put, zS2, zS0, zS1, Nat.reduceAdd, e11, MStP.is, Option.isSome_some, Option.isSome_none] at hK ⊢
    refine rg_yes (by kernel_rfl) ?_
    have hSb := hS.below
    have hBw := hSb.size
    have q0_ := (hSb.cell l1).trans c1_0
    have q1_ := (hSb.cell l1).trans c1_1
    have q2_ := (hSb.cell l1).trans c1_2
    have q3_ := (hSb.cell l1).trans c1_3
    have q4_ := (hSb.cell l1).trans c1_4
    have q5_ := (hSb.cell l1).trans c1_5
    have q6_ := (hSb.cell l1).trans c1_6
    clear e11
    clear hF
    go_simp
    go_at_call 108
    refine (numbers_any _ 2 2 [d, n] w' (HT1.out.below hSb) (intsAt2 hge11) (by omega)).mono ?_
    rintro e w'' ⟨A2, c2, rfl, hI, hb9⟩
    exact hK _ _ hb9 trivial ⟨A2, c2, _, rfl, rfl, hI.mono hBw⟩
  refine ⟨fun y w' k hS hj hk hF K hK => ?_, ?_⟩
  · skip
    obtain ⟨Ae6, ce6, ne6, e6, hxe6, hIe6⟩ := hF.1
    have hne6 := Lib.hid hxe6; clear hxe6
    obtain ⟨Ae12, ce12, ne12, e12, hxe12, hIe12⟩ := hF.2.1
    have hne12 := Lib.hid hxe12; clear hxe12
    simp only [fillL, cond_true, cond_false, zG0, zG1, StP.is, Act.put, zS2, zS0, zS1, Nat.reduceAdd, e6, e12, MStP.is, Option.isSome_some, Option.isSome_none] at hK ⊢
    refine rg_yes (by kernel_rfl) ?_
    have hSb := hS.below
    have hBw := hSb.size
    have q0_ := (hSb.cell l1).trans c1_0
    have q1_ := (hSb.cell l1).trans c1_1
    have q2_ := (hSb.cell l1).trans c1_2
    have q3_ := (hSb.cell l1).trans c1_3
    have q4_ := (hSb.cell l1).trans c1_4
    have q5_ := (hSb.cell l1).trans c1_5
    have q6_ := (hSb.cell l1).trans c1_6
    clear e6 e12
    clear hF
    have hlr := (Nat.le_of_eq rfl : 0 ≤ 0)
    obtain ⟨Se6, hOS, hSB⟩ := hIe6
    have hne6 := hne6.out; have hne12 := hne12.out
    rw [← hne6] at hOS
    simp only [List.length_cons, List.length_nil, Nat.zero_add, Nat.reduceAdd] at hne6 hne12
    refine wp_append_row (.tmp 6) (.tmp 12) 22 rfl 9 i0 (.string ByteArray.empty) 1 16 Tryz.underlying22 hi0 hz0 hz1 hz2 rfl (by decide) Se6 Ae6 Ae12 ne6 ce6 ne12 ce12 ([ptrS a b s m l].map strV) ([numS d, numS n].map strV) rfl rfl hOS (by rw [hne12, Nat.mul_one]; exact hIe12.row) (strs_one _) (by unfold maxLen; omega) (by omega) ?_
    intro A' c' S' w'' hO' hS' hC'
    obtain ⟨hI9, hb9⟩ := app_strs (fs := [ptrS a b s m l]) (gs := [numS d, numS n]) hSB hBw (by rw [List.length_append, hne6, hne12]; rfl) hO' hS' hC'
    exact hK _ _ (fun _ => hb9) trivial ⟨A', c', _, rfl, by rw [hne6, hne12]; rfl, hI9⟩
  refine ⟨fun y w' k hS hj hk hF K hK => ?_, ?_⟩
  · skip
    obtain ⟨Ae13, ce13, ne13, e13, hxe13, hIe13⟩ := hF.1
    have hne13 := Lib.hid hxe13; clear hxe13
    simp only [fillL, cond_true, cond_false, zG0, zG1, StP.is, Act.put, zS2, zS0, zS1, Nat.reduceAdd, e13, MStP.is, Option.isSome_some, Option.isSome_none] at hK ⊢
    refine rg_yes (by kernel_rfl) ?_
    have hSb := hS.below
    have hBw := hSb.size
    have q0_ := (hSb.cell l1).trans c1_0
    have q1_ := (hSb.cell l1).trans c1_1
    have q2_ := (hSb.cell l1).trans c1_2
    have q3_ := (hSb.cell l1).trans c1_3
    have q4_ := (hSb.cell l1).trans c1_4
    have q5_ := (hSb.cell l1).trans c1_5
    have q6_ := (hSb.cell l1).trans c1_6
    clear e13
    clear hF
    go_simp
    exact hK _ _ (Ext.refl _) trivial ⟨_, _, _, rfl, hne13.out, hIe13⟩
  trivial
 case hH => rfl
 case hNS => exact Own.of_ext _
 case hSt => exact fun a b => Own.trans a b
 case hJ => exact fun _ _ _ _ h => h
 case hdrew => exact Own.drew _ _
 case hj0 => trivial
 intro y w9 hS _ hF
 obtain ⟨A9, c9, n9, e2, hn9, hI9⟩ := hF.1
 clear hF
 simp only [fillL, cond_true, cond_false, Nat.reduceAdd, e2]
 clear e2
 have HBB : Hid (Below w.heap.size w w9) := Lib.hid (HB1.out.trans (hS.below.mono HB1.out.size))
 have HI9 := Lib.hid (hI9.mono HB1.out.size)
 clear hI9 hS
 subst hn9
 go_wp2_with fail
 go_ret
 exact ⟨A9, c9, rfl, HI9.out, HBB.out⟩
end Go.Proofs.YtjnhiiaejeaikaaGreatDoor
