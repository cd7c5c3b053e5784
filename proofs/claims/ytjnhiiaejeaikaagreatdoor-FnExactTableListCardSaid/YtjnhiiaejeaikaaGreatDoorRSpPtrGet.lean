/- PtrGet of the reference: the pointer that a text is the text of. Condition: the text is at most a million bytes. -/
import Derived.Test.YtjnhiiaejeaikaaGreatDoorRPtrGet2
import Derived.Test.YtjnhiiaejeaikaaGreatDoorRTypes
set_option linter.unnecessarySimpa false
set_option linter.unusedSimpArgs false
set_option linter.unusedVariables false
namespace Go.Proofs.YtjnhiiaejeaikaaGreatDoor
open Go Go.Lib Go.RowKit
theorem info_ints : (Tryz.prog.info? 3).map (fun i => (i.zero, i.size, i.bytes)) = some (some (.int .i64 0), 1, 8) := by kernel_rfl
def numV (n : Nat) : Value := .int .i64 (n : Int)
theorem arr5 {cur : Array Value} (h : cur.size = 5) : ∃ v0 v1 v2 v3 v4, cur = #[v0, v1, v2, v3, v4] := by
 obtain ⟨l⟩ := cur
 match l, h with
 | [v0, v1, v2, v3, v4], _ => exact ⟨v0, v1, v2, v3, v4, rfl⟩
def IntsIn (B : Nat) (w : World) (A : Option Addr) (c : Nat) (ns : List Nat) : Prop := ∃ S, OwnA w 3 1 S A ns.length c (ns.map numV) ∧ ∀ g ∈ S, B ≤ g
theorem IntsIn.below {B : Nat} {w w' : World} {A : Option Addr} {c : Nat} {ns : List Nat} (h : IntsIn B w A c ns) (hb : Below w.heap.size w w') : IntsIn B w' A c ns := by
 obtain ⟨S, h1, h2⟩ := h
 exact ⟨S, h1.below hb, h2⟩
theorem IntsIn.cell {B : Nat} {w : World} {A : Option Addr} {c : Nat} {ns : List Nat} (h : IntsIn B w A c ns) {j n : Nat} (hn : ns[j]? = some n) : ∃ g, A = some ⟨g, 0, none⟩ ∧ g < w.heap.size ∧ w.cell? ⟨g, j, none⟩ = some (.int .i64 (n : Int)) := by
 have hj : j < ns.length := (List.getElem?_eq_some_iff.1 hn).1
 obtain ⟨S, ⟨h1, _⟩, hS⟩ := h
 rcases h1 with ⟨_, h0, _⟩ | ⟨g, cur, rfl, rfl, _, _, _, hg, _, h5⟩
 · omega
 refine ⟨g, rfl, (Array.getElem?_eq_some_iff.1 hg).1, ?_⟩
 rw [cell_of_row _ _ j _ _ (0, 0) hg, h5 j (by omega), List.getElem?_map, hn]
 rfl
theorem app_ints {B : Nat} {S S' : List Nat} {w1 w2 : World} {A' : Option Addr} {c' n : Nat} {ns ms : List Nat} (hS : ∀ g ∈ S, B ≤ g) (hB : B ≤ w1.heap.size) (hn : n = (ns ++ ms).length)
 (hO : OwnA w2 3 1 S' A' n c' ((ns.map numV) ++ (ms.map numV))) (hS' : ∀ g ∈ S', g ∈ S ∨ w1.heap.size ≤ g) (hC : Chg (· ∈ S) w1 w2) :
 IntsIn B w2 A' c' (ns ++ ms) ∧ Below B w1 w2 := by
 subst hn
 refine ⟨⟨S', by simpa using hO, fun g hg => (hS' g hg).elim (hS g) (fun h => Nat.le_trans hB h)⟩, hC.below (fun g _ hg => hS g hg) hB⟩
def shapeP (B T : Nat) : MStP (OwnQ B B T 5) Ext := ⟨fun v w => v = .pointer (some ⟨B, 0, none⟩) ∧ Shape B T 5 w, true, fun _ _ _ he ⟨e, h⟩ => ⟨e, h.ext he⟩, fun _ _ _ _ hs ⟨e, h⟩ => ⟨e, hs.2 h⟩⟩
def heldP (B T : Nat) (cur : Array Value) : MStP (OwnQ B B T 5) Ext := ⟨fun _ w => w.heap[B]? = some (.cells cur T (0, 0)), false, fun _ _ _ he h => (Below.block he B (Array.getElem?_eq_some_iff.1 h).1).trans h, fun h => by cases h⟩
set_option maxRecDepth 100000 in
set_option maxHeartbeats 4000000 in
theorem spPtrGet_any (s : Str) (w : World) (hs : s.length ≤ 1000000) : Calls Tryz.prog 77 #[.string (strB s)] w (GotPtr s w) := by
 by_cases h45 : s = [45]
 · subst h45
   have hz : ((strB [45]).toList == [45]) = true := by rw [strB_list]; rfl
   go_enter Tryz.func77, Tryz.ntmps77
   go_wp2_with fail
   exact bodyPost_ret (v := .tuple #[.agg #[.int .i64 0, .int .i64 0, .int .i64 0, .int .i64 0, .int .i64 0], .bool true]) (by simp [results, Tryz.results77, go_sem]) rfl ⟨_, _, _, _, _, _, rfl, ptr_hole_text, bel1⟩
 have hz : ((strB s).toList == [45]) = false := by rw [strB_list]; simpa using h45
 have H45 := Lib.hid h45
 clear h45
 obtain ⟨i0, hi0, hz0, hz1, hz2⟩ := info_parts info_ints
 go_enter Tryz.func77, Tryz.ntmps77
 go_wp2_with fail
 refine (l2Cut_any s _ hs).mono ?_
 rintro e w2 ⟨A, c, rfl, hI2, hb2⟩
 have hr2 := Lib.hid ((hb2.block _ (by simp)).trans (heap_alloc_new w (.cells #[.int .i64 0, .int .i64 0, .int .i64 0, .int .i64 0, .int .i64 0] 41)))
 have HB2 := Lib.hid (bel1.trans (hb2.mono (by simp)))
 have hs2 : w.heap.size + 1 ≤ w2.heap.size := by have := hb2.size; simpa using this
 clear hb2
 obtain ⟨xs, hxs⟩ : ∃ xs, xs = splitD s := ⟨_, rfl⟩
 rw [← hxs] at hI2
 rw [← hxs]
 have HXS := Lib.hid hxs
 have HI2 := Lib.hid hI2
 clear hxs hI2
 by_cases hn : xs.length = 5
 · obtain ⟨x1, x2, x3, x4, x5, rfl⟩ := strs5 hn
   have HP0 : Hid (∀ (k : Nat) (x : Str), [x1, x2, x3, x4, x5][k]? = some x → x.length ≤ s.length) := Lib.hid (fun k x hx => piece_le s x (by rw [← HXS.out]; exact List.mem_of_getElem? hx))
   rw [hn]
   clear hn
   go_wp2_with fail
   go_loopw [5, 6] (fun t i wr => ∃ (ns : List Nat) (A' : Option Addr) (n' c' : Nat), t = .slice A' n' c' ∧ i = .int .i64 (n' : Int) ∧ n' ≤ 5 ∧ Hid (n' = ns.length) ∧ Hid (∀ (k n : Nat), ns[k]? = some n → ∃ x, [x1, x2, x3, x4, x5][k]? = some x ∧ numGet x = some n) ∧ Hid (IntsIn w2.heap.size wr A' c' ns) ∧ Hid (Below w2.heap.size w2 wr)) (fun _ i _ => 5 - (RowKit.intOf i).toNat)
   case atStart => exact ⟨[], _, 0, 0, rfl, rfl, by omega, Lib.hid rfl, Lib.hid (by simp), Lib.hid ⟨[], OwnA.nil _, by simp⟩, Lib.hid bel1⟩
   obtain ⟨ns, A', n', c', rfl, rfl, hn5, HN, HV, HI, HC⟩ := hrel
   have hsr : w2.heap.size ≤ wr.heap.size := HC.out.size
   have HBr : Hid (Below w.heap.size w wr) := Lib.hid (HB2.out.trans (HC.out.mono HB2.out.size))
   have hrr := Lib.hid ((HC.out.block _ (by omega)).trans hr2.out)
   by_cases hlt : n' < 5
   · have hd : (n' : Int) < 5 := by omega
     obtain ⟨x, hx⟩ : ∃ x, [x1, x2, x3, x4, x5][n']? = some x := ⟨_, List.getElem?_eq_getElem hlt⟩
     obtain ⟨g, rfl, hgW, hgl, hcx⟩ := HI2.out.cellB hx
     have hcx : wr.cell? ⟨g, n', none⟩ = some (.string (strB x)) := (HC.out.cell hgl).trans hcx
     have hxl := HP0.out n' x hx
     have HXJ := Lib.hid hx
     clear hx
     go_wp2_with fail
     refine (spNumGet_any x wr (by omega)).mono ?_
     rintro e w3 ⟨rfl, hb3⟩
     have hr3 := (hb3.block _ (by omega)).trans hrr.out
     have HB3 := Lib.hid (HBr.out.trans (hb3.mono HBr.out.size))
     have HC3 := Lib.hid (HC.out.trans (hb3.mono hsr))
     have HI3 := Lib.hid (HI.out.below hb3)
     clear hb3 hcx HC HBr HI
     cases hg : numGet x with
     | none =>
       have HNO := Lib.hid (ptr_bad (j := n') H45.out (by rw [← HXS.out]; exact HXJ.out) hg)
       clear hg
       have HR3 := Lib.hid hr3
       simp only [Option.isSome_none, Option.getD_none]
       have fr0 := block_free hr3 0
       have fr1 := block_free hr3 1
       have fr2 := block_free hr3 2
       have fr3 := block_free hr3 3
       have fr4 := block_free hr3 4
       have cr0 := celR 0 hr3
       have cr1 := celR 1 hr3
       have cr2 := celR 2 hr3
       have cr3 := celR 3 hr3
       have cr4 := celR 4 hr3
       clear hr3
       go_wp2_with fail
       have hst := five_set (x0 := (.int .i64 0)) (x1 := (.int .i64 0)) (x2 := (.int .i64 0)) (x3 := (.int .i64 0)) (x4 := (.int .i64 0)) HR3.out
       have r0 := celR 0 hst
       have r1 := celR 1 hst
       have r2 := celR 2 hst
       have r3 := celR 3 hst
       have r4 := celR 4 hst
       clear hst
       exact bodyPost_ret (v := .tuple #[.agg #[.int .i64 0, .int .i64 0, .int .i64 0, .int .i64 0, .int .i64 0], .bool false]) (by simp [results, Tryz.results77, go_sem, r0, r1, r2, r3, r4]) rfl ⟨_, _, _, _, _, _, rfl, HNO.out, by
        have := HB3.out
        exact ((((this.setCell (p := ⟨w.heap.size, 0, none⟩) (Nat.le_refl _) _).setCell (p := ⟨w.heap.size, 1, none⟩) (Nat.le_refl _) _).setCell (p := ⟨w.heap.size, 2, none⟩) (Nat.le_refl _) _).setCell (p := ⟨w.heap.size, 3, none⟩) (Nat.le_refl _) _).setCell (p := ⟨w.heap.size, 4, none⟩) (Nat.le_refl _) _⟩
     | some n =>
       have HG := Lib.hid hg
       clear hg hr3
       simp only [Option.isSome_some, Option.getD_some]
       obtain ⟨S, hOS, hSB⟩ := HI3.out
       rw [← HN.out] at hOS
       have HOA := Lib.hid (hOS.below (bel1 (o := .cells #[.int .i64 (n : Int)] 3)))
       have HLIT := Lib.hid (fun (W : World) => RowAt.lit (w := W) (e := 3) (cur := #[.int .i64 (n : Int)]) (m := 1) rfl)
       have HONE : Hid (∀ u ∈ [n].map numV, u.oneCell' = true) := Lib.hid (by intro u hu; simp at hu; subst hu; rfl)
       have HSB := Lib.hid hSB
       clear hOS hSB HI3
       obtain ⟨vs, hvs⟩ : ∃ vs, vs = ns.map numV := ⟨_, rfl⟩
       rw [← hvs] at HOA
       have HVS := Lib.hid hvs
       clear hvs
       go_wp2_with (at_builtin; go_must (refine wpList_append_row rfl _ _ 23 rfl 3 i0 (.int .i64 0) 1 8 Tryz.underlying23 hi0 hz0 hz1 hz2 rfl (by decide) S A' _ n' c' 1 _ vs ([n].map numV) rfl rfl HOA.out (HLIT.out _) HONE.out (by unfold maxLen; omega) (by omega) ?_))
       intro A'' c'' S' w5 hO' hS' hC'
       rw [HVS.out] at hO'
       obtain ⟨hI5, hb5⟩ := app_ints (B := w2.heap.size) HSB.out (w1 := w3.alloc (.cells #[.int .i64 (n : Int)] 3)) (ns := ns) (ms := [n]) (by have := HC3.out.size; simp; omega) (by rw [List.length_append, List.length_singleton, HN.out]) hO' (fun g hg => (hS' g hg).imp id (fun h => by simpa using h)) hC'
       have HC5 := Lib.hid (HC3.out.trans (((Below.refl _ _).alloc HC3.out.size _).trans hb5))
       have HI5 := Lib.hid hI5
       have HN5 : Hid (n' + 1 = (ns ++ [n]).length) := Lib.hid (by rw [List.length_append, List.length_singleton, HN.out])
       have HV5 : Hid (∀ (k m : Nat), (ns ++ [n])[k]? = some m → ∃ x, [x1, x2, x3, x4, x5][k]? = some x ∧ numGet x = some m) := Lib.hid (fun k m hm => by
        rcases Nat.lt_or_ge k ns.length with h | h
        · rw [List.getElem?_append_left h] at hm; exact HV.out k m hm
        · rw [List.getElem?_append_right h] at hm
          obtain ⟨hk, e⟩ := List.getElem?_eq_some_iff.1 hm
          simp at hk
          have hk2 : k = n' := by have := HN.out; omega
          subst hk2
          have e2 : n = m := by rw [← e]; simp
          subst e2
          exact ⟨x, HXJ.out, HG.out⟩)
       clear hb5 hO' hS' hC' HOA HLIT HONE HSB hI5 HV HN
       go_wp2_with fail
       go_roundw
       case rel => exact ⟨ns ++ [n], A'', n' + 1, c'', by simp, by simp, by omega, HN5, HV5, HI5, HC5⟩
       simp [RowKit.intOf]; omega
   have hd : ¬ (n' : Int) < 5 := by omega
   obtain rfl : n' = 5 := by omega
   have hns : ∃ a b cc d l, ns = [a, b, cc, d, l] := by
    match ns, HN.out with
    | [a, b, cc, d, l], _ => exact ⟨a, b, cc, d, l, rfl⟩
   obtain ⟨a, b, cc, d, l, rfl⟩ := hns
   have H5 : Hid (Five s a b cc d l) := Lib.hid (by
    obtain ⟨y1, e1, n1⟩ := HV.out 0 a rfl
    obtain ⟨y2, e2, n2⟩ := HV.out 1 b rfl
    obtain ⟨y3, e3, n3⟩ := HV.out 2 cc rfl
    obtain ⟨y4, e4, n4⟩ := HV.out 3 d rfl
    obtain ⟨y5, e5, n5⟩ := HV.out 4 l rfl
    obtain rfl := Option.some.inj e1
    obtain rfl := Option.some.inj e2
    obtain rfl := Option.some.inj e3
    obtain rfl := Option.some.inj e4
    obtain rfl := Option.some.inj e5
    exact ⟨_, _, _, _, _, HXS.out.symm, n1, n2, n3, n4, n5⟩)
   obtain ⟨g, rfl, hgl, c0⟩ := HI.out.cell (j := 0) rfl
   obtain ⟨g1, e1, _, c1⟩ := HI.out.cell (j := 1) rfl
   obtain ⟨g2, e2, _, c2⟩ := HI.out.cell (j := 2) rfl
   obtain ⟨g3, e3, _, c3⟩ := HI.out.cell (j := 3) rfl
   obtain ⟨g4, e4, _, c4⟩ := HI.out.cell (j := 4) rfl
   injection e1 with e1; injection e1 with e1; subst e1
   injection e2 with e2; injection e2 with e2; subst e2
   injection e3 with e3; injection e3 with e3; subst e3
   injection e4 with e4; injection e4 with e4; subst e4
   clear HV HN HI HC
   go_wp2_with fail
   apply wp_region_rgm (OwnQ (wr.heap.size) (wr.heap.size) 41 5) (Ext) (fun w' k => 1 ≤ k ∨ w'.heap.size = wr.heap.size) (0 :: 0 :: 0 :: 0 :: 0 :: 0 :: 0 :: 0 :: 0 :: 0 :: 0 :: 0 :: 0 :: 0 :: 0 :: 0 :: 1 :: 0 :: []) (by kernel_rfl) (false :: false :: false :: false :: false :: false :: false :: false :: false :: true :: false :: false :: false :: false :: false :: false :: false :: false :: false :: false :: false :: false :: false :: false :: false :: false :: false :: false :: false :: false :: false :: false :: false :: false :: false :: false :: false :: false :: false :: true :: true :: true :: true :: true :: true :: true :: true :: true :: true :: true :: true :: true :: true :: true :: true :: false :: false :: false :: false :: false :: false :: false :: false :: false :: []) (some 39 :: some 40 :: some 41 :: some 42 :: some 43 :: some 44 :: some 45 :: some 46 :: some 47 :: some 48 :: some 49 :: some 50 :: some 51 :: some 52 :: some 53 :: some 54 :: some 9 :: none :: []) ([] :: [0] :: [1] :: [] :: [3] :: [4] :: [] :: [6] :: [7] :: [] :: [9] :: [10] :: [] :: [12] :: [13] :: [2, 5, 8, 11, 14] :: [] :: [15, 16] :: []) (false :: false :: false :: false :: false :: false :: false :: false :: false :: false :: false :: false :: false :: false :: false :: false :: false :: true :: []) (true :: true :: true :: true :: true :: true :: true :: true :: true :: true :: true :: true :: true :: true :: true :: true :: true :: false :: []) [16, 17] (MStP.is _ :: MStP.is _ :: MStP.is _ :: MStP.is _ :: MStP.is _ :: MStP.is _ :: MStP.is _ :: MStP.is _ :: MStP.is _ :: MStP.is _ :: MStP.is _ :: MStP.is _ :: MStP.is _ :: MStP.is _ :: MStP.is _ :: MStP.is _ :: shapeP (wr.heap.size) 41 :: heldP (wr.heap.size) 41 #[.int .i64 (a : Int), .int .i64 (b : Int), .int .i64 (cc : Int), .int .i64 (d : Int), .int .i64 (l : Int)] :: []) (by kernel_rfl) (by kernel_rfl) (by kernel_rfl)
   case hobs =>
    refine ⟨fun y w' k hS hj hk hF K hK => ?_, ?_⟩
    · skip
      simp only [fillL, cond_true, cond_false, zG0, zG1, StP.is, Act.put, zS2, zS0, zS1, Nat.reduceAdd, MStP.is, Option.isSome_some, Option.isSome_none] at hK ⊢
      simp only [List.sum_cons, List.sum_nil, zG0, zG1, Nat.reduceAdd, Nat.add_zero] at hk
      refine rg_yes (by kernel_rfl) ?_
      clear hF
      go_simp
      exact hK _ _ (Ext.refl _) (by simpa using hj) rfl
    refine ⟨fun y w' k hS hj hk hF K hK => ?_, ?_⟩
    · skip
      have e39 : y 39 = _ := hF.1
      simp only [fillL, cond_true, cond_false, zG0, zG1, StP.is, Act.put, zS2, zS0, zS1, Nat.reduceAdd, e39, MStP.is, Option.isSome_some, Option.isSome_none] at hK ⊢
      simp only [List.sum_cons, List.sum_nil, zG0, zG1, Nat.reduceAdd, Nat.add_zero] at hk
      refine rg_yes (by kernel_rfl) ?_
      clear e39
      clear hF
      go_simp
      exact hK _ _ (Ext.refl _) (by simpa using hj) rfl
    refine ⟨fun y w' k hS hj hk hF K hK => ?_, ?_⟩
    · skip
      have e40 : y 40 = _ := hF.1
      simp only [fillL, cond_true, cond_false, zG0, zG1, StP.is, Act.put, zS2, zS0, zS1, Nat.reduceAdd, e40, MStP.is, Option.isSome_some, Option.isSome_none] at hK ⊢
      simp only [List.sum_cons, List.sum_nil, zG0, zG1, Nat.reduceAdd, Nat.add_zero] at hk
      refine rg_yes (by kernel_rfl) ?_
      have hSb := hS.1.below
      have q0_ := (hSb.cell hgl).trans c0
      have q1_ := (hSb.cell hgl).trans c1
      have q2_ := (hSb.cell hgl).trans c2
      have q3_ := (hSb.cell hgl).trans c3
      have q4_ := (hSb.cell hgl).trans c4
      clear e40
      clear hF
      go_simp
      exact hK _ _ (Ext.refl _) (by simpa using hj) rfl
    refine ⟨fun y w' k hS hj hk hF K hK => ?_, ?_⟩
    · skip
      simp only [fillL, cond_true, cond_false, zG0, zG1, StP.is, Act.put, zS2, zS0, zS1, Nat.reduceAdd, MStP.is, Option.isSome_some, Option.isSome_none] at hK ⊢
      simp only [List.sum_cons, List.sum_nil, zG0, zG1, Nat.reduceAdd, Nat.add_zero] at hk
      refine rg_yes (by kernel_rfl) ?_
      clear hF
      go_simp
      exact hK _ _ (Ext.refl _) (by simpa using hj) rfl
    refine ⟨fun y w' k hS hj hk hF K hK => ?_, ?_⟩
    · skip
      have e42 : y 42 = _ := hF.1
      simp only [fillL, cond_true, cond_false, zG0, zG1, StP.is, Act.put, zS2, zS0, zS1, Nat.reduceAdd, e42, MStP.is, Option.isSome_some, Option.isSome_none] at hK ⊢
      simp only [List.sum_cons, List.sum_nil, zG0, zG1, Nat.reduceAdd, Nat.add_zero] at hk
      refine rg_yes (by kernel_rfl) ?_
      clear e42
      clear hF
      go_simp
      exact hK _ _ (Ext.refl _) (by simpa using hj) rfl
    refine ⟨fun y w' k hS hj hk hF K hK => ?_, ?_⟩
    · skip
      have e43 : y 43 = _ := hF.1
      simp only [fillL, cond_true, cond_false, zG0, zG1, StP.is, Act.put, zS2, zS0, zS1, Nat.reduceAdd, e43, MStP.is, Option.isSome_some, Option.isSome_none] at hK ⊢
      simp only [List.sum_cons, List.sum_nil, zG0, zG1, Nat.reduceAdd, Nat.add_zero] at hk
      refine rg_yes (by kernel_rfl) ?_
      have hSb := hS.1.below
      have q0_ := (hSb.cell hgl).trans c0
      have q1_ := (hSb.cell hgl).trans c1
      have q2_ := (hSb.cell hgl).trans c2
      have q3_ := (hSb.cell hgl).trans c3
      have q4_ := (hSb.cell hgl).trans c4
      clear e43
      clear hF
      go_simp
      exact hK _ _ (Ext.refl _) (by simpa using hj) rfl
    refine ⟨fun y w' k hS hj hk hF K hK => ?_, ?_⟩
    · skip
      simp only [fillL, cond_true, cond_false, zG0, zG1, StP.is, Act.put, zS2, zS0, zS1, Nat.reduceAdd, MStP.is, Option.isSome_some, Option.isSome_none] at hK ⊢
      simp only [List.sum_cons, List.sum_nil, zG0, zG1, Nat.reduceAdd, Nat.add_zero] at hk
      refine rg_yes (by kernel_rfl) ?_
      clear hF
      go_simp
      exact hK _ _ (Ext.refl _) (by simpa using hj) rfl
    refine ⟨fun y w' k hS hj hk hF K hK => ?_, ?_⟩
    · skip
      have e45 : y 45 = _ := hF.1
      simp only [fillL, cond_true, cond_false, zG0, zG1, StP.is, Act.put, zS2, zS0, zS1, Nat.reduceAdd, e45, MStP.is, Option.isSome_some, Option.isSome_none] at hK ⊢
      simp only [List.sum_cons, List.sum_nil, zG0, zG1, Nat.reduceAdd, Nat.add_zero] at hk
      refine rg_yes (by kernel_rfl) ?_
      clear e45
      clear hF
      go_simp
      exact hK _ _ (Ext.refl _) (by simpa using hj) rfl
    refine ⟨fun y w' k hS hj hk hF K hK => ?_, ?_⟩
    · skip
      have e46 : y 46 = _ := hF.1
      simp only [fillL, cond_true, cond_false, zG0, zG1, StP.is, Act.put, zS2, zS0, zS1, Nat.reduceAdd, e46, MStP.is, Option.isSome_some, Option.isSome_none] at hK ⊢
      simp only [List.sum_cons, List.sum_nil, zG0, zG1, Nat.reduceAdd, Nat.add_zero] at hk
      refine rg_yes (by kernel_rfl) ?_
      have hSb := hS.1.below
      have q0_ := (hSb.cell hgl).trans c0
      have q1_ := (hSb.cell hgl).trans c1
      have q2_ := (hSb.cell hgl).trans c2
      have q3_ := (hSb.cell hgl).trans c3
      have q4_ := (hSb.cell hgl).trans c4
      clear e46
      clear hF
      go_simp
      exact hK _ _ (Ext.refl _) (by simpa using hj) rfl
    refine ⟨fun y w' k hS hj hk hF K hK => ?_, ?_⟩
    · skip
      simp only [fillL, cond_true, cond_false, zG0, zG1, StP.is, Act.put, zS2, zS0, zS1, Nat.reduceAdd, MStP.is, Option.isSome_some, Option.isSome_none] at hK ⊢
      simp only [List.sum_cons, List.sum_nil, zG0, zG1, Nat.reduceAdd, Nat.add_zero] at hk
      refine rg_yes (by kernel_rfl) ?_
      clear hF
      go_simp
      exact hK _ _ (Ext.refl _) (by simpa using hj) rfl
    refine ⟨fun y w' k hS hj hk hF K hK => ?_, ?_⟩
    · skip
      have e48 : y 48 = _ := hF.1
      simp only [fillL, cond_true, cond_false, zG0, zG1, StP.is, Act.put, zS2, zS0, zS1, Nat.reduceAdd, e48, MStP.is, Option.isSome_some, Option.isSome_none] at hK ⊢
      simp only [List.sum_cons, List.sum_nil, zG0, zG1, Nat.reduceAdd, Nat.add_zero] at hk
      refine rg_yes (by kernel_rfl) ?_
      clear e48
      clear hF
      go_simp
      exact hK _ _ (Ext.refl _) (by simpa using hj) rfl
    refine ⟨fun y w' k hS hj hk hF K hK => ?_, ?_⟩
    · skip
      have e49 : y 49 = _ := hF.1
      simp only [fillL, cond_true, cond_false, zG0, zG1, StP.is, Act.put, zS2, zS0, zS1, Nat.reduceAdd, e49, MStP.is, Option.isSome_some, Option.isSome_none] at hK ⊢
      simp only [List.sum_cons, List.sum_nil, zG0, zG1, Nat.reduceAdd, Nat.add_zero] at hk
      refine rg_yes (by kernel_rfl) ?_
      have hSb := hS.1.below
      have q0_ := (hSb.cell hgl).trans c0
      have q1_ := (hSb.cell hgl).trans c1
      have q2_ := (hSb.cell hgl).trans c2
      have q3_ := (hSb.cell hgl).trans c3
      have q4_ := (hSb.cell hgl).trans c4
      clear e49
      clear hF
      go_simp
      exact hK _ _ (Ext.refl _) (by simpa using hj) rfl
    refine ⟨fun y w' k hS hj hk hF K hK => ?_, ?_⟩
    · skip
      simp only [fillL, cond_true, cond_false, zG0, zG1, StP.is, Act.put, zS2, zS0, zS1, Nat.reduceAdd, MStP.is, Option.isSome_some, Option.isSome_none] at hK ⊢
      simp only [List.sum_cons, List.sum_nil, zG0, zG1, Nat.reduceAdd, Nat.add_zero] at hk
      refine rg_yes (by kernel_rfl) ?_
      clear hF
      go_simp
      exact hK _ _ (Ext.refl _) (by simpa using hj) rfl
    refine ⟨fun y w' k hS hj hk hF K hK => ?_, ?_⟩
    · skip
      have e51 : y 51 = _ := hF.1
      simp only [fillL, cond_true, cond_false, zG0, zG1, StP.is, Act.put, zS2, zS0, zS1, Nat.reduceAdd, e51, MStP.is, Option.isSome_some, Option.isSome_none] at hK ⊢
      simp only [List.sum_cons, List.sum_nil, zG0, zG1, Nat.reduceAdd, Nat.add_zero] at hk
      refine rg_yes (by kernel_rfl) ?_
      clear e51
      clear hF
      go_simp
      exact hK _ _ (Ext.refl _) (by simpa using hj) rfl
    refine ⟨fun y w' k hS hj hk hF K hK => ?_, ?_⟩
    · skip
      have e52 : y 52 = _ := hF.1
      simp only [fillL, cond_true, cond_false, zG0, zG1, StP.is, Act.put, zS2, zS0, zS1, Nat.reduceAdd, e52, MStP.is, Option.isSome_some, Option.isSome_none] at hK ⊢
      simp only [List.sum_cons, List.sum_nil, zG0, zG1, Nat.reduceAdd, Nat.add_zero] at hk
      refine rg_yes (by kernel_rfl) ?_
      have hSb := hS.1.below
      have q0_ := (hSb.cell hgl).trans c0
      have q1_ := (hSb.cell hgl).trans c1
      have q2_ := (hSb.cell hgl).trans c2
      have q3_ := (hSb.cell hgl).trans c3
      have q4_ := (hSb.cell hgl).trans c4
      clear e52
      clear hF
      go_simp
      exact hK _ _ (Ext.refl _) (by simpa using hj) rfl
    refine ⟨fun y w' k hS hj hk hF K hK => ?_, ?_⟩
    · skip
      have e41 : y 41 = _ := hF.1
      have e44 : y 44 = _ := hF.2.1
      have e47 : y 47 = _ := hF.2.2.1
      have e50 : y 50 = _ := hF.2.2.2.1
      have e53 : y 53 = _ := hF.2.2.2.2.1
      simp only [fillL, cond_true, cond_false, zG0, zG1, StP.is, Act.put, zS2, zS0, zS1, Nat.reduceAdd, e41, e44, e47, e50, e53, MStP.is, Option.isSome_some, Option.isSome_none] at hK ⊢
      simp only [List.sum_cons, List.sum_nil, zG0, zG1, Nat.reduceAdd, Nat.add_zero] at hk
      refine rg_yes (by kernel_rfl) ?_
      clear e41 e44 e47 e50 e53
      clear hF
      go_simp
      exact hK _ _ (Ext.refl _) (by simpa using hj) rfl
    refine ⟨fun y w' k hS hj hk hF K hK => ?_, ?_⟩
    · skip
      simp only [fillL, cond_true, cond_false, zG0, zG1, StP.is, Act.put, zS2, zS0, zS1, Nat.reduceAdd, MStP.is, Option.isSome_some, Option.isSome_none] at hK ⊢
      simp only [List.sum_cons, List.sum_nil, zG0, zG1, Nat.reduceAdd, Nat.add_zero] at hk
      refine rg_yes (by kernel_rfl) ?_
      have hSb := hS.1.below
      have q0_ := (hSb.cell hgl).trans c0
      have q1_ := (hSb.cell hgl).trans c1
      have q2_ := (hSb.cell hgl).trans c2
      have q3_ := (hSb.cell hgl).trans c3
      have q4_ := (hSb.cell hgl).trans c4
      clear hF
      have hsz : w'.heap.size = wr.heap.size := by rcases hj with h | h; (have hk := hk; simp at hk; omega); exact h
      clear hj
      go_simp
      exact hK _ _ (Ext.alloc _ _) (.inl (by omega)) ⟨rfl, _, (by have e := heap_alloc_new w' (.cells #[.int .i64 0, .int .i64 0, .int .i64 0, .int .i64 0, .int .i64 0] 41); rw [hsz] at e; exact e), rfl⟩
    refine ⟨fun y w' k hS hj hk hF K hK => ?_, ?_⟩
    · skip
      have e54 : y 54 = _ := hF.1
      obtain ⟨e9, cur, hcur, hsz5⟩ := hF.2.1
      simp only [fillL, cond_true, cond_false, zG0, zG1, StP.is, Act.put, zS2, zS0, zS1, Nat.reduceAdd, e54, e9, MStP.is, Option.isSome_some, Option.isSome_none] at hK ⊢
      simp only [List.sum_cons, List.sum_nil, zG0, zG1, Nat.reduceAdd, Nat.add_zero] at hk
      refine rg_yes (by kernel_rfl) ?_
      have hSb := hS.1.below
      have q0_ := (hSb.cell hgl).trans c0
      have q1_ := (hSb.cell hgl).trans c1
      have q2_ := (hSb.cell hgl).trans c2
      have q3_ := (hSb.cell hgl).trans c3
      have q4_ := (hSb.cell hgl).trans c4
      clear e54 e9
      clear hF
      obtain ⟨v0, v1, v2, v3, v4, rfl⟩ := arr5 hsz5
      have fr0 := block_free hcur 0
      have fr1 := block_free hcur 1
      have fr2 := block_free hcur 2
      have fr3 := block_free hcur 3
      have fr4 := block_free hcur 4
      have cr0 := celR 0 hcur
      have cr1 := celR 1 hcur
      have cr2 := celR 2 hcur
      have cr3 := celR 3 hcur
      have cr4 := celR 4 hcur
      have hst := five_set (x0 := .int .i64 (a : Int)) (x1 := .int .i64 (b : Int)) (x2 := .int .i64 (cc : Int)) (x3 := .int .i64 (d : Int)) (x4 := .int .i64 (l : Int)) hcur
      have HST := Lib.hid hst; clear hst hcur
      go_simp
      exact hK undef _ ⟨fun _ => (((((Below.refl _ _).setCell (p := ⟨wr.heap.size, 0, none⟩) (Nat.le_refl _) _).setCell (p := ⟨wr.heap.size, 1, none⟩) (Nat.le_refl _) _).setCell (p := ⟨wr.heap.size, 2, none⟩) (Nat.le_refl _) _).setCell (p := ⟨wr.heap.size, 3, none⟩) (Nat.le_refl _) _).setCell (p := ⟨wr.heap.size, 4, none⟩) (Nat.le_refl _) _, fun _ => ⟨_, HST.out, rfl⟩⟩ (hj.elim (fun h => .inl h) (fun h => .inr (by simpa [World.setCell] using h))) HST.out
    trivial
   case hH => rfl
   case hNS => exact OwnQ.of_ext _ _ _ _
   case hSt => exact fun a b => OwnQ.trans a b
   case hJ => exact fun _ _ _ h hj => hj.elim (fun x => .inl (Nat.le_trans x h)) .inr
   case hdrew => exact OwnQ.drew _ _ _ _ _
   case hj0 => exact .inr rfl
   intro y w4 hS _ hF
   obtain ⟨e9, _⟩ := hF.1
   have hq4 : w4.heap[wr.heap.size]? = some (.cells #[.int .i64 (a : Int), .int .i64 (b : Int), .int .i64 (cc : Int), .int .i64 (d : Int), .int .i64 (l : Int)] 41 (0, 0)) := hF.2.1
   clear hF
   simp only [fillL, cond_true, cond_false, Nat.reduceAdd, e9]
   clear e9
   have hSb := hS.1.below
   have HB4 : Below w.heap.size w w4 := HBr.out.trans (hSb.mono HBr.out.size)
   have hr4 := (hSb.block _ (by omega)).trans hrr.out
   have l4 : wr.heap.size < w4.heap.size := (Array.getElem?_eq_some_iff.1 hq4).1
   clear hS hSb c0 c1 c2 c3 c4 hrr
   have k0 := celR 0 hq4
   have k1 := celR 1 hq4
   have k2 := celR 2 hq4
   have k3 := celR 3 hq4
   have k4 := celR 4 hq4
   have hq4h := Lib.hid hq4
   have hr4h := Lib.hid hr4
   clear hq4 hr4
   go_wp2_with fail
   refine (spPtrOk_any (a : Int) b cc d l w4).mono ?_
   rintro e w5 ⟨rfl, hb5⟩
   have hq5 := Lib.hid ((hb5.block _ l4).trans hq4h.out)
   have hr5 := Lib.hid ((hb5.block _ (by omega)).trans hr4h.out)
   have HB5 := Lib.hid (HB4.trans (hb5.mono HB4.size))
   have l5 : wr.heap.size < w5.heap.size := Nat.lt_of_lt_of_le l4 hb5.size
   clear hb5 k0 k1 k2 k3 k4 hq4h hr4h HB4 l4
   obtain ⟨ok, hok⟩ : ∃ ok, ok = ptrOkB (a : Int) b cc d l := ⟨_, rfl⟩
   have HOK := Lib.hid hok.symm
   rw [← hok]
   clear hok
   cases ok
   case false =>
    have HNO := Lib.hid (H5.out.no_ok H45.out (fun h => by rw [HOK.out] at h; cases h.1))
    have hr5' := hr5.out
    have fr0 := block_free hr5' 0
    have fr1 := block_free hr5' 1
    have fr2 := block_free hr5' 2
    have fr3 := block_free hr5' 3
    have fr4 := block_free hr5' 4
    have cr0 := celR 0 hr5'
    have cr1 := celR 1 hr5'
    have cr2 := celR 2 hr5'
    have cr3 := celR 3 hr5'
    have cr4 := celR 4 hr5'
    clear hr5'
    go_wp2_with fail
    have hst := five_set (x0 := (.int .i64 0)) (x1 := (.int .i64 0)) (x2 := (.int .i64 0)) (x3 := (.int .i64 0)) (x4 := (.int .i64 0)) hr5.out
    have r0 := celR 0 hst
    have r1 := celR 1 hst
    have r2 := celR 2 hst
    have r3 := celR 3 hst
    have r4 := celR 4 hst
    clear hst
    exact bodyPost_ret (v := .tuple #[.agg #[.int .i64 0, .int .i64 0, .int .i64 0, .int .i64 0, .int .i64 0], .bool false]) (by simp [results, Tryz.results77, go_sem, r0, r1, r2, r3, r4]) rfl ⟨_, _, _, _, _, _, rfl, HNO.out, by
     have := HB5.out
     exact ((((this.setCell (p := ⟨w.heap.size, 0, none⟩) (Nat.le_refl _) _).setCell (p := ⟨w.heap.size, 1, none⟩) (Nat.le_refl _) _).setCell (p := ⟨w.heap.size, 2, none⟩) (Nat.le_refl _) _).setCell (p := ⟨w.heap.size, 3, none⟩) (Nat.le_refl _) _).setCell (p := ⟨w.heap.size, 4, none⟩) (Nat.le_refl _) _⟩
   have hq5' := hq5.out
   have k0 := celR 0 hq5'
   have k1 := celR 1 hq5'
   have k2 := celR 2 hq5'
   have k3 := celR 3 hq5'
   have k4 := celR 4 hq5'
   clear hq5'
   go_wp2_with fail
   refine (spPtrHole_any (a : Int) b cc d l w5).mono ?_
   rintro e w6 ⟨rfl, hb6⟩
   have hq6 := (hb6.block _ l5).trans hq5.out
   have hr6 := (hb6.block _ (by omega)).trans hr5.out
   have HB6 := Lib.hid (HB5.out.trans (hb6.mono HB5.out.size))
   clear hb6 k0 k1 k2 k3 k4 hq5 hr5 l5
   have HR6 := Lib.hid hr6
   obtain ⟨ho, hho⟩ : ∃ x, x = ptrHole (a : Int) b cc d l := ⟨_, rfl⟩
   have HHO := Lib.hid hho.symm
   rw [← hho]
   clear hho
   cases ho
   case true =>
    have HNO := Lib.hid (H5.out.no_ok H45.out (fun h => by rw [HHO.out] at h; cases h.2))
    clear hq6
    have fr0 := block_free hr6 0
    have fr1 := block_free hr6 1
    have fr2 := block_free hr6 2
    have fr3 := block_free hr6 3
    have fr4 := block_free hr6 4
    have cr0 := celR 0 hr6
    have cr1 := celR 1 hr6
    have cr2 := celR 2 hr6
    have cr3 := celR 3 hr6
    have cr4 := celR 4 hr6
    clear hr6
    go_wp2_with fail
    have hst := five_set (x0 := (.int .i64 0)) (x1 := (.int .i64 0)) (x2 := (.int .i64 0)) (x3 := (.int .i64 0)) (x4 := (.int .i64 0)) HR6.out
    have r0 := celR 0 hst
    have r1 := celR 1 hst
    have r2 := celR 2 hst
    have r3 := celR 3 hst
    have r4 := celR 4 hst
    clear hst
    exact bodyPost_ret (v := .tuple #[.agg #[.int .i64 0, .int .i64 0, .int .i64 0, .int .i64 0, .int .i64 0], .bool false]) (by simp [results, Tryz.results77, go_sem, r0, r1, r2, r3, r4]) rfl ⟨_, _, _, _, _, _, rfl, HNO.out, by
     have := HB6.out
     exact ((((this.setCell (p := ⟨w.heap.size, 0, none⟩) (Nat.le_refl _) _).setCell (p := ⟨w.heap.size, 1, none⟩) (Nat.le_refl _) _).setCell (p := ⟨w.heap.size, 2, none⟩) (Nat.le_refl _) _).setCell (p := ⟨w.heap.size, 3, none⟩) (Nat.le_refl _) _).setCell (p := ⟨w.heap.size, 4, none⟩) (Nat.le_refl _) _⟩
   have HY := Lib.hid (H5.out.yes_ok HOK.out HHO.out)
   have k0 := celR 0 hq6
   have k1 := celR 1 hq6
   have k2 := celR 2 hq6
   have k3 := celR 3 hq6
   have k4 := celR 4 hq6
   clear hq6
   have fr0 := block_free hr6 0
   have fr1 := block_free hr6 1
   have fr2 := block_free hr6 2
   have fr3 := block_free hr6 3
   have fr4 := block_free hr6 4
   have cr0 := celR 0 hr6
   have cr1 := celR 1 hr6
   have cr2 := celR 2 hr6
   have cr3 := celR 3 hr6
   have cr4 := celR 4 hr6
   clear hr6
   go_wp2_with fail
   have hst := five_set (x0 := (.int .i64 (a : Int))) (x1 := (.int .i64 (b : Int))) (x2 := (.int .i64 (cc : Int))) (x3 := (.int .i64 (d : Int))) (x4 := (.int .i64 (l : Int))) HR6.out
   have r0 := celR 0 hst
   have r1 := celR 1 hst
   have r2 := celR 2 hst
   have r3 := celR 3 hst
   have r4 := celR 4 hst
   clear hst
   exact bodyPost_ret (v := .tuple #[.agg #[.int .i64 (a : Int), .int .i64 (b : Int), .int .i64 (cc : Int), .int .i64 (d : Int), .int .i64 (l : Int)], .bool true]) (by simp [results, Tryz.results77, go_sem, r0, r1, r2, r3, r4]) rfl ⟨_, _, _, _, _, _, rfl, HY.out, by
    have := HB6.out
    exact ((((this.setCell (p := ⟨w.heap.size, 0, none⟩) (Nat.le_refl _) _).setCell (p := ⟨w.heap.size, 1, none⟩) (Nat.le_refl _) _).setCell (p := ⟨w.heap.size, 2, none⟩) (Nat.le_refl _) _).setCell (p := ⟨w.heap.size, 3, none⟩) (Nat.le_refl _) _).setCell (p := ⟨w.heap.size, 4, none⟩) (Nat.le_refl _) _⟩
 have hnb : ((xs.length : Int) == 5) = false := by simp; omega
 have hnc : ¬ (xs.length : Int) = 5 := by omega
 have HNO := Lib.hid (ptr_len H45.out (by rw [← HXS.out]; exact hn))
 clear hn
 have hr2' := hr2.out
 have fr0 := block_free hr2' 0
 have fr1 := block_free hr2' 1
 have fr2 := block_free hr2' 2
 have fr3 := block_free hr2' 3
 have fr4 := block_free hr2' 4
 have cr0 := celR 0 hr2'
 have cr1 := celR 1 hr2'
 have cr2 := celR 2 hr2'
 have cr3 := celR 3 hr2'
 have cr4 := celR 4 hr2'
 clear hr2'
 go_wp2_with fail
 have hst := five_set (x0 := (.int .i64 0)) (x1 := (.int .i64 0)) (x2 := (.int .i64 0)) (x3 := (.int .i64 0)) (x4 := (.int .i64 0)) hr2.out
 have r0 := celR 0 hst
 have r1 := celR 1 hst
 have r2 := celR 2 hst
 have r3 := celR 3 hst
 have r4 := celR 4 hst
 clear hst
 exact bodyPost_ret (v := .tuple #[.agg #[.int .i64 0, .int .i64 0, .int .i64 0, .int .i64 0, .int .i64 0], .bool false]) (by simp [results, Tryz.results77, go_sem, r0, r1, r2, r3, r4]) rfl ⟨_, _, _, _, _, _, rfl, HNO.out, by
  have := HB2.out
  exact ((((this.setCell (p := ⟨w.heap.size, 0, none⟩) (Nat.le_refl _) _).setCell (p := ⟨w.heap.size, 1, none⟩) (Nat.le_refl _) _).setCell (p := ⟨w.heap.size, 2, none⟩) (Nat.le_refl _) _).setCell (p := ⟨w.heap.size, 3, none⟩) (Nat.le_refl _) _).setCell (p := ⟨w.heap.size, 4, none⟩) (Nat.le_refl _) _⟩
end Go.Proofs.YtjnhiiaejeaikaaGreatDoor
