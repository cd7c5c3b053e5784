/- The places of a tree: leaves of the program. Condition: the library's variables lie as the row says; the store has 64 rows of at most 128 bytes. -/
import Derived.Test.YtjnhiiaejeaikaaGreatDoorRBelow
import Derived.Test.YtjnhiiaejeaikaaGreatDoorRNodeOk
set_option linter.unnecessarySimpa false
set_option linter.unusedSimpArgs false
set_option linter.unusedVariables false
namespace Go.Proofs.YtjnhiiaejeaikaaGreatDoor
open Go Go.Lib Go.RowKit
abbrev rl0Leaves : List Bool := (false :: false :: false :: false :: false :: false :: false :: false :: false :: false :: false :: false :: false :: false :: false :: false :: false :: true :: true :: true :: true :: true :: true :: true :: true :: true :: true :: true :: true :: true :: true :: true :: true :: true :: true :: true :: true :: true :: true :: true :: true :: true :: true :: true :: true :: false :: false :: false :: false :: false :: false :: false :: false :: false :: false :: false :: false :: false :: false :: false :: false :: false :: false :: false :: false :: false :: false :: false :: false :: false :: false :: false :: false :: false :: false :: false :: false :: false :: false :: false :: false :: false :: false :: false :: false :: false :: false :: false :: false :: false :: false :: false :: false :: false :: false :: false :: false :: false :: false :: false :: false :: false :: false :: false :: false :: false :: false :: false :: false :: false :: false :: false :: [])
abbrev rl1Leaves : List (Option Nat) := (some 17 :: some 18 :: some 19 :: some 20 :: some 21 :: some 22 :: some 23 :: some 24 :: some 25 :: some 26 :: some 27 :: some 28 :: some 29 :: some 30 :: some 31 :: some 32 :: some 33 :: some 34 :: some 35 :: some 36 :: some 37 :: some 38 :: some 39 :: some 40 :: some 41 :: some 42 :: some 43 :: some 44 :: [])
abbrev rl2Leaves : List (List Nat) := ([] :: [0] :: [1] :: [2] :: [3] :: [4] :: [4, 5] :: [4] :: [4, 7] :: [4, 8] :: [4, 6, 9] :: [4, 10] :: [11] :: [12] :: [12, 13] :: [12, 14] :: [12, 15] :: [12, 16] :: [17] :: [18] :: [18, 19] :: [18, 20] :: [18] :: [18, 22] :: [18, 23] :: [18, 24] :: [18, 21, 25] :: [18, 26] :: [])
theorem upto_stepI {α : Type} {Q : Nat → α → Prop} {xs : List α} {k : Nat} {x : α} (hp : ∀ j y, j < k → xs[j]? = some y → Q j y) (hx : xs[k]? = some x) (h : Q k x) : ∀ j y, j < k + 1 → xs[j]? = some y → Q j y := by
 intro j y hj hy
 rcases Nat.lt_or_ge j k with h2 | h2
 · exact hp j y h2 hy
 obtain rfl : j = k := by omega
 rw [hx] at hy; obtain rfl := Option.some.inj hy; exact h
structure LvlTo (f : PtrD → Option (List PtrD)) (list : List PtrD) (k : Nat) (next : List PtrD) : Prop where
 got : lvlG f (list.take k) = some next
theorem LvlTo.zero (f : PtrD → Option (List PtrD)) (list : List PtrD) : LvlTo f list 0 [] := ⟨by simp [lvlG]⟩
theorem LvlTo.step {f : PtrD → Option (List PtrD)} {list next qs : List PtrD} {k : Nat} {p : PtrD} (h : LvlTo f list k next) (hp : list[k]? = some p) (hq : f p = some qs) : LvlTo f list (k + 1) (next ++ qs) := ⟨lvlG_step hp h.got hq⟩
theorem LvlTo.all {f : PtrD → Option (List PtrD)} {list next : List PtrD} (h : LvlTo f list list.length next) : lvlG f list = some next := by have := h.got; rwa [List.take_length] at this
theorem PtrsAt.up {B B' : Nat} {A : Option Addr} {c : Nat} {S : List Nat} {ys : List PtrD} {w : World} (h : PtrsAt B A c S ys w) (hB : B' ≤ B) : PtrsAt B' A c S ys w := ⟨h.1, fun g hg => Nat.le_trans hB (h.2 g hg)⟩
theorem SliceR.takeP {w : World} {lo hi : Nat} {A : Option Addr} {n c k : Nat} {xs : List PtrD} (h : SliceR PtrR 5 w lo hi A n c xs) (hk : k ≤ n) : SliceR PtrR 5 w lo hi A k k (xs.take k) := by
 refine ⟨by rw [List.length_take, h.len]; omega, Nat.le_refl _, Nat.le_trans hk h.2.2.1, h.2.2.2.1, fun hA => by have h1 := h.2.2.2.2.1 hA; have h2 := h.2.1; omega, fun hp => ?_⟩
 obtain ⟨b, off, h1, h2, h3, h4⟩ := h.2.2.2.2.2 (by omega)
 exact ⟨b, off, h1, h2, h3, fun j x hx => h4 j x (by rw [List.getElem?_take] at hx; split at hx; exact hx; cases hx)⟩
theorem old_all {x : StoreD} {list : List PtrD} {k : Nat} {p : PtrD} (h : ∀ p ∈ list, OldP x p) (hp : list[k]? = some p) : OldP x p := h p (List.mem_of_getElem? hp)
theorem headT_eq (x : StoreD) (a b s m l d n : Int) : headT x ((a, b, s, m, l), d, n) = (inB n 0 16 && (decide (d = depthF n) && (ptrOkB a b s m l && decide (b ≤ x.2.2.1)))) := rfl
set_option maxRecDepth 100000 in
set_option maxHeartbeats 16000000 in
theorem leaves_any (bo : Nat) (cs : List Value) (x : StoreD) (a b s m l d n : Int) (w : World) (he : Env w) (lo hi : Nat) (hbo : w.heap[bo]? = some (.cells cs.toArray 39 (0, 0))) (h : StoreR w lo hi cs x) (hhi : hi ≤ w.heap.size) (h64 : x.1.length = 64) (hz : ∀ r ∈ x.1, r.size ≤ 128) :
 Calls Tryz.prog 70 #[.pointer (some ⟨bo, 0, none⟩), .agg #[.int .i64 a, .int .i64 b, .int .i64 s, .int .i64 m, .int .i64 l, .int .i64 d, .int .i64 n]] w (GotPs ((treeF x ((a, b, s, m, l), d, n)).map (·.take n.toNat)) w) := by
 obtain ⟨i0, hi0, hz0, hz1, hz2⟩ := info_parts infoPtr
 have lbo : bo < w.heap.size := (Array.getElem?_eq_some_iff.1 hbo).1
 have HE := Lib.hid he
 have HRD := Lib.hid (fun (W : World) (hb : Below w.heap.size w W) (a b s m l : Int) (hok : okP (a, b, s, m, l) = true) => read_any bo cs x a b s m l W lo hi ((hb.block _ lbo).trans hbo) (StoreR.below hb hhi cs x h) h64 hz hok)
 have HFO := Lib.hid (fun (W : World) (hb : Below w.heap.size w W) (a b s m l lev : Int) (hok : okP (a, b, s, m, l) = true) => fanOf_any bo cs x a b s m l lev W (HE.out.below hb) lo hi ((hb.block _ lbo).trans hbo) (StoreR.below hb hhi cs x h) (Nat.le_trans hhi hb.size) h64 hz hok)
 have HTX : Hid (w.cell? ⟨bo, 3, none⟩ = some (.int .i64 x.2.2.1)) := Lib.hid (by
  obtain ⟨A0, n0, c0, A1, n1, c1, A2, n2, c2, A3, n3, c3, A4, n4, c4, rfl, h0, h1, h2, h3, h4⟩ := h
  exact celR 3 hbo)
 clear hbo h hhi h64 hz he
 obtain ⟨txg, htxg⟩ : ∃ t, t = x.2.2.1 := ⟨_, rfl⟩
 rw [← htxg] at HTX
 have HTG := Lib.hid htxg; clear htxg
 obtain ⟨T, hT⟩ : ∃ T, T = treeF x ((a, b, s, m, l), d, n) := ⟨_, rfl⟩
 rw [← hT]
 have HT := Lib.hid hT; clear hT
 have HNO : Hid (T = none → T.map (fun (y : List PtrD) => y.take n.toNat) = none) := Lib.hid (fun h => by rw [h]; rfl)
 go_enter Tryz.func70, Tryz.ntmps70
 go_wp2_with fail
 obtain ⟨w1, hw1⟩ : ∃ W, W = w.alloc (.cells #[.int .i64 a, .int .i64 b, .int .i64 s, .int .i64 m, .int .i64 l, .int .i64 d, .int .i64 n] 43) := ⟨_, rfl⟩
 have HB1 : Hid (Below w.heap.size w w1) := Lib.hid (by rw [hw1]; exact bel1)
 have HBX : Hid (w1.heap[w.heap.size]? = some (.cells #[.int .i64 a, .int .i64 b, .int .i64 s, .int .i64 m, .int .i64 l, .int .i64 d, .int .i64 n] 43 (0, 0))) := Lib.hid (by rw [hw1]; exact heap_alloc_new _ _)
 rw [← hw1]; clear hw1
 have l1 : w.heap.size < w1.heap.size := (Array.getElem?_eq_some_iff.1 HBX.out).1
 have lb1 := Nat.lt_of_lt_of_le lbo HB1.out.size
 obtain ⟨df, hdf⟩ : ∃ df, df = depthF n := ⟨_, rfl⟩
 have EDF := Lib.hid hdf.symm; clear hdf
 cases e1 : inB n 0 16
 · have EL := Lib.hid e1
   have HN := Lib.hid (HNO.out (by rw [HT.out]; exact treeF_head (by rw [headT_eq]; rw [EL.out]; rfl)))
   clear e1
   have b0 := celR 0 HBX.out; have b1 := celR 1 HBX.out; have b2 := celR 2 HBX.out; have b3 := celR 3 HBX.out; have b4 := celR 4 HBX.out; have b5 := celR 5 HBX.out; have b6 := celR 6 HBX.out
   have s2 := (HB1.out.cell lbo).trans HTX.out
   go_wp2_with fail
   apply wp_region_rg (by kernel_rfl) rl0Leaves rl1Leaves rl2Leaves (StP.is _ :: StP.is _ :: StP.is _ :: StP.is _ :: StP.is _ :: StP.is _ :: StP.is _ :: StP.is _ :: StP.is _ :: StP.is _ :: StP.is _ :: StP.is _ :: StP.is _ :: StP.is _ :: StP.is _ :: StP.is _ :: StP.is _ :: StP.is _ :: StP.is _ :: StP.is _ :: StP.is _ :: StP.is _ :: StP.is _ :: StP.is _ :: StP.is _ :: StP.is _ :: StP.is _ :: StP.is _ :: []) (rgCheck_of (by kernel_rfl))
   case hobs =>
    constructor; rotate_left
    constructor; have ld_ := trivial; rotate_left
    iterate 3 (constructor; rotate_left)
    iterate 6 (constructor; have skip_ := trivial; rotate_left)
    iterate 2 (constructor; rotate_left)
    iterate 4 (constructor; have skip_ := trivial; rotate_left)
    iterate 2 (constructor; rotate_left)
    iterate 8 (constructor; have skip_ := trivial; rotate_left)
    constructor; rotate_left
    · trivial
    all_goals (
     intro y w' hS hF K hK
     have eF := trivial
     repeat (obtain ⟨f1, hF⟩ := hF; replace eF := And.intro (show y _ = _ from f1) eF; clear f1)
     first
      | simp only [fillL, rl0Leaves, rl1Leaves, rl2Leaves, cond_true, cond_false, zG0, zG1, StP.is, Act.put, zS2, zS0, zS1, Nat.reduceAdd, eF] at hK ⊢
      | simp only [fillL, rl0Leaves, rl1Leaves, rl2Leaves, cond_true, cond_false, zG0, zG1, StP.is, Act.put, zS2, zS0, zS1, Nat.reduceAdd] at hK ⊢
     clear eF hF
     first
      | (clear skip_; refine rg_no (by kernel_rfl) ?_; exact hK _ _ (Ext.refl _) rfl)
      | (refine rg_yes (by kernel_rfl) ?_
         try (clear ld_; have qx0_ := (Below.cell hS l1).trans b0; have qx1_ := (Below.cell hS l1).trans b1; have qx2_ := (Below.cell hS l1).trans b2; have qx3_ := (Below.cell hS l1).trans b3; have qx4_ := (Below.cell hS l1).trans b4; have qx5_ := (Below.cell hS l1).trans b5; have qx6_ := (Below.cell hS l1).trans b6; have qx7_ := (Below.cell hS lb1).trans s2)
         go_simp
         first
          | (go_at_call 61
             refine (within_any _ _ _ _).mono ?_
             rw [EL.out]
             rintro e w'' ⟨rfl, rfl⟩
             exact hK _ _ (Ext.refl _) rfl)
          | (go_at_call 83
             refine (depthOf_any _ _).mono ?_
             rw [EDF.out]
             rintro e w'' ⟨rfl, rfl⟩
             exact hK _ _ (Ext.refl _) rfl)
          | (go_at_call 68
             refine (ptrOk_any a b s m l _).mono ?_
             rw [EO.out]
             rintro e w'' ⟨rfl, hb⟩
             exact hK _ _ hb rfl)
          | exact hK _ _ (Ext.refl _) rfl))
   intro y w2 hX hF
   have e_ : y 44 = _ := hF.2.2.2.2.2.2.2.2.2.2.2.2.2.2.2.2.2.2.2.2.2.2.2.2.2.2.2.1
   clear hF
   simp only [fillL, rl0Leaves, rl1Leaves, rl2Leaves, cond_true, cond_false, Nat.reduceAdd, e_]
   have HB2 : Hid (Below w.heap.size w w2) := Lib.hid (HB1.out.trans (Below.mono hX HB1.out.size))
   have HBX2 := Lib.hid ((Below.block hX _ l1).trans HBX.out)
   have l2 : w.heap.size < w2.heap.size := (Array.getElem?_eq_some_iff.1 HBX2.out).1
   clear hX e_ b0 b1 b2 b3 b4 b5 b6 s2
   go_wp2_with fail
   exact bodyPost_ret (v := .tuple #[.slice none 0 0, .bool false]) (by simp [results, Tryz.results70, go_sem]) rfl (GotPs.no HN.out HB2.out)
 have EL := Lib.hid e1; clear e1
 by_cases e2 : d = df
 rotate_left
 · have d2 : (d != df) = true := by simpa using e2
   have HN := Lib.hid (HNO.out (by rw [HT.out]; exact treeF_head (by rw [headT_eq]; rw [EL.out, EDF.out, decide_eq_false e2]; rfl)))
   clear e2
   have b0 := celR 0 HBX.out; have b1 := celR 1 HBX.out; have b2 := celR 2 HBX.out; have b3 := celR 3 HBX.out; have b4 := celR 4 HBX.out; have b5 := celR 5 HBX.out; have b6 := celR 6 HBX.out
   have s2 := (HB1.out.cell lbo).trans HTX.out
   go_wp2_with fail
   apply wp_region_rg (by kernel_rfl) rl0Leaves rl1Leaves rl2Leaves (StP.is _ :: StP.is _ :: StP.is _ :: StP.is _ :: StP.is _ :: StP.is _ :: StP.is _ :: StP.is _ :: StP.is _ :: StP.is _ :: StP.is _ :: StP.is _ :: StP.is _ :: StP.is _ :: StP.is _ :: StP.is _ :: StP.is _ :: StP.is _ :: StP.is _ :: StP.is _ :: StP.is _ :: StP.is _ :: StP.is _ :: StP.is _ :: StP.is _ :: StP.is _ :: StP.is _ :: StP.is _ :: []) (rgCheck_of (by kernel_rfl))
   case hobs =>
    constructor; rotate_left
    constructor; have ld_ := trivial; rotate_left
    iterate 4 (constructor; rotate_left)
    constructor; have ld_ := trivial; rotate_left
    constructor; rotate_left
    constructor; have ld_ := trivial; rotate_left
    iterate 4 (constructor; rotate_left)
    iterate 4 (constructor; have skip_ := trivial; rotate_left)
    iterate 2 (constructor; rotate_left)
    iterate 8 (constructor; have skip_ := trivial; rotate_left)
    constructor; rotate_left
    · trivial
    all_goals (
     intro y w' hS hF K hK
     have eF := trivial
     repeat (obtain ⟨f1, hF⟩ := hF; replace eF := And.intro (show y _ = _ from f1) eF; clear f1)
     first
      | simp only [fillL, rl0Leaves, rl1Leaves, rl2Leaves, cond_true, cond_false, zG0, zG1, StP.is, Act.put, zS2, zS0, zS1, Nat.reduceAdd, eF] at hK ⊢
      | simp only [fillL, rl0Leaves, rl1Leaves, rl2Leaves, cond_true, cond_false, zG0, zG1, StP.is, Act.put, zS2, zS0, zS1, Nat.reduceAdd] at hK ⊢
     clear eF hF
     first
      | (clear skip_; refine rg_no (by kernel_rfl) ?_; exact hK _ _ (Ext.refl _) rfl)
      | (refine rg_yes (by kernel_rfl) ?_
         try (clear ld_; have qx0_ := (Below.cell hS l1).trans b0; have qx1_ := (Below.cell hS l1).trans b1; have qx2_ := (Below.cell hS l1).trans b2; have qx3_ := (Below.cell hS l1).trans b3; have qx4_ := (Below.cell hS l1).trans b4; have qx5_ := (Below.cell hS l1).trans b5; have qx6_ := (Below.cell hS l1).trans b6; have qx7_ := (Below.cell hS lb1).trans s2)
         go_simp
         first
          | (go_at_call 61
             refine (within_any _ _ _ _).mono ?_
             rw [EL.out]
             rintro e w'' ⟨rfl, rfl⟩
             exact hK _ _ (Ext.refl _) rfl)
          | (go_at_call 83
             refine (depthOf_any _ _).mono ?_
             rw [EDF.out]
             rintro e w'' ⟨rfl, rfl⟩
             exact hK _ _ (Ext.refl _) rfl)
          | (go_at_call 68
             refine (ptrOk_any a b s m l _).mono ?_
             rw [EO.out]
             rintro e w'' ⟨rfl, hb⟩
             exact hK _ _ hb rfl)
          | exact hK _ _ (Ext.refl _) rfl))
   intro y w2 hX hF
   have e_ : y 44 = _ := hF.2.2.2.2.2.2.2.2.2.2.2.2.2.2.2.2.2.2.2.2.2.2.2.2.2.2.2.1
   clear hF
   simp only [fillL, rl0Leaves, rl1Leaves, rl2Leaves, cond_true, cond_false, Nat.reduceAdd, e_]
   have HB2 : Hid (Below w.heap.size w w2) := Lib.hid (HB1.out.trans (Below.mono hX HB1.out.size))
   have HBX2 := Lib.hid ((Below.block hX _ l1).trans HBX.out)
   have l2 : w.heap.size < w2.heap.size := (Array.getElem?_eq_some_iff.1 HBX2.out).1
   clear hX e_ b0 b1 b2 b3 b4 b5 b6 s2
   go_wp2_with fail
   exact bodyPost_ret (v := .tuple #[.slice none 0 0, .bool false]) (by simp [results, Tryz.results70, go_sem]) rfl (GotPs.no HN.out HB2.out)
 have d2 : (d != df) = false := by simpa using e2
 have E2 : Hid (decide (d = df) = true) := Lib.hid (decide_eq_true e2)
 have E2' := Lib.hid e2; clear e2
 cases e3 : ptrOkB a b s m l
 · have EO := Lib.hid e3
   have HN := Lib.hid (HNO.out (by rw [HT.out]; exact treeF_head (by rw [headT_eq]; rw [EL.out, EDF.out, E2.out, EO.out]; rfl)))
   clear e3
   have b0 := celR 0 HBX.out; have b1 := celR 1 HBX.out; have b2 := celR 2 HBX.out; have b3 := celR 3 HBX.out; have b4 := celR 4 HBX.out; have b5 := celR 5 HBX.out; have b6 := celR 6 HBX.out
   have s2 := (HB1.out.cell lbo).trans HTX.out
   go_wp2_with fail
   apply wp_region_rg (by kernel_rfl) rl0Leaves rl1Leaves rl2Leaves (StP.is _ :: StP.is _ :: StP.is _ :: StP.is _ :: StP.is _ :: StP.is _ :: StP.is _ :: StP.is _ :: StP.is _ :: StP.is _ :: StP.is _ :: StP.is _ :: StP.is _ :: StP.is _ :: StP.is _ :: StP.is _ :: StP.is _ :: StP.is _ :: StP.is _ :: StP.is _ :: StP.is _ :: StP.is _ :: StP.is _ :: StP.is _ :: StP.is _ :: StP.is _ :: StP.is _ :: StP.is _ :: []) (rgCheck_of (by kernel_rfl))
   case hobs =>
    constructor; rotate_left
    constructor; have ld_ := trivial; rotate_left
    iterate 4 (constructor; rotate_left)
    constructor; have ld_ := trivial; rotate_left
    constructor; rotate_left
    constructor; have ld_ := trivial; rotate_left
    iterate 5 (constructor; rotate_left)
    constructor; have ld_ := trivial; rotate_left
    iterate 4 (constructor; rotate_left)
    iterate 8 (constructor; have skip_ := trivial; rotate_left)
    constructor; rotate_left
    · trivial
    all_goals (
     intro y w' hS hF K hK
     have eF := trivial
     repeat (obtain ⟨f1, hF⟩ := hF; replace eF := And.intro (show y _ = _ from f1) eF; clear f1)
     first
      | simp only [fillL, rl0Leaves, rl1Leaves, rl2Leaves, cond_true, cond_false, zG0, zG1, StP.is, Act.put, zS2, zS0, zS1, Nat.reduceAdd, eF] at hK ⊢
      | simp only [fillL, rl0Leaves, rl1Leaves, rl2Leaves, cond_true, cond_false, zG0, zG1, StP.is, Act.put, zS2, zS0, zS1, Nat.reduceAdd] at hK ⊢
     clear eF hF
     first
      | (clear skip_; refine rg_no (by kernel_rfl) ?_; exact hK _ _ (Ext.refl _) rfl)
      | (refine rg_yes (by kernel_rfl) ?_
         try (clear ld_; have qx0_ := (Below.cell hS l1).trans b0; have qx1_ := (Below.cell hS l1).trans b1; have qx2_ := (Below.cell hS l1).trans b2; have qx3_ := (Below.cell hS l1).trans b3; have qx4_ := (Below.cell hS l1).trans b4; have qx5_ := (Below.cell hS l1).trans b5; have qx6_ := (Below.cell hS l1).trans b6; have qx7_ := (Below.cell hS lb1).trans s2)
         go_simp
         first
          | (go_at_call 61
             refine (within_any _ _ _ _).mono ?_
             rw [EL.out]
             rintro e w'' ⟨rfl, rfl⟩
             exact hK _ _ (Ext.refl _) rfl)
          | (go_at_call 83
             refine (depthOf_any _ _).mono ?_
             rw [EDF.out]
             rintro e w'' ⟨rfl, rfl⟩
             exact hK _ _ (Ext.refl _) rfl)
          | (go_at_call 68
             refine (ptrOk_any a b s m l _).mono ?_
             rw [EO.out]
             rintro e w'' ⟨rfl, hb⟩
             exact hK _ _ hb rfl)
          | exact hK _ _ (Ext.refl _) rfl))
   intro y w2 hX hF
   have e_ : y 44 = _ := hF.2.2.2.2.2.2.2.2.2.2.2.2.2.2.2.2.2.2.2.2.2.2.2.2.2.2.2.1
   clear hF
   simp only [fillL, rl0Leaves, rl1Leaves, rl2Leaves, cond_true, cond_false, Nat.reduceAdd, e_]
   have HB2 : Hid (Below w.heap.size w w2) := Lib.hid (HB1.out.trans (Below.mono hX HB1.out.size))
   have HBX2 := Lib.hid ((Below.block hX _ l1).trans HBX.out)
   have l2 : w.heap.size < w2.heap.size := (Array.getElem?_eq_some_iff.1 HBX2.out).1
   clear hX e_ b0 b1 b2 b3 b4 b5 b6 s2
   go_wp2_with fail
   exact bodyPost_ret (v := .tuple #[.slice none 0 0, .bool false]) (by simp [results, Tryz.results70, go_sem]) rfl (GotPs.no HN.out HB2.out)
 have EO := Lib.hid e3; clear e3
 by_cases e4 : txg < b
 · have d4 : decide (txg < b) = true := decide_eq_true e4
   have HN := Lib.hid (HNO.out (by rw [HT.out]; exact treeF_head (by rw [headT_eq]; rw [EL.out, EDF.out, E2.out, EO.out, decide_eq_false (by rw [← HTG.out]; omega)]; rfl)))
   clear e4
   have b0 := celR 0 HBX.out; have b1 := celR 1 HBX.out; have b2 := celR 2 HBX.out; have b3 := celR 3 HBX.out; have b4 := celR 4 HBX.out; have b5 := celR 5 HBX.out; have b6 := celR 6 HBX.out
   have s2 := (HB1.out.cell lbo).trans HTX.out
   go_wp2_with fail
   apply wp_region_rg (by kernel_rfl) rl0Leaves rl1Leaves rl2Leaves (StP.is _ :: StP.is _ :: StP.is _ :: StP.is _ :: StP.is _ :: StP.is _ :: StP.is _ :: StP.is _ :: StP.is _ :: StP.is _ :: StP.is _ :: StP.is _ :: StP.is _ :: StP.is _ :: StP.is _ :: StP.is _ :: StP.is _ :: StP.is _ :: StP.is _ :: StP.is _ :: StP.is _ :: StP.is _ :: StP.is _ :: StP.is _ :: StP.is _ :: StP.is _ :: StP.is _ :: StP.is _ :: []) (rgCheck_of (by kernel_rfl))
   case hobs =>
    constructor; rotate_left
    constructor; have ld_ := trivial; rotate_left
    iterate 4 (constructor; rotate_left)
    constructor; have ld_ := trivial; rotate_left
    constructor; rotate_left
    constructor; have ld_ := trivial; rotate_left
    iterate 5 (constructor; rotate_left)
    constructor; have ld_ := trivial; rotate_left
    iterate 6 (constructor; rotate_left)
    constructor; have ld_ := trivial; rotate_left
    iterate 3 (constructor; rotate_left)
    constructor; have ld_ := trivial; rotate_left
    iterate 2 (constructor; rotate_left)
    · trivial
    all_goals (
     intro y w' hS hF K hK
     have eF := trivial
     repeat (obtain ⟨f1, hF⟩ := hF; replace eF := And.intro (show y _ = _ from f1) eF; clear f1)
     first
      | simp only [fillL, rl0Leaves, rl1Leaves, rl2Leaves, cond_true, cond_false, zG0, zG1, StP.is, Act.put, zS2, zS0, zS1, Nat.reduceAdd, eF] at hK ⊢
      | simp only [fillL, rl0Leaves, rl1Leaves, rl2Leaves, cond_true, cond_false, zG0, zG1, StP.is, Act.put, zS2, zS0, zS1, Nat.reduceAdd] at hK ⊢
     clear eF hF
     first
      | (refine rg_yes (by kernel_rfl) ?_
         try (clear ld_; have qx0_ := (Below.cell hS l1).trans b0; have qx1_ := (Below.cell hS l1).trans b1; have qx2_ := (Below.cell hS l1).trans b2; have qx3_ := (Below.cell hS l1).trans b3; have qx4_ := (Below.cell hS l1).trans b4; have qx5_ := (Below.cell hS l1).trans b5; have qx6_ := (Below.cell hS l1).trans b6; have qx7_ := (Below.cell hS lb1).trans s2)
         go_simp
         first
          | (go_at_call 61
             refine (within_any _ _ _ _).mono ?_
             rw [EL.out]
             rintro e w'' ⟨rfl, rfl⟩
             exact hK _ _ (Ext.refl _) rfl)
          | (go_at_call 83
             refine (depthOf_any _ _).mono ?_
             rw [EDF.out]
             rintro e w'' ⟨rfl, rfl⟩
             exact hK _ _ (Ext.refl _) rfl)
          | (go_at_call 68
             refine (ptrOk_any a b s m l _).mono ?_
             rw [EO.out]
             rintro e w'' ⟨rfl, hb⟩
             exact hK _ _ hb rfl)
          | exact hK _ _ (Ext.refl _) rfl))
   intro y w2 hX hF
   have e_ : y 44 = _ := hF.2.2.2.2.2.2.2.2.2.2.2.2.2.2.2.2.2.2.2.2.2.2.2.2.2.2.2.1
   clear hF
   simp only [fillL, rl0Leaves, rl1Leaves, rl2Leaves, cond_true, cond_false, Nat.reduceAdd, e_]
   have HB2 : Hid (Below w.heap.size w w2) := Lib.hid (HB1.out.trans (Below.mono hX HB1.out.size))
   have HBX2 := Lib.hid ((Below.block hX _ l1).trans HBX.out)
   have l2 : w.heap.size < w2.heap.size := (Array.getElem?_eq_some_iff.1 HBX2.out).1
   clear hX e_ b0 b1 b2 b3 b4 b5 b6 s2
   go_wp2_with fail
   exact bodyPost_ret (v := .tuple #[.slice none 0 0, .bool false]) (by simp [results, Tryz.results70, go_sem]) rfl (GotPs.no HN.out HB2.out)
 have d4 : decide (txg < b) = false := decide_eq_false e4
 have HHD : Hid (headT x ((a, b, s, m, l), d, n) = true) := Lib.hid (by rw [headT_eq, EL.out, EDF.out, E2.out, EO.out, decide_eq_true (by rw [← HTG.out]; omega)]; rfl)
 clear e4
 have b0 := celR 0 HBX.out; have b1 := celR 1 HBX.out; have b2 := celR 2 HBX.out; have b3 := celR 3 HBX.out; have b4 := celR 4 HBX.out; have b5 := celR 5 HBX.out; have b6 := celR 6 HBX.out
 have s2 := (HB1.out.cell lbo).trans HTX.out
 go_wp2_with fail
 apply wp_region_rg (by kernel_rfl) rl0Leaves rl1Leaves rl2Leaves (StP.is _ :: StP.is _ :: StP.is _ :: StP.is _ :: StP.is _ :: StP.is _ :: StP.is _ :: StP.is _ :: StP.is _ :: StP.is _ :: StP.is _ :: StP.is _ :: StP.is _ :: StP.is _ :: StP.is _ :: StP.is _ :: StP.is _ :: StP.is _ :: StP.is _ :: StP.is _ :: StP.is _ :: StP.is _ :: StP.is _ :: StP.is _ :: StP.is _ :: StP.is _ :: StP.is _ :: StP.is _ :: []) (rgCheck_of (by kernel_rfl))
 case hobs =>
  constructor; rotate_left
  constructor; have ld_ := trivial; rotate_left
  iterate 4 (constructor; rotate_left)
  constructor; have ld_ := trivial; rotate_left
  constructor; rotate_left
  constructor; have ld_ := trivial; rotate_left
  iterate 5 (constructor; rotate_left)
  constructor; have ld_ := trivial; rotate_left
  iterate 6 (constructor; rotate_left)
  constructor; have ld_ := trivial; rotate_left
  iterate 3 (constructor; rotate_left)
  constructor; have ld_ := trivial; rotate_left
  iterate 2 (constructor; rotate_left)
  · trivial
  all_goals (
   intro y w' hS hF K hK
   have eF := trivial
   repeat (obtain ⟨f1, hF⟩ := hF; replace eF := And.intro (show y _ = _ from f1) eF; clear f1)
   first
    | simp only [fillL, rl0Leaves, rl1Leaves, rl2Leaves, cond_true, cond_false, zG0, zG1, StP.is, Act.put, zS2, zS0, zS1, Nat.reduceAdd, eF] at hK ⊢
    | simp only [fillL, rl0Leaves, rl1Leaves, rl2Leaves, cond_true, cond_false, zG0, zG1, StP.is, Act.put, zS2, zS0, zS1, Nat.reduceAdd] at hK ⊢
   clear eF hF
   first
    | (refine rg_yes (by kernel_rfl) ?_
       try (clear ld_; have qx0_ := (Below.cell hS l1).trans b0; have qx1_ := (Below.cell hS l1).trans b1; have qx2_ := (Below.cell hS l1).trans b2; have qx3_ := (Below.cell hS l1).trans b3; have qx4_ := (Below.cell hS l1).trans b4; have qx5_ := (Below.cell hS l1).trans b5; have qx6_ := (Below.cell hS l1).trans b6; have qx7_ := (Below.cell hS lb1).trans s2)
       go_simp
       first
        | (go_at_call 61
           refine (within_any _ _ _ _).mono ?_
           rw [EL.out]
           rintro e w'' ⟨rfl, rfl⟩
           exact hK _ _ (Ext.refl _) rfl)
        | (go_at_call 83
           refine (depthOf_any _ _).mono ?_
           rw [EDF.out]
           rintro e w'' ⟨rfl, rfl⟩
           exact hK _ _ (Ext.refl _) rfl)
        | (go_at_call 68
           refine (ptrOk_any a b s m l _).mono ?_
           rw [EO.out]
           rintro e w'' ⟨rfl, hb⟩
           exact hK _ _ hb rfl)
        | exact hK _ _ (Ext.refl _) rfl))
 intro y w2 hX hF
 have e_ : y 44 = _ := hF.2.2.2.2.2.2.2.2.2.2.2.2.2.2.2.2.2.2.2.2.2.2.2.2.2.2.2.1
 clear hF
 simp only [fillL, rl0Leaves, rl1Leaves, rl2Leaves, cond_true, cond_false, Nat.reduceAdd, e_]
 have HB2 : Hid (Below w.heap.size w w2) := Lib.hid (HB1.out.trans (Below.mono hX HB1.out.size))
 have HBX2 := Lib.hid ((Below.block hX _ l1).trans HBX.out)
 have l2 : w.heap.size < w2.heap.size := (Array.getElem?_eq_some_iff.1 HBX2.out).1
 clear hX e_ b0 b1 b2 b3 b4 b5 b6 s2
 clear d2 d4
 obtain ⟨dn, hdn, hd2⟩ := depthF_nat n
 obtain rfl : d = (dn : Int) := by rw [E2'.out, ← EDF.out]; exact hdn
 clear hdn E2 E2' EDF
 have hn16 : 0 ≤ n ∧ n ≤ 16 := by have := EL.out; unfold inB at this; simpa using this
 obtain ⟨nn, rfl⟩ : ∃ k : Nat, n = (k : Int) := ⟨n.toNat, by omega⟩
 have HOL0 : Hid (∀ q ∈ [((a, b, s, m, l) : PtrD)], OldP x q) := Lib.hid (old_root (t := ((a, b, s, m, l), (dn : Int), (nn : Int))) HHD.out)
 have b0 := celR 0 HBX2.out; have b1 := celR 1 HBX2.out; have b2 := celR 2 HBX2.out; have b3 := celR 3 HBX2.out; have b4 := celR 4 HBX2.out; have b5 := celR 5 HBX2.out
 obtain ⟨w3, hw3⟩ : ∃ W, W = w2.alloc (.cells #[.int .i64 a, .int .i64 b, .int .i64 s, .int .i64 m, .int .i64 l] 41) := ⟨_, rfl⟩
 have HB3 : Hid (Below w.heap.size w w3) := Lib.hid (by rw [hw3]; exact Below.alloc HB2.out HB2.out.size _)
 have HBX3 : Hid (w3.heap[w.heap.size]? = some (.cells #[.int .i64 a, .int .i64 b, .int .i64 s, .int .i64 m, .int .i64 l, .int .i64 (dn : Int), .int .i64 (nn : Int)] 43 (0, 0))) := Lib.hid (by rw [hw3]; exact (Below.heap_alloc _ _ _ l2).trans HBX2.out)
 have HP3 : Hid (PtrsAt (w.heap.size + 1) (some ⟨w2.heap.size, 0, none⟩) 1 [w2.heap.size] [((a, b, s, m, l) : PtrD)] w3) := Lib.hid (by rw [hw3]; exact PtrsAt.lit (ys := [((a, b, s, m, l) : PtrD)]) (by simp [pcL]) (by simp [maxLen]) (by omega))
 go_wp2_with fail
 rw [← hw3]
 clear hw3 b0 b1 b2 b3 b4 b5 HBX2 HB2 l2
 have l3 : w.heap.size < w3.heap.size := (Array.getElem?_eq_some_iff.1 HBX3.out).1
 obtain ⟨u, hu⟩ : ∃ u, u = w.heap.size := ⟨_, rfl⟩
 have HY3 : Hid (Below (w.heap.size + 1) w3 w3) := Lib.hid (Below.refl _ _)
 go_loopw [6, 7] (fun t i wr => ∃ (dk len c : Nat) (A : Option Addr) (S : List Nat) (ls : List PtrD), dk ≤ 2 ∧ i = .int .i64 (dk : Int) ∧ t = .slice A len c ∧ len ≤ 16 ∧ Hid (len = ls.length) ∧ Hid (len * 4 ^ dk ≤ 16) ∧ Hid (PtrsAt (w.heap.size + 1) A c S ls wr) ∧ Hid (∀ q ∈ ls, OldP x q) ∧ Hid (leavesG (belowF x) dn [((a, b, s, m, l) : PtrD)] = leavesG (belowF x) dk ls) ∧ Hid (Below (w.heap.size + 1) w3 wr)) (fun _ i _ => (RowKit.intOf i).toNat)
 case atStart => exact ⟨dn, 1, 1, _, _, [(a, b, s, m, l)], hd2, rfl, rfl, by omega, Lib.hid rfl, Lib.hid (by rcases (by omega : dn = 0 ∨ dn = 1 ∨ dn = 2) with rfl | rfl | rfl <;> decide), HP3, HOL0, Lib.hid rfl, HY3⟩
 clear HP3 HOL0 HY3
 obtain ⟨dk, len, c, A, S, ls, hdk, rfl, rfl, hlen, HLL, HL4, HPS, HOL, HLV, HBR⟩ := hrel
 have HBW := Lib.hid (HB3.out.trans (HBR.out.mono (by omega)))
 obtain ⟨wq, rfl⟩ : ∃ wq, wq = wr := ⟨_, rfl⟩
 by_cases hpos : 0 < dk
 case pos =>
  obtain ⟨dk, rfl⟩ : ∃ k', dk = k' + 1 := ⟨dk - 1, by omega⟩
  have hp1 : (0 : Int) < ((dk + 1 : Nat) : Int) := by omega
  have HL16 : Hid (4 * len ≤ 16) := Lib.hid (by have h_ := HL4.out; have : dk = 0 ∨ dk = 1 := by omega
                                                rcases this with rfl | rfl <;> omega)
  have hL16 := HL16.out
  obtain ⟨lv, hlv⟩ : ∃ lv : Int, lv = ((dk + 1 : Nat) : Int) := ⟨_, rfl⟩
  have HLVN := Lib.hid hlv
  rw [← hlv] at hp1 ⊢
  clear hlv
  go_wp2_with fail
  go_loopw [8, 56] (fun t i wr => ∃ (k mm c2 : Nat) (A2 : Option Addr) (S2 : List Nat) (nx : List PtrD), k ≤ len ∧ mm ≤ 16 ∧ i = .int .i64 (k : Int) ∧ t = .slice A2 mm c2 ∧ Hid (mm = 4 * k) ∧ Hid (mm = nx.length) ∧ Hid (LvlTo (belowF x lv) ls k nx) ∧ Hid (PtrsAt wq.heap.size A2 c2 S2 nx wr) ∧ Hid (Below wq.heap.size wq wr)) (fun _ i _ => len - (RowKit.intOf i).toNat)
  case atStart => exact ⟨0, 0, 0, none, [], [], Nat.zero_le _, by omega, rfl, rfl, Lib.hid rfl, Lib.hid rfl, Lib.hid (LvlTo.zero _ _), Lib.hid PtrsAt.nil, Lib.hid (Below.refl _ _)⟩
  obtain ⟨k, mm, c2, A2, S2, nx, hk, hm16, rfl, rfl, HMM, HMN, HLT, HPN, HB2⟩ := hrel
  have HBW2 := Lib.hid (HBW.out.trans (HB2.out.mono HBW.out.size))
  have k0 : (0 : Int) ≤ (k : Int) := by omega
  by_cases hlt : k < len
  case pos =>
   have k1 : (k : Int) < (len : Int) := by omega
   obtain ⟨pp, hp⟩ : ∃ q, ls[k]? = some q := ⟨ls[k]'(by rw [← HLL.out]; exact hlt), List.getElem?_eq_getElem _⟩
   have hsl := (HPS.out.below HB2.out).slice
   rw [← HLL.out] at hsl
   obtain ⟨b_, off, rfl, _, _, bl, hc⟩ := hsl.at_ (by omega)
   obtain ⟨cs_, hcl, hcc, hr⟩ := hc k pp hp
   have HX := Lib.hid hp
   have HOP := Lib.hid (old_all HOL.out hp)
   clear hp hc hsl
   obtain ⟨a', b', s', m', l'⟩ := pp
   obtain rfl := hr
   have q0 := hcc 0 _ rfl; have q1 := hcc 1 _ rfl; have q2 := hcc 2 _ rfl; have q3 := hcc 3 _ rfl; have q4 := hcc 4 _ rfl
   simp only [Nat.add_zero] at q0
   clear hcc hcl
   obtain ⟨w5, hw5⟩ : ∃ W, W = wr.alloc (.cells #[.int .i64 a', .int .i64 b', .int .i64 s', .int .i64 m', .int .i64 l'] 41) := ⟨_, rfl⟩
   have HB5 : Hid (Below wr.heap.size wr w5) := Lib.hid (by rw [hw5]; exact bel1)
   have hbx : Hid (w5.heap[wr.heap.size]? = some (.cells #[.int .i64 a', .int .i64 b', .int .i64 s', .int .i64 m', .int .i64 l'] 41 (0, 0))) := Lib.hid (by rw [hw5]; exact heap_alloc_new _ _)
   have HBW5 := Lib.hid (HBW2.out.trans (HB5.out.mono HBW2.out.size))
   go_wp2_with fail
   rw [← hw5]
   clear hw5 q0 q1 q2 q3 q4
   have x0 := celR 0 hbx.out; have x1 := celR 1 hbx.out; have x2 := celR 2 hbx.out; have x3 := celR 3 hbx.out; have x4 := celR 4 hbx.out
   go_wp2_with fail
   refine (HFO.out w5 HBW5.out a' b' s' m' l' lv HOP.out.1).mono ?_
   rintro e w6 ⟨A3, n3, c3, qs, ok, rfl, hok, hqs, hsl, hb6⟩
   have HB6 := Lib.hid (HB2.out.trans ((HB5.out.trans (hb6.mono HB5.out.size)).mono HB2.out.size))
   have HPN6 := Lib.hid ((HPN.out.below HB5.out).below hb6)
   have HBW6 := Lib.hid (HBW5.out.trans (hb6.mono HBW5.out.size))
   have HSL := Lib.hid hsl
   clear hb6 hsl x0 x1 x2 x3 x4 hbx
   cases ok
   · have HN := Lib.hid (HNO.out (by
      rw [HT.out]
      refine treeF_leaves ?_
      dsimp only
      rw [Int.toNat_natCast, HLV.out]
      refine leavesG_none (lvlG_none (List.mem_of_getElem? HX.out) ?_)
      rw [← HLVN.out]
      cases hf : belowF x lv (a', b', s', m', l') with
      | none => rfl
      | some v => rw [hf] at hok; cases hok))
     clear hok hqs
     go_wp2_with fail
     exact bodyPost_ret (v := .tuple #[.slice none 0 0, .bool false]) (by simp [results, Tryz.results70, go_sem]) rfl (GotPs.no HN.out HBW6.out)
   obtain ⟨q', hq'⟩ : ∃ v, belowF x lv (a', b', s', m', l') = some v := by
    cases hf : belowF x lv (a', b', s', m', l') with
    | none => rw [hf] at hok; cases hok
    | some v => exact ⟨v, rfl⟩
   obtain rfl := hqs q' hq'
   have hq4 := (belowF_parts hq').1
   obtain rfl : n3 = 4 := by rw [← HSL.out.len]; exact hq4
   have HQ := Lib.hid hq'
   have HLT' := Lib.hid (HLT.out.step HX.out hq')
   clear hok hqs hq'
   have HOW : Hid (OwnA w6 41 5 S2 A2 mm c2 (nx.flatMap pcL)) := Lib.hid (by have h_ := HPN6.out.1; rw [← HMN.out] at h_; exact h_)
   have HRW : Hid (RowAt w6 A3 (4 * 5) (qs.flatMap pcL)) := Lib.hid HSL.out.ptrRow
   have HSB : Hid (∀ g ∈ S2, wq.heap.size ≤ g) := Lib.hid HPN6.out.2
   go_wp2_with (at_builtin; go_must (refine wpList_append_row rfl _ _ 37 rfl 41 i0 (.agg #[.int .i64 0, .int .i64 0, .int .i64 0, .int .i64 0, .int .i64 0]) 5 40 Tryz.underlying37 hi0 hz0 hz1 hz2 rfl (by decide) S2 A2 A3 mm c2 4 c3 (nx.flatMap pcL) (qs.flatMap pcL) rfl rfl HOW.out HRW.out (pcL_one qs) (by unfold maxLen; omega) (by omega) ?_))
   intro A' c' S' w7 hO' hS' hC'
   obtain ⟨hP7, hb7⟩ := app_ptrs (B := wq.heap.size) (fs := nx) (gs := qs) HSB.out (w1 := w6) HB6.out.size (by rw [List.length_append, ← HMN.out, hq4]) hO' hS' hC'
   have HP7 := Lib.hid hP7
   have HB7 : Hid (Below wq.heap.size wq w7) := Lib.hid (HB6.out.trans hb7)
   have HM7 : Hid (mm + 4 = (nx ++ qs).length) := Lib.hid (by rw [List.length_append, ← HMN.out, hq4])
   clear hO' hS' hC' HOW HRW HSB hP7 hb7 hq4
   go_wp2_with fail
   go_roundw
   case rel => exact ⟨k + 1, mm + 4, c', A', S', nx ++ qs, by omega, by have := HMM.out; omega, by go_num, rfl, Lib.hid (by have := HMM.out; omega), HM7, HLT', HP7, HB7⟩
   simp [RowKit.intOf]; omega
  obtain rfl : k = len := by omega
  have HGOT : Hid (lvlG (belowF x ((dk + 1 : Nat) : Int)) ls = some nx) := Lib.hid (by have h_ := HLT.out; rw [HLL.out] at h_; rw [← HLVN.out]; exact h_.all)
  have HLV2 : Hid (leavesG (belowF x) dn [((a, b, s, m, l) : PtrD)] = leavesG (belowF x) dk nx) := Lib.hid (by rw [HLV.out, leavesG_some HGOT.out])
  have HOL2 : Hid (∀ q ∈ nx, OldP x q) := Lib.hid (lvlG_parts (Q := OldP x) HGOT.out (fun p hp qs hq => belowF_old (HOL.out p hp) hq)).2
  have HPS2 := Lib.hid (HPN.out.up (show w.heap.size + 1 ≤ wq.heap.size by have h1 := HBR.out.size; have h2 := (Array.getElem?_eq_some_iff.1 HBX3.out).1; omega))
  have HBR2 := Lib.hid (HBR.out.trans (HB2.out.mono (show w.heap.size + 1 ≤ wq.heap.size by have h1 := HBR.out.size; have h2 := (Array.getElem?_eq_some_iff.1 HBX3.out).1; omega)))
  have HL42 : Hid (mm * 4 ^ dk ≤ 16) := Lib.hid (by have h_ := HL4.out; rw [Nat.pow_succ] at h_; rw [HMM.out, Nat.mul_comm 4 k, Nat.mul_assoc, Nat.mul_comm 4]; exact h_)
  have u1 : IntKind.i64.wrap (lv - 1) = (dk : Int) := by rw [HLVN.out, IntWalk.i64_in _ (by omega)]; omega
  go_wp2_with fail
  go_roundw
  case rel => exact ⟨dk, mm, c2, A2, S2, nx, by omega, by first | rfl | exact congrArg _ u1 | (rw [u1]), rfl, by omega, HMN, HL42, HPS2, HOL2, HLV2, HBR2⟩
  simp [RowKit.intOf, u1]; rw [HLVN.out]; omega
 obtain rfl : dk = 0 := by omega
 have HLS : Hid (leavesG (belowF x) dn [((a, b, s, m, l) : PtrD)] = some ls) := Lib.hid HLV.out
 have LX := HBR.out.size
 have lx3 : w.heap.size + 1 ≤ w3.heap.size := l3
 have HBXR := Lib.hid ((HBR.out.block _ (by omega)).trans HBX3.out)
 have HWR := Lib.hid HBW.out
 clear hpos HL4
 go_wp2_with fail
 go_loopw [76] (fun i wr => ∃ k : Nat, k ≤ len ∧ i = .int .i64 (k : Int) ∧ Hid (∀ j q, j < k → ls[j]? = some q → endB x (nn : Int) j q = true) ∧ Hid (Below wq.heap.size wq wr)) (fun i _ => len - (RowKit.intOf i).toNat)
 case atStart => exact ⟨0, Nat.zero_le _, rfl, Lib.hid (fun j q hj => absurd hj (by omega)), Lib.hid (Below.refl _ _)⟩
 obtain ⟨k, hk, rfl, HEN, HB2⟩ := hrel
 have HBW2 := Lib.hid (HWR.out.trans (HB2.out.mono HWR.out.size))
 have k0 : (0 : Int) ≤ (k : Int) := by omega
 by_cases hlt : k < len
 case pos =>
  have k1 : (k : Int) < (len : Int) := by omega
  obtain ⟨pp, hp⟩ : ∃ q, ls[k]? = some q := ⟨ls[k]'(by rw [← HLL.out]; exact hlt), List.getElem?_eq_getElem _⟩
  have hsl := (HPS.out.below HB2.out).slice
  rw [← HLL.out] at hsl
  obtain ⟨b_, off, rfl, _, _, bl, hc⟩ := hsl.at_ (by omega)
  obtain ⟨cs_, hcl, hcc, hr⟩ := hc k pp hp
  have HX := Lib.hid hp
  have HOP := Lib.hid (old_all HOL.out hp)
  clear hp hc hsl
  obtain ⟨a', b', s', m', l'⟩ := pp
  obtain rfl := hr
  have q0 := hcc 0 _ rfl; have q1 := hcc 1 _ rfl; have q2 := hcc 2 _ rfl; have q3 := hcc 3 _ rfl; have q4 := hcc 4 _ rfl
  simp only [Nat.add_zero] at q0
  clear hcc hcl
  obtain ⟨w5, hw5⟩ : ∃ W, W = wr.alloc (.cells #[.int .i64 a', .int .i64 b', .int .i64 s', .int .i64 m', .int .i64 l'] 41) := ⟨_, rfl⟩
  have HB5 : Hid (Below wq.heap.size wq w5) := Lib.hid (by rw [hw5]; exact Below.alloc HB2.out HB2.out.size _)
  have hbx : Hid (w5.heap[wr.heap.size]? = some (.cells #[.int .i64 a', .int .i64 b', .int .i64 s', .int .i64 m', .int .i64 l'] 41 (0, 0))) := Lib.hid (by rw [hw5]; exact heap_alloc_new _ _)
  have HBW5 := Lib.hid (HWR.out.trans (HB5.out.mono HWR.out.size))
  obtain ⟨bx, hbxn⟩ : ∃ v, v = wr.heap.size := ⟨_, rfl⟩
  go_wp2_with fail
  rw [← hw5]
  clear hw5 q0 q1 q2 q3 q4
  have x0 := celR 0 hbx.out; have x1 := celR 1 hbx.out; have x2 := celR 2 hbx.out; have x3 := celR 3 hbx.out; have x4 := celR 4 hbx.out
  have l5 := (Array.getElem?_eq_some_iff.1 hbx.out).1
  obtain ⟨o, ho⟩ : ∃ o, o = readF x (a', b', s', m', l') := ⟨_, rfl⟩
  have HO := Lib.hid ho.symm
  go_wp2_with fail
  refine (HRD.out w5 HBW5.out a' b' s' m' l' HOP.out.1).mono ?_
  unfold read_any_post
  rw [← ho]
  clear ho
  have HBAD : Hid (endB x (nn : Int) k (a', b', s', m', l') = false → T.map (fun (y : List PtrD) => y.take (nn : Int).toNat) = none) := Lib.hid (fun h => HNO.out (by rw [HT.out]; exact treeF_end (by dsimp only; rw [Int.toNat_natCast]; exact HLS.out) HX.out h))
  cases o
  · simp only [Option.getD_none, Option.isSome_none]
    obtain ⟨tx, htx⟩ : ∃ tx, tx = ByteArray.empty := ⟨_, rfl⟩
    rw [← htx]
    rintro e w6 ⟨rfl, hb6⟩
    have HBW6 := Lib.hid (HBW5.out.trans (hb6.mono HBW5.out.size))
    have HN := Lib.hid (HBAD.out (by unfold endB; rw [HO.out]; rfl))
    clear hb6 htx x0 x1 x2 x3 x4
    go_wp2_with fail
    exact bodyPost_ret (v := .tuple #[.slice none 0 0, .bool false]) (by simp [results, Tryz.results70, go_sem]) rfl (GotPs.no HN.out HBW6.out)
  rename_i t
  simp only [Option.getD_some, Option.isSome_some]
  rintro e w6 ⟨rfl, hb6⟩
  have HBW6 := Lib.hid (HBW5.out.trans (hb6.mono HBW5.out.size))
  have HB6 := Lib.hid (HB5.out.trans (hb6.mono HB5.out.size))
  have hbx6 := Lib.hid ((hb6.block _ l5).trans hbx.out)
  clear hb6 x0 x1 x2 x3 x4 hbx
  have x0 := celR 0 hbx6.out; have x1 := celR 1 hbx6.out; have x2 := celR 2 hbx6.out; have x3 := celR 3 hbx6.out; have x4 := celR 4 hbx6.out
  have l6 := (Array.getElem?_eq_some_iff.1 hbx6.out).1
  have t6 := celR 6 ((HB6.out.block _ (by omega)).trans HBXR.out)
  by_cases hl0 : l' = 0
  rotate_left
  · have dl : (l' != 0) = true := by simpa using hl0
    have HN := Lib.hid (HBAD.out (by unfold endB; rw [HO.out]; dsimp only; rw [decide_eq_false hl0]; rfl))
    clear hl0
    go_wp2_with fail
    exact bodyPost_ret (v := .tuple #[.slice none 0 0, .bool false]) (by simp [results, Tryz.results70, go_sem]) rfl (GotPs.no HN.out HBW6.out)
  have dl : (l' != 0) = false := by simpa using hl0
  have HL0 := Lib.hid hl0; clear hl0
  by_cases hkn : k < nn
  · have d1 : ¬ (nn : Int) ≤ (k : Int) := by omega
    have HEN' := Lib.hid (upto_stepI (Q := fun j q => endB x (nn : Int) j q = true) HEN.out HX.out (by unfold endB; rw [HO.out, decide_eq_true HL0.out, decide_eq_true (show (k : Int) < (nn : Int) by omega)]; rfl))
    clear hkn
    go_wp2_with fail
    go_roundw
    case rel => (repeat apply Exists.intro); exact ⟨⟨k + 1, by omega, by go_num, HEN', HB6⟩, rfl⟩
    simp [RowKit.intOf]; omega
  have d1 : (nn : Int) ≤ (k : Int) := by omega
  have HKN : Hid (decide ((k : Int) < (nn : Int)) = false) := Lib.hid (decide_eq_false (by omega))
  clear hkn
  go_wp2_with fail
  refine (ptrHole_any a' b' s' m' l' _).mono ?_
  rintro e w7 ⟨rfl, hb7⟩
  have HBW7 := Lib.hid (HBW6.out.trans (hb7.mono HBW6.out.size))
  have HB7 := Lib.hid (HB6.out.trans (hb7.mono HB6.out.size))
  clear hb7 x0 x1 x2 x3 x4 t6
  cases hh : ptrHole a' b' s' m' l'
  · have HN := Lib.hid (HBAD.out (by unfold endB; rw [HO.out, HKN.out]; unfold holeP; dsimp only; rw [hh]; simp))
    clear hh
    go_wp2_with fail
    exact bodyPost_ret (v := .tuple #[.slice none 0 0, .bool false]) (by simp [results, Tryz.results70, go_sem]) rfl (GotPs.no HN.out HBW7.out)
  have HEN' := Lib.hid (upto_stepI (Q := fun j q => endB x (nn : Int) j q = true) HEN.out HX.out (by unfold endB; rw [HO.out, decide_eq_true HL0.out, HKN.out]; unfold holeP; dsimp only; rw [hh]; rfl))
  clear hh
  go_wp2_with fail
  go_roundw
  case rel => (repeat apply Exists.intro); exact ⟨⟨k + 1, by omega, by go_num, HEN', HB7⟩, rfl⟩
  simp [RowKit.intOf]; omega
 obtain rfl : k = len := by omega
 have HTS : Hid (T = some ls) := Lib.hid (by
  rw [HT.out]
  exact treeF_yes HHD.out (by dsimp only; rw [Int.toNat_natCast]; exact HLS.out) (fun j q hq => HEN.out j q (by have := (List.getElem?_eq_some_iff.1 hq).1; rw [HLL.out]; exact this) hq))
 have hnl : nn ≤ k := by
  have h_ := HTS.out
  rw [HT.out] at h_
  have := (treeF_some h_).2.2.2.2.1
  rw [HLL.out]
  simpa using this
 have HRES : Hid (T.map (fun (y : List PtrD) => y.take (nn : Int).toNat) = some (ls.take nn)) := Lib.hid (by rw [HTS.out, Int.toNat_natCast]; rfl)
 have hsl := (HPS.out.below HB2.out).slice
 rw [← HLL.out] at hsl
 have HSL := Lib.hid (hsl.takeP hnl)
 have hkc : k ≤ c := hsl.2.1
 clear hsl
 have t6 := celR 6 ((HB2.out.block _ (by omega)).trans HBXR.out)
 have lxx : w.heap.size < wr.heap.size := World.block_lt_of_cell? _ _ t6
 have n0 : (0 : Int) ≤ (nn : Int) := by omega
 have n1 : (nn : Int) ≤ (c : Int) := by omega
 have LW : Hid (w.heap.size ≤ w.heap.size + 1) := Lib.hid (by omega)
 go_wp2_with fail
 exact bodyPost_ret (v := .tuple #[.slice A nn nn, .bool true]) (by simp [results, Tryz.results70, go_sem]) rfl (GotPs.got HRES.out HSL.out LW.out HBW2.out)
end Go.Proofs.YtjnhiiaejeaikaaGreatDoor
