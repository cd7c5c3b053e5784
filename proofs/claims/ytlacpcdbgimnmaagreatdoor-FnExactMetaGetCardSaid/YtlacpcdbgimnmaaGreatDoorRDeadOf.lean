/- Dead references read back, by the program and by the reference. Condition: the library's variables lie as the row says; the text has at most 100000 bytes. -/
import Derived.Test.YtlacpcdbgimnmaaGreatDoorRMetaBack
import Derived.Test.YtlacpcdbgimnmaaGreatDoorRMetaPlain
import Derived.Test.YtlacpcdbgimnmaaGreatDoorRPtrGet
import Derived.Test.YtlacpcdbgimnmaaGreatDoorRSpPtrGet
import Derived.Test.YtlacpcdbgimnmaaGreatDoorRPtr
set_option linter.unnecessarySimpa false
set_option linter.unusedSimpArgs false
set_option linter.unusedVariables false
namespace Go.Proofs.YtlacpcdbgimnmaaGreatDoor
open Go Go.Lib Go.RowKit
theorem infoPtrD : (Tryz.prog.info? 37).map (fun i => (i.zero, i.size, i.bytes)) = some (some (.agg #[.int .i64 0, .int .i64 0, .int .i64 0, .int .i64 0, .int .i64 0]), 5, 40) := by kernel_rfl
theorem PtrsAt.mono {B B' : Nat} {A : Option Addr} {c : Nat} {S : List Nat} {ys : List PtrD} {w : World} (h : PtrsAt B A c S ys w) (hB : B' ≤ B) : PtrsAt B' A c S ys w := ⟨h.1, fun g hg => Nat.le_trans hB (h.2 g hg)⟩
def GotDead (t : Str) (w : World) (e : Ending) (w' : World) : Prop :=
 ∃ (A : Option Addr) (n c : Nat) (S : List Nat) (ds : List PtrD) (ok : Bool), e = .returned (.tuple #[.slice A n c, .bool ok]) ∧ n = ds.length ∧ PtrsAt w.heap.size A c S ds w' ∧ DeadRd t ds ok ∧ ds.length ≤ 100001 ∧ Below w.heap.size w w'
def GotList (t : Str) (w : World) (e : Ending) (w' : World) : Prop :=
 ∃ (A : Option Addr) (n c : Nat) (S : List Nat) (ds : List PtrD), e = .returned (.slice A n c) ∧ n = ds.length ∧ PtrsAt w.heap.size A c S ds w' ∧ DeadRd t ds true ∧ ds.length ≤ 100001 ∧ Below w.heap.size w w'
theorem GotDead.no {t : Str} {w w' : World} {ok : Bool} (h : DeadRd t [] ok) (hb : Below w.heap.size w w') : GotDead t w (.returned (.tuple #[.slice none 0 0, .bool ok])) w' := ⟨none, 0, 0, [], [], ok, rfl, rfl, PtrsAt.nil, h, by simp, hb⟩
theorem Pieces.end_ {t : Str} {ds : List PtrD} {k N : Nat} (h : Pieces (splitC t) k ds) (hk : k = (splitC t).length) (ht : t ≠ []) : DeadRd t ds true := by subst hk; exact h.all ht
set_option maxRecDepth 100000 in
set_option maxHeartbeats 8000000 in
theorem deadOf_any (s : Str) (w : World) (he : Env w) (hs : s.length ≤ 100000) : Calls Tryz.prog 40 #[.string (strB s)] w (GotDead s w) := by
 obtain ⟨i0, hi0, hz0, hz1, hz2⟩ := info_parts infoPtrD
 have HE := Lib.hid he; clear he
 by_cases h0 : s = []
 · have z6 : (strB s).toList.isEmpty = true := by rw [strB_list, h0]; rfl
   have z7 : ((strB s).toList == []) = true := by rw [strB_list, h0]; rfl
   have HD : Hid (DeadRd s [] true) := Lib.hid (by rw [h0]; exact DeadRd.nil)
   clear h0
   go_enter Tryz.func40, Tryz.ntmps40
   go_wp2_with fail
   exact bodyPost_ret (v := .tuple #[.slice none 0 0, .bool true]) (by simp [results, Tryz.results40, go_sem]) rfl (GotDead.no HD.out (Below.refl _ _))
 have z6 : (strB s).toList.isEmpty = false := by rw [strB_list]; cases s <;> simp_all
 have z7 : ((strB s).toList == []) = false := by rw [strB_list]; cases s <;> simp_all
 have H0 := Lib.hid h0; clear h0
 go_enter Tryz.func40, Tryz.ntmps40
 go_wp2_with fail
 refine (splitSC_any s _ HE.out (by omega)).mono ?_
 rintro e w1 ⟨A1, c1, rfl, hI1, hb1⟩
 obtain ⟨xs, hxs⟩ : ∃ xs, xs = splitC s := ⟨_, rfl⟩
 have HXS := Lib.hid hxs
 have HXL : Hid (∀ x ∈ xs, x.length ≤ 100000) := Lib.hid (fun x hx => by have := pieceC_le s x (hxs ▸ hx); omega)
 have HXN : Hid (xs.length ≤ 100001) := Lib.hid (by have := piecesC_le s; rw [hxs]; omega)
 rw [← hxs] at hI1
 rw [← hxs]
 obtain ⟨N, hN⟩ : ∃ N, N = xs.length := ⟨_, rfl⟩
 rw [← hN]
 have HN := Lib.hid hN; clear hN hxs
 have HI1 := Lib.hid hI1; have HB1 := Lib.hid hb1; clear hI1 hb1
 have hNB : N ≤ 100001 := by rw [HN.out]; exact HXN.out
 go_wp2_with fail
 go_loopw [4, 14] (fun t i wr => ∃ (k n c : Nat) (A : Option Addr) (S : List Nat) (ds : List PtrD), k ≤ N ∧ n = k ∧ i = .int .i64 (k : Int) ∧ t = .slice A n c ∧ Hid (n = ds.length) ∧ Hid (Pieces xs k ds) ∧ Hid (PtrsAt w1.heap.size A c S ds wr) ∧ Hid (Below w1.heap.size w1 wr)) (fun _ i _ => N - (RowKit.intOf i).toNat)
 case atStart => exact ⟨0, 0, 0, _, [], [], Nat.zero_le _, rfl, rfl, rfl, Lib.hid rfl, Lib.hid (Pieces.zero _), Lib.hid PtrsAt.nil, Lib.hid (Below.refl _ _)⟩
 obtain ⟨k, n, c, A, S, ds, hk, hnk, rfl, rfl, HNN, HFT, HPS, HB⟩ := hrel
 subst hnk
 have k0 : (0 : Int) ≤ (n : Int) := by omega
 by_cases hlt : n < N
 case pos =>
  have k1 : (n : Int) < (N : Int) := by omega
  obtain ⟨y, hy⟩ : ∃ y, xs[n]? = some y := ⟨xs[n]'(by rw [← HN.out]; exact hlt), List.getElem?_eq_getElem _⟩
  have HY := Lib.hid hy
  have hyl := HXL.out y (List.mem_of_getElem? hy)
  obtain ⟨g, hA, lg, hc⟩ := (HI1.out.below HB.out).cell hy
  subst hA
  clear hy
  go_wp2_with fail
  refine (ptrGet_any y _ (HE.out.below (HB1.out.trans (HB.out.mono HB1.out.size))) (by omega)).mono ?_
  rintro e w2 ⟨a, b, m, d, l, ok, rfl, hp, hb2⟩
  have HB2 := Lib.hid (HB.out.trans (hb2.mono HB.out.size))
  have HPS2 := Lib.hid (HPS.out.below hb2)
  have HP := Lib.hid hp
  clear hc hb2 hp HB HPS
  have HFN := Lib.hid (HFT.out.step HY.out HP.out)
  cases ok
  · have HDD := Lib.hid (dead_bad (ds := []) H0.out (by rw [← HXS.out]; exact HY.out) (piece_no HP.out))
    have HBT := Lib.hid (HB1.out.trans (HB2.out.mono HB1.out.size))
    go_wp2_with fail
    exact bodyPost_ret (v := .tuple #[.slice none 0 0, .bool false]) (by simp [results, Tryz.results40, go_sem]) rfl (GotDead.no HDD.out (Below.alloc HBT.out HBT.out.size _))
  go_wp2_with fail
  refine (ptrHole_any a b m d l _).mono ?_
  rintro e w4 ⟨rfl, hb4⟩
  have z4 : w2.heap.size + 1 ≤ w4.heap.size := by have := hb4.size; simpa using this
  have hb24 : Below w2.heap.size w2 w4 := bel1.trans (hb4.mono (by simp))
  have HB4 := Lib.hid (HB2.out.trans (hb24.mono HB2.out.size))
  have HPS4 := Lib.hid (HPS2.out.below hb24)
  have HX4 : Hid (w4.heap[w2.heap.size]? = some (.cells #[.int .i64 a, .int .i64 b, .int .i64 m, .int .i64 d, .int .i64 l] 37 (0, 0))) := Lib.hid ((hb4.block _ (by simp)).trans (heap_alloc_new _ _))
  clear hb4 hb24 HB2 HPS2
  have l4 : w2.heap.size < w4.heap.size := by omega
  obtain ⟨hh, hhe⟩ : ∃ hh, hh = ptrHole a b m d l := ⟨_, rfl⟩
  rw [← hhe]
  have HHE := Lib.hid hhe.symm; clear hhe
  cases hh
  rotate_left
  · have HDD := Lib.hid (dead_bad (ds := []) H0.out (by rw [← HXS.out]; exact HY.out) (piece_hole HP.out HHE.out))
    have HBT := Lib.hid (HB1.out.trans (HB4.out.mono HB1.out.size))
    go_wp2_with fail
    exact bodyPost_ret (v := .tuple #[.slice none 0 0, .bool false]) (by simp [results, Tryz.results40, go_sem]) rfl (GotDead.no HDD.out HBT.out)
  have x0 := celR 0 HX4.out; have x1 := celR 1 HX4.out; have x2 := celR 2 HX4.out; have x3 := celR 3 HX4.out; have x4 := celR 4 HX4.out
  have HOW : Hid (OwnA (World.alloc w4 (.cells #[.int .i64 a, .int .i64 b, .int .i64 m, .int .i64 d, .int .i64 l] 37)) 37 5 S A n c (ds.flatMap pcL)) := Lib.hid (by have h_ := HPS4.out.1; rw [← HNN.out] at h_; exact h_.below bel1)
  have HLT : Hid (RowAt (World.alloc w4 (.cells #[.int .i64 a, .int .i64 b, .int .i64 m, .int .i64 d, .int .i64 l] 37)) (some ⟨w4.heap.size, 0, none⟩) (1 * 5) [.int .i64 a, .int .i64 b, .int .i64 m, .int .i64 d, .int .i64 l]) := Lib.hid (by have := RowAt.lit (w := w4) (e := 37) (cur := #[.int .i64 a, .int .i64 b, .int .i64 m, .int .i64 d, .int .i64 l]) (m := 5) rfl; simpa using this)
  have HON : Hid (∀ u ∈ ([.int .i64 a, .int .i64 b, .int .i64 m, .int .i64 d, .int .i64 l] : List Value), u.oneCell' = true) := Lib.hid (pcL_one [(a, b, m, d, l)])
  have HSB : Hid (∀ g ∈ S, w1.heap.size ≤ g) := Lib.hid HPS4.out.2
  go_wp2_with (at_builtin; go_must (refine wpList_append_row rfl _ _ 41 rfl 37 i0 (.agg #[.int .i64 0, .int .i64 0, .int .i64 0, .int .i64 0, .int .i64 0]) 5 40 Tryz.underlying41 hi0 hz0 hz1 hz2 rfl (by decide) S A (some ⟨w4.heap.size, 0, none⟩) n c 1 1 (ds.flatMap pcL) [.int .i64 a, .int .i64 b, .int .i64 m, .int .i64 d, .int .i64 l] rfl rfl HOW.out HLT.out HON.out (by unfold maxLen; omega) (by omega) ?_))
  intro A' c' S' w6 hO' hS' hC'
  obtain ⟨hP6, hb6⟩ := app_ptrs (B := w1.heap.size) (fs := ds) (gs := [(a, b, m, d, l)]) HSB.out (w1 := World.alloc w4 (.cells #[.int .i64 a, .int .i64 b, .int .i64 m, .int .i64 d, .int .i64 l] 37)) (by have := HB4.out.size; simp at this ⊢ <;> omega) (by rw [List.length_append, ← HNN.out] <;> rfl) (by simpa [pcL] using hO') (fun g hg => (hS' g hg).imp id (fun h => by simpa using h)) hC'
  have HP6 := Lib.hid hP6
  have hbW : Below w1.heap.size w1 (World.alloc w4 (.cells #[.int .i64 a, .int .i64 b, .int .i64 m, .int .i64 d, .int .i64 l] 37)) := Below.alloc HB4.out (by have := HB4.out.size; simp at this ⊢ <;> omega) _
  have HB6 : Hid (Below w1.heap.size w1 w6) := Lib.hid (hbW.trans hb6)
  clear hO' hS' hC' HOW HLT HON HSB hP6 hb6 hbW
  go_wp2_with fail
  go_roundw
  case rel => exact ⟨n + 1, n + 1, c', A', S', ds ++ [(a, b, m, d, l)], by omega, rfl, by go_num, rfl, Lib.hid (by rw [List.length_append, ← HNN.out] <;> rfl), HFN, HP6, HB6⟩
  simp [RowKit.intOf]; omega
 obtain rfl : n = N := by omega
 have HDD : Hid (DeadRd s ds true) := Lib.hid (Pieces.end_ (N := 0) (by have h_ := HFT.out; rw [HXS.out] at h_; exact h_) (by rw [HN.out, HXS.out]) H0.out)
 have hnl := HNN.out
 go_wp2_with fail
 exact bodyPost_ret (v := .tuple #[.slice A n c, .bool true]) (by simp [results, Tryz.results40, go_sem]) rfl ⟨A, n, c, S, ds, true, rfl, HNN.out, HPS.out.mono HB1.out.size, HDD.out, by omega, HB1.out.trans (HB.out.mono HB1.out.size)⟩
set_option maxRecDepth 100000 in
set_option maxHeartbeats 8000000 in
theorem l21List_any (s : Str) (w : World) (hs : s.length ≤ 100000) : Calls Tryz.prog 12 #[.string (strB s)] w (GotList s w) := by
 obtain ⟨i0, hi0, hz0, hz1, hz2⟩ := info_parts infoPtrD
 by_cases h0 : s = []
 · have z6 : (strB s).toList.isEmpty = true := by rw [strB_list, h0]; rfl
   have z7 : ((strB s).toList == []) = true := by rw [strB_list, h0]; rfl
   have z8 : ((strB s).toList != []) = false := by rw [strB_list, h0]; rfl
   have HD : Hid (DeadRd s [] true) := Lib.hid (by rw [h0]; exact DeadRd.nil)
   obtain ⟨xs, hxs⟩ : ∃ xs, xs = splitC s := ⟨_, rfl⟩
   have hN1 : xs.length = 1 := by rw [hxs, h0]; rfl
   have HXS := Lib.hid hxs; have HN1 := Lib.hid hN1
   clear h0 hxs hN1
   go_enter Tryz.func12, Tryz.ntmps12
   go_wp2_with fail
   refine (l2CutC_any s _ (by omega)).mono ?_
   rw [← HXS.out]
   rintro e w1 ⟨A1, c1, rfl, hI1, hb1⟩
   rw [HN1.out]
   have HB1 : Hid (Below w.heap.size w w1) := Lib.hid (Below.trans (bel1 (o := .cells #[] 37)) (hb1.mono (by simp)))
   clear hI1 hb1
   go_wp2_with fail
   refine wp_loop_rounds 1 ?_
   rw [rounds_succ]
   go_wp2_with fail
   exact bodyPost_ret (v := .slice (some ⟨w.heap.size, 0, none⟩) 0 0) (by simp [results, Tryz.results12, go_sem]) rfl ⟨_, 0, 0, [], [], rfl, rfl, PtrsAt.nil, HD.out, by simp, HB1.out⟩
 have z6 : (strB s).toList.isEmpty = false := by rw [strB_list]; cases s <;> simp_all
 have z7 : ((strB s).toList == []) = false := by rw [strB_list]; cases s <;> simp_all
 have z8 : ((strB s).toList != []) = true := by rw [strB_list]; cases s <;> simp_all
 have H0 := Lib.hid h0; clear h0
 go_enter Tryz.func12, Tryz.ntmps12
 go_wp2_with fail
 refine (l2CutC_any s _ (by omega)).mono ?_
 rintro e w1 ⟨A1, c1, rfl, hI1, hb1⟩
 obtain ⟨xs, hxs⟩ : ∃ xs, xs = splitC s := ⟨_, rfl⟩
 have HXS := Lib.hid hxs
 have HXL : Hid (∀ x ∈ xs, x.length ≤ 100000) := Lib.hid (fun x hx => by have := pieceC_le s x (hxs ▸ hx); omega)
 have HXN : Hid (xs.length ≤ 100001) := Lib.hid (by have := piecesC_le s; rw [hxs]; omega)
 rw [← hxs] at hI1
 rw [← hxs]
 obtain ⟨N, hN⟩ : ∃ N, N = xs.length := ⟨_, rfl⟩
 rw [← hN]
 have HN := Lib.hid hN; clear hN hxs
 have HI1 := Lib.hid hI1; have HB1 : Hid (Below w.heap.size w w1) := Lib.hid (Below.trans (bel1 (o := .cells #[] 37)) (hb1.mono (by simp))); clear hI1 hb1
 have hNB : N ≤ 100001 := by rw [HN.out]; exact HXN.out
 go_wp2_with fail
 go_loopw [3, 5] (fun t i wr => ∃ (k n c : Nat) (A : Option Addr) (S : List Nat) (ds : List PtrD), k ≤ N ∧ n = k ∧ i = .int .i64 (k : Int) ∧ t = .slice A n c ∧ Hid (n = ds.length) ∧ Hid (Pieces xs k ds) ∧ Hid (PtrsAt w1.heap.size A c S ds wr) ∧ Hid (Below w1.heap.size w1 wr)) (fun _ i _ => N - (RowKit.intOf i).toNat)
 case atStart => exact ⟨0, 0, 0, _, [], [], Nat.zero_le _, rfl, rfl, rfl, Lib.hid rfl, Lib.hid (Pieces.zero _), Lib.hid PtrsAt.nil, Lib.hid (Below.refl _ _)⟩
 obtain ⟨k, n, c, A, S, ds, hk, hnk, rfl, rfl, HNN, HFT, HPS, HB⟩ := hrel
 subst hnk
 have k0 : (0 : Int) ≤ (n : Int) := by omega
 by_cases hlt : n < N
 case pos =>
  have k1 : (n : Int) < (N : Int) := by omega
  obtain ⟨y, hy⟩ : ∃ y, xs[n]? = some y := ⟨xs[n]'(by rw [← HN.out]; exact hlt), List.getElem?_eq_getElem _⟩
  have HY := Lib.hid hy
  have hyl := HXL.out y (List.mem_of_getElem? hy)
  obtain ⟨g, hA, lg, hc⟩ := (HI1.out.below HB.out).cell hy
  subst hA
  clear hy
  go_wp2_with fail
  refine (spPtrGet_any y _ (by omega)).mono ?_
  rintro e w2 ⟨a, b, m, d, l, ok, rfl, hp, hb2⟩
  have HB2 := Lib.hid (HB.out.trans (hb2.mono HB.out.size))
  have HPS2 := Lib.hid (HPS.out.below hb2)
  have HP := Lib.hid hp
  clear hc hb2 hp HB HPS
  have HFN := Lib.hid (HFT.out.step HY.out HP.out)
  have HOW : Hid (OwnA (World.alloc (w2.alloc (.cells #[.int .i64 a, .int .i64 b, .int .i64 m, .int .i64 d, .int .i64 l] 37)) (.cells #[.int .i64 a, .int .i64 b, .int .i64 m, .int .i64 d, .int .i64 l] 37)) 37 5 S A n c (ds.flatMap pcL)) := Lib.hid (by have h_ := (HPS2.out.below (bel1 (o := .cells #[.int .i64 a, .int .i64 b, .int .i64 m, .int .i64 d, .int .i64 l] 37))).1; rw [← HNN.out] at h_; exact h_.below bel1)
  have HLT : Hid (RowAt (World.alloc (w2.alloc (.cells #[.int .i64 a, .int .i64 b, .int .i64 m, .int .i64 d, .int .i64 l] 37)) (.cells #[.int .i64 a, .int .i64 b, .int .i64 m, .int .i64 d, .int .i64 l] 37)) (some ⟨w2.heap.size + 1, 0, none⟩) (1 * 5) [.int .i64 a, .int .i64 b, .int .i64 m, .int .i64 d, .int .i64 l]) := Lib.hid (by have := RowAt.lit (w := (w2.alloc (.cells #[.int .i64 a, .int .i64 b, .int .i64 m, .int .i64 d, .int .i64 l] 37))) (e := 37) (cur := #[.int .i64 a, .int .i64 b, .int .i64 m, .int .i64 d, .int .i64 l]) (m := 5) rfl; simpa using this)
  have HON : Hid (∀ u ∈ ([.int .i64 a, .int .i64 b, .int .i64 m, .int .i64 d, .int .i64 l] : List Value), u.oneCell' = true) := Lib.hid (pcL_one [(a, b, m, d, l)])
  have HSB : Hid (∀ g ∈ S, w1.heap.size ≤ g) := Lib.hid (HPS2.out.below (bel1 (o := .cells #[.int .i64 a, .int .i64 b, .int .i64 m, .int .i64 d, .int .i64 l] 37))).2
  go_wp2_with (at_builtin; go_must (refine wpList_append_row rfl _ _ 41 rfl 37 i0 (.agg #[.int .i64 0, .int .i64 0, .int .i64 0, .int .i64 0, .int .i64 0]) 5 40 Tryz.underlying41 hi0 hz0 hz1 hz2 rfl (by decide) S A (some ⟨w2.heap.size + 1, 0, none⟩) n c 1 1 (ds.flatMap pcL) [.int .i64 a, .int .i64 b, .int .i64 m, .int .i64 d, .int .i64 l] rfl rfl HOW.out HLT.out HON.out (by unfold maxLen; omega) (by omega) ?_))
  intro A' c' S' w6 hO' hS' hC'
  obtain ⟨hP6, hb6⟩ := app_ptrs (B := w1.heap.size) (fs := ds) (gs := [(a, b, m, d, l)]) HSB.out (w1 := World.alloc (w2.alloc (.cells #[.int .i64 a, .int .i64 b, .int .i64 m, .int .i64 d, .int .i64 l] 37)) (.cells #[.int .i64 a, .int .i64 b, .int .i64 m, .int .i64 d, .int .i64 l] 37)) (by have := (Below.alloc HB2.out HB2.out.size (.cells #[.int .i64 a, .int .i64 b, .int .i64 m, .int .i64 d, .int .i64 l] 37)).size; simp at this ⊢ <;> omega) (by rw [List.length_append, ← HNN.out] <;> rfl) (by simpa [pcL] using hO') (fun g hg => (hS' g hg).imp id (fun h => by simpa using h)) hC'
  have HP6 := Lib.hid hP6
  have hbW : Below w1.heap.size w1 (World.alloc (w2.alloc (.cells #[.int .i64 a, .int .i64 b, .int .i64 m, .int .i64 d, .int .i64 l] 37)) (.cells #[.int .i64 a, .int .i64 b, .int .i64 m, .int .i64 d, .int .i64 l] 37)) := Below.alloc (Below.alloc HB2.out HB2.out.size (.cells #[.int .i64 a, .int .i64 b, .int .i64 m, .int .i64 d, .int .i64 l] 37)) (by have := (Below.alloc HB2.out HB2.out.size (.cells #[.int .i64 a, .int .i64 b, .int .i64 m, .int .i64 d, .int .i64 l] 37)).size; simp at this ⊢ <;> omega) _
  have HB6 : Hid (Below w1.heap.size w1 w6) := Lib.hid (hbW.trans hb6)
  clear hO' hS' hC' HOW HLT HON HSB hP6 hb6 hbW
  go_wp2_with fail
  go_roundw
  case rel => exact ⟨n + 1, n + 1, c', A', S', ds ++ [(a, b, m, d, l)], by omega, rfl, by go_num, rfl, Lib.hid (by rw [List.length_append, ← HNN.out] <;> rfl), HFN, HP6, HB6⟩
  simp [RowKit.intOf]; omega
 obtain rfl : n = N := by omega
 have HDD : Hid (DeadRd s ds true) := Lib.hid (Pieces.end_ (N := 0) (by have h_ := HFT.out; rw [HXS.out] at h_; exact h_) (by rw [HN.out, HXS.out]) H0.out)
 have hnl := HNN.out
 go_wp2_with fail
 exact bodyPost_ret (v := .slice A n c) (by simp [results, Tryz.results12, go_sem]) rfl ⟨A, n, c, S, ds, rfl, HNN.out, HPS.out.mono HB1.out.size, HDD.out, by omega, HB1.out.trans (HB.out.mono HB1.out.size)⟩
end Go.Proofs.YtlacpcdbgimnmaaGreatDoor
