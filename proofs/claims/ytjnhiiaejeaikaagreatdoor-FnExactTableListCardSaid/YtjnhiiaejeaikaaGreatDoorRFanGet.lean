/- FanGet both: the pointers of an indirect block. Condition: the library's variables lie as the row says; the text has at most 100000 bytes. -/
import Derived.Test.YtjnhiiaejeaikaaGreatDoorRFanPut
import Derived.Test.YtjnhiiaejeaikaaGreatDoorRPtrGet
import Derived.Test.YtjnhiiaejeaikaaGreatDoorRSpPtrGet
set_option linter.unnecessarySimpa false
set_option linter.unusedSimpArgs false
set_option linter.unusedVariables false
namespace Go.Proofs.YtjnhiiaejeaikaaGreatDoor
open Go Go.Lib Go.RowKit
theorem infoPtr : (Tryz.prog.info? 41).map (fun i => (i.zero, i.size, i.bytes)) = some (some (.agg #[.int .i64 0, .int .i64 0, .int .i64 0, .int .i64 0, .int .i64 0]), 5, 40) := by kernel_rfl
theorem StrsIn.cellP {B : Nat} {w : World} {A : Option Addr} {c : Nat} {fs : List Str} (h : StrsIn B w A c fs) {j : Nat} {f : Str} (hf : fs[j]? = some f) : ∃ g, A = some ⟨g, 0, none⟩ ∧ g < w.heap.size ∧ w.cell? ⟨g, j, none⟩ = some (.string (strB f)) := h.cell hf
theorem PtrsAt.mono {B B' : Nat} {A : Option Addr} {c : Nat} {S : List Nat} {ys : List PtrD} {w : World} (h : PtrsAt B A c S ys w) (hB : B' ≤ B) : PtrsAt B' A c S ys w := ⟨h.1, fun g hg => Nat.le_trans hB (h.2 g hg)⟩
structure FanTo (xs : List Str) (k : Nat) (ps : List PtrD) : Prop where
 len : ps.length = k
 ok : ∀ p ∈ ps, okP p = true
 txt : xs.take k = ps.map ptrT
theorem FanTo.zero (xs : List Str) : FanTo xs 0 [] := ⟨rfl, by simp, by simp⟩
theorem FanTo.step {xs : List Str} {k : Nat} {ps : List PtrD} {p : PtrD} {y : Str} (h : FanTo xs k ps) (hy : xs[k]? = some y) (hok : okP p = true) (ht : ptrT p = y) : FanTo xs (k + 1) (ps ++ [p]) := by
 refine ⟨by rw [List.length_append, h.len]; rfl, ?_, ?_⟩
 · intro q hq
   rcases List.mem_append.1 hq with hq | hq
   · exact h.ok q hq
   rw [List.mem_singleton] at hq; subst hq; exact hok
 rw [List.take_add_one, hy, h.txt, List.map_append, ← ht]; rfl
theorem FanTo.all {xs : List Str} {ps : List PtrD} (h : FanTo xs xs.length ps) : xs = ps.map ptrT := by rw [← h.txt, List.take_length]
theorem ptrIs_ok {s : Str} {a b m d l : Int} (h : ptrIs s a b m d l true) : okP (a, b, m, d, l) = true ∧ ptrT (a, b, m, d, l) = s := by
 rcases h with ⟨_, h1, h2⟩ | ⟨h, _⟩
 · exact ⟨h1, h2⟩
 cases h
theorem ptrIs_no {s : Str} {a b m d l : Int} (h : ptrIs s a b m d l false) : ∀ p, okP p = true → ptrT p ≠ s := by
 rcases h with ⟨h, _⟩ | ⟨_, _, h2⟩
 · cases h
 exact fun p hp => h2 p.1 p.2.1 p.2.2.1 p.2.2.2.1 p.2.2.2.2 hp
theorem fan_all_holes {s : Str} {ps : List PtrD} (h : FanTo (splitC s) (splitC s).length ps) (hh : ps.any someB = false) : fanGet s = none := fan_holes h.all h.ok (fun p hp => by
 rw [List.any_eq_false] at hh
 have := hh p hp
 unfold someB at this
 simpa using this)
theorem fan_found {s : Str} {ps : List PtrD} (h : FanTo (splitC s) (splitC s).length ps) (h4 : ps.length = 4) (hh : ps.any someB = true) : fanGet s = some ps := fanGet_yes (by
 rw [List.any_eq_true] at hh
 obtain ⟨p, hp, hn⟩ := hh
 exact ⟨h4, h.ok, ⟨p, hp, by unfold someB at hn; simpa using hn⟩, h.all⟩)
theorem fanPut_of {s : Str} {ps : List PtrD} (h : FanTo (splitC s) (splitC s).length ps) : fanPut ps = if ps.length = 4 ∧ ps.any someB = true then some s else none := by
 unfold fanPut
 have h1 : ps.all okP = true := by rw [List.all_eq_true]; exact h.ok
 have h2 : ps.all holeP = !ps.any someB := by
  unfold someB
  rw [List.not_any_eq_all_not]
  congr 1
  funext p
  simp
 rw [h1, h2, fan_join h.all]
 by_cases h4 : ps.length = 4
 · cases ps.any someB <;> simp [h4]
 simp [h4]
theorem GotPs.yes {o : Option (List PtrD)} {ps : List PtrD} {w w' : World} {A : Option Addr} {n c : Nat} {S : List Nat} (h : o = some ps) (hn : n = ps.length) (hp : PtrsAt w.heap.size A c S ps w') (hb : Below w.heap.size w w') : GotPs o w (.returned (.tuple #[.slice A n c, .bool true])) w' := by
 subst hn
 exact ⟨A, _, c, ps, true, rfl, by rw [h]; rfl, fun qs e => by rw [h] at e; exact Option.some.inj e, hp.slice, hb⟩
set_option maxRecDepth 100000 in
set_option maxHeartbeats 8000000 in
theorem fanGet_any (s : Str) (w : World) (he : Env w) (hs : s.length ≤ 100000) : Calls Tryz.prog 97 #[.string (strB s)] w (GotPs (fanGet s) w) := by
 obtain ⟨i0, hi0, hz0, hz1, hz2⟩ := info_parts infoPtr
 have HE := Lib.hid he; clear he
 go_enter Tryz.func97, Tryz.ntmps97
 go_wp2_with fail
 refine (splitSC_any s _ HE.out (by omega)).mono ?_
 rintro e w1 ⟨A1, c1, rfl, hI1, hb1⟩
 obtain ⟨xs, hxs⟩ : ∃ xs, xs = splitC s := ⟨_, rfl⟩
 have HXS := Lib.hid hxs
 have HXL : Hid (∀ x ∈ xs, x.length ≤ 100000) := Lib.hid (fun x hx => by have := pieceC_le s x (hxs ▸ hx); omega)
 have HXN : Hid (xs.length ≤ 100001) := Lib.hid (by have := piecesC_le s; rw [hxs]; omega)
 rw [← hxs] at hI1
 rw [← hxs]
 obtain ⟨N, hN⟩ : ∃ N, N = xs.length := ⟨_, rfl⟩
 rw [← hN]
 have HN := Lib.hid hN; clear hN hxs
 have HI1 := Lib.hid hI1; have HB1 := Lib.hid hb1; clear hI1 hb1
 have hNB : N ≤ 100001 := by rw [HN.out]; exact HXN.out
 go_wp2_with fail
 go_loopw [4, 14] (fun t i wr => ∃ (k n c : Nat) (A : Option Addr) (S : List Nat) (ps : List PtrD), k ≤ N ∧ k ≤ 4 ∧ n = k ∧ i = .int .i64 (k : Int) ∧ t = .slice A n c ∧ Hid (n = ps.length) ∧ Hid (FanTo xs k ps) ∧ Hid (PtrsAt w1.heap.size A c S ps wr) ∧ Hid (Below w1.heap.size w1 wr)) (fun _ i _ => N - (RowKit.intOf i).toNat)
 case atStart => exact ⟨0, 0, 0, _, [], [], Nat.zero_le _, by omega, rfl, rfl, rfl, Lib.hid rfl, Lib.hid (FanTo.zero _), Lib.hid PtrsAt.nil, Lib.hid (Below.refl _ _)⟩
 obtain ⟨k, n, c, A, S, ps, hk, hk4, hnk, rfl, rfl, HNN, HFT, HPS, HB⟩ := hrel
 subst hnk
 have k0 : (0 : Int) ≤ (n : Int) := by omega
 by_cases hlt : n < N
 case pos =>
  have k1 : (n : Int) < (N : Int) := by omega
  obtain ⟨y, hy⟩ : ∃ y, xs[n]? = some y := ⟨xs[n]'(by rw [← HN.out]; exact hlt), List.getElem?_eq_getElem _⟩
  have HY := Lib.hid hy
  have hyl := HXL.out y (List.mem_of_getElem? hy)
  obtain ⟨g, hA, lg, hc⟩ := (HI1.out.below HB.out).cellP hy
  subst hA
  clear hy
  go_wp2_with fail
  refine (ptrGet_any y _ (HE.out.below (HB1.out.trans (HB.out.mono HB1.out.size))) (by omega)).mono ?_
  rintro e w2 ⟨a, b, m, d, l, ok, rfl, hp, hb2⟩
  have HB2 := Lib.hid (HB.out.trans (hb2.mono HB.out.size))
  have HPS2 := Lib.hid (HPS.out.below hb2)
  have HP := Lib.hid hp
  clear hc hb2 hp HB HPS
  cases ok
  · have HNO := Lib.hid (fan_bad (s := s) (k := n) (y := y) (by rw [← HXS.out]; exact HY.out) (ptrIs_no HP.out))
    go_wp2_with fail
    have HBT := Lib.hid (HB1.out.trans (HB2.out.mono HB1.out.size))
    exact bodyPost_ret (v := .tuple #[.slice none 0 0, .bool false]) (by simp [results, Tryz.results97, go_sem]) rfl (GotPs.no HNO.out (Below.alloc HBT.out HBT.out.size _))
  obtain ⟨hpo, hpt⟩ := ptrIs_ok HP.out
  have HFN := Lib.hid (HFT.out.step HY.out hpo hpt)
  clear hpo hpt
  by_cases h4 : n = 4
  · have HNO := Lib.hid (fan_len (s := s) (by rw [← HXS.out, ← HN.out]; omega))
    have d4 : ((n : Int) == 4) = true := by simp; omega
    have HBT := Lib.hid (HB1.out.trans (HB2.out.mono HB1.out.size))
    go_wp2_with fail
    exact bodyPost_ret (v := .tuple #[.slice none 0 0, .bool false]) (by simp [results, Tryz.results97, go_sem]) rfl (GotPs.no HNO.out (Below.alloc HBT.out HBT.out.size _))
  have d4 : ((n : Int) == 4) = false := by simp; omega
  have HOW : Hid (OwnA (World.alloc (w2.alloc (.cells #[.int .i64 a, .int .i64 b, .int .i64 m, .int .i64 d, .int .i64 l] 41)) (.cells #[.int .i64 a, .int .i64 b, .int .i64 m, .int .i64 d, .int .i64 l] 41)) 41 5 S A n c (ps.flatMap pcL)) := Lib.hid (by have h_ := (HPS2.out.below (bel1 (o := .cells #[.int .i64 a, .int .i64 b, .int .i64 m, .int .i64 d, .int .i64 l] 41))).1; rw [← HNN.out] at h_; exact h_.below bel1)
  have HLT : Hid (RowAt (World.alloc (w2.alloc (.cells #[.int .i64 a, .int .i64 b, .int .i64 m, .int .i64 d, .int .i64 l] 41)) (.cells #[.int .i64 a, .int .i64 b, .int .i64 m, .int .i64 d, .int .i64 l] 41)) (some ⟨w2.heap.size + 1, 0, none⟩) (1 * 5) [.int .i64 a, .int .i64 b, .int .i64 m, .int .i64 d, .int .i64 l]) := Lib.hid (by have := RowAt.lit (w := (w2.alloc (.cells #[.int .i64 a, .int .i64 b, .int .i64 m, .int .i64 d, .int .i64 l] 41))) (e := 41) (cur := #[.int .i64 a, .int .i64 b, .int .i64 m, .int .i64 d, .int .i64 l]) (m := 5) rfl; simpa using this)
  have HON : Hid (∀ u ∈ ([.int .i64 a, .int .i64 b, .int .i64 m, .int .i64 d, .int .i64 l] : List Value), u.oneCell' = true) := Lib.hid (pcL_one [(a, b, m, d, l)])
  have HSB : Hid (∀ g ∈ S, w1.heap.size ≤ g) := Lib.hid (HPS2.out.below (bel1 (o := .cells #[.int .i64 a, .int .i64 b, .int .i64 m, .int .i64 d, .int .i64 l] 41))).2
  go_wp2_with (at_builtin; go_must (refine wpList_append_row rfl _ _ 37 rfl 41 i0 (.agg #[.int .i64 0, .int .i64 0, .int .i64 0, .int .i64 0, .int .i64 0]) 5 40 Tryz.underlying37 hi0 hz0 hz1 hz2 rfl (by decide) S A (some ⟨w2.heap.size + 1, 0, none⟩) n c 1 1 (ps.flatMap pcL) [.int .i64 a, .int .i64 b, .int .i64 m, .int .i64 d, .int .i64 l] rfl rfl HOW.out HLT.out HON.out (by unfold maxLen; omega) (by omega) ?_))
  intro A' c' S' w6 hO' hS' hC'
  obtain ⟨hP6, hb6⟩ := app_ptrs (B := w1.heap.size) (fs := ps) (gs := [(a, b, m, d, l)]) HSB.out (w1 := World.alloc (w2.alloc (.cells #[.int .i64 a, .int .i64 b, .int .i64 m, .int .i64 d, .int .i64 l] 41)) (.cells #[.int .i64 a, .int .i64 b, .int .i64 m, .int .i64 d, .int .i64 l] 41)) (by have := (Below.alloc HB2.out HB2.out.size (.cells #[.int .i64 a, .int .i64 b, .int .i64 m, .int .i64 d, .int .i64 l] 41)).size; simp at this ⊢ <;> omega) (by rw [List.length_append, ← HNN.out] <;> rfl) (by simpa [pcL] using hO') (fun g hg => (hS' g hg).imp id (fun h => by simpa using h)) hC'
  have HP6 := Lib.hid hP6
  have hbW : Below w1.heap.size w1 (World.alloc (w2.alloc (.cells #[.int .i64 a, .int .i64 b, .int .i64 m, .int .i64 d, .int .i64 l] 41)) (.cells #[.int .i64 a, .int .i64 b, .int .i64 m, .int .i64 d, .int .i64 l] 41)) := Below.alloc (Below.alloc HB2.out HB2.out.size (.cells #[.int .i64 a, .int .i64 b, .int .i64 m, .int .i64 d, .int .i64 l] 41)) (by have := (Below.alloc HB2.out HB2.out.size (.cells #[.int .i64 a, .int .i64 b, .int .i64 m, .int .i64 d, .int .i64 l] 41)).size; simp at this ⊢ <;> omega) _
  have HB6 : Hid (Below w1.heap.size w1 w6) := Lib.hid (hbW.trans hb6)
  clear hO' hS' hC' HOW HLT HON HSB hP6 hb6 hbW
  go_wp2_with fail
  go_roundw
  case rel => exact ⟨n + 1, n + 1, c', A', S', ps ++ [(a, b, m, d, l)], by omega, by omega, rfl, by go_num, rfl, Lib.hid (by rw [List.length_append, ← HNN.out] <;> rfl), HFN, HP6, HB6⟩
  simp [RowKit.intOf]; omega
 obtain rfl : n = N := by omega
 have HALL : Hid (FanTo (splitC s) (splitC s).length ps) := Lib.hid (by have h_ := HFT.out; rw [HXS.out] at h_; rw [← HXS.out, ← HN.out, HXS.out]; exact h_)
 have HFP := Lib.hid (fanPut_of HALL.out)
 obtain ⟨q4, hq4⟩ : ∃ b, b = (decide (ps.length = 4) && ps.any someB) := ⟨_, rfl⟩
 have HSL : Hid (SliceR PtrR 5 wr w1.heap.size wr.heap.size A n c ps) := Lib.hid (by have h_ := HPS.out.slice; rw [← HNN.out] at h_; exact h_)
 have HEN := Lib.hid (HE.out.below (HB1.out.trans (HB.out.mono HB1.out.size))).tab
 cases q4
 · have HF2 : Hid (fanPut ps = none) := Lib.hid (by rw [HFP.out, if_neg (fun h => by rw [decide_eq_true h.1, h.2] at hq4; cases hq4)])
   have HNO : Hid (fanGet s = none) := Lib.hid (by
    by_cases h4 : ps.length = 4
    · refine fan_all_holes HALL.out ?_
      cases ha : ps.any someB with
      | false => rfl
      | true => rw [decide_eq_true h4, ha] at hq4; cases hq4
    · exact fan_len (by rw [← HALL.out.len]; exact h4))
   clear hq4
   go_wp2_with fail
   refine (fanPut_any A n c ps _ _ _ HEN.out HSL.out).mono ?_
   unfold PutFan
   rw [HF2.out]
   obtain ⟨tx, htx⟩ : ∃ tx, tx = strB ((none : Option Str).getD []) := ⟨_, rfl⟩
   rw [← htx]
   simp only [Option.isSome_none]
   clear htx
   rintro e w5 ⟨rfl, hb5⟩
   have HB5 := Lib.hid (HB1.out.trans ((HB.out.trans (hb5.mono HB.out.size)).mono HB1.out.size))
   clear hb5
   go_wp2_with fail
   exact bodyPost_ret (v := .tuple #[.slice none 0 0, .bool false]) (by simp [results, Tryz.results97, go_sem]) rfl (GotPs.no HNO.out HB5.out)
 obtain ⟨h4, h5⟩ : ps.length = 4 ∧ ps.any someB = true := by simpa using hq4.symm
 have HF2 : Hid (fanPut ps = some s) := Lib.hid (by rw [HFP.out, if_pos ⟨h4, h5⟩])
 have HYS := Lib.hid (fan_found HALL.out h4 h5)
 have deq : ((strB s).toList == (strB s).toList) = true := by simp
 clear h4 h5 hq4
 go_wp2_with fail
 refine (fanPut_any A n c ps _ _ _ HEN.out HSL.out).mono ?_
 unfold PutFan
 rw [HF2.out]
 simp only [Option.isSome_some, Option.getD_some]
 rintro e w5 ⟨rfl, hb5⟩
 have HB5 := Lib.hid (HB1.out.trans ((HB.out.trans (hb5.mono HB.out.size)).mono HB1.out.size))
 have HPS5 := Lib.hid ((HPS.out.below hb5).mono HB1.out.size)
 clear hb5
 go_wp2_with fail
 exact bodyPost_ret (v := .tuple #[.slice A n c, .bool true]) (by simp [results, Tryz.results97, go_sem]) rfl (GotPs.yes HYS.out HNN.out HPS5.out HB5.out)
set_option maxRecDepth 100000 in
set_option maxHeartbeats 8000000 in
theorem spFanGet_any (s : Str) (w : World) (hs : s.length ≤ 100000) : Calls Tryz.prog 96 #[.string (strB s)] w (GotPs (fanGet s) w) := by
 obtain ⟨i0, hi0, hz0, hz1, hz2⟩ := info_parts infoPtr
 go_enter Tryz.func96, Tryz.ntmps96
 go_wp2_with fail
 refine (l2CutC_any s _ (by omega)).mono ?_
 rintro e w1 ⟨A1, c1, rfl, hI1, hb1⟩
 obtain ⟨xs, hxs⟩ : ∃ xs, xs = splitC s := ⟨_, rfl⟩
 have HXS := Lib.hid hxs
 have HXL : Hid (∀ x ∈ xs, x.length ≤ 100000) := Lib.hid (fun x hx => by have := pieceC_le s x (hxs ▸ hx); omega)
 have HXN : Hid (xs.length ≤ 100001) := Lib.hid (by have := piecesC_le s; rw [hxs]; omega)
 rw [← hxs] at hI1
 rw [← hxs]
 obtain ⟨N, hN⟩ : ∃ N, N = xs.length := ⟨_, rfl⟩
 rw [← hN]
 have HN := Lib.hid hN; clear hN hxs
 have HI1 := Lib.hid hI1; have HB1 := Lib.hid hb1; clear hI1 hb1
 have hNB : N ≤ 100001 := by rw [HN.out]; exact HXN.out
 go_wp2_with fail
 go_loopw [5, 6, 7] (fun t b i wr => ∃ (k n c : Nat) (A : Option Addr) (S : List Nat) (ps : List PtrD) (bb : Bool), k ≤ N ∧ n = k ∧ i = .int .i64 (k : Int) ∧ t = .slice A n c ∧ b = .bool bb ∧ Hid (bb = ps.any someB) ∧ Hid (n = ps.length) ∧ Hid (FanTo xs k ps) ∧ Hid (PtrsAt w1.heap.size A c S ps wr) ∧ Hid (Below w1.heap.size w1 wr)) (fun _ _ i _ => N - (RowKit.intOf i).toNat)
 case atStart => exact ⟨0, 0, 0, _, [], [], false, Nat.zero_le _, rfl, rfl, rfl, rfl, Lib.hid rfl, Lib.hid rfl, Lib.hid (FanTo.zero _), Lib.hid PtrsAt.nil, Lib.hid bel1⟩
 obtain ⟨k, n, c, A, S, ps, bb, hk, hnk, rfl, rfl, rfl, HBB, HNN, HFT, HPS, HB⟩ := hrel
 subst hnk
 have k0 : (0 : Int) ≤ (n : Int) := by omega
 by_cases hlt : n < N
 case pos =>
  have k1 : (n : Int) < (N : Int) := by omega
  obtain ⟨y, hy⟩ : ∃ y, xs[n]? = some y := ⟨xs[n]'(by rw [← HN.out]; exact hlt), List.getElem?_eq_getElem _⟩
  have HY := Lib.hid hy
  have hyl := HXL.out y (List.mem_of_getElem? hy)
  obtain ⟨g, hA, lg, hc⟩ := (HI1.out.below HB.out).cellP hy
  subst hA
  clear hy
  go_wp2_with fail
  refine (spPtrGet_any y _ (by omega)).mono ?_
  rintro e w2 ⟨a, b, m, d, l, ok, rfl, hp, hb2⟩
  have HB2 := Lib.hid (HB.out.trans (hb2.mono HB.out.size))
  have HPS2 := Lib.hid (HPS.out.below hb2)
  have HP := Lib.hid hp
  clear hc hb2 hp HB HPS
  cases ok
  · have HNO := Lib.hid (fan_bad (s := s) (k := n) (y := y) (by rw [← HXS.out]; exact HY.out) (ptrIs_no HP.out))
    go_wp2_with fail
    have HBT := Lib.hid (HB1.out.trans (HB2.out.mono HB1.out.size))
    exact bodyPost_ret (v := .tuple #[.slice (some ⟨w2.heap.size + 1, 0, none⟩) 0 0, .bool false]) (by simp [results, Tryz.results96, go_sem]) rfl (GotPs.no HNO.out (Below.alloc (Below.alloc HBT.out HBT.out.size _) (by have := HBT.out.size; simp; omega) _))
  obtain ⟨hpo, hpt⟩ := ptrIs_ok HP.out
  have HFN := Lib.hid (HFT.out.step HY.out hpo hpt)
  clear hpo hpt
  cases bb
  rotate_left
  · have HAN : Hid (true = (ps ++ [(a, b, m, d, l)]).any someB) := Lib.hid (by rw [List.any_append, ← HBB.out]; rfl)
    have HOW : Hid (OwnA (World.alloc (w2.alloc (.cells #[.int .i64 a, .int .i64 b, .int .i64 m, .int .i64 d, .int .i64 l] 41)) (.cells #[.int .i64 a, .int .i64 b, .int .i64 m, .int .i64 d, .int .i64 l] 41)) 41 5 S A n c (ps.flatMap pcL)) := Lib.hid (by have h_ := (HPS2.out.below (bel1 (o := .cells #[.int .i64 a, .int .i64 b, .int .i64 m, .int .i64 d, .int .i64 l] 41))).1; rw [← HNN.out] at h_; exact h_.below bel1)
    have HLT : Hid (RowAt (World.alloc (w2.alloc (.cells #[.int .i64 a, .int .i64 b, .int .i64 m, .int .i64 d, .int .i64 l] 41)) (.cells #[.int .i64 a, .int .i64 b, .int .i64 m, .int .i64 d, .int .i64 l] 41)) (some ⟨w2.heap.size + 1, 0, none⟩) (1 * 5) [.int .i64 a, .int .i64 b, .int .i64 m, .int .i64 d, .int .i64 l]) := Lib.hid (by have := RowAt.lit (w := (w2.alloc (.cells #[.int .i64 a, .int .i64 b, .int .i64 m, .int .i64 d, .int .i64 l] 41))) (e := 41) (cur := #[.int .i64 a, .int .i64 b, .int .i64 m, .int .i64 d, .int .i64 l]) (m := 5) rfl; simpa using this)
    have HON : Hid (∀ u ∈ ([.int .i64 a, .int .i64 b, .int .i64 m, .int .i64 d, .int .i64 l] : List Value), u.oneCell' = true) := Lib.hid (pcL_one [(a, b, m, d, l)])
    have HSB : Hid (∀ g ∈ S, w1.heap.size ≤ g) := Lib.hid (HPS2.out.below (bel1 (o := .cells #[.int .i64 a, .int .i64 b, .int .i64 m, .int .i64 d, .int .i64 l] 41))).2
    go_wp2_with (at_builtin; go_must (refine wpList_append_row rfl _ _ 37 rfl 41 i0 (.agg #[.int .i64 0, .int .i64 0, .int .i64 0, .int .i64 0, .int .i64 0]) 5 40 Tryz.underlying37 hi0 hz0 hz1 hz2 rfl (by decide) S A (some ⟨w2.heap.size + 1, 0, none⟩) n c 1 1 (ps.flatMap pcL) [.int .i64 a, .int .i64 b, .int .i64 m, .int .i64 d, .int .i64 l] rfl rfl HOW.out HLT.out HON.out (by unfold maxLen; omega) (by omega) ?_))
    intro A' c' S' w6 hO' hS' hC'
    obtain ⟨hP6, hb6⟩ := app_ptrs (B := w1.heap.size) (fs := ps) (gs := [(a, b, m, d, l)]) HSB.out (w1 := World.alloc (w2.alloc (.cells #[.int .i64 a, .int .i64 b, .int .i64 m, .int .i64 d, .int .i64 l] 41)) (.cells #[.int .i64 a, .int .i64 b, .int .i64 m, .int .i64 d, .int .i64 l] 41)) (by have := (Below.alloc HB2.out HB2.out.size (.cells #[.int .i64 a, .int .i64 b, .int .i64 m, .int .i64 d, .int .i64 l] 41)).size; simp at this ⊢ <;> omega) (by rw [List.length_append, ← HNN.out] <;> rfl) (by simpa [pcL] using hO') (fun g hg => (hS' g hg).imp id (fun h => by simpa using h)) hC'
    have HP6 := Lib.hid hP6
    have hbW : Below w1.heap.size w1 (World.alloc (w2.alloc (.cells #[.int .i64 a, .int .i64 b, .int .i64 m, .int .i64 d, .int .i64 l] 41)) (.cells #[.int .i64 a, .int .i64 b, .int .i64 m, .int .i64 d, .int .i64 l] 41)) := Below.alloc (Below.alloc HB2.out HB2.out.size (.cells #[.int .i64 a, .int .i64 b, .int .i64 m, .int .i64 d, .int .i64 l] 41)) (by have := (Below.alloc HB2.out HB2.out.size (.cells #[.int .i64 a, .int .i64 b, .int .i64 m, .int .i64 d, .int .i64 l] 41)).size; simp at this ⊢ <;> omega) _
    have HB6 : Hid (Below w1.heap.size w1 w6) := Lib.hid (hbW.trans hb6)
    clear hO' hS' hC' HOW HLT HON HSB hP6 hb6 hbW
    go_wp2_with fail
    go_roundw
    case rel => exact ⟨n + 1, n + 1, c', A', S', ps ++ [(a, b, m, d, l)], true, by omega, rfl, by go_num, rfl, rfl, HAN, Lib.hid (by rw [List.length_append, ← HNN.out] <;> rfl), HFN, HP6, HB6⟩
    simp [RowKit.intOf]; omega
  go_wp2_with fail
  refine (spPtrHole_any a b m d l _).mono ?_
  rintro e w4 ⟨rfl, hb4⟩
  have z4 : w2.heap.size + 1 ≤ w4.heap.size := by have := hb4.size; simpa using this
  have hb24 : Below w2.heap.size w2 w4 := bel1.trans (hb4.mono (by simp))
  have HB4 := Lib.hid (HB2.out.trans (hb24.mono HB2.out.size))
  have HPS4 := Lib.hid (HPS2.out.below hb24)
  have HX4 : Hid (w4.heap[w2.heap.size]? = some (.cells #[.int .i64 a, .int .i64 b, .int .i64 m, .int .i64 d, .int .i64 l] 41 (0, 0))) := Lib.hid ((hb4.block _ (by simp)).trans (heap_alloc_new _ _))
  clear hb4 hb24 HB2 HPS2
  have l4 : w2.heap.size < w4.heap.size := by omega
  obtain ⟨hh, hhe⟩ : ∃ hh, hh = ptrHole a b m d l := ⟨_, rfl⟩
  rw [← hhe]
  have HAN : Hid ((!hh) = (ps ++ [(a, b, m, d, l)]).any someB) := Lib.hid (by rw [List.any_append, ← HBB.out, hhe]; show _ = (false || ((!ptrHole a b m d l) || false)); simp)
  clear hhe
  have x0 := celR 0 HX4.out; have x1 := celR 1 HX4.out; have x2 := celR 2 HX4.out; have x3 := celR 3 HX4.out; have x4 := celR 4 HX4.out
  have HOW : Hid (OwnA (World.alloc w4 (.cells #[.int .i64 a, .int .i64 b, .int .i64 m, .int .i64 d, .int .i64 l] 41)) 41 5 S A n c (ps.flatMap pcL)) := Lib.hid (by have h_ := HPS4.out.1; rw [← HNN.out] at h_; exact h_.below bel1)
  have HLT : Hid (RowAt (World.alloc w4 (.cells #[.int .i64 a, .int .i64 b, .int .i64 m, .int .i64 d, .int .i64 l] 41)) (some ⟨w4.heap.size, 0, none⟩) (1 * 5) [.int .i64 a, .int .i64 b, .int .i64 m, .int .i64 d, .int .i64 l]) := Lib.hid (by have := RowAt.lit (w := w4) (e := 41) (cur := #[.int .i64 a, .int .i64 b, .int .i64 m, .int .i64 d, .int .i64 l]) (m := 5) rfl; simpa using this)
  have HON : Hid (∀ u ∈ ([.int .i64 a, .int .i64 b, .int .i64 m, .int .i64 d, .int .i64 l] : List Value), u.oneCell' = true) := Lib.hid (pcL_one [(a, b, m, d, l)])
  have HSB : Hid (∀ g ∈ S, w1.heap.size ≤ g) := Lib.hid HPS4.out.2
  go_wp2_with (at_builtin; go_must (refine wpList_append_row rfl _ _ 37 rfl 41 i0 (.agg #[.int .i64 0, .int .i64 0, .int .i64 0, .int .i64 0, .int .i64 0]) 5 40 Tryz.underlying37 hi0 hz0 hz1 hz2 rfl (by decide) S A (some ⟨w4.heap.size, 0, none⟩) n c 1 1 (ps.flatMap pcL) [.int .i64 a, .int .i64 b, .int .i64 m, .int .i64 d, .int .i64 l] rfl rfl HOW.out HLT.out HON.out (by unfold maxLen; omega) (by omega) ?_))
  intro A' c' S' w6 hO' hS' hC'
  obtain ⟨hP6, hb6⟩ := app_ptrs (B := w1.heap.size) (fs := ps) (gs := [(a, b, m, d, l)]) HSB.out (w1 := World.alloc w4 (.cells #[.int .i64 a, .int .i64 b, .int .i64 m, .int .i64 d, .int .i64 l] 41)) (by have := HB4.out.size; simp at this ⊢ <;> omega) (by rw [List.length_append, ← HNN.out] <;> rfl) (by simpa [pcL] using hO') (fun g hg => (hS' g hg).imp id (fun h => by simpa using h)) hC'
  have HP6 := Lib.hid hP6
  have hbW : Below w1.heap.size w1 (World.alloc w4 (.cells #[.int .i64 a, .int .i64 b, .int .i64 m, .int .i64 d, .int .i64 l] 41)) := Below.alloc HB4.out (by have := HB4.out.size; simp at this ⊢ <;> omega) _
  have HB6 : Hid (Below w1.heap.size w1 w6) := Lib.hid (hbW.trans hb6)
  clear hO' hS' hC' HOW HLT HON HSB hP6 hb6 hbW
  go_wp2_with fail
  go_roundw
  case rel => exact ⟨n + 1, n + 1, c', A', S', ps ++ [(a, b, m, d, l)], !hh, by omega, rfl, by go_num, rfl, rfl, HAN, Lib.hid (by rw [List.length_append, ← HNN.out] <;> rfl), HFN, HP6, HB6⟩
  simp [RowKit.intOf]; omega
 obtain rfl : n = N := by omega
 have HALL : Hid (FanTo (splitC s) (splitC s).length ps) := Lib.hid (by have h_ := HFT.out; rw [HXS.out] at h_; rw [← HXS.out, ← HN.out, HXS.out]; exact h_)
 by_cases h4 : n = 4
 case neg =>
  have HNO : Hid (fanGet s = none) := Lib.hid (fan_len (by rw [← HALL.out.len, ← HNN.out]; exact h4))
  have d4 : ((n : Int) != 4) = true := by simp; omega
  go_wp2_with fail
  exact bodyPost_ret (v := .tuple #[.slice (some ⟨wr.heap.size, 0, none⟩) 0 0, .bool false]) (by simp [results, Tryz.results96, go_sem]) rfl (GotPs.no HNO.out (Below.alloc (HB1.out.trans (HB.out.mono HB1.out.size)) (HB1.out.trans (HB.out.mono HB1.out.size)).size _))
 have d4 : ((n : Int) != 4) = false := by simp; omega
 cases bb
 · have HNO : Hid (fanGet s = none) := Lib.hid (fan_all_holes HALL.out HBB.out.symm)
   go_wp2_with fail
   exact bodyPost_ret (v := .tuple #[.slice (some ⟨wr.heap.size, 0, none⟩) 0 0, .bool false]) (by simp [results, Tryz.results96, go_sem]) rfl (GotPs.no HNO.out (Below.alloc (HB1.out.trans (HB.out.mono HB1.out.size)) (HB1.out.trans (HB.out.mono HB1.out.size)).size _))
 have HYS := Lib.hid (fan_found HALL.out (by rw [← HNN.out]; exact h4) HBB.out.symm)
 go_wp2_with fail
 exact bodyPost_ret (v := .tuple #[.slice A n c, .bool true]) (by simp [results, Tryz.results96, go_sem]) rfl (GotPs.yes HYS.out HNN.out (HPS.out.mono HB1.out.size) (HB1.out.trans (HB.out.mono HB1.out.size)))
end Go.Proofs.YtjnhiiaejeaikaaGreatDoor
