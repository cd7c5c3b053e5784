/- NodeGet both: the node that a text is the text of. Condition: the library's variables lie as the row says; the text has at most 1000000 bytes. -/
import Derived.Test.YtjnhiiaejeaikaaGreatDoorRNodePut
import Derived.Test.YtjnhiiaejeaikaaGreatDoorRTreeOf
set_option linter.unnecessarySimpa false
set_option linter.unusedSimpArgs false
set_option linter.unusedVariables false
namespace Go.Proofs.YtjnhiiaejeaikaaGreatDoor
open Go Go.Lib Go.RowKit
theorem set_10 {w : World} {r T : Nat} {v0 v1 v2 v3 v4 v5 v6 v7 v8 v9 x0 x1 x2 x3 x4 x5 x6 x7 x8 x9 : Value} (h : w.heap[r]? = some (.cells #[v0, v1, v2, v3, v4, v5, v6, v7, v8, v9] T (0, 0))) :
 ((((((((((w.setCell ⟨r, 0, none⟩ x0).setCell ⟨r, 1, none⟩ x1).setCell ⟨r, 2, none⟩ x2).setCell ⟨r, 3, none⟩ x3).setCell ⟨r, 4, none⟩ x4).setCell ⟨r, 5, none⟩ x5).setCell ⟨r, 6, none⟩ x6).setCell ⟨r, 7, none⟩ x7).setCell ⟨r, 8, none⟩ x8).setCell ⟨r, 9, none⟩ x9).heap[r]? = some (.cells #[x0, x1, x2, x3, x4, x5, x6, x7, x8, x9] T (0, 0)) := by
 have h1 : (w.setCell ⟨r, 0, none⟩ x0).heap[r]? = some (.cells #[x0, v1, v2, v3, v4, v5, v6, v7, v8, v9] T (0, 0)) := block_set (o := 0) (v := x0) h
 have h2 : ((w.setCell ⟨r, 0, none⟩ x0).setCell ⟨r, 1, none⟩ x1).heap[r]? = some (.cells #[x0, x1, v2, v3, v4, v5, v6, v7, v8, v9] T (0, 0)) := block_set (o := 1) (v := x1) h1
 have h3 : (((w.setCell ⟨r, 0, none⟩ x0).setCell ⟨r, 1, none⟩ x1).setCell ⟨r, 2, none⟩ x2).heap[r]? = some (.cells #[x0, x1, x2, v3, v4, v5, v6, v7, v8, v9] T (0, 0)) := block_set (o := 2) (v := x2) h2
 have h4 : ((((w.setCell ⟨r, 0, none⟩ x0).setCell ⟨r, 1, none⟩ x1).setCell ⟨r, 2, none⟩ x2).setCell ⟨r, 3, none⟩ x3).heap[r]? = some (.cells #[x0, x1, x2, x3, v4, v5, v6, v7, v8, v9] T (0, 0)) := block_set (o := 3) (v := x3) h3
 have h5 : (((((w.setCell ⟨r, 0, none⟩ x0).setCell ⟨r, 1, none⟩ x1).setCell ⟨r, 2, none⟩ x2).setCell ⟨r, 3, none⟩ x3).setCell ⟨r, 4, none⟩ x4).heap[r]? = some (.cells #[x0, x1, x2, x3, x4, v5, v6, v7, v8, v9] T (0, 0)) := block_set (o := 4) (v := x4) h4
 have h6 : ((((((w.setCell ⟨r, 0, none⟩ x0).setCell ⟨r, 1, none⟩ x1).setCell ⟨r, 2, none⟩ x2).setCell ⟨r, 3, none⟩ x3).setCell ⟨r, 4, none⟩ x4).setCell ⟨r, 5, none⟩ x5).heap[r]? = some (.cells #[x0, x1, x2, x3, x4, x5, v6, v7, v8, v9] T (0, 0)) := block_set (o := 5) (v := x5) h5
 have h7 : (((((((w.setCell ⟨r, 0, none⟩ x0).setCell ⟨r, 1, none⟩ x1).setCell ⟨r, 2, none⟩ x2).setCell ⟨r, 3, none⟩ x3).setCell ⟨r, 4, none⟩ x4).setCell ⟨r, 5, none⟩ x5).setCell ⟨r, 6, none⟩ x6).heap[r]? = some (.cells #[x0, x1, x2, x3, x4, x5, x6, v7, v8, v9] T (0, 0)) := block_set (o := 6) (v := x6) h6
 have h8 : ((((((((w.setCell ⟨r, 0, none⟩ x0).setCell ⟨r, 1, none⟩ x1).setCell ⟨r, 2, none⟩ x2).setCell ⟨r, 3, none⟩ x3).setCell ⟨r, 4, none⟩ x4).setCell ⟨r, 5, none⟩ x5).setCell ⟨r, 6, none⟩ x6).setCell ⟨r, 7, none⟩ x7).heap[r]? = some (.cells #[x0, x1, x2, x3, x4, x5, x6, x7, v8, v9] T (0, 0)) := block_set (o := 7) (v := x7) h7
 have h9 : (((((((((w.setCell ⟨r, 0, none⟩ x0).setCell ⟨r, 1, none⟩ x1).setCell ⟨r, 2, none⟩ x2).setCell ⟨r, 3, none⟩ x3).setCell ⟨r, 4, none⟩ x4).setCell ⟨r, 5, none⟩ x5).setCell ⟨r, 6, none⟩ x6).setCell ⟨r, 7, none⟩ x7).setCell ⟨r, 8, none⟩ x8).heap[r]? = some (.cells #[x0, x1, x2, x3, x4, x5, x6, x7, x8, v9] T (0, 0)) := block_set (o := 8) (v := x8) h8
 have h10 : ((((((((((w.setCell ⟨r, 0, none⟩ x0).setCell ⟨r, 1, none⟩ x1).setCell ⟨r, 2, none⟩ x2).setCell ⟨r, 3, none⟩ x3).setCell ⟨r, 4, none⟩ x4).setCell ⟨r, 5, none⟩ x5).setCell ⟨r, 6, none⟩ x6).setCell ⟨r, 7, none⟩ x7).setCell ⟨r, 8, none⟩ x8).setCell ⟨r, 9, none⟩ x9).heap[r]? = some (.cells #[x0, x1, x2, x3, x4, x5, x6, x7, x8, x9] T (0, 0)) := block_set (o := 9) (v := x9) h9
 exact h10
theorem ptrIs_ex (y : Str) : ∃ x : PtrD × Bool, ptrIs y x.1.1 x.1.2.1 x.1.2.2.1 x.1.2.2.2.1 x.1.2.2.2.2 x.2 := by
 by_cases h : ∃ p : PtrD, okP p = true ∧ ptrT p = y
 · obtain ⟨p, h1, h2⟩ := h
   exact ⟨(p, true), .inl ⟨rfl, h1, h2⟩⟩
 exact ⟨((0, 0, 0, 0, 0), false), .inr ⟨rfl, ⟨rfl, rfl, rfl, rfl, rfl⟩, fun a b c d l hok e => h ⟨(a, b, c, d, l), hok, e⟩⟩⟩
def zeroN : NodeD := (0, 0, 0, (0, 0, 0, 0, 0), 0, 0)
def GotNode (s : Str) (w : World) (e : Ending) (w' : World) : Prop := e = .returned (.tuple #[nodeV ((nodeGet s).getD zeroN), .bool (nodeGet s).isSome]) ∧ Below w.heap.size w w'
theorem GotNode.no {s : Str} {w w' : World} (h : nodeGet s = none) (hb : Below w.heap.size w w') : GotNode s w (.returned (.tuple #[.agg #[.int .i64 0, .int .i64 0, .int .i64 0, .int .i64 0, .int .i64 0, .int .i64 0, .int .i64 0, .int .i64 0, .int .i64 0, .int .i64 0], .bool false])) w' := ⟨by rw [h]; rfl, hb⟩
theorem GotNode.yes {s : Str} {w w' : World} {i j z a b c m l d n : Int} (h : nodeGet s = some (i, j, z, (a, b, c, m, l), d, n)) (hb : Below w.heap.size w w') : GotNode s w (.returned (.tuple #[.agg #[.int .i64 i, .int .i64 j, .int .i64 z, .int .i64 a, .int .i64 b, .int .i64 c, .int .i64 m, .int .i64 l, .int .i64 d, .int .i64 n], .bool true])) w' := ⟨by rw [h]; rfl, hb⟩
theorem GotNum_defN (s : Str) (w : World) : GotNum s w = fun e w' => e = .returned (.tuple #[.int .i64 (((numGet s).getD 0 : Nat) : Int), .bool (numGet s).isSome]) ∧ Below w.heap.size w w' := rfl
theorem strs7 {xs : List Str} (h : xs.length = 7) : ∃ x0 x1 x2 x3 x4 x5 x6, xs = [x0, x1, x2, x3, x4, x5, x6] := by
 match xs, h with
 | [x0, x1, x2, x3, x4, x5, x6], _ => exact ⟨x0, x1, x2, x3, x4, x5, x6, rfl⟩
theorem rec_leN {s : Str} {l : List Str} (h : IsRec s l) {f : Str} (hf : f ∈ l) : f.length ≤ 2048 := by
 have := encs_mem hf
 rw [h.1] at this
 have := h.2.2
 omega
theorem StrsIn.cellsN {B : Nat} {w : World} {A : Option Addr} {c : Nat} {fs : List Str} (h : StrsIn B w A c fs) (hp : 0 < fs.length) : ∃ g, A = some ⟨g, 0, none⟩ ∧ g < w.heap.size ∧ ∀ (j : Nat) (f : Str), fs[j]? = some f → w.cell? ⟨g, j, none⟩ = some (.string (strB f)) := by
 obtain ⟨g, hA, hg, _⟩ := h.cell (List.getElem?_eq_getElem hp)
 refine ⟨g, hA, hg, fun j f hf => ?_⟩
 obtain ⟨g', hA', _, hc⟩ := h.cell hf
 rw [hA] at hA'
 injection hA' with e; injection e with e
 subst e
 exact hc
def stgN (k : Nat) (a b c : Nat) : Array Value := match k with
 | 0 => #[.int .i64 0, .int .i64 0, .int .i64 0, .int .i64 0, .int .i64 0, .int .i64 0, .int .i64 0, .int .i64 0, .int .i64 0, .int .i64 0]
 | 1 => #[.int .i64 (a : Int), .int .i64 0, .int .i64 0, .int .i64 0, .int .i64 0, .int .i64 0, .int .i64 0, .int .i64 0, .int .i64 0, .int .i64 0]
 | 2 => #[.int .i64 (a : Int), .int .i64 (b : Int), .int .i64 0, .int .i64 0, .int .i64 0, .int .i64 0, .int .i64 0, .int .i64 0, .int .i64 0, .int .i64 0]
 | _ => #[.int .i64 (a : Int), .int .i64 (b : Int), .int .i64 (c : Int), .int .i64 0, .int .i64 0, .int .i64 0, .int .i64 0, .int .i64 0, .int .i64 0, .int .i64 0]
theorem set_3_10 {w : World} {r T : Nat} {v0 v1 v2 v3 v4 v5 v6 v7 v8 v9 x3 x4 x5 x6 x7 x8 x9 : Value} (h : w.heap[r]? = some (.cells #[v0, v1, v2, v3, v4, v5, v6, v7, v8, v9] T (0, 0))) :
 (((((((w.setCell ⟨r, 3, none⟩ x3).setCell ⟨r, 4, none⟩ x4).setCell ⟨r, 5, none⟩ x5).setCell ⟨r, 6, none⟩ x6).setCell ⟨r, 7, none⟩ x7).setCell ⟨r, 8, none⟩ x8).setCell ⟨r, 9, none⟩ x9).heap[r]? = some (.cells #[v0, v1, v2, x3, x4, x5, x6, x7, x8, x9] T (0, 0)) := by
 have h4 : (w.setCell ⟨r, 3, none⟩ x3).heap[r]? = some (.cells #[v0, v1, v2, x3, v4, v5, v6, v7, v8, v9] T (0, 0)) := block_set (o := 3) (v := x3) h
 have h5 : ((w.setCell ⟨r, 3, none⟩ x3).setCell ⟨r, 4, none⟩ x4).heap[r]? = some (.cells #[v0, v1, v2, x3, x4, v5, v6, v7, v8, v9] T (0, 0)) := block_set (o := 4) (v := x4) h4
 have h6 : (((w.setCell ⟨r, 3, none⟩ x3).setCell ⟨r, 4, none⟩ x4).setCell ⟨r, 5, none⟩ x5).heap[r]? = some (.cells #[v0, v1, v2, x3, x4, x5, v6, v7, v8, v9] T (0, 0)) := block_set (o := 5) (v := x5) h5
 have h7 : ((((w.setCell ⟨r, 3, none⟩ x3).setCell ⟨r, 4, none⟩ x4).setCell ⟨r, 5, none⟩ x5).setCell ⟨r, 6, none⟩ x6).heap[r]? = some (.cells #[v0, v1, v2, x3, x4, x5, x6, v7, v8, v9] T (0, 0)) := block_set (o := 6) (v := x6) h6
 have h8 : (((((w.setCell ⟨r, 3, none⟩ x3).setCell ⟨r, 4, none⟩ x4).setCell ⟨r, 5, none⟩ x5).setCell ⟨r, 6, none⟩ x6).setCell ⟨r, 7, none⟩ x7).heap[r]? = some (.cells #[v0, v1, v2, x3, x4, x5, x6, x7, v8, v9] T (0, 0)) := block_set (o := 7) (v := x7) h7
 have h9 : ((((((w.setCell ⟨r, 3, none⟩ x3).setCell ⟨r, 4, none⟩ x4).setCell ⟨r, 5, none⟩ x5).setCell ⟨r, 6, none⟩ x6).setCell ⟨r, 7, none⟩ x7).setCell ⟨r, 8, none⟩ x8).heap[r]? = some (.cells #[v0, v1, v2, x3, x4, x5, x6, x7, x8, v9] T (0, 0)) := block_set (o := 8) (v := x8) h8
 have h10 : (((((((w.setCell ⟨r, 3, none⟩ x3).setCell ⟨r, 4, none⟩ x4).setCell ⟨r, 5, none⟩ x5).setCell ⟨r, 6, none⟩ x6).setCell ⟨r, 7, none⟩ x7).setCell ⟨r, 8, none⟩ x8).setCell ⟨r, 9, none⟩ x9).heap[r]? = some (.cells #[v0, v1, v2, x3, x4, x5, x6, x7, x8, x9] T (0, 0)) := block_set (o := 9) (v := x9) h9
 exact h10
set_option maxRecDepth 100000 in
set_option maxHeartbeats 8000000 in
theorem nodeGet_any (s : Str) (wO : World) (he : Env wO) (hs : s.length ≤ 1000000) : Calls Tryz.prog 72 #[.string (strB s)] wO (GotNode s wO) := by
 go_enter Tryz.func72, Tryz.ntmps72
 go_wp2_with fail
 refine (fieldsGet_any s _ (he.below bel1) (by omega)).mono ?_
 rintro e w hX
 have hbX : Below (wO.alloc (.cells #[.int .i64 0, .int .i64 0, .int .i64 0, .int .i64 0, .int .i64 0, .int .i64 0, .int .i64 0, .int .i64 0, .int .i64 0, .int .i64 0] 53)).heap.size (wO.alloc (.cells #[.int .i64 0, .int .i64 0, .int .i64 0, .int .i64 0, .int .i64 0, .int .i64 0, .int .i64 0, .int .i64 0, .int .i64 0, .int .i64 0] 53)) w := by
  rcases hX with ⟨_, _, _, _, _, _, hb⟩ | ⟨_, _, hb⟩ <;> exact hb
 have HRO : Hid (w.heap[wO.heap.size]? = some (.cells #[.int .i64 0, .int .i64 0, .int .i64 0, .int .i64 0, .int .i64 0, .int .i64 0, .int .i64 0, .int .i64 0, .int .i64 0, .int .i64 0] 53 (0, 0))) := Lib.hid ((hbX.block _ (by simp)).trans (heap_alloc_new _ _))
 have HBO : Hid (Below wO.heap.size wO w) := Lib.hid (bel1.trans (hbX.mono (by simp)))
 have lrO : wO.heap.size < w.heap.size := by have := hbX.size; simp at this; omega
 have lrR := celR 0 HRO.out
 clear lrR hbX
 rcases hX with ⟨fl, A, cp, hR, rfl, hI, hb1⟩ | ⟨hno, ⟨A, cp, rfl⟩, hb1⟩
 all_goals have HE := Lib.hid he
 all_goals clear he
 case inr =>
  have HNO := Lib.hid (node_no hno); clear hno hb1
  have HRC : Hid ((w).heap[wO.heap.size]? = some (.cells #[.int .i64 0, .int .i64 0, .int .i64 0, .int .i64 0, .int .i64 0, .int .i64 0, .int .i64 0, .int .i64 0, .int .i64 0, .int .i64 0] 53 (0, 0))) := Lib.hid ((Below.block (Below.refl w.heap.size w) _ lrO).trans HRO.out)
  have rc0 := celR 0 HRC.out; have rf0 := block_free HRC.out 0
  have rc1 := celR 1 HRC.out; have rf1 := block_free HRC.out 1
  have rc2 := celR 2 HRC.out; have rf2 := block_free HRC.out 2
  have rc3 := celR 3 HRC.out; have rf3 := block_free HRC.out 3
  have rc4 := celR 4 HRC.out; have rf4 := block_free HRC.out 4
  have rc5 := celR 5 HRC.out; have rf5 := block_free HRC.out 5
  have rc6 := celR 6 HRC.out; have rf6 := block_free HRC.out 6
  have rc7 := celR 7 HRC.out; have rf7 := block_free HRC.out 7
  have rc8 := celR 8 HRC.out; have rf8 := block_free HRC.out 8
  have rc9 := celR 9 HRC.out; have rf9 := block_free HRC.out 9
  have lrC : wO.heap.size < w.heap.size := (Array.getElem?_eq_some_iff.1 HRC.out).1
  have HRR : Hid ((w).heap[wO.heap.size]? = some (.cells #[.int .i64 0, .int .i64 0, .int .i64 0, .int .i64 0, .int .i64 0, .int .i64 0, .int .i64 0, .int .i64 0, .int .i64 0, .int .i64 0] 53 (0, 0))) := Lib.hid ((Below.block (Below.refl _ _) _ lrO).trans HRO.out)
  have HBL : Hid (Below wO.heap.size wO w) := Lib.hid (HBO.out.trans (Below.mono (Below.refl _ _) HBO.out.size))
  go_wp2_with fail
  have hst := set_10 (x0 := .int .i64 0) (x1 := .int .i64 0) (x2 := .int .i64 0) (x3 := .int .i64 0) (x4 := .int .i64 0) (x5 := .int .i64 0) (x6 := .int .i64 0) (x7 := .int .i64 0) (x8 := .int .i64 0) (x9 := .int .i64 0) HRR.out
  have r0 := celR 0 hst
  have r1 := celR 1 hst
  have r2 := celR 2 hst
  have r3 := celR 3 hst
  have r4 := celR 4 hst
  have r5 := celR 5 hst
  have r6 := celR 6 hst
  have r7 := celR 7 hst
  have r8 := celR 8 hst
  have r9 := celR 9 hst
  clear hst
  exact bodyPost_ret (v := .tuple #[.agg #[.int .i64 0, .int .i64 0, .int .i64 0, .int .i64 0, .int .i64 0, .int .i64 0, .int .i64 0, .int .i64 0, .int .i64 0, .int .i64 0], .bool false]) (by simp [results, Tryz.results72, go_sem, r0, r1, r2, r3, r4, r5, r6, r7, r8, r9]) rfl (GotNode.no HNO.out (Below.setCell (p := ⟨wO.heap.size, 9, none⟩) (Below.setCell (p := ⟨wO.heap.size, 8, none⟩) (Below.setCell (p := ⟨wO.heap.size, 7, none⟩) (Below.setCell (p := ⟨wO.heap.size, 6, none⟩) (Below.setCell (p := ⟨wO.heap.size, 5, none⟩) (Below.setCell (p := ⟨wO.heap.size, 4, none⟩) (Below.setCell (p := ⟨wO.heap.size, 3, none⟩) (Below.setCell (p := ⟨wO.heap.size, 2, none⟩) (Below.setCell (p := ⟨wO.heap.size, 1, none⟩) (Below.setCell (p := ⟨wO.heap.size, 0, none⟩) HBL.out (Nat.le_refl _) _) (Nat.le_refl _) _) (Nat.le_refl _) _) (Nat.le_refl _) _) (Nat.le_refl _) _) (Nat.le_refl _) _) (Nat.le_refl _) _) (Nat.le_refl _) _) (Nat.le_refl _) _) (Nat.le_refl _) _))
 have HR := Lib.hid hR; clear hR hb1
 by_cases hl : fl.length = 7
 case neg =>
  have HNO := Lib.hid (node_len HR.out hl)
  have hnb : ((fl.length : Int) != 7) = true := by simp; omega
  clear hl
  have HRC : Hid ((w).heap[wO.heap.size]? = some (.cells #[.int .i64 0, .int .i64 0, .int .i64 0, .int .i64 0, .int .i64 0, .int .i64 0, .int .i64 0, .int .i64 0, .int .i64 0, .int .i64 0] 53 (0, 0))) := Lib.hid ((Below.block (Below.refl w.heap.size w) _ lrO).trans HRO.out)
  have rc0 := celR 0 HRC.out; have rf0 := block_free HRC.out 0
  have rc1 := celR 1 HRC.out; have rf1 := block_free HRC.out 1
  have rc2 := celR 2 HRC.out; have rf2 := block_free HRC.out 2
  have rc3 := celR 3 HRC.out; have rf3 := block_free HRC.out 3
  have rc4 := celR 4 HRC.out; have rf4 := block_free HRC.out 4
  have rc5 := celR 5 HRC.out; have rf5 := block_free HRC.out 5
  have rc6 := celR 6 HRC.out; have rf6 := block_free HRC.out 6
  have rc7 := celR 7 HRC.out; have rf7 := block_free HRC.out 7
  have rc8 := celR 8 HRC.out; have rf8 := block_free HRC.out 8
  have rc9 := celR 9 HRC.out; have rf9 := block_free HRC.out 9
  have lrC : wO.heap.size < w.heap.size := (Array.getElem?_eq_some_iff.1 HRC.out).1
  have HRR : Hid ((w).heap[wO.heap.size]? = some (.cells #[.int .i64 0, .int .i64 0, .int .i64 0, .int .i64 0, .int .i64 0, .int .i64 0, .int .i64 0, .int .i64 0, .int .i64 0, .int .i64 0] 53 (0, 0))) := Lib.hid ((Below.block (Below.refl _ _) _ lrO).trans HRO.out)
  have HBL : Hid (Below wO.heap.size wO w) := Lib.hid (HBO.out.trans (Below.mono (Below.refl _ _) HBO.out.size))
  go_wp2_with fail
  have hst := set_10 (x0 := .int .i64 0) (x1 := .int .i64 0) (x2 := .int .i64 0) (x3 := .int .i64 0) (x4 := .int .i64 0) (x5 := .int .i64 0) (x6 := .int .i64 0) (x7 := .int .i64 0) (x8 := .int .i64 0) (x9 := .int .i64 0) HRR.out
  have r0 := celR 0 hst
  have r1 := celR 1 hst
  have r2 := celR 2 hst
  have r3 := celR 3 hst
  have r4 := celR 4 hst
  have r5 := celR 5 hst
  have r6 := celR 6 hst
  have r7 := celR 7 hst
  have r8 := celR 8 hst
  have r9 := celR 9 hst
  clear hst
  exact bodyPost_ret (v := .tuple #[.agg #[.int .i64 0, .int .i64 0, .int .i64 0, .int .i64 0, .int .i64 0, .int .i64 0, .int .i64 0, .int .i64 0, .int .i64 0, .int .i64 0], .bool false]) (by simp [results, Tryz.results72, go_sem, r0, r1, r2, r3, r4, r5, r6, r7, r8, r9]) rfl (GotNode.no HNO.out (Below.setCell (p := ⟨wO.heap.size, 9, none⟩) (Below.setCell (p := ⟨wO.heap.size, 8, none⟩) (Below.setCell (p := ⟨wO.heap.size, 7, none⟩) (Below.setCell (p := ⟨wO.heap.size, 6, none⟩) (Below.setCell (p := ⟨wO.heap.size, 5, none⟩) (Below.setCell (p := ⟨wO.heap.size, 4, none⟩) (Below.setCell (p := ⟨wO.heap.size, 3, none⟩) (Below.setCell (p := ⟨wO.heap.size, 2, none⟩) (Below.setCell (p := ⟨wO.heap.size, 1, none⟩) (Below.setCell (p := ⟨wO.heap.size, 0, none⟩) HBL.out (Nat.le_refl _) _) (Nat.le_refl _) _) (Nat.le_refl _) _) (Nat.le_refl _) _) (Nat.le_refl _) _) (Nat.le_refl _) _) (Nat.le_refl _) _) (Nat.le_refl _) _) (Nat.le_refl _) _) (Nat.le_refl _) _))
 obtain ⟨y0, y1, y2, y3, y4, y5, y6, rfl⟩ := strs7 hl
 obtain ⟨g, rfl, lg, hcs⟩ := hI.cellsN (by simp)
 have hcp : 7 ≤ cp := hI.le
 rw [hl]
 have hl0 := rec_leN HR.out (f := y0) (by simp)
 have hl1 := rec_leN HR.out (f := y1) (by simp)
 have hl2 := rec_leN HR.out (f := y2) (by simp)
 have hl3 := rec_leN HR.out (f := y3) (by simp)
 have hl4 := rec_leN HR.out (f := y4) (by simp)
 have hl5 := rec_leN HR.out (f := y5) (by simp)
 have E0 := Lib.hid (hcs 0 _ rfl); have E1 := Lib.hid (hcs 1 _ rfl); have E2 := Lib.hid (hcs 2 _ rfl); have E3 := Lib.hid (hcs 3 _ rfl); have E4 := Lib.hid (hcs 4 _ rfl); have E5 := Lib.hid (hcs 5 _ rfl)
 clear hl hI hcs
 obtain ⟨n0, hn0⟩ : ∃ n, n = (numGet y0).getD 0 := ⟨_, rfl⟩
 obtain ⟨o0, ho0⟩ : ∃ n, n = (numGet y0).isSome := ⟨_, rfl⟩
 have HN0 := Lib.hid hn0; have HO0 := Lib.hid ho0; clear hn0 ho0
 obtain ⟨n1, hn1⟩ : ∃ n, n = (numGet y1).getD 0 := ⟨_, rfl⟩
 obtain ⟨o1, ho1⟩ : ∃ n, n = (numGet y1).isSome := ⟨_, rfl⟩
 have HN1 := Lib.hid hn1; have HO1 := Lib.hid ho1; clear hn1 ho1
 obtain ⟨n2, hn2⟩ : ∃ n, n = (numGet y2).getD 0 := ⟨_, rfl⟩
 obtain ⟨o2, ho2⟩ : ∃ n, n = (numGet y2).isSome := ⟨_, rfl⟩
 have HN2 := Lib.hid hn2; have HO2 := Lib.hid ho2; clear hn2 ho2
 obtain ⟨n4, hn4⟩ : ∃ n, n = (numGet y4).getD 0 := ⟨_, rfl⟩
 obtain ⟨o4, ho4⟩ : ∃ n, n = (numGet y4).isSome := ⟨_, rfl⟩
 have HN4 := Lib.hid hn4; have HO4 := Lib.hid ho4; clear hn4 ho4
 obtain ⟨n5, hn5⟩ : ∃ n, n = (numGet y5).getD 0 := ⟨_, rfl⟩
 obtain ⟨o5, ho5⟩ : ∃ n, n = (numGet y5).isSome := ⟨_, rfl⟩
 have HN5 := Lib.hid hn5; have HO5 := Lib.hid ho5; clear hn5 ho5
 have ccp : ¬ cp = 2 := by omega
 go_wp2_with fail
 obtain ⟨w1, hW1⟩ : ∃ x, x = (World.alloc (World.alloc w (.cells #[.int .i64 0, .int .i64 0, .int .i64 0, .int .i64 0, .int .i64 0, .int .i64 0, .int .i64 0, .int .i64 0, .int .i64 0, .int .i64 0] 53)) (.cells #[.pointer (some ⟨w.heap.size, 0, none⟩), .pointer (some ⟨w.heap.size, 1, none⟩), .pointer (some ⟨w.heap.size, 2, none⟩)] 114)) := ⟨_, rfl⟩
 have hb1 : Below ((World.alloc (World.alloc w (.cells #[.int .i64 0, .int .i64 0, .int .i64 0, .int .i64 0, .int .i64 0, .int .i64 0, .int .i64 0, .int .i64 0, .int .i64 0, .int .i64 0] 53)) (.cells #[.pointer (some ⟨w.heap.size, 0, none⟩), .pointer (some ⟨w.heap.size, 1, none⟩), .pointer (some ⟨w.heap.size, 2, none⟩)] 114))).heap.size ((World.alloc (World.alloc w (.cells #[.int .i64 0, .int .i64 0, .int .i64 0, .int .i64 0, .int .i64 0, .int .i64 0, .int .i64 0, .int .i64 0, .int .i64 0, .int .i64 0] 53)) (.cells #[.pointer (some ⟨w.heap.size, 0, none⟩), .pointer (some ⟨w.heap.size, 1, none⟩), .pointer (some ⟨w.heap.size, 2, none⟩)] 114))) w1 := by rw [hW1]; exact Below.refl _ _
 have HW1 := Lib.hid hW1; rw [← hW1]; clear hW1
 have zz1 : w.heap.size + 2 ≤ w1.heap.size := by have := hb1.size; simp [World.setCell] at this; omega
 have YY1 : Below w.heap.size w (World.alloc (World.alloc w (.cells #[.int .i64 0, .int .i64 0, .int .i64 0, .int .i64 0, .int .i64 0, .int .i64 0, .int .i64 0, .int .i64 0, .int .i64 0, .int .i64 0] 53)) (.cells #[.pointer (some ⟨w.heap.size, 0, none⟩), .pointer (some ⟨w.heap.size, 1, none⟩), .pointer (some ⟨w.heap.size, 2, none⟩)] 114)) := (Below.alloc (Below.alloc (Below.refl _ _) (by first | exact Nat.le_refl _ | (simp [World.setCell] <;> omega)) _) (by first | exact Nat.le_refl _ | (simp [World.setCell] <;> omega)) _)
 have X1 : Below w.heap.size w w1 := YY1.trans (hb1.mono YY1.size)
 clear YY1
 have b1_0 : Hid (w1.heap[w.heap.size]? = some (.cells #[.int .i64 0, .int .i64 0, .int .i64 0, .int .i64 0, .int .i64 0, .int .i64 0, .int .i64 0, .int .i64 0, .int .i64 0, .int .i64 0] 53 (0, 0))) := Lib.hid ((hb1.block _ (by first | omega | (simp [World.setCell] <;> omega))).trans ((Below.heap_alloc _ _ _ (by first | omega | (simp [World.setCell] <;> omega))).trans (show _ from by have := heap_alloc_new w (.cells #[.int .i64 0, .int .i64 0, .int .i64 0, .int .i64 0, .int .i64 0, .int .i64 0, .int .i64 0, .int .i64 0, .int .i64 0, .int .i64 0] 53); simpa [World.setCell] using this)))
 have b1_1 : Hid (w1.heap[w.heap.size + 1]? = some (.cells #[.pointer (some ⟨w.heap.size, 0, none⟩), .pointer (some ⟨w.heap.size, 1, none⟩), .pointer (some ⟨w.heap.size, 2, none⟩)] 114 (0, 0))) := Lib.hid ((hb1.block _ (by first | omega | (simp [World.setCell] <;> omega))).trans (show _ from by have := heap_alloc_new (World.alloc w (.cells #[.int .i64 0, .int .i64 0, .int .i64 0, .int .i64 0, .int .i64 0, .int .i64 0, .int .i64 0, .int .i64 0, .int .i64 0, .int .i64 0] 53)) (.cells #[.pointer (some ⟨w.heap.size, 0, none⟩), .pointer (some ⟨w.heap.size, 1, none⟩), .pointer (some ⟨w.heap.size, 2, none⟩)] 114); simpa [World.setCell] using this))
 clear hb1
 have l1_0 : w.heap.size < w1.heap.size := (Array.getElem?_eq_some_iff.1 b1_0.out).1
 have c1_0_0 := celR 0 b1_0.out
 have f1_0_0 := block_free b1_0.out 0
 have c1_0_1 := celR 1 b1_0.out
 have f1_0_1 := block_free b1_0.out 1
 have c1_0_2 := celR 2 b1_0.out
 have f1_0_2 := block_free b1_0.out 2
 have c1_0_3 := celR 3 b1_0.out
 have f1_0_3 := block_free b1_0.out 3
 have c1_0_4 := celR 4 b1_0.out
 have f1_0_4 := block_free b1_0.out 4
 have c1_0_5 := celR 5 b1_0.out
 have f1_0_5 := block_free b1_0.out 5
 have c1_0_6 := celR 6 b1_0.out
 have f1_0_6 := block_free b1_0.out 6
 have c1_0_7 := celR 7 b1_0.out
 have f1_0_7 := block_free b1_0.out 7
 have c1_0_8 := celR 8 b1_0.out
 have f1_0_8 := block_free b1_0.out 8
 have c1_0_9 := celR 9 b1_0.out
 have f1_0_9 := block_free b1_0.out 9
 have l1_1 : w.heap.size + 1 < w1.heap.size := (Array.getElem?_eq_some_iff.1 b1_1.out).1
 have c1_1_0 := celR 0 b1_1.out
 have f1_1_0 := block_free b1_1.out 0
 have c1_1_1 := celR 1 b1_1.out
 have f1_1_1 := block_free b1_1.out 1
 have c1_1_2 := celR 2 b1_1.out
 have f1_1_2 := block_free b1_1.out 2
 clear HW1
 go_loopw [27] (fun i wr => ∃ k : Nat, k ≤ 3 ∧ i = .int .i64 (k : Int) ∧ Hid (wr.heap[w.heap.size]? = some (.cells (stgN k n0 n1 n2) 53 (0, 0))) ∧ Hid (wr.heap[w.heap.size + 1]? = some (.cells #[.pointer (some ⟨w.heap.size, 0, none⟩), .pointer (some ⟨w.heap.size, 1, none⟩), .pointer (some ⟨w.heap.size, 2, none⟩)] 114 (0, 0))) ∧ Hid (Below w.heap.size w wr) ∧ Hid ((0 < k → o0 = true) ∧ (1 < k → o1 = true) ∧ (2 < k → o2 = true))) (fun i _ => 3 - (RowKit.intOf i).toNat)
 case atStart => exact ⟨0, by omega, rfl, b1_0, b1_1, Lib.hid X1, Lib.hid ⟨fun h => by omega, fun h => by omega, fun h => by omega⟩⟩
 clear X1 zz1 b1_0 b1_1 l1_0 c1_0_0 f1_0_0 c1_0_1 f1_0_1 c1_0_2 f1_0_2 c1_0_3 f1_0_3 c1_0_4 f1_0_4 c1_0_5 f1_0_5 c1_0_6 f1_0_6 c1_0_7 f1_0_7 c1_0_8 f1_0_8 c1_0_9 f1_0_9 l1_1 c1_1_0 f1_1_0 c1_1_1 f1_1_1 c1_1_2 f1_1_2
 obtain ⟨k, hk, rfl, HBK, HPK, HXK, HOK⟩ := hrel
 have h4 : k = 3 ∨ k = 0 ∨ k = 1 ∨ k = 2 := by omega
 obtain ⟨w5, rfl⟩ : ∃ w5, w5 = wr := ⟨_, rfl⟩
 rcases h4 with rfl | h4
 rotate_left
 · rcases h4 with rfl | rfl | rfl
   · skip
     have b5_0 : Hid (w5.heap[w.heap.size]? = some (.cells #[.int .i64 0, .int .i64 0, .int .i64 0, .int .i64 0, .int .i64 0, .int .i64 0, .int .i64 0, .int .i64 0, .int .i64 0, .int .i64 0] 53 (0, 0))) := HBK
     have b5_1 := HPK; have X5 := HXK.out
     clear HBK HPK HXK
     have zz5 : 0 = 0 := rfl
     have l5_0 : w.heap.size < w5.heap.size := (Array.getElem?_eq_some_iff.1 b5_0.out).1
     have c5_0_0 := celR 0 b5_0.out
     have f5_0_0 := block_free b5_0.out 0
     have c5_0_1 := celR 1 b5_0.out
     have f5_0_1 := block_free b5_0.out 1
     have c5_0_2 := celR 2 b5_0.out
     have f5_0_2 := block_free b5_0.out 2
     have c5_0_3 := celR 3 b5_0.out
     have f5_0_3 := block_free b5_0.out 3
     have c5_0_4 := celR 4 b5_0.out
     have f5_0_4 := block_free b5_0.out 4
     have c5_0_5 := celR 5 b5_0.out
     have f5_0_5 := block_free b5_0.out 5
     have c5_0_6 := celR 6 b5_0.out
     have f5_0_6 := block_free b5_0.out 6
     have c5_0_7 := celR 7 b5_0.out
     have f5_0_7 := block_free b5_0.out 7
     have c5_0_8 := celR 8 b5_0.out
     have f5_0_8 := block_free b5_0.out 8
     have c5_0_9 := celR 9 b5_0.out
     have f5_0_9 := block_free b5_0.out 9
     have l5_1 : w.heap.size + 1 < w5.heap.size := (Array.getElem?_eq_some_iff.1 b5_1.out).1
     have c5_1_0 := celR 0 b5_1.out
     have f5_1_0 := block_free b5_1.out 0
     have c5_1_1 := celR 1 b5_1.out
     have f5_1_1 := block_free b5_1.out 1
     have c5_1_2 := celR 2 b5_1.out
     have f5_1_2 := block_free b5_1.out 2
     have ey := (X5.cell lg).trans E0.out
     go_wp2_with fail
     refine (numGet_any y0 _ (HE.out.below (HBO.out.trans (Below.mono X5 HBO.out.size))) (by omega)).mono ?_
     rw [GotNum_defN, ← HN0.out, ← HO0.out]
     rintro e w6 ⟨rfl, hb6⟩
     have zz6 : w5.heap.size ≤ w6.heap.size := by have := hb6.size; simpa [World.setCell] using this
     have YY6 : Below w.heap.size w w5 := X5
     have X6 : Below w.heap.size w w6 := YY6.trans (hb6.mono YY6.size)
     clear YY6
     have b6_0 : Hid (w6.heap[w.heap.size]? = some (.cells #[.int .i64 0, .int .i64 0, .int .i64 0, .int .i64 0, .int .i64 0, .int .i64 0, .int .i64 0, .int .i64 0, .int .i64 0, .int .i64 0] 53 (0, 0))) := Lib.hid ((hb6.block _ (by first | omega | (simp [World.setCell] <;> omega))).trans b5_0.out)
     have b6_1 : Hid (w6.heap[w.heap.size + 1]? = some (.cells #[.pointer (some ⟨w.heap.size, 0, none⟩), .pointer (some ⟨w.heap.size, 1, none⟩), .pointer (some ⟨w.heap.size, 2, none⟩)] 114 (0, 0))) := Lib.hid ((hb6.block _ (by first | omega | (simp [World.setCell] <;> omega))).trans b5_1.out)
     clear b5_0 b5_1 X5 zz5 l5_0 c5_0_0 f5_0_0 c5_0_1 f5_0_1 c5_0_2 f5_0_2 c5_0_3 f5_0_3 c5_0_4 f5_0_4 c5_0_5 f5_0_5 c5_0_6 f5_0_6 c5_0_7 f5_0_7 c5_0_8 f5_0_8 c5_0_9 f5_0_9 l5_1 c5_1_0 f5_1_0 c5_1_1 f5_1_1 c5_1_2 f5_1_2 hb6
     have l6_0 : w.heap.size < w6.heap.size := (Array.getElem?_eq_some_iff.1 b6_0.out).1
     have c6_0_0 := celR 0 b6_0.out
     have f6_0_0 := block_free b6_0.out 0
     have c6_0_1 := celR 1 b6_0.out
     have f6_0_1 := block_free b6_0.out 1
     have c6_0_2 := celR 2 b6_0.out
     have f6_0_2 := block_free b6_0.out 2
     have c6_0_3 := celR 3 b6_0.out
     have f6_0_3 := block_free b6_0.out 3
     have c6_0_4 := celR 4 b6_0.out
     have f6_0_4 := block_free b6_0.out 4
     have c6_0_5 := celR 5 b6_0.out
     have f6_0_5 := block_free b6_0.out 5
     have c6_0_6 := celR 6 b6_0.out
     have f6_0_6 := block_free b6_0.out 6
     have c6_0_7 := celR 7 b6_0.out
     have f6_0_7 := block_free b6_0.out 7
     have c6_0_8 := celR 8 b6_0.out
     have f6_0_8 := block_free b6_0.out 8
     have c6_0_9 := celR 9 b6_0.out
     have f6_0_9 := block_free b6_0.out 9
     have l6_1 : w.heap.size + 1 < w6.heap.size := (Array.getElem?_eq_some_iff.1 b6_1.out).1
     have c6_1_0 := celR 0 b6_1.out
     have f6_1_0 := block_free b6_1.out 0
     have c6_1_1 := celR 1 b6_1.out
     have f6_1_1 := block_free b6_1.out 1
     have c6_1_2 := celR 2 b6_1.out
     have f6_1_2 := block_free b6_1.out 2
     clear ey
     cases o0
     case false =>
      have HNO : Hid (nodeGet s = none) := Lib.hid (nodeGet_no fun N hN => by
       obtain ⟨q1, q2⟩ := (show Seven s (numGet y0) (numGet y1) (numGet y2) _ _ (numGet y4) (numGet y5) from ⟨y0, y1, y2, y3, y4, y5, y6, HR.out, rfl, rfl, rfl, (ptrIs_ex y3).choose_spec, rfl, rfl⟩).only hN
       have := HO0.out; rw [q2.1] at this; cases this)
      have HRC : Hid ((w6).heap[wO.heap.size]? = some (.cells #[.int .i64 0, .int .i64 0, .int .i64 0, .int .i64 0, .int .i64 0, .int .i64 0, .int .i64 0, .int .i64 0, .int .i64 0, .int .i64 0] 53 (0, 0))) := Lib.hid ((Below.block X6 _ lrO).trans HRO.out)
      have rc0 := celR 0 HRC.out; have rf0 := block_free HRC.out 0
      have rc1 := celR 1 HRC.out; have rf1 := block_free HRC.out 1
      have rc2 := celR 2 HRC.out; have rf2 := block_free HRC.out 2
      have rc3 := celR 3 HRC.out; have rf3 := block_free HRC.out 3
      have rc4 := celR 4 HRC.out; have rf4 := block_free HRC.out 4
      have rc5 := celR 5 HRC.out; have rf5 := block_free HRC.out 5
      have rc6 := celR 6 HRC.out; have rf6 := block_free HRC.out 6
      have rc7 := celR 7 HRC.out; have rf7 := block_free HRC.out 7
      have rc8 := celR 8 HRC.out; have rf8 := block_free HRC.out 8
      have rc9 := celR 9 HRC.out; have rf9 := block_free HRC.out 9
      have lrC : wO.heap.size < w6.heap.size := (Array.getElem?_eq_some_iff.1 HRC.out).1
      have HRR : Hid (((World.setCell w6 ⟨w.heap.size, 0, none⟩ (.int .i64 (n0 : Int)))).heap[wO.heap.size]? = some (.cells #[.int .i64 0, .int .i64 0, .int .i64 0, .int .i64 0, .int .i64 0, .int .i64 0, .int .i64 0, .int .i64 0, .int .i64 0, .int .i64 0] 53 (0, 0))) := Lib.hid ((Below.block (Below.setCell (p := ⟨w.heap.size, 0, none⟩) X6 (by have := X6.size; simp <;> omega) _) _ lrO).trans HRO.out)
      have HBL : Hid (Below wO.heap.size wO (World.setCell w6 ⟨w.heap.size, 0, none⟩ (.int .i64 (n0 : Int)))) := Lib.hid (HBO.out.trans (Below.mono (Below.setCell (p := ⟨w.heap.size, 0, none⟩) X6 (by have := X6.size; simp <;> omega) _) HBO.out.size))
      go_wp2_with fail
      have hst := set_10 (x0 := .int .i64 0) (x1 := .int .i64 0) (x2 := .int .i64 0) (x3 := .int .i64 0) (x4 := .int .i64 0) (x5 := .int .i64 0) (x6 := .int .i64 0) (x7 := .int .i64 0) (x8 := .int .i64 0) (x9 := .int .i64 0) HRR.out
      have r0 := celR 0 hst
      have r1 := celR 1 hst
      have r2 := celR 2 hst
      have r3 := celR 3 hst
      have r4 := celR 4 hst
      have r5 := celR 5 hst
      have r6 := celR 6 hst
      have r7 := celR 7 hst
      have r8 := celR 8 hst
      have r9 := celR 9 hst
      clear hst
      exact bodyPost_ret (v := .tuple #[.agg #[.int .i64 0, .int .i64 0, .int .i64 0, .int .i64 0, .int .i64 0, .int .i64 0, .int .i64 0, .int .i64 0, .int .i64 0, .int .i64 0], .bool false]) (by simp [results, Tryz.results72, go_sem, r0, r1, r2, r3, r4, r5, r6, r7, r8, r9]) rfl (GotNode.no HNO.out (Below.setCell (p := ⟨wO.heap.size, 9, none⟩) (Below.setCell (p := ⟨wO.heap.size, 8, none⟩) (Below.setCell (p := ⟨wO.heap.size, 7, none⟩) (Below.setCell (p := ⟨wO.heap.size, 6, none⟩) (Below.setCell (p := ⟨wO.heap.size, 5, none⟩) (Below.setCell (p := ⟨wO.heap.size, 4, none⟩) (Below.setCell (p := ⟨wO.heap.size, 3, none⟩) (Below.setCell (p := ⟨wO.heap.size, 2, none⟩) (Below.setCell (p := ⟨wO.heap.size, 1, none⟩) (Below.setCell (p := ⟨wO.heap.size, 0, none⟩) HBL.out (Nat.le_refl _) _) (Nat.le_refl _) _) (Nat.le_refl _) _) (Nat.le_refl _) _) (Nat.le_refl _) _) (Nat.le_refl _) _) (Nat.le_refl _) _) (Nat.le_refl _) _) (Nat.le_refl _) _) (Nat.le_refl _) _))
     have HBX : Hid (((World.setCell w6 ⟨w.heap.size, 0, none⟩ (.int .i64 (n0 : Int)))).heap[w.heap.size]? = some (.cells #[.int .i64 (n0 : Int), .int .i64 0, .int .i64 0, .int .i64 0, .int .i64 0, .int .i64 0, .int .i64 0, .int .i64 0, .int .i64 0, .int .i64 0] 53 (0, 0))) := Lib.hid ((block_set b6_0.out))
     have HPX : Hid (((World.setCell w6 ⟨w.heap.size, 0, none⟩ (.int .i64 (n0 : Int)))).heap[w.heap.size + 1]? = some (.cells #[.pointer (some ⟨w.heap.size, 0, none⟩), .pointer (some ⟨w.heap.size, 1, none⟩), .pointer (some ⟨w.heap.size, 2, none⟩)] 114 (0, 0))) := Lib.hid (((heap_far (by first | omega | (simp <;> omega))).trans b6_1.out))
     have HXX : Hid (Below w.heap.size w (World.setCell w6 ⟨w.heap.size, 0, none⟩ (.int .i64 (n0 : Int)))) := Lib.hid (Below.setCell (p := ⟨w.heap.size, 0, none⟩) X6 (by have := X6.size; simp <;> omega) _)
     skip
     go_wp2_with fail
     go_roundw
     case rel => exact ⟨1, by omega, by go_num, HBX, HPX, HXX, Lib.hid ⟨fun _ => by first | trivial | rfl, fun h => by omega, fun h => by omega⟩⟩
     simp [RowKit.intOf]
   · skip
     have b5_0 : Hid (w5.heap[w.heap.size]? = some (.cells #[.int .i64 (n0 : Int), .int .i64 0, .int .i64 0, .int .i64 0, .int .i64 0, .int .i64 0, .int .i64 0, .int .i64 0, .int .i64 0, .int .i64 0] 53 (0, 0))) := HBK
     have b5_1 := HPK; have X5 := HXK.out
     clear HBK HPK HXK
     have zz5 : 0 = 0 := rfl
     have l5_0 : w.heap.size < w5.heap.size := (Array.getElem?_eq_some_iff.1 b5_0.out).1
     have c5_0_0 := celR 0 b5_0.out
     have f5_0_0 := block_free b5_0.out 0
     have c5_0_1 := celR 1 b5_0.out
     have f5_0_1 := block_free b5_0.out 1
     have c5_0_2 := celR 2 b5_0.out
     have f5_0_2 := block_free b5_0.out 2
     have c5_0_3 := celR 3 b5_0.out
     have f5_0_3 := block_free b5_0.out 3
     have c5_0_4 := celR 4 b5_0.out
     have f5_0_4 := block_free b5_0.out 4
     have c5_0_5 := celR 5 b5_0.out
     have f5_0_5 := block_free b5_0.out 5
     have c5_0_6 := celR 6 b5_0.out
     have f5_0_6 := block_free b5_0.out 6
     have c5_0_7 := celR 7 b5_0.out
     have f5_0_7 := block_free b5_0.out 7
     have c5_0_8 := celR 8 b5_0.out
     have f5_0_8 := block_free b5_0.out 8
     have c5_0_9 := celR 9 b5_0.out
     have f5_0_9 := block_free b5_0.out 9
     have l5_1 : w.heap.size + 1 < w5.heap.size := (Array.getElem?_eq_some_iff.1 b5_1.out).1
     have c5_1_0 := celR 0 b5_1.out
     have f5_1_0 := block_free b5_1.out 0
     have c5_1_1 := celR 1 b5_1.out
     have f5_1_1 := block_free b5_1.out 1
     have c5_1_2 := celR 2 b5_1.out
     have f5_1_2 := block_free b5_1.out 2
     have ey := (X5.cell lg).trans E1.out
     go_wp2_with fail
     refine (numGet_any y1 _ (HE.out.below (HBO.out.trans (Below.mono X5 HBO.out.size))) (by omega)).mono ?_
     rw [GotNum_defN, ← HN1.out, ← HO1.out]
     rintro e w6 ⟨rfl, hb6⟩
     have zz6 : w5.heap.size ≤ w6.heap.size := by have := hb6.size; simpa [World.setCell] using this
     have YY6 : Below w.heap.size w w5 := X5
     have X6 : Below w.heap.size w w6 := YY6.trans (hb6.mono YY6.size)
     clear YY6
     have b6_0 : Hid (w6.heap[w.heap.size]? = some (.cells #[.int .i64 (n0 : Int), .int .i64 0, .int .i64 0, .int .i64 0, .int .i64 0, .int .i64 0, .int .i64 0, .int .i64 0, .int .i64 0, .int .i64 0] 53 (0, 0))) := Lib.hid ((hb6.block _ (by first | omega | (simp [World.setCell] <;> omega))).trans b5_0.out)
     have b6_1 : Hid (w6.heap[w.heap.size + 1]? = some (.cells #[.pointer (some ⟨w.heap.size, 0, none⟩), .pointer (some ⟨w.heap.size, 1, none⟩), .pointer (some ⟨w.heap.size, 2, none⟩)] 114 (0, 0))) := Lib.hid ((hb6.block _ (by first | omega | (simp [World.setCell] <;> omega))).trans b5_1.out)
     clear b5_0 b5_1 X5 zz5 l5_0 c5_0_0 f5_0_0 c5_0_1 f5_0_1 c5_0_2 f5_0_2 c5_0_3 f5_0_3 c5_0_4 f5_0_4 c5_0_5 f5_0_5 c5_0_6 f5_0_6 c5_0_7 f5_0_7 c5_0_8 f5_0_8 c5_0_9 f5_0_9 l5_1 c5_1_0 f5_1_0 c5_1_1 f5_1_1 c5_1_2 f5_1_2 hb6
     have l6_0 : w.heap.size < w6.heap.size := (Array.getElem?_eq_some_iff.1 b6_0.out).1
     have c6_0_0 := celR 0 b6_0.out
     have f6_0_0 := block_free b6_0.out 0
     have c6_0_1 := celR 1 b6_0.out
     have f6_0_1 := block_free b6_0.out 1
     have c6_0_2 := celR 2 b6_0.out
     have f6_0_2 := block_free b6_0.out 2
     have c6_0_3 := celR 3 b6_0.out
     have f6_0_3 := block_free b6_0.out 3
     have c6_0_4 := celR 4 b6_0.out
     have f6_0_4 := block_free b6_0.out 4
     have c6_0_5 := celR 5 b6_0.out
     have f6_0_5 := block_free b6_0.out 5
     have c6_0_6 := celR 6 b6_0.out
     have f6_0_6 := block_free b6_0.out 6
     have c6_0_7 := celR 7 b6_0.out
     have f6_0_7 := block_free b6_0.out 7
     have c6_0_8 := celR 8 b6_0.out
     have f6_0_8 := block_free b6_0.out 8
     have c6_0_9 := celR 9 b6_0.out
     have f6_0_9 := block_free b6_0.out 9
     have l6_1 : w.heap.size + 1 < w6.heap.size := (Array.getElem?_eq_some_iff.1 b6_1.out).1
     have c6_1_0 := celR 0 b6_1.out
     have f6_1_0 := block_free b6_1.out 0
     have c6_1_1 := celR 1 b6_1.out
     have f6_1_1 := block_free b6_1.out 1
     have c6_1_2 := celR 2 b6_1.out
     have f6_1_2 := block_free b6_1.out 2
     clear ey
     cases o1
     case false =>
      have HNO : Hid (nodeGet s = none) := Lib.hid (nodeGet_no fun N hN => by
       obtain ⟨q1, q2⟩ := (show Seven s (numGet y0) (numGet y1) (numGet y2) _ _ (numGet y4) (numGet y5) from ⟨y0, y1, y2, y3, y4, y5, y6, HR.out, rfl, rfl, rfl, (ptrIs_ex y3).choose_spec, rfl, rfl⟩).only hN
       have := HO1.out; rw [q2.2.1] at this; cases this)
      have HRC : Hid ((w6).heap[wO.heap.size]? = some (.cells #[.int .i64 0, .int .i64 0, .int .i64 0, .int .i64 0, .int .i64 0, .int .i64 0, .int .i64 0, .int .i64 0, .int .i64 0, .int .i64 0] 53 (0, 0))) := Lib.hid ((Below.block X6 _ lrO).trans HRO.out)
      have rc0 := celR 0 HRC.out; have rf0 := block_free HRC.out 0
      have rc1 := celR 1 HRC.out; have rf1 := block_free HRC.out 1
      have rc2 := celR 2 HRC.out; have rf2 := block_free HRC.out 2
      have rc3 := celR 3 HRC.out; have rf3 := block_free HRC.out 3
      have rc4 := celR 4 HRC.out; have rf4 := block_free HRC.out 4
      have rc5 := celR 5 HRC.out; have rf5 := block_free HRC.out 5
      have rc6 := celR 6 HRC.out; have rf6 := block_free HRC.out 6
      have rc7 := celR 7 HRC.out; have rf7 := block_free HRC.out 7
      have rc8 := celR 8 HRC.out; have rf8 := block_free HRC.out 8
      have rc9 := celR 9 HRC.out; have rf9 := block_free HRC.out 9
      have lrC : wO.heap.size < w6.heap.size := (Array.getElem?_eq_some_iff.1 HRC.out).1
      have HRR : Hid (((World.setCell w6 ⟨w.heap.size, 1, none⟩ (.int .i64 (n1 : Int)))).heap[wO.heap.size]? = some (.cells #[.int .i64 0, .int .i64 0, .int .i64 0, .int .i64 0, .int .i64 0, .int .i64 0, .int .i64 0, .int .i64 0, .int .i64 0, .int .i64 0] 53 (0, 0))) := Lib.hid ((Below.block (Below.setCell (p := ⟨w.heap.size, 1, none⟩) X6 (by have := X6.size; simp <;> omega) _) _ lrO).trans HRO.out)
      have HBL : Hid (Below wO.heap.size wO (World.setCell w6 ⟨w.heap.size, 1, none⟩ (.int .i64 (n1 : Int)))) := Lib.hid (HBO.out.trans (Below.mono (Below.setCell (p := ⟨w.heap.size, 1, none⟩) X6 (by have := X6.size; simp <;> omega) _) HBO.out.size))
      go_wp2_with fail
      have hst := set_10 (x0 := .int .i64 0) (x1 := .int .i64 0) (x2 := .int .i64 0) (x3 := .int .i64 0) (x4 := .int .i64 0) (x5 := .int .i64 0) (x6 := .int .i64 0) (x7 := .int .i64 0) (x8 := .int .i64 0) (x9 := .int .i64 0) HRR.out
      have r0 := celR 0 hst
      have r1 := celR 1 hst
      have r2 := celR 2 hst
      have r3 := celR 3 hst
      have r4 := celR 4 hst
      have r5 := celR 5 hst
      have r6 := celR 6 hst
      have r7 := celR 7 hst
      have r8 := celR 8 hst
      have r9 := celR 9 hst
      clear hst
      exact bodyPost_ret (v := .tuple #[.agg #[.int .i64 0, .int .i64 0, .int .i64 0, .int .i64 0, .int .i64 0, .int .i64 0, .int .i64 0, .int .i64 0, .int .i64 0, .int .i64 0], .bool false]) (by simp [results, Tryz.results72, go_sem, r0, r1, r2, r3, r4, r5, r6, r7, r8, r9]) rfl (GotNode.no HNO.out (Below.setCell (p := ⟨wO.heap.size, 9, none⟩) (Below.setCell (p := ⟨wO.heap.size, 8, none⟩) (Below.setCell (p := ⟨wO.heap.size, 7, none⟩) (Below.setCell (p := ⟨wO.heap.size, 6, none⟩) (Below.setCell (p := ⟨wO.heap.size, 5, none⟩) (Below.setCell (p := ⟨wO.heap.size, 4, none⟩) (Below.setCell (p := ⟨wO.heap.size, 3, none⟩) (Below.setCell (p := ⟨wO.heap.size, 2, none⟩) (Below.setCell (p := ⟨wO.heap.size, 1, none⟩) (Below.setCell (p := ⟨wO.heap.size, 0, none⟩) HBL.out (Nat.le_refl _) _) (Nat.le_refl _) _) (Nat.le_refl _) _) (Nat.le_refl _) _) (Nat.le_refl _) _) (Nat.le_refl _) _) (Nat.le_refl _) _) (Nat.le_refl _) _) (Nat.le_refl _) _) (Nat.le_refl _) _))
     have HBX : Hid (((World.setCell w6 ⟨w.heap.size, 1, none⟩ (.int .i64 (n1 : Int)))).heap[w.heap.size]? = some (.cells #[.int .i64 (n0 : Int), .int .i64 (n1 : Int), .int .i64 0, .int .i64 0, .int .i64 0, .int .i64 0, .int .i64 0, .int .i64 0, .int .i64 0, .int .i64 0] 53 (0, 0))) := Lib.hid ((block_set b6_0.out))
     have HPX : Hid (((World.setCell w6 ⟨w.heap.size, 1, none⟩ (.int .i64 (n1 : Int)))).heap[w.heap.size + 1]? = some (.cells #[.pointer (some ⟨w.heap.size, 0, none⟩), .pointer (some ⟨w.heap.size, 1, none⟩), .pointer (some ⟨w.heap.size, 2, none⟩)] 114 (0, 0))) := Lib.hid (((heap_far (by first | omega | (simp <;> omega))).trans b6_1.out))
     have HXX : Hid (Below w.heap.size w (World.setCell w6 ⟨w.heap.size, 1, none⟩ (.int .i64 (n1 : Int)))) := Lib.hid (Below.setCell (p := ⟨w.heap.size, 1, none⟩) X6 (by have := X6.size; simp <;> omega) _)
     skip
     go_wp2_with fail
     go_roundw
     case rel => exact ⟨2, by omega, by go_num, HBX, HPX, HXX, Lib.hid ⟨fun _ => HOK.out.1 (by omega), fun _ => by first | trivial | rfl, fun h => by omega⟩⟩
     simp [RowKit.intOf]
   skip
   have b5_0 : Hid (w5.heap[w.heap.size]? = some (.cells #[.int .i64 (n0 : Int), .int .i64 (n1 : Int), .int .i64 0, .int .i64 0, .int .i64 0, .int .i64 0, .int .i64 0, .int .i64 0, .int .i64 0, .int .i64 0] 53 (0, 0))) := HBK
   have b5_1 := HPK; have X5 := HXK.out
   clear HBK HPK HXK
   have zz5 : 0 = 0 := rfl
   have l5_0 : w.heap.size < w5.heap.size := (Array.getElem?_eq_some_iff.1 b5_0.out).1
   have c5_0_0 := celR 0 b5_0.out
   have f5_0_0 := block_free b5_0.out 0
   have c5_0_1 := celR 1 b5_0.out
   have f5_0_1 := block_free b5_0.out 1
   have c5_0_2 := celR 2 b5_0.out
   have f5_0_2 := block_free b5_0.out 2
   have c5_0_3 := celR 3 b5_0.out
   have f5_0_3 := block_free b5_0.out 3
   have c5_0_4 := celR 4 b5_0.out
   have f5_0_4 := block_free b5_0.out 4
   have c5_0_5 := celR 5 b5_0.out
   have f5_0_5 := block_free b5_0.out 5
   have c5_0_6 := celR 6 b5_0.out
   have f5_0_6 := block_free b5_0.out 6
   have c5_0_7 := celR 7 b5_0.out
   have f5_0_7 := block_free b5_0.out 7
   have c5_0_8 := celR 8 b5_0.out
   have f5_0_8 := block_free b5_0.out 8
   have c5_0_9 := celR 9 b5_0.out
   have f5_0_9 := block_free b5_0.out 9
   have l5_1 : w.heap.size + 1 < w5.heap.size := (Array.getElem?_eq_some_iff.1 b5_1.out).1
   have c5_1_0 := celR 0 b5_1.out
   have f5_1_0 := block_free b5_1.out 0
   have c5_1_1 := celR 1 b5_1.out
   have f5_1_1 := block_free b5_1.out 1
   have c5_1_2 := celR 2 b5_1.out
   have f5_1_2 := block_free b5_1.out 2
   have ey := (X5.cell lg).trans E2.out
   go_wp2_with fail
   refine (numGet_any y2 _ (HE.out.below (HBO.out.trans (Below.mono X5 HBO.out.size))) (by omega)).mono ?_
   rw [GotNum_defN, ← HN2.out, ← HO2.out]
   rintro e w6 ⟨rfl, hb6⟩
   have zz6 : w5.heap.size ≤ w6.heap.size := by have := hb6.size; simpa [World.setCell] using this
   have YY6 : Below w.heap.size w w5 := X5
   have X6 : Below w.heap.size w w6 := YY6.trans (hb6.mono YY6.size)
   clear YY6
   have b6_0 : Hid (w6.heap[w.heap.size]? = some (.cells #[.int .i64 (n0 : Int), .int .i64 (n1 : Int), .int .i64 0, .int .i64 0, .int .i64 0, .int .i64 0, .int .i64 0, .int .i64 0, .int .i64 0, .int .i64 0] 53 (0, 0))) := Lib.hid ((hb6.block _ (by first | omega | (simp [World.setCell] <;> omega))).trans b5_0.out)
   have b6_1 : Hid (w6.heap[w.heap.size + 1]? = some (.cells #[.pointer (some ⟨w.heap.size, 0, none⟩), .pointer (some ⟨w.heap.size, 1, none⟩), .pointer (some ⟨w.heap.size, 2, none⟩)] 114 (0, 0))) := Lib.hid ((hb6.block _ (by first | omega | (simp [World.setCell] <;> omega))).trans b5_1.out)
   clear b5_0 b5_1 X5 zz5 l5_0 c5_0_0 f5_0_0 c5_0_1 f5_0_1 c5_0_2 f5_0_2 c5_0_3 f5_0_3 c5_0_4 f5_0_4 c5_0_5 f5_0_5 c5_0_6 f5_0_6 c5_0_7 f5_0_7 c5_0_8 f5_0_8 c5_0_9 f5_0_9 l5_1 c5_1_0 f5_1_0 c5_1_1 f5_1_1 c5_1_2 f5_1_2 hb6
   have l6_0 : w.heap.size < w6.heap.size := (Array.getElem?_eq_some_iff.1 b6_0.out).1
   have c6_0_0 := celR 0 b6_0.out
   have f6_0_0 := block_free b6_0.out 0
   have c6_0_1 := celR 1 b6_0.out
   have f6_0_1 := block_free b6_0.out 1
   have c6_0_2 := celR 2 b6_0.out
   have f6_0_2 := block_free b6_0.out 2
   have c6_0_3 := celR 3 b6_0.out
   have f6_0_3 := block_free b6_0.out 3
   have c6_0_4 := celR 4 b6_0.out
   have f6_0_4 := block_free b6_0.out 4
   have c6_0_5 := celR 5 b6_0.out
   have f6_0_5 := block_free b6_0.out 5
   have c6_0_6 := celR 6 b6_0.out
   have f6_0_6 := block_free b6_0.out 6
   have c6_0_7 := celR 7 b6_0.out
   have f6_0_7 := block_free b6_0.out 7
   have c6_0_8 := celR 8 b6_0.out
   have f6_0_8 := block_free b6_0.out 8
   have c6_0_9 := celR 9 b6_0.out
   have f6_0_9 := block_free b6_0.out 9
   have l6_1 : w.heap.size + 1 < w6.heap.size := (Array.getElem?_eq_some_iff.1 b6_1.out).1
   have c6_1_0 := celR 0 b6_1.out
   have f6_1_0 := block_free b6_1.out 0
   have c6_1_1 := celR 1 b6_1.out
   have f6_1_1 := block_free b6_1.out 1
   have c6_1_2 := celR 2 b6_1.out
   have f6_1_2 := block_free b6_1.out 2
   clear ey
   cases o2
   case false =>
    have HNO : Hid (nodeGet s = none) := Lib.hid (nodeGet_no fun N hN => by
     obtain ⟨q1, q2⟩ := (show Seven s (numGet y0) (numGet y1) (numGet y2) _ _ (numGet y4) (numGet y5) from ⟨y0, y1, y2, y3, y4, y5, y6, HR.out, rfl, rfl, rfl, (ptrIs_ex y3).choose_spec, rfl, rfl⟩).only hN
     have := HO2.out; rw [q2.2.2.1] at this; cases this)
    have HRC : Hid ((w6).heap[wO.heap.size]? = some (.cells #[.int .i64 0, .int .i64 0, .int .i64 0, .int .i64 0, .int .i64 0, .int .i64 0, .int .i64 0, .int .i64 0, .int .i64 0, .int .i64 0] 53 (0, 0))) := Lib.hid ((Below.block X6 _ lrO).trans HRO.out)
    have rc0 := celR 0 HRC.out; have rf0 := block_free HRC.out 0
    have rc1 := celR 1 HRC.out; have rf1 := block_free HRC.out 1
    have rc2 := celR 2 HRC.out; have rf2 := block_free HRC.out 2
    have rc3 := celR 3 HRC.out; have rf3 := block_free HRC.out 3
    have rc4 := celR 4 HRC.out; have rf4 := block_free HRC.out 4
    have rc5 := celR 5 HRC.out; have rf5 := block_free HRC.out 5
    have rc6 := celR 6 HRC.out; have rf6 := block_free HRC.out 6
    have rc7 := celR 7 HRC.out; have rf7 := block_free HRC.out 7
    have rc8 := celR 8 HRC.out; have rf8 := block_free HRC.out 8
    have rc9 := celR 9 HRC.out; have rf9 := block_free HRC.out 9
    have lrC : wO.heap.size < w6.heap.size := (Array.getElem?_eq_some_iff.1 HRC.out).1
    have HRR : Hid (((World.setCell w6 ⟨w.heap.size, 2, none⟩ (.int .i64 (n2 : Int)))).heap[wO.heap.size]? = some (.cells #[.int .i64 0, .int .i64 0, .int .i64 0, .int .i64 0, .int .i64 0, .int .i64 0, .int .i64 0, .int .i64 0, .int .i64 0, .int .i64 0] 53 (0, 0))) := Lib.hid ((Below.block (Below.setCell (p := ⟨w.heap.size, 2, none⟩) X6 (by have := X6.size; simp <;> omega) _) _ lrO).trans HRO.out)
    have HBL : Hid (Below wO.heap.size wO (World.setCell w6 ⟨w.heap.size, 2, none⟩ (.int .i64 (n2 : Int)))) := Lib.hid (HBO.out.trans (Below.mono (Below.setCell (p := ⟨w.heap.size, 2, none⟩) X6 (by have := X6.size; simp <;> omega) _) HBO.out.size))
    go_wp2_with fail
    have hst := set_10 (x0 := .int .i64 0) (x1 := .int .i64 0) (x2 := .int .i64 0) (x3 := .int .i64 0) (x4 := .int .i64 0) (x5 := .int .i64 0) (x6 := .int .i64 0) (x7 := .int .i64 0) (x8 := .int .i64 0) (x9 := .int .i64 0) HRR.out
    have r0 := celR 0 hst
    have r1 := celR 1 hst
    have r2 := celR 2 hst
    have r3 := celR 3 hst
    have r4 := celR 4 hst
    have r5 := celR 5 hst
    have r6 := celR 6 hst
    have r7 := celR 7 hst
    have r8 := celR 8 hst
    have r9 := celR 9 hst
    clear hst
    exact bodyPost_ret (v := .tuple #[.agg #[.int .i64 0, .int .i64 0, .int .i64 0, .int .i64 0, .int .i64 0, .int .i64 0, .int .i64 0, .int .i64 0, .int .i64 0, .int .i64 0], .bool false]) (by simp [results, Tryz.results72, go_sem, r0, r1, r2, r3, r4, r5, r6, r7, r8, r9]) rfl (GotNode.no HNO.out (Below.setCell (p := ⟨wO.heap.size, 9, none⟩) (Below.setCell (p := ⟨wO.heap.size, 8, none⟩) (Below.setCell (p := ⟨wO.heap.size, 7, none⟩) (Below.setCell (p := ⟨wO.heap.size, 6, none⟩) (Below.setCell (p := ⟨wO.heap.size, 5, none⟩) (Below.setCell (p := ⟨wO.heap.size, 4, none⟩) (Below.setCell (p := ⟨wO.heap.size, 3, none⟩) (Below.setCell (p := ⟨wO.heap.size, 2, none⟩) (Below.setCell (p := ⟨wO.heap.size, 1, none⟩) (Below.setCell (p := ⟨wO.heap.size, 0, none⟩) HBL.out (Nat.le_refl _) _) (Nat.le_refl _) _) (Nat.le_refl _) _) (Nat.le_refl _) _) (Nat.le_refl _) _) (Nat.le_refl _) _) (Nat.le_refl _) _) (Nat.le_refl _) _) (Nat.le_refl _) _) (Nat.le_refl _) _))
   have HBX : Hid (((World.setCell w6 ⟨w.heap.size, 2, none⟩ (.int .i64 (n2 : Int)))).heap[w.heap.size]? = some (.cells #[.int .i64 (n0 : Int), .int .i64 (n1 : Int), .int .i64 (n2 : Int), .int .i64 0, .int .i64 0, .int .i64 0, .int .i64 0, .int .i64 0, .int .i64 0, .int .i64 0] 53 (0, 0))) := Lib.hid ((block_set b6_0.out))
   have HPX : Hid (((World.setCell w6 ⟨w.heap.size, 2, none⟩ (.int .i64 (n2 : Int)))).heap[w.heap.size + 1]? = some (.cells #[.pointer (some ⟨w.heap.size, 0, none⟩), .pointer (some ⟨w.heap.size, 1, none⟩), .pointer (some ⟨w.heap.size, 2, none⟩)] 114 (0, 0))) := Lib.hid (((heap_far (by first | omega | (simp <;> omega))).trans b6_1.out))
   have HXX : Hid (Below w.heap.size w (World.setCell w6 ⟨w.heap.size, 2, none⟩ (.int .i64 (n2 : Int)))) := Lib.hid (Below.setCell (p := ⟨w.heap.size, 2, none⟩) X6 (by have := X6.size; simp <;> omega) _)
   skip
   go_wp2_with fail
   go_roundw
   case rel => exact ⟨3, by omega, by go_num, HBX, HPX, HXX, Lib.hid ⟨fun _ => HOK.out.1 (by omega), fun _ => HOK.out.2.1 (by omega), fun _ => by first | trivial | rfl⟩⟩
   simp [RowKit.intOf]
 have b5_0 : Hid (w5.heap[w.heap.size]? = some (.cells #[.int .i64 (n0 : Int), .int .i64 (n1 : Int), .int .i64 (n2 : Int), .int .i64 0, .int .i64 0, .int .i64 0, .int .i64 0, .int .i64 0, .int .i64 0, .int .i64 0] 53 (0, 0))) := HBK
 have b5_1 := HPK; have X5 := HXK.out
 clear HBK HPK HXK
 have zz5 : 0 = 0 := rfl
 have l5_0 : w.heap.size < w5.heap.size := (Array.getElem?_eq_some_iff.1 b5_0.out).1
 have c5_0_0 := celR 0 b5_0.out
 have f5_0_0 := block_free b5_0.out 0
 have c5_0_1 := celR 1 b5_0.out
 have f5_0_1 := block_free b5_0.out 1
 have c5_0_2 := celR 2 b5_0.out
 have f5_0_2 := block_free b5_0.out 2
 have c5_0_3 := celR 3 b5_0.out
 have f5_0_3 := block_free b5_0.out 3
 have c5_0_4 := celR 4 b5_0.out
 have f5_0_4 := block_free b5_0.out 4
 have c5_0_5 := celR 5 b5_0.out
 have f5_0_5 := block_free b5_0.out 5
 have c5_0_6 := celR 6 b5_0.out
 have f5_0_6 := block_free b5_0.out 6
 have c5_0_7 := celR 7 b5_0.out
 have f5_0_7 := block_free b5_0.out 7
 have c5_0_8 := celR 8 b5_0.out
 have f5_0_8 := block_free b5_0.out 8
 have c5_0_9 := celR 9 b5_0.out
 have f5_0_9 := block_free b5_0.out 9
 have l5_1 : w.heap.size + 1 < w5.heap.size := (Array.getElem?_eq_some_iff.1 b5_1.out).1
 have c5_1_0 := celR 0 b5_1.out
 have f5_1_0 := block_free b5_1.out 0
 have c5_1_1 := celR 1 b5_1.out
 have f5_1_1 := block_free b5_1.out 1
 have c5_1_2 := celR 2 b5_1.out
 have f5_1_2 := block_free b5_1.out 2
 obtain rfl : o0 = true := HOK.out.1 (by omega)
 obtain rfl : o1 = true := HOK.out.2.1 (by omega)
 obtain rfl : o2 = true := HOK.out.2.2 (by omega)
 have cc1 : ((3 : Int) ≤ (6 : Int)) := by omega
 have cc2 : ((6 : Int) ≤ (cp : Int)) := by omega
 go_wp2_with fail
 refine (treeOf_any g 3 _ y3 y4 y5 _ (HE.out.below (HBO.out.trans (Below.mono X5 HBO.out.size))) ((X5.cell lg).trans E3.out) ((X5.cell lg).trans E4.out) ((X5.cell lg).trans E5.out) (by omega) (by omega) (by omega)).mono ?_
 rintro e w6 ⟨a, b, c, d, l, ok, hp, rfl, hb6⟩
 rw [← HN4.out, ← HN5.out, ← HO4.out, ← HO5.out]
 have HSEV : Hid (Seven s (numGet y0) (numGet y1) (numGet y2) (a, b, c, d, l) ok (numGet y4) (numGet y5)) := Lib.hid ⟨y0, y1, y2, y3, y4, y5, y6, HR.out, rfl, rfl, rfl, hp, rfl, rfl⟩
 clear hp
 have zz6 : w5.heap.size ≤ w6.heap.size := by have := hb6.size; simpa [World.setCell] using this
 have YY6 : Below w.heap.size w w5 := X5
 have X6 : Below w.heap.size w w6 := YY6.trans (hb6.mono YY6.size)
 clear YY6
 have b6_0 : Hid (w6.heap[w.heap.size]? = some (.cells #[.int .i64 (n0 : Int), .int .i64 (n1 : Int), .int .i64 (n2 : Int), .int .i64 0, .int .i64 0, .int .i64 0, .int .i64 0, .int .i64 0, .int .i64 0, .int .i64 0] 53 (0, 0))) := Lib.hid ((hb6.block _ (by first | omega | (simp [World.setCell] <;> omega))).trans b5_0.out)
 have b6_1 : Hid (w6.heap[w.heap.size + 1]? = some (.cells #[.pointer (some ⟨w.heap.size, 0, none⟩), .pointer (some ⟨w.heap.size, 1, none⟩), .pointer (some ⟨w.heap.size, 2, none⟩)] 114 (0, 0))) := Lib.hid ((hb6.block _ (by first | omega | (simp [World.setCell] <;> omega))).trans b5_1.out)
 clear b5_0 b5_1 X5 zz5 l5_0 c5_0_0 f5_0_0 c5_0_1 f5_0_1 c5_0_2 f5_0_2 c5_0_3 f5_0_3 c5_0_4 f5_0_4 c5_0_5 f5_0_5 c5_0_6 f5_0_6 c5_0_7 f5_0_7 c5_0_8 f5_0_8 c5_0_9 f5_0_9 l5_1 c5_1_0 f5_1_0 c5_1_1 f5_1_1 c5_1_2 f5_1_2 hb6
 have l6_0 : w.heap.size < w6.heap.size := (Array.getElem?_eq_some_iff.1 b6_0.out).1
 have c6_0_0 := celR 0 b6_0.out
 have f6_0_0 := block_free b6_0.out 0
 have c6_0_1 := celR 1 b6_0.out
 have f6_0_1 := block_free b6_0.out 1
 have c6_0_2 := celR 2 b6_0.out
 have f6_0_2 := block_free b6_0.out 2
 have c6_0_3 := celR 3 b6_0.out
 have f6_0_3 := block_free b6_0.out 3
 have c6_0_4 := celR 4 b6_0.out
 have f6_0_4 := block_free b6_0.out 4
 have c6_0_5 := celR 5 b6_0.out
 have f6_0_5 := block_free b6_0.out 5
 have c6_0_6 := celR 6 b6_0.out
 have f6_0_6 := block_free b6_0.out 6
 have c6_0_7 := celR 7 b6_0.out
 have f6_0_7 := block_free b6_0.out 7
 have c6_0_8 := celR 8 b6_0.out
 have f6_0_8 := block_free b6_0.out 8
 have c6_0_9 := celR 9 b6_0.out
 have f6_0_9 := block_free b6_0.out 9
 have l6_1 : w.heap.size + 1 < w6.heap.size := (Array.getElem?_eq_some_iff.1 b6_1.out).1
 have c6_1_0 := celR 0 b6_1.out
 have f6_1_0 := block_free b6_1.out 0
 have c6_1_1 := celR 1 b6_1.out
 have f6_1_1 := block_free b6_1.out 1
 have c6_1_2 := celR 2 b6_1.out
 have f6_1_2 := block_free b6_1.out 2
 obtain ⟨okt, hokt⟩ : ∃ x, x = (ok && o4 && o5) := ⟨_, rfl⟩
 rw [← hokt]
 have HOKT := Lib.hid hokt; clear hokt
 cases okt
 case false =>
  have HNO := Lib.hid (HSEV.out.bad (fun h => by have := HOKT.out; rw [HO4.out, HO5.out, h.2.2.2.1, h.2.2.2.2.1, h.2.2.2.2.2] at this; cases this))
  have HRC : Hid ((w6).heap[wO.heap.size]? = some (.cells #[.int .i64 0, .int .i64 0, .int .i64 0, .int .i64 0, .int .i64 0, .int .i64 0, .int .i64 0, .int .i64 0, .int .i64 0, .int .i64 0] 53 (0, 0))) := Lib.hid ((Below.block X6 _ lrO).trans HRO.out)
  have rc0 := celR 0 HRC.out; have rf0 := block_free HRC.out 0
  have rc1 := celR 1 HRC.out; have rf1 := block_free HRC.out 1
  have rc2 := celR 2 HRC.out; have rf2 := block_free HRC.out 2
  have rc3 := celR 3 HRC.out; have rf3 := block_free HRC.out 3
  have rc4 := celR 4 HRC.out; have rf4 := block_free HRC.out 4
  have rc5 := celR 5 HRC.out; have rf5 := block_free HRC.out 5
  have rc6 := celR 6 HRC.out; have rf6 := block_free HRC.out 6
  have rc7 := celR 7 HRC.out; have rf7 := block_free HRC.out 7
  have rc8 := celR 8 HRC.out; have rf8 := block_free HRC.out 8
  have rc9 := celR 9 HRC.out; have rf9 := block_free HRC.out 9
  have lrC : wO.heap.size < w6.heap.size := (Array.getElem?_eq_some_iff.1 HRC.out).1
  have HRR : Hid (((World.setCell (World.setCell (World.setCell (World.setCell (World.setCell (World.setCell (World.setCell w6 ⟨w.heap.size, 3, none⟩ (.int .i64 a)) ⟨w.heap.size, 4, none⟩ (.int .i64 b)) ⟨w.heap.size, 5, none⟩ (.int .i64 c)) ⟨w.heap.size, 6, none⟩ (.int .i64 d)) ⟨w.heap.size, 7, none⟩ (.int .i64 l)) ⟨w.heap.size, 8, none⟩ (.int .i64 (n4 : Int))) ⟨w.heap.size, 9, none⟩ (.int .i64 (n5 : Int)))).heap[wO.heap.size]? = some (.cells #[.int .i64 0, .int .i64 0, .int .i64 0, .int .i64 0, .int .i64 0, .int .i64 0, .int .i64 0, .int .i64 0, .int .i64 0, .int .i64 0] 53 (0, 0))) := Lib.hid ((Below.block (Below.setCell (p := ⟨w.heap.size, 9, none⟩) (Below.setCell (p := ⟨w.heap.size, 8, none⟩) (Below.setCell (p := ⟨w.heap.size, 7, none⟩) (Below.setCell (p := ⟨w.heap.size, 6, none⟩) (Below.setCell (p := ⟨w.heap.size, 5, none⟩) (Below.setCell (p := ⟨w.heap.size, 4, none⟩) (Below.setCell (p := ⟨w.heap.size, 3, none⟩) X6 (by have := X6.size; simp <;> omega) _) (by have := X6.size; simp <;> omega) _) (by have := X6.size; simp <;> omega) _) (by have := X6.size; simp <;> omega) _) (by have := X6.size; simp <;> omega) _) (by have := X6.size; simp <;> omega) _) (by have := X6.size; simp <;> omega) _) _ lrO).trans HRO.out)
  have HBL : Hid (Below wO.heap.size wO (World.setCell (World.setCell (World.setCell (World.setCell (World.setCell (World.setCell (World.setCell w6 ⟨w.heap.size, 3, none⟩ (.int .i64 a)) ⟨w.heap.size, 4, none⟩ (.int .i64 b)) ⟨w.heap.size, 5, none⟩ (.int .i64 c)) ⟨w.heap.size, 6, none⟩ (.int .i64 d)) ⟨w.heap.size, 7, none⟩ (.int .i64 l)) ⟨w.heap.size, 8, none⟩ (.int .i64 (n4 : Int))) ⟨w.heap.size, 9, none⟩ (.int .i64 (n5 : Int)))) := Lib.hid (HBO.out.trans (Below.mono (Below.setCell (p := ⟨w.heap.size, 9, none⟩) (Below.setCell (p := ⟨w.heap.size, 8, none⟩) (Below.setCell (p := ⟨w.heap.size, 7, none⟩) (Below.setCell (p := ⟨w.heap.size, 6, none⟩) (Below.setCell (p := ⟨w.heap.size, 5, none⟩) (Below.setCell (p := ⟨w.heap.size, 4, none⟩) (Below.setCell (p := ⟨w.heap.size, 3, none⟩) X6 (by have := X6.size; simp <;> omega) _) (by have := X6.size; simp <;> omega) _) (by have := X6.size; simp <;> omega) _) (by have := X6.size; simp <;> omega) _) (by have := X6.size; simp <;> omega) _) (by have := X6.size; simp <;> omega) _) (by have := X6.size; simp <;> omega) _) HBO.out.size))
  go_wp2_with fail
  have hst := set_10 (x0 := .int .i64 0) (x1 := .int .i64 0) (x2 := .int .i64 0) (x3 := .int .i64 0) (x4 := .int .i64 0) (x5 := .int .i64 0) (x6 := .int .i64 0) (x7 := .int .i64 0) (x8 := .int .i64 0) (x9 := .int .i64 0) HRR.out
  have r0 := celR 0 hst
  have r1 := celR 1 hst
  have r2 := celR 2 hst
  have r3 := celR 3 hst
  have r4 := celR 4 hst
  have r5 := celR 5 hst
  have r6 := celR 6 hst
  have r7 := celR 7 hst
  have r8 := celR 8 hst
  have r9 := celR 9 hst
  clear hst
  exact bodyPost_ret (v := .tuple #[.agg #[.int .i64 0, .int .i64 0, .int .i64 0, .int .i64 0, .int .i64 0, .int .i64 0, .int .i64 0, .int .i64 0, .int .i64 0, .int .i64 0], .bool false]) (by simp [results, Tryz.results72, go_sem, r0, r1, r2, r3, r4, r5, r6, r7, r8, r9]) rfl (GotNode.no HNO.out (Below.setCell (p := ⟨wO.heap.size, 9, none⟩) (Below.setCell (p := ⟨wO.heap.size, 8, none⟩) (Below.setCell (p := ⟨wO.heap.size, 7, none⟩) (Below.setCell (p := ⟨wO.heap.size, 6, none⟩) (Below.setCell (p := ⟨wO.heap.size, 5, none⟩) (Below.setCell (p := ⟨wO.heap.size, 4, none⟩) (Below.setCell (p := ⟨wO.heap.size, 3, none⟩) (Below.setCell (p := ⟨wO.heap.size, 2, none⟩) (Below.setCell (p := ⟨wO.heap.size, 1, none⟩) (Below.setCell (p := ⟨wO.heap.size, 0, none⟩) HBL.out (Nat.le_refl _) _) (Nat.le_refl _) _) (Nat.le_refl _) _) (Nat.le_refl _) _) (Nat.le_refl _) _) (Nat.le_refl _) _) (Nat.le_refl _) _) (Nat.le_refl _) _) (Nat.le_refl _) _) (Nat.le_refl _) _))
 obtain ⟨w7, hw7⟩ : ∃ x, x = (World.setCell (World.setCell (World.setCell (World.setCell (World.setCell (World.setCell (World.setCell w6 ⟨w.heap.size, 3, none⟩ (.int .i64 a)) ⟨w.heap.size, 4, none⟩ (.int .i64 b)) ⟨w.heap.size, 5, none⟩ (.int .i64 c)) ⟨w.heap.size, 6, none⟩ (.int .i64 d)) ⟨w.heap.size, 7, none⟩ (.int .i64 l)) ⟨w.heap.size, 8, none⟩ (.int .i64 (n4 : Int))) ⟨w.heap.size, 9, none⟩ (.int .i64 (n5 : Int))) := ⟨_, rfl⟩
 have b7_0 : Hid (w7.heap[w.heap.size]? = some (.cells #[.int .i64 (n0 : Int), .int .i64 (n1 : Int), .int .i64 (n2 : Int), .int .i64 a, .int .i64 b, .int .i64 c, .int .i64 d, .int .i64 l, .int .i64 (n4 : Int), .int .i64 (n5 : Int)] 53 (0, 0))) := Lib.hid (by rw [hw7]; exact set_3_10 b6_0.out)
 have X7 : Below w.heap.size w w7 := by rw [hw7]; exact (Below.setCell (p := ⟨w.heap.size, 9, none⟩) (Below.setCell (p := ⟨w.heap.size, 8, none⟩) (Below.setCell (p := ⟨w.heap.size, 7, none⟩) (Below.setCell (p := ⟨w.heap.size, 6, none⟩) (Below.setCell (p := ⟨w.heap.size, 5, none⟩) (Below.setCell (p := ⟨w.heap.size, 4, none⟩) (Below.setCell (p := ⟨w.heap.size, 3, none⟩) X6 (by have := X6.size; simp <;> omega) _) (by have := X6.size; simp <;> omega) _) (by have := X6.size; simp <;> omega) _) (by have := X6.size; simp <;> omega) _) (by have := X6.size; simp <;> omega) _) (by have := X6.size; simp <;> omega) _) (by have := X6.size; simp <;> omega) _)
 have HW7 := Lib.hid hw7
 go_wp2_with fail
 rw [← HW7.out]
 clear hw7 HW7 X6 zz6 b6_0 b6_1 l6_0 c6_0_0 f6_0_0 c6_0_1 f6_0_1 c6_0_2 f6_0_2 c6_0_3 f6_0_3 c6_0_4 f6_0_4 c6_0_5 f6_0_5 c6_0_6 f6_0_6 c6_0_7 f6_0_7 c6_0_8 f6_0_8 c6_0_9 f6_0_9 l6_1 c6_1_0 f6_1_0 c6_1_1 f6_1_1 c6_1_2 f6_1_2
 have zz7 : 0 = 0 := rfl
 have l7_0 : w.heap.size < w7.heap.size := (Array.getElem?_eq_some_iff.1 b7_0.out).1
 have c7_0_0 := celR 0 b7_0.out
 have f7_0_0 := block_free b7_0.out 0
 have c7_0_1 := celR 1 b7_0.out
 have f7_0_1 := block_free b7_0.out 1
 have c7_0_2 := celR 2 b7_0.out
 have f7_0_2 := block_free b7_0.out 2
 have c7_0_3 := celR 3 b7_0.out
 have f7_0_3 := block_free b7_0.out 3
 have c7_0_4 := celR 4 b7_0.out
 have f7_0_4 := block_free b7_0.out 4
 have c7_0_5 := celR 5 b7_0.out
 have f7_0_5 := block_free b7_0.out 5
 have c7_0_6 := celR 6 b7_0.out
 have f7_0_6 := block_free b7_0.out 6
 have c7_0_7 := celR 7 b7_0.out
 have f7_0_7 := block_free b7_0.out 7
 have c7_0_8 := celR 8 b7_0.out
 have f7_0_8 := block_free b7_0.out 8
 have c7_0_9 := celR 9 b7_0.out
 have f7_0_9 := block_free b7_0.out 9
 go_wp2_with fail
 refine (nodePut_any (n0 : Int) (n1 : Int) (n2 : Int) a b c d l (n4 : Int) (n5 : Int) _ (HE.out.below (HBO.out.trans (Below.mono X7 HBO.out.size))).tab).mono ?_
 unfold TextR
 obtain ⟨tx, htx⟩ : ∃ x, x = nodeS ((n0 : Int), (n1 : Int), (n2 : Int), (a, b, c, d, l), (n4 : Int), (n5 : Int)) := ⟨_, rfl⟩
 rw [← htx]
 have HTX := Lib.hid htx; clear htx
 rintro e w8 ⟨rfl, hb8⟩
 have zz8 : w7.heap.size ≤ w8.heap.size := by have := hb8.size; simpa [World.setCell] using this
 have YY8 : Below w.heap.size w w7 := X7
 have X8 : Below w.heap.size w w8 := YY8.trans (hb8.mono YY8.size)
 clear YY8
 have b8_0 : Hid (w8.heap[w.heap.size]? = some (.cells #[.int .i64 (n0 : Int), .int .i64 (n1 : Int), .int .i64 (n2 : Int), .int .i64 a, .int .i64 b, .int .i64 c, .int .i64 d, .int .i64 l, .int .i64 (n4 : Int), .int .i64 (n5 : Int)] 53 (0, 0))) := Lib.hid ((hb8.block _ (by first | omega | (simp [World.setCell] <;> omega))).trans b7_0.out)
 clear b7_0 X7 zz7 l7_0 c7_0_0 f7_0_0 c7_0_1 f7_0_1 c7_0_2 f7_0_2 c7_0_3 f7_0_3 c7_0_4 f7_0_4 c7_0_5 f7_0_5 c7_0_6 f7_0_6 c7_0_7 f7_0_7 c7_0_8 f7_0_8 c7_0_9 f7_0_9 hb8
 have l8_0 : w.heap.size < w8.heap.size := (Array.getElem?_eq_some_iff.1 b8_0.out).1
 have c8_0_0 := celR 0 b8_0.out
 have f8_0_0 := block_free b8_0.out 0
 have c8_0_1 := celR 1 b8_0.out
 have f8_0_1 := block_free b8_0.out 1
 have c8_0_2 := celR 2 b8_0.out
 have f8_0_2 := block_free b8_0.out 2
 have c8_0_3 := celR 3 b8_0.out
 have f8_0_3 := block_free b8_0.out 3
 have c8_0_4 := celR 4 b8_0.out
 have f8_0_4 := block_free b8_0.out 4
 have c8_0_5 := celR 5 b8_0.out
 have f8_0_5 := block_free b8_0.out 5
 have c8_0_6 := celR 6 b8_0.out
 have f8_0_6 := block_free b8_0.out 6
 have c8_0_7 := celR 7 b8_0.out
 have f8_0_7 := block_free b8_0.out 7
 have c8_0_8 := celR 8 b8_0.out
 have f8_0_8 := block_free b8_0.out 8
 have c8_0_9 := celR 9 b8_0.out
 have f8_0_9 := block_free b8_0.out 9
 by_cases hps : tx = s
 case neg =>
  have HNO := Lib.hid (HSEV.out.no_text (by unfold sevenN; rw [← HN0.out, ← HN1.out, ← HN2.out, ← HN4.out, ← HN5.out, ← HTX.out]; exact hps))
  have hq : ((strB tx).toList != (strB s).toList) = true := by rw [strB_list, strB_list]; simpa using hps
  have hq2 : ((strB tx).toList == (strB s).toList) = false := by rw [strB_list, strB_list]; simpa using hps
  clear hps
  have HRC : Hid ((w8).heap[wO.heap.size]? = some (.cells #[.int .i64 0, .int .i64 0, .int .i64 0, .int .i64 0, .int .i64 0, .int .i64 0, .int .i64 0, .int .i64 0, .int .i64 0, .int .i64 0] 53 (0, 0))) := Lib.hid ((Below.block X8 _ lrO).trans HRO.out)
  have rc0 := celR 0 HRC.out; have rf0 := block_free HRC.out 0
  have rc1 := celR 1 HRC.out; have rf1 := block_free HRC.out 1
  have rc2 := celR 2 HRC.out; have rf2 := block_free HRC.out 2
  have rc3 := celR 3 HRC.out; have rf3 := block_free HRC.out 3
  have rc4 := celR 4 HRC.out; have rf4 := block_free HRC.out 4
  have rc5 := celR 5 HRC.out; have rf5 := block_free HRC.out 5
  have rc6 := celR 6 HRC.out; have rf6 := block_free HRC.out 6
  have rc7 := celR 7 HRC.out; have rf7 := block_free HRC.out 7
  have rc8 := celR 8 HRC.out; have rf8 := block_free HRC.out 8
  have rc9 := celR 9 HRC.out; have rf9 := block_free HRC.out 9
  have lrC : wO.heap.size < w8.heap.size := (Array.getElem?_eq_some_iff.1 HRC.out).1
  have HRR : Hid ((w8).heap[wO.heap.size]? = some (.cells #[.int .i64 0, .int .i64 0, .int .i64 0, .int .i64 0, .int .i64 0, .int .i64 0, .int .i64 0, .int .i64 0, .int .i64 0, .int .i64 0] 53 (0, 0))) := Lib.hid ((Below.block X8 _ lrO).trans HRO.out)
  have HBL : Hid (Below wO.heap.size wO w8) := Lib.hid (HBO.out.trans (Below.mono X8 HBO.out.size))
  go_wp2_with fail
  have hst := set_10 (x0 := .int .i64 0) (x1 := .int .i64 0) (x2 := .int .i64 0) (x3 := .int .i64 0) (x4 := .int .i64 0) (x5 := .int .i64 0) (x6 := .int .i64 0) (x7 := .int .i64 0) (x8 := .int .i64 0) (x9 := .int .i64 0) HRR.out
  have r0 := celR 0 hst
  have r1 := celR 1 hst
  have r2 := celR 2 hst
  have r3 := celR 3 hst
  have r4 := celR 4 hst
  have r5 := celR 5 hst
  have r6 := celR 6 hst
  have r7 := celR 7 hst
  have r8 := celR 8 hst
  have r9 := celR 9 hst
  clear hst
  exact bodyPost_ret (v := .tuple #[.agg #[.int .i64 0, .int .i64 0, .int .i64 0, .int .i64 0, .int .i64 0, .int .i64 0, .int .i64 0, .int .i64 0, .int .i64 0, .int .i64 0], .bool false]) (by simp [results, Tryz.results72, go_sem, r0, r1, r2, r3, r4, r5, r6, r7, r8, r9]) rfl (GotNode.no HNO.out (Below.setCell (p := ⟨wO.heap.size, 9, none⟩) (Below.setCell (p := ⟨wO.heap.size, 8, none⟩) (Below.setCell (p := ⟨wO.heap.size, 7, none⟩) (Below.setCell (p := ⟨wO.heap.size, 6, none⟩) (Below.setCell (p := ⟨wO.heap.size, 5, none⟩) (Below.setCell (p := ⟨wO.heap.size, 4, none⟩) (Below.setCell (p := ⟨wO.heap.size, 3, none⟩) (Below.setCell (p := ⟨wO.heap.size, 2, none⟩) (Below.setCell (p := ⟨wO.heap.size, 1, none⟩) (Below.setCell (p := ⟨wO.heap.size, 0, none⟩) HBL.out (Nat.le_refl _) _) (Nat.le_refl _) _) (Nat.le_refl _) _) (Nat.le_refl _) _) (Nat.le_refl _) _) (Nat.le_refl _) _) (Nat.le_refl _) _) (Nat.le_refl _) _) (Nat.le_refl _) _) (Nat.le_refl _) _))
 have HY : Hid (nodeGet s = some ((n0 : Int), (n1 : Int), (n2 : Int), (a, b, c, d, l), (n4 : Int), (n5 : Int))) := Lib.hid (by have h_ := HSEV.out.yes (by unfold sevenN; rw [← HN0.out, ← HN1.out, ← HN2.out, ← HN4.out, ← HN5.out, ← HTX.out]; exact hps); unfold sevenN at h_; rw [← HN0.out, ← HN1.out, ← HN2.out, ← HN4.out, ← HN5.out] at h_; exact h_)
 have hq : ((strB tx).toList == (strB s).toList) = true := by rw [hps]; simp
 clear hps
 have HRC : Hid ((w8).heap[wO.heap.size]? = some (.cells #[.int .i64 0, .int .i64 0, .int .i64 0, .int .i64 0, .int .i64 0, .int .i64 0, .int .i64 0, .int .i64 0, .int .i64 0, .int .i64 0] 53 (0, 0))) := Lib.hid ((Below.block X8 _ lrO).trans HRO.out)
 have rc0 := celR 0 HRC.out; have rf0 := block_free HRC.out 0
 have rc1 := celR 1 HRC.out; have rf1 := block_free HRC.out 1
 have rc2 := celR 2 HRC.out; have rf2 := block_free HRC.out 2
 have rc3 := celR 3 HRC.out; have rf3 := block_free HRC.out 3
 have rc4 := celR 4 HRC.out; have rf4 := block_free HRC.out 4
 have rc5 := celR 5 HRC.out; have rf5 := block_free HRC.out 5
 have rc6 := celR 6 HRC.out; have rf6 := block_free HRC.out 6
 have rc7 := celR 7 HRC.out; have rf7 := block_free HRC.out 7
 have rc8 := celR 8 HRC.out; have rf8 := block_free HRC.out 8
 have rc9 := celR 9 HRC.out; have rf9 := block_free HRC.out 9
 have lrC : wO.heap.size < w8.heap.size := (Array.getElem?_eq_some_iff.1 HRC.out).1
 have HRR : Hid ((w8).heap[wO.heap.size]? = some (.cells #[.int .i64 0, .int .i64 0, .int .i64 0, .int .i64 0, .int .i64 0, .int .i64 0, .int .i64 0, .int .i64 0, .int .i64 0, .int .i64 0] 53 (0, 0))) := Lib.hid ((Below.block X8 _ lrO).trans HRO.out)
 have HBL : Hid (Below wO.heap.size wO w8) := Lib.hid (HBO.out.trans (Below.mono X8 HBO.out.size))
 go_wp2_with fail
 have hst := set_10 (x0 := .int .i64 (n0 : Int)) (x1 := .int .i64 (n1 : Int)) (x2 := .int .i64 (n2 : Int)) (x3 := .int .i64 a) (x4 := .int .i64 b) (x5 := .int .i64 c) (x6 := .int .i64 d) (x7 := .int .i64 l) (x8 := .int .i64 (n4 : Int)) (x9 := .int .i64 (n5 : Int)) HRR.out
 have r0 := celR 0 hst
 have r1 := celR 1 hst
 have r2 := celR 2 hst
 have r3 := celR 3 hst
 have r4 := celR 4 hst
 have r5 := celR 5 hst
 have r6 := celR 6 hst
 have r7 := celR 7 hst
 have r8 := celR 8 hst
 have r9 := celR 9 hst
 clear hst
 exact bodyPost_ret (v := .tuple #[.agg #[.int .i64 (n0 : Int), .int .i64 (n1 : Int), .int .i64 (n2 : Int), .int .i64 a, .int .i64 b, .int .i64 c, .int .i64 d, .int .i64 l, .int .i64 (n4 : Int), .int .i64 (n5 : Int)], .bool true]) (by simp [results, Tryz.results72, go_sem, r0, r1, r2, r3, r4, r5, r6, r7, r8, r9]) rfl (GotNode.yes HY.out (Below.setCell (p := ⟨wO.heap.size, 9, none⟩) (Below.setCell (p := ⟨wO.heap.size, 8, none⟩) (Below.setCell (p := ⟨wO.heap.size, 7, none⟩) (Below.setCell (p := ⟨wO.heap.size, 6, none⟩) (Below.setCell (p := ⟨wO.heap.size, 5, none⟩) (Below.setCell (p := ⟨wO.heap.size, 4, none⟩) (Below.setCell (p := ⟨wO.heap.size, 3, none⟩) (Below.setCell (p := ⟨wO.heap.size, 2, none⟩) (Below.setCell (p := ⟨wO.heap.size, 1, none⟩) (Below.setCell (p := ⟨wO.heap.size, 0, none⟩) HBL.out (Nat.le_refl _) _) (Nat.le_refl _) _) (Nat.le_refl _) _) (Nat.le_refl _) _) (Nat.le_refl _) _) (Nat.le_refl _) _) (Nat.le_refl _) _) (Nat.le_refl _) _) (Nat.le_refl _) _) (Nat.le_refl _) _))
set_option maxRecDepth 100000 in
set_option maxHeartbeats 8000000 in
theorem spNodeGet_any (s : Str) (wO : World) (hs : s.length ≤ 1000000) : Calls Tryz.prog 59 #[.string (strB s)] wO (GotNode s wO) := by
 go_enter Tryz.func59, Tryz.ntmps59
 go_wp2_with fail
 refine (spFieldsGet_any s _ (by omega)).mono ?_
 rintro e w hX
 have hbX : Below (wO.alloc (.cells #[.int .i64 0, .int .i64 0, .int .i64 0, .int .i64 0, .int .i64 0, .int .i64 0, .int .i64 0, .int .i64 0, .int .i64 0, .int .i64 0] 53)).heap.size (wO.alloc (.cells #[.int .i64 0, .int .i64 0, .int .i64 0, .int .i64 0, .int .i64 0, .int .i64 0, .int .i64 0, .int .i64 0, .int .i64 0, .int .i64 0] 53)) w := by
  rcases hX with ⟨_, _, _, _, _, _, hb⟩ | ⟨_, _, hb⟩ <;> exact hb
 have HRO : Hid (w.heap[wO.heap.size]? = some (.cells #[.int .i64 0, .int .i64 0, .int .i64 0, .int .i64 0, .int .i64 0, .int .i64 0, .int .i64 0, .int .i64 0, .int .i64 0, .int .i64 0] 53 (0, 0))) := Lib.hid ((hbX.block _ (by simp)).trans (heap_alloc_new _ _))
 have HBO : Hid (Below wO.heap.size wO w) := Lib.hid (bel1.trans (hbX.mono (by simp)))
 have lrO : wO.heap.size < w.heap.size := by have := hbX.size; simp at this; omega
 have lrR := celR 0 HRO.out
 clear lrR hbX
 rcases hX with ⟨fl, A, cp, hR, rfl, hI, hb1⟩ | ⟨hno, ⟨A, cp, rfl⟩, hb1⟩
 case inr =>
  have HNO := Lib.hid (node_no hno); clear hno hb1
  have HRC : Hid ((w).heap[wO.heap.size]? = some (.cells #[.int .i64 0, .int .i64 0, .int .i64 0, .int .i64 0, .int .i64 0, .int .i64 0, .int .i64 0, .int .i64 0, .int .i64 0, .int .i64 0] 53 (0, 0))) := Lib.hid ((Below.block (Below.refl w.heap.size w) _ lrO).trans HRO.out)
  have rc0 := celR 0 HRC.out; have rf0 := block_free HRC.out 0
  have rc1 := celR 1 HRC.out; have rf1 := block_free HRC.out 1
  have rc2 := celR 2 HRC.out; have rf2 := block_free HRC.out 2
  have rc3 := celR 3 HRC.out; have rf3 := block_free HRC.out 3
  have rc4 := celR 4 HRC.out; have rf4 := block_free HRC.out 4
  have rc5 := celR 5 HRC.out; have rf5 := block_free HRC.out 5
  have rc6 := celR 6 HRC.out; have rf6 := block_free HRC.out 6
  have rc7 := celR 7 HRC.out; have rf7 := block_free HRC.out 7
  have rc8 := celR 8 HRC.out; have rf8 := block_free HRC.out 8
  have rc9 := celR 9 HRC.out; have rf9 := block_free HRC.out 9
  have lrC : wO.heap.size < w.heap.size := (Array.getElem?_eq_some_iff.1 HRC.out).1
  have HRR : Hid ((w).heap[wO.heap.size]? = some (.cells #[.int .i64 0, .int .i64 0, .int .i64 0, .int .i64 0, .int .i64 0, .int .i64 0, .int .i64 0, .int .i64 0, .int .i64 0, .int .i64 0] 53 (0, 0))) := Lib.hid ((Below.block (Below.refl _ _) _ lrO).trans HRO.out)
  have HBL : Hid (Below wO.heap.size wO w) := Lib.hid (HBO.out.trans (Below.mono (Below.refl _ _) HBO.out.size))
  go_wp2_with fail
  have hst := set_10 (x0 := .int .i64 0) (x1 := .int .i64 0) (x2 := .int .i64 0) (x3 := .int .i64 0) (x4 := .int .i64 0) (x5 := .int .i64 0) (x6 := .int .i64 0) (x7 := .int .i64 0) (x8 := .int .i64 0) (x9 := .int .i64 0) HRR.out
  have r0 := celR 0 hst
  have r1 := celR 1 hst
  have r2 := celR 2 hst
  have r3 := celR 3 hst
  have r4 := celR 4 hst
  have r5 := celR 5 hst
  have r6 := celR 6 hst
  have r7 := celR 7 hst
  have r8 := celR 8 hst
  have r9 := celR 9 hst
  clear hst
  exact bodyPost_ret (v := .tuple #[.agg #[.int .i64 0, .int .i64 0, .int .i64 0, .int .i64 0, .int .i64 0, .int .i64 0, .int .i64 0, .int .i64 0, .int .i64 0, .int .i64 0], .bool false]) (by simp [results, Tryz.results59, go_sem, r0, r1, r2, r3, r4, r5, r6, r7, r8, r9]) rfl (GotNode.no HNO.out (Below.setCell (p := ⟨wO.heap.size, 9, none⟩) (Below.setCell (p := ⟨wO.heap.size, 8, none⟩) (Below.setCell (p := ⟨wO.heap.size, 7, none⟩) (Below.setCell (p := ⟨wO.heap.size, 6, none⟩) (Below.setCell (p := ⟨wO.heap.size, 5, none⟩) (Below.setCell (p := ⟨wO.heap.size, 4, none⟩) (Below.setCell (p := ⟨wO.heap.size, 3, none⟩) (Below.setCell (p := ⟨wO.heap.size, 2, none⟩) (Below.setCell (p := ⟨wO.heap.size, 1, none⟩) (Below.setCell (p := ⟨wO.heap.size, 0, none⟩) HBL.out (Nat.le_refl _) _) (Nat.le_refl _) _) (Nat.le_refl _) _) (Nat.le_refl _) _) (Nat.le_refl _) _) (Nat.le_refl _) _) (Nat.le_refl _) _) (Nat.le_refl _) _) (Nat.le_refl _) _) (Nat.le_refl _) _))
 have HR := Lib.hid hR; clear hR hb1
 by_cases hl : fl.length = 7
 case neg =>
  have HNO := Lib.hid (node_len HR.out hl)
  have hnb : ((fl.length : Int) != 7) = true := by simp; omega
  clear hl
  have HRC : Hid ((w).heap[wO.heap.size]? = some (.cells #[.int .i64 0, .int .i64 0, .int .i64 0, .int .i64 0, .int .i64 0, .int .i64 0, .int .i64 0, .int .i64 0, .int .i64 0, .int .i64 0] 53 (0, 0))) := Lib.hid ((Below.block (Below.refl w.heap.size w) _ lrO).trans HRO.out)
  have rc0 := celR 0 HRC.out; have rf0 := block_free HRC.out 0
  have rc1 := celR 1 HRC.out; have rf1 := block_free HRC.out 1
  have rc2 := celR 2 HRC.out; have rf2 := block_free HRC.out 2
  have rc3 := celR 3 HRC.out; have rf3 := block_free HRC.out 3
  have rc4 := celR 4 HRC.out; have rf4 := block_free HRC.out 4
  have rc5 := celR 5 HRC.out; have rf5 := block_free HRC.out 5
  have rc6 := celR 6 HRC.out; have rf6 := block_free HRC.out 6
  have rc7 := celR 7 HRC.out; have rf7 := block_free HRC.out 7
  have rc8 := celR 8 HRC.out; have rf8 := block_free HRC.out 8
  have rc9 := celR 9 HRC.out; have rf9 := block_free HRC.out 9
  have lrC : wO.heap.size < w.heap.size := (Array.getElem?_eq_some_iff.1 HRC.out).1
  have HRR : Hid ((w).heap[wO.heap.size]? = some (.cells #[.int .i64 0, .int .i64 0, .int .i64 0, .int .i64 0, .int .i64 0, .int .i64 0, .int .i64 0, .int .i64 0, .int .i64 0, .int .i64 0] 53 (0, 0))) := Lib.hid ((Below.block (Below.refl _ _) _ lrO).trans HRO.out)
  have HBL : Hid (Below wO.heap.size wO w) := Lib.hid (HBO.out.trans (Below.mono (Below.refl _ _) HBO.out.size))
  go_wp2_with fail
  have hst := set_10 (x0 := .int .i64 0) (x1 := .int .i64 0) (x2 := .int .i64 0) (x3 := .int .i64 0) (x4 := .int .i64 0) (x5 := .int .i64 0) (x6 := .int .i64 0) (x7 := .int .i64 0) (x8 := .int .i64 0) (x9 := .int .i64 0) HRR.out
  have r0 := celR 0 hst
  have r1 := celR 1 hst
  have r2 := celR 2 hst
  have r3 := celR 3 hst
  have r4 := celR 4 hst
  have r5 := celR 5 hst
  have r6 := celR 6 hst
  have r7 := celR 7 hst
  have r8 := celR 8 hst
  have r9 := celR 9 hst
  clear hst
  exact bodyPost_ret (v := .tuple #[.agg #[.int .i64 0, .int .i64 0, .int .i64 0, .int .i64 0, .int .i64 0, .int .i64 0, .int .i64 0, .int .i64 0, .int .i64 0, .int .i64 0], .bool false]) (by simp [results, Tryz.results59, go_sem, r0, r1, r2, r3, r4, r5, r6, r7, r8, r9]) rfl (GotNode.no HNO.out (Below.setCell (p := ⟨wO.heap.size, 9, none⟩) (Below.setCell (p := ⟨wO.heap.size, 8, none⟩) (Below.setCell (p := ⟨wO.heap.size, 7, none⟩) (Below.setCell (p := ⟨wO.heap.size, 6, none⟩) (Below.setCell (p := ⟨wO.heap.size, 5, none⟩) (Below.setCell (p := ⟨wO.heap.size, 4, none⟩) (Below.setCell (p := ⟨wO.heap.size, 3, none⟩) (Below.setCell (p := ⟨wO.heap.size, 2, none⟩) (Below.setCell (p := ⟨wO.heap.size, 1, none⟩) (Below.setCell (p := ⟨wO.heap.size, 0, none⟩) HBL.out (Nat.le_refl _) _) (Nat.le_refl _) _) (Nat.le_refl _) _) (Nat.le_refl _) _) (Nat.le_refl _) _) (Nat.le_refl _) _) (Nat.le_refl _) _) (Nat.le_refl _) _) (Nat.le_refl _) _) (Nat.le_refl _) _))
 obtain ⟨y0, y1, y2, y3, y4, y5, y6, rfl⟩ := strs7 hl
 obtain ⟨g, rfl, lg, hcs⟩ := hI.cellsN (by simp)
 have hcp : 7 ≤ cp := hI.le
 rw [hl]
 have hl0 := rec_leN HR.out (f := y0) (by simp)
 have hl1 := rec_leN HR.out (f := y1) (by simp)
 have hl2 := rec_leN HR.out (f := y2) (by simp)
 have hl3 := rec_leN HR.out (f := y3) (by simp)
 have hl4 := rec_leN HR.out (f := y4) (by simp)
 have hl5 := rec_leN HR.out (f := y5) (by simp)
 have E0 := Lib.hid (hcs 0 _ rfl); have E1 := Lib.hid (hcs 1 _ rfl); have E2 := Lib.hid (hcs 2 _ rfl); have E3 := Lib.hid (hcs 3 _ rfl); have E4 := Lib.hid (hcs 4 _ rfl); have E5 := Lib.hid (hcs 5 _ rfl)
 clear hl hI hcs
 obtain ⟨n0, hn0⟩ : ∃ n, n = (numGet y0).getD 0 := ⟨_, rfl⟩
 obtain ⟨o0, ho0⟩ : ∃ n, n = (numGet y0).isSome := ⟨_, rfl⟩
 have HN0 := Lib.hid hn0; have HO0 := Lib.hid ho0; clear hn0 ho0
 obtain ⟨n1, hn1⟩ : ∃ n, n = (numGet y1).getD 0 := ⟨_, rfl⟩
 obtain ⟨o1, ho1⟩ : ∃ n, n = (numGet y1).isSome := ⟨_, rfl⟩
 have HN1 := Lib.hid hn1; have HO1 := Lib.hid ho1; clear hn1 ho1
 obtain ⟨n2, hn2⟩ : ∃ n, n = (numGet y2).getD 0 := ⟨_, rfl⟩
 obtain ⟨o2, ho2⟩ : ∃ n, n = (numGet y2).isSome := ⟨_, rfl⟩
 have HN2 := Lib.hid hn2; have HO2 := Lib.hid ho2; clear hn2 ho2
 obtain ⟨n4, hn4⟩ : ∃ n, n = (numGet y4).getD 0 := ⟨_, rfl⟩
 obtain ⟨o4, ho4⟩ : ∃ n, n = (numGet y4).isSome := ⟨_, rfl⟩
 have HN4 := Lib.hid hn4; have HO4 := Lib.hid ho4; clear hn4 ho4
 obtain ⟨n5, hn5⟩ : ∃ n, n = (numGet y5).getD 0 := ⟨_, rfl⟩
 obtain ⟨o5, ho5⟩ : ∃ n, n = (numGet y5).isSome := ⟨_, rfl⟩
 have HN5 := Lib.hid hn5; have HO5 := Lib.hid ho5; clear hn5 ho5
 have ey := E0.out
 go_wp2_with fail
 obtain ⟨w1, hW1⟩ : ∃ x, x = (World.alloc w (.cells #[.int .i64 0, .int .i64 0, .int .i64 0, .int .i64 0, .int .i64 0, .int .i64 0, .int .i64 0, .int .i64 0, .int .i64 0, .int .i64 0] 53)) := ⟨_, rfl⟩
 have hb1 : Below ((World.alloc w (.cells #[.int .i64 0, .int .i64 0, .int .i64 0, .int .i64 0, .int .i64 0, .int .i64 0, .int .i64 0, .int .i64 0, .int .i64 0, .int .i64 0] 53))).heap.size ((World.alloc w (.cells #[.int .i64 0, .int .i64 0, .int .i64 0, .int .i64 0, .int .i64 0, .int .i64 0, .int .i64 0, .int .i64 0, .int .i64 0, .int .i64 0] 53))) w1 := by rw [hW1]; exact Below.refl _ _
 have HW1 := Lib.hid hW1; rw [← hW1]; clear hW1
 have zz1 : w.heap.size + 1 ≤ w1.heap.size := by have := hb1.size; simp [World.setCell] at this; omega
 have YY1 : Below w.heap.size w (World.alloc w (.cells #[.int .i64 0, .int .i64 0, .int .i64 0, .int .i64 0, .int .i64 0, .int .i64 0, .int .i64 0, .int .i64 0, .int .i64 0, .int .i64 0] 53)) := (Below.alloc (Below.refl _ _) (by first | exact Nat.le_refl _ | (simp [World.setCell] <;> omega)) _)
 have X1 : Below w.heap.size w w1 := YY1.trans (hb1.mono YY1.size)
 clear YY1
 have b1_0 : Hid (w1.heap[w.heap.size]? = some (.cells #[.int .i64 0, .int .i64 0, .int .i64 0, .int .i64 0, .int .i64 0, .int .i64 0, .int .i64 0, .int .i64 0, .int .i64 0, .int .i64 0] 53 (0, 0))) := Lib.hid ((hb1.block _ (by first | omega | (simp [World.setCell] <;> omega))).trans (show _ from by have := heap_alloc_new w (.cells #[.int .i64 0, .int .i64 0, .int .i64 0, .int .i64 0, .int .i64 0, .int .i64 0, .int .i64 0, .int .i64 0, .int .i64 0, .int .i64 0] 53); simpa [World.setCell] using this))
 clear hb1
 have l1_0 : w.heap.size < w1.heap.size := (Array.getElem?_eq_some_iff.1 b1_0.out).1
 have c1_0_0 := celR 0 b1_0.out
 have f1_0_0 := block_free b1_0.out 0
 have c1_0_1 := celR 1 b1_0.out
 have f1_0_1 := block_free b1_0.out 1
 have c1_0_2 := celR 2 b1_0.out
 have f1_0_2 := block_free b1_0.out 2
 have c1_0_3 := celR 3 b1_0.out
 have f1_0_3 := block_free b1_0.out 3
 have c1_0_4 := celR 4 b1_0.out
 have f1_0_4 := block_free b1_0.out 4
 have c1_0_5 := celR 5 b1_0.out
 have f1_0_5 := block_free b1_0.out 5
 have c1_0_6 := celR 6 b1_0.out
 have f1_0_6 := block_free b1_0.out 6
 have c1_0_7 := celR 7 b1_0.out
 have f1_0_7 := block_free b1_0.out 7
 have c1_0_8 := celR 8 b1_0.out
 have f1_0_8 := block_free b1_0.out 8
 have c1_0_9 := celR 9 b1_0.out
 have f1_0_9 := block_free b1_0.out 9
 clear HW1
 have ey := (X1.cell lg).trans E0.out
 refine (spNumGet_any y0 _ (by omega)).mono ?_
 rw [GotNum_defN, ← HN0.out, ← HO0.out]
 rintro e w2 ⟨rfl, hb2⟩
 have zz2 : w1.heap.size ≤ w2.heap.size := by have := hb2.size; simpa [World.setCell] using this
 have YY2 : Below w.heap.size w w1 := X1
 have X2 : Below w.heap.size w w2 := YY2.trans (hb2.mono YY2.size)
 clear YY2
 have b2_0 : Hid (w2.heap[w.heap.size]? = some (.cells #[.int .i64 0, .int .i64 0, .int .i64 0, .int .i64 0, .int .i64 0, .int .i64 0, .int .i64 0, .int .i64 0, .int .i64 0, .int .i64 0] 53 (0, 0))) := Lib.hid ((hb2.block _ (by first | omega | (simp [World.setCell] <;> omega))).trans b1_0.out)
 clear b1_0 X1 zz1 l1_0 c1_0_0 f1_0_0 c1_0_1 f1_0_1 c1_0_2 f1_0_2 c1_0_3 f1_0_3 c1_0_4 f1_0_4 c1_0_5 f1_0_5 c1_0_6 f1_0_6 c1_0_7 f1_0_7 c1_0_8 f1_0_8 c1_0_9 f1_0_9 hb2
 have l2_0 : w.heap.size < w2.heap.size := (Array.getElem?_eq_some_iff.1 b2_0.out).1
 have c2_0_0 := celR 0 b2_0.out
 have f2_0_0 := block_free b2_0.out 0
 have c2_0_1 := celR 1 b2_0.out
 have f2_0_1 := block_free b2_0.out 1
 have c2_0_2 := celR 2 b2_0.out
 have f2_0_2 := block_free b2_0.out 2
 have c2_0_3 := celR 3 b2_0.out
 have f2_0_3 := block_free b2_0.out 3
 have c2_0_4 := celR 4 b2_0.out
 have f2_0_4 := block_free b2_0.out 4
 have c2_0_5 := celR 5 b2_0.out
 have f2_0_5 := block_free b2_0.out 5
 have c2_0_6 := celR 6 b2_0.out
 have f2_0_6 := block_free b2_0.out 6
 have c2_0_7 := celR 7 b2_0.out
 have f2_0_7 := block_free b2_0.out 7
 have c2_0_8 := celR 8 b2_0.out
 have f2_0_8 := block_free b2_0.out 8
 have c2_0_9 := celR 9 b2_0.out
 have f2_0_9 := block_free b2_0.out 9
 clear ey
 have ey := (X2.cell lg).trans E1.out
 go_wp2_with fail
 refine (spNumGet_any y1 _ (by omega)).mono ?_
 rw [GotNum_defN, ← HN1.out, ← HO1.out]
 rintro e w3 ⟨rfl, hb3⟩
 have zz3 : w2.heap.size ≤ w3.heap.size := by have := hb3.size; simpa [World.setCell] using this
 have YY3 : Below w.heap.size w (World.setCell w2 ⟨w.heap.size, 0, none⟩ (.int .i64 (n0 : Int))) := (Below.setCell (p := ⟨w.heap.size, 0, none⟩) X2 (by have := X2.size; simp <;> omega) _)
 have X3 : Below w.heap.size w w3 := YY3.trans (hb3.mono YY3.size)
 clear YY3
 have b3_0 : Hid (w3.heap[w.heap.size]? = some (.cells #[.int .i64 (n0 : Int), .int .i64 0, .int .i64 0, .int .i64 0, .int .i64 0, .int .i64 0, .int .i64 0, .int .i64 0, .int .i64 0, .int .i64 0] 53 (0, 0))) := Lib.hid ((hb3.block _ (by first | omega | (simp [World.setCell] <;> omega))).trans (block_set b2_0.out))
 clear b2_0 X2 zz2 l2_0 c2_0_0 f2_0_0 c2_0_1 f2_0_1 c2_0_2 f2_0_2 c2_0_3 f2_0_3 c2_0_4 f2_0_4 c2_0_5 f2_0_5 c2_0_6 f2_0_6 c2_0_7 f2_0_7 c2_0_8 f2_0_8 c2_0_9 f2_0_9 hb3
 have l3_0 : w.heap.size < w3.heap.size := (Array.getElem?_eq_some_iff.1 b3_0.out).1
 have c3_0_0 := celR 0 b3_0.out
 have f3_0_0 := block_free b3_0.out 0
 have c3_0_1 := celR 1 b3_0.out
 have f3_0_1 := block_free b3_0.out 1
 have c3_0_2 := celR 2 b3_0.out
 have f3_0_2 := block_free b3_0.out 2
 have c3_0_3 := celR 3 b3_0.out
 have f3_0_3 := block_free b3_0.out 3
 have c3_0_4 := celR 4 b3_0.out
 have f3_0_4 := block_free b3_0.out 4
 have c3_0_5 := celR 5 b3_0.out
 have f3_0_5 := block_free b3_0.out 5
 have c3_0_6 := celR 6 b3_0.out
 have f3_0_6 := block_free b3_0.out 6
 have c3_0_7 := celR 7 b3_0.out
 have f3_0_7 := block_free b3_0.out 7
 have c3_0_8 := celR 8 b3_0.out
 have f3_0_8 := block_free b3_0.out 8
 have c3_0_9 := celR 9 b3_0.out
 have f3_0_9 := block_free b3_0.out 9
 clear ey
 have ey := (X3.cell lg).trans E2.out
 go_wp2_with fail
 refine (spNumGet_any y2 _ (by omega)).mono ?_
 rw [GotNum_defN, ← HN2.out, ← HO2.out]
 rintro e w4 ⟨rfl, hb4⟩
 have zz4 : w3.heap.size ≤ w4.heap.size := by have := hb4.size; simpa [World.setCell] using this
 have YY4 : Below w.heap.size w (World.setCell w3 ⟨w.heap.size, 1, none⟩ (.int .i64 (n1 : Int))) := (Below.setCell (p := ⟨w.heap.size, 1, none⟩) X3 (by have := X3.size; simp <;> omega) _)
 have X4 : Below w.heap.size w w4 := YY4.trans (hb4.mono YY4.size)
 clear YY4
 have b4_0 : Hid (w4.heap[w.heap.size]? = some (.cells #[.int .i64 (n0 : Int), .int .i64 (n1 : Int), .int .i64 0, .int .i64 0, .int .i64 0, .int .i64 0, .int .i64 0, .int .i64 0, .int .i64 0, .int .i64 0] 53 (0, 0))) := Lib.hid ((hb4.block _ (by first | omega | (simp [World.setCell] <;> omega))).trans (block_set b3_0.out))
 clear b3_0 X3 zz3 l3_0 c3_0_0 f3_0_0 c3_0_1 f3_0_1 c3_0_2 f3_0_2 c3_0_3 f3_0_3 c3_0_4 f3_0_4 c3_0_5 f3_0_5 c3_0_6 f3_0_6 c3_0_7 f3_0_7 c3_0_8 f3_0_8 c3_0_9 f3_0_9 hb4
 have l4_0 : w.heap.size < w4.heap.size := (Array.getElem?_eq_some_iff.1 b4_0.out).1
 have c4_0_0 := celR 0 b4_0.out
 have f4_0_0 := block_free b4_0.out 0
 have c4_0_1 := celR 1 b4_0.out
 have f4_0_1 := block_free b4_0.out 1
 have c4_0_2 := celR 2 b4_0.out
 have f4_0_2 := block_free b4_0.out 2
 have c4_0_3 := celR 3 b4_0.out
 have f4_0_3 := block_free b4_0.out 3
 have c4_0_4 := celR 4 b4_0.out
 have f4_0_4 := block_free b4_0.out 4
 have c4_0_5 := celR 5 b4_0.out
 have f4_0_5 := block_free b4_0.out 5
 have c4_0_6 := celR 6 b4_0.out
 have f4_0_6 := block_free b4_0.out 6
 have c4_0_7 := celR 7 b4_0.out
 have f4_0_7 := block_free b4_0.out 7
 have c4_0_8 := celR 8 b4_0.out
 have f4_0_8 := block_free b4_0.out 8
 have c4_0_9 := celR 9 b4_0.out
 have f4_0_9 := block_free b4_0.out 9
 clear ey
 have ey := (X4.cell lg).trans E3.out
 go_wp2_with fail
 refine (spPtrGet_any y3 _ (by omega)).mono ?_
 rintro e w5 ⟨a, b, c, d, l, ok, rfl, hp, hb5⟩
 have HSEV : Hid (Seven s (numGet y0) (numGet y1) (numGet y2) (a, b, c, d, l) ok (numGet y4) (numGet y5)) := Lib.hid ⟨y0, y1, y2, y3, y4, y5, y6, HR.out, rfl, rfl, rfl, hp, rfl, rfl⟩
 clear hp
 have zz5 : w4.heap.size ≤ w5.heap.size := by have := hb5.size; simpa [World.setCell] using this
 have YY5 : Below w.heap.size w (World.setCell w4 ⟨w.heap.size, 2, none⟩ (.int .i64 (n2 : Int))) := (Below.setCell (p := ⟨w.heap.size, 2, none⟩) X4 (by have := X4.size; simp <;> omega) _)
 have X5 : Below w.heap.size w w5 := YY5.trans (hb5.mono YY5.size)
 clear YY5
 have b5_0 : Hid (w5.heap[w.heap.size]? = some (.cells #[.int .i64 (n0 : Int), .int .i64 (n1 : Int), .int .i64 (n2 : Int), .int .i64 0, .int .i64 0, .int .i64 0, .int .i64 0, .int .i64 0, .int .i64 0, .int .i64 0] 53 (0, 0))) := Lib.hid ((hb5.block _ (by first | omega | (simp [World.setCell] <;> omega))).trans (block_set b4_0.out))
 clear b4_0 X4 zz4 l4_0 c4_0_0 f4_0_0 c4_0_1 f4_0_1 c4_0_2 f4_0_2 c4_0_3 f4_0_3 c4_0_4 f4_0_4 c4_0_5 f4_0_5 c4_0_6 f4_0_6 c4_0_7 f4_0_7 c4_0_8 f4_0_8 c4_0_9 f4_0_9 hb5
 have l5_0 : w.heap.size < w5.heap.size := (Array.getElem?_eq_some_iff.1 b5_0.out).1
 have c5_0_0 := celR 0 b5_0.out
 have f5_0_0 := block_free b5_0.out 0
 have c5_0_1 := celR 1 b5_0.out
 have f5_0_1 := block_free b5_0.out 1
 have c5_0_2 := celR 2 b5_0.out
 have f5_0_2 := block_free b5_0.out 2
 have c5_0_3 := celR 3 b5_0.out
 have f5_0_3 := block_free b5_0.out 3
 have c5_0_4 := celR 4 b5_0.out
 have f5_0_4 := block_free b5_0.out 4
 have c5_0_5 := celR 5 b5_0.out
 have f5_0_5 := block_free b5_0.out 5
 have c5_0_6 := celR 6 b5_0.out
 have f5_0_6 := block_free b5_0.out 6
 have c5_0_7 := celR 7 b5_0.out
 have f5_0_7 := block_free b5_0.out 7
 have c5_0_8 := celR 8 b5_0.out
 have f5_0_8 := block_free b5_0.out 8
 have c5_0_9 := celR 9 b5_0.out
 have f5_0_9 := block_free b5_0.out 9
 clear ey
 have ey := (X5.cell lg).trans E4.out
 go_wp2_with fail
 refine (spNumGet_any y4 _ (by omega)).mono ?_
 rw [GotNum_defN, ← HN4.out, ← HO4.out]
 rintro e w6 ⟨rfl, hb6⟩
 have zz6 : w5.heap.size ≤ w6.heap.size := by have := hb6.size; simpa [World.setCell] using this
 have YY6 : Below w.heap.size w (World.setCell (World.setCell (World.setCell (World.setCell (World.setCell w5 ⟨w.heap.size, 3, none⟩ (.int .i64 a)) ⟨w.heap.size, 4, none⟩ (.int .i64 b)) ⟨w.heap.size, 5, none⟩ (.int .i64 c)) ⟨w.heap.size, 6, none⟩ (.int .i64 d)) ⟨w.heap.size, 7, none⟩ (.int .i64 l)) := (Below.setCell (p := ⟨w.heap.size, 7, none⟩) (Below.setCell (p := ⟨w.heap.size, 6, none⟩) (Below.setCell (p := ⟨w.heap.size, 5, none⟩) (Below.setCell (p := ⟨w.heap.size, 4, none⟩) (Below.setCell (p := ⟨w.heap.size, 3, none⟩) X5 (by have := X5.size; simp <;> omega) _) (by have := X5.size; simp <;> omega) _) (by have := X5.size; simp <;> omega) _) (by have := X5.size; simp <;> omega) _) (by have := X5.size; simp <;> omega) _)
 have X6 : Below w.heap.size w w6 := YY6.trans (hb6.mono YY6.size)
 clear YY6
 have b6_0 : Hid (w6.heap[w.heap.size]? = some (.cells #[.int .i64 (n0 : Int), .int .i64 (n1 : Int), .int .i64 (n2 : Int), .int .i64 a, .int .i64 b, .int .i64 c, .int .i64 d, .int .i64 l, .int .i64 0, .int .i64 0] 53 (0, 0))) := Lib.hid ((hb6.block _ (by first | omega | (simp [World.setCell] <;> omega))).trans (block_set (block_set (block_set (block_set (block_set b5_0.out))))))
 clear b5_0 X5 zz5 l5_0 c5_0_0 f5_0_0 c5_0_1 f5_0_1 c5_0_2 f5_0_2 c5_0_3 f5_0_3 c5_0_4 f5_0_4 c5_0_5 f5_0_5 c5_0_6 f5_0_6 c5_0_7 f5_0_7 c5_0_8 f5_0_8 c5_0_9 f5_0_9 hb6
 have l6_0 : w.heap.size < w6.heap.size := (Array.getElem?_eq_some_iff.1 b6_0.out).1
 have c6_0_0 := celR 0 b6_0.out
 have f6_0_0 := block_free b6_0.out 0
 have c6_0_1 := celR 1 b6_0.out
 have f6_0_1 := block_free b6_0.out 1
 have c6_0_2 := celR 2 b6_0.out
 have f6_0_2 := block_free b6_0.out 2
 have c6_0_3 := celR 3 b6_0.out
 have f6_0_3 := block_free b6_0.out 3
 have c6_0_4 := celR 4 b6_0.out
 have f6_0_4 := block_free b6_0.out 4
 have c6_0_5 := celR 5 b6_0.out
 have f6_0_5 := block_free b6_0.out 5
 have c6_0_6 := celR 6 b6_0.out
 have f6_0_6 := block_free b6_0.out 6
 have c6_0_7 := celR 7 b6_0.out
 have f6_0_7 := block_free b6_0.out 7
 have c6_0_8 := celR 8 b6_0.out
 have f6_0_8 := block_free b6_0.out 8
 have c6_0_9 := celR 9 b6_0.out
 have f6_0_9 := block_free b6_0.out 9
 clear ey
 have ey := (X6.cell lg).trans E5.out
 go_wp2_with fail
 refine (spNumGet_any y5 _ (by omega)).mono ?_
 rw [GotNum_defN, ← HN5.out, ← HO5.out]
 rintro e w7 ⟨rfl, hb7⟩
 have zz7 : w6.heap.size ≤ w7.heap.size := by have := hb7.size; simpa [World.setCell] using this
 have YY7 : Below w.heap.size w (World.setCell w6 ⟨w.heap.size, 8, none⟩ (.int .i64 (n4 : Int))) := (Below.setCell (p := ⟨w.heap.size, 8, none⟩) X6 (by have := X6.size; simp <;> omega) _)
 have X7 : Below w.heap.size w w7 := YY7.trans (hb7.mono YY7.size)
 clear YY7
 have b7_0 : Hid (w7.heap[w.heap.size]? = some (.cells #[.int .i64 (n0 : Int), .int .i64 (n1 : Int), .int .i64 (n2 : Int), .int .i64 a, .int .i64 b, .int .i64 c, .int .i64 d, .int .i64 l, .int .i64 (n4 : Int), .int .i64 0] 53 (0, 0))) := Lib.hid ((hb7.block _ (by first | omega | (simp [World.setCell] <;> omega))).trans (block_set b6_0.out))
 clear b6_0 X6 zz6 l6_0 c6_0_0 f6_0_0 c6_0_1 f6_0_1 c6_0_2 f6_0_2 c6_0_3 f6_0_3 c6_0_4 f6_0_4 c6_0_5 f6_0_5 c6_0_6 f6_0_6 c6_0_7 f6_0_7 c6_0_8 f6_0_8 c6_0_9 f6_0_9 hb7
 have l7_0 : w.heap.size < w7.heap.size := (Array.getElem?_eq_some_iff.1 b7_0.out).1
 have c7_0_0 := celR 0 b7_0.out
 have f7_0_0 := block_free b7_0.out 0
 have c7_0_1 := celR 1 b7_0.out
 have f7_0_1 := block_free b7_0.out 1
 have c7_0_2 := celR 2 b7_0.out
 have f7_0_2 := block_free b7_0.out 2
 have c7_0_3 := celR 3 b7_0.out
 have f7_0_3 := block_free b7_0.out 3
 have c7_0_4 := celR 4 b7_0.out
 have f7_0_4 := block_free b7_0.out 4
 have c7_0_5 := celR 5 b7_0.out
 have f7_0_5 := block_free b7_0.out 5
 have c7_0_6 := celR 6 b7_0.out
 have f7_0_6 := block_free b7_0.out 6
 have c7_0_7 := celR 7 b7_0.out
 have f7_0_7 := block_free b7_0.out 7
 have c7_0_8 := celR 8 b7_0.out
 have f7_0_8 := block_free b7_0.out 8
 have c7_0_9 := celR 9 b7_0.out
 have f7_0_9 := block_free b7_0.out 9
 clear ey
 go_wp2_with fail
 refine (spNodeOk_any (n0 : Int) (n1 : Int) (n2 : Int) a b c d l (n4 : Int) (n5 : Int) _).mono ?_
 obtain ⟨rk, hrk⟩ : ∃ x, x = nodeOkB ((n0 : Int), (n1 : Int), (n2 : Int), (a, b, c, d, l), (n4 : Int), (n5 : Int)) := ⟨_, rfl⟩
 rw [← hrk]
 have HRK := Lib.hid hrk; clear hrk
 rintro e w8 ⟨rfl, hb8⟩
 have zz8 : w7.heap.size ≤ w8.heap.size := by have := hb8.size; simpa [World.setCell] using this
 have YY8 : Below w.heap.size w (World.setCell w7 ⟨w.heap.size, 9, none⟩ (.int .i64 (n5 : Int))) := (Below.setCell (p := ⟨w.heap.size, 9, none⟩) X7 (by have := X7.size; simp <;> omega) _)
 have X8 : Below w.heap.size w w8 := YY8.trans (hb8.mono YY8.size)
 clear YY8
 have b8_0 : Hid (w8.heap[w.heap.size]? = some (.cells #[.int .i64 (n0 : Int), .int .i64 (n1 : Int), .int .i64 (n2 : Int), .int .i64 a, .int .i64 b, .int .i64 c, .int .i64 d, .int .i64 l, .int .i64 (n4 : Int), .int .i64 (n5 : Int)] 53 (0, 0))) := Lib.hid ((hb8.block _ (by first | omega | (simp [World.setCell] <;> omega))).trans (block_set b7_0.out))
 clear b7_0 X7 zz7 l7_0 c7_0_0 f7_0_0 c7_0_1 f7_0_1 c7_0_2 f7_0_2 c7_0_3 f7_0_3 c7_0_4 f7_0_4 c7_0_5 f7_0_5 c7_0_6 f7_0_6 c7_0_7 f7_0_7 c7_0_8 f7_0_8 c7_0_9 f7_0_9 hb8
 have l8_0 : w.heap.size < w8.heap.size := (Array.getElem?_eq_some_iff.1 b8_0.out).1
 have c8_0_0 := celR 0 b8_0.out
 have f8_0_0 := block_free b8_0.out 0
 have c8_0_1 := celR 1 b8_0.out
 have f8_0_1 := block_free b8_0.out 1
 have c8_0_2 := celR 2 b8_0.out
 have f8_0_2 := block_free b8_0.out 2
 have c8_0_3 := celR 3 b8_0.out
 have f8_0_3 := block_free b8_0.out 3
 have c8_0_4 := celR 4 b8_0.out
 have f8_0_4 := block_free b8_0.out 4
 have c8_0_5 := celR 5 b8_0.out
 have f8_0_5 := block_free b8_0.out 5
 have c8_0_6 := celR 6 b8_0.out
 have f8_0_6 := block_free b8_0.out 6
 have c8_0_7 := celR 7 b8_0.out
 have f8_0_7 := block_free b8_0.out 7
 have c8_0_8 := celR 8 b8_0.out
 have f8_0_8 := block_free b8_0.out 8
 have c8_0_9 := celR 9 b8_0.out
 have f8_0_9 := block_free b8_0.out 9
 cases rk
 case false =>
  have HNO := Lib.hid (HSEV.out.no_ok (by unfold sevenN; rw [← HN0.out, ← HN1.out, ← HN2.out, ← HN4.out, ← HN5.out]; exact HRK.out.symm))
  have HRC : Hid ((w8).heap[wO.heap.size]? = some (.cells #[.int .i64 0, .int .i64 0, .int .i64 0, .int .i64 0, .int .i64 0, .int .i64 0, .int .i64 0, .int .i64 0, .int .i64 0, .int .i64 0] 53 (0, 0))) := Lib.hid ((Below.block X8 _ lrO).trans HRO.out)
  have rc0 := celR 0 HRC.out; have rf0 := block_free HRC.out 0
  have rc1 := celR 1 HRC.out; have rf1 := block_free HRC.out 1
  have rc2 := celR 2 HRC.out; have rf2 := block_free HRC.out 2
  have rc3 := celR 3 HRC.out; have rf3 := block_free HRC.out 3
  have rc4 := celR 4 HRC.out; have rf4 := block_free HRC.out 4
  have rc5 := celR 5 HRC.out; have rf5 := block_free HRC.out 5
  have rc6 := celR 6 HRC.out; have rf6 := block_free HRC.out 6
  have rc7 := celR 7 HRC.out; have rf7 := block_free HRC.out 7
  have rc8 := celR 8 HRC.out; have rf8 := block_free HRC.out 8
  have rc9 := celR 9 HRC.out; have rf9 := block_free HRC.out 9
  have lrC : wO.heap.size < w8.heap.size := (Array.getElem?_eq_some_iff.1 HRC.out).1
  have HRR : Hid ((w8).heap[wO.heap.size]? = some (.cells #[.int .i64 0, .int .i64 0, .int .i64 0, .int .i64 0, .int .i64 0, .int .i64 0, .int .i64 0, .int .i64 0, .int .i64 0, .int .i64 0] 53 (0, 0))) := Lib.hid ((Below.block X8 _ lrO).trans HRO.out)
  have HBL : Hid (Below wO.heap.size wO w8) := Lib.hid (HBO.out.trans (Below.mono X8 HBO.out.size))
  go_wp2_with fail
  have hst := set_10 (x0 := .int .i64 0) (x1 := .int .i64 0) (x2 := .int .i64 0) (x3 := .int .i64 0) (x4 := .int .i64 0) (x5 := .int .i64 0) (x6 := .int .i64 0) (x7 := .int .i64 0) (x8 := .int .i64 0) (x9 := .int .i64 0) HRR.out
  have r0 := celR 0 hst
  have r1 := celR 1 hst
  have r2 := celR 2 hst
  have r3 := celR 3 hst
  have r4 := celR 4 hst
  have r5 := celR 5 hst
  have r6 := celR 6 hst
  have r7 := celR 7 hst
  have r8 := celR 8 hst
  have r9 := celR 9 hst
  clear hst
  exact bodyPost_ret (v := .tuple #[.agg #[.int .i64 0, .int .i64 0, .int .i64 0, .int .i64 0, .int .i64 0, .int .i64 0, .int .i64 0, .int .i64 0, .int .i64 0, .int .i64 0], .bool false]) (by simp [results, Tryz.results59, go_sem, r0, r1, r2, r3, r4, r5, r6, r7, r8, r9]) rfl (GotNode.no HNO.out (Below.setCell (p := ⟨wO.heap.size, 9, none⟩) (Below.setCell (p := ⟨wO.heap.size, 8, none⟩) (Below.setCell (p := ⟨wO.heap.size, 7, none⟩) (Below.setCell (p := ⟨wO.heap.size, 6, none⟩) (Below.setCell (p := ⟨wO.heap.size, 5, none⟩) (Below.setCell (p := ⟨wO.heap.size, 4, none⟩) (Below.setCell (p := ⟨wO.heap.size, 3, none⟩) (Below.setCell (p := ⟨wO.heap.size, 2, none⟩) (Below.setCell (p := ⟨wO.heap.size, 1, none⟩) (Below.setCell (p := ⟨wO.heap.size, 0, none⟩) HBL.out (Nat.le_refl _) _) (Nat.le_refl _) _) (Nat.le_refl _) _) (Nat.le_refl _) _) (Nat.le_refl _) _) (Nat.le_refl _) _) (Nat.le_refl _) _) (Nat.le_refl _) _) (Nat.le_refl _) _) (Nat.le_refl _) _))
 go_wp2_with fail
 refine (spNodePut_any (n0 : Int) (n1 : Int) (n2 : Int) a b c d l (n4 : Int) (n5 : Int) _).mono ?_
 unfold TextR
 obtain ⟨tx, htx⟩ : ∃ x, x = nodeS ((n0 : Int), (n1 : Int), (n2 : Int), (a, b, c, d, l), (n4 : Int), (n5 : Int)) := ⟨_, rfl⟩
 rw [← htx]
 have HTX := Lib.hid htx; clear htx
 rintro e w9 ⟨rfl, hb9⟩
 have zz9 : w8.heap.size ≤ w9.heap.size := by have := hb9.size; simpa [World.setCell] using this
 have YY9 : Below w.heap.size w w8 := X8
 have X9 : Below w.heap.size w w9 := YY9.trans (hb9.mono YY9.size)
 clear YY9
 have b9_0 : Hid (w9.heap[w.heap.size]? = some (.cells #[.int .i64 (n0 : Int), .int .i64 (n1 : Int), .int .i64 (n2 : Int), .int .i64 a, .int .i64 b, .int .i64 c, .int .i64 d, .int .i64 l, .int .i64 (n4 : Int), .int .i64 (n5 : Int)] 53 (0, 0))) := Lib.hid ((hb9.block _ (by first | omega | (simp [World.setCell] <;> omega))).trans b8_0.out)
 clear b8_0 X8 zz8 l8_0 c8_0_0 f8_0_0 c8_0_1 f8_0_1 c8_0_2 f8_0_2 c8_0_3 f8_0_3 c8_0_4 f8_0_4 c8_0_5 f8_0_5 c8_0_6 f8_0_6 c8_0_7 f8_0_7 c8_0_8 f8_0_8 c8_0_9 f8_0_9 hb9
 have l9_0 : w.heap.size < w9.heap.size := (Array.getElem?_eq_some_iff.1 b9_0.out).1
 have c9_0_0 := celR 0 b9_0.out
 have f9_0_0 := block_free b9_0.out 0
 have c9_0_1 := celR 1 b9_0.out
 have f9_0_1 := block_free b9_0.out 1
 have c9_0_2 := celR 2 b9_0.out
 have f9_0_2 := block_free b9_0.out 2
 have c9_0_3 := celR 3 b9_0.out
 have f9_0_3 := block_free b9_0.out 3
 have c9_0_4 := celR 4 b9_0.out
 have f9_0_4 := block_free b9_0.out 4
 have c9_0_5 := celR 5 b9_0.out
 have f9_0_5 := block_free b9_0.out 5
 have c9_0_6 := celR 6 b9_0.out
 have f9_0_6 := block_free b9_0.out 6
 have c9_0_7 := celR 7 b9_0.out
 have f9_0_7 := block_free b9_0.out 7
 have c9_0_8 := celR 8 b9_0.out
 have f9_0_8 := block_free b9_0.out 8
 have c9_0_9 := celR 9 b9_0.out
 have f9_0_9 := block_free b9_0.out 9
 by_cases hps : tx = s
 case neg =>
  have HNO := Lib.hid (HSEV.out.no_text (by unfold sevenN; rw [← HN0.out, ← HN1.out, ← HN2.out, ← HN4.out, ← HN5.out, ← HTX.out]; exact hps))
  have hq : ((strB tx).toList != (strB s).toList) = true := by rw [strB_list, strB_list]; simpa using hps
  have hq2 : ((strB tx).toList == (strB s).toList) = false := by rw [strB_list, strB_list]; simpa using hps
  clear hps
  have HRC : Hid ((w9).heap[wO.heap.size]? = some (.cells #[.int .i64 0, .int .i64 0, .int .i64 0, .int .i64 0, .int .i64 0, .int .i64 0, .int .i64 0, .int .i64 0, .int .i64 0, .int .i64 0] 53 (0, 0))) := Lib.hid ((Below.block X9 _ lrO).trans HRO.out)
  have rc0 := celR 0 HRC.out; have rf0 := block_free HRC.out 0
  have rc1 := celR 1 HRC.out; have rf1 := block_free HRC.out 1
  have rc2 := celR 2 HRC.out; have rf2 := block_free HRC.out 2
  have rc3 := celR 3 HRC.out; have rf3 := block_free HRC.out 3
  have rc4 := celR 4 HRC.out; have rf4 := block_free HRC.out 4
  have rc5 := celR 5 HRC.out; have rf5 := block_free HRC.out 5
  have rc6 := celR 6 HRC.out; have rf6 := block_free HRC.out 6
  have rc7 := celR 7 HRC.out; have rf7 := block_free HRC.out 7
  have rc8 := celR 8 HRC.out; have rf8 := block_free HRC.out 8
  have rc9 := celR 9 HRC.out; have rf9 := block_free HRC.out 9
  have lrC : wO.heap.size < w9.heap.size := (Array.getElem?_eq_some_iff.1 HRC.out).1
  have HRR : Hid ((w9).heap[wO.heap.size]? = some (.cells #[.int .i64 0, .int .i64 0, .int .i64 0, .int .i64 0, .int .i64 0, .int .i64 0, .int .i64 0, .int .i64 0, .int .i64 0, .int .i64 0] 53 (0, 0))) := Lib.hid ((Below.block X9 _ lrO).trans HRO.out)
  have HBL : Hid (Below wO.heap.size wO w9) := Lib.hid (HBO.out.trans (Below.mono X9 HBO.out.size))
  go_wp2_with fail
  have hst := set_10 (x0 := .int .i64 0) (x1 := .int .i64 0) (x2 := .int .i64 0) (x3 := .int .i64 0) (x4 := .int .i64 0) (x5 := .int .i64 0) (x6 := .int .i64 0) (x7 := .int .i64 0) (x8 := .int .i64 0) (x9 := .int .i64 0) HRR.out
  have r0 := celR 0 hst
  have r1 := celR 1 hst
  have r2 := celR 2 hst
  have r3 := celR 3 hst
  have r4 := celR 4 hst
  have r5 := celR 5 hst
  have r6 := celR 6 hst
  have r7 := celR 7 hst
  have r8 := celR 8 hst
  have r9 := celR 9 hst
  clear hst
  exact bodyPost_ret (v := .tuple #[.agg #[.int .i64 0, .int .i64 0, .int .i64 0, .int .i64 0, .int .i64 0, .int .i64 0, .int .i64 0, .int .i64 0, .int .i64 0, .int .i64 0], .bool false]) (by simp [results, Tryz.results59, go_sem, r0, r1, r2, r3, r4, r5, r6, r7, r8, r9]) rfl (GotNode.no HNO.out (Below.setCell (p := ⟨wO.heap.size, 9, none⟩) (Below.setCell (p := ⟨wO.heap.size, 8, none⟩) (Below.setCell (p := ⟨wO.heap.size, 7, none⟩) (Below.setCell (p := ⟨wO.heap.size, 6, none⟩) (Below.setCell (p := ⟨wO.heap.size, 5, none⟩) (Below.setCell (p := ⟨wO.heap.size, 4, none⟩) (Below.setCell (p := ⟨wO.heap.size, 3, none⟩) (Below.setCell (p := ⟨wO.heap.size, 2, none⟩) (Below.setCell (p := ⟨wO.heap.size, 1, none⟩) (Below.setCell (p := ⟨wO.heap.size, 0, none⟩) HBL.out (Nat.le_refl _) _) (Nat.le_refl _) _) (Nat.le_refl _) _) (Nat.le_refl _) _) (Nat.le_refl _) _) (Nat.le_refl _) _) (Nat.le_refl _) _) (Nat.le_refl _) _) (Nat.le_refl _) _) (Nat.le_refl _) _))
 have HY : Hid (nodeGet s = some ((n0 : Int), (n1 : Int), (n2 : Int), (a, b, c, d, l), (n4 : Int), (n5 : Int))) := Lib.hid (by have h_ := HSEV.out.yes (by unfold sevenN; rw [← HN0.out, ← HN1.out, ← HN2.out, ← HN4.out, ← HN5.out, ← HTX.out]; exact hps); unfold sevenN at h_; rw [← HN0.out, ← HN1.out, ← HN2.out, ← HN4.out, ← HN5.out] at h_; exact h_)
 have hq : ((strB tx).toList == (strB s).toList) = true := by rw [hps]; simp
 clear hps
 have HRC : Hid ((w9).heap[wO.heap.size]? = some (.cells #[.int .i64 0, .int .i64 0, .int .i64 0, .int .i64 0, .int .i64 0, .int .i64 0, .int .i64 0, .int .i64 0, .int .i64 0, .int .i64 0] 53 (0, 0))) := Lib.hid ((Below.block X9 _ lrO).trans HRO.out)
 have rc0 := celR 0 HRC.out; have rf0 := block_free HRC.out 0
 have rc1 := celR 1 HRC.out; have rf1 := block_free HRC.out 1
 have rc2 := celR 2 HRC.out; have rf2 := block_free HRC.out 2
 have rc3 := celR 3 HRC.out; have rf3 := block_free HRC.out 3
 have rc4 := celR 4 HRC.out; have rf4 := block_free HRC.out 4
 have rc5 := celR 5 HRC.out; have rf5 := block_free HRC.out 5
 have rc6 := celR 6 HRC.out; have rf6 := block_free HRC.out 6
 have rc7 := celR 7 HRC.out; have rf7 := block_free HRC.out 7
 have rc8 := celR 8 HRC.out; have rf8 := block_free HRC.out 8
 have rc9 := celR 9 HRC.out; have rf9 := block_free HRC.out 9
 have lrC : wO.heap.size < w9.heap.size := (Array.getElem?_eq_some_iff.1 HRC.out).1
 have HRR : Hid ((w9).heap[wO.heap.size]? = some (.cells #[.int .i64 0, .int .i64 0, .int .i64 0, .int .i64 0, .int .i64 0, .int .i64 0, .int .i64 0, .int .i64 0, .int .i64 0, .int .i64 0] 53 (0, 0))) := Lib.hid ((Below.block X9 _ lrO).trans HRO.out)
 have HBL : Hid (Below wO.heap.size wO w9) := Lib.hid (HBO.out.trans (Below.mono X9 HBO.out.size))
 go_wp2_with fail
 have hst := set_10 (x0 := .int .i64 (n0 : Int)) (x1 := .int .i64 (n1 : Int)) (x2 := .int .i64 (n2 : Int)) (x3 := .int .i64 a) (x4 := .int .i64 b) (x5 := .int .i64 c) (x6 := .int .i64 d) (x7 := .int .i64 l) (x8 := .int .i64 (n4 : Int)) (x9 := .int .i64 (n5 : Int)) HRR.out
 have r0 := celR 0 hst
 have r1 := celR 1 hst
 have r2 := celR 2 hst
 have r3 := celR 3 hst
 have r4 := celR 4 hst
 have r5 := celR 5 hst
 have r6 := celR 6 hst
 have r7 := celR 7 hst
 have r8 := celR 8 hst
 have r9 := celR 9 hst
 clear hst
 exact bodyPost_ret (v := .tuple #[.agg #[.int .i64 (n0 : Int), .int .i64 (n1 : Int), .int .i64 (n2 : Int), .int .i64 a, .int .i64 b, .int .i64 c, .int .i64 d, .int .i64 l, .int .i64 (n4 : Int), .int .i64 (n5 : Int)], .bool true]) (by simp [results, Tryz.results59, go_sem, r0, r1, r2, r3, r4, r5, r6, r7, r8, r9]) rfl (GotNode.yes HY.out (Below.setCell (p := ⟨wO.heap.size, 9, none⟩) (Below.setCell (p := ⟨wO.heap.size, 8, none⟩) (Below.setCell (p := ⟨wO.heap.size, 7, none⟩) (Below.setCell (p := ⟨wO.heap.size, 6, none⟩) (Below.setCell (p := ⟨wO.heap.size, 5, none⟩) (Below.setCell (p := ⟨wO.heap.size, 4, none⟩) (Below.setCell (p := ⟨wO.heap.size, 3, none⟩) (Below.setCell (p := ⟨wO.heap.size, 2, none⟩) (Below.setCell (p := ⟨wO.heap.size, 1, none⟩) (Below.setCell (p := ⟨wO.heap.size, 0, none⟩) HBL.out (Nat.le_refl _) _) (Nat.le_refl _) _) (Nat.le_refl _) _) (Nat.le_refl _) _) (Nat.le_refl _) _) (Nat.le_refl _) _) (Nat.le_refl _) _) (Nat.le_refl _) _) (Nat.le_refl _) _) (Nat.le_refl _) _))
end Go.Proofs.YtjnhiiaejeaikaaGreatDoor
