/- MetaGet of the program. Condition: the library's variables lie as the row says; the text is at most 2^40 bytes. -/
import Derived.Test.YtlacpcdbgimnmaaGreatDoorRHeadOf
import Derived.Test.YtlacpcdbgimnmaaGreatDoorRMetaAt
import Derived.Test.YtlacpcdbgimnmaaGreatDoorRMetaPut
set_option linter.unnecessarySimpa false
set_option linter.unusedSimpArgs false
set_option linter.unusedVariables false
namespace Go.Proofs.YtlacpcdbgimnmaaGreatDoor
open Go Go.Lib Go.RowKit
def GotMeta (s : Str) (w : World) (e : Ending) (w' : World) : Prop :=
 ∃ (hs : List HeadD) (ss : List SnapD) (nx : Int) (bo : Bool) (A0 : Option Addr) (n0 c0 : Nat) (A1 : Option Addr) (n1 c1 : Nat) (ok : Bool), e = .returned (.tuple #[.agg #[.slice A0 n0 c0, .slice A1 n1 c1, .int .i64 nx, .bool bo], .bool ok]) ∧ n0 = hs.length ∧ n1 = ss.length ∧ MetaAt w.heap.size w' A0 c0 A1 c1 hs ss ∧ MetaIs s (hs, ss, nx, bo) ok ∧ hs.length ≤ 60 ∧ ss.length ≤ 60 ∧ Below w.heap.size w w'
theorem GotMeta.zero {s : Str} {w w' : World} (h : ∀ m, metaF m ≠ (s, true)) (hb : Below w.heap.size w w') : GotMeta s w (.returned (.tuple #[.agg #[.slice none 0 0, .slice none 0 0, .int .i64 0, .bool false], .bool false])) w' :=
 ⟨[], [], 0, false, none, 0, 0, none, 0, 0, false, rfl, rfl, rfl, MetaAt.nil _ _, MetaIs.no h, by simp, by simp, hb⟩
theorem meta_norec {s : Str} (h : ∀ l, ¬ IsRec s l) : ∀ m, metaF m ≠ (s, true) := fun m hm => h _ (meta_rec hm).1
theorem meta_short {s : Str} {L : List Str} (hr : IsRec s L) (h : L.length < 5) : ∀ m, metaF m ≠ (s, true) := fun m hm => by have := meta_count hm hr; omega
theorem four {xs : List Str} (h : 4 ≤ xs.length) : ∃ f0 f1 f2 f3 tl, xs = f0 :: f1 :: f2 :: f3 :: tl := by
 match xs, h with
 | f0 :: f1 :: f2 :: f3 :: tl, _ => exact ⟨f0, f1, f2, f3, tl, rfl⟩
def ChgB2 (r q : Nat) (a b : World) : Prop := Chg (fun x => x = r ∨ x = q) a b
def softSl2 (r q B T n : Nat) (cur : Array Value) : MStP (ChgB2 r q) Ext := ⟨fun v w => ∃ g : Nat, B ≤ g ∧ v = .slice (some ⟨g, 0, none⟩) n n ∧ w.heap[g]? = some (.cells cur T (0, 0)), false, fun v w w' hs ⟨g, hB, e, hg⟩ => ⟨g, hB, e, (Below.block hs g (Array.getElem?_eq_some_iff.1 hg).1).trans hg⟩, fun h => by cases h⟩
def softBl (r q : Nat) (V : Value) (g T : Nat) (cur : Array Value) : MStP (ChgB2 r q) Ext := ⟨fun v w => v = V ∧ w.heap[g]? = some (.cells cur T (0, 0)), false, fun v w w' hs ⟨e, hg⟩ => ⟨e, (Below.block hs g (Array.getElem?_eq_some_iff.1 hg).1).trans hg⟩, fun h => by cases h⟩
theorem ChgN.app {r : Nat} {S : List Nat} {a b c d : World} (h : Chg (fun x => x = r) a b) (hb : Below b.heap.size b c) (hC : Chg (· ∈ S) c d) (hS : ∀ g ∈ S, a.heap.size ≤ g) : Chg (fun x => x = r) a d :=
 ⟨hC.os.trans (hb.os.trans h.os), hC.tape.trans (hb.tape.trans h.tape), hC.output.trans (hb.output.trans h.output), Nat.le_trans h.size (Nat.le_trans hb.size hC.size), fun k hk hn =>
  (hC.block k (Nat.lt_of_lt_of_le hk (Nat.le_trans h.size hb.size)) (fun hm => by have := hS k hm; omega)).trans ((hb.block k (Nat.lt_of_lt_of_le hk h.size)).trans (h.block k hk hn))⟩
theorem infoSnap : (Tryz.prog.info? 44).map (fun i => (i.zero, i.size, i.bytes)) = some (some (.agg #[.int .i64 0, .string ⟨#[]⟩, .int .i64 0, .int .i64 0, .int .i64 0, .int .i64 0, .int .i64 0, .int .i64 0, .int .i64 0, .int .i64 0, .int .i64 0, .slice none 0 0]), 12, 120) := by kernel_rfl
theorem infoHead : (Tryz.prog.info? 46).map (fun i => (i.zero, i.size, i.bytes)) = some (some (.agg #[.string ⟨#[]⟩, .int .i64 0, .int .i64 0, .int .i64 0, .int .i64 0, .int .i64 0, .int .i64 0, .int .i64 0, .int .i64 0, .slice none 0 0, .int .i64 0]), 11, 112) := by kernel_rfl
theorem snapV_one (x : SnapD) (A : Option Addr) (c : Nat) : ∀ u ∈ snapV x A c, u.oneCell' = true := by
 intro u hu
 simp [snapV] at hu
 rcases hu with rfl | rfl | rfl | rfl | rfl | rfl | rfl | rfl | rfl | rfl | rfl | rfl <;> rfl
theorem headV_one (x : HeadD) (A : Option Addr) (c : Nat) : ∀ u ∈ headV x A c, u.oneCell' = true := by
 intro u hu
 simp [headV] at hu
 rcases hu with rfl | rfl | rfl | rfl | rfl | rfl | rfl | rfl | rfl | rfl | rfl <;> rfl
theorem setM_4 {w : World} {r T : Nat} {v0 v1 v2 v3 x0 x1 x2 x3 : Value} (h : w.heap[r]? = some (.cells #[v0, v1, v2, v3] T (0, 0))) :
 ((((w.setCell ⟨r, 0, none⟩ x0).setCell ⟨r, 1, none⟩ x1).setCell ⟨r, 2, none⟩ x2).setCell ⟨r, 3, none⟩ x3).heap[r]? = some (.cells #[x0, x1, x2, x3] T (0, 0)) := by
 have h1 : (w.setCell ⟨r, 0, none⟩ x0).heap[r]? = some (.cells #[x0, v1, v2, v3] T (0, 0)) := block_set (o := 0) (v := x0) h
 have h2 : ((w.setCell ⟨r, 0, none⟩ x0).setCell ⟨r, 1, none⟩ x1).heap[r]? = some (.cells #[x0, x1, v2, v3] T (0, 0)) := block_set (o := 1) (v := x1) h1
 have h3 : (((w.setCell ⟨r, 0, none⟩ x0).setCell ⟨r, 1, none⟩ x1).setCell ⟨r, 2, none⟩ x2).heap[r]? = some (.cells #[x0, x1, x2, v3] T (0, 0)) := block_set (o := 2) (v := x2) h2
 have h4 : ((((w.setCell ⟨r, 0, none⟩ x0).setCell ⟨r, 1, none⟩ x1).setCell ⟨r, 2, none⟩ x2).setCell ⟨r, 3, none⟩ x3).heap[r]? = some (.cells #[x0, x1, x2, x3] T (0, 0)) := block_set (o := 3) (v := x3) h3
 exact h4
set_option maxRecDepth 100000 in
set_option maxHeartbeats 8000000 in
theorem metaGet_any (s : Str) (w : World) (he : Env w) (hs : s.length ≤ 1099511627776) : Calls Tryz.prog 5 #[.string (strB s)] w (GotMeta s w) := by
 have HE := Lib.hid he; clear he
 go_enter Tryz.func5, Tryz.ntmps5
 go_wp2_with fail
 refine (fieldsGet_any s _ (HE.out.below (Below.alloc (Below.refl _ _) (by first | exact Nat.le_refl _ | (simp [World.setCell] <;> omega)) _)) hs).mono ?_
 rintro e w1 (⟨fl, A, cp, hR, rfl, hI, hb1⟩ | ⟨hno, ⟨A, cp, rfl⟩, hb1⟩)
 case inr =>
  have HNO := Lib.hid (meta_norec hno); clear hno
  have zz1 : w.heap.size + 1 ≤ w1.heap.size := by have := hb1.size; simp [World.setCell] at this; omega
  have YY1 : Below w.heap.size w (World.alloc w (.cells #[.slice none 0 0, .slice none 0 0, .int .i64 0, .bool false] 25)) := (Below.alloc (Below.refl _ _) (by first | exact Nat.le_refl _ | (simp [World.setCell] <;> omega)) _)
  have X1 : Below w.heap.size w w1 := YY1.trans (hb1.mono YY1.size)
  clear YY1
  have b1_0 : Hid (w1.heap[w.heap.size]? = some (.cells #[.slice none 0 0, .slice none 0 0, .int .i64 0, .bool false] 25 (0, 0))) := Lib.hid ((hb1.block _ (by first | omega | (simp [World.setCell] <;> omega))).trans (show _ from by have := heap_alloc_new w (.cells #[.slice none 0 0, .slice none 0 0, .int .i64 0, .bool false] 25); simpa [World.setCell] using this))
  clear hb1
  have l1_0 : w.heap.size < w1.heap.size := (Array.getElem?_eq_some_iff.1 b1_0.out).1
  have c1_0_0 := celR 0 b1_0.out
  have f1_0_0 := block_free b1_0.out 0
  have c1_0_1 := celR 1 b1_0.out
  have f1_0_1 := block_free b1_0.out 1
  have c1_0_2 := celR 2 b1_0.out
  have f1_0_2 := block_free b1_0.out 2
  have c1_0_3 := celR 3 b1_0.out
  have f1_0_3 := block_free b1_0.out 3
  have HRR : Hid ((w1).heap[w.heap.size]? = some (.cells #[.slice none 0 0, .slice none 0 0, .int .i64 0, .bool false] 25 (0, 0))) := Lib.hid (b1_0.out)
  have HBL : Hid (Below w.heap.size w w1) := Lib.hid X1
  go_wp2_with fail
  have hst := setM_4 (x0 := .slice none 0 0) (x1 := .slice none 0 0) (x2 := .int .i64 0) (x3 := .bool false) HRR.out
  have r0 := celR 0 hst
  have r1 := celR 1 hst
  have r2 := celR 2 hst
  have r3 := celR 3 hst
  clear hst
  exact bodyPost_ret (v := .tuple #[.agg #[.slice none 0 0, .slice none 0 0, .int .i64 0, .bool false], .bool false]) (by simp [results, Tryz.results5, go_sem, r0, r1, r2, r3]) rfl (GotMeta.zero HNO.out (Below.setCell (p := ⟨w.heap.size, 3, none⟩) (Below.setCell (p := ⟨w.heap.size, 2, none⟩) (Below.setCell (p := ⟨w.heap.size, 1, none⟩) (Below.setCell (p := ⟨w.heap.size, 0, none⟩) HBL.out (Nat.le_refl _) _) (Nat.le_refl _) _) (Nat.le_refl _) _) (Nat.le_refl _) _))
 have HR := Lib.hid hR; clear hR
 have HI1 := Lib.hid hI; clear hI
 have zz1 : w.heap.size + 1 ≤ w1.heap.size := by have := hb1.size; simp [World.setCell] at this; omega
 have YY1 : Below w.heap.size w (World.alloc w (.cells #[.slice none 0 0, .slice none 0 0, .int .i64 0, .bool false] 25)) := (Below.alloc (Below.refl _ _) (by first | exact Nat.le_refl _ | (simp [World.setCell] <;> omega)) _)
 have X1 : Below w.heap.size w w1 := YY1.trans (hb1.mono YY1.size)
 clear YY1
 have b1_0 : Hid (w1.heap[w.heap.size]? = some (.cells #[.slice none 0 0, .slice none 0 0, .int .i64 0, .bool false] 25 (0, 0))) := Lib.hid ((hb1.block _ (by first | omega | (simp [World.setCell] <;> omega))).trans (show _ from by have := heap_alloc_new w (.cells #[.slice none 0 0, .slice none 0 0, .int .i64 0, .bool false] 25); simpa [World.setCell] using this))
 clear hb1
 have l1_0 : w.heap.size < w1.heap.size := (Array.getElem?_eq_some_iff.1 b1_0.out).1
 have c1_0_0 := celR 0 b1_0.out
 have f1_0_0 := block_free b1_0.out 0
 have c1_0_1 := celR 1 b1_0.out
 have f1_0_1 := block_free b1_0.out 1
 have c1_0_2 := celR 2 b1_0.out
 have f1_0_2 := block_free b1_0.out 2
 have c1_0_3 := celR 3 b1_0.out
 have f1_0_3 := block_free b1_0.out 3
 by_cases hl : 4 ≤ fl.length
 case neg =>
  have HNO := Lib.hid (meta_short HR.out (by omega))
  have hnb : ((fl.length : Int) < 4) := by omega
  have hnc : decide ((fl.length : Int) < 4) = true := by simp; omega
  clear hl
  have HRR : Hid ((w1).heap[w.heap.size]? = some (.cells #[.slice none 0 0, .slice none 0 0, .int .i64 0, .bool false] 25 (0, 0))) := Lib.hid (b1_0.out)
  have HBL : Hid (Below w.heap.size w w1) := Lib.hid X1
  go_wp2_with fail
  have hst := setM_4 (x0 := .slice none 0 0) (x1 := .slice none 0 0) (x2 := .int .i64 0) (x3 := .bool false) HRR.out
  have r0 := celR 0 hst
  have r1 := celR 1 hst
  have r2 := celR 2 hst
  have r3 := celR 3 hst
  clear hst
  exact bodyPost_ret (v := .tuple #[.agg #[.slice none 0 0, .slice none 0 0, .int .i64 0, .bool false], .bool false]) (by simp [results, Tryz.results5, go_sem, r0, r1, r2, r3]) rfl (GotMeta.zero HNO.out (Below.setCell (p := ⟨w.heap.size, 3, none⟩) (Below.setCell (p := ⟨w.heap.size, 2, none⟩) (Below.setCell (p := ⟨w.heap.size, 1, none⟩) (Below.setCell (p := ⟨w.heap.size, 0, none⟩) HBL.out (Nat.le_refl _) _) (Nat.le_refl _) _) (Nat.le_refl _) _) (Nat.le_refl _) _))
 obtain ⟨f0, f1, f2, f3, tl, rfl⟩ := four hl
 obtain ⟨N, hN⟩ : ∃ N, N = (f0 :: f1 :: f2 :: f3 :: tl).length := ⟨_, rfl⟩
 rw [← hN]
 have hcp : N ≤ cp := by rw [hN]; exact leM HI1.out
 have hN4 : 4 ≤ N := by rw [hN]; exact hl
 have hN60 : N ≤ 60 := by rw [hN]; exact HR.out.2.1
 have hnb : ¬ ((N : Int) < 4) := by omega
 have hnc : decide ((N : Int) < 4) = false := by simp; omega
 have HN := Lib.hid hN; clear hN hl
 have i1 : ((1 : Int) < (N : Int)) := by omega
 have i2 : ((2 : Int) < (N : Int)) := by omega
 have i3 : ((3 : Int) < (N : Int)) := by omega
 obtain ⟨g, rfl, hgB, lg1, e2⟩ := cellM HI1.out (j := 2) rfl
 obtain ⟨g1, e1', _, _, e1⟩ := cellM HI1.out (j := 1) rfl
 injection e1' with e1'; injection e1' with e1'; subst e1'
 obtain ⟨g3, e3', _, _, e3⟩ := cellM HI1.out (j := 3) rfl
 injection e3' with e3'; injection e3' with e3'; subst e3'
 have hl1 := recM_le HR.out (f := f1) (by simp)
 have hl2 := recM_le HR.out (f := f2) (by simp)
 have hl3 := recM_le HR.out (f := f3) (by simp)
 have E1 := Lib.hid e1
 have E3 := Lib.hid e3
 clear e1 e3
 obtain ⟨bo, hbo⟩ : ∃ b, b = decide (f2 = [49]) := ⟨_, rfl⟩
 have hq : ((strB f2).toList == [49]) = bo := by rw [strB_list, hbo]; by_cases h : f2 = [49] <;> simp [h]
 have HBO := Lib.hid hbo; clear hbo
 have hgr : g ≠ w.heap.size := by have h_ := hgB; simp at h_; omega
 have hz1 : w.heap.size < w1.heap.size := l1_0
 go_wp2_with fail
 generalize hW2 : (World.alloc (World.alloc w1 (.cells #[.slice none 0 0, .slice none 0 0, .int .i64 0, .bool bo] 25)) (.cells #[.int .i64 0] 3)) = w2
 have hb2 : Below ((World.alloc (World.alloc w1 (.cells #[.slice none 0 0, .slice none 0 0, .int .i64 0, .bool bo] 25)) (.cells #[.int .i64 0] 3))).heap.size ((World.alloc (World.alloc w1 (.cells #[.slice none 0 0, .slice none 0 0, .int .i64 0, .bool bo] 25)) (.cells #[.int .i64 0] 3))) w2 := by rw [← hW2]; exact Below.refl _ _
 clear hW2 e2 hq
 have hb2' : Below w1.heap.size w1 w2 := (Below.alloc (Below.alloc (Below.refl _ _) (Nat.le_refl _) _) (by simp) _).trans (hb2.mono (by simp <;> omega))
 have E1 := Lib.hid ((hb2'.cell lg1).trans E1.out)
 have E3 := Lib.hid ((hb2'.cell lg1).trans E3.out)
 have HI2 := Lib.hid (HI1.out.below hb2'); clear HI1
 have lg2 : g < w2.heap.size := Nat.lt_of_lt_of_le lg1 hb2'.size
 clear hb2'
 have hg6 : ¬ (g = w1.heap.size ∨ g = w1.heap.size + 1) := by omega
 have hr6 : ¬ (w.heap.size = w1.heap.size ∨ w.heap.size = w1.heap.size + 1) := by omega
 have zz2 : w1.heap.size + 2 ≤ w2.heap.size := by have := hb2.size; simp [World.setCell] at this; omega
 have YY2 : Below w.heap.size w (World.alloc (World.alloc w1 (.cells #[.slice none 0 0, .slice none 0 0, .int .i64 0, .bool bo] 25)) (.cells #[.int .i64 0] 3)) := (Below.alloc (Below.alloc X1 (by have := X1.size; simp [World.setCell] <;> omega) _) (by have := X1.size; simp [World.setCell] <;> omega) _)
 have X2 : Below w.heap.size w w2 := YY2.trans (hb2.mono YY2.size)
 clear YY2
 have b2_0 : Hid (w2.heap[w.heap.size]? = some (.cells #[.slice none 0 0, .slice none 0 0, .int .i64 0, .bool false] 25 (0, 0))) := Lib.hid ((hb2.block _ (by first | omega | (simp [World.setCell] <;> omega))).trans ((Below.heap_alloc _ _ _ (by first | omega | (simp [World.setCell] <;> omega))).trans ((Below.heap_alloc _ _ _ (by first | omega | (simp [World.setCell] <;> omega))).trans b1_0.out)))
 have b2_1 : Hid (w2.heap[w1.heap.size]? = some (.cells #[.slice none 0 0, .slice none 0 0, .int .i64 0, .bool bo] 25 (0, 0))) := Lib.hid ((hb2.block _ (by first | omega | (simp [World.setCell] <;> omega))).trans ((Below.heap_alloc _ _ _ (by first | omega | (simp [World.setCell] <;> omega))).trans (show _ from by have := heap_alloc_new w1 (.cells #[.slice none 0 0, .slice none 0 0, .int .i64 0, .bool bo] 25); simpa [World.setCell] using this)))
 have b2_2 : Hid (w2.heap[w1.heap.size + 1]? = some (.cells #[.int .i64 0] 3 (0, 0))) := Lib.hid ((hb2.block _ (by first | omega | (simp [World.setCell] <;> omega))).trans (show _ from by have := heap_alloc_new (World.alloc w1 (.cells #[.slice none 0 0, .slice none 0 0, .int .i64 0, .bool bo] 25)) (.cells #[.int .i64 0] 3); simpa [World.setCell] using this))
 clear b1_0 X1 zz1 l1_0 c1_0_0 f1_0_0 c1_0_1 f1_0_1 c1_0_2 f1_0_2 c1_0_3 f1_0_3 hb2
 have l2_0 : w.heap.size < w2.heap.size := (Array.getElem?_eq_some_iff.1 b2_0.out).1
 have c2_0_0 := celR 0 b2_0.out
 have f2_0_0 := block_free b2_0.out 0
 have c2_0_1 := celR 1 b2_0.out
 have f2_0_1 := block_free b2_0.out 1
 have c2_0_2 := celR 2 b2_0.out
 have f2_0_2 := block_free b2_0.out 2
 have c2_0_3 := celR 3 b2_0.out
 have f2_0_3 := block_free b2_0.out 3
 have l2_1 : w1.heap.size < w2.heap.size := (Array.getElem?_eq_some_iff.1 b2_1.out).1
 have c2_1_0 := celR 0 b2_1.out
 have f2_1_0 := block_free b2_1.out 0
 have c2_1_1 := celR 1 b2_1.out
 have f2_1_1 := block_free b2_1.out 1
 have c2_1_2 := celR 2 b2_1.out
 have f2_1_2 := block_free b2_1.out 2
 have c2_1_3 := celR 3 b2_1.out
 have f2_1_3 := block_free b2_1.out 3
 have l2_2 : w1.heap.size + 1 < w2.heap.size := (Array.getElem?_eq_some_iff.1 b2_2.out).1
 have c2_2_0 := celR 0 b2_2.out
 have f2_2_0 := block_free b2_2.out 0
 have H6 : Hid (w2.heap[w1.heap.size]? = some (.cells #[.slice none 0 0, .slice none 0 0, .int .i64 0, .bool bo] 25 (0, 0))) := b2_1
 have H7 : Hid (w2.heap[w1.heap.size + 1]? = some (.cells #[.int .i64 0] 3 (0, 0))) := b2_2
 obtain ⟨o0, ho0⟩ : ∃ o, o = ((numGet f1).isSome && (numGet f3).isSome) := ⟨_, rfl⟩
 have HO0 := Lib.hid ho0; clear ho0
 have hwr : IntKind.i64.wrap ((N : Int) - 4) = (N : Int) - 4 := IntWalk.i64_in _ (by omega)
 cases o0
 case false =>
  have HNO : Hid (∀ m, metaF m ≠ (s, true)) := Lib.hid (fun m hm => by have a1 := (meta_next hm HR.out (f1 := f1) rfl).1; have a2 := meta_many hm HR.out (f3 := f3) rfl; have h_ := HO0.out; rw [a1, a2] at h_; cases h_)
  apply wp_region_rgz (ChgB2 (w1.heap.size) (w1.heap.size + 1)) (Ext) (fun y w' k' => (k' < 1000 → w'.heap[w1.heap.size]? = some (.cells #[.slice none 0 0, .slice none 0 0, .int .i64 0, .bool bo] 25 (0, 0)) ∧ w'.heap[w1.heap.size + 1]? = some (.cells #[.int .i64 0] 3 (0, 0))) ∧ (1000 ≤ k' → ∃ (x0 x1 : Int), w'.heap[w1.heap.size]? = some (.cells #[.slice none 0 0, .slice none 0 0, .int .i64 x0, .bool bo] 25 (0, 0)) ∧ w'.heap[w1.heap.size + 1]? = some (.cells #[.int .i64 x1] 3 (0, 0)))) (0 :: 0 :: 0 :: 0 :: 0 :: 0 :: 0 :: 0 :: 0 :: 1000 :: 0 :: 0 :: 0 :: 0 :: 0 :: 0 :: 0 :: 0 :: []) (1000 :: 1000 :: 1000 :: 1000 :: 1000 :: 1000 :: 1000 :: 1000 :: 1000 :: 1000 :: 0 :: 0 :: 0 :: 0 :: 0 :: 0 :: 0 :: 0 :: []) (by kernel_rfl) (false :: false :: false :: false :: false :: false :: false :: false :: false :: false :: false :: false :: false :: false :: false :: false :: false :: false :: false :: false :: false :: false :: false :: false :: false :: false :: false :: false :: false :: false :: false :: false :: false :: false :: true :: true :: true :: true :: true :: true :: true :: true :: true :: true :: true :: true :: true :: true :: true :: true :: true :: true :: false :: false :: false :: false :: false :: false :: false :: false :: false :: false :: false :: false :: false :: false :: false :: false :: false :: false :: false :: false :: false :: false :: false :: false :: false :: false :: false :: false :: false :: false :: false :: false :: false :: false :: false :: false :: false :: false :: false :: false :: false :: false :: false :: false :: false :: false :: false :: false :: false :: false :: false :: false :: false :: false :: false :: false :: false :: false :: false :: false :: false :: []) (some 34 :: some 35 :: some 36 :: some 37 :: some 38 :: some 39 :: some 40 :: some 41 :: some 42 :: some 43 :: some 44 :: some 45 :: some 46 :: some 47 :: some 48 :: some 49 :: some 50 :: some 51 :: []) ([] :: [0] :: [1] :: [] :: [3] :: [4] :: [2, 5] :: [] :: [7] :: [6, 8] :: [9] :: [10] :: [11] :: [11] :: [11, 13] :: [11, 14] :: [11, 12, 15] :: [11, 16] :: []) (false :: false :: false :: false :: false :: false :: false :: false :: false :: true :: false :: false :: false :: false :: false :: false :: false :: false :: []) (true :: true :: true :: true :: true :: true :: false :: true :: false :: true :: true :: true :: true :: true :: true :: true :: true :: true :: []) [17] (MStP.is _ :: MStP.is _ :: MStP.is _ :: MStP.is _ :: MStP.is _ :: MStP.is _ :: softSl2 (w1.heap.size) (w1.heap.size + 1) (w2.heap.size) 9 2 #[.string (strB f1), .string (strB f3)] :: MStP.is _ :: softSl2 (w1.heap.size) (w1.heap.size + 1) (w2.heap.size) 50 2 #[.pointer (some ⟨w1.heap.size, 2, none⟩), .pointer (some ⟨w1.heap.size + 1, 0, none⟩)] :: MStP.is _ :: MStP.is _ :: MStP.is _ :: MStP.is _ :: MStP.is _ :: MStP.is _ :: MStP.is _ :: MStP.is _ :: MStP.is _ :: []) (by kernel_rfl) (by kernel_rfl) (by kernel_rfl) (by kernel_rfl)
  case hobs =>
   refine ⟨fun y w' k hS hj hk hF K hK => ?_, ?_⟩
   · skip
     simp only [fillL, cond_true, cond_false, zG0, zG1, StP.is, Act.put, zS2, zS0, zS1, Nat.reduceAdd, MStP.is, Option.isSome_some, Option.isSome_none] at hK ⊢
     simp only [List.sum_cons, List.sum_nil, zG0, zG1, Nat.reduceAdd, Nat.add_zero] at hk
     refine rg_yes (by kernel_rfl) ?_
     clear hF
     go_simp
     exact hK _ _ (Ext.refl _) (by simpa using hj) rfl
   refine ⟨fun y w' k hS hj hk hF K hK => ?_, ?_⟩
   · skip
     have e34 : y 34 = _ := hF.1
     have e34' := Lib.hid e34
     simp only [fillL, cond_true, cond_false, zG0, zG1, StP.is, Act.put, zS2, zS0, zS1, Nat.reduceAdd, e34, MStP.is, Option.isSome_some, Option.isSome_none] at hK ⊢
     simp only [List.sum_cons, List.sum_nil, zG0, zG1, Nat.reduceAdd, Nat.add_zero] at hk
     refine rg_yes (by kernel_rfl) ?_
     clear e34
     clear hF
     go_simp
     exact hK _ _ (Ext.refl _) (by simpa using hj) rfl
   refine ⟨fun y w' k hS hj hk hF K hK => ?_, ?_⟩
   · skip
     have e35 : y 35 = _ := hF.1
     have e35' := Lib.hid e35
     simp only [fillL, cond_true, cond_false, zG0, zG1, StP.is, Act.put, zS2, zS0, zS1, Nat.reduceAdd, e35, MStP.is, Option.isSome_some, Option.isSome_none] at hK ⊢
     simp only [List.sum_cons, List.sum_nil, zG0, zG1, Nat.reduceAdd, Nat.add_zero] at hk
     refine rg_yes (by kernel_rfl) ?_
     clear e35
     clear hF
     have q1_ : w'.cell? ⟨g, 1, none⟩ = _ := (World.cell?_of_block (hS.block g lg2 hg6)).trans E1.out
     have q3_ : w'.cell? ⟨g, 3, none⟩ = _ := (World.cell?_of_block (hS.block g lg2 hg6)).trans E3.out
     go_simp
     exact hK _ _ (Ext.refl _) (by simpa using hj) rfl
   refine ⟨fun y w' k hS hj hk hF K hK => ?_, ?_⟩
   · skip
     simp only [fillL, cond_true, cond_false, zG0, zG1, StP.is, Act.put, zS2, zS0, zS1, Nat.reduceAdd, MStP.is, Option.isSome_some, Option.isSome_none] at hK ⊢
     simp only [List.sum_cons, List.sum_nil, zG0, zG1, Nat.reduceAdd, Nat.add_zero] at hk
     refine rg_yes (by kernel_rfl) ?_
     clear hF
     go_simp
     exact hK _ _ (Ext.refl _) (by simpa using hj) rfl
   refine ⟨fun y w' k hS hj hk hF K hK => ?_, ?_⟩
   · skip
     have e37 : y 37 = _ := hF.1
     have e37' := Lib.hid e37
     simp only [fillL, cond_true, cond_false, zG0, zG1, StP.is, Act.put, zS2, zS0, zS1, Nat.reduceAdd, e37, MStP.is, Option.isSome_some, Option.isSome_none] at hK ⊢
     simp only [List.sum_cons, List.sum_nil, zG0, zG1, Nat.reduceAdd, Nat.add_zero] at hk
     refine rg_yes (by kernel_rfl) ?_
     clear e37
     clear hF
     go_simp
     exact hK _ _ (Ext.refl _) (by simpa using hj) rfl
   refine ⟨fun y w' k hS hj hk hF K hK => ?_, ?_⟩
   · skip
     have e38 : y 38 = _ := hF.1
     have e38' := Lib.hid e38
     simp only [fillL, cond_true, cond_false, zG0, zG1, StP.is, Act.put, zS2, zS0, zS1, Nat.reduceAdd, e38, MStP.is, Option.isSome_some, Option.isSome_none] at hK ⊢
     simp only [List.sum_cons, List.sum_nil, zG0, zG1, Nat.reduceAdd, Nat.add_zero] at hk
     refine rg_yes (by kernel_rfl) ?_
     clear e38
     clear hF
     have q1_ : w'.cell? ⟨g, 1, none⟩ = _ := (World.cell?_of_block (hS.block g lg2 hg6)).trans E1.out
     have q3_ : w'.cell? ⟨g, 3, none⟩ = _ := (World.cell?_of_block (hS.block g lg2 hg6)).trans E3.out
     go_simp
     exact hK _ _ (Ext.refl _) (by simpa using hj) rfl
   refine ⟨fun y w' k hS hj hk hF K hK => ?_, ?_⟩
   · skip
     have e36 : y 36 = _ := hF.1
     have e39 : y 39 = _ := hF.2.1
     have e36' := Lib.hid e36
     have e39' := Lib.hid e39
     simp only [fillL, cond_true, cond_false, zG0, zG1, StP.is, Act.put, zS2, zS0, zS1, Nat.reduceAdd, e36, e39, MStP.is, Option.isSome_some, Option.isSome_none] at hK ⊢
     simp only [List.sum_cons, List.sum_nil, zG0, zG1, Nat.reduceAdd, Nat.add_zero] at hk
     refine rg_yes (by kernel_rfl) ?_
     clear e36 e39
     clear hF
     go_simp
     exact hK _ _ (Ext.alloc _ _) ⟨fun _ => ⟨(Below.block (Ext.alloc _ _) _ (Array.getElem?_eq_some_iff.1 (hj.1 (by omega)).1).1).trans (hj.1 (by omega)).1, (Below.block (Ext.alloc _ _) _ (Array.getElem?_eq_some_iff.1 (hj.1 (by omega)).2).1).trans (hj.1 (by omega)).2⟩, fun h => absurd h (by omega)⟩ ⟨_, hS.size, rfl, heap_alloc_new _ _⟩
   refine ⟨fun y w' k hS hj hk hF K hK => ?_, ?_⟩
   · skip
     simp only [fillL, cond_true, cond_false, zG0, zG1, StP.is, Act.put, zS2, zS0, zS1, Nat.reduceAdd, MStP.is, Option.isSome_some, Option.isSome_none] at hK ⊢
     simp only [List.sum_cons, List.sum_nil, zG0, zG1, Nat.reduceAdd, Nat.add_zero] at hk
     refine rg_yes (by kernel_rfl) ?_
     clear hF
     go_simp
     exact hK _ _ (Ext.refl _) (by simpa using hj) rfl
   refine ⟨fun y w' k hS hj hk hF K hK => ?_, ?_⟩
   · skip
     have e41 : y 41 = _ := hF.1
     have e41' := Lib.hid e41
     simp only [fillL, cond_true, cond_false, zG0, zG1, StP.is, Act.put, zS2, zS0, zS1, Nat.reduceAdd, e41, MStP.is, Option.isSome_some, Option.isSome_none] at hK ⊢
     simp only [List.sum_cons, List.sum_nil, zG0, zG1, Nat.reduceAdd, Nat.add_zero] at hk
     refine rg_yes (by kernel_rfl) ?_
     clear e41
     clear hF
     go_simp
     exact hK _ _ (Ext.alloc _ _) ⟨fun _ => ⟨(Below.block (Ext.alloc _ _) _ (Array.getElem?_eq_some_iff.1 (hj.1 (by omega)).1).1).trans (hj.1 (by omega)).1, (Below.block (Ext.alloc _ _) _ (Array.getElem?_eq_some_iff.1 (hj.1 (by omega)).2).1).trans (hj.1 (by omega)).2⟩, fun h => absurd h (by omega)⟩ ⟨_, hS.size, rfl, heap_alloc_new _ _⟩
   refine ⟨fun y w' k hS hj hk hF K hK => ?_, ?_⟩
   · skip
     obtain ⟨gs, hBgs, e40, hHgs⟩ := hF.1
     obtain ⟨gp, hBgp, e42, hHgp⟩ := hF.2.1
     have e40' := Lib.hid e40
     have e42' := Lib.hid e42
     simp only [fillL, cond_true, cond_false, zG0, zG1, StP.is, Act.put, zS2, zS0, zS1, Nat.reduceAdd, e40, e42, MStP.is, Option.isSome_some, Option.isSome_none] at hK ⊢
     simp only [List.sum_cons, List.sum_nil, zG0, zG1, Nat.reduceAdd, Nat.add_zero] at hk
     refine rg_yes (by kernel_rfl) ?_
     clear e40 e42
     clear hF
     have hsz := hS.size
     go_simp
     go_at_call 15
     refine (numsM_any gs 2 gp (w1.heap.size) (w1.heap.size + 1) 25 3 f1 f3 0 0 (.slice none 0 0) (.slice none 0 0) (.bool bo) w' (fun W hC => HE.out.below (X2.trans ((Chg.trans hS (hC.mono (fun b _ hb => by simpa using hb))).below (fun b _ hb => by rcases hb with rfl | rfl <;> omega) X2.size))) (celR 0 hHgs) (celR 1 hHgs) hHgp (hj.1 (by omega)).1 (hj.1 (by omega)).2 (by omega) (by omega) (by omega) (by omega) (by omega) (by omega) (by omega)).mono ?_
     unfold numsMR
     rw [← HO0.out]
     rintro e w'' ⟨x0, x1, rfl, hR', hQ', hC', hv'⟩
     exact hK _ _ (hC'.mono (fun b _ hb => by simpa using hb)) ⟨fun h => absurd h (by omega), fun _ => ⟨x0, x1, hR', hQ'⟩⟩ rfl
   refine ⟨fun y w' k hS hj hk hF K hK => ?_, ?_⟩
   · skip
     have e43 : y 43 = _ := hF.1
     have e43' := Lib.hid e43
     simp only [fillL, cond_true, cond_false, zG0, zG1, StP.is, Act.put, zS2, zS0, zS1, Nat.reduceAdd, e43, MStP.is, Option.isSome_some, Option.isSome_none] at hK ⊢
     simp only [List.sum_cons, List.sum_nil, zG0, zG1, Nat.reduceAdd, Nat.add_zero] at hk
     refine rg_yes (by kernel_rfl) ?_
     clear e43
     clear hF
     go_simp
     exact hK _ _ (Ext.refl _) (by simpa using hj) rfl
   refine ⟨fun y w' k hS hj hk hF K hK => ?_, ?_⟩
   · skip
     have e44 : y 44 = _ := hF.1
     have e44' := Lib.hid e44
     simp only [fillL, cond_true, cond_false, zG0, zG1, StP.is, Act.put, zS2, zS0, zS1, Nat.reduceAdd, e44, MStP.is, Option.isSome_some, Option.isSome_none] at hK ⊢
     simp only [List.sum_cons, List.sum_nil, zG0, zG1, Nat.reduceAdd, Nat.add_zero] at hk
     refine rg_yes (by kernel_rfl) ?_
     clear e44
     clear hF
     go_simp
     exact hK _ _ (Ext.refl _) (by simpa using hj) rfl
   refine ⟨fun y w' k hS hj hk hF K hK => ?_, ?_⟩
   · skip
     have e45 : y 45 = _ := hF.1
     have e45' := Lib.hid e45
     simp only [fillL, cond_true, cond_false, zG0, zG1, StP.is, Act.put, zS2, zS0, zS1, Nat.reduceAdd, e45, MStP.is, Option.isSome_some, Option.isSome_none] at hK ⊢
     simp only [List.sum_cons, List.sum_nil, zG0, zG1, Nat.reduceAdd, Nat.add_zero] at hk
     refine rg_no (by kernel_rfl) ?_
     exact hK _ _ (Ext.refl _) (by simpa using hj) rfl
   refine ⟨fun y w' k hS hj hk hF K hK => ?_, ?_⟩
   · skip
     have e45 : y 45 = _ := hF.1
     have e45' := Lib.hid e45
     simp only [fillL, cond_true, cond_false, zG0, zG1, StP.is, Act.put, zS2, zS0, zS1, Nat.reduceAdd, e45, MStP.is, Option.isSome_some, Option.isSome_none] at hK ⊢
     simp only [List.sum_cons, List.sum_nil, zG0, zG1, Nat.reduceAdd, Nat.add_zero] at hk
     refine rg_no (by kernel_rfl) ?_
     exact hK _ _ (Ext.refl _) (by simpa using hj) rfl
   refine ⟨fun y w' k hS hj hk hF K hK => ?_, ?_⟩
   · skip
     have e45 : y 45 = _ := hF.1
     have e47 : y 47 = _ := hF.2.1
     have e45' := Lib.hid e45
     have e47' := Lib.hid e47
     simp only [fillL, cond_true, cond_false, zG0, zG1, StP.is, Act.put, zS2, zS0, zS1, Nat.reduceAdd, e45, e47, MStP.is, Option.isSome_some, Option.isSome_none] at hK ⊢
     simp only [List.sum_cons, List.sum_nil, zG0, zG1, Nat.reduceAdd, Nat.add_zero] at hk
     refine rg_no (by kernel_rfl) ?_
     exact hK _ _ (Ext.refl _) (by simpa using hj) rfl
   refine ⟨fun y w' k hS hj hk hF K hK => ?_, ?_⟩
   · skip
     have e45 : y 45 = _ := hF.1
     have e48 : y 48 = _ := hF.2.1
     have e45' := Lib.hid e45
     have e48' := Lib.hid e48
     simp only [fillL, cond_true, cond_false, zG0, zG1, StP.is, Act.put, zS2, zS0, zS1, Nat.reduceAdd, e45, e48, MStP.is, Option.isSome_some, Option.isSome_none] at hK ⊢
     simp only [List.sum_cons, List.sum_nil, zG0, zG1, Nat.reduceAdd, Nat.add_zero] at hk
     refine rg_no (by kernel_rfl) ?_
     exact hK _ _ (Ext.refl _) (by simpa using hj) rfl
   refine ⟨fun y w' k hS hj hk hF K hK => ?_, ?_⟩
   · skip
     have e45 : y 45 = _ := hF.1
     have e46 : y 46 = _ := hF.2.1
     have e49 : y 49 = _ := hF.2.2.1
     have e45' := Lib.hid e45
     have e46' := Lib.hid e46
     have e49' := Lib.hid e49
     simp only [fillL, cond_true, cond_false, zG0, zG1, StP.is, Act.put, zS2, zS0, zS1, Nat.reduceAdd, e45, e46, e49, MStP.is, Option.isSome_some, Option.isSome_none] at hK ⊢
     simp only [List.sum_cons, List.sum_nil, zG0, zG1, Nat.reduceAdd, Nat.add_zero] at hk
     refine rg_no (by kernel_rfl) ?_
     exact hK _ _ (Ext.refl _) (by simpa using hj) rfl
   refine ⟨fun y w' k hS hj hk hF K hK => ?_, ?_⟩
   · skip
     have e45 : y 45 = _ := hF.1
     have e50 : y 50 = _ := hF.2.1
     have e45' := Lib.hid e45
     have e50' := Lib.hid e50
     simp only [fillL, cond_true, cond_false, zG0, zG1, StP.is, Act.put, zS2, zS0, zS1, Nat.reduceAdd, e45, e50, MStP.is, Option.isSome_some, Option.isSome_none] at hK ⊢
     simp only [List.sum_cons, List.sum_nil, zG0, zG1, Nat.reduceAdd, Nat.add_zero] at hk
     refine rg_yes (by kernel_rfl) ?_
     clear e45 e50
     clear hF
     go_simp
     exact hK _ _ (Ext.refl _) (by simpa using hj) rfl
   trivial
  case hH => rfl
  case hNS => exact fun a b h => Chg.of_below h _
  case hSt => exact fun a b => Chg.trans a b
  case hb => rfl
  case hdrew => exact (Chg.refl _ _).drewN 1
  case hj0 => exact fun y => ⟨fun _ => ⟨H6.out, H7.out⟩, fun h => absurd h (by omega)⟩
  intro y w3 hS hJ hF
  obtain ⟨x0, x1, hR6, hR7⟩ := hJ.2 (by decide)
  have e51 : y 51 = _ := hF.1
  clear hJ hF
  simp only [fillL, cond_true, cond_false, Nat.reduceAdd, e51]
  clear e51
  have hSC : Chg (fun x => x = w1.heap.size ∨ x = w1.heap.size + 1) w2 w3 := hS; clear hS
  have X3 : Below w.heap.size w w3 := X2.trans (hSC.below (fun b _ hb => by rcases hb with rfl | rfl <;> omega) X2.size)
  have b3_0 : Hid (w3.heap[w.heap.size]? = some (.cells #[.slice none 0 0, .slice none 0 0, .int .i64 0, .bool false] 25 (0, 0))) := Lib.hid ((hSC.block _ l2_0 hr6).trans b2_0.out)
  have b3_1 : Hid (w3.heap[w1.heap.size]? = some (.cells #[.slice none 0 0, .slice none 0 0, .int .i64 x0, .bool bo] 25 (0, 0))) := Lib.hid hR6
  have b3_2 : Hid (w3.heap[w1.heap.size + 1]? = some (.cells #[.int .i64 x1] 3 (0, 0))) := Lib.hid hR7
  have zz3 : w2.heap.size ≤ w3.heap.size := hSC.size
  clear hR6 hR7 hSC X2 zz2 H6 H7 b2_0 b2_1 b2_2 l2_0 c2_0_0 f2_0_0 c2_0_1 f2_0_1 c2_0_2 f2_0_2 c2_0_3 f2_0_3 l2_1 c2_1_0 f2_1_0 c2_1_1 f2_1_1 c2_1_2 f2_1_2 c2_1_3 f2_1_3 l2_2 c2_2_0 f2_2_0
  have l3_0 : w.heap.size < w3.heap.size := (Array.getElem?_eq_some_iff.1 b3_0.out).1
  have c3_0_0 := celR 0 b3_0.out
  have f3_0_0 := block_free b3_0.out 0
  have c3_0_1 := celR 1 b3_0.out
  have f3_0_1 := block_free b3_0.out 1
  have c3_0_2 := celR 2 b3_0.out
  have f3_0_2 := block_free b3_0.out 2
  have c3_0_3 := celR 3 b3_0.out
  have f3_0_3 := block_free b3_0.out 3
  have l3_1 : w1.heap.size < w3.heap.size := (Array.getElem?_eq_some_iff.1 b3_1.out).1
  have c3_1_0 := celR 0 b3_1.out
  have f3_1_0 := block_free b3_1.out 0
  have c3_1_1 := celR 1 b3_1.out
  have f3_1_1 := block_free b3_1.out 1
  have c3_1_2 := celR 2 b3_1.out
  have f3_1_2 := block_free b3_1.out 2
  have c3_1_3 := celR 3 b3_1.out
  have f3_1_3 := block_free b3_1.out 3
  have l3_2 : w1.heap.size + 1 < w3.heap.size := (Array.getElem?_eq_some_iff.1 b3_2.out).1
  have c3_2_0 := celR 0 b3_2.out
  have f3_2_0 := block_free b3_2.out 0
  have HRR : Hid ((w3).heap[w.heap.size]? = some (.cells #[.slice none 0 0, .slice none 0 0, .int .i64 0, .bool false] 25 (0, 0))) := Lib.hid (b3_0.out)
  have HBL : Hid (Below w.heap.size w w3) := Lib.hid X3
  go_wp2_with fail
  have hst := setM_4 (x0 := .slice none 0 0) (x1 := .slice none 0 0) (x2 := .int .i64 0) (x3 := .bool false) HRR.out
  have r0 := celR 0 hst
  have r1 := celR 1 hst
  have r2 := celR 2 hst
  have r3 := celR 3 hst
  clear hst
  exact bodyPost_ret (v := .tuple #[.agg #[.slice none 0 0, .slice none 0 0, .int .i64 0, .bool false], .bool false]) (by simp [results, Tryz.results5, go_sem, r0, r1, r2, r3]) rfl (GotMeta.zero HNO.out (Below.setCell (p := ⟨w.heap.size, 3, none⟩) (Below.setCell (p := ⟨w.heap.size, 2, none⟩) (Below.setCell (p := ⟨w.heap.size, 1, none⟩) (Below.setCell (p := ⟨w.heap.size, 0, none⟩) HBL.out (Nat.le_refl _) _) (Nat.le_refl _) _) (Nat.le_refl _) _) (Nat.le_refl _) _))
 apply wp_region_rgz (ChgB2 (w1.heap.size) (w1.heap.size + 1)) (Ext) (fun y w' k' => (k' < 1000 → w'.heap[w1.heap.size]? = some (.cells #[.slice none 0 0, .slice none 0 0, .int .i64 0, .bool bo] 25 (0, 0)) ∧ w'.heap[w1.heap.size + 1]? = some (.cells #[.int .i64 0] 3 (0, 0))) ∧ (1000 ≤ k' → w'.heap[w1.heap.size]? = some (.cells #[.slice none 0 0, .slice none 0 0, .int .i64 (rdN f1), .bool bo] 25 (0, 0)) ∧ w'.heap[w1.heap.size + 1]? = some (.cells #[.int .i64 (rdN f3)] 3 (0, 0)))) (0 :: 0 :: 0 :: 0 :: 0 :: 0 :: 0 :: 0 :: 0 :: 1000 :: 0 :: 0 :: 0 :: 0 :: 0 :: 0 :: 0 :: 0 :: []) (1000 :: 1000 :: 1000 :: 1000 :: 1000 :: 1000 :: 1000 :: 1000 :: 1000 :: 1000 :: 0 :: 0 :: 0 :: 0 :: 0 :: 0 :: 0 :: 0 :: []) (by kernel_rfl) (false :: false :: false :: false :: false :: false :: false :: false :: false :: false :: false :: false :: false :: false :: false :: false :: false :: false :: false :: false :: false :: false :: false :: false :: false :: false :: false :: false :: false :: false :: false :: false :: false :: false :: true :: true :: true :: true :: true :: true :: true :: true :: true :: true :: true :: true :: true :: true :: true :: true :: true :: true :: false :: false :: false :: false :: false :: false :: false :: false :: false :: false :: false :: false :: false :: false :: false :: false :: false :: false :: false :: false :: false :: false :: false :: false :: false :: false :: false :: false :: false :: false :: false :: false :: false :: false :: false :: false :: false :: false :: false :: false :: false :: false :: false :: false :: false :: false :: false :: false :: false :: false :: false :: false :: false :: false :: false :: false :: false :: false :: false :: false :: false :: []) (some 34 :: some 35 :: some 36 :: some 37 :: some 38 :: some 39 :: some 40 :: some 41 :: some 42 :: some 43 :: some 44 :: some 45 :: some 46 :: some 47 :: some 48 :: some 49 :: some 50 :: some 51 :: []) ([] :: [0] :: [1] :: [] :: [3] :: [4] :: [2, 5] :: [] :: [7] :: [6, 8] :: [9] :: [10] :: [11] :: [11] :: [11, 13] :: [11, 14] :: [11, 12, 15] :: [11, 16] :: []) (false :: false :: false :: false :: false :: false :: false :: false :: false :: true :: false :: false :: false :: false :: false :: false :: false :: false :: []) (true :: true :: true :: true :: true :: true :: false :: true :: false :: false :: false :: false :: true :: true :: true :: true :: true :: true :: []) [17] (MStP.is _ :: MStP.is _ :: MStP.is _ :: MStP.is _ :: MStP.is _ :: MStP.is _ :: softSl2 (w1.heap.size) (w1.heap.size + 1) (w2.heap.size) 9 2 #[.string (strB f1), .string (strB f3)] :: MStP.is _ :: softSl2 (w1.heap.size) (w1.heap.size + 1) (w2.heap.size) 50 2 #[.pointer (some ⟨w1.heap.size, 2, none⟩), .pointer (some ⟨w1.heap.size + 1, 0, none⟩)] :: softBl (w1.heap.size) (w1.heap.size + 1) (.bool true) (w1.heap.size + 1) 3 #[.int .i64 (rdN f3)] :: softBl (w1.heap.size) (w1.heap.size + 1) (.bool false) (w1.heap.size + 1) 3 #[.int .i64 (rdN f3)] :: softBl (w1.heap.size) (w1.heap.size + 1) (.bool false) (w1.heap.size + 1) 3 #[.int .i64 (rdN f3)] :: MStP.is _ :: MStP.is _ :: MStP.is _ :: MStP.is _ :: MStP.is _ :: MStP.is _ :: []) (by kernel_rfl) (by kernel_rfl) (by kernel_rfl) (by kernel_rfl)
 case hobs =>
  refine ⟨fun y w' k hS hj hk hF K hK => ?_, ?_⟩
  · skip
    simp only [fillL, cond_true, cond_false, zG0, zG1, StP.is, Act.put, zS2, zS0, zS1, Nat.reduceAdd, MStP.is, Option.isSome_some, Option.isSome_none] at hK ⊢
    simp only [List.sum_cons, List.sum_nil, zG0, zG1, Nat.reduceAdd, Nat.add_zero] at hk
    refine rg_yes (by kernel_rfl) ?_
    clear hF
    go_simp
    exact hK _ _ (Ext.refl _) (by simpa using hj) rfl
  refine ⟨fun y w' k hS hj hk hF K hK => ?_, ?_⟩
  · skip
    have e34 : y 34 = _ := hF.1
    have e34' := Lib.hid e34
    simp only [fillL, cond_true, cond_false, zG0, zG1, StP.is, Act.put, zS2, zS0, zS1, Nat.reduceAdd, e34, MStP.is, Option.isSome_some, Option.isSome_none] at hK ⊢
    simp only [List.sum_cons, List.sum_nil, zG0, zG1, Nat.reduceAdd, Nat.add_zero] at hk
    refine rg_yes (by kernel_rfl) ?_
    clear e34
    clear hF
    go_simp
    exact hK _ _ (Ext.refl _) (by simpa using hj) rfl
  refine ⟨fun y w' k hS hj hk hF K hK => ?_, ?_⟩
  · skip
    have e35 : y 35 = _ := hF.1
    have e35' := Lib.hid e35
    simp only [fillL, cond_true, cond_false, zG0, zG1, StP.is, Act.put, zS2, zS0, zS1, Nat.reduceAdd, e35, MStP.is, Option.isSome_some, Option.isSome_none] at hK ⊢
    simp only [List.sum_cons, List.sum_nil, zG0, zG1, Nat.reduceAdd, Nat.add_zero] at hk
    refine rg_yes (by kernel_rfl) ?_
    clear e35
    clear hF
    have q1_ : w'.cell? ⟨g, 1, none⟩ = _ := (World.cell?_of_block (hS.block g lg2 hg6)).trans E1.out
    have q3_ : w'.cell? ⟨g, 3, none⟩ = _ := (World.cell?_of_block (hS.block g lg2 hg6)).trans E3.out
    go_simp
    exact hK _ _ (Ext.refl _) (by simpa using hj) rfl
  refine ⟨fun y w' k hS hj hk hF K hK => ?_, ?_⟩
  · skip
    simp only [fillL, cond_true, cond_false, zG0, zG1, StP.is, Act.put, zS2, zS0, zS1, Nat.reduceAdd, MStP.is, Option.isSome_some, Option.isSome_none] at hK ⊢
    simp only [List.sum_cons, List.sum_nil, zG0, zG1, Nat.reduceAdd, Nat.add_zero] at hk
    refine rg_yes (by kernel_rfl) ?_
    clear hF
    go_simp
    exact hK _ _ (Ext.refl _) (by simpa using hj) rfl
  refine ⟨fun y w' k hS hj hk hF K hK => ?_, ?_⟩
  · skip
    have e37 : y 37 = _ := hF.1
    have e37' := Lib.hid e37
    simp only [fillL, cond_true, cond_false, zG0, zG1, StP.is, Act.put, zS2, zS0, zS1, Nat.reduceAdd, e37, MStP.is, Option.isSome_some, Option.isSome_none] at hK ⊢
    simp only [List.sum_cons, List.sum_nil, zG0, zG1, Nat.reduceAdd, Nat.add_zero] at hk
    refine rg_yes (by kernel_rfl) ?_
    clear e37
    clear hF
    go_simp
    exact hK _ _ (Ext.refl _) (by simpa using hj) rfl
  refine ⟨fun y w' k hS hj hk hF K hK => ?_, ?_⟩
  · skip
    have e38 : y 38 = _ := hF.1
    have e38' := Lib.hid e38
    simp only [fillL, cond_true, cond_false, zG0, zG1, StP.is, Act.put, zS2, zS0, zS1, Nat.reduceAdd, e38, MStP.is, Option.isSome_some, Option.isSome_none] at hK ⊢
    simp only [List.sum_cons, List.sum_nil, zG0, zG1, Nat.reduceAdd, Nat.add_zero] at hk
    refine rg_yes (by kernel_rfl) ?_
    clear e38
    clear hF
    have q1_ : w'.cell? ⟨g, 1, none⟩ = _ := (World.cell?_of_block (hS.block g lg2 hg6)).trans E1.out
    have q3_ : w'.cell? ⟨g, 3, none⟩ = _ := (World.cell?_of_block (hS.block g lg2 hg6)).trans E3.out
    go_simp
    exact hK _ _ (Ext.refl _) (by simpa using hj) rfl
  refine ⟨fun y w' k hS hj hk hF K hK => ?_, ?_⟩
  · skip
    have e36 : y 36 = _ := hF.1
    have e39 : y 39 = _ := hF.2.1
    have e36' := Lib.hid e36
    have e39' := Lib.hid e39
    simp only [fillL, cond_true, cond_false, zG0, zG1, StP.is, Act.put, zS2, zS0, zS1, Nat.reduceAdd, e36, e39, MStP.is, Option.isSome_some, Option.isSome_none] at hK ⊢
    simp only [List.sum_cons, List.sum_nil, zG0, zG1, Nat.reduceAdd, Nat.add_zero] at hk
    refine rg_yes (by kernel_rfl) ?_
    clear e36 e39
    clear hF
    go_simp
    exact hK _ _ (Ext.alloc _ _) ⟨fun _ => ⟨(Below.block (Ext.alloc _ _) _ (Array.getElem?_eq_some_iff.1 (hj.1 (by omega)).1).1).trans (hj.1 (by omega)).1, (Below.block (Ext.alloc _ _) _ (Array.getElem?_eq_some_iff.1 (hj.1 (by omega)).2).1).trans (hj.1 (by omega)).2⟩, fun h => absurd h (by omega)⟩ ⟨_, hS.size, rfl, heap_alloc_new _ _⟩
  refine ⟨fun y w' k hS hj hk hF K hK => ?_, ?_⟩
  · skip
    simp only [fillL, cond_true, cond_false, zG0, zG1, StP.is, Act.put, zS2, zS0, zS1, Nat.reduceAdd, MStP.is, Option.isSome_some, Option.isSome_none] at hK ⊢
    simp only [List.sum_cons, List.sum_nil, zG0, zG1, Nat.reduceAdd, Nat.add_zero] at hk
    refine rg_yes (by kernel_rfl) ?_
    clear hF
    go_simp
    exact hK _ _ (Ext.refl _) (by simpa using hj) rfl
  refine ⟨fun y w' k hS hj hk hF K hK => ?_, ?_⟩
  · skip
    have e41 : y 41 = _ := hF.1
    have e41' := Lib.hid e41
    simp only [fillL, cond_true, cond_false, zG0, zG1, StP.is, Act.put, zS2, zS0, zS1, Nat.reduceAdd, e41, MStP.is, Option.isSome_some, Option.isSome_none] at hK ⊢
    simp only [List.sum_cons, List.sum_nil, zG0, zG1, Nat.reduceAdd, Nat.add_zero] at hk
    refine rg_yes (by kernel_rfl) ?_
    clear e41
    clear hF
    go_simp
    exact hK _ _ (Ext.alloc _ _) ⟨fun _ => ⟨(Below.block (Ext.alloc _ _) _ (Array.getElem?_eq_some_iff.1 (hj.1 (by omega)).1).1).trans (hj.1 (by omega)).1, (Below.block (Ext.alloc _ _) _ (Array.getElem?_eq_some_iff.1 (hj.1 (by omega)).2).1).trans (hj.1 (by omega)).2⟩, fun h => absurd h (by omega)⟩ ⟨_, hS.size, rfl, heap_alloc_new _ _⟩
  refine ⟨fun y w' k hS hj hk hF K hK => ?_, ?_⟩
  · skip
    obtain ⟨gs, hBgs, e40, hHgs⟩ := hF.1
    obtain ⟨gp, hBgp, e42, hHgp⟩ := hF.2.1
    have e40' := Lib.hid e40
    have e42' := Lib.hid e42
    simp only [fillL, cond_true, cond_false, zG0, zG1, StP.is, Act.put, zS2, zS0, zS1, Nat.reduceAdd, e40, e42, MStP.is, Option.isSome_some, Option.isSome_none] at hK ⊢
    simp only [List.sum_cons, List.sum_nil, zG0, zG1, Nat.reduceAdd, Nat.add_zero] at hk
    refine rg_yes (by kernel_rfl) ?_
    clear e40 e42
    clear hF
    have hsz := hS.size
    go_simp
    go_at_call 15
    refine (numsM_any gs 2 gp (w1.heap.size) (w1.heap.size + 1) 25 3 f1 f3 0 0 (.slice none 0 0) (.slice none 0 0) (.bool bo) w' (fun W hC => HE.out.below (X2.trans ((Chg.trans hS (hC.mono (fun b _ hb => by simpa using hb))).below (fun b _ hb => by rcases hb with rfl | rfl <;> omega) X2.size))) (celR 0 hHgs) (celR 1 hHgs) hHgp (hj.1 (by omega)).1 (hj.1 (by omega)).2 (by omega) (by omega) (by omega) (by omega) (by omega) (by omega) (by omega)).mono ?_
    unfold numsMR
    rw [← HO0.out]
    rintro e w'' ⟨x0, x1, rfl, hR', hQ', hC', hv'⟩
    obtain ⟨rfl, rfl⟩ := hv' rfl
    exact hK _ _ (hC'.mono (fun b _ hb => by simpa using hb)) ⟨fun h => absurd h (by omega), fun _ => ⟨hR', hQ'⟩⟩ ⟨rfl, hQ'⟩
  refine ⟨fun y w' k hS hj hk hF K hK => ?_, ?_⟩
  · skip
    obtain ⟨e43, hQQ⟩ := hF.1
    have e43' := Lib.hid e43
    simp only [fillL, cond_true, cond_false, zG0, zG1, StP.is, Act.put, zS2, zS0, zS1, Nat.reduceAdd, e43, MStP.is, Option.isSome_some, Option.isSome_none] at hK ⊢
    simp only [List.sum_cons, List.sum_nil, zG0, zG1, Nat.reduceAdd, Nat.add_zero] at hk
    refine rg_yes (by kernel_rfl) ?_
    clear e43
    clear hF
    go_simp
    exact hK _ _ (Ext.refl _) (by simpa using hj) ⟨rfl, hQQ⟩
  refine ⟨fun y w' k hS hj hk hF K hK => ?_, ?_⟩
  · skip
    obtain ⟨e44, hQQ⟩ := hF.1
    have e44' := Lib.hid e44
    simp only [fillL, cond_true, cond_false, zG0, zG1, StP.is, Act.put, zS2, zS0, zS1, Nat.reduceAdd, e44, MStP.is, Option.isSome_some, Option.isSome_none] at hK ⊢
    simp only [List.sum_cons, List.sum_nil, zG0, zG1, Nat.reduceAdd, Nat.add_zero] at hk
    refine rg_yes (by kernel_rfl) ?_
    clear e44
    clear hF
    go_simp
    exact hK _ _ (Ext.refl _) (by simpa using hj) ⟨rfl, hQQ⟩
  refine ⟨fun y w' k hS hj hk hF K hK => ?_, ?_⟩
  · skip
    obtain ⟨e45, hQQ⟩ := hF.1
    have e45' := Lib.hid e45
    simp only [fillL, cond_true, cond_false, zG0, zG1, StP.is, Act.put, zS2, zS0, zS1, Nat.reduceAdd, e45, MStP.is, Option.isSome_some, Option.isSome_none] at hK ⊢
    simp only [List.sum_cons, List.sum_nil, zG0, zG1, Nat.reduceAdd, Nat.add_zero] at hk
    refine rg_yes (by kernel_rfl) ?_
    clear e45
    clear hF
    have q7_ := celR 0 hQQ
    go_simp
    exact hK _ _ (Ext.refl _) (by simpa using hj) rfl
  refine ⟨fun y w' k hS hj hk hF K hK => ?_, ?_⟩
  · skip
    obtain ⟨e45, hQQ⟩ := hF.1
    have e45' := Lib.hid e45
    simp only [fillL, cond_true, cond_false, zG0, zG1, StP.is, Act.put, zS2, zS0, zS1, Nat.reduceAdd, e45, MStP.is, Option.isSome_some, Option.isSome_none] at hK ⊢
    simp only [List.sum_cons, List.sum_nil, zG0, zG1, Nat.reduceAdd, Nat.add_zero] at hk
    refine rg_yes (by kernel_rfl) ?_
    clear e45
    clear hF
    go_simp
    exact hK _ _ (Ext.refl _) (by simpa using hj) rfl
  refine ⟨fun y w' k hS hj hk hF K hK => ?_, ?_⟩
  · skip
    obtain ⟨e45, hQQ⟩ := hF.1
    have e47 : y 47 = _ := hF.2.1
    have e45' := Lib.hid e45
    have e47' := Lib.hid e47
    simp only [fillL, cond_true, cond_false, zG0, zG1, StP.is, Act.put, zS2, zS0, zS1, Nat.reduceAdd, e45, e47, MStP.is, Option.isSome_some, Option.isSome_none] at hK ⊢
    simp only [List.sum_cons, List.sum_nil, zG0, zG1, Nat.reduceAdd, Nat.add_zero] at hk
    refine rg_yes (by kernel_rfl) ?_
    clear e45 e47
    clear hF
    go_simp
    exact hK _ _ (Ext.refl _) (by simpa using hj) rfl
  refine ⟨fun y w' k hS hj hk hF K hK => ?_, ?_⟩
  · skip
    obtain ⟨e45, hQQ⟩ := hF.1
    have e48 : y 48 = _ := hF.2.1
    have e45' := Lib.hid e45
    have e48' := Lib.hid e48
    simp only [fillL, cond_true, cond_false, zG0, zG1, StP.is, Act.put, zS2, zS0, zS1, Nat.reduceAdd, e45, e48, MStP.is, Option.isSome_some, Option.isSome_none] at hK ⊢
    simp only [List.sum_cons, List.sum_nil, zG0, zG1, Nat.reduceAdd, Nat.add_zero] at hk
    refine rg_yes (by kernel_rfl) ?_
    clear e45 e48
    clear hF
    go_simp
    exact hK _ _ (Ext.refl _) (by simpa using hj) rfl
  refine ⟨fun y w' k hS hj hk hF K hK => ?_, ?_⟩
  · skip
    obtain ⟨e45, hQQ⟩ := hF.1
    have e46 : y 46 = _ := hF.2.1
    have e49 : y 49 = _ := hF.2.2.1
    have e45' := Lib.hid e45
    have e46' := Lib.hid e46
    have e49' := Lib.hid e49
    simp only [fillL, cond_true, cond_false, zG0, zG1, StP.is, Act.put, zS2, zS0, zS1, Nat.reduceAdd, e45, e46, e49, MStP.is, Option.isSome_some, Option.isSome_none] at hK ⊢
    simp only [List.sum_cons, List.sum_nil, zG0, zG1, Nat.reduceAdd, Nat.add_zero] at hk
    refine rg_yes (by kernel_rfl) ?_
    clear e45 e46 e49
    clear hF
    go_simp
    exact hK _ _ (Ext.refl _) (by simpa using hj) rfl
  refine ⟨fun y w' k hS hj hk hF K hK => ?_, ?_⟩
  · skip
    obtain ⟨e45, hQQ⟩ := hF.1
    have e50 : y 50 = _ := hF.2.1
    have e45' := Lib.hid e45
    have e50' := Lib.hid e50
    simp only [fillL, cond_true, cond_false, zG0, zG1, StP.is, Act.put, zS2, zS0, zS1, Nat.reduceAdd, e45, e50, MStP.is, Option.isSome_some, Option.isSome_none] at hK ⊢
    simp only [List.sum_cons, List.sum_nil, zG0, zG1, Nat.reduceAdd, Nat.add_zero] at hk
    refine rg_yes (by kernel_rfl) ?_
    clear e45 e50
    clear hF
    go_simp
    exact hK _ _ (Ext.refl _) (by simpa using hj) rfl
  trivial
 case hH => rfl
 case hNS => exact fun a b h => Chg.of_below h _
 case hSt => exact fun a b => Chg.trans a b
 case hb => rfl
 case hdrew => exact (Chg.refl _ _).drewN 1
 case hj0 => exact fun y => ⟨fun _ => ⟨H6.out, H7.out⟩, fun h => absurd h (by omega)⟩
 intro y w3 hS hJ hF
 obtain ⟨hR6, hR7⟩ := hJ.2 (by decide)
 have e51 : y 51 = _ := hF.1
 clear hJ hF
 simp only [fillL, cond_true, cond_false, Nat.reduceAdd, e51]
 clear e51
 have hSC : Chg (fun x => x = w1.heap.size ∨ x = w1.heap.size + 1) w2 w3 := hS; clear hS
 have X3 : Below w.heap.size w w3 := X2.trans (hSC.below (fun b _ hb => by rcases hb with rfl | rfl <;> omega) X2.size)
 have b3_0 : Hid (w3.heap[w.heap.size]? = some (.cells #[.slice none 0 0, .slice none 0 0, .int .i64 0, .bool false] 25 (0, 0))) := Lib.hid ((hSC.block _ l2_0 hr6).trans b2_0.out)
 have b3_1 : Hid (w3.heap[w1.heap.size]? = some (.cells #[.slice none 0 0, .slice none 0 0, .int .i64 (rdN f1), .bool bo] 25 (0, 0))) := Lib.hid hR6
 have b3_2 : Hid (w3.heap[w1.heap.size + 1]? = some (.cells #[.int .i64 (rdN f3)] 3 (0, 0))) := Lib.hid hR7
 have zz3 : w2.heap.size ≤ w3.heap.size := hSC.size
 have HI3 : Hid (∀ (j : Nat) (t : Str), (f0 :: f1 :: f2 :: f3 :: tl)[j]? = some t → w3.cell? ⟨g, j, none⟩ = some (.string (strB t))) := Lib.hid (fun j t ht => by
  obtain ⟨g', e', _, _, hc⟩ := cellM HI2.out ht
  injection e' with e'; injection e' with e'; subst e'
  exact (World.cell?_of_block (hSC.block g lg2 hg6)).trans hc)
 have lg3 : g < w3.heap.size := Nat.lt_of_lt_of_le lg2 hSC.size
 clear hR6 hR7 hSC X2 zz2 H6 H7 HI2 E1 E3 lg1 lg2 b2_0 b2_1 b2_2 l2_0 c2_0_0 f2_0_0 c2_0_1 f2_0_1 c2_0_2 f2_0_2 c2_0_3 f2_0_3 l2_1 c2_1_0 f2_1_0 c2_1_1 f2_1_1 c2_1_2 f2_1_2 c2_1_3 f2_1_3 l2_2 c2_2_0 f2_2_0
 have l3_0 : w.heap.size < w3.heap.size := (Array.getElem?_eq_some_iff.1 b3_0.out).1
 have c3_0_0 := celR 0 b3_0.out
 have f3_0_0 := block_free b3_0.out 0
 have c3_0_1 := celR 1 b3_0.out
 have f3_0_1 := block_free b3_0.out 1
 have c3_0_2 := celR 2 b3_0.out
 have f3_0_2 := block_free b3_0.out 2
 have c3_0_3 := celR 3 b3_0.out
 have f3_0_3 := block_free b3_0.out 3
 have l3_1 : w1.heap.size < w3.heap.size := (Array.getElem?_eq_some_iff.1 b3_1.out).1
 have c3_1_0 := celR 0 b3_1.out
 have f3_1_0 := block_free b3_1.out 0
 have c3_1_1 := celR 1 b3_1.out
 have f3_1_1 := block_free b3_1.out 1
 have c3_1_2 := celR 2 b3_1.out
 have f3_1_2 := block_free b3_1.out 2
 have c3_1_3 := celR 3 b3_1.out
 have f3_1_3 := block_free b3_1.out 3
 have l3_2 : w1.heap.size + 1 < w3.heap.size := (Array.getElem?_eq_some_iff.1 b3_2.out).1
 have c3_2_0 := celR 0 b3_2.out
 have f3_2_0 := block_free b3_2.out 0
 obtain ⟨many, hmany⟩ : ∃ x, x = rdN f3 := ⟨_, rfl⟩
 have hm0 : 0 ≤ many := by rw [hmany]; unfold rdN; omega
 rw [← hmany]
 have HMY := Lib.hid hmany; rw [← hmany] at b3_2 c3_2_0
 clear hmany
 by_cases hm : (N : Int) - 4 < many
 case pos =>
  have HNO : Hid (∀ m, metaF m ≠ (s, true)) := Lib.hid (fun m hm_ => by have a2 := meta_many hm_ HR.out (f3 := f3) rfl; have a3 := meta_count hm_ HR.out; rw [← HN.out] at a3; have a4 := HMY.out; unfold rdN at a4; rw [a2] at a4; simp only [Option.getD_some] at a4; omega)
  have dm : decide ((N : Int) - 4 < many) = true := by simpa using hm
  have HRR : Hid ((w3).heap[w.heap.size]? = some (.cells #[.slice none 0 0, .slice none 0 0, .int .i64 0, .bool false] 25 (0, 0))) := Lib.hid (b3_0.out)
  have HBL : Hid (Below w.heap.size w w3) := Lib.hid X3
  go_wp2_with fail
  have hst := setM_4 (x0 := .slice none 0 0) (x1 := .slice none 0 0) (x2 := .int .i64 0) (x3 := .bool false) HRR.out
  have r0 := celR 0 hst
  have r1 := celR 1 hst
  have r2 := celR 2 hst
  have r3 := celR 3 hst
  clear hst
  exact bodyPost_ret (v := .tuple #[.agg #[.slice none 0 0, .slice none 0 0, .int .i64 0, .bool false], .bool false]) (by simp [results, Tryz.results5, go_sem, r0, r1, r2, r3]) rfl (GotMeta.zero HNO.out (Below.setCell (p := ⟨w.heap.size, 3, none⟩) (Below.setCell (p := ⟨w.heap.size, 2, none⟩) (Below.setCell (p := ⟨w.heap.size, 1, none⟩) (Below.setCell (p := ⟨w.heap.size, 0, none⟩) HBL.out (Nat.le_refl _) _) (Nat.le_refl _) _) (Nat.le_refl _) _) (Nat.le_refl _) _))
 have dm : decide ((N : Int) - 4 < many) = false := by simpa using hm
 have hw3 : w.heap.size < w3.heap.size := l3_0; have hw36 : w1.heap.size < w3.heap.size := l3_1; have hw37 : w1.heap.size + 1 < w3.heap.size := l3_2
 by_cases h4 : cp = 4
 case pos =>
  obtain rfl : N = 4 := by omega
  subst h4
  have cc1 : ((4 : Int) ≤ ((4 : Nat) : Int)) := by omega
  have HMA : Hid (MetaAt w3.heap.size w3 none 0 none 0 [] []) := Lib.hid (MetaAt.nil _ _)
  have HMID := Lib.hid (Mid.zero s)
  have HRB := b3_0
  have H6 := b3_1
  have HHJ : Hid (4 + 0 = (f0 :: f1 :: f2 :: f3 :: tl).length) := Lib.hid HN.out
  go_wp2_with fail
  refine wp_loop_rounds 1 ?_
  rw [rounds_succ]
  obtain ⟨T, fb, hTF⟩ : ∃ T fb, metaF ([], [], rdN f1, bo) = (T, fb) := ⟨_, _, rfl⟩
  have HTF := Lib.hid hTF; clear hTF
  have HRD := Lib.hid HMA.out.reads; have HBD := Lib.hid HMA.out.bds
  have m0 := celR 0 H6.out; have m1 := celR 1 H6.out; have m2 := celR 2 H6.out; have m3 := celR 3 H6.out
  go_wp2_with fail
  refine (metaPut_any _ _ _ _ _ _ [] [] _ _ _ _ _ (HE.out.below X3).tab HRD.out.1 HRD.out.2 (fun x hx => by have := HBD.out.1 x hx; unfold headBd at this; omega) (fun x hx => by have := HBD.out.2 x hx; unfold snapBd at this; omega)).mono ?_
  rw [HTF.out]
  rintro e w6 ⟨rfl, hb6⟩
  have HMA6 := Lib.hid (HMA.out.below hb6)
  have H66 := Lib.hid ((hb6.block _ l3_1).trans H6.out)
  have HR6 : Hid (w6.heap[w.heap.size]? = some (.cells #[.slice none 0 0, .slice none 0 0, .int .i64 0, .bool false] 25 (0, 0))) := Lib.hid ((hb6.block _ (Array.getElem?_eq_some_iff.1 HRB.out).1).trans HRB.out)
  have HBL : Hid (Below w.heap.size w w6) := Lib.hid (Below.trans X3 (hb6.mono (Below.size X3)))
  clear hb6 m0 m1 m2 m3
  have HEND : Hid (∀ m, metaF m = (s, true) → true = true ∧ (T, fb) = (s, true)) := Lib.hid (fun m hm_ => by
   obtain ⟨a1, a2⟩ := mid_end HMID.out HR.out HHJ.out rfl rfl m hm_
   refine ⟨a1, ?_⟩
   rw [← HTF.out, HBO.out, ← a2]; exact hm_)
  cases fb
  case false =>
   have HNO : Hid (∀ m, metaF m ≠ (s, true)) := Lib.hid (fun m hm_ => by have := (HEND.out m hm_).2; cases this)
   have k0_ := celR 0 HR6.out; have kf0_ := block_free HR6.out 0; have k1_ := celR 1 HR6.out; have kf1_ := block_free HR6.out 1; have k2_ := celR 2 HR6.out; have kf2_ := block_free HR6.out 2; have k3_ := celR 3 HR6.out; have kf3_ := block_free HR6.out 3
   have l6r : w.heap.size < w6.heap.size := (Array.getElem?_eq_some_iff.1 HR6.out).1
   go_wp2_with fail
   have hst := setM_4 (x0 := .slice none 0 0) (x1 := .slice none 0 0) (x2 := .int .i64 0) (x3 := .bool false) HR6.out
   have r0 := celR 0 hst
   have r1 := celR 1 hst
   have r2 := celR 2 hst
   have r3 := celR 3 hst
   clear hst
   exact bodyPost_ret (v := .tuple #[.agg #[.slice none 0 0, .slice none 0 0, .int .i64 0, .bool false], .bool false]) (by simp [results, Tryz.results5, go_sem, r0, r1, r2, r3]) rfl (GotMeta.zero HNO.out (Below.setCell (p := ⟨w.heap.size, 3, none⟩) (Below.setCell (p := ⟨w.heap.size, 2, none⟩) (Below.setCell (p := ⟨w.heap.size, 1, none⟩) (Below.setCell (p := ⟨w.heap.size, 0, none⟩) HBL.out (Nat.le_refl _) _) (Nat.le_refl _) _) (Nat.le_refl _) _) (Nat.le_refl _) _))
  by_cases hT : T = s
  case neg =>
   have HNO : Hid (∀ m, metaF m ≠ (s, true)) := Lib.hid (fun m hm_ => by have h_ := (HEND.out m hm_).2; injection h_ with h_ _; exact hT h_)
   have hq : ((strB T).toList == (strB s).toList) = false := by rw [strB_list, strB_list]; simpa using hT
   clear hT
   have k0_ := celR 0 HR6.out; have kf0_ := block_free HR6.out 0; have k1_ := celR 1 HR6.out; have kf1_ := block_free HR6.out 1; have k2_ := celR 2 HR6.out; have kf2_ := block_free HR6.out 2; have k3_ := celR 3 HR6.out; have kf3_ := block_free HR6.out 3
   have l6r : w.heap.size < w6.heap.size := (Array.getElem?_eq_some_iff.1 HR6.out).1
   go_wp2_with fail
   have hst := setM_4 (x0 := .slice none 0 0) (x1 := .slice none 0 0) (x2 := .int .i64 0) (x3 := .bool false) HR6.out
   have r0 := celR 0 hst
   have r1 := celR 1 hst
   have r2 := celR 2 hst
   have r3 := celR 3 hst
   clear hst
   exact bodyPost_ret (v := .tuple #[.agg #[.slice none 0 0, .slice none 0 0, .int .i64 0, .bool false], .bool false]) (by simp [results, Tryz.results5, go_sem, r0, r1, r2, r3]) rfl (GotMeta.zero HNO.out (Below.setCell (p := ⟨w.heap.size, 3, none⟩) (Below.setCell (p := ⟨w.heap.size, 2, none⟩) (Below.setCell (p := ⟨w.heap.size, 1, none⟩) (Below.setCell (p := ⟨w.heap.size, 0, none⟩) HBL.out (Nat.le_refl _) _) (Nat.le_refl _) _) (Nat.le_refl _) _) (Nat.le_refl _) _))
  have HIS : Hid (MetaIs s ([], [], rdN f1, bo) true) := Lib.hid (.inl ⟨rfl, by rw [HTF.out, hT]⟩)
  have hq : ((strB T).toList == (strB s).toList) = true := by rw [hT]; simp
  clear hT
  have m0 := celR 0 H66.out; have m1 := celR 1 H66.out; have m2 := celR 2 H66.out; have m3 := celR 3 H66.out
  have k0_ := celR 0 HR6.out; have kf0_ := block_free HR6.out 0; have k1_ := celR 1 HR6.out; have kf1_ := block_free HR6.out 1; have k2_ := celR 2 HR6.out; have kf2_ := block_free HR6.out 2; have k3_ := celR 3 HR6.out; have kf3_ := block_free HR6.out 3
  have l6r : w.heap.size < w6.heap.size := (Array.getElem?_eq_some_iff.1 HR6.out).1; have l6b := (Array.getElem?_eq_some_iff.1 H66.out).1
  go_wp2_with fail
  have hst := setM_4 (x0 := .slice none 0 0) (x1 := .slice none 0 0) (x2 := .int .i64 (rdN f1)) (x3 := .bool bo) HR6.out
  have r0 := celR 0 hst
  have r1 := celR 1 hst
  have r2 := celR 2 hst
  have r3 := celR 3 hst
  clear hst
  exact bodyPost_ret (v := .tuple #[.agg #[.slice none 0 0, .slice none 0 0, .int .i64 (rdN f1), .bool bo], .bool true]) (by simp [results, Tryz.results5, go_sem, r0, r1, r2, r3]) rfl (⟨[], [], rdN f1, bo, _, _, _, _, _, _, true, rfl, rfl, rfl, MetaAt.mono (MetaAt.setCell (p := ⟨w.heap.size, 3, none⟩) (MetaAt.setCell (p := ⟨w.heap.size, 2, none⟩) (MetaAt.setCell (p := ⟨w.heap.size, 1, none⟩) (MetaAt.setCell (p := ⟨w.heap.size, 0, none⟩) HMA6.out hw3) hw3) hw3) hw3) (Nat.le_of_lt hw3), HIS.out, by simp, by simp, (Below.setCell (p := ⟨w.heap.size, 3, none⟩) (Below.setCell (p := ⟨w.heap.size, 2, none⟩) (Below.setCell (p := ⟨w.heap.size, 1, none⟩) (Below.setCell (p := ⟨w.heap.size, 0, none⟩) HBL.out (Nat.le_refl _) _) (Nat.le_refl _) _) (Nat.le_refl _) _) (Nat.le_refl _) _)⟩)
 have cc1 : ((4 : Int) ≤ (N : Int)) := by omega
 have cc2 : ((N : Int) ≤ (cp : Int)) := by omega
 obtain ⟨M, hM⟩ : ∃ M, M = N - 4 := ⟨_, rfl⟩
 have HM := Lib.hid hM
 have hMN : M ≤ 56 := by omega
 have HL : Hid ((f0 :: f1 :: f2 :: f3 :: tl).length = 4 + M) := Lib.hid (by rw [← HN.out]; omega)
 have HRB3 := b3_0; have H63 := b3_1; have H73 := b3_2
 obtain ⟨is, his, izs, ihs, ibs⟩ := info_parts infoSnap
 obtain ⟨ih, hih, izh, ihh, ibh⟩ := info_parts infoHead
 go_wp2_with fail
 rw [← hM]
 clear hM c3_0_0 f3_0_0 c3_0_1 f3_0_1 c3_0_2 f3_0_2 c3_0_3 f3_0_3 c3_1_0 f3_1_0 c3_1_1 f3_1_1 c3_1_2 f3_1_2 c3_1_3 f3_1_3 c3_2_0 f3_2_0
 go_loopw [5, 56] (fun okv i wr => ∃ (j n0 c0 n1 c1 : Nat) (okk : Bool) (S : List SnapD) (H : List HeadD) (A0 A1 : Option Addr), j ≤ M ∧ i = .int .i64 (j : Int) ∧ okv = .bool okk ∧ n0 ≤ j ∧ n1 ≤ j ∧ Hid (n0 = H.length ∧ n1 = S.length) ∧ Hid (Mid s j S H okk) ∧ Hid (MetaAt w3.heap.size wr A0 c0 A1 c1 H S) ∧ Hid (wr.heap[w1.heap.size]? = some (.cells #[.slice A0 n0 c0, .slice A1 n1 c1, .int .i64 (rdN f1), .bool bo] 25 (0, 0))) ∧ Hid (Chg (fun x => x = w1.heap.size) w3 wr)) (fun _ i _ => M - (RowKit.intOf i).toNat)
 case atStart => exact ⟨0, 0, 0, 0, 0, true, [], [], none, none, Nat.zero_le _, rfl, rfl, Nat.le_refl _, Nat.le_refl _, Lib.hid ⟨rfl, rfl⟩, Lib.hid (Mid.zero _), Lib.hid (MetaAt.nil _ _), H63, Lib.hid (Chg.refl _ _)⟩
 obtain ⟨j, n0, c0, n1, c1, okk, S, H, A0, A1, hj, rfl, rfl, hn0, hn1, HNN, HMID, HMA, H6, HC⟩ := hrel
 have hsz : w3.heap.size ≤ wr.heap.size := HC.out.size
 have XR : Below w.heap.size w wr := X3.trans (HC.out.below (fun b _ hb => by subst hb; omega) X3.size)
 have HRB : Hid (wr.heap[w.heap.size]? = some (.cells #[.slice none 0 0, .slice none 0 0, .int .i64 0, .bool false] 25 (0, 0))) := Lib.hid ((HC.out.block _ hw3 (by omega)).trans HRB3.out)
 have H7 : Hid (wr.heap[w1.heap.size + 1]? = some (.cells #[.int .i64 many] 3 (0, 0))) := Lib.hid ((HC.out.block _ hw37 (by omega)).trans H73.out)
 have lr6 : w1.heap.size < wr.heap.size := by omega
 have lr7 : w1.heap.size + 1 < wr.heap.size := by omega
 have j0 : (0 : Int) ≤ (j : Int) := by omega
 by_cases hlt : j < M
 case neg =>
  obtain rfl : j = M := by omega
  obtain ⟨rfl, rfl⟩ := HNN.out
  have HHJ : Hid (4 + j = (f0 :: f1 :: f2 :: f3 :: tl).length) := Lib.hid HL.out.symm
  obtain ⟨T, fb, hTF⟩ : ∃ T fb, metaF (H, S, rdN f1, bo) = (T, fb) := ⟨_, _, rfl⟩
  have HTF := Lib.hid hTF; clear hTF
  have HRD := Lib.hid HMA.out.reads; have HBD := Lib.hid HMA.out.bds
  have m0 := celR 0 H6.out; have m1 := celR 1 H6.out; have m2 := celR 2 H6.out; have m3 := celR 3 H6.out
  go_wp2_with fail
  refine (metaPut_any _ _ _ _ _ _ H S _ _ _ _ _ (HE.out.below XR).tab HRD.out.1 HRD.out.2 (fun x hx => by have := HBD.out.1 x hx; unfold headBd at this; omega) (fun x hx => by have := HBD.out.2 x hx; unfold snapBd at this; omega)).mono ?_
  rw [HTF.out]
  rintro e w6 ⟨rfl, hb6⟩
  have HMA6 := Lib.hid (HMA.out.below hb6)
  have H66 := Lib.hid ((hb6.block _ lr6).trans H6.out)
  have HR6 : Hid (w6.heap[w.heap.size]? = some (.cells #[.slice none 0 0, .slice none 0 0, .int .i64 0, .bool false] 25 (0, 0))) := Lib.hid ((hb6.block _ (Array.getElem?_eq_some_iff.1 HRB.out).1).trans HRB.out)
  have HBL : Hid (Below w.heap.size w w6) := Lib.hid (Below.trans XR (hb6.mono (Below.size XR)))
  clear hb6 m0 m1 m2 m3
  have HEND : Hid (∀ m, metaF m = (s, true) → okk = true ∧ (T, fb) = (s, true)) := Lib.hid (fun m hm_ => by
   obtain ⟨a1, a2⟩ := mid_end HMID.out HR.out HHJ.out rfl rfl m hm_
   refine ⟨a1, ?_⟩
   rw [← HTF.out, HBO.out, ← a2]; exact hm_)
  cases okk
  case false =>
   have HNO : Hid (∀ m, metaF m ≠ (s, true)) := Lib.hid (fun m hm_ => by have := (HEND.out m hm_).1; cases this)
   have k0_ := celR 0 HR6.out; have kf0_ := block_free HR6.out 0; have k1_ := celR 1 HR6.out; have kf1_ := block_free HR6.out 1; have k2_ := celR 2 HR6.out; have kf2_ := block_free HR6.out 2; have k3_ := celR 3 HR6.out; have kf3_ := block_free HR6.out 3
   have l6r : w.heap.size < w6.heap.size := (Array.getElem?_eq_some_iff.1 HR6.out).1
   go_wp2_with fail
   have hst := setM_4 (x0 := .slice none 0 0) (x1 := .slice none 0 0) (x2 := .int .i64 0) (x3 := .bool false) HR6.out
   have r0 := celR 0 hst
   have r1 := celR 1 hst
   have r2 := celR 2 hst
   have r3 := celR 3 hst
   clear hst
   exact bodyPost_ret (v := .tuple #[.agg #[.slice none 0 0, .slice none 0 0, .int .i64 0, .bool false], .bool false]) (by simp [results, Tryz.results5, go_sem, r0, r1, r2, r3]) rfl (GotMeta.zero HNO.out (Below.setCell (p := ⟨w.heap.size, 3, none⟩) (Below.setCell (p := ⟨w.heap.size, 2, none⟩) (Below.setCell (p := ⟨w.heap.size, 1, none⟩) (Below.setCell (p := ⟨w.heap.size, 0, none⟩) HBL.out (Nat.le_refl _) _) (Nat.le_refl _) _) (Nat.le_refl _) _) (Nat.le_refl _) _))
  cases fb
  case false =>
   have HNO : Hid (∀ m, metaF m ≠ (s, true)) := Lib.hid (fun m hm_ => by have := (HEND.out m hm_).2; cases this)
   have k0_ := celR 0 HR6.out; have kf0_ := block_free HR6.out 0; have k1_ := celR 1 HR6.out; have kf1_ := block_free HR6.out 1; have k2_ := celR 2 HR6.out; have kf2_ := block_free HR6.out 2; have k3_ := celR 3 HR6.out; have kf3_ := block_free HR6.out 3
   have l6r : w.heap.size < w6.heap.size := (Array.getElem?_eq_some_iff.1 HR6.out).1
   go_wp2_with fail
   have hst := setM_4 (x0 := .slice none 0 0) (x1 := .slice none 0 0) (x2 := .int .i64 0) (x3 := .bool false) HR6.out
   have r0 := celR 0 hst
   have r1 := celR 1 hst
   have r2 := celR 2 hst
   have r3 := celR 3 hst
   clear hst
   exact bodyPost_ret (v := .tuple #[.agg #[.slice none 0 0, .slice none 0 0, .int .i64 0, .bool false], .bool false]) (by simp [results, Tryz.results5, go_sem, r0, r1, r2, r3]) rfl (GotMeta.zero HNO.out (Below.setCell (p := ⟨w.heap.size, 3, none⟩) (Below.setCell (p := ⟨w.heap.size, 2, none⟩) (Below.setCell (p := ⟨w.heap.size, 1, none⟩) (Below.setCell (p := ⟨w.heap.size, 0, none⟩) HBL.out (Nat.le_refl _) _) (Nat.le_refl _) _) (Nat.le_refl _) _) (Nat.le_refl _) _))
  by_cases hT : T = s
  case neg =>
   have HNO : Hid (∀ m, metaF m ≠ (s, true)) := Lib.hid (fun m hm_ => by have h_ := (HEND.out m hm_).2; injection h_ with h_ _; exact hT h_)
   have hq : ((strB T).toList == (strB s).toList) = false := by rw [strB_list, strB_list]; simpa using hT
   clear hT
   have k0_ := celR 0 HR6.out; have kf0_ := block_free HR6.out 0; have k1_ := celR 1 HR6.out; have kf1_ := block_free HR6.out 1; have k2_ := celR 2 HR6.out; have kf2_ := block_free HR6.out 2; have k3_ := celR 3 HR6.out; have kf3_ := block_free HR6.out 3
   have l6r : w.heap.size < w6.heap.size := (Array.getElem?_eq_some_iff.1 HR6.out).1
   go_wp2_with fail
   have hst := setM_4 (x0 := .slice none 0 0) (x1 := .slice none 0 0) (x2 := .int .i64 0) (x3 := .bool false) HR6.out
   have r0 := celR 0 hst
   have r1 := celR 1 hst
   have r2 := celR 2 hst
   have r3 := celR 3 hst
   clear hst
   exact bodyPost_ret (v := .tuple #[.agg #[.slice none 0 0, .slice none 0 0, .int .i64 0, .bool false], .bool false]) (by simp [results, Tryz.results5, go_sem, r0, r1, r2, r3]) rfl (GotMeta.zero HNO.out (Below.setCell (p := ⟨w.heap.size, 3, none⟩) (Below.setCell (p := ⟨w.heap.size, 2, none⟩) (Below.setCell (p := ⟨w.heap.size, 1, none⟩) (Below.setCell (p := ⟨w.heap.size, 0, none⟩) HBL.out (Nat.le_refl _) _) (Nat.le_refl _) _) (Nat.le_refl _) _) (Nat.le_refl _) _))
  have HIS : Hid (MetaIs s (H, S, rdN f1, bo) true) := Lib.hid (.inl ⟨rfl, by rw [HTF.out, hT]⟩)
  have hq : ((strB T).toList == (strB s).toList) = true := by rw [hT]; simp
  clear hT
  have m0 := celR 0 H66.out; have m1 := celR 1 H66.out; have m2 := celR 2 H66.out; have m3 := celR 3 H66.out
  have k0_ := celR 0 HR6.out; have kf0_ := block_free HR6.out 0; have k1_ := celR 1 HR6.out; have kf1_ := block_free HR6.out 1; have k2_ := celR 2 HR6.out; have kf2_ := block_free HR6.out 2; have k3_ := celR 3 HR6.out; have kf3_ := block_free HR6.out 3
  have l6r : w.heap.size < w6.heap.size := (Array.getElem?_eq_some_iff.1 HR6.out).1; have l6b := (Array.getElem?_eq_some_iff.1 H66.out).1
  go_wp2_with fail
  have hst := setM_4 (x0 := .slice A0 H.length c0) (x1 := .slice A1 S.length c1) (x2 := .int .i64 (rdN f1)) (x3 := .bool bo) HR6.out
  have r0 := celR 0 hst
  have r1 := celR 1 hst
  have r2 := celR 2 hst
  have r3 := celR 3 hst
  clear hst
  exact bodyPost_ret (v := .tuple #[.agg #[.slice A0 H.length c0, .slice A1 S.length c1, .int .i64 (rdN f1), .bool bo], .bool true]) (by simp [results, Tryz.results5, go_sem, r0, r1, r2, r3]) rfl (⟨H, S, rdN f1, bo, _, _, _, _, _, _, true, rfl, rfl, rfl, MetaAt.mono (MetaAt.setCell (p := ⟨w.heap.size, 3, none⟩) (MetaAt.setCell (p := ⟨w.heap.size, 2, none⟩) (MetaAt.setCell (p := ⟨w.heap.size, 1, none⟩) (MetaAt.setCell (p := ⟨w.heap.size, 0, none⟩) HMA6.out hw3) hw3) hw3) hw3) (Nat.le_of_lt hw3), HIS.out, by omega, by omega, (Below.setCell (p := ⟨w.heap.size, 3, none⟩) (Below.setCell (p := ⟨w.heap.size, 2, none⟩) (Below.setCell (p := ⟨w.heap.size, 1, none⟩) (Below.setCell (p := ⟨w.heap.size, 0, none⟩) HBL.out (Nat.le_refl _) _) (Nat.le_refl _) _) (Nat.le_refl _) _) (Nat.le_refl _) _)⟩)
 have j1 : (j : Int) < (M : Int) := by omega
 obtain ⟨t, ht⟩ : ∃ t, (f0 :: f1 :: f2 :: f3 :: tl)[4 + j]? = some t := ⟨_, List.getElem?_eq_getElem (by rw [HL.out]; omega)⟩
 have hc : wr.cell? ⟨g, 4 + j, none⟩ = some (.string (strB t)) := (World.cell?_of_block (HC.out.block g lg3 (by omega))).trans (HI3.out _ _ ht)
 have htl := recM_le HR.out (f := t) (List.mem_of_getElem? ht)
 have HTT := Lib.hid ht; clear ht
 have lgr : g < wr.heap.size := by omega
 have m7 := celR 0 H7.out
 by_cases hjm : (j : Int) < many
 case pos =>
  have HJM := Lib.hid hjm; have dj : decide ((j : Int) < many) = true := by simpa using hjm
  go_wp2_with fail
  refine (snapOf_any t wr (HE.out.below XR) (by omega)).mono ?_
  rintro e w5 ⟨nm, v0, v1, v2, a, b, m, d, l, u, v, ds, Ax, nx_, cx, Sx, fine, rfl, rfl, hP, hRd, hbn, hbd, hb5⟩
  have HRd := Lib.hid hRd; clear hRd hc m7
  have z5 : wr.heap.size ≤ w5.heap.size := hb5.size
  have hbW : Below wr.heap.size wr (World.alloc (World.alloc w5 (.cells #[.int .i64 v0, .string nm, .int .i64 v1, .int .i64 v2, .int .i64 a, .int .i64 b, .int .i64 m, .int .i64 d, .int .i64 l, .int .i64 u, .int .i64 v, .slice Ax ds.length cx] 44)) (.cells #[.int .i64 v0, .string nm, .int .i64 v1, .int .i64 v2, .int .i64 a, .int .i64 b, .int .i64 m, .int .i64 d, .int .i64 l, .int .i64 u, .int .i64 v, .slice Ax ds.length cx] 44)) := Below.alloc (Below.alloc hb5 hb5.size _) (by simp; omega) _
  obtain ⟨SL, vs, hOW, hSB, hnx⟩ := MetaAt.snap (x := (v0, nm, v1, v2, ((a, b, m, d, l), u, v), ds)) HMA.out hsz hbW ((hP.below (bel1 (o := .cells #[.int .i64 v0, .string nm, .int .i64 v1, .int .i64 v2, .int .i64 a, .int .i64 b, .int .i64 m, .int .i64 d, .int .i64 l, .int .i64 u, .int .i64 v, .slice Ax ds.length cx] 44))).below (bel1 (o := .cells #[.int .i64 v0, .string nm, .int .i64 v1, .int .i64 v2, .int .i64 a, .int .i64 b, .int .i64 m, .int .i64 d, .int .i64 l, .int .i64 u, .int .i64 v, .slice Ax ds.length cx] 44))) ⟨hbn, hbd⟩
  have HNX := Lib.hid hnx; have HSB := Lib.hid hSB
  have HOW : Hid (OwnA (World.alloc (World.alloc w5 (.cells #[.int .i64 v0, .string nm, .int .i64 v1, .int .i64 v2, .int .i64 a, .int .i64 b, .int .i64 m, .int .i64 d, .int .i64 l, .int .i64 u, .int .i64 v, .slice Ax ds.length cx] 44)) (.cells #[.int .i64 v0, .string nm, .int .i64 v1, .int .i64 v2, .int .i64 a, .int .i64 b, .int .i64 m, .int .i64 d, .int .i64 l, .int .i64 u, .int .i64 v, .slice Ax ds.length cx] 44)) 44 12 SL A1 n1 c1 vs) := Lib.hid (by rw [HNN.out.2]; exact hOW)
  have HLT : Hid (RowAt (World.alloc (World.alloc w5 (.cells #[.int .i64 v0, .string nm, .int .i64 v1, .int .i64 v2, .int .i64 a, .int .i64 b, .int .i64 m, .int .i64 d, .int .i64 l, .int .i64 u, .int .i64 v, .slice Ax ds.length cx] 44)) (.cells #[.int .i64 v0, .string nm, .int .i64 v1, .int .i64 v2, .int .i64 a, .int .i64 b, .int .i64 m, .int .i64 d, .int .i64 l, .int .i64 u, .int .i64 v, .slice Ax ds.length cx] 44)) (some ⟨w5.heap.size + 1, 0, none⟩) (1 * 12) [.int .i64 v0, .string nm, .int .i64 v1, .int .i64 v2, .int .i64 a, .int .i64 b, .int .i64 m, .int .i64 d, .int .i64 l, .int .i64 u, .int .i64 v, .slice Ax ds.length cx]) := Lib.hid (by have := RowAt.lit (w := World.alloc w5 (.cells #[.int .i64 v0, .string nm, .int .i64 v1, .int .i64 v2, .int .i64 a, .int .i64 b, .int .i64 m, .int .i64 d, .int .i64 l, .int .i64 u, .int .i64 v, .slice Ax ds.length cx] 44)) (e := 44) (cur := #[.int .i64 v0, .string nm, .int .i64 v1, .int .i64 v2, .int .i64 a, .int .i64 b, .int .i64 m, .int .i64 d, .int .i64 l, .int .i64 u, .int .i64 v, .slice Ax ds.length cx]) (m := 12) rfl; simpa using this)
  have HON : Hid (∀ q_ ∈ ([.int .i64 v0, .string nm, .int .i64 v1, .int .i64 v2, .int .i64 a, .int .i64 b, .int .i64 m, .int .i64 d, .int .i64 l, .int .i64 u, .int .i64 v, .slice Ax ds.length cx] : List Value), q_.oneCell' = true) := Lib.hid (snapV_one (v0, nm, v1, v2, ((a, b, m, d, l), u, v), ds) Ax cx)
  have H65 := Lib.hid ((hb5.block _ lr6).trans H6.out)
  have HBW := Lib.hid hbW
  have l56 : w1.heap.size < w5.heap.size := by omega
  have m0 := celR 0 H65.out; have m1 := celR 1 H65.out; have m2 := celR 2 H65.out; have m3 := celR 3 H65.out
  clear hOW hSB hnx hP hb5 hbW
  cases okk
  case false =>
   go_wp2_with (at_builtin; go_must (refine wpList_append_row rfl _ _ 23 rfl 44 is (.agg #[.int .i64 0, .string ⟨#[]⟩, .int .i64 0, .int .i64 0, .int .i64 0, .int .i64 0, .int .i64 0, .int .i64 0, .int .i64 0, .int .i64 0, .int .i64 0, .slice none 0 0]) 12 120 Tryz.underlying23 his izs ihs ibs rfl (by decide) SL A1 (some ⟨w5.heap.size + 1, 0, none⟩) n1 c1 1 1 vs [.int .i64 v0, .string nm, .int .i64 v1, .int .i64 v2, .int .i64 a, .int .i64 b, .int .i64 m, .int .i64 d, .int .i64 l, .int .i64 u, .int .i64 v, .slice Ax ds.length cx] rfl rfl HOW.out HLT.out HON.out (by unfold maxLen; omega) (by omega) ?_))
   intro A' c' S' w6 hO' hS' hC'
   have hz6 : w5.heap.size + 2 ≤ w6.heap.size := by have := hC'.size; simp at this; omega
   have H66 := Lib.hid ((hC'.block _ (by simp; omega) (fun h => by have := HSB.out _ h; omega)).trans ((Below.heap_alloc _ _ _ (by simp; omega)).trans ((Below.heap_alloc _ _ _ l56).trans H65.out)))
   have HMA6 := Lib.hid (HNX.out w6 A' c' S' (by rw [← HNN.out.2]; exact hO') hC' (fun g hg => (hS' g hg).elim (HSB.out g) (fun h => by have h_ := h; (try simp at h_); omega)))
   have HC6 : Hid (Chg (fun x => x = w1.heap.size) w3 w6) := Lib.hid (ChgN.app HC.out HBW.out hC' HSB.out)
   clear hO' hS' hC' HOW HLT HON m0 m1 m2 m3 HNX
   have l66 := (Array.getElem?_eq_some_iff.1 H66.out).1
   have cc_ := celR 1 H66.out; have cf_ := block_free H66.out 1
   go_wp2_with fail
   go_roundw
   case rel => exact ⟨j + 1, n0, c0, n1 + 1, c', false, S ++ [(v0, nm, v1, v2, ((a, b, m, d, l), u, v), ds)], H, A0, A', by omega, by go_num, rfl, by omega, by omega, Lib.hid ⟨HNN.out.1, by rw [List.length_append, HNN.out.2]; rfl⟩, Lib.hid (by have h_ := Mid.snap HMID.out HR.out (f3 := f3) rfl HTT.out (by rw [← HMY.out]; have h9 := HJM.out; omega) HRd.out; simpa using h_), Lib.hid (HMA6.out.setCell hw36), Lib.hid (block_set H66.out), Lib.hid (HC6.out.setCell (.inl rfl) _)⟩
   simp [RowKit.intOf]; omega
  go_wp2_with (at_builtin; go_must (refine wpList_append_row rfl _ _ 23 rfl 44 is (.agg #[.int .i64 0, .string ⟨#[]⟩, .int .i64 0, .int .i64 0, .int .i64 0, .int .i64 0, .int .i64 0, .int .i64 0, .int .i64 0, .int .i64 0, .int .i64 0, .slice none 0 0]) 12 120 Tryz.underlying23 his izs ihs ibs rfl (by decide) SL A1 (some ⟨w5.heap.size + 1, 0, none⟩) n1 c1 1 1 vs [.int .i64 v0, .string nm, .int .i64 v1, .int .i64 v2, .int .i64 a, .int .i64 b, .int .i64 m, .int .i64 d, .int .i64 l, .int .i64 u, .int .i64 v, .slice Ax ds.length cx] rfl rfl HOW.out HLT.out HON.out (by unfold maxLen; omega) (by omega) ?_))
  intro A' c' S' w6 hO' hS' hC'
  have hz6 : w5.heap.size + 2 ≤ w6.heap.size := by have := hC'.size; simp at this; omega
  have H66 := Lib.hid ((hC'.block _ (by simp; omega) (fun h => by have := HSB.out _ h; omega)).trans ((Below.heap_alloc _ _ _ (by simp; omega)).trans ((Below.heap_alloc _ _ _ l56).trans H65.out)))
  have HMA6 := Lib.hid (HNX.out w6 A' c' S' (by rw [← HNN.out.2]; exact hO') hC' (fun g hg => (hS' g hg).elim (HSB.out g) (fun h => by have h_ := h; (try simp at h_); omega)))
  have HC6 : Hid (Chg (fun x => x = w1.heap.size) w3 w6) := Lib.hid (ChgN.app HC.out HBW.out hC' HSB.out)
  clear hO' hS' hC' HOW HLT HON m0 m1 m2 m3 HNX
  have l66 := (Array.getElem?_eq_some_iff.1 H66.out).1
  have cc_ := celR 1 H66.out; have cf_ := block_free H66.out 1
  go_wp2_with fail
  go_roundw
  case rel => exact ⟨j + 1, n0, c0, n1 + 1, c', fine, S ++ [(v0, nm, v1, v2, ((a, b, m, d, l), u, v), ds)], H, A0, A', by omega, by go_num, rfl, by omega, by omega, Lib.hid ⟨HNN.out.1, by rw [List.length_append, HNN.out.2]; rfl⟩, Lib.hid (by have h_ := Mid.snap HMID.out HR.out (f3 := f3) rfl HTT.out (by rw [← HMY.out]; have h9 := HJM.out; omega) HRd.out; simpa using h_), Lib.hid (HMA6.out.setCell hw36), Lib.hid (block_set H66.out), Lib.hid (HC6.out.setCell (.inl rfl) _)⟩
  simp [RowKit.intOf]; omega
 have HJM := Lib.hid hjm; have dj : decide ((j : Int) < many) = false := by simpa using hjm
 go_wp2_with fail
 refine (headOf_any t wr (HE.out.below XR) (by omega)).mono ?_
 rintro e w5 ⟨nm, v0, v1, a, b, m, d, l, u, v, ds, Ax, nx_, cx, Sx, fine, rfl, rfl, hP, hRd, hbn, hbd, hb5⟩
 have HRd := Lib.hid hRd; clear hRd hc m7
 have z5 : wr.heap.size ≤ w5.heap.size := hb5.size
 have hbW : Below wr.heap.size wr (World.alloc (World.alloc w5 (.cells #[.string nm, .int .i64 v0, .int .i64 a, .int .i64 b, .int .i64 m, .int .i64 d, .int .i64 l, .int .i64 u, .int .i64 v, .slice Ax ds.length cx, .int .i64 v1] 46)) (.cells #[.string nm, .int .i64 v0, .int .i64 a, .int .i64 b, .int .i64 m, .int .i64 d, .int .i64 l, .int .i64 u, .int .i64 v, .slice Ax ds.length cx, .int .i64 v1] 46)) := Below.alloc (Below.alloc hb5 hb5.size _) (by simp; omega) _
 obtain ⟨SL, vs, hOW, hSB, hnx⟩ := MetaAt.head (x := (nm, v0, ((a, b, m, d, l), u, v), ds, v1)) HMA.out hsz hbW ((hP.below (bel1 (o := .cells #[.string nm, .int .i64 v0, .int .i64 a, .int .i64 b, .int .i64 m, .int .i64 d, .int .i64 l, .int .i64 u, .int .i64 v, .slice Ax ds.length cx, .int .i64 v1] 46))).below (bel1 (o := .cells #[.string nm, .int .i64 v0, .int .i64 a, .int .i64 b, .int .i64 m, .int .i64 d, .int .i64 l, .int .i64 u, .int .i64 v, .slice Ax ds.length cx, .int .i64 v1] 46))) ⟨hbn, hbd⟩
 have HNX := Lib.hid hnx; have HSB := Lib.hid hSB
 have HOW : Hid (OwnA (World.alloc (World.alloc w5 (.cells #[.string nm, .int .i64 v0, .int .i64 a, .int .i64 b, .int .i64 m, .int .i64 d, .int .i64 l, .int .i64 u, .int .i64 v, .slice Ax ds.length cx, .int .i64 v1] 46)) (.cells #[.string nm, .int .i64 v0, .int .i64 a, .int .i64 b, .int .i64 m, .int .i64 d, .int .i64 l, .int .i64 u, .int .i64 v, .slice Ax ds.length cx, .int .i64 v1] 46)) 46 11 SL A0 n0 c0 vs) := Lib.hid (by rw [HNN.out.1]; exact hOW)
 have HLT : Hid (RowAt (World.alloc (World.alloc w5 (.cells #[.string nm, .int .i64 v0, .int .i64 a, .int .i64 b, .int .i64 m, .int .i64 d, .int .i64 l, .int .i64 u, .int .i64 v, .slice Ax ds.length cx, .int .i64 v1] 46)) (.cells #[.string nm, .int .i64 v0, .int .i64 a, .int .i64 b, .int .i64 m, .int .i64 d, .int .i64 l, .int .i64 u, .int .i64 v, .slice Ax ds.length cx, .int .i64 v1] 46)) (some ⟨w5.heap.size + 1, 0, none⟩) (1 * 11) [.string nm, .int .i64 v0, .int .i64 a, .int .i64 b, .int .i64 m, .int .i64 d, .int .i64 l, .int .i64 u, .int .i64 v, .slice Ax ds.length cx, .int .i64 v1]) := Lib.hid (by have := RowAt.lit (w := World.alloc w5 (.cells #[.string nm, .int .i64 v0, .int .i64 a, .int .i64 b, .int .i64 m, .int .i64 d, .int .i64 l, .int .i64 u, .int .i64 v, .slice Ax ds.length cx, .int .i64 v1] 46)) (e := 46) (cur := #[.string nm, .int .i64 v0, .int .i64 a, .int .i64 b, .int .i64 m, .int .i64 d, .int .i64 l, .int .i64 u, .int .i64 v, .slice Ax ds.length cx, .int .i64 v1]) (m := 11) rfl; simpa using this)
 have HON : Hid (∀ q_ ∈ ([.string nm, .int .i64 v0, .int .i64 a, .int .i64 b, .int .i64 m, .int .i64 d, .int .i64 l, .int .i64 u, .int .i64 v, .slice Ax ds.length cx, .int .i64 v1] : List Value), q_.oneCell' = true) := Lib.hid (headV_one (nm, v0, ((a, b, m, d, l), u, v), ds, v1) Ax cx)
 have H65 := Lib.hid ((hb5.block _ lr6).trans H6.out)
 have HBW := Lib.hid hbW
 have l56 : w1.heap.size < w5.heap.size := by omega
 have m0 := celR 0 H65.out; have m1 := celR 1 H65.out; have m2 := celR 2 H65.out; have m3 := celR 3 H65.out
 clear hOW hSB hnx hP hb5 hbW
 cases okk
 case false =>
  go_wp2_with (at_builtin; go_must (refine wpList_append_row rfl _ _ 22 rfl 46 ih (.agg #[.string ⟨#[]⟩, .int .i64 0, .int .i64 0, .int .i64 0, .int .i64 0, .int .i64 0, .int .i64 0, .int .i64 0, .int .i64 0, .slice none 0 0, .int .i64 0]) 11 112 Tryz.underlying22 hih izh ihh ibh rfl (by decide) SL A0 (some ⟨w5.heap.size + 1, 0, none⟩) n0 c0 1 1 vs [.string nm, .int .i64 v0, .int .i64 a, .int .i64 b, .int .i64 m, .int .i64 d, .int .i64 l, .int .i64 u, .int .i64 v, .slice Ax ds.length cx, .int .i64 v1] rfl rfl HOW.out HLT.out HON.out (by unfold maxLen; omega) (by omega) ?_))
  intro A' c' S' w6 hO' hS' hC'
  have hz6 : w5.heap.size + 2 ≤ w6.heap.size := by have := hC'.size; simp at this; omega
  have H66 := Lib.hid ((hC'.block _ (by simp; omega) (fun h => by have := HSB.out _ h; omega)).trans ((Below.heap_alloc _ _ _ (by simp; omega)).trans ((Below.heap_alloc _ _ _ l56).trans H65.out)))
  have HMA6 := Lib.hid (HNX.out w6 A' c' S' (by rw [← HNN.out.1]; exact hO') hC' (fun g hg => (hS' g hg).elim (HSB.out g) (fun h => by have h_ := h; (try simp at h_); omega)))
  have HC6 : Hid (Chg (fun x => x = w1.heap.size) w3 w6) := Lib.hid (ChgN.app HC.out HBW.out hC' HSB.out)
  clear hO' hS' hC' HOW HLT HON m0 m1 m2 m3 HNX
  have l66 := (Array.getElem?_eq_some_iff.1 H66.out).1
  have cc_ := celR 0 H66.out; have cf_ := block_free H66.out 0
  go_wp2_with fail
  go_roundw
  case rel => exact ⟨j + 1, n0 + 1, c', n1, c1, false, S, H ++ [(nm, v0, ((a, b, m, d, l), u, v), ds, v1)], A', A1, by omega, by go_num, rfl, by omega, by omega, Lib.hid ⟨by rw [List.length_append, HNN.out.1]; rfl, HNN.out.2⟩, Lib.hid (by have h_ := Mid.head HMID.out HR.out (f3 := f3) rfl HTT.out (by rw [← HMY.out]; have h9 := HJM.out; omega) HRd.out; simpa using h_), Lib.hid (HMA6.out.setCell hw36), Lib.hid (block_set H66.out), Lib.hid (HC6.out.setCell (.inl rfl) _)⟩
  simp [RowKit.intOf]; omega
 go_wp2_with (at_builtin; go_must (refine wpList_append_row rfl _ _ 22 rfl 46 ih (.agg #[.string ⟨#[]⟩, .int .i64 0, .int .i64 0, .int .i64 0, .int .i64 0, .int .i64 0, .int .i64 0, .int .i64 0, .int .i64 0, .slice none 0 0, .int .i64 0]) 11 112 Tryz.underlying22 hih izh ihh ibh rfl (by decide) SL A0 (some ⟨w5.heap.size + 1, 0, none⟩) n0 c0 1 1 vs [.string nm, .int .i64 v0, .int .i64 a, .int .i64 b, .int .i64 m, .int .i64 d, .int .i64 l, .int .i64 u, .int .i64 v, .slice Ax ds.length cx, .int .i64 v1] rfl rfl HOW.out HLT.out HON.out (by unfold maxLen; omega) (by omega) ?_))
 intro A' c' S' w6 hO' hS' hC'
 have hz6 : w5.heap.size + 2 ≤ w6.heap.size := by have := hC'.size; simp at this; omega
 have H66 := Lib.hid ((hC'.block _ (by simp; omega) (fun h => by have := HSB.out _ h; omega)).trans ((Below.heap_alloc _ _ _ (by simp; omega)).trans ((Below.heap_alloc _ _ _ l56).trans H65.out)))
 have HMA6 := Lib.hid (HNX.out w6 A' c' S' (by rw [← HNN.out.1]; exact hO') hC' (fun g hg => (hS' g hg).elim (HSB.out g) (fun h => by have h_ := h; (try simp at h_); omega)))
 have HC6 : Hid (Chg (fun x => x = w1.heap.size) w3 w6) := Lib.hid (ChgN.app HC.out HBW.out hC' HSB.out)
 clear hO' hS' hC' HOW HLT HON m0 m1 m2 m3 HNX
 have l66 := (Array.getElem?_eq_some_iff.1 H66.out).1
 have cc_ := celR 0 H66.out; have cf_ := block_free H66.out 0
 go_wp2_with fail
 go_roundw
 case rel => exact ⟨j + 1, n0 + 1, c', n1, c1, fine, S, H ++ [(nm, v0, ((a, b, m, d, l), u, v), ds, v1)], A', A1, by omega, by go_num, rfl, by omega, by omega, Lib.hid ⟨by rw [List.length_append, HNN.out.1]; rfl, HNN.out.2⟩, Lib.hid (by have h_ := Mid.head HMID.out HR.out (f3 := f3) rfl HTT.out (by rw [← HMY.out]; have h9 := HJM.out; omega) HRd.out; simpa using h_), Lib.hid (HMA6.out.setCell hw36), Lib.hid (block_set H66.out), Lib.hid (HC6.out.setCell (.inl rfl) _)⟩
 simp [RowKit.intOf]; omega
end Go.Proofs.YtlacpcdbgimnmaaGreatDoor
