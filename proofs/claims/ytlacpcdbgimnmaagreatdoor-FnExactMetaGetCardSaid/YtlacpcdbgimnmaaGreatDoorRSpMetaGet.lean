/- MetaGet of the reference. Condition: the text is at most 2^40 bytes. -/
import Derived.Test.YtlacpcdbgimnmaaGreatDoorRMetaGet
import Derived.Test.YtlacpcdbgimnmaaGreatDoorRSpMetaPut
set_option linter.unnecessarySimpa false
set_option linter.unusedSimpArgs false
set_option linter.unusedVariables false
namespace Go.Proofs.YtlacpcdbgimnmaaGreatDoor
open Go Go.Lib Go.RowKit
theorem rdN_le (f : Str) : 0 ≤ rdN f ∧ rdN f ≤ 999999999 := by
 unfold rdN
 cases h : numGet f with
 | none => simp
 | some n => have := (numGet_iff.1 h).1; simp; omega
def softBx (B : Nat) (T : TypeId) (cur : Array Value) : MStP (Own B) Ext := ⟨fun v w => ∃ g : Nat, B ≤ g ∧ v = .pointer (some ⟨g, 0, none⟩) ∧ w.heap[g]? = some (.cells cur T (0, 0)), false, fun v w w' hs ⟨g, hB, e, hg⟩ => ⟨g, hB, e, (Below.block hs g (Array.getElem?_eq_some_iff.1 hg).1).trans hg⟩, fun h => by cases h⟩
def softTr (B : Nat) (x1 x2 x3 : Str) : MStP (Own B) Ext := ⟨fun z _ => ∃ (a b m d l u v : Int) (o : Bool), z = .agg #[.int .i64 a, .int .i64 b, .int .i64 m, .int .i64 d, .int .i64 l, .int .i64 u, .int .i64 v] ∧ TreeRd x1 x2 x3 ((a, b, m, d, l), u, v) o, true, fun _ _ _ _ h => h, fun _ _ _ _ _ h => h⟩
def softLs (B : Nat) (t : Str) : MStP (Own B) Ext := ⟨fun z w => ∃ (A : Option Addr) (c : Nat) (S : List Nat) (ds : List PtrD), z = .slice A ds.length c ∧ PtrsAt B A c S ds w ∧ DeadRd t ds true ∧ ds.length ≤ 100001, false, fun v w w' hs h => by
 obtain ⟨A, c, S, ds, h1, h3, h4⟩ := h
 exact ⟨A, c, S, ds, h1, h3.below hs, h4⟩, fun h => by cases h⟩
def softSnap (B : Nat) (nm x1 x2 x3 t : Str) : MStP (Own B) Ext := ⟨fun z w => ∃ (a b m d l u v : Int) (o : Bool) (A : Option Addr) (c : Nat) (S : List Nat) (ds : List PtrD), z = .agg #[.int .i64 0, .string (strB nm), .int .i64 0, .int .i64 0, .int .i64 a, .int .i64 b, .int .i64 m, .int .i64 d, .int .i64 l, .int .i64 u, .int .i64 v, .slice A ds.length c] ∧ TreeRd x1 x2 x3 ((a, b, m, d, l), u, v) o ∧ PtrsAt B A c S ds w ∧ DeadRd t ds true ∧ ds.length ≤ 100001, false, fun v w w' hs h => by
 obtain ⟨a, b, m, d, l, u, v, o, A, c, S, ds, h1, h2, h4, h5⟩ := h
 exact ⟨a, b, m, d, l, u, v, o, A, c, S, ds, h1, h2, h4.below hs, h5⟩, fun h => by cases h⟩
def softHead (B : Nat) (nm x1 x2 x3 t : Str) : MStP (Own B) Ext := ⟨fun z w => ∃ (a b m d l u v : Int) (o : Bool) (A : Option Addr) (c : Nat) (S : List Nat) (ds : List PtrD), z = .agg #[.string (strB nm), .int .i64 0, .int .i64 a, .int .i64 b, .int .i64 m, .int .i64 d, .int .i64 l, .int .i64 u, .int .i64 v, .slice A ds.length c, .int .i64 0] ∧ TreeRd x1 x2 x3 ((a, b, m, d, l), u, v) o ∧ PtrsAt B A c S ds w ∧ DeadRd t ds true ∧ ds.length ≤ 100001, false, fun v w w' hs h => by
 obtain ⟨a, b, m, d, l, u, v, o, A, c, S, ds, h1, h2, h4, h5⟩ := h
 exact ⟨a, b, m, d, l, u, v, o, A, c, S, ds, h1, h2, h4.below hs, h5⟩, fun h => by cases h⟩
set_option maxRecDepth 100000 in
set_option maxHeartbeats 8000000 in
theorem spMetaGet_any (s : Str) (w : World) (hs : s.length ≤ 1099511627776) : Calls Tryz.prog 4 #[.string (strB s)] w (GotMeta s w) := by
 go_enter Tryz.func4, Tryz.ntmps4
 go_wp2_with fail
 refine (spFieldsGet_any s _ hs).mono ?_
 rintro e w1 (⟨fl, A, cp, hR, rfl, hI, hb1⟩ | ⟨hno, ⟨A, cp, rfl⟩, hb1⟩)
 case inr =>
  have HNO := Lib.hid (meta_norec hno); clear hno
  have zz1 : w.heap.size + 1 ≤ w1.heap.size := by have := hb1.size; simp [World.setCell] at this; omega
  have YY1 : Below w.heap.size w (World.alloc w (.cells #[.slice none 0 0, .slice none 0 0, .int .i64 0, .bool false] 25)) := (Below.alloc (Below.refl _ _) (by first | exact Nat.le_refl _ | (simp [World.setCell] <;> omega)) _)
  have X1 : Below w.heap.size w w1 := YY1.trans (hb1.mono YY1.size)
  clear YY1
  have b1_0 : Hid (w1.heap[w.heap.size]? = some (.cells #[.slice none 0 0, .slice none 0 0, .int .i64 0, .bool false] 25 (0, 0))) := Lib.hid ((hb1.block _ (by first | omega | (simp [World.setCell] <;> omega))).trans (show _ from by have := heap_alloc_new w (.cells #[.slice none 0 0, .slice none 0 0, .int .i64 0, .bool false] 25); simpa [World.setCell] using this))
  clear hb1
  have l1_0 : w.heap.size < w1.heap.size := (Array.getElem?_eq_some_iff.1 b1_0.out).1
  have c1_0_0 := celR 0 b1_0.out
  have f1_0_0 := block_free b1_0.out 0
  have c1_0_1 := celR 1 b1_0.out
  have f1_0_1 := block_free b1_0.out 1
  have c1_0_2 := celR 2 b1_0.out
  have f1_0_2 := block_free b1_0.out 2
  have c1_0_3 := celR 3 b1_0.out
  have f1_0_3 := block_free b1_0.out 3
  have HRR : Hid ((w1).heap[w.heap.size]? = some (.cells #[.slice none 0 0, .slice none 0 0, .int .i64 0, .bool false] 25 (0, 0))) := Lib.hid (b1_0.out)
  have HBL : Hid (Below w.heap.size w w1) := Lib.hid X1
  go_wp2_with fail
  have hst := setM_4 (x0 := .slice none 0 0) (x1 := .slice none 0 0) (x2 := .int .i64 0) (x3 := .bool false) HRR.out
  have r0 := celR 0 hst
  have r1 := celR 1 hst
  have r2 := celR 2 hst
  have r3 := celR 3 hst
  clear hst
  exact bodyPost_ret (v := .tuple #[.agg #[.slice none 0 0, .slice none 0 0, .int .i64 0, .bool false], .bool false]) (by simp [results, Tryz.results4, go_sem, r0, r1, r2, r3]) rfl (GotMeta.zero HNO.out (Below.setCell (p := ⟨w.heap.size, 3, none⟩) (Below.setCell (p := ⟨w.heap.size, 2, none⟩) (Below.setCell (p := ⟨w.heap.size, 1, none⟩) (Below.setCell (p := ⟨w.heap.size, 0, none⟩) HBL.out (Nat.le_refl _) _) (Nat.le_refl _) _) (Nat.le_refl _) _) (Nat.le_refl _) _))
 have HR := Lib.hid hR; clear hR
 have HI1 := Lib.hid hI; clear hI
 have zz1 : w.heap.size + 1 ≤ w1.heap.size := by have := hb1.size; simp [World.setCell] at this; omega
 have YY1 : Below w.heap.size w (World.alloc w (.cells #[.slice none 0 0, .slice none 0 0, .int .i64 0, .bool false] 25)) := (Below.alloc (Below.refl _ _) (by first | exact Nat.le_refl _ | (simp [World.setCell] <;> omega)) _)
 have X1 : Below w.heap.size w w1 := YY1.trans (hb1.mono YY1.size)
 clear YY1
 have b1_0 : Hid (w1.heap[w.heap.size]? = some (.cells #[.slice none 0 0, .slice none 0 0, .int .i64 0, .bool false] 25 (0, 0))) := Lib.hid ((hb1.block _ (by first | omega | (simp [World.setCell] <;> omega))).trans (show _ from by have := heap_alloc_new w (.cells #[.slice none 0 0, .slice none 0 0, .int .i64 0, .bool false] 25); simpa [World.setCell] using this))
 clear hb1
 have l1_0 : w.heap.size < w1.heap.size := (Array.getElem?_eq_some_iff.1 b1_0.out).1
 have c1_0_0 := celR 0 b1_0.out
 have f1_0_0 := block_free b1_0.out 0
 have c1_0_1 := celR 1 b1_0.out
 have f1_0_1 := block_free b1_0.out 1
 have c1_0_2 := celR 2 b1_0.out
 have f1_0_2 := block_free b1_0.out 2
 have c1_0_3 := celR 3 b1_0.out
 have f1_0_3 := block_free b1_0.out 3
 by_cases hl : 5 ≤ fl.length
 case neg =>
  have HNO := Lib.hid (meta_short HR.out (by omega))
  have hnb : ((fl.length : Int) < 5) := by omega
  have hnc : decide ((fl.length : Int) < 5) = true := by simp; omega
  clear hl
  have HRR : Hid ((w1).heap[w.heap.size]? = some (.cells #[.slice none 0 0, .slice none 0 0, .int .i64 0, .bool false] 25 (0, 0))) := Lib.hid (b1_0.out)
  have HBL : Hid (Below w.heap.size w w1) := Lib.hid X1
  go_wp2_with fail
  have hst := setM_4 (x0 := .slice none 0 0) (x1 := .slice none 0 0) (x2 := .int .i64 0) (x3 := .bool false) HRR.out
  have r0 := celR 0 hst
  have r1 := celR 1 hst
  have r2 := celR 2 hst
  have r3 := celR 3 hst
  clear hst
  exact bodyPost_ret (v := .tuple #[.agg #[.slice none 0 0, .slice none 0 0, .int .i64 0, .bool false], .bool false]) (by simp [results, Tryz.results4, go_sem, r0, r1, r2, r3]) rfl (GotMeta.zero HNO.out (Below.setCell (p := ⟨w.heap.size, 3, none⟩) (Below.setCell (p := ⟨w.heap.size, 2, none⟩) (Below.setCell (p := ⟨w.heap.size, 1, none⟩) (Below.setCell (p := ⟨w.heap.size, 0, none⟩) HBL.out (Nat.le_refl _) _) (Nat.le_refl _) _) (Nat.le_refl _) _) (Nat.le_refl _) _))
 obtain ⟨f0, f1, f2, f3, tl, rfl⟩ := four (by omega : 4 ≤ fl.length)
 obtain ⟨N, hN⟩ : ∃ N, N = (f0 :: f1 :: f2 :: f3 :: tl).length := ⟨_, rfl⟩
 rw [← hN]
 have hcp : N ≤ cp := by rw [hN]; exact leM HI1.out
 have hN5 : 5 ≤ N := by rw [hN]; exact hl
 have hN60 : N ≤ 60 := by rw [hN]; exact HR.out.2.1
 have hnb : ¬ ((N : Int) < 5) := by omega
 have hnc : decide ((N : Int) < 5) = false := by simp; omega
 have HN := Lib.hid hN; clear hN hl
 have i1 : ((1 : Int) < (N : Int)) := by omega
 have i2 : ((2 : Int) < (N : Int)) := by omega
 have i3 : ((3 : Int) < (N : Int)) := by omega
 obtain ⟨g, rfl, hgB, lg1, e2⟩ := cellM HI1.out (j := 2) rfl
 obtain ⟨g1, e1', _, _, e1⟩ := cellM HI1.out (j := 1) rfl
 injection e1' with e1'; injection e1' with e1'; subst e1'
 obtain ⟨g3, e3', _, _, e3⟩ := cellM HI1.out (j := 3) rfl
 injection e3' with e3'; injection e3' with e3'; subst e3'
 have hl1 := recM_le HR.out (f := f1) (by simp)
 have hl2 := recM_le HR.out (f := f2) (by simp)
 have hl3 := recM_le HR.out (f := f3) (by simp)
 have E3 := Lib.hid e3; clear e3
 obtain ⟨bo, hbo⟩ : ∃ b, b = decide (f2 = [49]) := ⟨_, rfl⟩
 have hq : ((strB f2).toList == [49]) = bo := by rw [strB_list, hbo]; by_cases h : f2 = [49] <;> simp [h]
 have HBO := Lib.hid hbo; clear hbo
 have hgr : g ≠ w.heap.size := by have h_ := hgB; simp at h_; omega
 have hz1 : w.heap.size < w1.heap.size := l1_0
 have lg1a : g < w1.heap.size + 1 := by omega
 have lg1b : g < w1.heap.size + 1 + 1 := by omega
 go_wp2_with fail
 refine (spNumGet_any f1 _ (by omega)).mono ?_
 rw [GotNum_defN, show (((numGet f1).getD 0 : Nat) : Int) = rdN f1 from rfl]
 rintro e w2 ⟨rfl, hb2⟩
 have hbA : Below w1.heap.size w1 w2 := Below.trans (Below.alloc (Below.alloc (Below.alloc (Below.refl _ _) (Nat.le_refl _) _) (by simp) _) (by simp <;> omega) _) (hb2.mono (by simp <;> omega))
 have E3 := Lib.hid ((hbA.cell lg1).trans E3.out)
 have lg2 : g < w2.heap.size := Nat.lt_of_lt_of_le lg1 hbA.size
 clear e1 e2 hq
 have zz2 : w1.heap.size + 3 ≤ w2.heap.size := by have := hb2.size; simp [World.setCell] at this; omega
 have YY2 : Below w.heap.size w (World.alloc (World.alloc (World.alloc w1 (.cells #[] 46)) (.cells #[] 44)) (.cells #[.slice (some ⟨w1.heap.size, 0, none⟩) 0 0, .slice (some ⟨w1.heap.size + 1, 0, none⟩) 0 0, .int .i64 0, .bool bo] 25)) := (Below.alloc (Below.alloc (Below.alloc X1 (by have := X1.size; simp [World.setCell] <;> omega) _) (by have := X1.size; simp [World.setCell] <;> omega) _) (by have := X1.size; simp [World.setCell] <;> omega) _)
 have X2 : Below w.heap.size w w2 := YY2.trans (hb2.mono YY2.size)
 clear YY2
 have b2_0 : Hid (w2.heap[w.heap.size]? = some (.cells #[.slice none 0 0, .slice none 0 0, .int .i64 0, .bool false] 25 (0, 0))) := Lib.hid ((hb2.block _ (by first | omega | (simp [World.setCell] <;> omega))).trans ((Below.heap_alloc _ _ _ (by first | omega | (simp [World.setCell] <;> omega))).trans ((Below.heap_alloc _ _ _ (by first | omega | (simp [World.setCell] <;> omega))).trans ((Below.heap_alloc _ _ _ (by first | omega | (simp [World.setCell] <;> omega))).trans b1_0.out))))
 have b2_1 : Hid (w2.heap[w1.heap.size]? = some (.cells #[] 46 (0, 0))) := Lib.hid ((hb2.block _ (by first | omega | (simp [World.setCell] <;> omega))).trans ((Below.heap_alloc _ _ _ (by first | omega | (simp [World.setCell] <;> omega))).trans ((Below.heap_alloc _ _ _ (by first | omega | (simp [World.setCell] <;> omega))).trans (show _ from by have := heap_alloc_new w1 (.cells #[] 46); simpa [World.setCell] using this))))
 have b2_2 : Hid (w2.heap[w1.heap.size + 1]? = some (.cells #[] 44 (0, 0))) := Lib.hid ((hb2.block _ (by first | omega | (simp [World.setCell] <;> omega))).trans ((Below.heap_alloc _ _ _ (by first | omega | (simp [World.setCell] <;> omega))).trans (show _ from by have := heap_alloc_new (World.alloc w1 (.cells #[] 46)) (.cells #[] 44); simpa [World.setCell] using this)))
 have b2_3 : Hid (w2.heap[w1.heap.size + 1 + 1]? = some (.cells #[.slice (some ⟨w1.heap.size, 0, none⟩) 0 0, .slice (some ⟨w1.heap.size + 1, 0, none⟩) 0 0, .int .i64 0, .bool bo] 25 (0, 0))) := Lib.hid ((hb2.block _ (by first | omega | (simp [World.setCell] <;> omega))).trans (show _ from by have := heap_alloc_new (World.alloc (World.alloc w1 (.cells #[] 46)) (.cells #[] 44)) (.cells #[.slice (some ⟨w1.heap.size, 0, none⟩) 0 0, .slice (some ⟨w1.heap.size + 1, 0, none⟩) 0 0, .int .i64 0, .bool bo] 25); simpa [World.setCell] using this))
 clear b1_0 X1 zz1 l1_0 c1_0_0 f1_0_0 c1_0_1 f1_0_1 c1_0_2 f1_0_2 c1_0_3 f1_0_3 hb2
 have l2_0 : w.heap.size < w2.heap.size := (Array.getElem?_eq_some_iff.1 b2_0.out).1
 have c2_0_0 := celR 0 b2_0.out
 have f2_0_0 := block_free b2_0.out 0
 have c2_0_1 := celR 1 b2_0.out
 have f2_0_1 := block_free b2_0.out 1
 have c2_0_2 := celR 2 b2_0.out
 have f2_0_2 := block_free b2_0.out 2
 have c2_0_3 := celR 3 b2_0.out
 have f2_0_3 := block_free b2_0.out 3
 have l2_1 : w1.heap.size < w2.heap.size := (Array.getElem?_eq_some_iff.1 b2_1.out).1
 have l2_2 : w1.heap.size + 1 < w2.heap.size := (Array.getElem?_eq_some_iff.1 b2_2.out).1
 have l2_3 : w1.heap.size + 1 + 1 < w2.heap.size := (Array.getElem?_eq_some_iff.1 b2_3.out).1
 have c2_3_0 := celR 0 b2_3.out
 have f2_3_0 := block_free b2_3.out 0
 have c2_3_1 := celR 1 b2_3.out
 have f2_3_1 := block_free b2_3.out 1
 have c2_3_2 := celR 2 b2_3.out
 have f2_3_2 := block_free b2_3.out 2
 have c2_3_3 := celR 3 b2_3.out
 have f2_3_3 := block_free b2_3.out 3
 have hg6 : g ≠ w1.heap.size + 1 + 1 := by omega
 have hg6' : w1.heap.size + 1 + 1 ≠ g := by omega
 have e3 := E3.out
 go_wp2_with fail
 refine (spNumGet_any f3 _ (by omega)).mono ?_
 rw [GotNum_defN, show (((numGet f3).getD 0 : Nat) : Int) = rdN f3 from rfl]
 rintro e w3 ⟨rfl, hb3⟩
 have hbA3 : Below w1.heap.size w1 w3 := Below.trans (Below.setCell (p := ⟨w1.heap.size + 1 + 1, 2, none⟩) hbA (by simp <;> omega) (.int .i64 (rdN f1))) (hb3.mono (by have := hbA.size; simpa [World.setCell] using this))
 have HI3 := Lib.hid (HI1.out.below hbA3); clear HI1 hbA e3 E3
 have lg3 : g < w3.heap.size := Nat.lt_of_lt_of_le lg1 hbA3.size
 clear hbA3 lg1 lg2
 have zz3 : w2.heap.size ≤ w3.heap.size := by have := hb3.size; simpa [World.setCell] using this
 have YY3 : Below w.heap.size w (World.setCell w2 ⟨w1.heap.size + 1 + 1, 2, none⟩ (.int .i64 (rdN f1))) := (Below.setCell (p := ⟨w1.heap.size + 1 + 1, 2, none⟩) X2 (by have := X2.size; simp <;> omega) _)
 have X3 : Below w.heap.size w w3 := YY3.trans (hb3.mono YY3.size)
 clear YY3
 have b3_0 : Hid (w3.heap[w.heap.size]? = some (.cells #[.slice none 0 0, .slice none 0 0, .int .i64 0, .bool false] 25 (0, 0))) := Lib.hid ((hb3.block _ (by first | omega | (simp [World.setCell] <;> omega))).trans ((heap_far (by first | omega | (simp <;> omega))).trans b2_0.out))
 have b3_1 : Hid (w3.heap[w1.heap.size + 1 + 1]? = some (.cells #[.slice (some ⟨w1.heap.size, 0, none⟩) 0 0, .slice (some ⟨w1.heap.size + 1, 0, none⟩) 0 0, .int .i64 (rdN f1), .bool bo] 25 (0, 0))) := Lib.hid ((hb3.block _ (by first | omega | (simp [World.setCell] <;> omega))).trans (block_set b2_3.out))
 clear b2_0 b2_3 X2 zz2 l2_0 c2_0_0 f2_0_0 c2_0_1 f2_0_1 c2_0_2 f2_0_2 c2_0_3 f2_0_3 l2_1 l2_2 l2_3 c2_3_0 f2_3_0 c2_3_1 f2_3_1 c2_3_2 f2_3_2 c2_3_3 f2_3_3 hb3
 have l3_0 : w.heap.size < w3.heap.size := (Array.getElem?_eq_some_iff.1 b3_0.out).1
 have c3_0_0 := celR 0 b3_0.out
 have f3_0_0 := block_free b3_0.out 0
 have c3_0_1 := celR 1 b3_0.out
 have f3_0_1 := block_free b3_0.out 1
 have c3_0_2 := celR 2 b3_0.out
 have f3_0_2 := block_free b3_0.out 2
 have c3_0_3 := celR 3 b3_0.out
 have f3_0_3 := block_free b3_0.out 3
 have l3_1 : w1.heap.size + 1 + 1 < w3.heap.size := (Array.getElem?_eq_some_iff.1 b3_1.out).1
 have c3_1_0 := celR 0 b3_1.out
 have f3_1_0 := block_free b3_1.out 0
 have c3_1_1 := celR 1 b3_1.out
 have f3_1_1 := block_free b3_1.out 1
 have c3_1_2 := celR 2 b3_1.out
 have f3_1_2 := block_free b3_1.out 2
 have c3_1_3 := celR 3 b3_1.out
 have f3_1_3 := block_free b3_1.out 3
 obtain ⟨many, hmany⟩ : ∃ x, x = rdN f3 := ⟨_, rfl⟩
 have hm0 : 0 ≤ many ∧ many ≤ 999999999 := by rw [hmany]; exact rdN_le f3
 rw [← hmany]
 have HMY := Lib.hid hmany; clear hmany
 have hw3 : w.heap.size < w3.heap.size := l3_0; have hw36 : w1.heap.size + 1 + 1 < w3.heap.size := l3_1
 have HRB3 := b3_0; have H63 := b3_1
 obtain ⟨is, his, izs, ihs, ibs⟩ := info_parts infoSnap
 obtain ⟨ih, hih, izh, ihh, ibh⟩ := info_parts infoHead
 have nsm : IntKind.i64.wrap (4 + many) = 4 + many := IntWalk.i64_in _ (by omega)
 go_wp2_with fail
 clear l3_0 c3_0_0 f3_0_0 c3_0_1 f3_0_1 c3_0_2 f3_0_2 c3_0_3 f3_0_3 l3_1 c3_1_0 f3_1_0 c3_1_1 f3_1_1 c3_1_2 f3_1_2 c3_1_3 f3_1_3
 go_loopw [9] (fun i wr => ∃ (ix n0 c0 n1 c1 : Nat) (S : List SnapD) (H : List HeadD) (A0 A1 : Option Addr), 4 ≤ ix ∧ ix ≤ N ∧ i = .int .i64 (ix : Int) ∧ n0 + 4 ≤ ix ∧ n1 + 4 ≤ ix ∧ Hid (n0 = H.length ∧ n1 = S.length) ∧ Hid (Mid s (ix - 4) S H true) ∧ Hid (MetaAt w3.heap.size wr A0 c0 A1 c1 H S) ∧ Hid (wr.heap[w1.heap.size + 1 + 1]? = some (.cells #[.slice A0 n0 c0, .slice A1 n1 c1, .int .i64 (rdN f1), .bool bo] 25 (0, 0))) ∧ Hid (Chg (fun x => x = w1.heap.size + 1 + 1) w3 wr)) (fun i _ => N - (RowKit.intOf i).toNat)
 case atStart => exact ⟨4, 0, 0, 0, 0, [], [], _, _, Nat.le_refl _, by omega, rfl, Nat.le_refl _, Nat.le_refl _, Lib.hid ⟨rfl, rfl⟩, Lib.hid (Mid.zero _), Lib.hid (MetaAt.nil _ _), H63, Lib.hid (Chg.refl _ _)⟩
 obtain ⟨ix, n0, c0, n1, c1, S, H, A0, A1, hi4, hiN, rfl, hn0, hn1, HNN, HMID, HMA, H6, HC⟩ := hrel
 have hsz : w3.heap.size ≤ wr.heap.size := HC.out.size
 have XR : Below w.heap.size w wr := X3.trans (HC.out.below (fun b _ hb => by subst hb; omega) X3.size)
 have HRB : Hid (wr.heap[w.heap.size]? = some (.cells #[.slice none 0 0, .slice none 0 0, .int .i64 0, .bool false] 25 (0, 0))) := Lib.hid ((HC.out.block _ hw3 (by omega)).trans HRB3.out)
 have lr6 : w1.heap.size + 1 + 1 < wr.heap.size := by omega
 have j0 : (0 : Int) ≤ (ix : Int) := by omega
 by_cases hlt : ix < N
 case neg =>
  obtain rfl : ix = N := by omega
  obtain ⟨rfl, rfl⟩ := HNN.out
  have HHJ : Hid (4 + (ix - 4) = (f0 :: f1 :: f2 :: f3 :: tl).length) := Lib.hid (by rw [← HN.out]; omega)
  obtain ⟨T, fb, hTF⟩ : ∃ T fb, metaF (H, S, rdN f1, bo) = (T, fb) := ⟨_, _, rfl⟩
  have HTF := Lib.hid hTF; clear hTF
  have HRD := Lib.hid HMA.out.reads; have HBD := Lib.hid HMA.out.bds
  have m0 := celR 0 H6.out; have m1 := celR 1 H6.out; have m2 := celR 2 H6.out; have m3 := celR 3 H6.out
  go_wp2_with fail
  refine (spMetaPut_any _ _ _ _ _ _ H S _ _ _ _ _ HRD.out.1 HRD.out.2 (fun x hx => by have := HBD.out.1 x hx; unfold headBd at this; omega) (fun x hx => by have := HBD.out.2 x hx; unfold snapBd at this; omega)).mono ?_
  rw [HTF.out]
  rintro e w6 ⟨rfl, hb6⟩
  have HMA6 := Lib.hid (HMA.out.below hb6)
  have H66 := Lib.hid ((hb6.block _ lr6).trans H6.out)
  have HR6 : Hid (w6.heap[w.heap.size]? = some (.cells #[.slice none 0 0, .slice none 0 0, .int .i64 0, .bool false] 25 (0, 0))) := Lib.hid ((hb6.block _ (Array.getElem?_eq_some_iff.1 HRB.out).1).trans HRB.out)
  have HBL : Hid (Below w.heap.size w w6) := Lib.hid (Below.trans XR (hb6.mono (Below.size XR)))
  clear hb6 m0 m1 m2 m3
  have HEND : Hid (∀ m, metaF m = (s, true) → (T, fb) = (s, true)) := Lib.hid (fun m hm_ => by
   obtain ⟨a1, a2⟩ := mid_end HMID.out HR.out HHJ.out rfl rfl m hm_
   rw [← HTF.out, HBO.out, ← a2]; exact hm_)
  cases fb
  case false =>
   have HNO : Hid (∀ m, metaF m ≠ (s, true)) := Lib.hid (fun m hm_ => by have := HEND.out m hm_; cases this)
   have k0_ := celR 0 HR6.out; have kf0_ := block_free HR6.out 0; have k1_ := celR 1 HR6.out; have kf1_ := block_free HR6.out 1; have k2_ := celR 2 HR6.out; have kf2_ := block_free HR6.out 2; have k3_ := celR 3 HR6.out; have kf3_ := block_free HR6.out 3
   have l6r : w.heap.size < w6.heap.size := (Array.getElem?_eq_some_iff.1 HR6.out).1
   go_wp2_with fail
   have hst := setM_4 (x0 := .slice none 0 0) (x1 := .slice none 0 0) (x2 := .int .i64 0) (x3 := .bool false) HR6.out
   have r0 := celR 0 hst
   have r1 := celR 1 hst
   have r2 := celR 2 hst
   have r3 := celR 3 hst
   clear hst
   exact bodyPost_ret (v := .tuple #[.agg #[.slice none 0 0, .slice none 0 0, .int .i64 0, .bool false], .bool false]) (by simp [results, Tryz.results4, go_sem, r0, r1, r2, r3]) rfl (GotMeta.zero HNO.out (Below.setCell (p := ⟨w.heap.size, 3, none⟩) (Below.setCell (p := ⟨w.heap.size, 2, none⟩) (Below.setCell (p := ⟨w.heap.size, 1, none⟩) (Below.setCell (p := ⟨w.heap.size, 0, none⟩) HBL.out (Nat.le_refl _) _) (Nat.le_refl _) _) (Nat.le_refl _) _) (Nat.le_refl _) _))
  by_cases hT : T = s
  case neg =>
   have HNO : Hid (∀ m, metaF m ≠ (s, true)) := Lib.hid (fun m hm_ => by have h_ := HEND.out m hm_; injection h_ with h_ _; exact hT h_)
   have hq : ((strB T).toList == (strB s).toList) = false := by rw [strB_list, strB_list]; simpa using hT
   clear hT
   have k0_ := celR 0 HR6.out; have kf0_ := block_free HR6.out 0; have k1_ := celR 1 HR6.out; have kf1_ := block_free HR6.out 1; have k2_ := celR 2 HR6.out; have kf2_ := block_free HR6.out 2; have k3_ := celR 3 HR6.out; have kf3_ := block_free HR6.out 3
   have l6r : w.heap.size < w6.heap.size := (Array.getElem?_eq_some_iff.1 HR6.out).1
   go_wp2_with fail
   have hst := setM_4 (x0 := .slice none 0 0) (x1 := .slice none 0 0) (x2 := .int .i64 0) (x3 := .bool false) HR6.out
   have r0 := celR 0 hst
   have r1 := celR 1 hst
   have r2 := celR 2 hst
   have r3 := celR 3 hst
   clear hst
   exact bodyPost_ret (v := .tuple #[.agg #[.slice none 0 0, .slice none 0 0, .int .i64 0, .bool false], .bool false]) (by simp [results, Tryz.results4, go_sem, r0, r1, r2, r3]) rfl (GotMeta.zero HNO.out (Below.setCell (p := ⟨w.heap.size, 3, none⟩) (Below.setCell (p := ⟨w.heap.size, 2, none⟩) (Below.setCell (p := ⟨w.heap.size, 1, none⟩) (Below.setCell (p := ⟨w.heap.size, 0, none⟩) HBL.out (Nat.le_refl _) _) (Nat.le_refl _) _) (Nat.le_refl _) _) (Nat.le_refl _) _))
  have HIS : Hid (MetaIs s (H, S, rdN f1, bo) true) := Lib.hid (.inl ⟨rfl, by rw [HTF.out, hT]⟩)
  have hq : ((strB T).toList == (strB s).toList) = true := by rw [hT]; simp
  clear hT
  have m0 := celR 0 H66.out; have m1 := celR 1 H66.out; have m2 := celR 2 H66.out; have m3 := celR 3 H66.out
  have k0_ := celR 0 HR6.out; have kf0_ := block_free HR6.out 0; have k1_ := celR 1 HR6.out; have kf1_ := block_free HR6.out 1; have k2_ := celR 2 HR6.out; have kf2_ := block_free HR6.out 2; have k3_ := celR 3 HR6.out; have kf3_ := block_free HR6.out 3
  have l6r : w.heap.size < w6.heap.size := (Array.getElem?_eq_some_iff.1 HR6.out).1; have l6b := (Array.getElem?_eq_some_iff.1 H66.out).1
  go_wp2_with fail
  have hst := setM_4 (x0 := .slice A0 H.length c0) (x1 := .slice A1 S.length c1) (x2 := .int .i64 (rdN f1)) (x3 := .bool bo) HR6.out
  have r0 := celR 0 hst
  have r1 := celR 1 hst
  have r2 := celR 2 hst
  have r3 := celR 3 hst
  clear hst
  exact bodyPost_ret (v := .tuple #[.agg #[.slice A0 H.length c0, .slice A1 S.length c1, .int .i64 (rdN f1), .bool bo], .bool true]) (by simp [results, Tryz.results4, go_sem, r0, r1, r2, r3]) rfl (⟨H, S, rdN f1, bo, _, _, _, _, _, _, true, rfl, rfl, rfl, MetaAt.mono (MetaAt.setCell (p := ⟨w.heap.size, 3, none⟩) (MetaAt.setCell (p := ⟨w.heap.size, 2, none⟩) (MetaAt.setCell (p := ⟨w.heap.size, 1, none⟩) (MetaAt.setCell (p := ⟨w.heap.size, 0, none⟩) HMA6.out hw3) hw3) hw3) hw3) (Nat.le_of_lt hw3), HIS.out, by omega, by omega, (Below.setCell (p := ⟨w.heap.size, 3, none⟩) (Below.setCell (p := ⟨w.heap.size, 2, none⟩) (Below.setCell (p := ⟨w.heap.size, 1, none⟩) (Below.setCell (p := ⟨w.heap.size, 0, none⟩) HBL.out (Nat.le_refl _) _) (Nat.le_refl _) _) (Nat.le_refl _) _) (Nat.le_refl _) _)⟩)
 have j1 : (ix : Int) < (N : Int) := by omega
 obtain ⟨t, ht⟩ : ∃ t, (f0 :: f1 :: f2 :: f3 :: tl)[ix]? = some t := ⟨_, List.getElem?_eq_getElem (by rw [← HN.out]; exact hlt)⟩
 have hc : wr.cell? ⟨g, ix, none⟩ = some (.string (strB t)) := by
  obtain ⟨g', e', _, lg', hc⟩ := cellM HI3.out ht
  injection e' with e'; injection e' with e'; subst e'
  exact (World.cell?_of_block (HC.out.block g lg' (by omega))).trans hc
 have htl := recM_le HR.out (f := t) (List.mem_of_getElem? ht)
 have HTT : Hid ((f0 :: f1 :: f2 :: f3 :: tl)[4 + (ix - 4)]? = some t) := Lib.hid (by rw [show 4 + (ix - 4) = ix by omega]; exact ht)
 clear ht
 have lgr : g < wr.heap.size := by omega
 go_wp2_with fail
 refine (spFieldsGet_any t wr (by omega)).mono ?_
 rintro e w5 hG
 have hb5 : Below wr.heap.size wr w5 := by rcases hG with ⟨_, _, _, _, _, _, hb⟩ | ⟨_, _, hb⟩ <;> exact hb
 have R5 : Hid (w5.heap[w.heap.size]? = some (.cells #[.slice none 0 0, .slice none 0 0, .int .i64 0, .bool false] 25 (0, 0))) := Lib.hid ((hb5.block _ (Array.getElem?_eq_some_iff.1 HRB.out).1).trans HRB.out)
 have H65 : Hid (w5.heap[w1.heap.size + 1 + 1]? = some (.cells #[.slice A0 n0 c0, .slice A1 n1 c1, .int .i64 (rdN f1), .bool bo] 25 (0, 0))) := Lib.hid ((hb5.block _ lr6).trans H6.out)
 have X5 : Below w.heap.size w w5 := XR.trans (hb5.mono XR.size)
 have z5 : wr.heap.size ≤ w5.heap.size := hb5.size
 have HB5 := Lib.hid hb5
 clear hc hb5
 have l5 : w.heap.size < w5.heap.size := (Array.getElem?_eq_some_iff.1 R5.out).1
 have c5_0 := celR 0 R5.out
 have f5_0 := block_free R5.out 0
 have c5_1 := celR 1 R5.out
 have f5_1 := block_free R5.out 1
 have c5_2 := celR 2 R5.out
 have f5_2 := block_free R5.out 2
 have c5_3 := celR 3 R5.out
 have f5_3 := block_free R5.out 3
 have l65 : w1.heap.size + 1 + 1 < w5.heap.size := (Array.getElem?_eq_some_iff.1 H65.out).1
 have c65_0 := celR 0 H65.out
 have f65_0 := block_free H65.out 0
 have c65_1 := celR 1 H65.out
 have f65_1 := block_free H65.out 1
 have c65_2 := celR 2 H65.out
 have f65_2 := block_free H65.out 2
 have c65_3 := celR 3 H65.out
 have f65_3 := block_free H65.out 3
 have zz5 : w3.heap.size ≤ w5.heap.size := by omega
 rcases hG with ⟨xl, Ax, cpx, hRx, rfl, hIx, _⟩ | ⟨hnox, ⟨Ax, cpx, rfl⟩, _⟩
 case inr =>
  by_cases hjm : (ix : Int) < 4 + many
  case pos =>
   have dj : decide ((ix : Int) < 4 + many) = true := by simpa using hjm
   have dj2 : decide (4 + many ≤ (ix : Int)) = false := by simp; omega
   have HNO : Hid (∀ m, metaF m ≠ (s, true)) := Lib.hid (Mid.bad_snap HR.out (f3 := f3) rfl HTT.out (by rw [← HMY.out]; omega) (snap_none _ _ hnox))
   have HRR : Hid ((w5).heap[w.heap.size]? = some (.cells #[.slice none 0 0, .slice none 0 0, .int .i64 0, .bool false] 25 (0, 0))) := Lib.hid (R5.out)
   have HBL : Hid (Below w.heap.size w w5) := Lib.hid X5
   go_wp2_with fail
   have hst := setM_4 (x0 := .slice none 0 0) (x1 := .slice none 0 0) (x2 := .int .i64 0) (x3 := .bool false) HRR.out
   have r0 := celR 0 hst
   have r1 := celR 1 hst
   have r2 := celR 2 hst
   have r3 := celR 3 hst
   clear hst
   exact bodyPost_ret (v := .tuple #[.agg #[.slice none 0 0, .slice none 0 0, .int .i64 0, .bool false], .bool false]) (by simp [results, Tryz.results4, go_sem, r0, r1, r2, r3]) rfl (GotMeta.zero HNO.out (Below.setCell (p := ⟨w.heap.size, 3, none⟩) (Below.setCell (p := ⟨w.heap.size, 2, none⟩) (Below.setCell (p := ⟨w.heap.size, 1, none⟩) (Below.setCell (p := ⟨w.heap.size, 0, none⟩) HBL.out (Nat.le_refl _) _) (Nat.le_refl _) _) (Nat.le_refl _) _) (Nat.le_refl _) _))
  have dj : decide ((ix : Int) < 4 + many) = false := by simpa using hjm
  have dj2 : decide (4 + many ≤ (ix : Int)) = true := by simp; omega
  have HNO : Hid (∀ m, metaF m ≠ (s, true)) := Lib.hid (Mid.bad_head HR.out (f3 := f3) rfl HTT.out (by rw [← HMY.out]; omega) (head_none _ _ hnox))
  have HRR : Hid ((w5).heap[w.heap.size]? = some (.cells #[.slice none 0 0, .slice none 0 0, .int .i64 0, .bool false] 25 (0, 0))) := Lib.hid (R5.out)
  have HBL : Hid (Below w.heap.size w w5) := Lib.hid X5
  go_wp2_with fail
  have hst := setM_4 (x0 := .slice none 0 0) (x1 := .slice none 0 0) (x2 := .int .i64 0) (x3 := .bool false) HRR.out
  have r0 := celR 0 hst
  have r1 := celR 1 hst
  have r2 := celR 2 hst
  have r3 := celR 3 hst
  clear hst
  exact bodyPost_ret (v := .tuple #[.agg #[.slice none 0 0, .slice none 0 0, .int .i64 0, .bool false], .bool false]) (by simp [results, Tryz.results4, go_sem, r0, r1, r2, r3]) rfl (GotMeta.zero HNO.out (Below.setCell (p := ⟨w.heap.size, 3, none⟩) (Below.setCell (p := ⟨w.heap.size, 2, none⟩) (Below.setCell (p := ⟨w.heap.size, 1, none⟩) (Below.setCell (p := ⟨w.heap.size, 0, none⟩) HBL.out (Nat.le_refl _) _) (Nat.le_refl _) _) (Nat.le_refl _) _) (Nat.le_refl _) _))
 have HRX := Lib.hid hRx; have HIX := Lib.hid hIx; clear hRx hIx
 by_cases hjm : (ix : Int) < 4 + many
 case pos =>
  have HJM := Lib.hid hjm
  have dj : decide ((ix : Int) < 4 + many) = true := by simpa using hjm
  have dj2 : decide (4 + many ≤ (ix : Int)) = false := by simp; omega
  by_cases h8 : xl.length = 8
  case neg =>
   have d8 : ((xl.length : Int) == 8) = false := by simp; omega
   have d9 : ¬ (xl.length : Int) = 8 := by omega
   have HNO : Hid (∀ m, metaF m ≠ (s, true)) := Lib.hid (Mid.bad_snap HR.out (f3 := f3) rfl HTT.out (by rw [← HMY.out]; omega) (snap_len _ _ HRX.out h8))
   have HRR : Hid ((w5).heap[w.heap.size]? = some (.cells #[.slice none 0 0, .slice none 0 0, .int .i64 0, .bool false] 25 (0, 0))) := Lib.hid (R5.out)
   have HBL : Hid (Below w.heap.size w w5) := Lib.hid X5
   go_wp2_with fail
   have hst := setM_4 (x0 := .slice none 0 0) (x1 := .slice none 0 0) (x2 := .int .i64 0) (x3 := .bool false) HRR.out
   have r0 := celR 0 hst
   have r1 := celR 1 hst
   have r2 := celR 2 hst
   have r3 := celR 3 hst
   clear hst
   exact bodyPost_ret (v := .tuple #[.agg #[.slice none 0 0, .slice none 0 0, .int .i64 0, .bool false], .bool false]) (by simp [results, Tryz.results4, go_sem, r0, r1, r2, r3]) rfl (GotMeta.zero HNO.out (Below.setCell (p := ⟨w.heap.size, 3, none⟩) (Below.setCell (p := ⟨w.heap.size, 2, none⟩) (Below.setCell (p := ⟨w.heap.size, 1, none⟩) (Below.setCell (p := ⟨w.heap.size, 0, none⟩) HBL.out (Nat.le_refl _) _) (Nat.le_refl _) _) (Nat.le_refl _) _) (Nat.le_refl _) _))
  obtain ⟨y0, y1, y2, y3, y4, y5, y6, y7, rfl⟩ := strsM8 h8
  rw [h8]
  have hcpx : 8 ≤ cpx := by have := leM HIX.out; rw [h8] at this; exact this
  have hc1 : ¬ cpx = 4 := by omega
  have cc1 : ((4 : Int) ≤ (7 : Int)) := by omega
  have cc2 : ((7 : Int) ≤ (cpx : Int)) := by omega
  obtain ⟨gx, rfl, hgxB, lx5, e0⟩ := cellM HIX.out (j := 0) rfl
  obtain ⟨g1, e1', _, _, e1⟩ := cellM HIX.out (j := 1) rfl
  injection e1' with e1'; injection e1' with e1'; subst e1'
  obtain ⟨g2, e2', _, _, e2⟩ := cellM HIX.out (j := 2) rfl
  injection e2' with e2'; injection e2' with e2'; subst e2'
  obtain ⟨g3, e3', _, _, e3⟩ := cellM HIX.out (j := 3) rfl
  injection e3' with e3'; injection e3' with e3'; subst e3'
  obtain ⟨g4, e4', _, _, e4⟩ := cellM HIX.out (j := 4) rfl
  injection e4' with e4'; injection e4' with e4'; subst e4'
  obtain ⟨g5, e5', _, _, e5⟩ := cellM HIX.out (j := 5) rfl
  injection e5' with e5'; injection e5' with e5'; subst e5'
  obtain ⟨g6, e6', _, _, e6⟩ := cellM HIX.out (j := 6) rfl
  injection e6' with e6'; injection e6' with e6'; subst e6'
  obtain ⟨g7, e7', _, _, e7⟩ := cellM HIX.out (j := 7) rfl
  injection e7' with e7'; injection e7' with e7'; subst e7'
  have hl0_ := recM_le HRX.out (f := y0) (by simp)
  have E0 := Lib.hid e0
  have hl1_ := recM_le HRX.out (f := y1) (by simp)
  have E1 := Lib.hid e1
  have hl2_ := recM_le HRX.out (f := y2) (by simp)
  have E2 := Lib.hid e2
  have hl3_ := recM_le HRX.out (f := y3) (by simp)
  have E3 := Lib.hid e3
  have hl4_ := recM_le HRX.out (f := y4) (by simp)
  have E4 := Lib.hid e4
  have hl5_ := recM_le HRX.out (f := y5) (by simp)
  have E5 := Lib.hid e5
  have hl6_ := recM_le HRX.out (f := y6) (by simp)
  have E6 := Lib.hid e6
  have hl7_ := recM_le HRX.out (f := y7) (by simp)
  have E7 := Lib.hid e7
  clear h8 HIX e0 e1 e2 e3 e4 e5 e6 e7
  have hxr : w.heap.size ≠ gx := by omega
  have hx6 : w1.heap.size + 1 + 1 ≠ gx := by omega
  go_wp2_with fail
  apply wp_region_rgz (Own (w5.heap.size)) (Ext) (fun y w' k' => 1000 ≤ k' → ∃ (nb : Nat) (a b m d l u v : Int) (o : Bool) (A : Option Addr) (c : Nat) (S_ : List Nat) (ds : List PtrD), y 12 = .pointer (some ⟨nb, 0, none⟩) ∧ w5.heap.size ≤ nb ∧ w'.heap[nb]? = some (.cells #[.int .i64 0, .string (strB y1), .int .i64 0, .int .i64 0, .int .i64 a, .int .i64 b, .int .i64 m, .int .i64 d, .int .i64 l, .int .i64 u, .int .i64 v, .slice A ds.length c] 44 (0, 0)) ∧ TreeRd y4 y5 y6 ((a, b, m, d, l), u, v) o ∧ PtrsAt (w5.heap.size) A c S_ ds w' ∧ DeadRd y7 ds true ∧ ds.length ≤ 100001) (0 :: 0 :: 0 :: 0 :: 0 :: 0 :: 0 :: 0 :: 0 :: 0 :: 0 :: 0 :: 1000 :: []) (1000 :: 1000 :: 1000 :: 1000 :: 1000 :: 1000 :: 1000 :: 1000 :: 1000 :: 1000 :: 1000 :: 1000 :: 1000 :: []) (by kernel_rfl) (false :: false :: false :: false :: false :: false :: false :: false :: false :: false :: false :: false :: true :: false :: false :: false :: false :: false :: false :: false :: false :: false :: false :: false :: false :: false :: false :: false :: false :: false :: false :: false :: false :: false :: false :: false :: false :: false :: false :: false :: false :: false :: false :: false :: false :: false :: false :: false :: false :: false :: false :: false :: false :: false :: false :: false :: false :: false :: false :: false :: false :: false :: false :: false :: false :: false :: false :: false :: false :: false :: false :: false :: false :: false :: false :: false :: true :: true :: true :: true :: true :: true :: true :: true :: true :: true :: true :: false :: false :: false :: false :: false :: false :: false :: false :: false :: false :: false :: false :: false :: false :: false :: false :: false :: false :: false :: false :: false :: false :: false :: false :: false :: false :: false :: false :: false :: false :: false :: false :: false :: false :: false :: false :: false :: false :: false :: false :: false :: false :: false :: false :: false :: false :: false :: false :: false :: false :: false :: false :: false :: false :: false :: false :: false :: false :: false :: false :: false :: false :: false :: false :: false :: false :: false :: false :: false :: false :: false :: false :: false :: false :: false :: false :: false :: false :: false :: false :: false :: false :: false :: false :: false :: false :: false :: []) (some 76 :: some 77 :: some 78 :: some 79 :: some 80 :: some 81 :: some 82 :: some 83 :: some 84 :: some 85 :: some 86 :: some 12 :: none :: []) ([] :: [0] :: [1] :: [] :: [3] :: [4] :: [] :: [6] :: [7] :: [8] :: [2, 5, 9] :: [] :: [10, 11] :: []) (false :: false :: false :: false :: false :: false :: false :: false :: false :: false :: false :: false :: true :: []) (true :: true :: true :: true :: true :: true :: true :: true :: true :: false :: false :: false :: true :: []) [] (MStP.is _ :: MStP.is _ :: MStP.is _ :: MStP.is _ :: MStP.is _ :: softTr (w5.heap.size) y4 y5 y6 :: MStP.is _ :: MStP.is _ :: MStP.is _ :: softLs (w5.heap.size) y7 :: softSnap (w5.heap.size) y1 y4 y5 y6 y7 :: softBx (w5.heap.size) 44 #[.int .i64 0, .string ⟨#[]⟩, .int .i64 0, .int .i64 0, .int .i64 0, .int .i64 0, .int .i64 0, .int .i64 0, .int .i64 0, .int .i64 0, .int .i64 0, .slice none 0 0] :: MStP.is _ :: []) (by kernel_rfl) (by kernel_rfl) (by kernel_rfl) (by kernel_rfl)
  case hobs =>
   refine ⟨fun y w' k hS hj hk hF K hK => ?_, ?_⟩
   · skip
     simp only [fillL, cond_true, cond_false, zG0, zG1, StP.is, Act.put, zS2, zS0, zS1, Nat.reduceAdd, MStP.is, Option.isSome_some, Option.isSome_none] at hK ⊢
     simp only [List.sum_cons, List.sum_nil, zG0, zG1, Nat.reduceAdd, Nat.add_zero] at hk
     refine rg_yes (by kernel_rfl) ?_
     have hSb : Below w5.heap.size w5 w' := hS (Nat.le_refl _)
     have hsz_ := hSb.size
     clear hF
     go_simp
     exact hK _ _ (Ext.refl _) (fun h => absurd h (by omega)) rfl
   refine ⟨fun y w' k hS hj hk hF K hK => ?_, ?_⟩
   · skip
     have e76 : y 76 = _ := hF.1
     have e76' := Lib.hid e76
     simp only [fillL, cond_true, cond_false, zG0, zG1, StP.is, Act.put, zS2, zS0, zS1, Nat.reduceAdd, e76, MStP.is, Option.isSome_some, Option.isSome_none] at hK ⊢
     simp only [List.sum_cons, List.sum_nil, zG0, zG1, Nat.reduceAdd, Nat.add_zero] at hk
     refine rg_yes (by kernel_rfl) ?_
     have hSb : Below w5.heap.size w5 w' := hS (Nat.le_refl _)
     have hsz_ := hSb.size
     clear e76
     clear hF
     go_simp
     exact hK _ _ (Ext.refl _) (fun h => absurd h (by omega)) rfl
   refine ⟨fun y w' k hS hj hk hF K hK => ?_, ?_⟩
   · skip
     have e77 : y 77 = _ := hF.1
     have e77' := Lib.hid e77
     simp only [fillL, cond_true, cond_false, zG0, zG1, StP.is, Act.put, zS2, zS0, zS1, Nat.reduceAdd, e77, MStP.is, Option.isSome_some, Option.isSome_none] at hK ⊢
     simp only [List.sum_cons, List.sum_nil, zG0, zG1, Nat.reduceAdd, Nat.add_zero] at hk
     refine rg_yes (by kernel_rfl) ?_
     have hSb : Below w5.heap.size w5 w' := hS (Nat.le_refl _)
     have hsz_ := hSb.size
     clear e77
     clear hF
     have q0_ := (hSb.cell lx5).trans E0.out
     have q1_ := (hSb.cell lx5).trans E1.out
     have q2_ := (hSb.cell lx5).trans E2.out
     have q3_ := (hSb.cell lx5).trans E3.out
     have q4_ := (hSb.cell lx5).trans E4.out
     have q5_ := (hSb.cell lx5).trans E5.out
     have q6_ := (hSb.cell lx5).trans E6.out
     have q7_ := (hSb.cell lx5).trans E7.out
     go_simp
     exact hK _ _ (Ext.refl _) (fun h => absurd h (by omega)) rfl
   refine ⟨fun y w' k hS hj hk hF K hK => ?_, ?_⟩
   · skip
     simp only [fillL, cond_true, cond_false, zG0, zG1, StP.is, Act.put, zS2, zS0, zS1, Nat.reduceAdd, MStP.is, Option.isSome_some, Option.isSome_none] at hK ⊢
     simp only [List.sum_cons, List.sum_nil, zG0, zG1, Nat.reduceAdd, Nat.add_zero] at hk
     refine rg_yes (by kernel_rfl) ?_
     have hSb : Below w5.heap.size w5 w' := hS (Nat.le_refl _)
     have hsz_ := hSb.size
     clear hF
     go_simp
     exact hK _ _ (Ext.refl _) (fun h => absurd h (by omega)) rfl
   refine ⟨fun y w' k hS hj hk hF K hK => ?_, ?_⟩
   · skip
     have e79 : y 79 = _ := hF.1
     have e79' := Lib.hid e79
     simp only [fillL, cond_true, cond_false, zG0, zG1, StP.is, Act.put, zS2, zS0, zS1, Nat.reduceAdd, e79, MStP.is, Option.isSome_some, Option.isSome_none] at hK ⊢
     simp only [List.sum_cons, List.sum_nil, zG0, zG1, Nat.reduceAdd, Nat.add_zero] at hk
     refine rg_yes (by kernel_rfl) ?_
     have hSb : Below w5.heap.size w5 w' := hS (Nat.le_refl _)
     have hsz_ := hSb.size
     clear e79
     clear hF
     go_simp
     exact hK _ _ (Ext.refl _) (fun h => absurd h (by omega)) rfl
   refine ⟨fun y w' k hS hj hk hF K hK => ?_, ?_⟩
   · skip
     have e80 : y 80 = _ := hF.1
     have e80' := Lib.hid e80
     simp only [fillL, cond_true, cond_false, zG0, zG1, StP.is, Act.put, zS2, zS0, zS1, Nat.reduceAdd, e80, MStP.is, Option.isSome_some, Option.isSome_none] at hK ⊢
     simp only [List.sum_cons, List.sum_nil, zG0, zG1, Nat.reduceAdd, Nat.add_zero] at hk
     refine rg_yes (by kernel_rfl) ?_
     have hSb : Below w5.heap.size w5 w' := hS (Nat.le_refl _)
     have hsz_ := hSb.size
     clear e80
     clear hF
     have q0_ := (hSb.cell lx5).trans E0.out
     have q1_ := (hSb.cell lx5).trans E1.out
     have q2_ := (hSb.cell lx5).trans E2.out
     have q3_ := (hSb.cell lx5).trans E3.out
     have q4_ := (hSb.cell lx5).trans E4.out
     have q5_ := (hSb.cell lx5).trans E5.out
     have q6_ := (hSb.cell lx5).trans E6.out
     have q7_ := (hSb.cell lx5).trans E7.out
     go_simp
     go_at_call 11
     refine (l21Back_any gx 4 _ y4 y5 y6 _ q4_ q5_ q6_ (by omega) (by omega) (by omega)).mono ?_
     rintro e w'' ⟨a, b, m, d, l, ok, hp, rfl, hb⟩
     exact hK _ _ hb (fun h => absurd h (by omega)) ⟨a, b, m, d, l, _, _, _, rfl, ok, hp, rfl, rfl, rfl⟩
   refine ⟨fun y w' k hS hj hk hF K hK => ?_, ?_⟩
   · skip
     simp only [fillL, cond_true, cond_false, zG0, zG1, StP.is, Act.put, zS2, zS0, zS1, Nat.reduceAdd, MStP.is, Option.isSome_some, Option.isSome_none] at hK ⊢
     simp only [List.sum_cons, List.sum_nil, zG0, zG1, Nat.reduceAdd, Nat.add_zero] at hk
     refine rg_yes (by kernel_rfl) ?_
     have hSb : Below w5.heap.size w5 w' := hS (Nat.le_refl _)
     have hsz_ := hSb.size
     clear hF
     go_simp
     exact hK _ _ (Ext.refl _) (fun h => absurd h (by omega)) rfl
   refine ⟨fun y w' k hS hj hk hF K hK => ?_, ?_⟩
   · skip
     have e82 : y 82 = _ := hF.1
     have e82' := Lib.hid e82
     simp only [fillL, cond_true, cond_false, zG0, zG1, StP.is, Act.put, zS2, zS0, zS1, Nat.reduceAdd, e82, MStP.is, Option.isSome_some, Option.isSome_none] at hK ⊢
     simp only [List.sum_cons, List.sum_nil, zG0, zG1, Nat.reduceAdd, Nat.add_zero] at hk
     refine rg_yes (by kernel_rfl) ?_
     have hSb : Below w5.heap.size w5 w' := hS (Nat.le_refl _)
     have hsz_ := hSb.size
     clear e82
     clear hF
     go_simp
     exact hK _ _ (Ext.refl _) (fun h => absurd h (by omega)) rfl
   refine ⟨fun y w' k hS hj hk hF K hK => ?_, ?_⟩
   · skip
     have e83 : y 83 = _ := hF.1
     have e83' := Lib.hid e83
     simp only [fillL, cond_true, cond_false, zG0, zG1, StP.is, Act.put, zS2, zS0, zS1, Nat.reduceAdd, e83, MStP.is, Option.isSome_some, Option.isSome_none] at hK ⊢
     simp only [List.sum_cons, List.sum_nil, zG0, zG1, Nat.reduceAdd, Nat.add_zero] at hk
     refine rg_yes (by kernel_rfl) ?_
     have hSb : Below w5.heap.size w5 w' := hS (Nat.le_refl _)
     have hsz_ := hSb.size
     clear e83
     clear hF
     have q0_ := (hSb.cell lx5).trans E0.out
     have q1_ := (hSb.cell lx5).trans E1.out
     have q2_ := (hSb.cell lx5).trans E2.out
     have q3_ := (hSb.cell lx5).trans E3.out
     have q4_ := (hSb.cell lx5).trans E4.out
     have q5_ := (hSb.cell lx5).trans E5.out
     have q6_ := (hSb.cell lx5).trans E6.out
     have q7_ := (hSb.cell lx5).trans E7.out
     go_simp
     exact hK _ _ (Ext.refl _) (fun h => absurd h (by omega)) rfl
   refine ⟨fun y w' k hS hj hk hF K hK => ?_, ?_⟩
   · skip
     have e84 : y 84 = _ := hF.1
     have e84' := Lib.hid e84
     simp only [fillL, cond_true, cond_false, zG0, zG1, StP.is, Act.put, zS2, zS0, zS1, Nat.reduceAdd, e84, MStP.is, Option.isSome_some, Option.isSome_none] at hK ⊢
     simp only [List.sum_cons, List.sum_nil, zG0, zG1, Nat.reduceAdd, Nat.add_zero] at hk
     refine rg_yes (by kernel_rfl) ?_
     have hSb : Below w5.heap.size w5 w' := hS (Nat.le_refl _)
     have hsz_ := hSb.size
     clear e84
     clear hF
     go_simp
     go_at_call 12
     refine (l21List_any y7 w' (by omega)).mono ?_
     rintro e w'' ⟨A, n_, c, S_, ds, rfl, rfl, hP_, hD_, hL_, hb⟩
     exact hK _ _ hb (fun h => absurd h (by omega)) ⟨A, c, S_, ds, rfl, hP_.mono hsz_, hD_, hL_⟩
   refine ⟨fun y w' k hS hj hk hF K hK => ?_, ?_⟩
   · skip
     have e78 : y 78 = _ := hF.1
     obtain ⟨a, b, m, d, l, u, v, o, e81, hTR⟩ := hF.2.1
     obtain ⟨A, c, S_, ds, e85, hPd, hDd, hLd⟩ := hF.2.2.1
     have e78' := Lib.hid e78
     have e81' := Lib.hid e81
     have e85' := Lib.hid e85
     simp only [fillL, cond_true, cond_false, zG0, zG1, StP.is, Act.put, zS2, zS0, zS1, Nat.reduceAdd, e78, e81, e85, MStP.is, Option.isSome_some, Option.isSome_none] at hK ⊢
     simp only [List.sum_cons, List.sum_nil, zG0, zG1, Nat.reduceAdd, Nat.add_zero] at hk
     refine rg_yes (by kernel_rfl) ?_
     have hSb : Below w5.heap.size w5 w' := hS (Nat.le_refl _)
     have hsz_ := hSb.size
     clear e78 e81 e85
     clear hF
     go_simp
     exact hK _ _ (Ext.refl _) (fun h => absurd h (by omega)) ⟨a, b, m, d, l, u, v, o, A, c, S_, ds, rfl, hTR, hPd, hDd, hLd⟩
   refine ⟨fun y w' k hS hj hk hF K hK => ?_, ?_⟩
   · skip
     simp only [fillL, cond_true, cond_false, zG0, zG1, StP.is, Act.put, zS2, zS0, zS1, Nat.reduceAdd, MStP.is, Option.isSome_some, Option.isSome_none] at hK ⊢
     simp only [List.sum_cons, List.sum_nil, zG0, zG1, Nat.reduceAdd, Nat.add_zero] at hk
     refine rg_yes (by kernel_rfl) ?_
     have hSb : Below w5.heap.size w5 w' := hS (Nat.le_refl _)
     have hsz_ := hSb.size
     clear hF
     go_simp
     exact hK _ _ (Ext.alloc _ _) (fun h => absurd h (by omega)) ⟨_, by omega, rfl, heap_alloc_new _ _⟩
   refine ⟨fun y w' k hS hj hk hF K hK => ?_, ?_⟩
   · skip
     obtain ⟨a, b, m, d, l, u, v, o, A, c, S_, ds, e86, hTR, hPd, hDd, hLd⟩ := hF.1
     obtain ⟨nb, hBn, e12, hln⟩ := hF.2.1
     have e86' := Lib.hid e86
     have e12' := Lib.hid e12
     simp only [fillL, cond_true, cond_false, zG0, zG1, StP.is, Act.put, zS2, zS0, zS1, Nat.reduceAdd, e86, e12, MStP.is, Option.isSome_some, Option.isSome_none] at hK ⊢
     simp only [List.sum_cons, List.sum_nil, zG0, zG1, Nat.reduceAdd, Nat.add_zero] at hk
     refine rg_yes (by kernel_rfl) ?_
     have hSb : Below w5.heap.size w5 w' := hS (Nat.le_refl _)
     have hsz_ := hSb.size
     clear e86 e12
     clear hF
     have hnS : nb ∉ S_ := fun h => by
      obtain ⟨cur, hcur⟩ := hPd.1.typ h
      exact typ_ne hcur hln (by decide)
     have fz := fun o => block_free hln o
     have fz0 := fz 0; have fz1 := fz 1; have fz2 := fz 2; have fz3 := fz 3; have fz4 := fz 4; have fz5 := fz 5; have fz6 := fz 6; have fz7 := fz 7; have fz8 := fz 8; have fz9 := fz 9; have fz10 := fz 10; have fz11 := fz 11
     have cz0 := celR 0 hln
     have cz1 := celR 1 hln
     have cz2 := celR 2 hln
     have cz3 := celR 3 hln
     have cz4 := celR 4 hln
     have cz5 := celR 5 hln
     have cz6 := celR 6 hln
     have cz7 := celR 7 hln
     have cz8 := celR 8 hln
     have cz9 := celR 9 hln
     have cz10 := celR 10 hln
     have cz11 := celR 11 hln
     clear fz
     have HE3 := e12'; clear e12'
     have HSET := Lib.hid (setM_12 (x0 := .int .i64 0) (x1 := .string (strB y1)) (x2 := .int .i64 0) (x3 := .int .i64 0) (x4 := .int .i64 a) (x5 := .int .i64 b) (x6 := .int .i64 m) (x7 := .int .i64 d) (x8 := .int .i64 l) (x9 := .int .i64 u) (x10 := .int .i64 v) (x11 := .slice A ds.length c) hln)
     have HL3 := Lib.hid hln; clear hln
     go_simp
     exact hK undef _ (fun hB => (Below.setCell (p := ⟨nb, 11, none⟩) (Below.setCell (p := ⟨nb, 10, none⟩) (Below.setCell (p := ⟨nb, 9, none⟩) (Below.setCell (p := ⟨nb, 8, none⟩) (Below.setCell (p := ⟨nb, 7, none⟩) (Below.setCell (p := ⟨nb, 6, none⟩) (Below.setCell (p := ⟨nb, 5, none⟩) (Below.setCell (p := ⟨nb, 4, none⟩) (Below.setCell (p := ⟨nb, 3, none⟩) (Below.setCell (p := ⟨nb, 2, none⟩) (Below.setCell (p := ⟨nb, 1, none⟩) (Below.setCell (p := ⟨nb, 0, none⟩) (Below.refl _ _) hBn _) hBn _) hBn _) hBn _) hBn _) hBn _) hBn _) hBn _) hBn _) hBn _) hBn _) hBn _)) (fun _ => ⟨nb, a, b, m, d, l, u, v, o, A, c, S_, ds, HE3.out, hBn, HSET.out, hTR, (PtrsAt.setCell (p := ⟨nb, 11, none⟩) (PtrsAt.setCell (p := ⟨nb, 10, none⟩) (PtrsAt.setCell (p := ⟨nb, 9, none⟩) (PtrsAt.setCell (p := ⟨nb, 8, none⟩) (PtrsAt.setCell (p := ⟨nb, 7, none⟩) (PtrsAt.setCell (p := ⟨nb, 6, none⟩) (PtrsAt.setCell (p := ⟨nb, 5, none⟩) (PtrsAt.setCell (p := ⟨nb, 4, none⟩) (PtrsAt.setCell (p := ⟨nb, 3, none⟩) (PtrsAt.setCell (p := ⟨nb, 2, none⟩) (PtrsAt.setCell (p := ⟨nb, 1, none⟩) (PtrsAt.setCell (p := ⟨nb, 0, none⟩) hPd hnS) hnS) hnS) hnS) hnS) hnS) hnS) hnS) hnS) hnS) hnS) hnS), hDd, hLd⟩) rfl
   trivial
  case hH => rfl
  case hNS => exact Own.of_ext _
  case hSt => exact fun a b => Own.trans a b
  case hb => rfl
  case hdrew => exact Own.drew _ _
  case hj0 => exact fun y h => absurd h (by omega)
  intro y w6 hS hJ _
  obtain ⟨nb, a, b, m, d, l, u, v, o, A, c, S_, ds, e12, hBn, hln, hTR, hPd, hDd, hLd⟩ := hJ (by decide)
  clear hJ
  simp only [fillL, cond_true, cond_false, Nat.reduceAdd, e12]
  clear e12
  have hb6 : Below w5.heap.size w5 w6 := hS (Nat.le_refl _)
  clear hS
  have HTR := Lib.hid hTR; have HDD := Lib.hid hDd; have HPS := Lib.hid (PtrsAt.mono hPd z5); have HLD := Lib.hid hLd
  have HLN := Lib.hid hln
  have hnS : nb ∉ S_ := fun h => by
   obtain ⟨cur, hcur⟩ := hPd.1.typ h
   exact typ_ne hcur hln (by decide)
  have hnl : nb < w6.heap.size := (Array.getElem?_eq_some_iff.1 hln).1
  clear hTR hDd hPd hLd hln
  have hnr : nb ≠ w.heap.size := by omega
  have hn6 : nb ≠ w1.heap.size + 1 + 1 := by omega
  have hnx : nb ≠ gx := by omega
  have hnx' : gx ≠ nb := by omega
  have hnw : wr.heap.size ≤ nb := by omega
  have lx6 := Nat.lt_of_lt_of_le lx5 hb6.size
  have HB6 : Hid (Below wr.heap.size wr w6) := Lib.hid (HB5.out.trans (hb6.mono z5))
  have E0 := Lib.hid ((hb6.cell lx5).trans E0.out)
  have E2 := Lib.hid ((hb6.cell lx5).trans E2.out)
  have E3 := Lib.hid ((hb6.cell lx5).trans E3.out)
  clear E1 E4 E5 E6 E7
  have zz6 : w5.heap.size ≤ w6.heap.size := by have := hb6.size; simpa [World.setCell] using this
  have YY6 : Below w.heap.size w w5 := X5
  have X6 : Below w.heap.size w w6 := YY6.trans (hb6.mono YY6.size)
  clear YY6
  have b6_0 : Hid (w6.heap[w.heap.size]? = some (.cells #[.slice none 0 0, .slice none 0 0, .int .i64 0, .bool false] 25 (0, 0))) := Lib.hid ((hb6.block _ (by first | omega | (simp [World.setCell] <;> omega))).trans R5.out)
  have b6_1 : Hid (w6.heap[w1.heap.size + 1 + 1]? = some (.cells #[.slice A0 n0 c0, .slice A1 n1 c1, .int .i64 (rdN f1), .bool bo] 25 (0, 0))) := Lib.hid ((hb6.block _ (by first | omega | (simp [World.setCell] <;> omega))).trans H65.out)
  clear R5 H65 X5 zz5 l5 c5_0 f5_0 c5_1 f5_1 c5_2 f5_2 c5_3 f5_3 l65 c65_0 f65_0 c65_1 f65_1 c65_2 f65_2 c65_3 f65_3 hb6
  have l6_0 : w.heap.size < w6.heap.size := (Array.getElem?_eq_some_iff.1 b6_0.out).1
  have c6_0_0 := celR 0 b6_0.out
  have f6_0_0 := block_free b6_0.out 0
  have c6_0_1 := celR 1 b6_0.out
  have f6_0_1 := block_free b6_0.out 1
  have c6_0_2 := celR 2 b6_0.out
  have f6_0_2 := block_free b6_0.out 2
  have c6_0_3 := celR 3 b6_0.out
  have f6_0_3 := block_free b6_0.out 3
  have l6_1 : w1.heap.size + 1 + 1 < w6.heap.size := (Array.getElem?_eq_some_iff.1 b6_1.out).1
  have c6_1_0 := celR 0 b6_1.out
  have f6_1_0 := block_free b6_1.out 0
  have c6_1_1 := celR 1 b6_1.out
  have f6_1_1 := block_free b6_1.out 1
  have c6_1_2 := celR 2 b6_1.out
  have f6_1_2 := block_free b6_1.out 2
  have c6_1_3 := celR 3 b6_1.out
  have f6_1_3 := block_free b6_1.out 3
  have cN6_0 := celR 0 HLN.out
  have fN6_0 := block_free HLN.out 0
  have cN6_1 := celR 1 HLN.out
  have fN6_1 := block_free HLN.out 1
  have cN6_2 := celR 2 HLN.out
  have fN6_2 := block_free HLN.out 2
  have cN6_3 := celR 3 HLN.out
  have fN6_3 := block_free HLN.out 3
  have cN6_4 := celR 4 HLN.out
  have fN6_4 := block_free HLN.out 4
  have cN6_5 := celR 5 HLN.out
  have fN6_5 := block_free HLN.out 5
  have cN6_6 := celR 6 HLN.out
  have fN6_6 := block_free HLN.out 6
  have cN6_7 := celR 7 HLN.out
  have fN6_7 := block_free HLN.out 7
  have cN6_8 := celR 8 HLN.out
  have fN6_8 := block_free HLN.out 8
  have cN6_9 := celR 9 HLN.out
  have fN6_9 := block_free HLN.out 9
  have cN6_10 := celR 10 HLN.out
  have fN6_10 := block_free HLN.out 10
  have cN6_11 := celR 11 HLN.out
  have fN6_11 := block_free HLN.out 11
  have e0 := E0.out
  go_wp2_with fail
  refine (spNumGet_any y0 _ (by omega)).mono ?_
  rw [GotNum_defN, show (((numGet y0).getD 0 : Nat) : Int) = rdN y0 from rfl]
  rintro e w7 ⟨rfl, hb7⟩
  have HB7 : Hid (Below wr.heap.size wr w7) := Lib.hid (Below.trans HB6.out (hb7.mono (by have := HB6.out.size; simpa [World.setCell] using this)))
  have HPS := Lib.hid (PtrsAt.below HPS.out hb7)
  have E2 := Lib.hid ((hb7.cell lx6).trans (E2.out))
  have E3 := Lib.hid ((hb7.cell lx6).trans (E3.out))
  have lx7 : gx < w7.heap.size := Nat.lt_of_lt_of_le lx6 (by have := hb7.size; simpa [World.setCell] using this)
  clear e0
  have zz7 : w6.heap.size ≤ w7.heap.size := by have := hb7.size; simpa [World.setCell] using this
  have YY7 : Below w.heap.size w w6 := X6
  have X7 : Below w.heap.size w w7 := YY7.trans (hb7.mono YY7.size)
  clear YY7
  have b7_0 : Hid (w7.heap[w.heap.size]? = some (.cells #[.slice none 0 0, .slice none 0 0, .int .i64 0, .bool false] 25 (0, 0))) := Lib.hid ((hb7.block _ (by first | omega | (simp [World.setCell] <;> omega))).trans b6_0.out)
  have b7_1 : Hid (w7.heap[w1.heap.size + 1 + 1]? = some (.cells #[.slice A0 n0 c0, .slice A1 n1 c1, .int .i64 (rdN f1), .bool bo] 25 (0, 0))) := Lib.hid ((hb7.block _ (by first | omega | (simp [World.setCell] <;> omega))).trans b6_1.out)
  have b7_2 : Hid (w7.heap[nb]? = some (.cells #[.int .i64 0, .string (strB y1), .int .i64 0, .int .i64 0, .int .i64 a, .int .i64 b, .int .i64 m, .int .i64 d, .int .i64 l, .int .i64 u, .int .i64 v, .slice A ds.length c] 44 (0, 0))) := Lib.hid ((hb7.block _ (by first | omega | (simp [World.setCell] <;> omega))).trans HLN.out)
  clear b6_0 b6_1 HLN X6 zz6 l6_0 c6_0_0 f6_0_0 c6_0_1 f6_0_1 c6_0_2 f6_0_2 c6_0_3 f6_0_3 l6_1 c6_1_0 f6_1_0 c6_1_1 f6_1_1 c6_1_2 f6_1_2 c6_1_3 f6_1_3 cN6_0 fN6_0 cN6_1 fN6_1 cN6_2 fN6_2 cN6_3 fN6_3 cN6_4 fN6_4 cN6_5 fN6_5 cN6_6 fN6_6 cN6_7 fN6_7 cN6_8 fN6_8 cN6_9 fN6_9 cN6_10 fN6_10 cN6_11 fN6_11 hb7
  have l7_0 : w.heap.size < w7.heap.size := (Array.getElem?_eq_some_iff.1 b7_0.out).1
  have c7_0_0 := celR 0 b7_0.out
  have f7_0_0 := block_free b7_0.out 0
  have c7_0_1 := celR 1 b7_0.out
  have f7_0_1 := block_free b7_0.out 1
  have c7_0_2 := celR 2 b7_0.out
  have f7_0_2 := block_free b7_0.out 2
  have c7_0_3 := celR 3 b7_0.out
  have f7_0_3 := block_free b7_0.out 3
  have l7_1 : w1.heap.size + 1 + 1 < w7.heap.size := (Array.getElem?_eq_some_iff.1 b7_1.out).1
  have c7_1_0 := celR 0 b7_1.out
  have f7_1_0 := block_free b7_1.out 0
  have c7_1_1 := celR 1 b7_1.out
  have f7_1_1 := block_free b7_1.out 1
  have c7_1_2 := celR 2 b7_1.out
  have f7_1_2 := block_free b7_1.out 2
  have c7_1_3 := celR 3 b7_1.out
  have f7_1_3 := block_free b7_1.out 3
  have l7_2 : nb < w7.heap.size := (Array.getElem?_eq_some_iff.1 b7_2.out).1
  have c7_2_0 := celR 0 b7_2.out
  have f7_2_0 := block_free b7_2.out 0
  have c7_2_1 := celR 1 b7_2.out
  have f7_2_1 := block_free b7_2.out 1
  have c7_2_2 := celR 2 b7_2.out
  have f7_2_2 := block_free b7_2.out 2
  have c7_2_3 := celR 3 b7_2.out
  have f7_2_3 := block_free b7_2.out 3
  have c7_2_4 := celR 4 b7_2.out
  have f7_2_4 := block_free b7_2.out 4
  have c7_2_5 := celR 5 b7_2.out
  have f7_2_5 := block_free b7_2.out 5
  have c7_2_6 := celR 6 b7_2.out
  have f7_2_6 := block_free b7_2.out 6
  have c7_2_7 := celR 7 b7_2.out
  have f7_2_7 := block_free b7_2.out 7
  have c7_2_8 := celR 8 b7_2.out
  have f7_2_8 := block_free b7_2.out 8
  have c7_2_9 := celR 9 b7_2.out
  have f7_2_9 := block_free b7_2.out 9
  have c7_2_10 := celR 10 b7_2.out
  have f7_2_10 := block_free b7_2.out 10
  have c7_2_11 := celR 11 b7_2.out
  have f7_2_11 := block_free b7_2.out 11
  have e2 := E2.out
  go_wp2_with fail
  refine (spNumGet_any y2 _ (by omega)).mono ?_
  rw [GotNum_defN, show (((numGet y2).getD 0 : Nat) : Int) = rdN y2 from rfl]
  rintro e w8 ⟨rfl, hb8⟩
  have HB8 : Hid (Below wr.heap.size wr w8) := Lib.hid (Below.trans (Below.setCell (p := ⟨nb, 0, none⟩) HB7.out hnw (.int .i64 (rdN y0))) (hb8.mono (by have := HB7.out.size; simpa [World.setCell] using this)))
  have HPS := Lib.hid (PtrsAt.below (PtrsAt.setCell (p := ⟨nb, 0, none⟩) (v := .int .i64 (rdN y0)) HPS.out hnS) hb8)
  have E3 := Lib.hid ((hb8.cell (by simpa [World.setCell] using lx7)).trans ((World.cell?_of_block (heap_far hnx')).trans E3.out))
  have lx8 : gx < w8.heap.size := Nat.lt_of_lt_of_le lx7 (by have := hb8.size; simpa [World.setCell] using this)
  clear e2
  have zz8 : w7.heap.size ≤ w8.heap.size := by have := hb8.size; simpa [World.setCell] using this
  have YY8 : Below w.heap.size w (World.setCell w7 ⟨nb, 0, none⟩ (.int .i64 (rdN y0))) := (Below.setCell (p := ⟨nb, 0, none⟩) X7 (by have := X7.size; simp <;> omega) _)
  have X8 : Below w.heap.size w w8 := YY8.trans (hb8.mono YY8.size)
  clear YY8
  have b8_0 : Hid (w8.heap[w.heap.size]? = some (.cells #[.slice none 0 0, .slice none 0 0, .int .i64 0, .bool false] 25 (0, 0))) := Lib.hid ((hb8.block _ (by first | omega | (simp [World.setCell] <;> omega))).trans ((heap_far (by first | omega | (simp <;> omega))).trans b7_0.out))
  have b8_1 : Hid (w8.heap[w1.heap.size + 1 + 1]? = some (.cells #[.slice A0 n0 c0, .slice A1 n1 c1, .int .i64 (rdN f1), .bool bo] 25 (0, 0))) := Lib.hid ((hb8.block _ (by first | omega | (simp [World.setCell] <;> omega))).trans ((heap_far (by first | omega | (simp <;> omega))).trans b7_1.out))
  have b8_2 : Hid (w8.heap[nb]? = some (.cells #[.int .i64 (rdN y0), .string (strB y1), .int .i64 0, .int .i64 0, .int .i64 a, .int .i64 b, .int .i64 m, .int .i64 d, .int .i64 l, .int .i64 u, .int .i64 v, .slice A ds.length c] 44 (0, 0))) := Lib.hid ((hb8.block _ (by first | omega | (simp [World.setCell] <;> omega))).trans (block_set b7_2.out))
  clear b7_0 b7_1 b7_2 X7 zz7 l7_0 c7_0_0 f7_0_0 c7_0_1 f7_0_1 c7_0_2 f7_0_2 c7_0_3 f7_0_3 l7_1 c7_1_0 f7_1_0 c7_1_1 f7_1_1 c7_1_2 f7_1_2 c7_1_3 f7_1_3 l7_2 c7_2_0 f7_2_0 c7_2_1 f7_2_1 c7_2_2 f7_2_2 c7_2_3 f7_2_3 c7_2_4 f7_2_4 c7_2_5 f7_2_5 c7_2_6 f7_2_6 c7_2_7 f7_2_7 c7_2_8 f7_2_8 c7_2_9 f7_2_9 c7_2_10 f7_2_10 c7_2_11 f7_2_11 hb8
  have l8_0 : w.heap.size < w8.heap.size := (Array.getElem?_eq_some_iff.1 b8_0.out).1
  have c8_0_0 := celR 0 b8_0.out
  have f8_0_0 := block_free b8_0.out 0
  have c8_0_1 := celR 1 b8_0.out
  have f8_0_1 := block_free b8_0.out 1
  have c8_0_2 := celR 2 b8_0.out
  have f8_0_2 := block_free b8_0.out 2
  have c8_0_3 := celR 3 b8_0.out
  have f8_0_3 := block_free b8_0.out 3
  have l8_1 : w1.heap.size + 1 + 1 < w8.heap.size := (Array.getElem?_eq_some_iff.1 b8_1.out).1
  have c8_1_0 := celR 0 b8_1.out
  have f8_1_0 := block_free b8_1.out 0
  have c8_1_1 := celR 1 b8_1.out
  have f8_1_1 := block_free b8_1.out 1
  have c8_1_2 := celR 2 b8_1.out
  have f8_1_2 := block_free b8_1.out 2
  have c8_1_3 := celR 3 b8_1.out
  have f8_1_3 := block_free b8_1.out 3
  have l8_2 : nb < w8.heap.size := (Array.getElem?_eq_some_iff.1 b8_2.out).1
  have c8_2_0 := celR 0 b8_2.out
  have f8_2_0 := block_free b8_2.out 0
  have c8_2_1 := celR 1 b8_2.out
  have f8_2_1 := block_free b8_2.out 1
  have c8_2_2 := celR 2 b8_2.out
  have f8_2_2 := block_free b8_2.out 2
  have c8_2_3 := celR 3 b8_2.out
  have f8_2_3 := block_free b8_2.out 3
  have c8_2_4 := celR 4 b8_2.out
  have f8_2_4 := block_free b8_2.out 4
  have c8_2_5 := celR 5 b8_2.out
  have f8_2_5 := block_free b8_2.out 5
  have c8_2_6 := celR 6 b8_2.out
  have f8_2_6 := block_free b8_2.out 6
  have c8_2_7 := celR 7 b8_2.out
  have f8_2_7 := block_free b8_2.out 7
  have c8_2_8 := celR 8 b8_2.out
  have f8_2_8 := block_free b8_2.out 8
  have c8_2_9 := celR 9 b8_2.out
  have f8_2_9 := block_free b8_2.out 9
  have c8_2_10 := celR 10 b8_2.out
  have f8_2_10 := block_free b8_2.out 10
  have c8_2_11 := celR 11 b8_2.out
  have f8_2_11 := block_free b8_2.out 11
  have e3 := E3.out
  go_wp2_with fail
  refine (spNumGet_any y3 _ (by omega)).mono ?_
  rw [GotNum_defN, show (((numGet y3).getD 0 : Nat) : Int) = rdN y3 from rfl]
  rintro e w9 ⟨rfl, hb9⟩
  have HB9 : Hid (Below wr.heap.size wr w9) := Lib.hid (Below.trans (Below.setCell (p := ⟨nb, 2, none⟩) HB8.out hnw (.int .i64 (rdN y2))) (hb9.mono (by have := HB8.out.size; simpa [World.setCell] using this)))
  have HPS := Lib.hid (PtrsAt.below (PtrsAt.setCell (p := ⟨nb, 2, none⟩) (v := .int .i64 (rdN y2)) HPS.out hnS) hb9)
  have lx9 : gx < w9.heap.size := Nat.lt_of_lt_of_le lx8 (by have := hb9.size; simpa [World.setCell] using this)
  clear e3
  have zz9 : w8.heap.size ≤ w9.heap.size := by have := hb9.size; simpa [World.setCell] using this
  have YY9 : Below w.heap.size w (World.setCell w8 ⟨nb, 2, none⟩ (.int .i64 (rdN y2))) := (Below.setCell (p := ⟨nb, 2, none⟩) X8 (by have := X8.size; simp <;> omega) _)
  have X9 : Below w.heap.size w w9 := YY9.trans (hb9.mono YY9.size)
  clear YY9
  have b9_0 : Hid (w9.heap[w.heap.size]? = some (.cells #[.slice none 0 0, .slice none 0 0, .int .i64 0, .bool false] 25 (0, 0))) := Lib.hid ((hb9.block _ (by first | omega | (simp [World.setCell] <;> omega))).trans ((heap_far (by first | omega | (simp <;> omega))).trans b8_0.out))
  have b9_1 : Hid (w9.heap[w1.heap.size + 1 + 1]? = some (.cells #[.slice A0 n0 c0, .slice A1 n1 c1, .int .i64 (rdN f1), .bool bo] 25 (0, 0))) := Lib.hid ((hb9.block _ (by first | omega | (simp [World.setCell] <;> omega))).trans ((heap_far (by first | omega | (simp <;> omega))).trans b8_1.out))
  have b9_2 : Hid (w9.heap[nb]? = some (.cells #[.int .i64 (rdN y0), .string (strB y1), .int .i64 (rdN y2), .int .i64 0, .int .i64 a, .int .i64 b, .int .i64 m, .int .i64 d, .int .i64 l, .int .i64 u, .int .i64 v, .slice A ds.length c] 44 (0, 0))) := Lib.hid ((hb9.block _ (by first | omega | (simp [World.setCell] <;> omega))).trans (block_set b8_2.out))
  clear b8_0 b8_1 b8_2 X8 zz8 l8_0 c8_0_0 f8_0_0 c8_0_1 f8_0_1 c8_0_2 f8_0_2 c8_0_3 f8_0_3 l8_1 c8_1_0 f8_1_0 c8_1_1 f8_1_1 c8_1_2 f8_1_2 c8_1_3 f8_1_3 l8_2 c8_2_0 f8_2_0 c8_2_1 f8_2_1 c8_2_2 f8_2_2 c8_2_3 f8_2_3 c8_2_4 f8_2_4 c8_2_5 f8_2_5 c8_2_6 f8_2_6 c8_2_7 f8_2_7 c8_2_8 f8_2_8 c8_2_9 f8_2_9 c8_2_10 f8_2_10 c8_2_11 f8_2_11 hb9
  have l9_0 : w.heap.size < w9.heap.size := (Array.getElem?_eq_some_iff.1 b9_0.out).1
  have c9_0_0 := celR 0 b9_0.out
  have f9_0_0 := block_free b9_0.out 0
  have c9_0_1 := celR 1 b9_0.out
  have f9_0_1 := block_free b9_0.out 1
  have c9_0_2 := celR 2 b9_0.out
  have f9_0_2 := block_free b9_0.out 2
  have c9_0_3 := celR 3 b9_0.out
  have f9_0_3 := block_free b9_0.out 3
  have l9_1 : w1.heap.size + 1 + 1 < w9.heap.size := (Array.getElem?_eq_some_iff.1 b9_1.out).1
  have c9_1_0 := celR 0 b9_1.out
  have f9_1_0 := block_free b9_1.out 0
  have c9_1_1 := celR 1 b9_1.out
  have f9_1_1 := block_free b9_1.out 1
  have c9_1_2 := celR 2 b9_1.out
  have f9_1_2 := block_free b9_1.out 2
  have c9_1_3 := celR 3 b9_1.out
  have f9_1_3 := block_free b9_1.out 3
  have l9_2 : nb < w9.heap.size := (Array.getElem?_eq_some_iff.1 b9_2.out).1
  have c9_2_0 := celR 0 b9_2.out
  have f9_2_0 := block_free b9_2.out 0
  have c9_2_1 := celR 1 b9_2.out
  have f9_2_1 := block_free b9_2.out 1
  have c9_2_2 := celR 2 b9_2.out
  have f9_2_2 := block_free b9_2.out 2
  have c9_2_3 := celR 3 b9_2.out
  have f9_2_3 := block_free b9_2.out 3
  have c9_2_4 := celR 4 b9_2.out
  have f9_2_4 := block_free b9_2.out 4
  have c9_2_5 := celR 5 b9_2.out
  have f9_2_5 := block_free b9_2.out 5
  have c9_2_6 := celR 6 b9_2.out
  have f9_2_6 := block_free b9_2.out 6
  have c9_2_7 := celR 7 b9_2.out
  have f9_2_7 := block_free b9_2.out 7
  have c9_2_8 := celR 8 b9_2.out
  have f9_2_8 := block_free b9_2.out 8
  have c9_2_9 := celR 9 b9_2.out
  have f9_2_9 := block_free b9_2.out 9
  have c9_2_10 := celR 10 b9_2.out
  have f9_2_10 := block_free b9_2.out 10
  have c9_2_11 := celR 11 b9_2.out
  have f9_2_11 := block_free b9_2.out 11
  obtain ⟨wB, hwB⟩ : ∃ x, x = (World.setCell w9 ⟨nb, 3, none⟩ (.int .i64 (rdN y3))) := ⟨_, rfl⟩
  have HWB := Lib.hid hwB
  have HBB : Hid (Below wr.heap.size wr wB) := Lib.hid (by rw [hwB]; exact Below.setCell (p := ⟨nb, 3, none⟩) HB9.out hnw (.int .i64 (rdN y3)))
  have HPB : Hid (PtrsAt wr.heap.size A c S_ ds wB) := Lib.hid (by rw [hwB]; exact PtrsAt.setCell (p := ⟨nb, 3, none⟩) HPS.out hnS)
  have H6B : Hid (wB.heap[w1.heap.size + 1 + 1]? = some (.cells #[.slice A0 n0 c0, .slice A1 n1 c1, .int .i64 (rdN f1), .bool bo] 25 (0, 0))) := Lib.hid (by rw [hwB]; exact ((heap_far (by first | omega | (simp <;> omega))).trans b9_1.out))
  have hzB : wr.heap.size ≤ wB.heap.size := HBB.out.size
  have HSZ : Hid (wB.heap.size = w9.heap.size) := Lib.hid (by rw [hwB]; simp [World.setCell])
  clear hwB
  have hbW : Below wr.heap.size wr (World.alloc wB (.cells #[.int .i64 (rdN y0), .string (strB y1), .int .i64 (rdN y2), .int .i64 (rdN y3), .int .i64 a, .int .i64 b, .int .i64 m, .int .i64 d, .int .i64 l, .int .i64 u, .int .i64 v, .slice A ds.length c] 44)) := Below.alloc HBB.out HBB.out.size _
  obtain ⟨SL, vs, hOW, hSB, hnx2⟩ := MetaAt.snap (x := (rdN y0, strB y1, rdN y2, rdN y3, ((a, b, m, d, l), u, v), ds)) HMA.out hsz hbW (HPB.out.below (bel1 (o := .cells #[.int .i64 (rdN y0), .string (strB y1), .int .i64 (rdN y2), .int .i64 (rdN y3), .int .i64 a, .int .i64 b, .int .i64 m, .int .i64 d, .int .i64 l, .int .i64 u, .int .i64 v, .slice A ds.length c] 44))) ⟨by rw [strB_size]; omega, HLD.out⟩
  have HNX := Lib.hid hnx2; have HSB := Lib.hid hSB
  have HOW : Hid (OwnA (World.alloc wB (.cells #[.int .i64 (rdN y0), .string (strB y1), .int .i64 (rdN y2), .int .i64 (rdN y3), .int .i64 a, .int .i64 b, .int .i64 m, .int .i64 d, .int .i64 l, .int .i64 u, .int .i64 v, .slice A ds.length c] 44)) 44 12 SL A1 n1 c1 vs) := Lib.hid (by rw [HNN.out.2]; exact hOW)
  have HLT : Hid (RowAt (World.alloc wB (.cells #[.int .i64 (rdN y0), .string (strB y1), .int .i64 (rdN y2), .int .i64 (rdN y3), .int .i64 a, .int .i64 b, .int .i64 m, .int .i64 d, .int .i64 l, .int .i64 u, .int .i64 v, .slice A ds.length c] 44)) (some ⟨w9.heap.size, 0, none⟩) (1 * 12) [.int .i64 (rdN y0), .string (strB y1), .int .i64 (rdN y2), .int .i64 (rdN y3), .int .i64 a, .int .i64 b, .int .i64 m, .int .i64 d, .int .i64 l, .int .i64 u, .int .i64 v, .slice A ds.length c]) := Lib.hid (by have := RowAt.lit (w := wB) (e := 44) (cur := #[.int .i64 (rdN y0), .string (strB y1), .int .i64 (rdN y2), .int .i64 (rdN y3), .int .i64 a, .int .i64 b, .int .i64 m, .int .i64 d, .int .i64 l, .int .i64 u, .int .i64 v, .slice A ds.length c]) (m := 12) rfl; rw [HSZ.out] at this; simpa using this)
  have HON : Hid (∀ q_ ∈ ([.int .i64 (rdN y0), .string (strB y1), .int .i64 (rdN y2), .int .i64 (rdN y3), .int .i64 a, .int .i64 b, .int .i64 m, .int .i64 d, .int .i64 l, .int .i64 u, .int .i64 v, .slice A ds.length c] : List Value), q_.oneCell' = true) := Lib.hid (snapV_one (rdN y0, strB y1, rdN y2, rdN y3, ((a, b, m, d, l), u, v), ds) A c)
  have HBW := Lib.hid hbW
  clear hOW hSB hnx2 hbW
  rw [HWB.out] at HOW HLT
  go_wp2_with (at_builtin; go_must (refine wpList_append_row rfl _ _ 23 rfl 44 is (.agg #[.int .i64 0, .string ⟨#[]⟩, .int .i64 0, .int .i64 0, .int .i64 0, .int .i64 0, .int .i64 0, .int .i64 0, .int .i64 0, .int .i64 0, .int .i64 0, .slice none 0 0]) 12 120 Tryz.underlying23 his izs ihs ibs rfl (by decide) SL A1 _ n1 c1 1 1 vs [.int .i64 (rdN y0), .string (strB y1), .int .i64 (rdN y2), .int .i64 (rdN y3), .int .i64 a, .int .i64 b, .int .i64 m, .int .i64 d, .int .i64 l, .int .i64 u, .int .i64 v, .slice A ds.length c] rfl rfl HOW.out HLT.out HON.out (by unfold maxLen; omega) (by omega) ?_))
  rw [← HWB.out]
  intro A' c' S' wC hO' hS' hC'
  have hzC : wB.heap.size + 1 ≤ wC.heap.size := by have := hC'.size; simp at this; omega
  have H6C := Lib.hid ((hC'.block _ (by simp; omega) (fun h => by have := HSB.out _ h; omega)).trans ((Below.heap_alloc _ _ _ (by omega)).trans H6B.out))
  have HMAC := Lib.hid (HNX.out wC A' c' S' (by rw [← HNN.out.2]; exact hO') hC' (fun g hg => (hS' g hg).elim (HSB.out g) (fun h => by have h_ := h; (try simp at h_); omega)))
  have HCC : Hid (Chg (fun x => x = w1.heap.size + 1 + 1) w3 wC) := Lib.hid (ChgN.app HC.out HBW.out hC' HSB.out)
  clear hO' hS' hC' HOW HLT HON HNX
  have lC6 := (Array.getElem?_eq_some_iff.1 H6C.out).1
  have cc_ := celR 1 H6C.out; have cf_ := block_free H6C.out 1
  go_wp2_with fail
  go_roundw
  case rel => exact ⟨ix + 1, n0, c0, n1 + 1, c', S ++ [(rdN y0, strB y1, rdN y2, rdN y3, ((a, b, m, d, l), u, v), ds)], H, A0, A', by omega, by omega, by go_num, by omega, by omega, Lib.hid ⟨HNN.out.1, by rw [List.length_append, HNN.out.2]; rfl⟩, Lib.hid (by have h_ := Mid.snap HMID.out HR.out (f3 := f3) rfl HTT.out (by rw [← HMY.out]; have h9 := HJM.out; omega) ((snap_read HRX.out rfl (fun _ => ⟨rfl, rfl, rfl⟩) HTR.out HDD.out).yes); rw [show ix + 1 - 4 = ix - 4 + 1 by omega]; simpa using h_), Lib.hid (HMAC.out.setCell hw36), Lib.hid (block_set H6C.out), Lib.hid (HCC.out.setCell (.inl rfl) _)⟩
  simp [RowKit.intOf]; omega
 have HJM := Lib.hid hjm
 have dj : decide ((ix : Int) < 4 + many) = false := by simpa using hjm
 have dj2 : decide (4 + many ≤ (ix : Int)) = true := by simp; omega
 by_cases h8 : xl.length = 7
 case neg =>
  have d8 : ((xl.length : Int) == 7) = false := by simp; omega
  have d9 : ¬ (xl.length : Int) = 7 := by omega
  have HNO : Hid (∀ m, metaF m ≠ (s, true)) := Lib.hid (Mid.bad_head HR.out (f3 := f3) rfl HTT.out (by rw [← HMY.out]; omega) (head_len _ _ HRX.out h8))
  have HRR : Hid ((w5).heap[w.heap.size]? = some (.cells #[.slice none 0 0, .slice none 0 0, .int .i64 0, .bool false] 25 (0, 0))) := Lib.hid (R5.out)
  have HBL : Hid (Below w.heap.size w w5) := Lib.hid X5
  go_wp2_with fail
  have hst := setM_4 (x0 := .slice none 0 0) (x1 := .slice none 0 0) (x2 := .int .i64 0) (x3 := .bool false) HRR.out
  have r0 := celR 0 hst
  have r1 := celR 1 hst
  have r2 := celR 2 hst
  have r3 := celR 3 hst
  clear hst
  exact bodyPost_ret (v := .tuple #[.agg #[.slice none 0 0, .slice none 0 0, .int .i64 0, .bool false], .bool false]) (by simp [results, Tryz.results4, go_sem, r0, r1, r2, r3]) rfl (GotMeta.zero HNO.out (Below.setCell (p := ⟨w.heap.size, 3, none⟩) (Below.setCell (p := ⟨w.heap.size, 2, none⟩) (Below.setCell (p := ⟨w.heap.size, 1, none⟩) (Below.setCell (p := ⟨w.heap.size, 0, none⟩) HBL.out (Nat.le_refl _) _) (Nat.le_refl _) _) (Nat.le_refl _) _) (Nat.le_refl _) _))
 obtain ⟨y0, y1, y2, y3, y4, y5, y6, rfl⟩ := strsM7 h8
 rw [h8]
 have hcpx : 7 ≤ cpx := by have := leM HIX.out; rw [h8] at this; exact this
 have hc1 : ¬ cpx = 2 := by omega
 have cc1 : ((2 : Int) ≤ (5 : Int)) := by omega
 have cc2 : ((5 : Int) ≤ (cpx : Int)) := by omega
 obtain ⟨gx, rfl, hgxB, lx5, e0⟩ := cellM HIX.out (j := 0) rfl
 obtain ⟨g1, e1', _, _, e1⟩ := cellM HIX.out (j := 1) rfl
 injection e1' with e1'; injection e1' with e1'; subst e1'
 obtain ⟨g2, e2', _, _, e2⟩ := cellM HIX.out (j := 2) rfl
 injection e2' with e2'; injection e2' with e2'; subst e2'
 obtain ⟨g3, e3', _, _, e3⟩ := cellM HIX.out (j := 3) rfl
 injection e3' with e3'; injection e3' with e3'; subst e3'
 obtain ⟨g4, e4', _, _, e4⟩ := cellM HIX.out (j := 4) rfl
 injection e4' with e4'; injection e4' with e4'; subst e4'
 obtain ⟨g5, e5', _, _, e5⟩ := cellM HIX.out (j := 5) rfl
 injection e5' with e5'; injection e5' with e5'; subst e5'
 obtain ⟨g6, e6', _, _, e6⟩ := cellM HIX.out (j := 6) rfl
 injection e6' with e6'; injection e6' with e6'; subst e6'
 have hl0_ := recM_le HRX.out (f := y0) (by simp)
 have E0 := Lib.hid e0
 have hl1_ := recM_le HRX.out (f := y1) (by simp)
 have E1 := Lib.hid e1
 have hl2_ := recM_le HRX.out (f := y2) (by simp)
 have E2 := Lib.hid e2
 have hl3_ := recM_le HRX.out (f := y3) (by simp)
 have E3 := Lib.hid e3
 have hl4_ := recM_le HRX.out (f := y4) (by simp)
 have E4 := Lib.hid e4
 have hl5_ := recM_le HRX.out (f := y5) (by simp)
 have E5 := Lib.hid e5
 have hl6_ := recM_le HRX.out (f := y6) (by simp)
 have E6 := Lib.hid e6
 clear h8 HIX e0 e1 e2 e3 e4 e5 e6
 have hxr : w.heap.size ≠ gx := by omega
 have hx6 : w1.heap.size + 1 + 1 ≠ gx := by omega
 go_wp2_with fail
 apply wp_region_rgz (Own (w5.heap.size)) (Ext) (fun y w' k' => 1000 ≤ k' → ∃ (nb : Nat) (a b m d l u v : Int) (o : Bool) (A : Option Addr) (c : Nat) (S_ : List Nat) (ds : List PtrD), y 13 = .pointer (some ⟨nb, 0, none⟩) ∧ w5.heap.size ≤ nb ∧ w'.heap[nb]? = some (.cells #[.string (strB y0), .int .i64 0, .int .i64 a, .int .i64 b, .int .i64 m, .int .i64 d, .int .i64 l, .int .i64 u, .int .i64 v, .slice A ds.length c, .int .i64 0] 46 (0, 0)) ∧ TreeRd y2 y3 y4 ((a, b, m, d, l), u, v) o ∧ PtrsAt (w5.heap.size) A c S_ ds w' ∧ DeadRd y5 ds true ∧ ds.length ≤ 100001) (0 :: 0 :: 0 :: 0 :: 0 :: 0 :: 0 :: 0 :: 0 :: 0 :: 0 :: 0 :: 1000 :: []) (1000 :: 1000 :: 1000 :: 1000 :: 1000 :: 1000 :: 1000 :: 1000 :: 1000 :: 1000 :: 1000 :: 1000 :: 1000 :: []) (by kernel_rfl) (false :: false :: false :: false :: false :: false :: false :: false :: false :: false :: false :: false :: false :: true :: false :: false :: false :: false :: false :: false :: false :: false :: false :: false :: false :: false :: false :: false :: false :: false :: false :: false :: false :: false :: false :: false :: false :: false :: false :: false :: false :: false :: false :: false :: false :: false :: false :: false :: false :: false :: false :: false :: false :: false :: false :: false :: false :: false :: false :: false :: false :: false :: false :: false :: false :: false :: false :: false :: false :: false :: false :: false :: false :: false :: false :: false :: false :: false :: false :: false :: false :: false :: false :: false :: false :: false :: false :: false :: false :: false :: false :: false :: false :: false :: false :: false :: false :: false :: false :: false :: false :: false :: false :: false :: false :: false :: false :: false :: false :: false :: false :: false :: false :: false :: false :: false :: false :: false :: false :: false :: false :: false :: false :: false :: false :: false :: false :: true :: true :: true :: true :: true :: true :: true :: true :: true :: true :: true :: false :: false :: false :: false :: false :: false :: false :: false :: false :: false :: false :: false :: false :: false :: false :: false :: false :: false :: false :: false :: false :: false :: false :: false :: false :: false :: false :: false :: false :: false :: false :: false :: false :: false :: false :: false :: []) (some 127 :: some 128 :: some 129 :: some 130 :: some 131 :: some 132 :: some 133 :: some 134 :: some 135 :: some 136 :: some 137 :: some 13 :: none :: []) ([] :: [0] :: [1] :: [] :: [3] :: [4] :: [] :: [6] :: [7] :: [8] :: [2, 5, 9] :: [] :: [10, 11] :: []) (false :: false :: false :: false :: false :: false :: false :: false :: false :: false :: false :: false :: true :: []) (true :: true :: true :: true :: true :: true :: true :: true :: true :: false :: false :: false :: true :: []) [] (MStP.is _ :: MStP.is _ :: MStP.is _ :: MStP.is _ :: MStP.is _ :: softTr (w5.heap.size) y2 y3 y4 :: MStP.is _ :: MStP.is _ :: MStP.is _ :: softLs (w5.heap.size) y5 :: softHead (w5.heap.size) y0 y2 y3 y4 y5 :: softBx (w5.heap.size) 46 #[.string ⟨#[]⟩, .int .i64 0, .int .i64 0, .int .i64 0, .int .i64 0, .int .i64 0, .int .i64 0, .int .i64 0, .int .i64 0, .slice none 0 0, .int .i64 0] :: MStP.is _ :: []) (by kernel_rfl) (by kernel_rfl) (by kernel_rfl) (by kernel_rfl)
 case hobs =>
  refine ⟨fun y w' k hS hj hk hF K hK => ?_, ?_⟩
  · skip
    simp only [fillL, cond_true, cond_false, zG0, zG1, StP.is, Act.put, zS2, zS0, zS1, Nat.reduceAdd, MStP.is, Option.isSome_some, Option.isSome_none] at hK ⊢
    simp only [List.sum_cons, List.sum_nil, zG0, zG1, Nat.reduceAdd, Nat.add_zero] at hk
    refine rg_yes (by kernel_rfl) ?_
    have hSb : Below w5.heap.size w5 w' := hS (Nat.le_refl _)
    have hsz_ := hSb.size
    clear hF
    go_simp
    exact hK _ _ (Ext.refl _) (fun h => absurd h (by omega)) rfl
  refine ⟨fun y w' k hS hj hk hF K hK => ?_, ?_⟩
  · skip
    have e127 : y 127 = _ := hF.1
    have e127' := Lib.hid e127
    simp only [fillL, cond_true, cond_false, zG0, zG1, StP.is, Act.put, zS2, zS0, zS1, Nat.reduceAdd, e127, MStP.is, Option.isSome_some, Option.isSome_none] at hK ⊢
    simp only [List.sum_cons, List.sum_nil, zG0, zG1, Nat.reduceAdd, Nat.add_zero] at hk
    refine rg_yes (by kernel_rfl) ?_
    have hSb : Below w5.heap.size w5 w' := hS (Nat.le_refl _)
    have hsz_ := hSb.size
    clear e127
    clear hF
    go_simp
    exact hK _ _ (Ext.refl _) (fun h => absurd h (by omega)) rfl
  refine ⟨fun y w' k hS hj hk hF K hK => ?_, ?_⟩
  · skip
    have e128 : y 128 = _ := hF.1
    have e128' := Lib.hid e128
    simp only [fillL, cond_true, cond_false, zG0, zG1, StP.is, Act.put, zS2, zS0, zS1, Nat.reduceAdd, e128, MStP.is, Option.isSome_some, Option.isSome_none] at hK ⊢
    simp only [List.sum_cons, List.sum_nil, zG0, zG1, Nat.reduceAdd, Nat.add_zero] at hk
    refine rg_yes (by kernel_rfl) ?_
    have hSb : Below w5.heap.size w5 w' := hS (Nat.le_refl _)
    have hsz_ := hSb.size
    clear e128
    clear hF
    have q0_ := (hSb.cell lx5).trans E0.out
    have q1_ := (hSb.cell lx5).trans E1.out
    have q2_ := (hSb.cell lx5).trans E2.out
    have q3_ := (hSb.cell lx5).trans E3.out
    have q4_ := (hSb.cell lx5).trans E4.out
    have q5_ := (hSb.cell lx5).trans E5.out
    have q6_ := (hSb.cell lx5).trans E6.out
    go_simp
    exact hK _ _ (Ext.refl _) (fun h => absurd h (by omega)) rfl
  refine ⟨fun y w' k hS hj hk hF K hK => ?_, ?_⟩
  · skip
    simp only [fillL, cond_true, cond_false, zG0, zG1, StP.is, Act.put, zS2, zS0, zS1, Nat.reduceAdd, MStP.is, Option.isSome_some, Option.isSome_none] at hK ⊢
    simp only [List.sum_cons, List.sum_nil, zG0, zG1, Nat.reduceAdd, Nat.add_zero] at hk
    refine rg_yes (by kernel_rfl) ?_
    have hSb : Below w5.heap.size w5 w' := hS (Nat.le_refl _)
    have hsz_ := hSb.size
    clear hF
    go_simp
    exact hK _ _ (Ext.refl _) (fun h => absurd h (by omega)) rfl
  refine ⟨fun y w' k hS hj hk hF K hK => ?_, ?_⟩
  · skip
    have e130 : y 130 = _ := hF.1
    have e130' := Lib.hid e130
    simp only [fillL, cond_true, cond_false, zG0, zG1, StP.is, Act.put, zS2, zS0, zS1, Nat.reduceAdd, e130, MStP.is, Option.isSome_some, Option.isSome_none] at hK ⊢
    simp only [List.sum_cons, List.sum_nil, zG0, zG1, Nat.reduceAdd, Nat.add_zero] at hk
    refine rg_yes (by kernel_rfl) ?_
    have hSb : Below w5.heap.size w5 w' := hS (Nat.le_refl _)
    have hsz_ := hSb.size
    clear e130
    clear hF
    go_simp
    exact hK _ _ (Ext.refl _) (fun h => absurd h (by omega)) rfl
  refine ⟨fun y w' k hS hj hk hF K hK => ?_, ?_⟩
  · skip
    have e131 : y 131 = _ := hF.1
    have e131' := Lib.hid e131
    simp only [fillL, cond_true, cond_false, zG0, zG1, StP.is, Act.put, zS2, zS0, zS1, Nat.reduceAdd, e131, MStP.is, Option.isSome_some, Option.isSome_none] at hK ⊢
    simp only [List.sum_cons, List.sum_nil, zG0, zG1, Nat.reduceAdd, Nat.add_zero] at hk
    refine rg_yes (by kernel_rfl) ?_
    have hSb : Below w5.heap.size w5 w' := hS (Nat.le_refl _)
    have hsz_ := hSb.size
    clear e131
    clear hF
    have q0_ := (hSb.cell lx5).trans E0.out
    have q1_ := (hSb.cell lx5).trans E1.out
    have q2_ := (hSb.cell lx5).trans E2.out
    have q3_ := (hSb.cell lx5).trans E3.out
    have q4_ := (hSb.cell lx5).trans E4.out
    have q5_ := (hSb.cell lx5).trans E5.out
    have q6_ := (hSb.cell lx5).trans E6.out
    go_simp
    go_at_call 11
    refine (l21Back_any gx 2 _ y2 y3 y4 _ q2_ q3_ q4_ (by omega) (by omega) (by omega)).mono ?_
    rintro e w'' ⟨a, b, m, d, l, ok, hp, rfl, hb⟩
    exact hK _ _ hb (fun h => absurd h (by omega)) ⟨a, b, m, d, l, _, _, _, rfl, ok, hp, rfl, rfl, rfl⟩
  refine ⟨fun y w' k hS hj hk hF K hK => ?_, ?_⟩
  · skip
    simp only [fillL, cond_true, cond_false, zG0, zG1, StP.is, Act.put, zS2, zS0, zS1, Nat.reduceAdd, MStP.is, Option.isSome_some, Option.isSome_none] at hK ⊢
    simp only [List.sum_cons, List.sum_nil, zG0, zG1, Nat.reduceAdd, Nat.add_zero] at hk
    refine rg_yes (by kernel_rfl) ?_
    have hSb : Below w5.heap.size w5 w' := hS (Nat.le_refl _)
    have hsz_ := hSb.size
    clear hF
    go_simp
    exact hK _ _ (Ext.refl _) (fun h => absurd h (by omega)) rfl
  refine ⟨fun y w' k hS hj hk hF K hK => ?_, ?_⟩
  · skip
    have e133 : y 133 = _ := hF.1
    have e133' := Lib.hid e133
    simp only [fillL, cond_true, cond_false, zG0, zG1, StP.is, Act.put, zS2, zS0, zS1, Nat.reduceAdd, e133, MStP.is, Option.isSome_some, Option.isSome_none] at hK ⊢
    simp only [List.sum_cons, List.sum_nil, zG0, zG1, Nat.reduceAdd, Nat.add_zero] at hk
    refine rg_yes (by kernel_rfl) ?_
    have hSb : Below w5.heap.size w5 w' := hS (Nat.le_refl _)
    have hsz_ := hSb.size
    clear e133
    clear hF
    go_simp
    exact hK _ _ (Ext.refl _) (fun h => absurd h (by omega)) rfl
  refine ⟨fun y w' k hS hj hk hF K hK => ?_, ?_⟩
  · skip
    have e134 : y 134 = _ := hF.1
    have e134' := Lib.hid e134
    simp only [fillL, cond_true, cond_false, zG0, zG1, StP.is, Act.put, zS2, zS0, zS1, Nat.reduceAdd, e134, MStP.is, Option.isSome_some, Option.isSome_none] at hK ⊢
    simp only [List.sum_cons, List.sum_nil, zG0, zG1, Nat.reduceAdd, Nat.add_zero] at hk
    refine rg_yes (by kernel_rfl) ?_
    have hSb : Below w5.heap.size w5 w' := hS (Nat.le_refl _)
    have hsz_ := hSb.size
    clear e134
    clear hF
    have q0_ := (hSb.cell lx5).trans E0.out
    have q1_ := (hSb.cell lx5).trans E1.out
    have q2_ := (hSb.cell lx5).trans E2.out
    have q3_ := (hSb.cell lx5).trans E3.out
    have q4_ := (hSb.cell lx5).trans E4.out
    have q5_ := (hSb.cell lx5).trans E5.out
    have q6_ := (hSb.cell lx5).trans E6.out
    go_simp
    exact hK _ _ (Ext.refl _) (fun h => absurd h (by omega)) rfl
  refine ⟨fun y w' k hS hj hk hF K hK => ?_, ?_⟩
  · skip
    have e135 : y 135 = _ := hF.1
    have e135' := Lib.hid e135
    simp only [fillL, cond_true, cond_false, zG0, zG1, StP.is, Act.put, zS2, zS0, zS1, Nat.reduceAdd, e135, MStP.is, Option.isSome_some, Option.isSome_none] at hK ⊢
    simp only [List.sum_cons, List.sum_nil, zG0, zG1, Nat.reduceAdd, Nat.add_zero] at hk
    refine rg_yes (by kernel_rfl) ?_
    have hSb : Below w5.heap.size w5 w' := hS (Nat.le_refl _)
    have hsz_ := hSb.size
    clear e135
    clear hF
    go_simp
    go_at_call 12
    refine (l21List_any y5 w' (by omega)).mono ?_
    rintro e w'' ⟨A, n_, c, S_, ds, rfl, rfl, hP_, hD_, hL_, hb⟩
    exact hK _ _ hb (fun h => absurd h (by omega)) ⟨A, c, S_, ds, rfl, hP_.mono hsz_, hD_, hL_⟩
  refine ⟨fun y w' k hS hj hk hF K hK => ?_, ?_⟩
  · skip
    have e129 : y 129 = _ := hF.1
    obtain ⟨a, b, m, d, l, u, v, o, e132, hTR⟩ := hF.2.1
    obtain ⟨A, c, S_, ds, e136, hPd, hDd, hLd⟩ := hF.2.2.1
    have e129' := Lib.hid e129
    have e132' := Lib.hid e132
    have e136' := Lib.hid e136
    simp only [fillL, cond_true, cond_false, zG0, zG1, StP.is, Act.put, zS2, zS0, zS1, Nat.reduceAdd, e129, e132, e136, MStP.is, Option.isSome_some, Option.isSome_none] at hK ⊢
    simp only [List.sum_cons, List.sum_nil, zG0, zG1, Nat.reduceAdd, Nat.add_zero] at hk
    refine rg_yes (by kernel_rfl) ?_
    have hSb : Below w5.heap.size w5 w' := hS (Nat.le_refl _)
    have hsz_ := hSb.size
    clear e129 e132 e136
    clear hF
    go_simp
    exact hK _ _ (Ext.refl _) (fun h => absurd h (by omega)) ⟨a, b, m, d, l, u, v, o, A, c, S_, ds, rfl, hTR, hPd, hDd, hLd⟩
  refine ⟨fun y w' k hS hj hk hF K hK => ?_, ?_⟩
  · skip
    simp only [fillL, cond_true, cond_false, zG0, zG1, StP.is, Act.put, zS2, zS0, zS1, Nat.reduceAdd, MStP.is, Option.isSome_some, Option.isSome_none] at hK ⊢
    simp only [List.sum_cons, List.sum_nil, zG0, zG1, Nat.reduceAdd, Nat.add_zero] at hk
    refine rg_yes (by kernel_rfl) ?_
    have hSb : Below w5.heap.size w5 w' := hS (Nat.le_refl _)
    have hsz_ := hSb.size
    clear hF
    go_simp
    exact hK _ _ (Ext.alloc _ _) (fun h => absurd h (by omega)) ⟨_, by omega, rfl, heap_alloc_new _ _⟩
  refine ⟨fun y w' k hS hj hk hF K hK => ?_, ?_⟩
  · skip
    obtain ⟨a, b, m, d, l, u, v, o, A, c, S_, ds, e137, hTR, hPd, hDd, hLd⟩ := hF.1
    obtain ⟨nb, hBn, e13, hln⟩ := hF.2.1
    have e137' := Lib.hid e137
    have e13' := Lib.hid e13
    simp only [fillL, cond_true, cond_false, zG0, zG1, StP.is, Act.put, zS2, zS0, zS1, Nat.reduceAdd, e137, e13, MStP.is, Option.isSome_some, Option.isSome_none] at hK ⊢
    simp only [List.sum_cons, List.sum_nil, zG0, zG1, Nat.reduceAdd, Nat.add_zero] at hk
    refine rg_yes (by kernel_rfl) ?_
    have hSb : Below w5.heap.size w5 w' := hS (Nat.le_refl _)
    have hsz_ := hSb.size
    clear e137 e13
    clear hF
    have hnS : nb ∉ S_ := fun h => by
     obtain ⟨cur, hcur⟩ := hPd.1.typ h
     exact typ_ne hcur hln (by decide)
    have fz := fun o => block_free hln o
    have fz0 := fz 0; have fz1 := fz 1; have fz2 := fz 2; have fz3 := fz 3; have fz4 := fz 4; have fz5 := fz 5; have fz6 := fz 6; have fz7 := fz 7; have fz8 := fz 8; have fz9 := fz 9; have fz10 := fz 10
    have cz0 := celR 0 hln
    have cz1 := celR 1 hln
    have cz2 := celR 2 hln
    have cz3 := celR 3 hln
    have cz4 := celR 4 hln
    have cz5 := celR 5 hln
    have cz6 := celR 6 hln
    have cz7 := celR 7 hln
    have cz8 := celR 8 hln
    have cz9 := celR 9 hln
    have cz10 := celR 10 hln
    clear fz
    have HE3 := e13'; clear e13'
    have HSET := Lib.hid (setM_11 (x0 := .string (strB y0)) (x1 := .int .i64 0) (x2 := .int .i64 a) (x3 := .int .i64 b) (x4 := .int .i64 m) (x5 := .int .i64 d) (x6 := .int .i64 l) (x7 := .int .i64 u) (x8 := .int .i64 v) (x9 := .slice A ds.length c) (x10 := .int .i64 0) hln)
    have HL3 := Lib.hid hln; clear hln
    go_simp
    exact hK undef _ (fun hB => (Below.setCell (p := ⟨nb, 10, none⟩) (Below.setCell (p := ⟨nb, 9, none⟩) (Below.setCell (p := ⟨nb, 8, none⟩) (Below.setCell (p := ⟨nb, 7, none⟩) (Below.setCell (p := ⟨nb, 6, none⟩) (Below.setCell (p := ⟨nb, 5, none⟩) (Below.setCell (p := ⟨nb, 4, none⟩) (Below.setCell (p := ⟨nb, 3, none⟩) (Below.setCell (p := ⟨nb, 2, none⟩) (Below.setCell (p := ⟨nb, 1, none⟩) (Below.setCell (p := ⟨nb, 0, none⟩) (Below.refl _ _) hBn _) hBn _) hBn _) hBn _) hBn _) hBn _) hBn _) hBn _) hBn _) hBn _) hBn _)) (fun _ => ⟨nb, a, b, m, d, l, u, v, o, A, c, S_, ds, HE3.out, hBn, HSET.out, hTR, (PtrsAt.setCell (p := ⟨nb, 10, none⟩) (PtrsAt.setCell (p := ⟨nb, 9, none⟩) (PtrsAt.setCell (p := ⟨nb, 8, none⟩) (PtrsAt.setCell (p := ⟨nb, 7, none⟩) (PtrsAt.setCell (p := ⟨nb, 6, none⟩) (PtrsAt.setCell (p := ⟨nb, 5, none⟩) (PtrsAt.setCell (p := ⟨nb, 4, none⟩) (PtrsAt.setCell (p := ⟨nb, 3, none⟩) (PtrsAt.setCell (p := ⟨nb, 2, none⟩) (PtrsAt.setCell (p := ⟨nb, 1, none⟩) (PtrsAt.setCell (p := ⟨nb, 0, none⟩) hPd hnS) hnS) hnS) hnS) hnS) hnS) hnS) hnS) hnS) hnS) hnS), hDd, hLd⟩) rfl
  trivial
 case hH => rfl
 case hNS => exact Own.of_ext _
 case hSt => exact fun a b => Own.trans a b
 case hb => rfl
 case hdrew => exact Own.drew _ _
 case hj0 => exact fun y h => absurd h (by omega)
 intro y w6 hS hJ _
 obtain ⟨nb, a, b, m, d, l, u, v, o, A, c, S_, ds, e13, hBn, hln, hTR, hPd, hDd, hLd⟩ := hJ (by decide)
 clear hJ
 simp only [fillL, cond_true, cond_false, Nat.reduceAdd, e13]
 clear e13
 have hb6 : Below w5.heap.size w5 w6 := hS (Nat.le_refl _)
 clear hS
 have HTR := Lib.hid hTR; have HDD := Lib.hid hDd; have HPS := Lib.hid (PtrsAt.mono hPd z5); have HLD := Lib.hid hLd
 have HLN := Lib.hid hln
 have hnS : nb ∉ S_ := fun h => by
  obtain ⟨cur, hcur⟩ := hPd.1.typ h
  exact typ_ne hcur hln (by decide)
 have hnl : nb < w6.heap.size := (Array.getElem?_eq_some_iff.1 hln).1
 clear hTR hDd hPd hLd hln
 have hnr : nb ≠ w.heap.size := by omega
 have hn6 : nb ≠ w1.heap.size + 1 + 1 := by omega
 have hnx : nb ≠ gx := by omega
 have hnx' : gx ≠ nb := by omega
 have hnw : wr.heap.size ≤ nb := by omega
 have lx6 := Nat.lt_of_lt_of_le lx5 hb6.size
 have HB6 : Hid (Below wr.heap.size wr w6) := Lib.hid (HB5.out.trans (hb6.mono z5))
 have E1 := Lib.hid ((hb6.cell lx5).trans E1.out)
 have E6 := Lib.hid ((hb6.cell lx5).trans E6.out)
 clear E0 E2 E3 E4 E5
 have zz6 : w5.heap.size ≤ w6.heap.size := by have := hb6.size; simpa [World.setCell] using this
 have YY6 : Below w.heap.size w w5 := X5
 have X6 : Below w.heap.size w w6 := YY6.trans (hb6.mono YY6.size)
 clear YY6
 have b6_0 : Hid (w6.heap[w.heap.size]? = some (.cells #[.slice none 0 0, .slice none 0 0, .int .i64 0, .bool false] 25 (0, 0))) := Lib.hid ((hb6.block _ (by first | omega | (simp [World.setCell] <;> omega))).trans R5.out)
 have b6_1 : Hid (w6.heap[w1.heap.size + 1 + 1]? = some (.cells #[.slice A0 n0 c0, .slice A1 n1 c1, .int .i64 (rdN f1), .bool bo] 25 (0, 0))) := Lib.hid ((hb6.block _ (by first | omega | (simp [World.setCell] <;> omega))).trans H65.out)
 clear R5 H65 X5 zz5 l5 c5_0 f5_0 c5_1 f5_1 c5_2 f5_2 c5_3 f5_3 l65 c65_0 f65_0 c65_1 f65_1 c65_2 f65_2 c65_3 f65_3 hb6
 have l6_0 : w.heap.size < w6.heap.size := (Array.getElem?_eq_some_iff.1 b6_0.out).1
 have c6_0_0 := celR 0 b6_0.out
 have f6_0_0 := block_free b6_0.out 0
 have c6_0_1 := celR 1 b6_0.out
 have f6_0_1 := block_free b6_0.out 1
 have c6_0_2 := celR 2 b6_0.out
 have f6_0_2 := block_free b6_0.out 2
 have c6_0_3 := celR 3 b6_0.out
 have f6_0_3 := block_free b6_0.out 3
 have l6_1 : w1.heap.size + 1 + 1 < w6.heap.size := (Array.getElem?_eq_some_iff.1 b6_1.out).1
 have c6_1_0 := celR 0 b6_1.out
 have f6_1_0 := block_free b6_1.out 0
 have c6_1_1 := celR 1 b6_1.out
 have f6_1_1 := block_free b6_1.out 1
 have c6_1_2 := celR 2 b6_1.out
 have f6_1_2 := block_free b6_1.out 2
 have c6_1_3 := celR 3 b6_1.out
 have f6_1_3 := block_free b6_1.out 3
 have cN6_0 := celR 0 HLN.out
 have fN6_0 := block_free HLN.out 0
 have cN6_1 := celR 1 HLN.out
 have fN6_1 := block_free HLN.out 1
 have cN6_2 := celR 2 HLN.out
 have fN6_2 := block_free HLN.out 2
 have cN6_3 := celR 3 HLN.out
 have fN6_3 := block_free HLN.out 3
 have cN6_4 := celR 4 HLN.out
 have fN6_4 := block_free HLN.out 4
 have cN6_5 := celR 5 HLN.out
 have fN6_5 := block_free HLN.out 5
 have cN6_6 := celR 6 HLN.out
 have fN6_6 := block_free HLN.out 6
 have cN6_7 := celR 7 HLN.out
 have fN6_7 := block_free HLN.out 7
 have cN6_8 := celR 8 HLN.out
 have fN6_8 := block_free HLN.out 8
 have cN6_9 := celR 9 HLN.out
 have fN6_9 := block_free HLN.out 9
 have cN6_10 := celR 10 HLN.out
 have fN6_10 := block_free HLN.out 10
 have e1 := E1.out
 go_wp2_with fail
 refine (spNumGet_any y1 _ (by omega)).mono ?_
 rw [GotNum_defN, show (((numGet y1).getD 0 : Nat) : Int) = rdN y1 from rfl]
 rintro e w7 ⟨rfl, hb7⟩
 have HB7 : Hid (Below wr.heap.size wr w7) := Lib.hid (Below.trans HB6.out (hb7.mono (by have := HB6.out.size; simpa [World.setCell] using this)))
 have HPS := Lib.hid (PtrsAt.below HPS.out hb7)
 have E6 := Lib.hid ((hb7.cell lx6).trans (E6.out))
 have lx7 : gx < w7.heap.size := Nat.lt_of_lt_of_le lx6 (by have := hb7.size; simpa [World.setCell] using this)
 clear e1
 have zz7 : w6.heap.size ≤ w7.heap.size := by have := hb7.size; simpa [World.setCell] using this
 have YY7 : Below w.heap.size w w6 := X6
 have X7 : Below w.heap.size w w7 := YY7.trans (hb7.mono YY7.size)
 clear YY7
 have b7_0 : Hid (w7.heap[w.heap.size]? = some (.cells #[.slice none 0 0, .slice none 0 0, .int .i64 0, .bool false] 25 (0, 0))) := Lib.hid ((hb7.block _ (by first | omega | (simp [World.setCell] <;> omega))).trans b6_0.out)
 have b7_1 : Hid (w7.heap[w1.heap.size + 1 + 1]? = some (.cells #[.slice A0 n0 c0, .slice A1 n1 c1, .int .i64 (rdN f1), .bool bo] 25 (0, 0))) := Lib.hid ((hb7.block _ (by first | omega | (simp [World.setCell] <;> omega))).trans b6_1.out)
 have b7_2 : Hid (w7.heap[nb]? = some (.cells #[.string (strB y0), .int .i64 0, .int .i64 a, .int .i64 b, .int .i64 m, .int .i64 d, .int .i64 l, .int .i64 u, .int .i64 v, .slice A ds.length c, .int .i64 0] 46 (0, 0))) := Lib.hid ((hb7.block _ (by first | omega | (simp [World.setCell] <;> omega))).trans HLN.out)
 clear b6_0 b6_1 HLN X6 zz6 l6_0 c6_0_0 f6_0_0 c6_0_1 f6_0_1 c6_0_2 f6_0_2 c6_0_3 f6_0_3 l6_1 c6_1_0 f6_1_0 c6_1_1 f6_1_1 c6_1_2 f6_1_2 c6_1_3 f6_1_3 cN6_0 fN6_0 cN6_1 fN6_1 cN6_2 fN6_2 cN6_3 fN6_3 cN6_4 fN6_4 cN6_5 fN6_5 cN6_6 fN6_6 cN6_7 fN6_7 cN6_8 fN6_8 cN6_9 fN6_9 cN6_10 fN6_10 hb7
 have l7_0 : w.heap.size < w7.heap.size := (Array.getElem?_eq_some_iff.1 b7_0.out).1
 have c7_0_0 := celR 0 b7_0.out
 have f7_0_0 := block_free b7_0.out 0
 have c7_0_1 := celR 1 b7_0.out
 have f7_0_1 := block_free b7_0.out 1
 have c7_0_2 := celR 2 b7_0.out
 have f7_0_2 := block_free b7_0.out 2
 have c7_0_3 := celR 3 b7_0.out
 have f7_0_3 := block_free b7_0.out 3
 have l7_1 : w1.heap.size + 1 + 1 < w7.heap.size := (Array.getElem?_eq_some_iff.1 b7_1.out).1
 have c7_1_0 := celR 0 b7_1.out
 have f7_1_0 := block_free b7_1.out 0
 have c7_1_1 := celR 1 b7_1.out
 have f7_1_1 := block_free b7_1.out 1
 have c7_1_2 := celR 2 b7_1.out
 have f7_1_2 := block_free b7_1.out 2
 have c7_1_3 := celR 3 b7_1.out
 have f7_1_3 := block_free b7_1.out 3
 have l7_2 : nb < w7.heap.size := (Array.getElem?_eq_some_iff.1 b7_2.out).1
 have c7_2_0 := celR 0 b7_2.out
 have f7_2_0 := block_free b7_2.out 0
 have c7_2_1 := celR 1 b7_2.out
 have f7_2_1 := block_free b7_2.out 1
 have c7_2_2 := celR 2 b7_2.out
 have f7_2_2 := block_free b7_2.out 2
 have c7_2_3 := celR 3 b7_2.out
 have f7_2_3 := block_free b7_2.out 3
 have c7_2_4 := celR 4 b7_2.out
 have f7_2_4 := block_free b7_2.out 4
 have c7_2_5 := celR 5 b7_2.out
 have f7_2_5 := block_free b7_2.out 5
 have c7_2_6 := celR 6 b7_2.out
 have f7_2_6 := block_free b7_2.out 6
 have c7_2_7 := celR 7 b7_2.out
 have f7_2_7 := block_free b7_2.out 7
 have c7_2_8 := celR 8 b7_2.out
 have f7_2_8 := block_free b7_2.out 8
 have c7_2_9 := celR 9 b7_2.out
 have f7_2_9 := block_free b7_2.out 9
 have c7_2_10 := celR 10 b7_2.out
 have f7_2_10 := block_free b7_2.out 10
 have e6 := E6.out
 go_wp2_with fail
 refine (spNumGet_any y6 _ (by omega)).mono ?_
 rw [GotNum_defN, show (((numGet y6).getD 0 : Nat) : Int) = rdN y6 from rfl]
 rintro e w8 ⟨rfl, hb8⟩
 have HB8 : Hid (Below wr.heap.size wr w8) := Lib.hid (Below.trans (Below.setCell (p := ⟨nb, 1, none⟩) HB7.out hnw (.int .i64 (rdN y1))) (hb8.mono (by have := HB7.out.size; simpa [World.setCell] using this)))
 have HPS := Lib.hid (PtrsAt.below (PtrsAt.setCell (p := ⟨nb, 1, none⟩) (v := .int .i64 (rdN y1)) HPS.out hnS) hb8)
 have lx8 : gx < w8.heap.size := Nat.lt_of_lt_of_le lx7 (by have := hb8.size; simpa [World.setCell] using this)
 clear e6
 have zz8 : w7.heap.size ≤ w8.heap.size := by have := hb8.size; simpa [World.setCell] using this
 have YY8 : Below w.heap.size w (World.setCell w7 ⟨nb, 1, none⟩ (.int .i64 (rdN y1))) := (Below.setCell (p := ⟨nb, 1, none⟩) X7 (by have := X7.size; simp <;> omega) _)
 have X8 : Below w.heap.size w w8 := YY8.trans (hb8.mono YY8.size)
 clear YY8
 have b8_0 : Hid (w8.heap[w.heap.size]? = some (.cells #[.slice none 0 0, .slice none 0 0, .int .i64 0, .bool false] 25 (0, 0))) := Lib.hid ((hb8.block _ (by first | omega | (simp [World.setCell] <;> omega))).trans ((heap_far (by first | omega | (simp <;> omega))).trans b7_0.out))
 have b8_1 : Hid (w8.heap[w1.heap.size + 1 + 1]? = some (.cells #[.slice A0 n0 c0, .slice A1 n1 c1, .int .i64 (rdN f1), .bool bo] 25 (0, 0))) := Lib.hid ((hb8.block _ (by first | omega | (simp [World.setCell] <;> omega))).trans ((heap_far (by first | omega | (simp <;> omega))).trans b7_1.out))
 have b8_2 : Hid (w8.heap[nb]? = some (.cells #[.string (strB y0), .int .i64 (rdN y1), .int .i64 a, .int .i64 b, .int .i64 m, .int .i64 d, .int .i64 l, .int .i64 u, .int .i64 v, .slice A ds.length c, .int .i64 0] 46 (0, 0))) := Lib.hid ((hb8.block _ (by first | omega | (simp [World.setCell] <;> omega))).trans (block_set b7_2.out))
 clear b7_0 b7_1 b7_2 X7 zz7 l7_0 c7_0_0 f7_0_0 c7_0_1 f7_0_1 c7_0_2 f7_0_2 c7_0_3 f7_0_3 l7_1 c7_1_0 f7_1_0 c7_1_1 f7_1_1 c7_1_2 f7_1_2 c7_1_3 f7_1_3 l7_2 c7_2_0 f7_2_0 c7_2_1 f7_2_1 c7_2_2 f7_2_2 c7_2_3 f7_2_3 c7_2_4 f7_2_4 c7_2_5 f7_2_5 c7_2_6 f7_2_6 c7_2_7 f7_2_7 c7_2_8 f7_2_8 c7_2_9 f7_2_9 c7_2_10 f7_2_10 hb8
 have l8_0 : w.heap.size < w8.heap.size := (Array.getElem?_eq_some_iff.1 b8_0.out).1
 have c8_0_0 := celR 0 b8_0.out
 have f8_0_0 := block_free b8_0.out 0
 have c8_0_1 := celR 1 b8_0.out
 have f8_0_1 := block_free b8_0.out 1
 have c8_0_2 := celR 2 b8_0.out
 have f8_0_2 := block_free b8_0.out 2
 have c8_0_3 := celR 3 b8_0.out
 have f8_0_3 := block_free b8_0.out 3
 have l8_1 : w1.heap.size + 1 + 1 < w8.heap.size := (Array.getElem?_eq_some_iff.1 b8_1.out).1
 have c8_1_0 := celR 0 b8_1.out
 have f8_1_0 := block_free b8_1.out 0
 have c8_1_1 := celR 1 b8_1.out
 have f8_1_1 := block_free b8_1.out 1
 have c8_1_2 := celR 2 b8_1.out
 have f8_1_2 := block_free b8_1.out 2
 have c8_1_3 := celR 3 b8_1.out
 have f8_1_3 := block_free b8_1.out 3
 have l8_2 : nb < w8.heap.size := (Array.getElem?_eq_some_iff.1 b8_2.out).1
 have c8_2_0 := celR 0 b8_2.out
 have f8_2_0 := block_free b8_2.out 0
 have c8_2_1 := celR 1 b8_2.out
 have f8_2_1 := block_free b8_2.out 1
 have c8_2_2 := celR 2 b8_2.out
 have f8_2_2 := block_free b8_2.out 2
 have c8_2_3 := celR 3 b8_2.out
 have f8_2_3 := block_free b8_2.out 3
 have c8_2_4 := celR 4 b8_2.out
 have f8_2_4 := block_free b8_2.out 4
 have c8_2_5 := celR 5 b8_2.out
 have f8_2_5 := block_free b8_2.out 5
 have c8_2_6 := celR 6 b8_2.out
 have f8_2_6 := block_free b8_2.out 6
 have c8_2_7 := celR 7 b8_2.out
 have f8_2_7 := block_free b8_2.out 7
 have c8_2_8 := celR 8 b8_2.out
 have f8_2_8 := block_free b8_2.out 8
 have c8_2_9 := celR 9 b8_2.out
 have f8_2_9 := block_free b8_2.out 9
 have c8_2_10 := celR 10 b8_2.out
 have f8_2_10 := block_free b8_2.out 10
 obtain ⟨wB, hwB⟩ : ∃ x, x = (World.setCell w8 ⟨nb, 10, none⟩ (.int .i64 (rdN y6))) := ⟨_, rfl⟩
 have HWB := Lib.hid hwB
 have HBB : Hid (Below wr.heap.size wr wB) := Lib.hid (by rw [hwB]; exact Below.setCell (p := ⟨nb, 10, none⟩) HB8.out hnw (.int .i64 (rdN y6)))
 have HPB : Hid (PtrsAt wr.heap.size A c S_ ds wB) := Lib.hid (by rw [hwB]; exact PtrsAt.setCell (p := ⟨nb, 10, none⟩) HPS.out hnS)
 have H6B : Hid (wB.heap[w1.heap.size + 1 + 1]? = some (.cells #[.slice A0 n0 c0, .slice A1 n1 c1, .int .i64 (rdN f1), .bool bo] 25 (0, 0))) := Lib.hid (by rw [hwB]; exact ((heap_far (by first | omega | (simp <;> omega))).trans b8_1.out))
 have hzB : wr.heap.size ≤ wB.heap.size := HBB.out.size
 have HSZ : Hid (wB.heap.size = w8.heap.size) := Lib.hid (by rw [hwB]; simp [World.setCell])
 clear hwB
 have hbW : Below wr.heap.size wr (World.alloc wB (.cells #[.string (strB y0), .int .i64 (rdN y1), .int .i64 a, .int .i64 b, .int .i64 m, .int .i64 d, .int .i64 l, .int .i64 u, .int .i64 v, .slice A ds.length c, .int .i64 (rdN y6)] 46)) := Below.alloc HBB.out HBB.out.size _
 obtain ⟨SL, vs, hOW, hSB, hnx2⟩ := MetaAt.head (x := (strB y0, rdN y1, ((a, b, m, d, l), u, v), ds, rdN y6)) HMA.out hsz hbW (HPB.out.below (bel1 (o := .cells #[.string (strB y0), .int .i64 (rdN y1), .int .i64 a, .int .i64 b, .int .i64 m, .int .i64 d, .int .i64 l, .int .i64 u, .int .i64 v, .slice A ds.length c, .int .i64 (rdN y6)] 46))) ⟨by rw [strB_size]; omega, HLD.out⟩
 have HNX := Lib.hid hnx2; have HSB := Lib.hid hSB
 have HOW : Hid (OwnA (World.alloc wB (.cells #[.string (strB y0), .int .i64 (rdN y1), .int .i64 a, .int .i64 b, .int .i64 m, .int .i64 d, .int .i64 l, .int .i64 u, .int .i64 v, .slice A ds.length c, .int .i64 (rdN y6)] 46)) 46 11 SL A0 n0 c0 vs) := Lib.hid (by rw [HNN.out.1]; exact hOW)
 have HLT : Hid (RowAt (World.alloc wB (.cells #[.string (strB y0), .int .i64 (rdN y1), .int .i64 a, .int .i64 b, .int .i64 m, .int .i64 d, .int .i64 l, .int .i64 u, .int .i64 v, .slice A ds.length c, .int .i64 (rdN y6)] 46)) (some ⟨w8.heap.size, 0, none⟩) (1 * 11) [.string (strB y0), .int .i64 (rdN y1), .int .i64 a, .int .i64 b, .int .i64 m, .int .i64 d, .int .i64 l, .int .i64 u, .int .i64 v, .slice A ds.length c, .int .i64 (rdN y6)]) := Lib.hid (by have := RowAt.lit (w := wB) (e := 46) (cur := #[.string (strB y0), .int .i64 (rdN y1), .int .i64 a, .int .i64 b, .int .i64 m, .int .i64 d, .int .i64 l, .int .i64 u, .int .i64 v, .slice A ds.length c, .int .i64 (rdN y6)]) (m := 11) rfl; rw [HSZ.out] at this; simpa using this)
 have HON : Hid (∀ q_ ∈ ([.string (strB y0), .int .i64 (rdN y1), .int .i64 a, .int .i64 b, .int .i64 m, .int .i64 d, .int .i64 l, .int .i64 u, .int .i64 v, .slice A ds.length c, .int .i64 (rdN y6)] : List Value), q_.oneCell' = true) := Lib.hid (headV_one (strB y0, rdN y1, ((a, b, m, d, l), u, v), ds, rdN y6) A c)
 have HBW := Lib.hid hbW
 clear hOW hSB hnx2 hbW
 rw [HWB.out] at HOW HLT
 go_wp2_with (at_builtin; go_must (refine wpList_append_row rfl _ _ 22 rfl 46 ih (.agg #[.string ⟨#[]⟩, .int .i64 0, .int .i64 0, .int .i64 0, .int .i64 0, .int .i64 0, .int .i64 0, .int .i64 0, .int .i64 0, .slice none 0 0, .int .i64 0]) 11 112 Tryz.underlying22 hih izh ihh ibh rfl (by decide) SL A0 _ n0 c0 1 1 vs [.string (strB y0), .int .i64 (rdN y1), .int .i64 a, .int .i64 b, .int .i64 m, .int .i64 d, .int .i64 l, .int .i64 u, .int .i64 v, .slice A ds.length c, .int .i64 (rdN y6)] rfl rfl HOW.out HLT.out HON.out (by unfold maxLen; omega) (by omega) ?_))
 rw [← HWB.out]
 intro A' c' S' wC hO' hS' hC'
 have hzC : wB.heap.size + 1 ≤ wC.heap.size := by have := hC'.size; simp at this; omega
 have H6C := Lib.hid ((hC'.block _ (by simp; omega) (fun h => by have := HSB.out _ h; omega)).trans ((Below.heap_alloc _ _ _ (by omega)).trans H6B.out))
 have HMAC := Lib.hid (HNX.out wC A' c' S' (by rw [← HNN.out.1]; exact hO') hC' (fun g hg => (hS' g hg).elim (HSB.out g) (fun h => by have h_ := h; (try simp at h_); omega)))
 have HCC : Hid (Chg (fun x => x = w1.heap.size + 1 + 1) w3 wC) := Lib.hid (ChgN.app HC.out HBW.out hC' HSB.out)
 clear hO' hS' hC' HOW HLT HON HNX
 have lC6 := (Array.getElem?_eq_some_iff.1 H6C.out).1
 have cc_ := celR 0 H6C.out; have cf_ := block_free H6C.out 0
 go_wp2_with fail
 go_roundw
 case rel => exact ⟨ix + 1, n0 + 1, c', n1, c1, S, H ++ [(strB y0, rdN y1, ((a, b, m, d, l), u, v), ds, rdN y6)], A', A1, by omega, by omega, by go_num, by omega, by omega, Lib.hid ⟨by rw [List.length_append, HNN.out.1]; rfl, HNN.out.2⟩, Lib.hid (by have h_ := Mid.head HMID.out HR.out (f3 := f3) rfl HTT.out (by rw [← HMY.out]; have h9 := HJM.out; omega) ((head_read HRX.out rfl (fun _ => ⟨rfl, rfl⟩) HTR.out HDD.out).yes); rw [show ix + 1 - 4 = ix - 4 + 1 by omega]; simpa using h_), Lib.hid (HMAC.out.setCell hw36), Lib.hid (block_set H6C.out), Lib.hid (HCC.out.setCell (.inl rfl) _)⟩
 simp [RowKit.intOf]; omega
end Go.Proofs.YtlacpcdbgimnmaaGreatDoor
