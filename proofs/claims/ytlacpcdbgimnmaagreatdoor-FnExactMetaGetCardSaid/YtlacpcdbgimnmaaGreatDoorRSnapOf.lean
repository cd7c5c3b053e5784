/- snapOf of the program. Condition: the library's variables lie as the row says; the text is at most 2^40 bytes. -/
import Derived.Test.YtlacpcdbgimnmaaGreatDoorRDeadOf
import Derived.Test.YtlacpcdbgimnmaaGreatDoorRNumsM
import Derived.Test.YtlacpcdbgimnmaaGreatDoorRTreeOf
import Derived.Test.YtlacpcdbgimnmaaGreatDoorRMetaPlain
set_option linter.unnecessarySimpa false
set_option linter.unusedSimpArgs false
set_option linter.unusedVariables false
namespace Go.Proofs.YtlacpcdbgimnmaaGreatDoor
open Go Go.Lib Go.RowKit
theorem recM_le {s : Str} {l : List Str} (h : IsRec s l) {f : Str} (hf : f ∈ l) : f.length ≤ 2048 := by
 have h1 := encs_mem hf
 have h2 := h.2.2
 rw [h.1] at h1
 omega
theorem PtrsAt.setCell {B : Nat} {A : Option Addr} {c : Nat} {S : List Nat} {ys : List PtrD} {w : World} {p : Addr} {v : Value} (h : PtrsAt B A c S ys w) (hp : p.block ∉ S) : PtrsAt B A c S ys (w.setCell p v) :=
 ⟨h.1.keep fun g hg => heap_far (fun e => hp (e ▸ hg)), h.2⟩
def ChgB (r : Nat) (a b : World) : Prop := Chg (fun x => x = r) a b
def softSl (r B T n : Nat) (cur : Array Value) : MStP (ChgB r) Ext := ⟨fun v w => ∃ g : Nat, B ≤ g ∧ v = .slice (some ⟨g, 0, none⟩) n n ∧ w.heap[g]? = some (.cells cur T (0, 0)), false, fun v w w' hs ⟨g, hB, e, hg⟩ => ⟨g, hB, e, (Below.block hs g (Array.getElem?_eq_some_iff.1 hg).1).trans hg⟩, fun h => by cases h⟩
theorem strsM7 {xs : List Str} (h : xs.length = 7) : ∃ x0 x1 x2 x3 x4 x5 x6, xs = [x0, x1, x2, x3, x4, x5, x6] := by
 match xs, h with
 | [x0, x1, x2, x3, x4, x5, x6], _ => exact ⟨x0, x1, x2, x3, x4, x5, x6, rfl⟩
theorem strsM8 {xs : List Str} (h : xs.length = 8) : ∃ x0 x1 x2 x3 x4 x5 x6 x7, xs = [x0, x1, x2, x3, x4, x5, x6, x7] := by
 match xs, h with
 | [x0, x1, x2, x3, x4, x5, x6, x7], _ => exact ⟨x0, x1, x2, x3, x4, x5, x6, x7, rfl⟩
theorem cellM {B : Nat} {w : World} {A : Option Addr} {c : Nat} {fs : List Str} (h : StrsIn B w A c fs) {j : Nat} {f : Str} (hf : fs[j]? = some f) : ∃ g, A = some ⟨g, 0, none⟩ ∧ B ≤ g ∧ g < w.heap.size ∧ w.cell? ⟨g, j, none⟩ = some (.string (strB f)) := h.cellB hf
theorem leM {B : Nat} {w : World} {A : Option Addr} {c : Nat} {fs : List Str} (h : StrsIn B w A c fs) : fs.length ≤ c := by
 obtain ⟨S, hO, _⟩ := h
 exact hO.le
theorem setM_12 {w : World} {r T : Nat} {v0 v1 v2 v3 v4 v5 v6 v7 v8 v9 v10 v11 x0 x1 x2 x3 x4 x5 x6 x7 x8 x9 x10 x11 : Value} (h : w.heap[r]? = some (.cells #[v0, v1, v2, v3, v4, v5, v6, v7, v8, v9, v10, v11] T (0, 0))) :
 ((((((((((((w.setCell ⟨r, 0, none⟩ x0).setCell ⟨r, 1, none⟩ x1).setCell ⟨r, 2, none⟩ x2).setCell ⟨r, 3, none⟩ x3).setCell ⟨r, 4, none⟩ x4).setCell ⟨r, 5, none⟩ x5).setCell ⟨r, 6, none⟩ x6).setCell ⟨r, 7, none⟩ x7).setCell ⟨r, 8, none⟩ x8).setCell ⟨r, 9, none⟩ x9).setCell ⟨r, 10, none⟩ x10).setCell ⟨r, 11, none⟩ x11).heap[r]? = some (.cells #[x0, x1, x2, x3, x4, x5, x6, x7, x8, x9, x10, x11] T (0, 0)) := by
 have h1 : (w.setCell ⟨r, 0, none⟩ x0).heap[r]? = some (.cells #[x0, v1, v2, v3, v4, v5, v6, v7, v8, v9, v10, v11] T (0, 0)) := block_set (o := 0) (v := x0) h
 have h2 : ((w.setCell ⟨r, 0, none⟩ x0).setCell ⟨r, 1, none⟩ x1).heap[r]? = some (.cells #[x0, x1, v2, v3, v4, v5, v6, v7, v8, v9, v10, v11] T (0, 0)) := block_set (o := 1) (v := x1) h1
 have h3 : (((w.setCell ⟨r, 0, none⟩ x0).setCell ⟨r, 1, none⟩ x1).setCell ⟨r, 2, none⟩ x2).heap[r]? = some (.cells #[x0, x1, x2, v3, v4, v5, v6, v7, v8, v9, v10, v11] T (0, 0)) := block_set (o := 2) (v := x2) h2
 have h4 : ((((w.setCell ⟨r, 0, none⟩ x0).setCell ⟨r, 1, none⟩ x1).setCell ⟨r, 2, none⟩ x2).setCell ⟨r, 3, none⟩ x3).heap[r]? = some (.cells #[x0, x1, x2, x3, v4, v5, v6, v7, v8, v9, v10, v11] T (0, 0)) := block_set (o := 3) (v := x3) h3
 have h5 : (((((w.setCell ⟨r, 0, none⟩ x0).setCell ⟨r, 1, none⟩ x1).setCell ⟨r, 2, none⟩ x2).setCell ⟨r, 3, none⟩ x3).setCell ⟨r, 4, none⟩ x4).heap[r]? = some (.cells #[x0, x1, x2, x3, x4, v5, v6, v7, v8, v9, v10, v11] T (0, 0)) := block_set (o := 4) (v := x4) h4
 have h6 : ((((((w.setCell ⟨r, 0, none⟩ x0).setCell ⟨r, 1, none⟩ x1).setCell ⟨r, 2, none⟩ x2).setCell ⟨r, 3, none⟩ x3).setCell ⟨r, 4, none⟩ x4).setCell ⟨r, 5, none⟩ x5).heap[r]? = some (.cells #[x0, x1, x2, x3, x4, x5, v6, v7, v8, v9, v10, v11] T (0, 0)) := block_set (o := 5) (v := x5) h5
 have h7 : (((((((w.setCell ⟨r, 0, none⟩ x0).setCell ⟨r, 1, none⟩ x1).setCell ⟨r, 2, none⟩ x2).setCell ⟨r, 3, none⟩ x3).setCell ⟨r, 4, none⟩ x4).setCell ⟨r, 5, none⟩ x5).setCell ⟨r, 6, none⟩ x6).heap[r]? = some (.cells #[x0, x1, x2, x3, x4, x5, x6, v7, v8, v9, v10, v11] T (0, 0)) := block_set (o := 6) (v := x6) h6
 have h8 : ((((((((w.setCell ⟨r, 0, none⟩ x0).setCell ⟨r, 1, none⟩ x1).setCell ⟨r, 2, none⟩ x2).setCell ⟨r, 3, none⟩ x3).setCell ⟨r, 4, none⟩ x4).setCell ⟨r, 5, none⟩ x5).setCell ⟨r, 6, none⟩ x6).setCell ⟨r, 7, none⟩ x7).heap[r]? = some (.cells #[x0, x1, x2, x3, x4, x5, x6, x7, v8, v9, v10, v11] T (0, 0)) := block_set (o := 7) (v := x7) h7
 have h9 : (((((((((w.setCell ⟨r, 0, none⟩ x0).setCell ⟨r, 1, none⟩ x1).setCell ⟨r, 2, none⟩ x2).setCell ⟨r, 3, none⟩ x3).setCell ⟨r, 4, none⟩ x4).setCell ⟨r, 5, none⟩ x5).setCell ⟨r, 6, none⟩ x6).setCell ⟨r, 7, none⟩ x7).setCell ⟨r, 8, none⟩ x8).heap[r]? = some (.cells #[x0, x1, x2, x3, x4, x5, x6, x7, x8, v9, v10, v11] T (0, 0)) := block_set (o := 8) (v := x8) h8
 have h10 : ((((((((((w.setCell ⟨r, 0, none⟩ x0).setCell ⟨r, 1, none⟩ x1).setCell ⟨r, 2, none⟩ x2).setCell ⟨r, 3, none⟩ x3).setCell ⟨r, 4, none⟩ x4).setCell ⟨r, 5, none⟩ x5).setCell ⟨r, 6, none⟩ x6).setCell ⟨r, 7, none⟩ x7).setCell ⟨r, 8, none⟩ x8).setCell ⟨r, 9, none⟩ x9).heap[r]? = some (.cells #[x0, x1, x2, x3, x4, x5, x6, x7, x8, x9, v10, v11] T (0, 0)) := block_set (o := 9) (v := x9) h9
 have h11 : (((((((((((w.setCell ⟨r, 0, none⟩ x0).setCell ⟨r, 1, none⟩ x1).setCell ⟨r, 2, none⟩ x2).setCell ⟨r, 3, none⟩ x3).setCell ⟨r, 4, none⟩ x4).setCell ⟨r, 5, none⟩ x5).setCell ⟨r, 6, none⟩ x6).setCell ⟨r, 7, none⟩ x7).setCell ⟨r, 8, none⟩ x8).setCell ⟨r, 9, none⟩ x9).setCell ⟨r, 10, none⟩ x10).heap[r]? = some (.cells #[x0, x1, x2, x3, x4, x5, x6, x7, x8, x9, x10, v11] T (0, 0)) := block_set (o := 10) (v := x10) h10
 have h12 : ((((((((((((w.setCell ⟨r, 0, none⟩ x0).setCell ⟨r, 1, none⟩ x1).setCell ⟨r, 2, none⟩ x2).setCell ⟨r, 3, none⟩ x3).setCell ⟨r, 4, none⟩ x4).setCell ⟨r, 5, none⟩ x5).setCell ⟨r, 6, none⟩ x6).setCell ⟨r, 7, none⟩ x7).setCell ⟨r, 8, none⟩ x8).setCell ⟨r, 9, none⟩ x9).setCell ⟨r, 10, none⟩ x10).setCell ⟨r, 11, none⟩ x11).heap[r]? = some (.cells #[x0, x1, x2, x3, x4, x5, x6, x7, x8, x9, x10, x11] T (0, 0)) := block_set (o := 11) (v := x11) h11
 exact h12
def GotSnap (t : Str) (w : World) (e : Ending) (w' : World) : Prop :=
 ∃ (nm : ByteArray) (v0 v1 v2 a b m d l u v : Int) (ds : List PtrD) (A : Option Addr) (n c : Nat) (S : List Nat) (ok : Bool), e = .returned (.tuple #[.agg #[.int .i64 v0, .string nm, .int .i64 v1, .int .i64 v2, .int .i64 a, .int .i64 b, .int .i64 m, .int .i64 d, .int .i64 l, .int .i64 u, .int .i64 v, .slice A n c], .bool ok]) ∧ n = ds.length ∧ PtrsAt w.heap.size A c S ds w' ∧ SnapRd t (v0, nm, v1, v2, ((a, b, m, d, l), u, v), ds) ok ∧ nm.size ≤ 3000 ∧ ds.length ≤ 100001 ∧ Below w.heap.size w w'
set_option maxRecDepth 100000 in
set_option maxHeartbeats 8000000 in
theorem snapOf_any (s : Str) (w : World) (he : Env w) (hs : s.length ≤ 1099511627776) : Calls Tryz.prog 16 #[.string (strB s)] w (GotSnap s w) := by
 have HE := Lib.hid he; clear he
 go_enter Tryz.func16, Tryz.ntmps16
 go_wp2_with fail
 refine (fieldsGet_any s _ (HE.out.below (Below.alloc (Below.refl _ _) (by first | exact Nat.le_refl _ | (simp [World.setCell] <;> omega)) _)) hs).mono ?_
 rintro e w1 (⟨fl, A, cp, hR, rfl, hI, hb1⟩ | ⟨hno, ⟨A, cp, rfl⟩, hb1⟩)
 case inr =>
  have HNO : Hid (SnapRd s (0, strB [], 0, 0, ((0, 0, 0, 0, 0), 0, 0), []) false) := Lib.hid (snap_none _ _ hno); clear hno
  have zz1 : w.heap.size + 1 ≤ w1.heap.size := by have := hb1.size; simp [World.setCell] at this; omega
  have YY1 : Below w.heap.size w (World.alloc w (.cells #[.int .i64 0, .string ⟨#[]⟩, .int .i64 0, .int .i64 0, .int .i64 0, .int .i64 0, .int .i64 0, .int .i64 0, .int .i64 0, .int .i64 0, .int .i64 0, .slice none 0 0] 44)) := (Below.alloc (Below.refl _ _) (by first | exact Nat.le_refl _ | (simp [World.setCell] <;> omega)) _)
  have X1 : Below w.heap.size w w1 := YY1.trans (hb1.mono YY1.size)
  clear YY1
  have b1_0 : Hid (w1.heap[w.heap.size]? = some (.cells #[.int .i64 0, .string ⟨#[]⟩, .int .i64 0, .int .i64 0, .int .i64 0, .int .i64 0, .int .i64 0, .int .i64 0, .int .i64 0, .int .i64 0, .int .i64 0, .slice none 0 0] 44 (0, 0))) := Lib.hid ((hb1.block _ (by first | omega | (simp [World.setCell] <;> omega))).trans (show _ from by have := heap_alloc_new w (.cells #[.int .i64 0, .string ⟨#[]⟩, .int .i64 0, .int .i64 0, .int .i64 0, .int .i64 0, .int .i64 0, .int .i64 0, .int .i64 0, .int .i64 0, .int .i64 0, .slice none 0 0] 44); simpa [World.setCell] using this))
  clear hb1
  have l1_0 : w.heap.size < w1.heap.size := (Array.getElem?_eq_some_iff.1 b1_0.out).1
  have c1_0_0 := celR 0 b1_0.out
  have f1_0_0 := block_free b1_0.out 0
  have c1_0_1 := celR 1 b1_0.out
  have f1_0_1 := block_free b1_0.out 1
  have c1_0_2 := celR 2 b1_0.out
  have f1_0_2 := block_free b1_0.out 2
  have c1_0_3 := celR 3 b1_0.out
  have f1_0_3 := block_free b1_0.out 3
  have c1_0_4 := celR 4 b1_0.out
  have f1_0_4 := block_free b1_0.out 4
  have c1_0_5 := celR 5 b1_0.out
  have f1_0_5 := block_free b1_0.out 5
  have c1_0_6 := celR 6 b1_0.out
  have f1_0_6 := block_free b1_0.out 6
  have c1_0_7 := celR 7 b1_0.out
  have f1_0_7 := block_free b1_0.out 7
  have c1_0_8 := celR 8 b1_0.out
  have f1_0_8 := block_free b1_0.out 8
  have c1_0_9 := celR 9 b1_0.out
  have f1_0_9 := block_free b1_0.out 9
  have c1_0_10 := celR 10 b1_0.out
  have f1_0_10 := block_free b1_0.out 10
  have c1_0_11 := celR 11 b1_0.out
  have f1_0_11 := block_free b1_0.out 11
  have HRR : Hid ((w1).heap[w.heap.size]? = some (.cells #[.int .i64 0, .string ⟨#[]⟩, .int .i64 0, .int .i64 0, .int .i64 0, .int .i64 0, .int .i64 0, .int .i64 0, .int .i64 0, .int .i64 0, .int .i64 0, .slice none 0 0] 44 (0, 0))) := Lib.hid (b1_0.out)
  have HBL : Hid (Below w.heap.size w w1) := Lib.hid X1
  go_wp2_with fail
  have hst := setM_12 (x0 := .int .i64 0) (x1 := .string ⟨#[]⟩) (x2 := .int .i64 0) (x3 := .int .i64 0) (x4 := .int .i64 0) (x5 := .int .i64 0) (x6 := .int .i64 0) (x7 := .int .i64 0) (x8 := .int .i64 0) (x9 := .int .i64 0) (x10 := .int .i64 0) (x11 := .slice none 0 0) HRR.out
  have r0 := celR 0 hst
  have r1 := celR 1 hst
  have r2 := celR 2 hst
  have r3 := celR 3 hst
  have r4 := celR 4 hst
  have r5 := celR 5 hst
  have r6 := celR 6 hst
  have r7 := celR 7 hst
  have r8 := celR 8 hst
  have r9 := celR 9 hst
  have r10 := celR 10 hst
  have r11 := celR 11 hst
  clear hst
  exact bodyPost_ret (v := .tuple #[.agg #[.int .i64 0, .string ⟨#[]⟩, .int .i64 0, .int .i64 0, .int .i64 0, .int .i64 0, .int .i64 0, .int .i64 0, .int .i64 0, .int .i64 0, .int .i64 0, .slice none 0 0], .bool false]) (by simp [results, Tryz.results16, go_sem, r0, r1, r2, r3, r4, r5, r6, r7, r8, r9, r10, r11]) rfl (⟨strB [], 0, 0, 0, 0, 0, 0, 0, 0, 0, 0, [], none, 0, 0, [], false, rfl, rfl, PtrsAt.nil, HNO.out, by simp [strB_size], by simp, (Below.setCell (p := ⟨w.heap.size, 11, none⟩) (Below.setCell (p := ⟨w.heap.size, 10, none⟩) (Below.setCell (p := ⟨w.heap.size, 9, none⟩) (Below.setCell (p := ⟨w.heap.size, 8, none⟩) (Below.setCell (p := ⟨w.heap.size, 7, none⟩) (Below.setCell (p := ⟨w.heap.size, 6, none⟩) (Below.setCell (p := ⟨w.heap.size, 5, none⟩) (Below.setCell (p := ⟨w.heap.size, 4, none⟩) (Below.setCell (p := ⟨w.heap.size, 3, none⟩) (Below.setCell (p := ⟨w.heap.size, 2, none⟩) (Below.setCell (p := ⟨w.heap.size, 1, none⟩) (Below.setCell (p := ⟨w.heap.size, 0, none⟩) HBL.out (Nat.le_refl _) _) (Nat.le_refl _) _) (Nat.le_refl _) _) (Nat.le_refl _) _) (Nat.le_refl _) _) (Nat.le_refl _) _) (Nat.le_refl _) _) (Nat.le_refl _) _) (Nat.le_refl _) _) (Nat.le_refl _) _) (Nat.le_refl _) _) (Nat.le_refl _) _)⟩)
 have HR := Lib.hid hR; clear hR
 have HI1 := Lib.hid hI; clear hI
 have zz1 : w.heap.size + 1 ≤ w1.heap.size := by have := hb1.size; simp [World.setCell] at this; omega
 have YY1 : Below w.heap.size w (World.alloc w (.cells #[.int .i64 0, .string ⟨#[]⟩, .int .i64 0, .int .i64 0, .int .i64 0, .int .i64 0, .int .i64 0, .int .i64 0, .int .i64 0, .int .i64 0, .int .i64 0, .slice none 0 0] 44)) := (Below.alloc (Below.refl _ _) (by first | exact Nat.le_refl _ | (simp [World.setCell] <;> omega)) _)
 have X1 : Below w.heap.size w w1 := YY1.trans (hb1.mono YY1.size)
 clear YY1
 have b1_0 : Hid (w1.heap[w.heap.size]? = some (.cells #[.int .i64 0, .string ⟨#[]⟩, .int .i64 0, .int .i64 0, .int .i64 0, .int .i64 0, .int .i64 0, .int .i64 0, .int .i64 0, .int .i64 0, .int .i64 0, .slice none 0 0] 44 (0, 0))) := Lib.hid ((hb1.block _ (by first | omega | (simp [World.setCell] <;> omega))).trans (show _ from by have := heap_alloc_new w (.cells #[.int .i64 0, .string ⟨#[]⟩, .int .i64 0, .int .i64 0, .int .i64 0, .int .i64 0, .int .i64 0, .int .i64 0, .int .i64 0, .int .i64 0, .int .i64 0, .slice none 0 0] 44); simpa [World.setCell] using this))
 clear hb1
 have l1_0 : w.heap.size < w1.heap.size := (Array.getElem?_eq_some_iff.1 b1_0.out).1
 have c1_0_0 := celR 0 b1_0.out
 have f1_0_0 := block_free b1_0.out 0
 have c1_0_1 := celR 1 b1_0.out
 have f1_0_1 := block_free b1_0.out 1
 have c1_0_2 := celR 2 b1_0.out
 have f1_0_2 := block_free b1_0.out 2
 have c1_0_3 := celR 3 b1_0.out
 have f1_0_3 := block_free b1_0.out 3
 have c1_0_4 := celR 4 b1_0.out
 have f1_0_4 := block_free b1_0.out 4
 have c1_0_5 := celR 5 b1_0.out
 have f1_0_5 := block_free b1_0.out 5
 have c1_0_6 := celR 6 b1_0.out
 have f1_0_6 := block_free b1_0.out 6
 have c1_0_7 := celR 7 b1_0.out
 have f1_0_7 := block_free b1_0.out 7
 have c1_0_8 := celR 8 b1_0.out
 have f1_0_8 := block_free b1_0.out 8
 have c1_0_9 := celR 9 b1_0.out
 have f1_0_9 := block_free b1_0.out 9
 have c1_0_10 := celR 10 b1_0.out
 have f1_0_10 := block_free b1_0.out 10
 have c1_0_11 := celR 11 b1_0.out
 have f1_0_11 := block_free b1_0.out 11
 by_cases hl : fl.length = 8
 case neg =>
  have HNO : Hid (SnapRd s (0, strB [], 0, 0, ((0, 0, 0, 0, 0), 0, 0), []) false) := Lib.hid (snap_len _ _ HR.out hl)
  have hnb : ((fl.length : Int) != 8) = true := by simp; omega
  have hnc : ¬ (fl.length : Int) = 8 := by omega
  clear hl
  have HRR : Hid ((w1).heap[w.heap.size]? = some (.cells #[.int .i64 0, .string ⟨#[]⟩, .int .i64 0, .int .i64 0, .int .i64 0, .int .i64 0, .int .i64 0, .int .i64 0, .int .i64 0, .int .i64 0, .int .i64 0, .slice none 0 0] 44 (0, 0))) := Lib.hid (b1_0.out)
  have HBL : Hid (Below w.heap.size w w1) := Lib.hid X1
  go_wp2_with fail
  have hst := setM_12 (x0 := .int .i64 0) (x1 := .string ⟨#[]⟩) (x2 := .int .i64 0) (x3 := .int .i64 0) (x4 := .int .i64 0) (x5 := .int .i64 0) (x6 := .int .i64 0) (x7 := .int .i64 0) (x8 := .int .i64 0) (x9 := .int .i64 0) (x10 := .int .i64 0) (x11 := .slice none 0 0) HRR.out
  have r0 := celR 0 hst
  have r1 := celR 1 hst
  have r2 := celR 2 hst
  have r3 := celR 3 hst
  have r4 := celR 4 hst
  have r5 := celR 5 hst
  have r6 := celR 6 hst
  have r7 := celR 7 hst
  have r8 := celR 8 hst
  have r9 := celR 9 hst
  have r10 := celR 10 hst
  have r11 := celR 11 hst
  clear hst
  exact bodyPost_ret (v := .tuple #[.agg #[.int .i64 0, .string ⟨#[]⟩, .int .i64 0, .int .i64 0, .int .i64 0, .int .i64 0, .int .i64 0, .int .i64 0, .int .i64 0, .int .i64 0, .int .i64 0, .slice none 0 0], .bool false]) (by simp [results, Tryz.results16, go_sem, r0, r1, r2, r3, r4, r5, r6, r7, r8, r9, r10, r11]) rfl (⟨strB [], 0, 0, 0, 0, 0, 0, 0, 0, 0, 0, [], none, 0, 0, [], false, rfl, rfl, PtrsAt.nil, HNO.out, by simp [strB_size], by simp, (Below.setCell (p := ⟨w.heap.size, 11, none⟩) (Below.setCell (p := ⟨w.heap.size, 10, none⟩) (Below.setCell (p := ⟨w.heap.size, 9, none⟩) (Below.setCell (p := ⟨w.heap.size, 8, none⟩) (Below.setCell (p := ⟨w.heap.size, 7, none⟩) (Below.setCell (p := ⟨w.heap.size, 6, none⟩) (Below.setCell (p := ⟨w.heap.size, 5, none⟩) (Below.setCell (p := ⟨w.heap.size, 4, none⟩) (Below.setCell (p := ⟨w.heap.size, 3, none⟩) (Below.setCell (p := ⟨w.heap.size, 2, none⟩) (Below.setCell (p := ⟨w.heap.size, 1, none⟩) (Below.setCell (p := ⟨w.heap.size, 0, none⟩) HBL.out (Nat.le_refl _) _) (Nat.le_refl _) _) (Nat.le_refl _) _) (Nat.le_refl _) _) (Nat.le_refl _) _) (Nat.le_refl _) _) (Nat.le_refl _) _) (Nat.le_refl _) _) (Nat.le_refl _) _) (Nat.le_refl _) _) (Nat.le_refl _) _) (Nat.le_refl _) _)⟩)
 obtain ⟨y0, y1, y2, y3, y4, y5, y6, y7, rfl⟩ := strsM8 hl
 rw [hl]
 have hcp : 8 ≤ cp := by have := leM HI1.out; rw [hl] at this; exact this
 have hc1 : ¬ cp = 4 := by omega
 have cc1 : ((4 : Int) ≤ (7 : Int)) := by omega
 have cc2 : ((7 : Int) ≤ (cp : Int)) := by omega
 obtain ⟨g, rfl, hgB, lg1, e0⟩ := cellM HI1.out (j := 0) rfl
 obtain ⟨g1, e1', _, _, e1⟩ := cellM HI1.out (j := 1) rfl
 injection e1' with e1'; injection e1' with e1'; subst e1'
 obtain ⟨g2, e2', _, _, e2⟩ := cellM HI1.out (j := 2) rfl
 injection e2' with e2'; injection e2' with e2'; subst e2'
 obtain ⟨g3, e3', _, _, e3⟩ := cellM HI1.out (j := 3) rfl
 injection e3' with e3'; injection e3' with e3'; subst e3'
 obtain ⟨g4, e4', _, _, e4⟩ := cellM HI1.out (j := 4) rfl
 injection e4' with e4'; injection e4' with e4'; subst e4'
 obtain ⟨g5, e5', _, _, e5⟩ := cellM HI1.out (j := 5) rfl
 injection e5' with e5'; injection e5' with e5'; subst e5'
 obtain ⟨g6, e6', _, _, e6⟩ := cellM HI1.out (j := 6) rfl
 injection e6' with e6'; injection e6' with e6'; subst e6'
 obtain ⟨g7, e7', _, _, e7⟩ := cellM HI1.out (j := 7) rfl
 injection e7' with e7'; injection e7' with e7'; subst e7'
 have hl0 := recM_le HR.out (f := y0) (by simp)
 have E0 := Lib.hid e0
 have hl1 := recM_le HR.out (f := y1) (by simp)
 have E1 := Lib.hid e1
 have hl2 := recM_le HR.out (f := y2) (by simp)
 have E2 := Lib.hid e2
 have hl3 := recM_le HR.out (f := y3) (by simp)
 have E3 := Lib.hid e3
 have hl4 := recM_le HR.out (f := y4) (by simp)
 have E4 := Lib.hid e4
 have hl5 := recM_le HR.out (f := y5) (by simp)
 have E5 := Lib.hid e5
 have hl6 := recM_le HR.out (f := y6) (by simp)
 have E6 := Lib.hid e6
 have hl7 := recM_le HR.out (f := y7) (by simp)
 have E7 := Lib.hid e7
 clear hl HI1 e0 e2 e3 e4 e5 e6 e7
 have hgr : g ≠ w.heap.size := by have h_ := hgB; simp at h_; omega
 have hz1 : w.heap.size < w1.heap.size := l1_0
 go_wp2_with fail
 generalize hW2 : (World.alloc w1 (.cells #[.int .i64 0, .string (strB y1), .int .i64 0, .int .i64 0, .int .i64 0, .int .i64 0, .int .i64 0, .int .i64 0, .int .i64 0, .int .i64 0, .int .i64 0, .slice none 0 0] 44)) = w2
 have hb2 : Below ((World.alloc w1 (.cells #[.int .i64 0, .string (strB y1), .int .i64 0, .int .i64 0, .int .i64 0, .int .i64 0, .int .i64 0, .int .i64 0, .int .i64 0, .int .i64 0, .int .i64 0, .slice none 0 0] 44))).heap.size ((World.alloc w1 (.cells #[.int .i64 0, .string (strB y1), .int .i64 0, .int .i64 0, .int .i64 0, .int .i64 0, .int .i64 0, .int .i64 0, .int .i64 0, .int .i64 0, .int .i64 0, .slice none 0 0] 44))) w2 := by rw [← hW2]; exact Below.refl _ _
 have HZ2 : Hid (w2.heap.size = w1.heap.size + 1) := Lib.hid (by rw [← hW2]; simp)
 clear hW2 e1
 have hb2' : Below w1.heap.size w1 w2 := (Below.alloc (Below.refl _ _) (Nat.le_refl _) _).trans (hb2.mono (by simp))
 have E0 := Lib.hid ((hb2'.cell lg1).trans E0.out)
 have E1 := Lib.hid ((hb2'.cell lg1).trans E1.out)
 have E2 := Lib.hid ((hb2'.cell lg1).trans E2.out)
 have E3 := Lib.hid ((hb2'.cell lg1).trans E3.out)
 have E4 := Lib.hid ((hb2'.cell lg1).trans E4.out)
 have E5 := Lib.hid ((hb2'.cell lg1).trans E5.out)
 have E6 := Lib.hid ((hb2'.cell lg1).trans E6.out)
 have E7 := Lib.hid ((hb2'.cell lg1).trans E7.out)
 have lg2 : g < w2.heap.size := Nat.lt_of_lt_of_le lg1 hb2'.size
 clear hb2'
 have hg6 : g ≠ w1.heap.size := by omega
 have hr6 : w.heap.size ≠ w1.heap.size := by have := l1_0; omega
 have zz2 : w1.heap.size + 1 ≤ w2.heap.size := by have := hb2.size; simp [World.setCell] at this; omega
 have YY2 : Below w.heap.size w (World.alloc w1 (.cells #[.int .i64 0, .string (strB y1), .int .i64 0, .int .i64 0, .int .i64 0, .int .i64 0, .int .i64 0, .int .i64 0, .int .i64 0, .int .i64 0, .int .i64 0, .slice none 0 0] 44)) := (Below.alloc X1 (by have := X1.size; simp [World.setCell] <;> omega) _)
 have X2 : Below w.heap.size w w2 := YY2.trans (hb2.mono YY2.size)
 clear YY2
 have b2_0 : Hid (w2.heap[w.heap.size]? = some (.cells #[.int .i64 0, .string ⟨#[]⟩, .int .i64 0, .int .i64 0, .int .i64 0, .int .i64 0, .int .i64 0, .int .i64 0, .int .i64 0, .int .i64 0, .int .i64 0, .slice none 0 0] 44 (0, 0))) := Lib.hid ((hb2.block _ (by first | omega | (simp [World.setCell] <;> omega))).trans ((Below.heap_alloc _ _ _ (by first | omega | (simp [World.setCell] <;> omega))).trans b1_0.out))
 have b2_1 : Hid (w2.heap[w1.heap.size]? = some (.cells #[.int .i64 0, .string (strB y1), .int .i64 0, .int .i64 0, .int .i64 0, .int .i64 0, .int .i64 0, .int .i64 0, .int .i64 0, .int .i64 0, .int .i64 0, .slice none 0 0] 44 (0, 0))) := Lib.hid ((hb2.block _ (by first | omega | (simp [World.setCell] <;> omega))).trans (show _ from by have := heap_alloc_new w1 (.cells #[.int .i64 0, .string (strB y1), .int .i64 0, .int .i64 0, .int .i64 0, .int .i64 0, .int .i64 0, .int .i64 0, .int .i64 0, .int .i64 0, .int .i64 0, .slice none 0 0] 44); simpa [World.setCell] using this))
 clear b1_0 X1 zz1 l1_0 c1_0_0 f1_0_0 c1_0_1 f1_0_1 c1_0_2 f1_0_2 c1_0_3 f1_0_3 c1_0_4 f1_0_4 c1_0_5 f1_0_5 c1_0_6 f1_0_6 c1_0_7 f1_0_7 c1_0_8 f1_0_8 c1_0_9 f1_0_9 c1_0_10 f1_0_10 c1_0_11 f1_0_11 hb2
 have l2_0 : w.heap.size < w2.heap.size := (Array.getElem?_eq_some_iff.1 b2_0.out).1
 have c2_0_0 := celR 0 b2_0.out
 have f2_0_0 := block_free b2_0.out 0
 have c2_0_1 := celR 1 b2_0.out
 have f2_0_1 := block_free b2_0.out 1
 have c2_0_2 := celR 2 b2_0.out
 have f2_0_2 := block_free b2_0.out 2
 have c2_0_3 := celR 3 b2_0.out
 have f2_0_3 := block_free b2_0.out 3
 have c2_0_4 := celR 4 b2_0.out
 have f2_0_4 := block_free b2_0.out 4
 have c2_0_5 := celR 5 b2_0.out
 have f2_0_5 := block_free b2_0.out 5
 have c2_0_6 := celR 6 b2_0.out
 have f2_0_6 := block_free b2_0.out 6
 have c2_0_7 := celR 7 b2_0.out
 have f2_0_7 := block_free b2_0.out 7
 have c2_0_8 := celR 8 b2_0.out
 have f2_0_8 := block_free b2_0.out 8
 have c2_0_9 := celR 9 b2_0.out
 have f2_0_9 := block_free b2_0.out 9
 have c2_0_10 := celR 10 b2_0.out
 have f2_0_10 := block_free b2_0.out 10
 have c2_0_11 := celR 11 b2_0.out
 have f2_0_11 := block_free b2_0.out 11
 have l2_1 : w1.heap.size < w2.heap.size := (Array.getElem?_eq_some_iff.1 b2_1.out).1
 have c2_1_0 := celR 0 b2_1.out
 have f2_1_0 := block_free b2_1.out 0
 have c2_1_1 := celR 1 b2_1.out
 have f2_1_1 := block_free b2_1.out 1
 have c2_1_2 := celR 2 b2_1.out
 have f2_1_2 := block_free b2_1.out 2
 have c2_1_3 := celR 3 b2_1.out
 have f2_1_3 := block_free b2_1.out 3
 have c2_1_4 := celR 4 b2_1.out
 have f2_1_4 := block_free b2_1.out 4
 have c2_1_5 := celR 5 b2_1.out
 have f2_1_5 := block_free b2_1.out 5
 have c2_1_6 := celR 6 b2_1.out
 have f2_1_6 := block_free b2_1.out 6
 have c2_1_7 := celR 7 b2_1.out
 have f2_1_7 := block_free b2_1.out 7
 have c2_1_8 := celR 8 b2_1.out
 have f2_1_8 := block_free b2_1.out 8
 have c2_1_9 := celR 9 b2_1.out
 have f2_1_9 := block_free b2_1.out 9
 have c2_1_10 := celR 10 b2_1.out
 have f2_1_10 := block_free b2_1.out 10
 have c2_1_11 := celR 11 b2_1.out
 have f2_1_11 := block_free b2_1.out 11
 have H6 : Hid (w2.heap[w1.heap.size]? = some (.cells #[.int .i64 0, .string (strB y1), .int .i64 0, .int .i64 0, .int .i64 0, .int .i64 0, .int .i64 0, .int .i64 0, .int .i64 0, .int .i64 0, .int .i64 0, .slice none 0 0] 44 (0, 0))) := b2_1
 have l6 : w1.heap.size < w2.heap.size := (Array.getElem?_eq_some_iff.1 H6.out).1
 obtain ⟨o0, ho0⟩ : ∃ o, o = ((numGet y0).isSome && (numGet y2).isSome && (numGet y3).isSome) := ⟨_, rfl⟩
 have HO0 := Lib.hid ho0; clear ho0
 apply wp_region_rgz (ChgB (w1.heap.size)) (Ext) (fun y w' k' => (k' < 1000 → w'.heap[w1.heap.size]? = some (.cells #[.int .i64 0, .string (strB y1), .int .i64 0, .int .i64 0, .int .i64 0, .int .i64 0, .int .i64 0, .int .i64 0, .int .i64 0, .int .i64 0, .int .i64 0, .slice none 0 0] 44 (0, 0))) ∧ (1000 ≤ k' → ∃ (v0 v1 v2 : Int), w'.heap[w1.heap.size]? = some (.cells #[.int .i64 v0, .string (strB y1), .int .i64 v1, .int .i64 v2, .int .i64 0, .int .i64 0, .int .i64 0, .int .i64 0, .int .i64 0, .int .i64 0, .int .i64 0, .slice none 0 0] 44 (0, 0)) ∧ (o0 = true → v0 = rdN y0 ∧ v1 = rdN y2 ∧ v2 = rdN y3))) (0 :: 0 :: 0 :: 0 :: 0 :: 0 :: 0 :: 0 :: 0 :: 0 :: 0 :: 0 :: 0 :: 0 :: 1000 :: 0 :: []) (1000 :: 1000 :: 1000 :: 1000 :: 1000 :: 1000 :: 1000 :: 1000 :: 1000 :: 1000 :: 1000 :: 1000 :: 1000 :: 1000 :: 1000 :: 0 :: []) (by kernel_rfl) (false :: false :: false :: false :: false :: true :: false :: false :: false :: false :: false :: false :: false :: false :: false :: false :: false :: false :: false :: false :: false :: false :: false :: false :: false :: false :: false :: false :: true :: true :: true :: true :: true :: true :: true :: true :: true :: true :: true :: true :: true :: true :: true :: false :: false :: false :: false :: false :: false :: false :: false :: false :: false :: false :: false :: false :: false :: false :: false :: false :: false :: false :: false :: false :: false :: false :: false :: false :: []) (some 28 :: some 29 :: some 30 :: some 31 :: some 32 :: some 33 :: some 34 :: some 35 :: some 36 :: some 37 :: some 38 :: some 39 :: some 40 :: some 41 :: some 42 :: some 5 :: []) ([] :: [0] :: [1] :: [] :: [3] :: [4] :: [] :: [6] :: [7] :: [2, 5, 8] :: [] :: [] :: [] :: [10, 11, 12] :: [9, 13] :: [14] :: []) (false :: false :: false :: false :: false :: false :: false :: false :: false :: false :: false :: false :: false :: false :: true :: false :: []) (true :: true :: true :: true :: true :: true :: true :: true :: true :: false :: true :: true :: true :: false :: true :: true :: []) [15] (MStP.is _ :: MStP.is _ :: MStP.is _ :: MStP.is _ :: MStP.is _ :: MStP.is _ :: MStP.is _ :: MStP.is _ :: MStP.is _ :: softSl (w1.heap.size) (w2.heap.size) 9 3 #[.string (strB y0), .string (strB y2), .string (strB y3)] :: MStP.is _ :: MStP.is _ :: MStP.is _ :: softSl (w1.heap.size) (w2.heap.size) 50 3 #[.pointer (some ⟨w1.heap.size, 0, none⟩), .pointer (some ⟨w1.heap.size, 2, none⟩), .pointer (some ⟨w1.heap.size, 3, none⟩)] :: MStP.is _ :: MStP.is _ :: []) (by kernel_rfl) (by kernel_rfl) (by kernel_rfl) (by kernel_rfl)
 case hobs =>
  refine ⟨fun y w' k hS hj hk hF K hK => ?_, ?_⟩
  · skip
    simp only [fillL, cond_true, cond_false, zG0, zG1, StP.is, Act.put, zS2, zS0, zS1, Nat.reduceAdd, MStP.is, Option.isSome_some, Option.isSome_none] at hK ⊢
    simp only [List.sum_cons, List.sum_nil, zG0, zG1, Nat.reduceAdd, Nat.add_zero] at hk
    refine rg_yes (by kernel_rfl) ?_
    clear hF
    go_simp
    exact hK _ _ (Ext.refl _) ⟨fun _ => hj.1 (by omega), fun h => absurd h (by omega)⟩ rfl
  refine ⟨fun y w' k hS hj hk hF K hK => ?_, ?_⟩
  · skip
    have e28 : y 28 = _ := hF.1
    have e28' := Lib.hid e28
    simp only [fillL, cond_true, cond_false, zG0, zG1, StP.is, Act.put, zS2, zS0, zS1, Nat.reduceAdd, e28, MStP.is, Option.isSome_some, Option.isSome_none] at hK ⊢
    simp only [List.sum_cons, List.sum_nil, zG0, zG1, Nat.reduceAdd, Nat.add_zero] at hk
    refine rg_yes (by kernel_rfl) ?_
    clear e28
    clear hF
    go_simp
    exact hK _ _ (Ext.refl _) ⟨fun _ => hj.1 (by omega), fun h => absurd h (by omega)⟩ rfl
  refine ⟨fun y w' k hS hj hk hF K hK => ?_, ?_⟩
  · skip
    have e29 : y 29 = _ := hF.1
    have e29' := Lib.hid e29
    simp only [fillL, cond_true, cond_false, zG0, zG1, StP.is, Act.put, zS2, zS0, zS1, Nat.reduceAdd, e29, MStP.is, Option.isSome_some, Option.isSome_none] at hK ⊢
    simp only [List.sum_cons, List.sum_nil, zG0, zG1, Nat.reduceAdd, Nat.add_zero] at hk
    refine rg_yes (by kernel_rfl) ?_
    clear e29
    clear hF
    have q0_ : w'.cell? ⟨g, 0, none⟩ = _ := (World.cell?_of_block (hS.block g lg2 hg6)).trans E0.out
    have q2_ : w'.cell? ⟨g, 2, none⟩ = _ := (World.cell?_of_block (hS.block g lg2 hg6)).trans E2.out
    have q3_ : w'.cell? ⟨g, 3, none⟩ = _ := (World.cell?_of_block (hS.block g lg2 hg6)).trans E3.out
    go_simp
    exact hK _ _ (Ext.refl _) ⟨fun _ => hj.1 (by omega), fun h => absurd h (by omega)⟩ rfl
  refine ⟨fun y w' k hS hj hk hF K hK => ?_, ?_⟩
  · skip
    simp only [fillL, cond_true, cond_false, zG0, zG1, StP.is, Act.put, zS2, zS0, zS1, Nat.reduceAdd, MStP.is, Option.isSome_some, Option.isSome_none] at hK ⊢
    simp only [List.sum_cons, List.sum_nil, zG0, zG1, Nat.reduceAdd, Nat.add_zero] at hk
    refine rg_yes (by kernel_rfl) ?_
    clear hF
    go_simp
    exact hK _ _ (Ext.refl _) ⟨fun _ => hj.1 (by omega), fun h => absurd h (by omega)⟩ rfl
  refine ⟨fun y w' k hS hj hk hF K hK => ?_, ?_⟩
  · skip
    have e31 : y 31 = _ := hF.1
    have e31' := Lib.hid e31
    simp only [fillL, cond_true, cond_false, zG0, zG1, StP.is, Act.put, zS2, zS0, zS1, Nat.reduceAdd, e31, MStP.is, Option.isSome_some, Option.isSome_none] at hK ⊢
    simp only [List.sum_cons, List.sum_nil, zG0, zG1, Nat.reduceAdd, Nat.add_zero] at hk
    refine rg_yes (by kernel_rfl) ?_
    clear e31
    clear hF
    go_simp
    exact hK _ _ (Ext.refl _) ⟨fun _ => hj.1 (by omega), fun h => absurd h (by omega)⟩ rfl
  refine ⟨fun y w' k hS hj hk hF K hK => ?_, ?_⟩
  · skip
    have e32 : y 32 = _ := hF.1
    have e32' := Lib.hid e32
    simp only [fillL, cond_true, cond_false, zG0, zG1, StP.is, Act.put, zS2, zS0, zS1, Nat.reduceAdd, e32, MStP.is, Option.isSome_some, Option.isSome_none] at hK ⊢
    simp only [List.sum_cons, List.sum_nil, zG0, zG1, Nat.reduceAdd, Nat.add_zero] at hk
    refine rg_yes (by kernel_rfl) ?_
    clear e32
    clear hF
    have q0_ : w'.cell? ⟨g, 0, none⟩ = _ := (World.cell?_of_block (hS.block g lg2 hg6)).trans E0.out
    have q2_ : w'.cell? ⟨g, 2, none⟩ = _ := (World.cell?_of_block (hS.block g lg2 hg6)).trans E2.out
    have q3_ : w'.cell? ⟨g, 3, none⟩ = _ := (World.cell?_of_block (hS.block g lg2 hg6)).trans E3.out
    go_simp
    exact hK _ _ (Ext.refl _) ⟨fun _ => hj.1 (by omega), fun h => absurd h (by omega)⟩ rfl
  refine ⟨fun y w' k hS hj hk hF K hK => ?_, ?_⟩
  · skip
    simp only [fillL, cond_true, cond_false, zG0, zG1, StP.is, Act.put, zS2, zS0, zS1, Nat.reduceAdd, MStP.is, Option.isSome_some, Option.isSome_none] at hK ⊢
    simp only [List.sum_cons, List.sum_nil, zG0, zG1, Nat.reduceAdd, Nat.add_zero] at hk
    refine rg_yes (by kernel_rfl) ?_
    clear hF
    go_simp
    exact hK _ _ (Ext.refl _) ⟨fun _ => hj.1 (by omega), fun h => absurd h (by omega)⟩ rfl
  refine ⟨fun y w' k hS hj hk hF K hK => ?_, ?_⟩
  · skip
    have e34 : y 34 = _ := hF.1
    have e34' := Lib.hid e34
    simp only [fillL, cond_true, cond_false, zG0, zG1, StP.is, Act.put, zS2, zS0, zS1, Nat.reduceAdd, e34, MStP.is, Option.isSome_some, Option.isSome_none] at hK ⊢
    simp only [List.sum_cons, List.sum_nil, zG0, zG1, Nat.reduceAdd, Nat.add_zero] at hk
    refine rg_yes (by kernel_rfl) ?_
    clear e34
    clear hF
    go_simp
    exact hK _ _ (Ext.refl _) ⟨fun _ => hj.1 (by omega), fun h => absurd h (by omega)⟩ rfl
  refine ⟨fun y w' k hS hj hk hF K hK => ?_, ?_⟩
  · skip
    have e35 : y 35 = _ := hF.1
    have e35' := Lib.hid e35
    simp only [fillL, cond_true, cond_false, zG0, zG1, StP.is, Act.put, zS2, zS0, zS1, Nat.reduceAdd, e35, MStP.is, Option.isSome_some, Option.isSome_none] at hK ⊢
    simp only [List.sum_cons, List.sum_nil, zG0, zG1, Nat.reduceAdd, Nat.add_zero] at hk
    refine rg_yes (by kernel_rfl) ?_
    clear e35
    clear hF
    have q0_ : w'.cell? ⟨g, 0, none⟩ = _ := (World.cell?_of_block (hS.block g lg2 hg6)).trans E0.out
    have q2_ : w'.cell? ⟨g, 2, none⟩ = _ := (World.cell?_of_block (hS.block g lg2 hg6)).trans E2.out
    have q3_ : w'.cell? ⟨g, 3, none⟩ = _ := (World.cell?_of_block (hS.block g lg2 hg6)).trans E3.out
    go_simp
    exact hK _ _ (Ext.refl _) ⟨fun _ => hj.1 (by omega), fun h => absurd h (by omega)⟩ rfl
  refine ⟨fun y w' k hS hj hk hF K hK => ?_, ?_⟩
  · skip
    have e30 : y 30 = _ := hF.1
    have e33 : y 33 = _ := hF.2.1
    have e36 : y 36 = _ := hF.2.2.1
    have e30' := Lib.hid e30
    have e33' := Lib.hid e33
    have e36' := Lib.hid e36
    simp only [fillL, cond_true, cond_false, zG0, zG1, StP.is, Act.put, zS2, zS0, zS1, Nat.reduceAdd, e30, e33, e36, MStP.is, Option.isSome_some, Option.isSome_none] at hK ⊢
    simp only [List.sum_cons, List.sum_nil, zG0, zG1, Nat.reduceAdd, Nat.add_zero] at hk
    refine rg_yes (by kernel_rfl) ?_
    clear e30 e33 e36
    clear hF
    go_simp
    exact hK _ _ (Ext.alloc _ _) ⟨fun _ => (Below.block (Ext.alloc _ _) _ (Array.getElem?_eq_some_iff.1 (hj.1 (by omega))).1).trans (hj.1 (by omega)), fun h => absurd h (by omega)⟩ ⟨_, hS.size, rfl, heap_alloc_new _ _⟩
  refine ⟨fun y w' k hS hj hk hF K hK => ?_, ?_⟩
  · skip
    simp only [fillL, cond_true, cond_false, zG0, zG1, StP.is, Act.put, zS2, zS0, zS1, Nat.reduceAdd, MStP.is, Option.isSome_some, Option.isSome_none] at hK ⊢
    simp only [List.sum_cons, List.sum_nil, zG0, zG1, Nat.reduceAdd, Nat.add_zero] at hk
    refine rg_yes (by kernel_rfl) ?_
    clear hF
    go_simp
    exact hK _ _ (Ext.refl _) ⟨fun _ => hj.1 (by omega), fun h => absurd h (by omega)⟩ rfl
  refine ⟨fun y w' k hS hj hk hF K hK => ?_, ?_⟩
  · skip
    simp only [fillL, cond_true, cond_false, zG0, zG1, StP.is, Act.put, zS2, zS0, zS1, Nat.reduceAdd, MStP.is, Option.isSome_some, Option.isSome_none] at hK ⊢
    simp only [List.sum_cons, List.sum_nil, zG0, zG1, Nat.reduceAdd, Nat.add_zero] at hk
    refine rg_yes (by kernel_rfl) ?_
    clear hF
    go_simp
    exact hK _ _ (Ext.refl _) ⟨fun _ => hj.1 (by omega), fun h => absurd h (by omega)⟩ rfl
  refine ⟨fun y w' k hS hj hk hF K hK => ?_, ?_⟩
  · skip
    simp only [fillL, cond_true, cond_false, zG0, zG1, StP.is, Act.put, zS2, zS0, zS1, Nat.reduceAdd, MStP.is, Option.isSome_some, Option.isSome_none] at hK ⊢
    simp only [List.sum_cons, List.sum_nil, zG0, zG1, Nat.reduceAdd, Nat.add_zero] at hk
    refine rg_yes (by kernel_rfl) ?_
    clear hF
    go_simp
    exact hK _ _ (Ext.refl _) ⟨fun _ => hj.1 (by omega), fun h => absurd h (by omega)⟩ rfl
  refine ⟨fun y w' k hS hj hk hF K hK => ?_, ?_⟩
  · skip
    have e38 : y 38 = _ := hF.1
    have e39 : y 39 = _ := hF.2.1
    have e40 : y 40 = _ := hF.2.2.1
    have e38' := Lib.hid e38
    have e39' := Lib.hid e39
    have e40' := Lib.hid e40
    simp only [fillL, cond_true, cond_false, zG0, zG1, StP.is, Act.put, zS2, zS0, zS1, Nat.reduceAdd, e38, e39, e40, MStP.is, Option.isSome_some, Option.isSome_none] at hK ⊢
    simp only [List.sum_cons, List.sum_nil, zG0, zG1, Nat.reduceAdd, Nat.add_zero] at hk
    refine rg_yes (by kernel_rfl) ?_
    clear e38 e39 e40
    clear hF
    go_simp
    exact hK _ _ (Ext.alloc _ _) ⟨fun _ => (Below.block (Ext.alloc _ _) _ (Array.getElem?_eq_some_iff.1 (hj.1 (by omega))).1).trans (hj.1 (by omega)), fun h => absurd h (by omega)⟩ ⟨_, hS.size, rfl, heap_alloc_new _ _⟩
  refine ⟨fun y w' k hS hj hk hF K hK => ?_, ?_⟩
  · skip
    obtain ⟨gs, hBgs, e37, hHgs⟩ := hF.1
    obtain ⟨gp, hBgp, e41, hHgp⟩ := hF.2.1
    have e37' := Lib.hid e37
    have e41' := Lib.hid e41
    simp only [fillL, cond_true, cond_false, zG0, zG1, StP.is, Act.put, zS2, zS0, zS1, Nat.reduceAdd, e37, e41, MStP.is, Option.isSome_some, Option.isSome_none] at hK ⊢
    simp only [List.sum_cons, List.sum_nil, zG0, zG1, Nat.reduceAdd, Nat.add_zero] at hk
    refine rg_yes (by kernel_rfl) ?_
    clear e37 e41
    clear hF
    have hsz := hS.size
    go_simp
    go_at_call 15
    refine (numsS_any gs 3 gp (w1.heap.size) 44 y0 y2 y3 0 0 0 (.string (strB y1)) (.int .i64 0) (.int .i64 0) (.int .i64 0) (.int .i64 0) (.int .i64 0) (.int .i64 0) (.int .i64 0) (.slice none 0 0) w' (fun W hC => HE.out.below (X2.trans ((Chg.trans hS (hC.mono (fun b _ hb => by simpa using hb))).below (fun b _ hb => by subst hb; omega) X2.size))) (celR 0 hHgs) (celR 1 hHgs) (celR 2 hHgs) hHgp (hj.1 (by omega)) (by omega) (by omega) (by omega) (by omega) (by omega)).mono ?_
    unfold numsSR
    rw [← HO0.out]
    rintro e w'' ⟨v0, v1, v2, rfl, hR', hC', hv'⟩
    exact hK _ _ (hC'.mono (fun b _ hb => by simpa using hb)) ⟨fun h => absurd h (by omega), fun _ => ⟨v0, v1, v2, hR', hv'⟩⟩ rfl
  refine ⟨fun y w' k hS hj hk hF K hK => ?_, ?_⟩
  · skip
    have e42 : y 42 = _ := hF.1
    have e42' := Lib.hid e42
    simp only [fillL, cond_true, cond_false, zG0, zG1, StP.is, Act.put, zS2, zS0, zS1, Nat.reduceAdd, e42, MStP.is, Option.isSome_some, Option.isSome_none] at hK ⊢
    simp only [List.sum_cons, List.sum_nil, zG0, zG1, Nat.reduceAdd, Nat.add_zero] at hk
    refine rg_yes (by kernel_rfl) ?_
    clear e42
    clear hF
    go_simp
    exact hK _ _ (Ext.refl _) (by simpa using hj) rfl
  trivial
 case hH => rfl
 case hNS => exact fun a b h => Chg.of_below h _
 case hSt => exact fun a b => Chg.trans a b
 case hb => rfl
 case hdrew => exact (Chg.refl _ _).drewN 1
 case hj0 => exact fun y => ⟨fun _ => H6.out, fun h => absurd h (by omega)⟩
 intro y w3 hS hJ hF
 obtain ⟨v0, v1, v2, hR6, hv6⟩ := hJ.2 (by decide)
 have e5 : y 5 = _ := hF.1
 clear hJ hF
 simp only [fillL, cond_true, cond_false, Nat.reduceAdd, e5]
 clear e5
 have HV := Lib.hid hv6; clear hv6
 have hSC : Chg (fun x => x = w1.heap.size) w2 w3 := hS; clear hS
 have E0 := Lib.hid ((World.cell?_of_block (hSC.block g lg2 hg6)).trans E0.out)
 have E1 := Lib.hid ((World.cell?_of_block (hSC.block g lg2 hg6)).trans E1.out)
 have E2 := Lib.hid ((World.cell?_of_block (hSC.block g lg2 hg6)).trans E2.out)
 have E3 := Lib.hid ((World.cell?_of_block (hSC.block g lg2 hg6)).trans E3.out)
 have E4 := Lib.hid ((World.cell?_of_block (hSC.block g lg2 hg6)).trans E4.out)
 have E5 := Lib.hid ((World.cell?_of_block (hSC.block g lg2 hg6)).trans E5.out)
 have E6 := Lib.hid ((World.cell?_of_block (hSC.block g lg2 hg6)).trans E6.out)
 have E7 := Lib.hid ((World.cell?_of_block (hSC.block g lg2 hg6)).trans E7.out)
 have lg3 : g < w3.heap.size := Nat.lt_of_lt_of_le lg2 hSC.size
 have X3 : Below w.heap.size w w3 := X2.trans (hSC.below (fun b _ hb => by subst hb; omega) X2.size)
 have b3_0 : Hid (w3.heap[w.heap.size]? = some (.cells #[.int .i64 0, .string ⟨#[]⟩, .int .i64 0, .int .i64 0, .int .i64 0, .int .i64 0, .int .i64 0, .int .i64 0, .int .i64 0, .int .i64 0, .int .i64 0, .slice none 0 0] 44 (0, 0))) := Lib.hid ((hSC.block _ l2_0 hr6).trans b2_0.out)
 have b3_1 : Hid (w3.heap[w1.heap.size]? = some (.cells #[.int .i64 v0, .string (strB y1), .int .i64 v1, .int .i64 v2, .int .i64 0, .int .i64 0, .int .i64 0, .int .i64 0, .int .i64 0, .int .i64 0, .int .i64 0, .slice none 0 0] 44 (0, 0))) := Lib.hid hR6
 have zz3 : w2.heap.size ≤ w3.heap.size := hSC.size
 clear hR6 hSC X2 zz2 l6 H6 b2_0 b2_1 l2_0 c2_0_0 f2_0_0 c2_0_1 f2_0_1 c2_0_2 f2_0_2 c2_0_3 f2_0_3 c2_0_4 f2_0_4 c2_0_5 f2_0_5 c2_0_6 f2_0_6 c2_0_7 f2_0_7 c2_0_8 f2_0_8 c2_0_9 f2_0_9 c2_0_10 f2_0_10 c2_0_11 f2_0_11 l2_1 c2_1_0 f2_1_0 c2_1_1 f2_1_1 c2_1_2 f2_1_2 c2_1_3 f2_1_3 c2_1_4 f2_1_4 c2_1_5 f2_1_5 c2_1_6 f2_1_6 c2_1_7 f2_1_7 c2_1_8 f2_1_8 c2_1_9 f2_1_9 c2_1_10 f2_1_10 c2_1_11 f2_1_11
 have l3_0 : w.heap.size < w3.heap.size := (Array.getElem?_eq_some_iff.1 b3_0.out).1
 have c3_0_0 := celR 0 b3_0.out
 have f3_0_0 := block_free b3_0.out 0
 have c3_0_1 := celR 1 b3_0.out
 have f3_0_1 := block_free b3_0.out 1
 have c3_0_2 := celR 2 b3_0.out
 have f3_0_2 := block_free b3_0.out 2
 have c3_0_3 := celR 3 b3_0.out
 have f3_0_3 := block_free b3_0.out 3
 have c3_0_4 := celR 4 b3_0.out
 have f3_0_4 := block_free b3_0.out 4
 have c3_0_5 := celR 5 b3_0.out
 have f3_0_5 := block_free b3_0.out 5
 have c3_0_6 := celR 6 b3_0.out
 have f3_0_6 := block_free b3_0.out 6
 have c3_0_7 := celR 7 b3_0.out
 have f3_0_7 := block_free b3_0.out 7
 have c3_0_8 := celR 8 b3_0.out
 have f3_0_8 := block_free b3_0.out 8
 have c3_0_9 := celR 9 b3_0.out
 have f3_0_9 := block_free b3_0.out 9
 have c3_0_10 := celR 10 b3_0.out
 have f3_0_10 := block_free b3_0.out 10
 have c3_0_11 := celR 11 b3_0.out
 have f3_0_11 := block_free b3_0.out 11
 have l3_1 : w1.heap.size < w3.heap.size := (Array.getElem?_eq_some_iff.1 b3_1.out).1
 have c3_1_0 := celR 0 b3_1.out
 have f3_1_0 := block_free b3_1.out 0
 have c3_1_1 := celR 1 b3_1.out
 have f3_1_1 := block_free b3_1.out 1
 have c3_1_2 := celR 2 b3_1.out
 have f3_1_2 := block_free b3_1.out 2
 have c3_1_3 := celR 3 b3_1.out
 have f3_1_3 := block_free b3_1.out 3
 have c3_1_4 := celR 4 b3_1.out
 have f3_1_4 := block_free b3_1.out 4
 have c3_1_5 := celR 5 b3_1.out
 have f3_1_5 := block_free b3_1.out 5
 have c3_1_6 := celR 6 b3_1.out
 have f3_1_6 := block_free b3_1.out 6
 have c3_1_7 := celR 7 b3_1.out
 have f3_1_7 := block_free b3_1.out 7
 have c3_1_8 := celR 8 b3_1.out
 have f3_1_8 := block_free b3_1.out 8
 have c3_1_9 := celR 9 b3_1.out
 have f3_1_9 := block_free b3_1.out 9
 have c3_1_10 := celR 10 b3_1.out
 have f3_1_10 := block_free b3_1.out 10
 have c3_1_11 := celR 11 b3_1.out
 have f3_1_11 := block_free b3_1.out 11
 have e4 := E4.out
 have e5 := E5.out
 have e6 := E6.out
 go_wp2_with fail
 refine (treeOf_any g 4 _ y4 y5 y6 _ (HE.out.below X3) e4 e5 e6 (by omega) (by omega) (by omega)).mono ?_
 rintro e w4 ⟨a, b, m, d, l, o, hp, rfl, hb4⟩
 obtain ⟨o1, ho1⟩ : ∃ o1, o1 = (o && (numGet y5).isSome && (numGet y6).isSome) := ⟨_, rfl⟩
 rw [← ho1]
 obtain ⟨u, hu⟩ : ∃ u, u = (((numGet y5).getD 0 : Nat) : Int) := ⟨_, rfl⟩
 obtain ⟨v, hv⟩ : ∃ v, v = (((numGet y6).getD 0 : Nat) : Int) := ⟨_, rfl⟩
 rw [← hu, ← hv]
 have HT : Hid (TreeRd y4 y5 y6 ((a, b, m, d, l), u, v) o1) := Lib.hid ⟨o, hp, hu, hv, ho1⟩
 clear hp hu hv ho1 e4 e5 e6
 have E7 := Lib.hid ((hb4.cell lg3).trans E7.out)
 have lg4 : g < w4.heap.size := Nat.lt_of_lt_of_le lg3 hb4.size
 have zz4 : w3.heap.size ≤ w4.heap.size := by have := hb4.size; simpa [World.setCell] using this
 have YY4 : Below w.heap.size w w3 := X3
 have X4 : Below w.heap.size w w4 := YY4.trans (hb4.mono YY4.size)
 clear YY4
 have b4_0 : Hid (w4.heap[w.heap.size]? = some (.cells #[.int .i64 0, .string ⟨#[]⟩, .int .i64 0, .int .i64 0, .int .i64 0, .int .i64 0, .int .i64 0, .int .i64 0, .int .i64 0, .int .i64 0, .int .i64 0, .slice none 0 0] 44 (0, 0))) := Lib.hid ((hb4.block _ (by first | omega | (simp [World.setCell] <;> omega))).trans b3_0.out)
 have b4_1 : Hid (w4.heap[w1.heap.size]? = some (.cells #[.int .i64 v0, .string (strB y1), .int .i64 v1, .int .i64 v2, .int .i64 0, .int .i64 0, .int .i64 0, .int .i64 0, .int .i64 0, .int .i64 0, .int .i64 0, .slice none 0 0] 44 (0, 0))) := Lib.hid ((hb4.block _ (by first | omega | (simp [World.setCell] <;> omega))).trans b3_1.out)
 clear b3_0 b3_1 X3 zz3 l3_0 c3_0_0 f3_0_0 c3_0_1 f3_0_1 c3_0_2 f3_0_2 c3_0_3 f3_0_3 c3_0_4 f3_0_4 c3_0_5 f3_0_5 c3_0_6 f3_0_6 c3_0_7 f3_0_7 c3_0_8 f3_0_8 c3_0_9 f3_0_9 c3_0_10 f3_0_10 c3_0_11 f3_0_11 l3_1 c3_1_0 f3_1_0 c3_1_1 f3_1_1 c3_1_2 f3_1_2 c3_1_3 f3_1_3 c3_1_4 f3_1_4 c3_1_5 f3_1_5 c3_1_6 f3_1_6 c3_1_7 f3_1_7 c3_1_8 f3_1_8 c3_1_9 f3_1_9 c3_1_10 f3_1_10 c3_1_11 f3_1_11 hb4
 have l4_0 : w.heap.size < w4.heap.size := (Array.getElem?_eq_some_iff.1 b4_0.out).1
 have c4_0_0 := celR 0 b4_0.out
 have f4_0_0 := block_free b4_0.out 0
 have c4_0_1 := celR 1 b4_0.out
 have f4_0_1 := block_free b4_0.out 1
 have c4_0_2 := celR 2 b4_0.out
 have f4_0_2 := block_free b4_0.out 2
 have c4_0_3 := celR 3 b4_0.out
 have f4_0_3 := block_free b4_0.out 3
 have c4_0_4 := celR 4 b4_0.out
 have f4_0_4 := block_free b4_0.out 4
 have c4_0_5 := celR 5 b4_0.out
 have f4_0_5 := block_free b4_0.out 5
 have c4_0_6 := celR 6 b4_0.out
 have f4_0_6 := block_free b4_0.out 6
 have c4_0_7 := celR 7 b4_0.out
 have f4_0_7 := block_free b4_0.out 7
 have c4_0_8 := celR 8 b4_0.out
 have f4_0_8 := block_free b4_0.out 8
 have c4_0_9 := celR 9 b4_0.out
 have f4_0_9 := block_free b4_0.out 9
 have c4_0_10 := celR 10 b4_0.out
 have f4_0_10 := block_free b4_0.out 10
 have c4_0_11 := celR 11 b4_0.out
 have f4_0_11 := block_free b4_0.out 11
 have l4_1 : w1.heap.size < w4.heap.size := (Array.getElem?_eq_some_iff.1 b4_1.out).1
 have c4_1_0 := celR 0 b4_1.out
 have f4_1_0 := block_free b4_1.out 0
 have c4_1_1 := celR 1 b4_1.out
 have f4_1_1 := block_free b4_1.out 1
 have c4_1_2 := celR 2 b4_1.out
 have f4_1_2 := block_free b4_1.out 2
 have c4_1_3 := celR 3 b4_1.out
 have f4_1_3 := block_free b4_1.out 3
 have c4_1_4 := celR 4 b4_1.out
 have f4_1_4 := block_free b4_1.out 4
 have c4_1_5 := celR 5 b4_1.out
 have f4_1_5 := block_free b4_1.out 5
 have c4_1_6 := celR 6 b4_1.out
 have f4_1_6 := block_free b4_1.out 6
 have c4_1_7 := celR 7 b4_1.out
 have f4_1_7 := block_free b4_1.out 7
 have c4_1_8 := celR 8 b4_1.out
 have f4_1_8 := block_free b4_1.out 8
 have c4_1_9 := celR 9 b4_1.out
 have f4_1_9 := block_free b4_1.out 9
 have c4_1_10 := celR 10 b4_1.out
 have f4_1_10 := block_free b4_1.out 10
 have c4_1_11 := celR 11 b4_1.out
 have f4_1_11 := block_free b4_1.out 11
 have e7 := E7.out
 go_wp2_with fail
 refine (deadOf_any y7 _ (HE.out.below (Below.alloc X4 (by have := X4.size; simp [World.setCell] <;> omega) _)) (by omega)).mono ?_
 rintro e w5 ⟨A, n, c, S, ds, o2, rfl, hn, hPS, hDR, hdl, hb5⟩
 have HPS := Lib.hid hPS; have HDR := Lib.hid hDR; have HNN := Lib.hid hn; have HDL := Lib.hid hdl; clear hPS hDR hn hdl e7
 have hzB : w.heap.size ≤ ((World.alloc w4 (.cells #[.int .i64 a, .int .i64 b, .int .i64 m, .int .i64 d, .int .i64 l, .int .i64 u, .int .i64 v] 39))).heap.size := by have h_ := l4_0; simp; omega
 have hw4 : w4.heap.size ≤ ((World.alloc w4 (.cells #[.int .i64 a, .int .i64 b, .int .i64 m, .int .i64 d, .int .i64 l, .int .i64 u, .int .i64 v] 39))).heap.size := by simp
 have HSB : Hid (∀ g ∈ S, w4.heap.size ≤ g) := Lib.hid (fun g hg => Nat.le_trans hw4 (HPS.out.2 g hg)); clear hw4
 have hnr : w.heap.size ∉ S := fun h => by have := HSB.out _ h; have := l4_0; omega
 have hn6 : w1.heap.size ∉ S := fun h => by have := HSB.out _ h; have := l4_1; omega
 have zz5 : w4.heap.size + 1 ≤ w5.heap.size := by have := hb5.size; simp [World.setCell] at this; omega
 have YY5 : Below w.heap.size w (World.alloc w4 (.cells #[.int .i64 a, .int .i64 b, .int .i64 m, .int .i64 d, .int .i64 l, .int .i64 u, .int .i64 v] 39)) := (Below.alloc X4 (by have := X4.size; simp [World.setCell] <;> omega) _)
 have X5 : Below w.heap.size w w5 := YY5.trans (hb5.mono YY5.size)
 clear YY5
 have b5_0 : Hid (w5.heap[w.heap.size]? = some (.cells #[.int .i64 0, .string ⟨#[]⟩, .int .i64 0, .int .i64 0, .int .i64 0, .int .i64 0, .int .i64 0, .int .i64 0, .int .i64 0, .int .i64 0, .int .i64 0, .slice none 0 0] 44 (0, 0))) := Lib.hid ((hb5.block _ (by first | omega | (simp [World.setCell] <;> omega))).trans ((Below.heap_alloc _ _ _ (by first | omega | (simp [World.setCell] <;> omega))).trans b4_0.out))
 have b5_1 : Hid (w5.heap[w1.heap.size]? = some (.cells #[.int .i64 v0, .string (strB y1), .int .i64 v1, .int .i64 v2, .int .i64 0, .int .i64 0, .int .i64 0, .int .i64 0, .int .i64 0, .int .i64 0, .int .i64 0, .slice none 0 0] 44 (0, 0))) := Lib.hid ((hb5.block _ (by first | omega | (simp [World.setCell] <;> omega))).trans ((Below.heap_alloc _ _ _ (by first | omega | (simp [World.setCell] <;> omega))).trans b4_1.out))
 have b5_2 : Hid (w5.heap[w4.heap.size]? = some (.cells #[.int .i64 a, .int .i64 b, .int .i64 m, .int .i64 d, .int .i64 l, .int .i64 u, .int .i64 v] 39 (0, 0))) := Lib.hid ((hb5.block _ (by first | omega | (simp [World.setCell] <;> omega))).trans (show _ from by have := heap_alloc_new w4 (.cells #[.int .i64 a, .int .i64 b, .int .i64 m, .int .i64 d, .int .i64 l, .int .i64 u, .int .i64 v] 39); simpa [World.setCell] using this))
 clear b4_0 b4_1 X4 zz4 l4_0 c4_0_0 f4_0_0 c4_0_1 f4_0_1 c4_0_2 f4_0_2 c4_0_3 f4_0_3 c4_0_4 f4_0_4 c4_0_5 f4_0_5 c4_0_6 f4_0_6 c4_0_7 f4_0_7 c4_0_8 f4_0_8 c4_0_9 f4_0_9 c4_0_10 f4_0_10 c4_0_11 f4_0_11 l4_1 c4_1_0 f4_1_0 c4_1_1 f4_1_1 c4_1_2 f4_1_2 c4_1_3 f4_1_3 c4_1_4 f4_1_4 c4_1_5 f4_1_5 c4_1_6 f4_1_6 c4_1_7 f4_1_7 c4_1_8 f4_1_8 c4_1_9 f4_1_9 c4_1_10 f4_1_10 c4_1_11 f4_1_11 hb5
 have l5_0 : w.heap.size < w5.heap.size := (Array.getElem?_eq_some_iff.1 b5_0.out).1
 have c5_0_0 := celR 0 b5_0.out
 have f5_0_0 := block_free b5_0.out 0
 have c5_0_1 := celR 1 b5_0.out
 have f5_0_1 := block_free b5_0.out 1
 have c5_0_2 := celR 2 b5_0.out
 have f5_0_2 := block_free b5_0.out 2
 have c5_0_3 := celR 3 b5_0.out
 have f5_0_3 := block_free b5_0.out 3
 have c5_0_4 := celR 4 b5_0.out
 have f5_0_4 := block_free b5_0.out 4
 have c5_0_5 := celR 5 b5_0.out
 have f5_0_5 := block_free b5_0.out 5
 have c5_0_6 := celR 6 b5_0.out
 have f5_0_6 := block_free b5_0.out 6
 have c5_0_7 := celR 7 b5_0.out
 have f5_0_7 := block_free b5_0.out 7
 have c5_0_8 := celR 8 b5_0.out
 have f5_0_8 := block_free b5_0.out 8
 have c5_0_9 := celR 9 b5_0.out
 have f5_0_9 := block_free b5_0.out 9
 have c5_0_10 := celR 10 b5_0.out
 have f5_0_10 := block_free b5_0.out 10
 have c5_0_11 := celR 11 b5_0.out
 have f5_0_11 := block_free b5_0.out 11
 have l5_1 : w1.heap.size < w5.heap.size := (Array.getElem?_eq_some_iff.1 b5_1.out).1
 have c5_1_0 := celR 0 b5_1.out
 have f5_1_0 := block_free b5_1.out 0
 have c5_1_1 := celR 1 b5_1.out
 have f5_1_1 := block_free b5_1.out 1
 have c5_1_2 := celR 2 b5_1.out
 have f5_1_2 := block_free b5_1.out 2
 have c5_1_3 := celR 3 b5_1.out
 have f5_1_3 := block_free b5_1.out 3
 have c5_1_4 := celR 4 b5_1.out
 have f5_1_4 := block_free b5_1.out 4
 have c5_1_5 := celR 5 b5_1.out
 have f5_1_5 := block_free b5_1.out 5
 have c5_1_6 := celR 6 b5_1.out
 have f5_1_6 := block_free b5_1.out 6
 have c5_1_7 := celR 7 b5_1.out
 have f5_1_7 := block_free b5_1.out 7
 have c5_1_8 := celR 8 b5_1.out
 have f5_1_8 := block_free b5_1.out 8
 have c5_1_9 := celR 9 b5_1.out
 have f5_1_9 := block_free b5_1.out 9
 have c5_1_10 := celR 10 b5_1.out
 have f5_1_10 := block_free b5_1.out 10
 have c5_1_11 := celR 11 b5_1.out
 have f5_1_11 := block_free b5_1.out 11
 have l5_2 : w4.heap.size < w5.heap.size := (Array.getElem?_eq_some_iff.1 b5_2.out).1
 have c5_2_0 := celR 0 b5_2.out
 have f5_2_0 := block_free b5_2.out 0
 have c5_2_1 := celR 1 b5_2.out
 have f5_2_1 := block_free b5_2.out 1
 have c5_2_2 := celR 2 b5_2.out
 have f5_2_2 := block_free b5_2.out 2
 have c5_2_3 := celR 3 b5_2.out
 have f5_2_3 := block_free b5_2.out 3
 have c5_2_4 := celR 4 b5_2.out
 have f5_2_4 := block_free b5_2.out 4
 have c5_2_5 := celR 5 b5_2.out
 have f5_2_5 := block_free b5_2.out 5
 have c5_2_6 := celR 6 b5_2.out
 have f5_2_6 := block_free b5_2.out 6
 have HRD : Hid (SnapRd s (v0, strB y1, v1, v2, ((a, b, m, d, l), u, v), ds) (o0 && o1 && o2)) := Lib.hid (snap_read HR.out HO0.out HV.out HT.out HDR.out)
 cases o0
 case false =>
  have HRR : Hid (((World.setCell (World.setCell (World.setCell (World.setCell (World.setCell (World.setCell (World.setCell (World.setCell w5 ⟨w1.heap.size, 4, none⟩ (.int .i64 a)) ⟨w1.heap.size, 5, none⟩ (.int .i64 b)) ⟨w1.heap.size, 6, none⟩ (.int .i64 m)) ⟨w1.heap.size, 7, none⟩ (.int .i64 d)) ⟨w1.heap.size, 8, none⟩ (.int .i64 l)) ⟨w1.heap.size, 9, none⟩ (.int .i64 u)) ⟨w1.heap.size, 10, none⟩ (.int .i64 v)) ⟨w1.heap.size, 11, none⟩ (.slice A n c))).heap[w.heap.size]? = some (.cells #[.int .i64 0, .string ⟨#[]⟩, .int .i64 0, .int .i64 0, .int .i64 0, .int .i64 0, .int .i64 0, .int .i64 0, .int .i64 0, .int .i64 0, .int .i64 0, .slice none 0 0] 44 (0, 0))) := Lib.hid (((heap_far (by first | omega | (simp <;> omega))).trans ((heap_far (by first | omega | (simp <;> omega))).trans ((heap_far (by first | omega | (simp <;> omega))).trans ((heap_far (by first | omega | (simp <;> omega))).trans ((heap_far (by first | omega | (simp <;> omega))).trans ((heap_far (by first | omega | (simp <;> omega))).trans ((heap_far (by first | omega | (simp <;> omega))).trans ((heap_far (by first | omega | (simp <;> omega))).trans b5_0.out)))))))))
  have HBL : Hid (Below w.heap.size w (World.setCell (World.setCell (World.setCell (World.setCell (World.setCell (World.setCell (World.setCell (World.setCell w5 ⟨w1.heap.size, 4, none⟩ (.int .i64 a)) ⟨w1.heap.size, 5, none⟩ (.int .i64 b)) ⟨w1.heap.size, 6, none⟩ (.int .i64 m)) ⟨w1.heap.size, 7, none⟩ (.int .i64 d)) ⟨w1.heap.size, 8, none⟩ (.int .i64 l)) ⟨w1.heap.size, 9, none⟩ (.int .i64 u)) ⟨w1.heap.size, 10, none⟩ (.int .i64 v)) ⟨w1.heap.size, 11, none⟩ (.slice A n c))) := Lib.hid (Below.setCell (p := ⟨w1.heap.size, 11, none⟩) (Below.setCell (p := ⟨w1.heap.size, 10, none⟩) (Below.setCell (p := ⟨w1.heap.size, 9, none⟩) (Below.setCell (p := ⟨w1.heap.size, 8, none⟩) (Below.setCell (p := ⟨w1.heap.size, 7, none⟩) (Below.setCell (p := ⟨w1.heap.size, 6, none⟩) (Below.setCell (p := ⟨w1.heap.size, 5, none⟩) (Below.setCell (p := ⟨w1.heap.size, 4, none⟩) X5 (by have := X5.size; simp <;> omega) _) (by have := X5.size; simp <;> omega) _) (by have := X5.size; simp <;> omega) _) (by have := X5.size; simp <;> omega) _) (by have := X5.size; simp <;> omega) _) (by have := X5.size; simp <;> omega) _) (by have := X5.size; simp <;> omega) _) (by have := X5.size; simp <;> omega) _)
  go_wp2_with fail
  have hst := setM_12 (x0 := .int .i64 v0) (x1 := .string (strB y1)) (x2 := .int .i64 v1) (x3 := .int .i64 v2) (x4 := .int .i64 a) (x5 := .int .i64 b) (x6 := .int .i64 m) (x7 := .int .i64 d) (x8 := .int .i64 l) (x9 := .int .i64 u) (x10 := .int .i64 v) (x11 := .slice A n c) HRR.out
  have r0 := celR 0 hst
  have r1 := celR 1 hst
  have r2 := celR 2 hst
  have r3 := celR 3 hst
  have r4 := celR 4 hst
  have r5 := celR 5 hst
  have r6 := celR 6 hst
  have r7 := celR 7 hst
  have r8 := celR 8 hst
  have r9 := celR 9 hst
  have r10 := celR 10 hst
  have r11 := celR 11 hst
  clear hst
  exact bodyPost_ret (v := .tuple #[.agg #[.int .i64 v0, .string (strB y1), .int .i64 v1, .int .i64 v2, .int .i64 a, .int .i64 b, .int .i64 m, .int .i64 d, .int .i64 l, .int .i64 u, .int .i64 v, .slice A n c], .bool false]) (by simp [results, Tryz.results16, go_sem, r0, r1, r2, r3, r4, r5, r6, r7, r8, r9, r10, r11]) rfl (⟨strB y1, v0, v1, v2, a, b, m, d, l, u, v, ds, A, n, c, S, false, rfl, HNN.out, (PtrsAt.setCell (p := ⟨w.heap.size, 11, none⟩) (PtrsAt.setCell (p := ⟨w.heap.size, 10, none⟩) (PtrsAt.setCell (p := ⟨w.heap.size, 9, none⟩) (PtrsAt.setCell (p := ⟨w.heap.size, 8, none⟩) (PtrsAt.setCell (p := ⟨w.heap.size, 7, none⟩) (PtrsAt.setCell (p := ⟨w.heap.size, 6, none⟩) (PtrsAt.setCell (p := ⟨w.heap.size, 5, none⟩) (PtrsAt.setCell (p := ⟨w.heap.size, 4, none⟩) (PtrsAt.setCell (p := ⟨w.heap.size, 3, none⟩) (PtrsAt.setCell (p := ⟨w.heap.size, 2, none⟩) (PtrsAt.setCell (p := ⟨w.heap.size, 1, none⟩) (PtrsAt.setCell (p := ⟨w.heap.size, 0, none⟩) (PtrsAt.setCell (p := ⟨w1.heap.size, 11, none⟩) (PtrsAt.setCell (p := ⟨w1.heap.size, 10, none⟩) (PtrsAt.setCell (p := ⟨w1.heap.size, 9, none⟩) (PtrsAt.setCell (p := ⟨w1.heap.size, 8, none⟩) (PtrsAt.setCell (p := ⟨w1.heap.size, 7, none⟩) (PtrsAt.setCell (p := ⟨w1.heap.size, 6, none⟩) (PtrsAt.setCell (p := ⟨w1.heap.size, 5, none⟩) (PtrsAt.setCell (p := ⟨w1.heap.size, 4, none⟩) (HPS.out.mono hzB) hn6) hn6) hn6) hn6) hn6) hn6) hn6) hn6) hnr) hnr) hnr) hnr) hnr) hnr) hnr) hnr) hnr) hnr) hnr) hnr), HRD.out, by rw [strB_size]; omega, HDL.out, (Below.setCell (p := ⟨w.heap.size, 11, none⟩) (Below.setCell (p := ⟨w.heap.size, 10, none⟩) (Below.setCell (p := ⟨w.heap.size, 9, none⟩) (Below.setCell (p := ⟨w.heap.size, 8, none⟩) (Below.setCell (p := ⟨w.heap.size, 7, none⟩) (Below.setCell (p := ⟨w.heap.size, 6, none⟩) (Below.setCell (p := ⟨w.heap.size, 5, none⟩) (Below.setCell (p := ⟨w.heap.size, 4, none⟩) (Below.setCell (p := ⟨w.heap.size, 3, none⟩) (Below.setCell (p := ⟨w.heap.size, 2, none⟩) (Below.setCell (p := ⟨w.heap.size, 1, none⟩) (Below.setCell (p := ⟨w.heap.size, 0, none⟩) HBL.out (Nat.le_refl _) _) (Nat.le_refl _) _) (Nat.le_refl _) _) (Nat.le_refl _) _) (Nat.le_refl _) _) (Nat.le_refl _) _) (Nat.le_refl _) _) (Nat.le_refl _) _) (Nat.le_refl _) _) (Nat.le_refl _) _) (Nat.le_refl _) _) (Nat.le_refl _) _)⟩)
 cases o1
 case false =>
  have HRR : Hid (((World.setCell (World.setCell (World.setCell (World.setCell (World.setCell (World.setCell (World.setCell (World.setCell w5 ⟨w1.heap.size, 4, none⟩ (.int .i64 a)) ⟨w1.heap.size, 5, none⟩ (.int .i64 b)) ⟨w1.heap.size, 6, none⟩ (.int .i64 m)) ⟨w1.heap.size, 7, none⟩ (.int .i64 d)) ⟨w1.heap.size, 8, none⟩ (.int .i64 l)) ⟨w1.heap.size, 9, none⟩ (.int .i64 u)) ⟨w1.heap.size, 10, none⟩ (.int .i64 v)) ⟨w1.heap.size, 11, none⟩ (.slice A n c))).heap[w.heap.size]? = some (.cells #[.int .i64 0, .string ⟨#[]⟩, .int .i64 0, .int .i64 0, .int .i64 0, .int .i64 0, .int .i64 0, .int .i64 0, .int .i64 0, .int .i64 0, .int .i64 0, .slice none 0 0] 44 (0, 0))) := Lib.hid (((heap_far (by first | omega | (simp <;> omega))).trans ((heap_far (by first | omega | (simp <;> omega))).trans ((heap_far (by first | omega | (simp <;> omega))).trans ((heap_far (by first | omega | (simp <;> omega))).trans ((heap_far (by first | omega | (simp <;> omega))).trans ((heap_far (by first | omega | (simp <;> omega))).trans ((heap_far (by first | omega | (simp <;> omega))).trans ((heap_far (by first | omega | (simp <;> omega))).trans b5_0.out)))))))))
  have HBL : Hid (Below w.heap.size w (World.setCell (World.setCell (World.setCell (World.setCell (World.setCell (World.setCell (World.setCell (World.setCell w5 ⟨w1.heap.size, 4, none⟩ (.int .i64 a)) ⟨w1.heap.size, 5, none⟩ (.int .i64 b)) ⟨w1.heap.size, 6, none⟩ (.int .i64 m)) ⟨w1.heap.size, 7, none⟩ (.int .i64 d)) ⟨w1.heap.size, 8, none⟩ (.int .i64 l)) ⟨w1.heap.size, 9, none⟩ (.int .i64 u)) ⟨w1.heap.size, 10, none⟩ (.int .i64 v)) ⟨w1.heap.size, 11, none⟩ (.slice A n c))) := Lib.hid (Below.setCell (p := ⟨w1.heap.size, 11, none⟩) (Below.setCell (p := ⟨w1.heap.size, 10, none⟩) (Below.setCell (p := ⟨w1.heap.size, 9, none⟩) (Below.setCell (p := ⟨w1.heap.size, 8, none⟩) (Below.setCell (p := ⟨w1.heap.size, 7, none⟩) (Below.setCell (p := ⟨w1.heap.size, 6, none⟩) (Below.setCell (p := ⟨w1.heap.size, 5, none⟩) (Below.setCell (p := ⟨w1.heap.size, 4, none⟩) X5 (by have := X5.size; simp <;> omega) _) (by have := X5.size; simp <;> omega) _) (by have := X5.size; simp <;> omega) _) (by have := X5.size; simp <;> omega) _) (by have := X5.size; simp <;> omega) _) (by have := X5.size; simp <;> omega) _) (by have := X5.size; simp <;> omega) _) (by have := X5.size; simp <;> omega) _)
  go_wp2_with fail
  have hst := setM_12 (x0 := .int .i64 v0) (x1 := .string (strB y1)) (x2 := .int .i64 v1) (x3 := .int .i64 v2) (x4 := .int .i64 a) (x5 := .int .i64 b) (x6 := .int .i64 m) (x7 := .int .i64 d) (x8 := .int .i64 l) (x9 := .int .i64 u) (x10 := .int .i64 v) (x11 := .slice A n c) HRR.out
  have r0 := celR 0 hst
  have r1 := celR 1 hst
  have r2 := celR 2 hst
  have r3 := celR 3 hst
  have r4 := celR 4 hst
  have r5 := celR 5 hst
  have r6 := celR 6 hst
  have r7 := celR 7 hst
  have r8 := celR 8 hst
  have r9 := celR 9 hst
  have r10 := celR 10 hst
  have r11 := celR 11 hst
  clear hst
  exact bodyPost_ret (v := .tuple #[.agg #[.int .i64 v0, .string (strB y1), .int .i64 v1, .int .i64 v2, .int .i64 a, .int .i64 b, .int .i64 m, .int .i64 d, .int .i64 l, .int .i64 u, .int .i64 v, .slice A n c], .bool false]) (by simp [results, Tryz.results16, go_sem, r0, r1, r2, r3, r4, r5, r6, r7, r8, r9, r10, r11]) rfl (⟨strB y1, v0, v1, v2, a, b, m, d, l, u, v, ds, A, n, c, S, false, rfl, HNN.out, (PtrsAt.setCell (p := ⟨w.heap.size, 11, none⟩) (PtrsAt.setCell (p := ⟨w.heap.size, 10, none⟩) (PtrsAt.setCell (p := ⟨w.heap.size, 9, none⟩) (PtrsAt.setCell (p := ⟨w.heap.size, 8, none⟩) (PtrsAt.setCell (p := ⟨w.heap.size, 7, none⟩) (PtrsAt.setCell (p := ⟨w.heap.size, 6, none⟩) (PtrsAt.setCell (p := ⟨w.heap.size, 5, none⟩) (PtrsAt.setCell (p := ⟨w.heap.size, 4, none⟩) (PtrsAt.setCell (p := ⟨w.heap.size, 3, none⟩) (PtrsAt.setCell (p := ⟨w.heap.size, 2, none⟩) (PtrsAt.setCell (p := ⟨w.heap.size, 1, none⟩) (PtrsAt.setCell (p := ⟨w.heap.size, 0, none⟩) (PtrsAt.setCell (p := ⟨w1.heap.size, 11, none⟩) (PtrsAt.setCell (p := ⟨w1.heap.size, 10, none⟩) (PtrsAt.setCell (p := ⟨w1.heap.size, 9, none⟩) (PtrsAt.setCell (p := ⟨w1.heap.size, 8, none⟩) (PtrsAt.setCell (p := ⟨w1.heap.size, 7, none⟩) (PtrsAt.setCell (p := ⟨w1.heap.size, 6, none⟩) (PtrsAt.setCell (p := ⟨w1.heap.size, 5, none⟩) (PtrsAt.setCell (p := ⟨w1.heap.size, 4, none⟩) (HPS.out.mono hzB) hn6) hn6) hn6) hn6) hn6) hn6) hn6) hn6) hnr) hnr) hnr) hnr) hnr) hnr) hnr) hnr) hnr) hnr) hnr) hnr), HRD.out, by rw [strB_size]; omega, HDL.out, (Below.setCell (p := ⟨w.heap.size, 11, none⟩) (Below.setCell (p := ⟨w.heap.size, 10, none⟩) (Below.setCell (p := ⟨w.heap.size, 9, none⟩) (Below.setCell (p := ⟨w.heap.size, 8, none⟩) (Below.setCell (p := ⟨w.heap.size, 7, none⟩) (Below.setCell (p := ⟨w.heap.size, 6, none⟩) (Below.setCell (p := ⟨w.heap.size, 5, none⟩) (Below.setCell (p := ⟨w.heap.size, 4, none⟩) (Below.setCell (p := ⟨w.heap.size, 3, none⟩) (Below.setCell (p := ⟨w.heap.size, 2, none⟩) (Below.setCell (p := ⟨w.heap.size, 1, none⟩) (Below.setCell (p := ⟨w.heap.size, 0, none⟩) HBL.out (Nat.le_refl _) _) (Nat.le_refl _) _) (Nat.le_refl _) _) (Nat.le_refl _) _) (Nat.le_refl _) _) (Nat.le_refl _) _) (Nat.le_refl _) _) (Nat.le_refl _) _) (Nat.le_refl _) _) (Nat.le_refl _) _) (Nat.le_refl _) _) (Nat.le_refl _) _)⟩)
 have HRR : Hid (((World.setCell (World.setCell (World.setCell (World.setCell (World.setCell (World.setCell (World.setCell (World.setCell w5 ⟨w1.heap.size, 4, none⟩ (.int .i64 a)) ⟨w1.heap.size, 5, none⟩ (.int .i64 b)) ⟨w1.heap.size, 6, none⟩ (.int .i64 m)) ⟨w1.heap.size, 7, none⟩ (.int .i64 d)) ⟨w1.heap.size, 8, none⟩ (.int .i64 l)) ⟨w1.heap.size, 9, none⟩ (.int .i64 u)) ⟨w1.heap.size, 10, none⟩ (.int .i64 v)) ⟨w1.heap.size, 11, none⟩ (.slice A n c))).heap[w.heap.size]? = some (.cells #[.int .i64 0, .string ⟨#[]⟩, .int .i64 0, .int .i64 0, .int .i64 0, .int .i64 0, .int .i64 0, .int .i64 0, .int .i64 0, .int .i64 0, .int .i64 0, .slice none 0 0] 44 (0, 0))) := Lib.hid (((heap_far (by first | omega | (simp <;> omega))).trans ((heap_far (by first | omega | (simp <;> omega))).trans ((heap_far (by first | omega | (simp <;> omega))).trans ((heap_far (by first | omega | (simp <;> omega))).trans ((heap_far (by first | omega | (simp <;> omega))).trans ((heap_far (by first | omega | (simp <;> omega))).trans ((heap_far (by first | omega | (simp <;> omega))).trans ((heap_far (by first | omega | (simp <;> omega))).trans b5_0.out)))))))))
 have HBL : Hid (Below w.heap.size w (World.setCell (World.setCell (World.setCell (World.setCell (World.setCell (World.setCell (World.setCell (World.setCell w5 ⟨w1.heap.size, 4, none⟩ (.int .i64 a)) ⟨w1.heap.size, 5, none⟩ (.int .i64 b)) ⟨w1.heap.size, 6, none⟩ (.int .i64 m)) ⟨w1.heap.size, 7, none⟩ (.int .i64 d)) ⟨w1.heap.size, 8, none⟩ (.int .i64 l)) ⟨w1.heap.size, 9, none⟩ (.int .i64 u)) ⟨w1.heap.size, 10, none⟩ (.int .i64 v)) ⟨w1.heap.size, 11, none⟩ (.slice A n c))) := Lib.hid (Below.setCell (p := ⟨w1.heap.size, 11, none⟩) (Below.setCell (p := ⟨w1.heap.size, 10, none⟩) (Below.setCell (p := ⟨w1.heap.size, 9, none⟩) (Below.setCell (p := ⟨w1.heap.size, 8, none⟩) (Below.setCell (p := ⟨w1.heap.size, 7, none⟩) (Below.setCell (p := ⟨w1.heap.size, 6, none⟩) (Below.setCell (p := ⟨w1.heap.size, 5, none⟩) (Below.setCell (p := ⟨w1.heap.size, 4, none⟩) X5 (by have := X5.size; simp <;> omega) _) (by have := X5.size; simp <;> omega) _) (by have := X5.size; simp <;> omega) _) (by have := X5.size; simp <;> omega) _) (by have := X5.size; simp <;> omega) _) (by have := X5.size; simp <;> omega) _) (by have := X5.size; simp <;> omega) _) (by have := X5.size; simp <;> omega) _)
 go_wp2_with fail
 have hst := setM_12 (x0 := .int .i64 v0) (x1 := .string (strB y1)) (x2 := .int .i64 v1) (x3 := .int .i64 v2) (x4 := .int .i64 a) (x5 := .int .i64 b) (x6 := .int .i64 m) (x7 := .int .i64 d) (x8 := .int .i64 l) (x9 := .int .i64 u) (x10 := .int .i64 v) (x11 := .slice A n c) HRR.out
 have r0 := celR 0 hst
 have r1 := celR 1 hst
 have r2 := celR 2 hst
 have r3 := celR 3 hst
 have r4 := celR 4 hst
 have r5 := celR 5 hst
 have r6 := celR 6 hst
 have r7 := celR 7 hst
 have r8 := celR 8 hst
 have r9 := celR 9 hst
 have r10 := celR 10 hst
 have r11 := celR 11 hst
 clear hst
 exact bodyPost_ret (v := .tuple #[.agg #[.int .i64 v0, .string (strB y1), .int .i64 v1, .int .i64 v2, .int .i64 a, .int .i64 b, .int .i64 m, .int .i64 d, .int .i64 l, .int .i64 u, .int .i64 v, .slice A n c], .bool o2]) (by simp [results, Tryz.results16, go_sem, r0, r1, r2, r3, r4, r5, r6, r7, r8, r9, r10, r11]) rfl (⟨strB y1, v0, v1, v2, a, b, m, d, l, u, v, ds, A, n, c, S, o2, rfl, HNN.out, (PtrsAt.setCell (p := ⟨w.heap.size, 11, none⟩) (PtrsAt.setCell (p := ⟨w.heap.size, 10, none⟩) (PtrsAt.setCell (p := ⟨w.heap.size, 9, none⟩) (PtrsAt.setCell (p := ⟨w.heap.size, 8, none⟩) (PtrsAt.setCell (p := ⟨w.heap.size, 7, none⟩) (PtrsAt.setCell (p := ⟨w.heap.size, 6, none⟩) (PtrsAt.setCell (p := ⟨w.heap.size, 5, none⟩) (PtrsAt.setCell (p := ⟨w.heap.size, 4, none⟩) (PtrsAt.setCell (p := ⟨w.heap.size, 3, none⟩) (PtrsAt.setCell (p := ⟨w.heap.size, 2, none⟩) (PtrsAt.setCell (p := ⟨w.heap.size, 1, none⟩) (PtrsAt.setCell (p := ⟨w.heap.size, 0, none⟩) (PtrsAt.setCell (p := ⟨w1.heap.size, 11, none⟩) (PtrsAt.setCell (p := ⟨w1.heap.size, 10, none⟩) (PtrsAt.setCell (p := ⟨w1.heap.size, 9, none⟩) (PtrsAt.setCell (p := ⟨w1.heap.size, 8, none⟩) (PtrsAt.setCell (p := ⟨w1.heap.size, 7, none⟩) (PtrsAt.setCell (p := ⟨w1.heap.size, 6, none⟩) (PtrsAt.setCell (p := ⟨w1.heap.size, 5, none⟩) (PtrsAt.setCell (p := ⟨w1.heap.size, 4, none⟩) (HPS.out.mono hzB) hn6) hn6) hn6) hn6) hn6) hn6) hn6) hn6) hnr) hnr) hnr) hnr) hnr) hnr) hnr) hnr) hnr) hnr) hnr) hnr), by have h_ := HRD.out; simpa using h_, by rw [strB_size]; omega, HDL.out, (Below.setCell (p := ⟨w.heap.size, 11, none⟩) (Below.setCell (p := ⟨w.heap.size, 10, none⟩) (Below.setCell (p := ⟨w.heap.size, 9, none⟩) (Below.setCell (p := ⟨w.heap.size, 8, none⟩) (Below.setCell (p := ⟨w.heap.size, 7, none⟩) (Below.setCell (p := ⟨w.heap.size, 6, none⟩) (Below.setCell (p := ⟨w.heap.size, 5, none⟩) (Below.setCell (p := ⟨w.heap.size, 4, none⟩) (Below.setCell (p := ⟨w.heap.size, 3, none⟩) (Below.setCell (p := ⟨w.heap.size, 2, none⟩) (Below.setCell (p := ⟨w.heap.size, 1, none⟩) (Below.setCell (p := ⟨w.heap.size, 0, none⟩) HBL.out (Nat.le_refl _) _) (Nat.le_refl _) _) (Nat.le_refl _) _) (Nat.le_refl _) _) (Nat.le_refl _) _) (Nat.le_refl _) _) (Nat.le_refl _) _) (Nat.le_refl _) _) (Nat.le_refl _) _) (Nat.le_refl _) _) (Nat.le_refl _) _) (Nat.le_refl _) _)⟩)
end Go.Proofs.YtlacpcdbgimnmaaGreatDoor
