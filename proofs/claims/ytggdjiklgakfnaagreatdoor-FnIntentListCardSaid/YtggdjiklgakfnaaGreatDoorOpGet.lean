/- OpGet of the program and of the reference: the operation that a text is the text of. Condition: the variables that the library reads lie as the row says; the text is at most 2^40 bytes. -/
import Derived.Test.YtggdjiklgakfnaaGreatDoorOpPut
import Derived.Test.YtggdjiklgakfnaaGreatDoorSpFieldsGet
import Derived.Test.YtggdjiklgakfnaaGreatDoorLib
namespace Go.Proofs.YtggdjiklgakfnaaGreatDoor
set_option linter.unusedSimpArgs false
set_option linter.unnecessarySimpa false
open Go Go.Lib Go.RowKit
set_option linter.unusedVariables false

theorem GotNum_defO (s : Str) (w : World) : GotNum s w = fun e w' => e = .returned (.tuple #[.int .i64 (((numGet s).getD 0 : Nat) : Int), .bool (numGet s).isSome]) ∧ Below w.heap.size w w' := rfl
def softBoxO (B : Nat) (T : TypeId) (cur : Array Value) : MStP (Own B) Ext := ⟨fun v w => ∃ g : Nat, B ≤ g ∧ v = .pointer (some ⟨g, 0, none⟩) ∧ w.heap[g]? = some (.cells cur T (0, 0)), false, fun v w w' hs ⟨g, hB, e, hg⟩ => ⟨g, hB, e, (Below.block hs g (Array.getElem?_eq_some_iff.1 hg).1).trans hg⟩, fun h => by cases h⟩
theorem strsG5 {xs : List Str} (h : xs.length = 5) : ∃ x0 x1 x2 x3 x4, xs = [x0, x1, x2, x3, x4] := by
  match xs, h with
  | [x0, x1, x2, x3, x4], _ => exact ⟨x0, x1, x2, x3, x4, rfl⟩
theorem strsG6 {xs : List Str} (h : xs.length = 6) : ∃ x0 x1 x2 x3 x4 x5, xs = [x0, x1, x2, x3, x4, x5] := by
  match xs, h with
  | [x0, x1, x2, x3, x4, x5], _ => exact ⟨x0, x1, x2, x3, x4, x5, rfl⟩
theorem recG_le {s : Str} {l : List Str} (h : IsRec s l) {f : Str} (hf : f ∈ l) : f.length ≤ 2048 := by
  have := encs_mem hf
  rw [h.1] at this
  have := h.2.2
  omega
theorem StrsIn.cellG {B : Nat} {w : World} {A : Option Addr} {c : Nat} {fs : List Str} (h : StrsIn B w A c fs) {j : Nat} {f : Str} (hf : fs[j]? = some f) : ∃ g, A = some ⟨g, 0, none⟩ ∧ B ≤ g ∧ g < w.heap.size ∧ w.cell? ⟨g, j, none⟩ = some (.string (strB f)) := by
  have hj : j < fs.length := (List.getElem?_eq_some_iff.1 hf).1
  obtain ⟨S, ⟨h1, _⟩, hS⟩ := h
  rcases h1 with ⟨_, h0, _⟩ | ⟨g, cur, rfl, rfl, _, _, _, hg, _, h5⟩
  · omega
  · refine ⟨g, rfl, hS g (by simp), (Array.getElem?_eq_some_iff.1 hg).1, ?_⟩
    rw [cell_of_row _ _ j _ _ (0, 0) hg, h5 j (by omega), List.getElem?_map, hf]
    rfl
def GotOp (s : Str) (w : World) (e : Ending) (w' : World) : Prop :=
  ∃ (k : Int) (p t : Str) (a : Int) (x : Str) (ok : Bool), e = .returned (.tuple #[.agg #[.int .i64 k, .string (strB p), .string (strB t), .int .i64 a, .string (strB x)], .bool ok]) ∧ opIs s (k, p, t, a, x) ok ∧ Below w.heap.size w w'
theorem opIs_len {s : Str} {k : Int} {p t : Str} {a : Int} {x : Str} {ok : Bool} (h : opIs s (k, p, t, a, x) ok) : p.length ≤ 3000000000 ∧ t.length ≤ 3000000000 ∧ x.length ≤ 3000000000 := by
  rcases h with ⟨_, h, _⟩ | ⟨_, h, _⟩
  · obtain ⟨_, _, h1, h2, _, h3⟩ := opB_parts h
    exact ⟨Nat.le_trans h1 (by omega), Nat.le_trans h2 (by omega), Nat.le_trans h3 (by omega)⟩
  · unfold op0 at h
    injection h with h1 h; injection h with h2 h; injection h with h3 h; injection h with h4 h5
    subst h2 h3 h5
    simp
theorem setG_5 {w : World} {r T : Nat} {v0 v1 v2 v3 v4 x0 x1 x2 x3 x4 : Value} (h : w.heap[r]? = some (.cells #[v0, v1, v2, v3, v4] T (0, 0))) :
    (((((w.setCell ⟨r, 0, none⟩ x0).setCell ⟨r, 1, none⟩ x1).setCell ⟨r, 2, none⟩ x2).setCell ⟨r, 3, none⟩ x3).setCell ⟨r, 4, none⟩ x4).heap[r]? = some (.cells #[x0, x1, x2, x3, x4] T (0, 0)) := by
  have h1 : (w.setCell ⟨r, 0, none⟩ x0).heap[r]? = some (.cells #[x0, v1, v2, v3, v4] T (0, 0)) := block_set (o := 0) (v := x0) h
  have h2 : ((w.setCell ⟨r, 0, none⟩ x0).setCell ⟨r, 1, none⟩ x1).heap[r]? = some (.cells #[x0, x1, v2, v3, v4] T (0, 0)) := block_set (o := 1) (v := x1) h1
  have h3 : (((w.setCell ⟨r, 0, none⟩ x0).setCell ⟨r, 1, none⟩ x1).setCell ⟨r, 2, none⟩ x2).heap[r]? = some (.cells #[x0, x1, x2, v3, v4] T (0, 0)) := block_set (o := 2) (v := x2) h2
  have h4 : ((((w.setCell ⟨r, 0, none⟩ x0).setCell ⟨r, 1, none⟩ x1).setCell ⟨r, 2, none⟩ x2).setCell ⟨r, 3, none⟩ x3).heap[r]? = some (.cells #[x0, x1, x2, x3, v4] T (0, 0)) := block_set (o := 3) (v := x3) h3
  have h5 : (((((w.setCell ⟨r, 0, none⟩ x0).setCell ⟨r, 1, none⟩ x1).setCell ⟨r, 2, none⟩ x2).setCell ⟨r, 3, none⟩ x3).setCell ⟨r, 4, none⟩ x4).heap[r]? = some (.cells #[x0, x1, x2, x3, x4] T (0, 0)) := block_set (o := 4) (v := x4) h4
  exact h5
theorem setG_8 {w : World} {r T : Nat} {v0 v1 v2 v3 v4 v5 v6 v7 x0 x1 x2 x3 x4 x5 x6 x7 : Value} (h : w.heap[r]? = some (.cells #[v0, v1, v2, v3, v4, v5, v6, v7] T (0, 0))) :
    ((((((((w.setCell ⟨r, 0, none⟩ x0).setCell ⟨r, 1, none⟩ x1).setCell ⟨r, 2, none⟩ x2).setCell ⟨r, 3, none⟩ x3).setCell ⟨r, 4, none⟩ x4).setCell ⟨r, 5, none⟩ x5).setCell ⟨r, 6, none⟩ x6).setCell ⟨r, 7, none⟩ x7).heap[r]? = some (.cells #[x0, x1, x2, x3, x4, x5, x6, x7] T (0, 0)) := by
  have h1 : (w.setCell ⟨r, 0, none⟩ x0).heap[r]? = some (.cells #[x0, v1, v2, v3, v4, v5, v6, v7] T (0, 0)) := block_set (o := 0) (v := x0) h
  have h2 : ((w.setCell ⟨r, 0, none⟩ x0).setCell ⟨r, 1, none⟩ x1).heap[r]? = some (.cells #[x0, x1, v2, v3, v4, v5, v6, v7] T (0, 0)) := block_set (o := 1) (v := x1) h1
  have h3 : (((w.setCell ⟨r, 0, none⟩ x0).setCell ⟨r, 1, none⟩ x1).setCell ⟨r, 2, none⟩ x2).heap[r]? = some (.cells #[x0, x1, x2, v3, v4, v5, v6, v7] T (0, 0)) := block_set (o := 2) (v := x2) h2
  have h4 : ((((w.setCell ⟨r, 0, none⟩ x0).setCell ⟨r, 1, none⟩ x1).setCell ⟨r, 2, none⟩ x2).setCell ⟨r, 3, none⟩ x3).heap[r]? = some (.cells #[x0, x1, x2, x3, v4, v5, v6, v7] T (0, 0)) := block_set (o := 3) (v := x3) h3
  have h5 : (((((w.setCell ⟨r, 0, none⟩ x0).setCell ⟨r, 1, none⟩ x1).setCell ⟨r, 2, none⟩ x2).setCell ⟨r, 3, none⟩ x3).setCell ⟨r, 4, none⟩ x4).heap[r]? = some (.cells #[x0, x1, x2, x3, x4, v5, v6, v7] T (0, 0)) := block_set (o := 4) (v := x4) h4
  have h6 : ((((((w.setCell ⟨r, 0, none⟩ x0).setCell ⟨r, 1, none⟩ x1).setCell ⟨r, 2, none⟩ x2).setCell ⟨r, 3, none⟩ x3).setCell ⟨r, 4, none⟩ x4).setCell ⟨r, 5, none⟩ x5).heap[r]? = some (.cells #[x0, x1, x2, x3, x4, x5, v6, v7] T (0, 0)) := block_set (o := 5) (v := x5) h5
  have h7 : (((((((w.setCell ⟨r, 0, none⟩ x0).setCell ⟨r, 1, none⟩ x1).setCell ⟨r, 2, none⟩ x2).setCell ⟨r, 3, none⟩ x3).setCell ⟨r, 4, none⟩ x4).setCell ⟨r, 5, none⟩ x5).setCell ⟨r, 6, none⟩ x6).heap[r]? = some (.cells #[x0, x1, x2, x3, x4, x5, x6, v7] T (0, 0)) := block_set (o := 6) (v := x6) h6
  have h8 : ((((((((w.setCell ⟨r, 0, none⟩ x0).setCell ⟨r, 1, none⟩ x1).setCell ⟨r, 2, none⟩ x2).setCell ⟨r, 3, none⟩ x3).setCell ⟨r, 4, none⟩ x4).setCell ⟨r, 5, none⟩ x5).setCell ⟨r, 6, none⟩ x6).setCell ⟨r, 7, none⟩ x7).heap[r]? = some (.cells #[x0, x1, x2, x3, x4, x5, x6, x7] T (0, 0)) := block_set (o := 7) (v := x7) h7
  exact h8
set_option maxRecDepth 100000 in
set_option maxHeartbeats 8000000 in
theorem opGet_any (s : Str) (w : World) (he : Env w) (hs : s.length ≤ 1099511627776) : Calls Tryz.prog 69 #[.string (strB s)] w (GotOp s w) := by
  go_enter Tryz.func69, Tryz.ntmps69
  go_wp2_with fail
  refine (fieldsGet_any s _ (he.below (Below.alloc (Below.refl _ _) (by first | exact Nat.le_refl _ | (simp [World.setCell] <;> omega)) _)) hs).mono ?_
  rintro e w1 (⟨fl, A, cp, hR, rfl, hI, hb1⟩ | ⟨hno, ⟨A, cp, rfl⟩, hb1⟩)
  case inr =>
    have HNO := Lib.hid (op_norec hno); clear hno
    have zz1 : w.heap.size + 1 ≤ w1.heap.size := by have := hb1.size; simp [World.setCell] at this; omega
    have YY1 : Below w.heap.size w (World.alloc w (.cells #[.int .i64 0, .string ⟨#[]⟩, .string ⟨#[]⟩, .int .i64 0, .string ⟨#[]⟩] 32)) := (Below.alloc (Below.refl _ _) (by first | exact Nat.le_refl _ | (simp [World.setCell] <;> omega)) _)
    have X1 : Below w.heap.size w w1 := YY1.trans (hb1.mono YY1.size)
    clear YY1
    have b1_0 : Hid (w1.heap[w.heap.size]? = some (.cells #[.int .i64 0, .string ⟨#[]⟩, .string ⟨#[]⟩, .int .i64 0, .string ⟨#[]⟩] 32 (0, 0))) := Lib.hid ((hb1.block _ (by first | omega | (simp [World.setCell] <;> omega))).trans (show _ from by have := heap_alloc_new w (.cells #[.int .i64 0, .string ⟨#[]⟩, .string ⟨#[]⟩, .int .i64 0, .string ⟨#[]⟩] 32); simpa [World.setCell] using this))
    clear hb1
    have l1_0 : w.heap.size < w1.heap.size := (Array.getElem?_eq_some_iff.1 b1_0.out).1
    have c1_0_0 : w1.cell? ⟨w.heap.size, 0, none⟩ = some (.int .i64 0) := cell_of_row _ _ 0 _ _ (0, 0) b1_0.out
    have f1_0_0 : w1.frozen? ⟨w.heap.size, 0, none⟩ = false := block_free b1_0.out _
    have c1_0_1 : w1.cell? ⟨w.heap.size, 1, none⟩ = some (.string ⟨#[]⟩) := cell_of_row _ _ 1 _ _ (0, 0) b1_0.out
    have f1_0_1 : w1.frozen? ⟨w.heap.size, 1, none⟩ = false := block_free b1_0.out _
    have c1_0_2 : w1.cell? ⟨w.heap.size, 2, none⟩ = some (.string ⟨#[]⟩) := cell_of_row _ _ 2 _ _ (0, 0) b1_0.out
    have f1_0_2 : w1.frozen? ⟨w.heap.size, 2, none⟩ = false := block_free b1_0.out _
    have c1_0_3 : w1.cell? ⟨w.heap.size, 3, none⟩ = some (.int .i64 0) := cell_of_row _ _ 3 _ _ (0, 0) b1_0.out
    have f1_0_3 : w1.frozen? ⟨w.heap.size, 3, none⟩ = false := block_free b1_0.out _
    have c1_0_4 : w1.cell? ⟨w.heap.size, 4, none⟩ = some (.string ⟨#[]⟩) := cell_of_row _ _ 4 _ _ (0, 0) b1_0.out
    have f1_0_4 : w1.frozen? ⟨w.heap.size, 4, none⟩ = false := block_free b1_0.out _
    have HRR : Hid ((w1).heap[w.heap.size]? = some (.cells #[.int .i64 0, .string ⟨#[]⟩, .string ⟨#[]⟩, .int .i64 0, .string ⟨#[]⟩] 32 (0, 0))) := Lib.hid (b1_0.out)
    have HBL : Hid (Below w.heap.size w w1) := Lib.hid X1
    go_wp2_with fail
    have hst := setG_5 (x0 := .int .i64 0) (x1 := .string ⟨#[]⟩) (x2 := .string ⟨#[]⟩) (x3 := .int .i64 0) (x4 := .string ⟨#[]⟩) HRR.out
    have r0 := cell_of_row _ _ 0 _ _ (0, 0) hst
    have r1 := cell_of_row _ _ 1 _ _ (0, 0) hst
    have r2 := cell_of_row _ _ 2 _ _ (0, 0) hst
    have r3 := cell_of_row _ _ 3 _ _ (0, 0) hst
    have r4 := cell_of_row _ _ 4 _ _ (0, 0) hst
    clear hst
    exact bodyPost_ret (v := .tuple #[.agg #[.int .i64 0, .string ⟨#[]⟩, .string ⟨#[]⟩, .int .i64 0, .string ⟨#[]⟩], .bool false]) (by simp [results, Tryz.results69, go_sem, r0, r1, r2, r3, r4]) rfl (⟨0, [], [], 0, [], false, rfl, HNO.out, (Below.setCell (p := ⟨w.heap.size, 4, none⟩) (Below.setCell (p := ⟨w.heap.size, 3, none⟩) (Below.setCell (p := ⟨w.heap.size, 2, none⟩) (Below.setCell (p := ⟨w.heap.size, 1, none⟩) (Below.setCell (p := ⟨w.heap.size, 0, none⟩) HBL.out (Nat.le_refl _) _) (Nat.le_refl _) _) (Nat.le_refl _) _) (Nat.le_refl _) _) (Nat.le_refl _) _)⟩)
  have HR := Lib.hid hR; clear hR
  have HI1 := Lib.hid hI; clear hI
  have zz1 : w.heap.size + 1 ≤ w1.heap.size := by have := hb1.size; simp [World.setCell] at this; omega
  have YY1 : Below w.heap.size w (World.alloc w (.cells #[.int .i64 0, .string ⟨#[]⟩, .string ⟨#[]⟩, .int .i64 0, .string ⟨#[]⟩] 32)) := (Below.alloc (Below.refl _ _) (by first | exact Nat.le_refl _ | (simp [World.setCell] <;> omega)) _)
  have X1 : Below w.heap.size w w1 := YY1.trans (hb1.mono YY1.size)
  clear YY1
  have b1_0 : Hid (w1.heap[w.heap.size]? = some (.cells #[.int .i64 0, .string ⟨#[]⟩, .string ⟨#[]⟩, .int .i64 0, .string ⟨#[]⟩] 32 (0, 0))) := Lib.hid ((hb1.block _ (by first | omega | (simp [World.setCell] <;> omega))).trans (show _ from by have := heap_alloc_new w (.cells #[.int .i64 0, .string ⟨#[]⟩, .string ⟨#[]⟩, .int .i64 0, .string ⟨#[]⟩] 32); simpa [World.setCell] using this))
  clear hb1
  have l1_0 : w.heap.size < w1.heap.size := (Array.getElem?_eq_some_iff.1 b1_0.out).1
  have c1_0_0 : w1.cell? ⟨w.heap.size, 0, none⟩ = some (.int .i64 0) := cell_of_row _ _ 0 _ _ (0, 0) b1_0.out
  have f1_0_0 : w1.frozen? ⟨w.heap.size, 0, none⟩ = false := block_free b1_0.out _
  have c1_0_1 : w1.cell? ⟨w.heap.size, 1, none⟩ = some (.string ⟨#[]⟩) := cell_of_row _ _ 1 _ _ (0, 0) b1_0.out
  have f1_0_1 : w1.frozen? ⟨w.heap.size, 1, none⟩ = false := block_free b1_0.out _
  have c1_0_2 : w1.cell? ⟨w.heap.size, 2, none⟩ = some (.string ⟨#[]⟩) := cell_of_row _ _ 2 _ _ (0, 0) b1_0.out
  have f1_0_2 : w1.frozen? ⟨w.heap.size, 2, none⟩ = false := block_free b1_0.out _
  have c1_0_3 : w1.cell? ⟨w.heap.size, 3, none⟩ = some (.int .i64 0) := cell_of_row _ _ 3 _ _ (0, 0) b1_0.out
  have f1_0_3 : w1.frozen? ⟨w.heap.size, 3, none⟩ = false := block_free b1_0.out _
  have c1_0_4 : w1.cell? ⟨w.heap.size, 4, none⟩ = some (.string ⟨#[]⟩) := cell_of_row _ _ 4 _ _ (0, 0) b1_0.out
  have f1_0_4 : w1.frozen? ⟨w.heap.size, 4, none⟩ = false := block_free b1_0.out _
  by_cases hl : fl.length = 5
  case neg =>
    have HNO := Lib.hid (op_notlen HR.out hl)
    have hnb : ((fl.length : Int) == 5) = false := by simp; omega
    have hnc : ¬ (fl.length : Int) = 5 := by omega
    clear hl
    have HRR : Hid ((w1).heap[w.heap.size]? = some (.cells #[.int .i64 0, .string ⟨#[]⟩, .string ⟨#[]⟩, .int .i64 0, .string ⟨#[]⟩] 32 (0, 0))) := Lib.hid (b1_0.out)
    have HBL : Hid (Below w.heap.size w w1) := Lib.hid X1
    go_wp2_with fail
    have hst := setG_5 (x0 := .int .i64 0) (x1 := .string ⟨#[]⟩) (x2 := .string ⟨#[]⟩) (x3 := .int .i64 0) (x4 := .string ⟨#[]⟩) HRR.out
    have r0 := cell_of_row _ _ 0 _ _ (0, 0) hst
    have r1 := cell_of_row _ _ 1 _ _ (0, 0) hst
    have r2 := cell_of_row _ _ 2 _ _ (0, 0) hst
    have r3 := cell_of_row _ _ 3 _ _ (0, 0) hst
    have r4 := cell_of_row _ _ 4 _ _ (0, 0) hst
    clear hst
    exact bodyPost_ret (v := .tuple #[.agg #[.int .i64 0, .string ⟨#[]⟩, .string ⟨#[]⟩, .int .i64 0, .string ⟨#[]⟩], .bool false]) (by simp [results, Tryz.results69, go_sem, r0, r1, r2, r3, r4]) rfl (⟨0, [], [], 0, [], false, rfl, HNO.out, (Below.setCell (p := ⟨w.heap.size, 4, none⟩) (Below.setCell (p := ⟨w.heap.size, 3, none⟩) (Below.setCell (p := ⟨w.heap.size, 2, none⟩) (Below.setCell (p := ⟨w.heap.size, 1, none⟩) (Below.setCell (p := ⟨w.heap.size, 0, none⟩) HBL.out (Nat.le_refl _) _) (Nat.le_refl _) _) (Nat.le_refl _) _) (Nat.le_refl _) _) (Nat.le_refl _) _)⟩)
  obtain ⟨y0, y1, y2, y3, y4, rfl⟩ := strsG5 hl
  rw [hl]
  have hcp : 5 ≤ cp := HI1.out.le
  obtain ⟨g, rfl, hgB, lg1, e0⟩ := HI1.out.cellG (j := 0) rfl
  obtain ⟨g1, e1', _, _, e1⟩ := HI1.out.cellG (j := 1) rfl
  injection e1' with e1'; injection e1' with e1'; subst e1'
  obtain ⟨g2, e2', _, _, e2⟩ := HI1.out.cellG (j := 2) rfl
  injection e2' with e2'; injection e2' with e2'; subst e2'
  obtain ⟨g3, e3', _, _, e3⟩ := HI1.out.cellG (j := 3) rfl
  injection e3' with e3'; injection e3' with e3'; subst e3'
  obtain ⟨g4, e4', _, _, e4⟩ := HI1.out.cellG (j := 4) rfl
  injection e4' with e4'; injection e4' with e4'; subst e4'
  have hl0 := recG_le HR.out (f := y0) (by simp)
  have E0 := Lib.hid e0
  have hl1 := recG_le HR.out (f := y1) (by simp)
  have E1 := Lib.hid e1
  have hl2 := recG_le HR.out (f := y2) (by simp)
  have E2 := Lib.hid e2
  have hl3 := recG_le HR.out (f := y3) (by simp)
  have E3 := Lib.hid e3
  have hl4 := recG_le HR.out (f := y4) (by simp)
  have E4 := Lib.hid e4
  clear hl HI1 e0 e1 e2 e3 e4
  obtain ⟨n0, hn0⟩ : ∃ n, n = (numGet y0).getD 0 := ⟨_, rfl⟩
  obtain ⟨b0, hb0'⟩ : ∃ n, n = (numGet y0).isSome := ⟨_, rfl⟩
  have HN0 := Lib.hid hn0; have HBB0 := Lib.hid hb0'; clear hn0 hb0'
  obtain ⟨n3, hn3⟩ : ∃ n, n = (numGet y3).getD 0 := ⟨_, rfl⟩
  obtain ⟨b3, hb3'⟩ : ∃ n, n = (numGet y3).isSome := ⟨_, rfl⟩
  have HN3 := Lib.hid hn3; have HBB3 := Lib.hid hb3'; clear hn3 hb3'
  have e0 := E0.out
  go_wp2_with fail
  refine (numGet_any y0 _ (he.below X1) (by omega)).mono ?_
  rw [GotNum_defO, ← HN0.out, ← HBB0.out]
  rintro e w2 ⟨rfl, hb2⟩
  have E0 := Lib.hid ((hb2.cell lg1).trans E0.out)
  have E1 := Lib.hid ((hb2.cell lg1).trans E1.out)
  have E2 := Lib.hid ((hb2.cell lg1).trans E2.out)
  have E3 := Lib.hid ((hb2.cell lg1).trans E3.out)
  have E4 := Lib.hid ((hb2.cell lg1).trans E4.out)
  have lg2 := Nat.lt_of_lt_of_le lg1 hb2.size
  clear e0
  have zz2 : w1.heap.size ≤ w2.heap.size := by have := hb2.size; simpa [World.setCell] using this
  have YY2 : Below w.heap.size w w1 := X1
  have X2 : Below w.heap.size w w2 := YY2.trans (hb2.mono YY2.size)
  clear YY2
  have b2_0 : Hid (w2.heap[w.heap.size]? = some (.cells #[.int .i64 0, .string ⟨#[]⟩, .string ⟨#[]⟩, .int .i64 0, .string ⟨#[]⟩] 32 (0, 0))) := Lib.hid ((hb2.block _ (by first | omega | (simp [World.setCell] <;> omega))).trans b1_0.out)
  clear b1_0 X1 zz1 l1_0 c1_0_0 f1_0_0 c1_0_1 f1_0_1 c1_0_2 f1_0_2 c1_0_3 f1_0_3 c1_0_4 f1_0_4 hb2
  have l2_0 : w.heap.size < w2.heap.size := (Array.getElem?_eq_some_iff.1 b2_0.out).1
  have c2_0_0 : w2.cell? ⟨w.heap.size, 0, none⟩ = some (.int .i64 0) := cell_of_row _ _ 0 _ _ (0, 0) b2_0.out
  have f2_0_0 : w2.frozen? ⟨w.heap.size, 0, none⟩ = false := block_free b2_0.out _
  have c2_0_1 : w2.cell? ⟨w.heap.size, 1, none⟩ = some (.string ⟨#[]⟩) := cell_of_row _ _ 1 _ _ (0, 0) b2_0.out
  have f2_0_1 : w2.frozen? ⟨w.heap.size, 1, none⟩ = false := block_free b2_0.out _
  have c2_0_2 : w2.cell? ⟨w.heap.size, 2, none⟩ = some (.string ⟨#[]⟩) := cell_of_row _ _ 2 _ _ (0, 0) b2_0.out
  have f2_0_2 : w2.frozen? ⟨w.heap.size, 2, none⟩ = false := block_free b2_0.out _
  have c2_0_3 : w2.cell? ⟨w.heap.size, 3, none⟩ = some (.int .i64 0) := cell_of_row _ _ 3 _ _ (0, 0) b2_0.out
  have f2_0_3 : w2.frozen? ⟨w.heap.size, 3, none⟩ = false := block_free b2_0.out _
  have c2_0_4 : w2.cell? ⟨w.heap.size, 4, none⟩ = some (.string ⟨#[]⟩) := cell_of_row _ _ 4 _ _ (0, 0) b2_0.out
  have f2_0_4 : w2.frozen? ⟨w.heap.size, 4, none⟩ = false := block_free b2_0.out _
  have e3 := E3.out
  go_wp2_with fail
  refine (numGet_any y3 _ (he.below X2) (by omega)).mono ?_
  rw [GotNum_defO, ← HN3.out, ← HBB3.out]
  rintro e w3 ⟨rfl, hb3⟩
  have E0 := Lib.hid ((hb3.cell lg2).trans E0.out)
  have E1 := Lib.hid ((hb3.cell lg2).trans E1.out)
  have E2 := Lib.hid ((hb3.cell lg2).trans E2.out)
  have E3 := Lib.hid ((hb3.cell lg2).trans E3.out)
  have E4 := Lib.hid ((hb3.cell lg2).trans E4.out)
  have lg3 := Nat.lt_of_lt_of_le lg2 hb3.size
  clear e3
  have zz3 : w2.heap.size ≤ w3.heap.size := by have := hb3.size; simpa [World.setCell] using this
  have YY3 : Below w.heap.size w w2 := X2
  have X3 : Below w.heap.size w w3 := YY3.trans (hb3.mono YY3.size)
  clear YY3
  have b3_0 : Hid (w3.heap[w.heap.size]? = some (.cells #[.int .i64 0, .string ⟨#[]⟩, .string ⟨#[]⟩, .int .i64 0, .string ⟨#[]⟩] 32 (0, 0))) := Lib.hid ((hb3.block _ (by first | omega | (simp [World.setCell] <;> omega))).trans b2_0.out)
  clear b2_0 X2 zz2 l2_0 c2_0_0 f2_0_0 c2_0_1 f2_0_1 c2_0_2 f2_0_2 c2_0_3 f2_0_3 c2_0_4 f2_0_4 hb3
  have l3_0 : w.heap.size < w3.heap.size := (Array.getElem?_eq_some_iff.1 b3_0.out).1
  have c3_0_0 : w3.cell? ⟨w.heap.size, 0, none⟩ = some (.int .i64 0) := cell_of_row _ _ 0 _ _ (0, 0) b3_0.out
  have f3_0_0 : w3.frozen? ⟨w.heap.size, 0, none⟩ = false := block_free b3_0.out _
  have c3_0_1 : w3.cell? ⟨w.heap.size, 1, none⟩ = some (.string ⟨#[]⟩) := cell_of_row _ _ 1 _ _ (0, 0) b3_0.out
  have f3_0_1 : w3.frozen? ⟨w.heap.size, 1, none⟩ = false := block_free b3_0.out _
  have c3_0_2 : w3.cell? ⟨w.heap.size, 2, none⟩ = some (.string ⟨#[]⟩) := cell_of_row _ _ 2 _ _ (0, 0) b3_0.out
  have f3_0_2 : w3.frozen? ⟨w.heap.size, 2, none⟩ = false := block_free b3_0.out _
  have c3_0_3 : w3.cell? ⟨w.heap.size, 3, none⟩ = some (.int .i64 0) := cell_of_row _ _ 3 _ _ (0, 0) b3_0.out
  have f3_0_3 : w3.frozen? ⟨w.heap.size, 3, none⟩ = false := block_free b3_0.out _
  have c3_0_4 : w3.cell? ⟨w.heap.size, 4, none⟩ = some (.string ⟨#[]⟩) := cell_of_row _ _ 4 _ _ (0, 0) b3_0.out
  have f3_0_4 : w3.frozen? ⟨w.heap.size, 4, none⟩ = false := block_free b3_0.out _
  go_wp2_with fail
  apply wp_region_rgz (Own (w3.heap.size)) (Ext) (fun y w' k' => 1000 ≤ k' → ∃ nb : Nat, y 10 = .pointer (some ⟨nb, 0, none⟩) ∧ w3.heap.size ≤ nb ∧ w'.heap[nb]? = some (.cells #[.int .i64 (n0 : Int), .string (strB y1), .string (strB y2), .int .i64 (n3 : Int), .string (strB y4)] 32 (0, 0))) (0 :: 0 :: 0 :: 0 :: 0 :: 0 :: 0 :: 0 :: 0 :: 0 :: 0 :: 0 :: 0 :: 1000 :: []) (1000 :: 1000 :: 1000 :: 1000 :: 1000 :: 1000 :: 1000 :: 1000 :: 1000 :: 1000 :: 1000 :: 1000 :: 1000 :: 1000 :: []) (by kernel_rfl) (false :: false :: false :: false :: false :: false :: false :: false :: false :: false :: true :: false :: false :: false :: false :: false :: false :: false :: false :: false :: false :: false :: false :: false :: false :: false :: false :: false :: false :: false :: false :: false :: false :: false :: false :: false :: false :: false :: true :: true :: true :: true :: true :: true :: true :: true :: true :: true :: true :: true :: false :: false :: false :: false :: false :: false :: false :: false :: false :: false :: false :: false :: false :: false :: []) (some 38 :: some 39 :: some 40 :: some 41 :: some 42 :: some 43 :: some 44 :: some 45 :: some 46 :: some 47 :: some 48 :: some 49 :: some 10 :: none :: []) ([] :: [] :: [1] :: [2] :: [] :: [4] :: [5] :: [] :: [] :: [8] :: [9] :: [0, 3, 6, 7, 10] :: [] :: [11, 12] :: []) (false :: false :: false :: false :: false :: false :: false :: false :: false :: false :: false :: false :: false :: true :: []) (true :: true :: true :: true :: true :: true :: true :: true :: true :: true :: true :: true :: false :: true :: []) [] (MStP.is _ :: MStP.is _ :: MStP.is _ :: MStP.is _ :: MStP.is _ :: MStP.is _ :: MStP.is _ :: MStP.is _ :: MStP.is _ :: MStP.is _ :: MStP.is _ :: MStP.is _ :: softBoxO (w3.heap.size) 32 #[.int .i64 0, .string ⟨#[]⟩, .string ⟨#[]⟩, .int .i64 0, .string ⟨#[]⟩] :: MStP.is _ :: []) (by kernel_rfl) (by kernel_rfl) (by kernel_rfl) (by kernel_rfl)
  case hobs =>
    refine ⟨fun y w' k hS hj hk hF K hK => ?_, ?_⟩
    · skip -- 0: move
      simp only [fillL, cond_true, cond_false, List.getD_cons_zero, List.getD_cons_succ, StP.is, Act.put, List.setIfInBounds_toArray, List.set_cons_zero, List.set_cons_succ, Nat.reduceAdd, MStP.is, Option.isSome_some, Option.isSome_none] at hK ⊢
      simp only [List.sum_cons, List.sum_nil, List.getD_cons_zero, List.getD_cons_succ, Nat.reduceAdd, Nat.add_zero] at hk
      refine rg_yes (by kernel_rfl) ?_
      have hSb : Below w3.heap.size w3 w' := hS (Nat.le_refl _)
      have hsz := hSb.size
      clear hF
      go_simp
      exact hK _ _ (Ext.refl _) (fun h => absurd h (by omega)) rfl
    refine ⟨fun y w' k hS hj hk hF K hK => ?_, ?_⟩
    · skip -- 1: move
      simp only [fillL, cond_true, cond_false, List.getD_cons_zero, List.getD_cons_succ, StP.is, Act.put, List.setIfInBounds_toArray, List.set_cons_zero, List.set_cons_succ, Nat.reduceAdd, MStP.is, Option.isSome_some, Option.isSome_none] at hK ⊢
      simp only [List.sum_cons, List.sum_nil, List.getD_cons_zero, List.getD_cons_succ, Nat.reduceAdd, Nat.add_zero] at hk
      refine rg_yes (by kernel_rfl) ?_
      have hSb : Below w3.heap.size w3 w' := hS (Nat.le_refl _)
      have hsz := hSb.size
      clear hF
      go_simp
      exact hK _ _ (Ext.refl _) (fun h => absurd h (by omega)) rfl
    refine ⟨fun y w' k hS hj hk hF K hK => ?_, ?_⟩
    · skip -- 2: indexAddr
      have e39 : y 39 = _ := hF.1
      have e39' := Lib.hid e39
      simp only [fillL, cond_true, cond_false, List.getD_cons_zero, List.getD_cons_succ, StP.is, Act.put, List.setIfInBounds_toArray, List.set_cons_zero, List.set_cons_succ, Nat.reduceAdd, e39, MStP.is, Option.isSome_some, Option.isSome_none] at hK ⊢
      simp only [List.sum_cons, List.sum_nil, List.getD_cons_zero, List.getD_cons_succ, Nat.reduceAdd, Nat.add_zero] at hk
      refine rg_yes (by kernel_rfl) ?_
      have hSb : Below w3.heap.size w3 w' := hS (Nat.le_refl _)
      have hsz := hSb.size
      clear e39
      clear hF
      go_simp
      exact hK _ _ (Ext.refl _) (fun h => absurd h (by omega)) rfl
    refine ⟨fun y w' k hS hj hk hF K hK => ?_, ?_⟩
    · skip -- 3: load
      have e40 : y 40 = _ := hF.1
      have e40' := Lib.hid e40
      simp only [fillL, cond_true, cond_false, List.getD_cons_zero, List.getD_cons_succ, StP.is, Act.put, List.setIfInBounds_toArray, List.set_cons_zero, List.set_cons_succ, Nat.reduceAdd, e40, MStP.is, Option.isSome_some, Option.isSome_none] at hK ⊢
      simp only [List.sum_cons, List.sum_nil, List.getD_cons_zero, List.getD_cons_succ, Nat.reduceAdd, Nat.add_zero] at hk
      refine rg_yes (by kernel_rfl) ?_
      have hSb : Below w3.heap.size w3 w' := hS (Nat.le_refl _)
      have hsz := hSb.size
      clear e40
      clear hF
      have q0_ := (hSb.cell lg3).trans E1.out
      have q1_ := (hSb.cell lg3).trans E2.out
      have q2_ := (hSb.cell lg3).trans E4.out
      go_simp
      exact hK _ _ (Ext.refl _) (fun h => absurd h (by omega)) rfl
    refine ⟨fun y w' k hS hj hk hF K hK => ?_, ?_⟩
    · skip -- 4: move
      simp only [fillL, cond_true, cond_false, List.getD_cons_zero, List.getD_cons_succ, StP.is, Act.put, List.setIfInBounds_toArray, List.set_cons_zero, List.set_cons_succ, Nat.reduceAdd, MStP.is, Option.isSome_some, Option.isSome_none] at hK ⊢
      simp only [List.sum_cons, List.sum_nil, List.getD_cons_zero, List.getD_cons_succ, Nat.reduceAdd, Nat.add_zero] at hk
      refine rg_yes (by kernel_rfl) ?_
      have hSb : Below w3.heap.size w3 w' := hS (Nat.le_refl _)
      have hsz := hSb.size
      clear hF
      go_simp
      exact hK _ _ (Ext.refl _) (fun h => absurd h (by omega)) rfl
    refine ⟨fun y w' k hS hj hk hF K hK => ?_, ?_⟩
    · skip -- 5: indexAddr
      have e42 : y 42 = _ := hF.1
      have e42' := Lib.hid e42
      simp only [fillL, cond_true, cond_false, List.getD_cons_zero, List.getD_cons_succ, StP.is, Act.put, List.setIfInBounds_toArray, List.set_cons_zero, List.set_cons_succ, Nat.reduceAdd, e42, MStP.is, Option.isSome_some, Option.isSome_none] at hK ⊢
      simp only [List.sum_cons, List.sum_nil, List.getD_cons_zero, List.getD_cons_succ, Nat.reduceAdd, Nat.add_zero] at hk
      refine rg_yes (by kernel_rfl) ?_
      have hSb : Below w3.heap.size w3 w' := hS (Nat.le_refl _)
      have hsz := hSb.size
      clear e42
      clear hF
      go_simp
      exact hK _ _ (Ext.refl _) (fun h => absurd h (by omega)) rfl
    refine ⟨fun y w' k hS hj hk hF K hK => ?_, ?_⟩
    · skip -- 6: load
      have e43 : y 43 = _ := hF.1
      have e43' := Lib.hid e43
      simp only [fillL, cond_true, cond_false, List.getD_cons_zero, List.getD_cons_succ, StP.is, Act.put, List.setIfInBounds_toArray, List.set_cons_zero, List.set_cons_succ, Nat.reduceAdd, e43, MStP.is, Option.isSome_some, Option.isSome_none] at hK ⊢
      simp only [List.sum_cons, List.sum_nil, List.getD_cons_zero, List.getD_cons_succ, Nat.reduceAdd, Nat.add_zero] at hk
      refine rg_yes (by kernel_rfl) ?_
      have hSb : Below w3.heap.size w3 w' := hS (Nat.le_refl _)
      have hsz := hSb.size
      clear e43
      clear hF
      have q0_ := (hSb.cell lg3).trans E1.out
      have q1_ := (hSb.cell lg3).trans E2.out
      have q2_ := (hSb.cell lg3).trans E4.out
      go_simp
      exact hK _ _ (Ext.refl _) (fun h => absurd h (by omega)) rfl
    refine ⟨fun y w' k hS hj hk hF K hK => ?_, ?_⟩
    · skip -- 7: move
      simp only [fillL, cond_true, cond_false, List.getD_cons_zero, List.getD_cons_succ, StP.is, Act.put, List.setIfInBounds_toArray, List.set_cons_zero, List.set_cons_succ, Nat.reduceAdd, MStP.is, Option.isSome_some, Option.isSome_none] at hK ⊢
      simp only [List.sum_cons, List.sum_nil, List.getD_cons_zero, List.getD_cons_succ, Nat.reduceAdd, Nat.add_zero] at hk
      refine rg_yes (by kernel_rfl) ?_
      have hSb : Below w3.heap.size w3 w' := hS (Nat.le_refl _)
      have hsz := hSb.size
      clear hF
      go_simp
      exact hK _ _ (Ext.refl _) (fun h => absurd h (by omega)) rfl
    refine ⟨fun y w' k hS hj hk hF K hK => ?_, ?_⟩
    · skip -- 8: move
      simp only [fillL, cond_true, cond_false, List.getD_cons_zero, List.getD_cons_succ, StP.is, Act.put, List.setIfInBounds_toArray, List.set_cons_zero, List.set_cons_succ, Nat.reduceAdd, MStP.is, Option.isSome_some, Option.isSome_none] at hK ⊢
      simp only [List.sum_cons, List.sum_nil, List.getD_cons_zero, List.getD_cons_succ, Nat.reduceAdd, Nat.add_zero] at hk
      refine rg_yes (by kernel_rfl) ?_
      have hSb : Below w3.heap.size w3 w' := hS (Nat.le_refl _)
      have hsz := hSb.size
      clear hF
      go_simp
      exact hK _ _ (Ext.refl _) (fun h => absurd h (by omega)) rfl
    refine ⟨fun y w' k hS hj hk hF K hK => ?_, ?_⟩
    · skip -- 9: indexAddr
      have e46 : y 46 = _ := hF.1
      have e46' := Lib.hid e46
      simp only [fillL, cond_true, cond_false, List.getD_cons_zero, List.getD_cons_succ, StP.is, Act.put, List.setIfInBounds_toArray, List.set_cons_zero, List.set_cons_succ, Nat.reduceAdd, e46, MStP.is, Option.isSome_some, Option.isSome_none] at hK ⊢
      simp only [List.sum_cons, List.sum_nil, List.getD_cons_zero, List.getD_cons_succ, Nat.reduceAdd, Nat.add_zero] at hk
      refine rg_yes (by kernel_rfl) ?_
      have hSb : Below w3.heap.size w3 w' := hS (Nat.le_refl _)
      have hsz := hSb.size
      clear e46
      clear hF
      go_simp
      exact hK _ _ (Ext.refl _) (fun h => absurd h (by omega)) rfl
    refine ⟨fun y w' k hS hj hk hF K hK => ?_, ?_⟩
    · skip -- 10: load
      have e47 : y 47 = _ := hF.1
      have e47' := Lib.hid e47
      simp only [fillL, cond_true, cond_false, List.getD_cons_zero, List.getD_cons_succ, StP.is, Act.put, List.setIfInBounds_toArray, List.set_cons_zero, List.set_cons_succ, Nat.reduceAdd, e47, MStP.is, Option.isSome_some, Option.isSome_none] at hK ⊢
      simp only [List.sum_cons, List.sum_nil, List.getD_cons_zero, List.getD_cons_succ, Nat.reduceAdd, Nat.add_zero] at hk
      refine rg_yes (by kernel_rfl) ?_
      have hSb : Below w3.heap.size w3 w' := hS (Nat.le_refl _)
      have hsz := hSb.size
      clear e47
      clear hF
      have q0_ := (hSb.cell lg3).trans E1.out
      have q1_ := (hSb.cell lg3).trans E2.out
      have q2_ := (hSb.cell lg3).trans E4.out
      go_simp
      exact hK _ _ (Ext.refl _) (fun h => absurd h (by omega)) rfl
    refine ⟨fun y w' k hS hj hk hF K hK => ?_, ?_⟩
    · skip -- 11: build
      have e38 : y 38 = _ := hF.1
      have e41 : y 41 = _ := hF.2.1
      have e44 : y 44 = _ := hF.2.2.1
      have e45 : y 45 = _ := hF.2.2.2.1
      have e48 : y 48 = _ := hF.2.2.2.2.1
      have e38' := Lib.hid e38
      have e41' := Lib.hid e41
      have e44' := Lib.hid e44
      have e45' := Lib.hid e45
      have e48' := Lib.hid e48
      simp only [fillL, cond_true, cond_false, List.getD_cons_zero, List.getD_cons_succ, StP.is, Act.put, List.setIfInBounds_toArray, List.set_cons_zero, List.set_cons_succ, Nat.reduceAdd, e38, e41, e44, e45, e48, MStP.is, Option.isSome_some, Option.isSome_none] at hK ⊢
      simp only [List.sum_cons, List.sum_nil, List.getD_cons_zero, List.getD_cons_succ, Nat.reduceAdd, Nat.add_zero] at hk
      refine rg_yes (by kernel_rfl) ?_
      have hSb : Below w3.heap.size w3 w' := hS (Nat.le_refl _)
      have hsz := hSb.size
      clear e38 e41 e44 e45 e48
      clear hF
      go_simp
      exact hK _ _ (Ext.refl _) (fun h => absurd h (by omega)) rfl
    refine ⟨fun y w' k hS hj hk hF K hK => ?_, ?_⟩
    · skip -- 12: alloc
      simp only [fillL, cond_true, cond_false, List.getD_cons_zero, List.getD_cons_succ, StP.is, Act.put, List.setIfInBounds_toArray, List.set_cons_zero, List.set_cons_succ, Nat.reduceAdd, MStP.is, Option.isSome_some, Option.isSome_none] at hK ⊢
      simp only [List.sum_cons, List.sum_nil, List.getD_cons_zero, List.getD_cons_succ, Nat.reduceAdd, Nat.add_zero] at hk
      refine rg_yes (by kernel_rfl) ?_
      have hSb : Below w3.heap.size w3 w' := hS (Nat.le_refl _)
      have hsz := hSb.size
      clear hF
      go_simp
      exact hK _ _ (Ext.alloc _ _) (fun h => absurd h (by omega)) ⟨_, by omega, rfl, heap_alloc_new _ _⟩
    refine ⟨fun y w' k hS hj hk hF K hK => ?_, ?_⟩
    · skip -- 13: store
      have e49 : y 49 = _ := hF.1
      obtain ⟨nb, hBn, e10, hln⟩ := hF.2.1
      have e49' := Lib.hid e49
      have e10' := Lib.hid e10
      simp only [fillL, cond_true, cond_false, List.getD_cons_zero, List.getD_cons_succ, StP.is, Act.put, List.setIfInBounds_toArray, List.set_cons_zero, List.set_cons_succ, Nat.reduceAdd, e49, e10, MStP.is, Option.isSome_some, Option.isSome_none] at hK ⊢
      simp only [List.sum_cons, List.sum_nil, List.getD_cons_zero, List.getD_cons_succ, Nat.reduceAdd, Nat.add_zero] at hk
      refine rg_yes (by kernel_rfl) ?_
      have hSb : Below w3.heap.size w3 w' := hS (Nat.le_refl _)
      have hsz := hSb.size
      clear e49 e10
      clear hF
      have fz := fun o => block_free hln o
      have fz0 := fz 0; have fz1 := fz 1; have fz2 := fz 2; have fz3 := fz 3; have fz4 := fz 4
      have cz0 := cell_of_row _ _ 0 _ _ (0, 0) hln
      have cz1 := cell_of_row _ _ 1 _ _ (0, 0) hln
      have cz2 := cell_of_row _ _ 2 _ _ (0, 0) hln
      have cz3 := cell_of_row _ _ 3 _ _ (0, 0) hln
      have cz4 := cell_of_row _ _ 4 _ _ (0, 0) hln
      clear fz
      have HE3 := e10'; clear e10'
      have HSET := Lib.hid (setG_5 (x0 := .int .i64 (n0 : Int)) (x1 := .string (strB y1)) (x2 := .string (strB y2)) (x3 := .int .i64 (n3 : Int)) (x4 := .string (strB y4)) hln)
      have HL3 := Lib.hid hln; clear hln
      go_simp
      refine hK undef _ (fun hB => ?_) (fun _ => ⟨nb, HE3.out, hBn, HSET.out⟩) rfl
      exact Below.setCell (p := ⟨nb, 4, none⟩) (Below.setCell (p := ⟨nb, 3, none⟩) (Below.setCell (p := ⟨nb, 2, none⟩) (Below.setCell (p := ⟨nb, 1, none⟩) (Below.setCell (p := ⟨nb, 0, none⟩) (Below.refl _ _) hBn _) hBn _) hBn _) hBn _) hBn _
    trivial
  case hH => rfl
  case hNS => exact Own.of_ext _
  case hSt => exact fun a b => Own.trans a b
  case hb => rfl
  case hdrew => exact Own.drew _ _
  case hj0 => exact fun y h => absurd h (by omega)
  case hend =>
    intro y w4 hS hJ _
    obtain ⟨nb, e10, hBn, hln⟩ := hJ (by decide)
    clear hJ
    simp only [fillL, cond_true, cond_false, Nat.reduceAdd, e10]
    clear e10
    have hb4 : Below w3.heap.size w3 w4 := hS (Nat.le_refl _)
    clear hS
    have HLN := Lib.hid hln
    have hnl : nb < w4.heap.size := (Array.getElem?_eq_some_iff.1 hln).1
    clear hln
    have hnw : w.heap.size < nb := by omega
    have zz4 : w3.heap.size ≤ w4.heap.size := by have := hb4.size; simpa [World.setCell] using this
    have YY4 : Below w.heap.size w w3 := X3
    have X4 : Below w.heap.size w w4 := YY4.trans (hb4.mono YY4.size)
    clear YY4
    have b4_0 : Hid (w4.heap[w.heap.size]? = some (.cells #[.int .i64 0, .string ⟨#[]⟩, .string ⟨#[]⟩, .int .i64 0, .string ⟨#[]⟩] 32 (0, 0))) := Lib.hid ((hb4.block _ (by first | omega | (simp [World.setCell] <;> omega))).trans b3_0.out)
    clear b3_0 X3 zz3 l3_0 c3_0_0 f3_0_0 c3_0_1 f3_0_1 c3_0_2 f3_0_2 c3_0_3 f3_0_3 c3_0_4 f3_0_4 hb4
    have l4_0 : w.heap.size < w4.heap.size := (Array.getElem?_eq_some_iff.1 b4_0.out).1
    have c4_0_0 : w4.cell? ⟨w.heap.size, 0, none⟩ = some (.int .i64 0) := cell_of_row _ _ 0 _ _ (0, 0) b4_0.out
    have f4_0_0 : w4.frozen? ⟨w.heap.size, 0, none⟩ = false := block_free b4_0.out _
    have c4_0_1 : w4.cell? ⟨w.heap.size, 1, none⟩ = some (.string ⟨#[]⟩) := cell_of_row _ _ 1 _ _ (0, 0) b4_0.out
    have f4_0_1 : w4.frozen? ⟨w.heap.size, 1, none⟩ = false := block_free b4_0.out _
    have c4_0_2 : w4.cell? ⟨w.heap.size, 2, none⟩ = some (.string ⟨#[]⟩) := cell_of_row _ _ 2 _ _ (0, 0) b4_0.out
    have f4_0_2 : w4.frozen? ⟨w.heap.size, 2, none⟩ = false := block_free b4_0.out _
    have c4_0_3 : w4.cell? ⟨w.heap.size, 3, none⟩ = some (.int .i64 0) := cell_of_row _ _ 3 _ _ (0, 0) b4_0.out
    have f4_0_3 : w4.frozen? ⟨w.heap.size, 3, none⟩ = false := block_free b4_0.out _
    have c4_0_4 : w4.cell? ⟨w.heap.size, 4, none⟩ = some (.string ⟨#[]⟩) := cell_of_row _ _ 4 _ _ (0, 0) b4_0.out
    have f4_0_4 : w4.frozen? ⟨w.heap.size, 4, none⟩ = false := block_free b4_0.out _
    have cN4_0 : w4.cell? ⟨nb, 0, none⟩ = some (.int .i64 (n0 : Int)) := cell_of_row _ _ 0 _ _ (0, 0) HLN.out
    have fN4_0 : w4.frozen? ⟨nb, 0, none⟩ = false := block_free HLN.out _
    have cN4_1 : w4.cell? ⟨nb, 1, none⟩ = some (.string (strB y1)) := cell_of_row _ _ 1 _ _ (0, 0) HLN.out
    have fN4_1 : w4.frozen? ⟨nb, 1, none⟩ = false := block_free HLN.out _
    have cN4_2 : w4.cell? ⟨nb, 2, none⟩ = some (.string (strB y2)) := cell_of_row _ _ 2 _ _ (0, 0) HLN.out
    have fN4_2 : w4.frozen? ⟨nb, 2, none⟩ = false := block_free HLN.out _
    have cN4_3 : w4.cell? ⟨nb, 3, none⟩ = some (.int .i64 (n3 : Int)) := cell_of_row _ _ 3 _ _ (0, 0) HLN.out
    have fN4_3 : w4.frozen? ⟨nb, 3, none⟩ = false := block_free HLN.out _
    have cN4_4 : w4.cell? ⟨nb, 4, none⟩ = some (.string (strB y4)) := cell_of_row _ _ 4 _ _ (0, 0) HLN.out
    have fN4_4 : w4.frozen? ⟨nb, 4, none⟩ = false := block_free HLN.out _
    have HF : Hid (FiveO s (numGet y0) y1 y2 (numGet y3) y4) := Lib.hid ⟨y0, y3, HR.out, rfl, rfl⟩
    cases b0
    case false =>
      have HNO := Lib.hid (HF.out.bad (fun h => by have := HBB0.out; rw [h.1] at this; cases this))
      have HRR : Hid ((w4).heap[w.heap.size]? = some (.cells #[.int .i64 0, .string ⟨#[]⟩, .string ⟨#[]⟩, .int .i64 0, .string ⟨#[]⟩] 32 (0, 0))) := Lib.hid (b4_0.out)
      have HBL : Hid (Below w.heap.size w w4) := Lib.hid X4
      go_wp2_with fail
      have hst := setG_5 (x0 := .int .i64 0) (x1 := .string ⟨#[]⟩) (x2 := .string ⟨#[]⟩) (x3 := .int .i64 0) (x4 := .string ⟨#[]⟩) HRR.out
      have r0 := cell_of_row _ _ 0 _ _ (0, 0) hst
      have r1 := cell_of_row _ _ 1 _ _ (0, 0) hst
      have r2 := cell_of_row _ _ 2 _ _ (0, 0) hst
      have r3 := cell_of_row _ _ 3 _ _ (0, 0) hst
      have r4 := cell_of_row _ _ 4 _ _ (0, 0) hst
      clear hst
      exact bodyPost_ret (v := .tuple #[.agg #[.int .i64 0, .string ⟨#[]⟩, .string ⟨#[]⟩, .int .i64 0, .string ⟨#[]⟩], .bool false]) (by simp [results, Tryz.results69, go_sem, r0, r1, r2, r3, r4]) rfl (⟨0, [], [], 0, [], false, rfl, HNO.out, (Below.setCell (p := ⟨w.heap.size, 4, none⟩) (Below.setCell (p := ⟨w.heap.size, 3, none⟩) (Below.setCell (p := ⟨w.heap.size, 2, none⟩) (Below.setCell (p := ⟨w.heap.size, 1, none⟩) (Below.setCell (p := ⟨w.heap.size, 0, none⟩) HBL.out (Nat.le_refl _) _) (Nat.le_refl _) _) (Nat.le_refl _) _) (Nat.le_refl _) _) (Nat.le_refl _) _)⟩)
    cases b3
    case false =>
      have HNO := Lib.hid (HF.out.bad (fun h => by have := HBB3.out; rw [h.2] at this; cases this))
      have HRR : Hid ((w4).heap[w.heap.size]? = some (.cells #[.int .i64 0, .string ⟨#[]⟩, .string ⟨#[]⟩, .int .i64 0, .string ⟨#[]⟩] 32 (0, 0))) := Lib.hid (b4_0.out)
      have HBL : Hid (Below w.heap.size w w4) := Lib.hid X4
      go_wp2_with fail
      have hst := setG_5 (x0 := .int .i64 0) (x1 := .string ⟨#[]⟩) (x2 := .string ⟨#[]⟩) (x3 := .int .i64 0) (x4 := .string ⟨#[]⟩) HRR.out
      have r0 := cell_of_row _ _ 0 _ _ (0, 0) hst
      have r1 := cell_of_row _ _ 1 _ _ (0, 0) hst
      have r2 := cell_of_row _ _ 2 _ _ (0, 0) hst
      have r3 := cell_of_row _ _ 3 _ _ (0, 0) hst
      have r4 := cell_of_row _ _ 4 _ _ (0, 0) hst
      clear hst
      exact bodyPost_ret (v := .tuple #[.agg #[.int .i64 0, .string ⟨#[]⟩, .string ⟨#[]⟩, .int .i64 0, .string ⟨#[]⟩], .bool false]) (by simp [results, Tryz.results69, go_sem, r0, r1, r2, r3, r4]) rfl (⟨0, [], [], 0, [], false, rfl, HNO.out, (Below.setCell (p := ⟨w.heap.size, 4, none⟩) (Below.setCell (p := ⟨w.heap.size, 3, none⟩) (Below.setCell (p := ⟨w.heap.size, 2, none⟩) (Below.setCell (p := ⟨w.heap.size, 1, none⟩) (Below.setCell (p := ⟨w.heap.size, 0, none⟩) HBL.out (Nat.le_refl _) _) (Nat.le_refl _) _) (Nat.le_refl _) _) (Nat.le_refl _) _) (Nat.le_refl _) _)⟩)
    go_wp2_with fail
    refine (opPut_any (n0 : Int) y1 y2 (n3 : Int) y4 _ (he.below X4).tab (he.below X4).mlen (by omega) (by omega) (by omega)).mono ?_
    rintro e w5 ⟨rfl, hb5⟩
    have zz5 : w4.heap.size ≤ w5.heap.size := by have := hb5.size; simpa [World.setCell] using this
    have YY5 : Below w.heap.size w w4 := X4
    have X5 : Below w.heap.size w w5 := YY5.trans (hb5.mono YY5.size)
    clear YY5
    have b5_0 : Hid (w5.heap[w.heap.size]? = some (.cells #[.int .i64 0, .string ⟨#[]⟩, .string ⟨#[]⟩, .int .i64 0, .string ⟨#[]⟩] 32 (0, 0))) := Lib.hid ((hb5.block _ (by first | omega | (simp [World.setCell] <;> omega))).trans b4_0.out)
    have b5_1 : Hid (w5.heap[nb]? = some (.cells #[.int .i64 (n0 : Int), .string (strB y1), .string (strB y2), .int .i64 (n3 : Int), .string (strB y4)] 32 (0, 0))) := Lib.hid ((hb5.block _ (by first | omega | (simp [World.setCell] <;> omega))).trans HLN.out)
    clear b4_0 HLN X4 zz4 l4_0 c4_0_0 f4_0_0 c4_0_1 f4_0_1 c4_0_2 f4_0_2 c4_0_3 f4_0_3 c4_0_4 f4_0_4 cN4_0 fN4_0 cN4_1 fN4_1 cN4_2 fN4_2 cN4_3 fN4_3 cN4_4 fN4_4 hb5
    have l5_0 : w.heap.size < w5.heap.size := (Array.getElem?_eq_some_iff.1 b5_0.out).1
    have c5_0_0 : w5.cell? ⟨w.heap.size, 0, none⟩ = some (.int .i64 0) := cell_of_row _ _ 0 _ _ (0, 0) b5_0.out
    have f5_0_0 : w5.frozen? ⟨w.heap.size, 0, none⟩ = false := block_free b5_0.out _
    have c5_0_1 : w5.cell? ⟨w.heap.size, 1, none⟩ = some (.string ⟨#[]⟩) := cell_of_row _ _ 1 _ _ (0, 0) b5_0.out
    have f5_0_1 : w5.frozen? ⟨w.heap.size, 1, none⟩ = false := block_free b5_0.out _
    have c5_0_2 : w5.cell? ⟨w.heap.size, 2, none⟩ = some (.string ⟨#[]⟩) := cell_of_row _ _ 2 _ _ (0, 0) b5_0.out
    have f5_0_2 : w5.frozen? ⟨w.heap.size, 2, none⟩ = false := block_free b5_0.out _
    have c5_0_3 : w5.cell? ⟨w.heap.size, 3, none⟩ = some (.int .i64 0) := cell_of_row _ _ 3 _ _ (0, 0) b5_0.out
    have f5_0_3 : w5.frozen? ⟨w.heap.size, 3, none⟩ = false := block_free b5_0.out _
    have c5_0_4 : w5.cell? ⟨w.heap.size, 4, none⟩ = some (.string ⟨#[]⟩) := cell_of_row _ _ 4 _ _ (0, 0) b5_0.out
    have f5_0_4 : w5.frozen? ⟨w.heap.size, 4, none⟩ = false := block_free b5_0.out _
    have l5_1 : nb < w5.heap.size := (Array.getElem?_eq_some_iff.1 b5_1.out).1
    have c5_1_0 : w5.cell? ⟨nb, 0, none⟩ = some (.int .i64 (n0 : Int)) := cell_of_row _ _ 0 _ _ (0, 0) b5_1.out
    have f5_1_0 : w5.frozen? ⟨nb, 0, none⟩ = false := block_free b5_1.out _
    have c5_1_1 : w5.cell? ⟨nb, 1, none⟩ = some (.string (strB y1)) := cell_of_row _ _ 1 _ _ (0, 0) b5_1.out
    have f5_1_1 : w5.frozen? ⟨nb, 1, none⟩ = false := block_free b5_1.out _
    have c5_1_2 : w5.cell? ⟨nb, 2, none⟩ = some (.string (strB y2)) := cell_of_row _ _ 2 _ _ (0, 0) b5_1.out
    have f5_1_2 : w5.frozen? ⟨nb, 2, none⟩ = false := block_free b5_1.out _
    have c5_1_3 : w5.cell? ⟨nb, 3, none⟩ = some (.int .i64 (n3 : Int)) := cell_of_row _ _ 3 _ _ (0, 0) b5_1.out
    have f5_1_3 : w5.frozen? ⟨nb, 3, none⟩ = false := block_free b5_1.out _
    have c5_1_4 : w5.cell? ⟨nb, 4, none⟩ = some (.string (strB y4)) := cell_of_row _ _ 4 _ _ (0, 0) b5_1.out
    have f5_1_4 : w5.frozen? ⟨nb, 4, none⟩ = false := block_free b5_1.out _
    by_cases hps : opS ((n0 : Int), y1, y2, (n3 : Int), y4) = s
    case neg =>
      have HNO := Lib.hid (HF.out.no_text (by rw [← HN0.out, ← HN3.out]; exact hps))
      have hq : ((strB (opS ((n0 : Int), y1, y2, (n3 : Int), y4))).toList == (strB s).toList) = false := by rw [strB_list, strB_list]; simpa using hps
      clear hps
      have HRR : Hid ((w5).heap[w.heap.size]? = some (.cells #[.int .i64 0, .string ⟨#[]⟩, .string ⟨#[]⟩, .int .i64 0, .string ⟨#[]⟩] 32 (0, 0))) := Lib.hid (b5_0.out)
      have HBL : Hid (Below w.heap.size w w5) := Lib.hid X5
      go_wp2_with fail
      have hst := setG_5 (x0 := .int .i64 0) (x1 := .string ⟨#[]⟩) (x2 := .string ⟨#[]⟩) (x3 := .int .i64 0) (x4 := .string ⟨#[]⟩) HRR.out
      have r0 := cell_of_row _ _ 0 _ _ (0, 0) hst
      have r1 := cell_of_row _ _ 1 _ _ (0, 0) hst
      have r2 := cell_of_row _ _ 2 _ _ (0, 0) hst
      have r3 := cell_of_row _ _ 3 _ _ (0, 0) hst
      have r4 := cell_of_row _ _ 4 _ _ (0, 0) hst
      clear hst
      exact bodyPost_ret (v := .tuple #[.agg #[.int .i64 0, .string ⟨#[]⟩, .string ⟨#[]⟩, .int .i64 0, .string ⟨#[]⟩], .bool false]) (by simp [results, Tryz.results69, go_sem, r0, r1, r2, r3, r4]) rfl (⟨0, [], [], 0, [], false, rfl, HNO.out, (Below.setCell (p := ⟨w.heap.size, 4, none⟩) (Below.setCell (p := ⟨w.heap.size, 3, none⟩) (Below.setCell (p := ⟨w.heap.size, 2, none⟩) (Below.setCell (p := ⟨w.heap.size, 1, none⟩) (Below.setCell (p := ⟨w.heap.size, 0, none⟩) HBL.out (Nat.le_refl _) _) (Nat.le_refl _) _) (Nat.le_refl _) _) (Nat.le_refl _) _) (Nat.le_refl _) _)⟩)
    have HY : Hid (opIs s ((n0 : Int), y1, y2, (n3 : Int), y4) true) := Lib.hid (by have := HF.out.yes (by rw [← HN0.out, ← HN3.out]; exact hps); rw [← HN0.out, ← HN3.out] at this; exact this)
    have hq : ((strB (opS ((n0 : Int), y1, y2, (n3 : Int), y4))).toList == (strB s).toList) = true := by rw [hps]; simp
    clear hps
    have HRR : Hid ((w5).heap[w.heap.size]? = some (.cells #[.int .i64 0, .string ⟨#[]⟩, .string ⟨#[]⟩, .int .i64 0, .string ⟨#[]⟩] 32 (0, 0))) := Lib.hid (b5_0.out)
    have HBL : Hid (Below w.heap.size w w5) := Lib.hid X5
    go_wp2_with fail
    have hst := setG_5 (x0 := .int .i64 (n0 : Int)) (x1 := .string (strB y1)) (x2 := .string (strB y2)) (x3 := .int .i64 (n3 : Int)) (x4 := .string (strB y4)) HRR.out
    have r0 := cell_of_row _ _ 0 _ _ (0, 0) hst
    have r1 := cell_of_row _ _ 1 _ _ (0, 0) hst
    have r2 := cell_of_row _ _ 2 _ _ (0, 0) hst
    have r3 := cell_of_row _ _ 3 _ _ (0, 0) hst
    have r4 := cell_of_row _ _ 4 _ _ (0, 0) hst
    clear hst
    exact bodyPost_ret (v := .tuple #[.agg #[.int .i64 (n0 : Int), .string (strB y1), .string (strB y2), .int .i64 (n3 : Int), .string (strB y4)], .bool true]) (by simp [results, Tryz.results69, go_sem, r0, r1, r2, r3, r4]) rfl (⟨_, _, _, _, _, _, rfl, HY.out, (Below.setCell (p := ⟨w.heap.size, 4, none⟩) (Below.setCell (p := ⟨w.heap.size, 3, none⟩) (Below.setCell (p := ⟨w.heap.size, 2, none⟩) (Below.setCell (p := ⟨w.heap.size, 1, none⟩) (Below.setCell (p := ⟨w.heap.size, 0, none⟩) HBL.out (Nat.le_refl _) _) (Nat.le_refl _) _) (Nat.le_refl _) _) (Nat.le_refl _) _) (Nat.le_refl _) _)⟩)
set_option maxRecDepth 100000 in
set_option maxHeartbeats 8000000 in
theorem spOpGet_any (s : Str) (w : World) (hs : s.length ≤ 1099511627776) : Calls Tryz.prog 76 #[.string (strB s)] w (GotOp s w) := by
  go_enter Tryz.func76, Tryz.ntmps76
  go_wp2_with fail
  refine (spFieldsGet_any s _ hs).mono ?_
  rintro e w1 (⟨fl, A, cp, hR, rfl, hI, hb1⟩ | ⟨hno, ⟨A, cp, rfl⟩, hb1⟩)
  case inr =>
    have HNO := Lib.hid (op_norec hno); clear hno
    have zz1 : w.heap.size + 1 ≤ w1.heap.size := by have := hb1.size; simp [World.setCell] at this; omega
    have YY1 : Below w.heap.size w (World.alloc w (.cells #[.int .i64 0, .string ⟨#[]⟩, .string ⟨#[]⟩, .int .i64 0, .string ⟨#[]⟩] 32)) := (Below.alloc (Below.refl _ _) (by first | exact Nat.le_refl _ | (simp [World.setCell] <;> omega)) _)
    have X1 : Below w.heap.size w w1 := YY1.trans (hb1.mono YY1.size)
    clear YY1
    have b1_0 : Hid (w1.heap[w.heap.size]? = some (.cells #[.int .i64 0, .string ⟨#[]⟩, .string ⟨#[]⟩, .int .i64 0, .string ⟨#[]⟩] 32 (0, 0))) := Lib.hid ((hb1.block _ (by first | omega | (simp [World.setCell] <;> omega))).trans (show _ from by have := heap_alloc_new w (.cells #[.int .i64 0, .string ⟨#[]⟩, .string ⟨#[]⟩, .int .i64 0, .string ⟨#[]⟩] 32); simpa [World.setCell] using this))
    clear hb1
    have l1_0 : w.heap.size < w1.heap.size := (Array.getElem?_eq_some_iff.1 b1_0.out).1
    have c1_0_0 : w1.cell? ⟨w.heap.size, 0, none⟩ = some (.int .i64 0) := cell_of_row _ _ 0 _ _ (0, 0) b1_0.out
    have f1_0_0 : w1.frozen? ⟨w.heap.size, 0, none⟩ = false := block_free b1_0.out _
    have c1_0_1 : w1.cell? ⟨w.heap.size, 1, none⟩ = some (.string ⟨#[]⟩) := cell_of_row _ _ 1 _ _ (0, 0) b1_0.out
    have f1_0_1 : w1.frozen? ⟨w.heap.size, 1, none⟩ = false := block_free b1_0.out _
    have c1_0_2 : w1.cell? ⟨w.heap.size, 2, none⟩ = some (.string ⟨#[]⟩) := cell_of_row _ _ 2 _ _ (0, 0) b1_0.out
    have f1_0_2 : w1.frozen? ⟨w.heap.size, 2, none⟩ = false := block_free b1_0.out _
    have c1_0_3 : w1.cell? ⟨w.heap.size, 3, none⟩ = some (.int .i64 0) := cell_of_row _ _ 3 _ _ (0, 0) b1_0.out
    have f1_0_3 : w1.frozen? ⟨w.heap.size, 3, none⟩ = false := block_free b1_0.out _
    have c1_0_4 : w1.cell? ⟨w.heap.size, 4, none⟩ = some (.string ⟨#[]⟩) := cell_of_row _ _ 4 _ _ (0, 0) b1_0.out
    have f1_0_4 : w1.frozen? ⟨w.heap.size, 4, none⟩ = false := block_free b1_0.out _
    have HRR : Hid ((w1).heap[w.heap.size]? = some (.cells #[.int .i64 0, .string ⟨#[]⟩, .string ⟨#[]⟩, .int .i64 0, .string ⟨#[]⟩] 32 (0, 0))) := Lib.hid (b1_0.out)
    have HBL : Hid (Below w.heap.size w w1) := Lib.hid X1
    go_wp2_with fail
    have hst := setG_5 (x0 := .int .i64 0) (x1 := .string ⟨#[]⟩) (x2 := .string ⟨#[]⟩) (x3 := .int .i64 0) (x4 := .string ⟨#[]⟩) HRR.out
    have r0 := cell_of_row _ _ 0 _ _ (0, 0) hst
    have r1 := cell_of_row _ _ 1 _ _ (0, 0) hst
    have r2 := cell_of_row _ _ 2 _ _ (0, 0) hst
    have r3 := cell_of_row _ _ 3 _ _ (0, 0) hst
    have r4 := cell_of_row _ _ 4 _ _ (0, 0) hst
    clear hst
    exact bodyPost_ret (v := .tuple #[.agg #[.int .i64 0, .string ⟨#[]⟩, .string ⟨#[]⟩, .int .i64 0, .string ⟨#[]⟩], .bool false]) (by simp [results, Tryz.results76, go_sem, r0, r1, r2, r3, r4]) rfl (⟨0, [], [], 0, [], false, rfl, HNO.out, (Below.setCell (p := ⟨w.heap.size, 4, none⟩) (Below.setCell (p := ⟨w.heap.size, 3, none⟩) (Below.setCell (p := ⟨w.heap.size, 2, none⟩) (Below.setCell (p := ⟨w.heap.size, 1, none⟩) (Below.setCell (p := ⟨w.heap.size, 0, none⟩) HBL.out (Nat.le_refl _) _) (Nat.le_refl _) _) (Nat.le_refl _) _) (Nat.le_refl _) _) (Nat.le_refl _) _)⟩)
  have HR := Lib.hid hR; clear hR
  have HI1 := Lib.hid hI; clear hI
  have zz1 : w.heap.size + 1 ≤ w1.heap.size := by have := hb1.size; simp [World.setCell] at this; omega
  have YY1 : Below w.heap.size w (World.alloc w (.cells #[.int .i64 0, .string ⟨#[]⟩, .string ⟨#[]⟩, .int .i64 0, .string ⟨#[]⟩] 32)) := (Below.alloc (Below.refl _ _) (by first | exact Nat.le_refl _ | (simp [World.setCell] <;> omega)) _)
  have X1 : Below w.heap.size w w1 := YY1.trans (hb1.mono YY1.size)
  clear YY1
  have b1_0 : Hid (w1.heap[w.heap.size]? = some (.cells #[.int .i64 0, .string ⟨#[]⟩, .string ⟨#[]⟩, .int .i64 0, .string ⟨#[]⟩] 32 (0, 0))) := Lib.hid ((hb1.block _ (by first | omega | (simp [World.setCell] <;> omega))).trans (show _ from by have := heap_alloc_new w (.cells #[.int .i64 0, .string ⟨#[]⟩, .string ⟨#[]⟩, .int .i64 0, .string ⟨#[]⟩] 32); simpa [World.setCell] using this))
  clear hb1
  have l1_0 : w.heap.size < w1.heap.size := (Array.getElem?_eq_some_iff.1 b1_0.out).1
  have c1_0_0 : w1.cell? ⟨w.heap.size, 0, none⟩ = some (.int .i64 0) := cell_of_row _ _ 0 _ _ (0, 0) b1_0.out
  have f1_0_0 : w1.frozen? ⟨w.heap.size, 0, none⟩ = false := block_free b1_0.out _
  have c1_0_1 : w1.cell? ⟨w.heap.size, 1, none⟩ = some (.string ⟨#[]⟩) := cell_of_row _ _ 1 _ _ (0, 0) b1_0.out
  have f1_0_1 : w1.frozen? ⟨w.heap.size, 1, none⟩ = false := block_free b1_0.out _
  have c1_0_2 : w1.cell? ⟨w.heap.size, 2, none⟩ = some (.string ⟨#[]⟩) := cell_of_row _ _ 2 _ _ (0, 0) b1_0.out
  have f1_0_2 : w1.frozen? ⟨w.heap.size, 2, none⟩ = false := block_free b1_0.out _
  have c1_0_3 : w1.cell? ⟨w.heap.size, 3, none⟩ = some (.int .i64 0) := cell_of_row _ _ 3 _ _ (0, 0) b1_0.out
  have f1_0_3 : w1.frozen? ⟨w.heap.size, 3, none⟩ = false := block_free b1_0.out _
  have c1_0_4 : w1.cell? ⟨w.heap.size, 4, none⟩ = some (.string ⟨#[]⟩) := cell_of_row _ _ 4 _ _ (0, 0) b1_0.out
  have f1_0_4 : w1.frozen? ⟨w.heap.size, 4, none⟩ = false := block_free b1_0.out _
  by_cases hl : fl.length = 5
  case neg =>
    have HNO := Lib.hid (op_notlen HR.out hl)
    have hnb : ((fl.length : Int) == 5) = false := by simp; omega
    have hnc : ¬ (fl.length : Int) = 5 := by omega
    clear hl
    have HRR : Hid ((w1).heap[w.heap.size]? = some (.cells #[.int .i64 0, .string ⟨#[]⟩, .string ⟨#[]⟩, .int .i64 0, .string ⟨#[]⟩] 32 (0, 0))) := Lib.hid (b1_0.out)
    have HBL : Hid (Below w.heap.size w w1) := Lib.hid X1
    go_wp2_with fail
    have hst := setG_5 (x0 := .int .i64 0) (x1 := .string ⟨#[]⟩) (x2 := .string ⟨#[]⟩) (x3 := .int .i64 0) (x4 := .string ⟨#[]⟩) HRR.out
    have r0 := cell_of_row _ _ 0 _ _ (0, 0) hst
    have r1 := cell_of_row _ _ 1 _ _ (0, 0) hst
    have r2 := cell_of_row _ _ 2 _ _ (0, 0) hst
    have r3 := cell_of_row _ _ 3 _ _ (0, 0) hst
    have r4 := cell_of_row _ _ 4 _ _ (0, 0) hst
    clear hst
    exact bodyPost_ret (v := .tuple #[.agg #[.int .i64 0, .string ⟨#[]⟩, .string ⟨#[]⟩, .int .i64 0, .string ⟨#[]⟩], .bool false]) (by simp [results, Tryz.results76, go_sem, r0, r1, r2, r3, r4]) rfl (⟨0, [], [], 0, [], false, rfl, HNO.out, (Below.setCell (p := ⟨w.heap.size, 4, none⟩) (Below.setCell (p := ⟨w.heap.size, 3, none⟩) (Below.setCell (p := ⟨w.heap.size, 2, none⟩) (Below.setCell (p := ⟨w.heap.size, 1, none⟩) (Below.setCell (p := ⟨w.heap.size, 0, none⟩) HBL.out (Nat.le_refl _) _) (Nat.le_refl _) _) (Nat.le_refl _) _) (Nat.le_refl _) _) (Nat.le_refl _) _)⟩)
  obtain ⟨y0, y1, y2, y3, y4, rfl⟩ := strsG5 hl
  rw [hl]
  have hcp : 5 ≤ cp := HI1.out.le
  obtain ⟨g, rfl, hgB, lg1, e0⟩ := HI1.out.cellG (j := 0) rfl
  obtain ⟨g1, e1', _, _, e1⟩ := HI1.out.cellG (j := 1) rfl
  injection e1' with e1'; injection e1' with e1'; subst e1'
  obtain ⟨g2, e2', _, _, e2⟩ := HI1.out.cellG (j := 2) rfl
  injection e2' with e2'; injection e2' with e2'; subst e2'
  obtain ⟨g3, e3', _, _, e3⟩ := HI1.out.cellG (j := 3) rfl
  injection e3' with e3'; injection e3' with e3'; subst e3'
  obtain ⟨g4, e4', _, _, e4⟩ := HI1.out.cellG (j := 4) rfl
  injection e4' with e4'; injection e4' with e4'; subst e4'
  have hl0 := recG_le HR.out (f := y0) (by simp)
  have E0 := Lib.hid e0
  have hl1 := recG_le HR.out (f := y1) (by simp)
  have E1 := Lib.hid e1
  have hl2 := recG_le HR.out (f := y2) (by simp)
  have E2 := Lib.hid e2
  have hl3 := recG_le HR.out (f := y3) (by simp)
  have E3 := Lib.hid e3
  have hl4 := recG_le HR.out (f := y4) (by simp)
  have E4 := Lib.hid e4
  clear hl HI1 e0 e1 e2 e3 e4
  obtain ⟨n0, hn0⟩ : ∃ n, n = (numGet y0).getD 0 := ⟨_, rfl⟩
  obtain ⟨b0, hb0'⟩ : ∃ n, n = (numGet y0).isSome := ⟨_, rfl⟩
  have HN0 := Lib.hid hn0; have HBB0 := Lib.hid hb0'; clear hn0 hb0'
  obtain ⟨n3, hn3⟩ : ∃ n, n = (numGet y3).getD 0 := ⟨_, rfl⟩
  obtain ⟨b3, hb3'⟩ : ∃ n, n = (numGet y3).isSome := ⟨_, rfl⟩
  have HN3 := Lib.hid hn3; have HBB3 := Lib.hid hb3'; clear hn3 hb3'
  go_wp2_with fail
  apply wp_region_rgz (Own (w1.heap.size)) (Ext) (fun y w' k' => 1000 ≤ k' → ∃ nb : Nat, y 6 = .pointer (some ⟨nb, 0, none⟩) ∧ w1.heap.size ≤ nb ∧ w'.heap[nb]? = some (.cells #[.int .i64 0, .string (strB y1), .string (strB y2), .int .i64 0, .string (strB y4)] 32 (0, 0))) [0, 0, 0, 0, 0, 0, 0, 0, 0, 0, 0, 1000] [1000, 1000, 1000, 1000, 1000, 1000, 1000, 1000, 1000, 1000, 1000, 1000] (by kernel_rfl) (false :: false :: false :: false :: false :: false :: true :: false :: false :: false :: false :: false :: false :: false :: false :: false :: false :: false :: false :: false :: true :: true :: true :: true :: true :: true :: true :: true :: true :: true :: false :: false :: false :: false :: false :: false :: false :: false :: false :: false :: false :: false :: false :: false :: false :: false :: false :: false :: false :: false :: false :: false :: false :: false :: false :: false :: false :: []) [some 20, some 21, some 22, some 23, some 24, some 25, some 26, some 27, some 28, some 29, some 6, none] [[], [0], [1], [], [3], [4], [], [6], [7], [2, 5, 8], [], [9, 10]] [false, false, false, false, false, false, false, false, false, false, false, true] [true, true, true, true, true, true, true, true, true, true, false, true] [] [MStP.is _, MStP.is _, MStP.is _, MStP.is _, MStP.is _, MStP.is _, MStP.is _, MStP.is _, MStP.is _, MStP.is _, softBoxO (w1.heap.size) 32 #[.int .i64 0, .string ⟨#[]⟩, .string ⟨#[]⟩, .int .i64 0, .string ⟨#[]⟩], MStP.is _] (by kernel_rfl) (by kernel_rfl) (by kernel_rfl) (by kernel_rfl)
  case hobs =>
    refine ⟨fun y w' k hS hj hk hF K hK => ?_, ?_⟩
    · skip -- 0: move
      simp only [fillL, cond_true, cond_false, List.getD_cons_zero, List.getD_cons_succ, StP.is, Act.put, List.setIfInBounds_toArray, List.set_cons_zero, List.set_cons_succ, Nat.reduceAdd, MStP.is, Option.isSome_some, Option.isSome_none] at hK ⊢
      simp only [List.sum_cons, List.sum_nil, List.getD_cons_zero, List.getD_cons_succ, Nat.reduceAdd, Nat.add_zero] at hk
      refine rg_yes (by kernel_rfl) ?_
      have hSb : Below w1.heap.size w1 w' := hS (Nat.le_refl _)
      have hsz := hSb.size
      clear hF
      go_simp
      exact hK _ _ (Ext.refl _) (fun h => absurd h (by omega)) rfl
    refine ⟨fun y w' k hS hj hk hF K hK => ?_, ?_⟩
    · skip -- 1: indexAddr
      have e20 : y 20 = _ := hF.1
      have e20' := Lib.hid e20
      simp only [fillL, cond_true, cond_false, List.getD_cons_zero, List.getD_cons_succ, StP.is, Act.put, List.setIfInBounds_toArray, List.set_cons_zero, List.set_cons_succ, Nat.reduceAdd, e20, MStP.is, Option.isSome_some, Option.isSome_none] at hK ⊢
      simp only [List.sum_cons, List.sum_nil, List.getD_cons_zero, List.getD_cons_succ, Nat.reduceAdd, Nat.add_zero] at hk
      refine rg_yes (by kernel_rfl) ?_
      have hSb : Below w1.heap.size w1 w' := hS (Nat.le_refl _)
      have hsz := hSb.size
      clear e20
      clear hF
      go_simp
      exact hK _ _ (Ext.refl _) (fun h => absurd h (by omega)) rfl
    refine ⟨fun y w' k hS hj hk hF K hK => ?_, ?_⟩
    · skip -- 2: load
      have e21 : y 21 = _ := hF.1
      have e21' := Lib.hid e21
      simp only [fillL, cond_true, cond_false, List.getD_cons_zero, List.getD_cons_succ, StP.is, Act.put, List.setIfInBounds_toArray, List.set_cons_zero, List.set_cons_succ, Nat.reduceAdd, e21, MStP.is, Option.isSome_some, Option.isSome_none] at hK ⊢
      simp only [List.sum_cons, List.sum_nil, List.getD_cons_zero, List.getD_cons_succ, Nat.reduceAdd, Nat.add_zero] at hk
      refine rg_yes (by kernel_rfl) ?_
      have hSb : Below w1.heap.size w1 w' := hS (Nat.le_refl _)
      have hsz := hSb.size
      clear e21
      clear hF
      have q0_ := (hSb.cell lg1).trans E1.out
      have q1_ := (hSb.cell lg1).trans E2.out
      have q2_ := (hSb.cell lg1).trans E4.out
      go_simp
      exact hK _ _ (Ext.refl _) (fun h => absurd h (by omega)) rfl
    refine ⟨fun y w' k hS hj hk hF K hK => ?_, ?_⟩
    · skip -- 3: move
      simp only [fillL, cond_true, cond_false, List.getD_cons_zero, List.getD_cons_succ, StP.is, Act.put, List.setIfInBounds_toArray, List.set_cons_zero, List.set_cons_succ, Nat.reduceAdd, MStP.is, Option.isSome_some, Option.isSome_none] at hK ⊢
      simp only [List.sum_cons, List.sum_nil, List.getD_cons_zero, List.getD_cons_succ, Nat.reduceAdd, Nat.add_zero] at hk
      refine rg_yes (by kernel_rfl) ?_
      have hSb : Below w1.heap.size w1 w' := hS (Nat.le_refl _)
      have hsz := hSb.size
      clear hF
      go_simp
      exact hK _ _ (Ext.refl _) (fun h => absurd h (by omega)) rfl
    refine ⟨fun y w' k hS hj hk hF K hK => ?_, ?_⟩
    · skip -- 4: indexAddr
      have e23 : y 23 = _ := hF.1
      have e23' := Lib.hid e23
      simp only [fillL, cond_true, cond_false, List.getD_cons_zero, List.getD_cons_succ, StP.is, Act.put, List.setIfInBounds_toArray, List.set_cons_zero, List.set_cons_succ, Nat.reduceAdd, e23, MStP.is, Option.isSome_some, Option.isSome_none] at hK ⊢
      simp only [List.sum_cons, List.sum_nil, List.getD_cons_zero, List.getD_cons_succ, Nat.reduceAdd, Nat.add_zero] at hk
      refine rg_yes (by kernel_rfl) ?_
      have hSb : Below w1.heap.size w1 w' := hS (Nat.le_refl _)
      have hsz := hSb.size
      clear e23
      clear hF
      go_simp
      exact hK _ _ (Ext.refl _) (fun h => absurd h (by omega)) rfl
    refine ⟨fun y w' k hS hj hk hF K hK => ?_, ?_⟩
    · skip -- 5: load
      have e24 : y 24 = _ := hF.1
      have e24' := Lib.hid e24
      simp only [fillL, cond_true, cond_false, List.getD_cons_zero, List.getD_cons_succ, StP.is, Act.put, List.setIfInBounds_toArray, List.set_cons_zero, List.set_cons_succ, Nat.reduceAdd, e24, MStP.is, Option.isSome_some, Option.isSome_none] at hK ⊢
      simp only [List.sum_cons, List.sum_nil, List.getD_cons_zero, List.getD_cons_succ, Nat.reduceAdd, Nat.add_zero] at hk
      refine rg_yes (by kernel_rfl) ?_
      have hSb : Below w1.heap.size w1 w' := hS (Nat.le_refl _)
      have hsz := hSb.size
      clear e24
      clear hF
      have q0_ := (hSb.cell lg1).trans E1.out
      have q1_ := (hSb.cell lg1).trans E2.out
      have q2_ := (hSb.cell lg1).trans E4.out
      go_simp
      exact hK _ _ (Ext.refl _) (fun h => absurd h (by omega)) rfl
    refine ⟨fun y w' k hS hj hk hF K hK => ?_, ?_⟩
    · skip -- 6: move
      simp only [fillL, cond_true, cond_false, List.getD_cons_zero, List.getD_cons_succ, StP.is, Act.put, List.setIfInBounds_toArray, List.set_cons_zero, List.set_cons_succ, Nat.reduceAdd, MStP.is, Option.isSome_some, Option.isSome_none] at hK ⊢
      simp only [List.sum_cons, List.sum_nil, List.getD_cons_zero, List.getD_cons_succ, Nat.reduceAdd, Nat.add_zero] at hk
      refine rg_yes (by kernel_rfl) ?_
      have hSb : Below w1.heap.size w1 w' := hS (Nat.le_refl _)
      have hsz := hSb.size
      clear hF
      go_simp
      exact hK _ _ (Ext.refl _) (fun h => absurd h (by omega)) rfl
    refine ⟨fun y w' k hS hj hk hF K hK => ?_, ?_⟩
    · skip -- 7: indexAddr
      have e26 : y 26 = _ := hF.1
      have e26' := Lib.hid e26
      simp only [fillL, cond_true, cond_false, List.getD_cons_zero, List.getD_cons_succ, StP.is, Act.put, List.setIfInBounds_toArray, List.set_cons_zero, List.set_cons_succ, Nat.reduceAdd, e26, MStP.is, Option.isSome_some, Option.isSome_none] at hK ⊢
      simp only [List.sum_cons, List.sum_nil, List.getD_cons_zero, List.getD_cons_succ, Nat.reduceAdd, Nat.add_zero] at hk
      refine rg_yes (by kernel_rfl) ?_
      have hSb : Below w1.heap.size w1 w' := hS (Nat.le_refl _)
      have hsz := hSb.size
      clear e26
      clear hF
      go_simp
      exact hK _ _ (Ext.refl _) (fun h => absurd h (by omega)) rfl
    refine ⟨fun y w' k hS hj hk hF K hK => ?_, ?_⟩
    · skip -- 8: load
      have e27 : y 27 = _ := hF.1
      have e27' := Lib.hid e27
      simp only [fillL, cond_true, cond_false, List.getD_cons_zero, List.getD_cons_succ, StP.is, Act.put, List.setIfInBounds_toArray, List.set_cons_zero, List.set_cons_succ, Nat.reduceAdd, e27, MStP.is, Option.isSome_some, Option.isSome_none] at hK ⊢
      simp only [List.sum_cons, List.sum_nil, List.getD_cons_zero, List.getD_cons_succ, Nat.reduceAdd, Nat.add_zero] at hk
      refine rg_yes (by kernel_rfl) ?_
      have hSb : Below w1.heap.size w1 w' := hS (Nat.le_refl _)
      have hsz := hSb.size
      clear e27
      clear hF
      have q0_ := (hSb.cell lg1).trans E1.out
      have q1_ := (hSb.cell lg1).trans E2.out
      have q2_ := (hSb.cell lg1).trans E4.out
      go_simp
      exact hK _ _ (Ext.refl _) (fun h => absurd h (by omega)) rfl
    refine ⟨fun y w' k hS hj hk hF K hK => ?_, ?_⟩
    · skip -- 9: build
      have e22 : y 22 = _ := hF.1
      have e25 : y 25 = _ := hF.2.1
      have e28 : y 28 = _ := hF.2.2.1
      have e22' := Lib.hid e22
      have e25' := Lib.hid e25
      have e28' := Lib.hid e28
      simp only [fillL, cond_true, cond_false, List.getD_cons_zero, List.getD_cons_succ, StP.is, Act.put, List.setIfInBounds_toArray, List.set_cons_zero, List.set_cons_succ, Nat.reduceAdd, e22, e25, e28, MStP.is, Option.isSome_some, Option.isSome_none] at hK ⊢
      simp only [List.sum_cons, List.sum_nil, List.getD_cons_zero, List.getD_cons_succ, Nat.reduceAdd, Nat.add_zero] at hk
      refine rg_yes (by kernel_rfl) ?_
      have hSb : Below w1.heap.size w1 w' := hS (Nat.le_refl _)
      have hsz := hSb.size
      clear e22 e25 e28
      clear hF
      go_simp
      exact hK _ _ (Ext.refl _) (fun h => absurd h (by omega)) rfl
    refine ⟨fun y w' k hS hj hk hF K hK => ?_, ?_⟩
    · skip -- 10: alloc
      simp only [fillL, cond_true, cond_false, List.getD_cons_zero, List.getD_cons_succ, StP.is, Act.put, List.setIfInBounds_toArray, List.set_cons_zero, List.set_cons_succ, Nat.reduceAdd, MStP.is, Option.isSome_some, Option.isSome_none] at hK ⊢
      simp only [List.sum_cons, List.sum_nil, List.getD_cons_zero, List.getD_cons_succ, Nat.reduceAdd, Nat.add_zero] at hk
      refine rg_yes (by kernel_rfl) ?_
      have hSb : Below w1.heap.size w1 w' := hS (Nat.le_refl _)
      have hsz := hSb.size
      clear hF
      go_simp
      exact hK _ _ (Ext.alloc _ _) (fun h => absurd h (by omega)) ⟨_, by omega, rfl, heap_alloc_new _ _⟩
    refine ⟨fun y w' k hS hj hk hF K hK => ?_, ?_⟩
    · skip -- 11: store
      have e29 : y 29 = _ := hF.1
      obtain ⟨nb, hBn, e6, hln⟩ := hF.2.1
      have e29' := Lib.hid e29
      have e6' := Lib.hid e6
      simp only [fillL, cond_true, cond_false, List.getD_cons_zero, List.getD_cons_succ, StP.is, Act.put, List.setIfInBounds_toArray, List.set_cons_zero, List.set_cons_succ, Nat.reduceAdd, e29, e6, MStP.is, Option.isSome_some, Option.isSome_none] at hK ⊢
      simp only [List.sum_cons, List.sum_nil, List.getD_cons_zero, List.getD_cons_succ, Nat.reduceAdd, Nat.add_zero] at hk
      refine rg_yes (by kernel_rfl) ?_
      have hSb : Below w1.heap.size w1 w' := hS (Nat.le_refl _)
      have hsz := hSb.size
      clear e29 e6
      clear hF
      have fz := fun o => block_free hln o
      have fz0 := fz 0; have fz1 := fz 1; have fz2 := fz 2; have fz3 := fz 3; have fz4 := fz 4
      have cz0 := cell_of_row _ _ 0 _ _ (0, 0) hln
      have cz1 := cell_of_row _ _ 1 _ _ (0, 0) hln
      have cz2 := cell_of_row _ _ 2 _ _ (0, 0) hln
      have cz3 := cell_of_row _ _ 3 _ _ (0, 0) hln
      have cz4 := cell_of_row _ _ 4 _ _ (0, 0) hln
      clear fz
      have HE3 := e6'; clear e6'
      have HSET := Lib.hid (setG_5 (x0 := .int .i64 0) (x1 := .string (strB y1)) (x2 := .string (strB y2)) (x3 := .int .i64 0) (x4 := .string (strB y4)) hln)
      have HL3 := Lib.hid hln; clear hln
      go_simp
      refine hK undef _ (fun hB => ?_) (fun _ => ⟨nb, HE3.out, hBn, HSET.out⟩) rfl
      exact Below.setCell (p := ⟨nb, 4, none⟩) (Below.setCell (p := ⟨nb, 3, none⟩) (Below.setCell (p := ⟨nb, 2, none⟩) (Below.setCell (p := ⟨nb, 1, none⟩) (Below.setCell (p := ⟨nb, 0, none⟩) (Below.refl _ _) hBn _) hBn _) hBn _) hBn _) hBn _
    trivial
  case hH => rfl
  case hNS => exact Own.of_ext _
  case hSt => exact fun a b => Own.trans a b
  case hb => rfl
  case hdrew => exact Own.drew _ _
  case hj0 => exact fun y h => absurd h (by omega)
  case hend =>
    intro y w2 hS hJ _
    obtain ⟨nb, e6, hBn, hln⟩ := hJ (by decide)
    clear hJ
    simp only [fillL, cond_true, cond_false, Nat.reduceAdd, e6]
    clear e6
    have hb2 : Below w1.heap.size w1 w2 := hS (Nat.le_refl _)
    clear hS
    have HLN := Lib.hid hln
    have hnl : nb < w2.heap.size := (Array.getElem?_eq_some_iff.1 hln).1
    clear hln
    have E0 := Lib.hid ((hb2.cell lg1).trans E0.out)
    have E3 := Lib.hid ((hb2.cell lg1).trans E3.out)
    have lg2 := Nat.lt_of_lt_of_le lg1 hb2.size
    have hnw : w.heap.size < nb := by omega
    have zz2 : w1.heap.size ≤ w2.heap.size := by have := hb2.size; simpa [World.setCell] using this
    have YY2 : Below w.heap.size w w1 := X1
    have X2 : Below w.heap.size w w2 := YY2.trans (hb2.mono YY2.size)
    clear YY2
    have b2_0 : Hid (w2.heap[w.heap.size]? = some (.cells #[.int .i64 0, .string ⟨#[]⟩, .string ⟨#[]⟩, .int .i64 0, .string ⟨#[]⟩] 32 (0, 0))) := Lib.hid ((hb2.block _ (by first | omega | (simp [World.setCell] <;> omega))).trans b1_0.out)
    clear b1_0 X1 zz1 l1_0 c1_0_0 f1_0_0 c1_0_1 f1_0_1 c1_0_2 f1_0_2 c1_0_3 f1_0_3 c1_0_4 f1_0_4 hb2
    have l2_0 : w.heap.size < w2.heap.size := (Array.getElem?_eq_some_iff.1 b2_0.out).1
    have c2_0_0 : w2.cell? ⟨w.heap.size, 0, none⟩ = some (.int .i64 0) := cell_of_row _ _ 0 _ _ (0, 0) b2_0.out
    have f2_0_0 : w2.frozen? ⟨w.heap.size, 0, none⟩ = false := block_free b2_0.out _
    have c2_0_1 : w2.cell? ⟨w.heap.size, 1, none⟩ = some (.string ⟨#[]⟩) := cell_of_row _ _ 1 _ _ (0, 0) b2_0.out
    have f2_0_1 : w2.frozen? ⟨w.heap.size, 1, none⟩ = false := block_free b2_0.out _
    have c2_0_2 : w2.cell? ⟨w.heap.size, 2, none⟩ = some (.string ⟨#[]⟩) := cell_of_row _ _ 2 _ _ (0, 0) b2_0.out
    have f2_0_2 : w2.frozen? ⟨w.heap.size, 2, none⟩ = false := block_free b2_0.out _
    have c2_0_3 : w2.cell? ⟨w.heap.size, 3, none⟩ = some (.int .i64 0) := cell_of_row _ _ 3 _ _ (0, 0) b2_0.out
    have f2_0_3 : w2.frozen? ⟨w.heap.size, 3, none⟩ = false := block_free b2_0.out _
    have c2_0_4 : w2.cell? ⟨w.heap.size, 4, none⟩ = some (.string ⟨#[]⟩) := cell_of_row _ _ 4 _ _ (0, 0) b2_0.out
    have f2_0_4 : w2.frozen? ⟨w.heap.size, 4, none⟩ = false := block_free b2_0.out _
    have cN2_0 : w2.cell? ⟨nb, 0, none⟩ = some (.int .i64 0) := cell_of_row _ _ 0 _ _ (0, 0) HLN.out
    have fN2_0 : w2.frozen? ⟨nb, 0, none⟩ = false := block_free HLN.out _
    have cN2_1 : w2.cell? ⟨nb, 1, none⟩ = some (.string (strB y1)) := cell_of_row _ _ 1 _ _ (0, 0) HLN.out
    have fN2_1 : w2.frozen? ⟨nb, 1, none⟩ = false := block_free HLN.out _
    have cN2_2 : w2.cell? ⟨nb, 2, none⟩ = some (.string (strB y2)) := cell_of_row _ _ 2 _ _ (0, 0) HLN.out
    have fN2_2 : w2.frozen? ⟨nb, 2, none⟩ = false := block_free HLN.out _
    have cN2_3 : w2.cell? ⟨nb, 3, none⟩ = some (.int .i64 0) := cell_of_row _ _ 3 _ _ (0, 0) HLN.out
    have fN2_3 : w2.frozen? ⟨nb, 3, none⟩ = false := block_free HLN.out _
    have cN2_4 : w2.cell? ⟨nb, 4, none⟩ = some (.string (strB y4)) := cell_of_row _ _ 4 _ _ (0, 0) HLN.out
    have fN2_4 : w2.frozen? ⟨nb, 4, none⟩ = false := block_free HLN.out _
    have HF : Hid (FiveO s (numGet y0) y1 y2 (numGet y3) y4) := Lib.hid ⟨y0, y3, HR.out, rfl, rfl⟩
    have hne1 : ¬ g = nb := by omega
    have hne2 : ¬ nb = g := by omega
    have e0 := E0.out
    go_wp2_with fail
    refine (spNumGet_any y0 _ (by omega)).mono ?_
    rw [GotNum_defO, ← HN0.out, ← HBB0.out]
    rintro e w3 ⟨rfl, hb3⟩
    clear e0
    have E3 := Lib.hid ((hb3.cell lg2).trans E3.out)
    have lg3 := Nat.lt_of_lt_of_le lg2 hb3.size
    have zz3 : w2.heap.size ≤ w3.heap.size := by have := hb3.size; simpa [World.setCell] using this
    have YY3 : Below w.heap.size w w2 := X2
    have X3 : Below w.heap.size w w3 := YY3.trans (hb3.mono YY3.size)
    clear YY3
    have b3_0 : Hid (w3.heap[w.heap.size]? = some (.cells #[.int .i64 0, .string ⟨#[]⟩, .string ⟨#[]⟩, .int .i64 0, .string ⟨#[]⟩] 32 (0, 0))) := Lib.hid ((hb3.block _ (by first | omega | (simp [World.setCell] <;> omega))).trans b2_0.out)
    have b3_1 : Hid (w3.heap[nb]? = some (.cells #[.int .i64 0, .string (strB y1), .string (strB y2), .int .i64 0, .string (strB y4)] 32 (0, 0))) := Lib.hid ((hb3.block _ (by first | omega | (simp [World.setCell] <;> omega))).trans HLN.out)
    clear b2_0 HLN X2 zz2 l2_0 c2_0_0 f2_0_0 c2_0_1 f2_0_1 c2_0_2 f2_0_2 c2_0_3 f2_0_3 c2_0_4 f2_0_4 cN2_0 fN2_0 cN2_1 fN2_1 cN2_2 fN2_2 cN2_3 fN2_3 cN2_4 fN2_4 hb3
    have l3_0 : w.heap.size < w3.heap.size := (Array.getElem?_eq_some_iff.1 b3_0.out).1
    have c3_0_0 : w3.cell? ⟨w.heap.size, 0, none⟩ = some (.int .i64 0) := cell_of_row _ _ 0 _ _ (0, 0) b3_0.out
    have f3_0_0 : w3.frozen? ⟨w.heap.size, 0, none⟩ = false := block_free b3_0.out _
    have c3_0_1 : w3.cell? ⟨w.heap.size, 1, none⟩ = some (.string ⟨#[]⟩) := cell_of_row _ _ 1 _ _ (0, 0) b3_0.out
    have f3_0_1 : w3.frozen? ⟨w.heap.size, 1, none⟩ = false := block_free b3_0.out _
    have c3_0_2 : w3.cell? ⟨w.heap.size, 2, none⟩ = some (.string ⟨#[]⟩) := cell_of_row _ _ 2 _ _ (0, 0) b3_0.out
    have f3_0_2 : w3.frozen? ⟨w.heap.size, 2, none⟩ = false := block_free b3_0.out _
    have c3_0_3 : w3.cell? ⟨w.heap.size, 3, none⟩ = some (.int .i64 0) := cell_of_row _ _ 3 _ _ (0, 0) b3_0.out
    have f3_0_3 : w3.frozen? ⟨w.heap.size, 3, none⟩ = false := block_free b3_0.out _
    have c3_0_4 : w3.cell? ⟨w.heap.size, 4, none⟩ = some (.string ⟨#[]⟩) := cell_of_row _ _ 4 _ _ (0, 0) b3_0.out
    have f3_0_4 : w3.frozen? ⟨w.heap.size, 4, none⟩ = false := block_free b3_0.out _
    have l3_1 : nb < w3.heap.size := (Array.getElem?_eq_some_iff.1 b3_1.out).1
    have c3_1_0 : w3.cell? ⟨nb, 0, none⟩ = some (.int .i64 0) := cell_of_row _ _ 0 _ _ (0, 0) b3_1.out
    have f3_1_0 : w3.frozen? ⟨nb, 0, none⟩ = false := block_free b3_1.out _
    have c3_1_1 : w3.cell? ⟨nb, 1, none⟩ = some (.string (strB y1)) := cell_of_row _ _ 1 _ _ (0, 0) b3_1.out
    have f3_1_1 : w3.frozen? ⟨nb, 1, none⟩ = false := block_free b3_1.out _
    have c3_1_2 : w3.cell? ⟨nb, 2, none⟩ = some (.string (strB y2)) := cell_of_row _ _ 2 _ _ (0, 0) b3_1.out
    have f3_1_2 : w3.frozen? ⟨nb, 2, none⟩ = false := block_free b3_1.out _
    have c3_1_3 : w3.cell? ⟨nb, 3, none⟩ = some (.int .i64 0) := cell_of_row _ _ 3 _ _ (0, 0) b3_1.out
    have f3_1_3 : w3.frozen? ⟨nb, 3, none⟩ = false := block_free b3_1.out _
    have c3_1_4 : w3.cell? ⟨nb, 4, none⟩ = some (.string (strB y4)) := cell_of_row _ _ 4 _ _ (0, 0) b3_1.out
    have f3_1_4 : w3.frozen? ⟨nb, 4, none⟩ = false := block_free b3_1.out _
    have e3 := E3.out
    go_wp2_with fail
    refine (spNumGet_any y3 _ (by omega)).mono ?_
    rw [GotNum_defO, ← HN3.out, ← HBB3.out]
    rintro e w4 ⟨rfl, hb4⟩
    clear e3
    have zz4 : w3.heap.size ≤ w4.heap.size := by have := hb4.size; simpa [World.setCell] using this
    have YY4 : Below w.heap.size w (World.setCell w3 ⟨nb, 0, none⟩ (.int .i64 (n0 : Int))) := (Below.setCell (p := ⟨nb, 0, none⟩) X3 (by have := X3.size; simp <;> omega) _)
    have X4 : Below w.heap.size w w4 := YY4.trans (hb4.mono YY4.size)
    clear YY4
    have b4_0 : Hid (w4.heap[w.heap.size]? = some (.cells #[.int .i64 0, .string ⟨#[]⟩, .string ⟨#[]⟩, .int .i64 0, .string ⟨#[]⟩] 32 (0, 0))) := Lib.hid ((hb4.block _ (by first | omega | (simp [World.setCell] <;> omega))).trans ((heap_far (by first | omega | (simp <;> omega))).trans b3_0.out))
    have b4_1 : Hid (w4.heap[nb]? = some (.cells #[.int .i64 (n0 : Int), .string (strB y1), .string (strB y2), .int .i64 0, .string (strB y4)] 32 (0, 0))) := Lib.hid ((hb4.block _ (by first | omega | (simp [World.setCell] <;> omega))).trans (block_set b3_1.out))
    clear b3_0 b3_1 X3 zz3 l3_0 c3_0_0 f3_0_0 c3_0_1 f3_0_1 c3_0_2 f3_0_2 c3_0_3 f3_0_3 c3_0_4 f3_0_4 l3_1 c3_1_0 f3_1_0 c3_1_1 f3_1_1 c3_1_2 f3_1_2 c3_1_3 f3_1_3 c3_1_4 f3_1_4 hb4
    have l4_0 : w.heap.size < w4.heap.size := (Array.getElem?_eq_some_iff.1 b4_0.out).1
    have c4_0_0 : w4.cell? ⟨w.heap.size, 0, none⟩ = some (.int .i64 0) := cell_of_row _ _ 0 _ _ (0, 0) b4_0.out
    have f4_0_0 : w4.frozen? ⟨w.heap.size, 0, none⟩ = false := block_free b4_0.out _
    have c4_0_1 : w4.cell? ⟨w.heap.size, 1, none⟩ = some (.string ⟨#[]⟩) := cell_of_row _ _ 1 _ _ (0, 0) b4_0.out
    have f4_0_1 : w4.frozen? ⟨w.heap.size, 1, none⟩ = false := block_free b4_0.out _
    have c4_0_2 : w4.cell? ⟨w.heap.size, 2, none⟩ = some (.string ⟨#[]⟩) := cell_of_row _ _ 2 _ _ (0, 0) b4_0.out
    have f4_0_2 : w4.frozen? ⟨w.heap.size, 2, none⟩ = false := block_free b4_0.out _
    have c4_0_3 : w4.cell? ⟨w.heap.size, 3, none⟩ = some (.int .i64 0) := cell_of_row _ _ 3 _ _ (0, 0) b4_0.out
    have f4_0_3 : w4.frozen? ⟨w.heap.size, 3, none⟩ = false := block_free b4_0.out _
    have c4_0_4 : w4.cell? ⟨w.heap.size, 4, none⟩ = some (.string ⟨#[]⟩) := cell_of_row _ _ 4 _ _ (0, 0) b4_0.out
    have f4_0_4 : w4.frozen? ⟨w.heap.size, 4, none⟩ = false := block_free b4_0.out _
    have l4_1 : nb < w4.heap.size := (Array.getElem?_eq_some_iff.1 b4_1.out).1
    have c4_1_0 : w4.cell? ⟨nb, 0, none⟩ = some (.int .i64 (n0 : Int)) := cell_of_row _ _ 0 _ _ (0, 0) b4_1.out
    have f4_1_0 : w4.frozen? ⟨nb, 0, none⟩ = false := block_free b4_1.out _
    have c4_1_1 : w4.cell? ⟨nb, 1, none⟩ = some (.string (strB y1)) := cell_of_row _ _ 1 _ _ (0, 0) b4_1.out
    have f4_1_1 : w4.frozen? ⟨nb, 1, none⟩ = false := block_free b4_1.out _
    have c4_1_2 : w4.cell? ⟨nb, 2, none⟩ = some (.string (strB y2)) := cell_of_row _ _ 2 _ _ (0, 0) b4_1.out
    have f4_1_2 : w4.frozen? ⟨nb, 2, none⟩ = false := block_free b4_1.out _
    have c4_1_3 : w4.cell? ⟨nb, 3, none⟩ = some (.int .i64 0) := cell_of_row _ _ 3 _ _ (0, 0) b4_1.out
    have f4_1_3 : w4.frozen? ⟨nb, 3, none⟩ = false := block_free b4_1.out _
    have c4_1_4 : w4.cell? ⟨nb, 4, none⟩ = some (.string (strB y4)) := cell_of_row _ _ 4 _ _ (0, 0) b4_1.out
    have f4_1_4 : w4.frozen? ⟨nb, 4, none⟩ = false := block_free b4_1.out _
    go_wp2_with fail
    refine (spOpOk_any (n0 : Int) y1 y2 (n3 : Int) y4 _ (by omega) (by omega) (by omega)).mono ?_
    obtain ⟨rk, hrk⟩ : ∃ x, x = opB ((n0 : Int), y1, y2, (n3 : Int), y4) := ⟨_, rfl⟩
    rw [← hrk]
    have HRK := Lib.hid hrk; clear hrk
    rintro e w5 ⟨rfl, hb5⟩
    have zz5 : w4.heap.size ≤ w5.heap.size := by have := hb5.size; simpa [World.setCell] using this
    have YY5 : Below w.heap.size w (World.setCell w4 ⟨nb, 3, none⟩ (.int .i64 (n3 : Int))) := (Below.setCell (p := ⟨nb, 3, none⟩) X4 (by have := X4.size; simp <;> omega) _)
    have X5 : Below w.heap.size w w5 := YY5.trans (hb5.mono YY5.size)
    clear YY5
    have b5_0 : Hid (w5.heap[w.heap.size]? = some (.cells #[.int .i64 0, .string ⟨#[]⟩, .string ⟨#[]⟩, .int .i64 0, .string ⟨#[]⟩] 32 (0, 0))) := Lib.hid ((hb5.block _ (by first | omega | (simp [World.setCell] <;> omega))).trans ((heap_far (by first | omega | (simp <;> omega))).trans b4_0.out))
    have b5_1 : Hid (w5.heap[nb]? = some (.cells #[.int .i64 (n0 : Int), .string (strB y1), .string (strB y2), .int .i64 (n3 : Int), .string (strB y4)] 32 (0, 0))) := Lib.hid ((hb5.block _ (by first | omega | (simp [World.setCell] <;> omega))).trans (block_set b4_1.out))
    clear b4_0 b4_1 X4 zz4 l4_0 c4_0_0 f4_0_0 c4_0_1 f4_0_1 c4_0_2 f4_0_2 c4_0_3 f4_0_3 c4_0_4 f4_0_4 l4_1 c4_1_0 f4_1_0 c4_1_1 f4_1_1 c4_1_2 f4_1_2 c4_1_3 f4_1_3 c4_1_4 f4_1_4 hb5
    have l5_0 : w.heap.size < w5.heap.size := (Array.getElem?_eq_some_iff.1 b5_0.out).1
    have c5_0_0 : w5.cell? ⟨w.heap.size, 0, none⟩ = some (.int .i64 0) := cell_of_row _ _ 0 _ _ (0, 0) b5_0.out
    have f5_0_0 : w5.frozen? ⟨w.heap.size, 0, none⟩ = false := block_free b5_0.out _
    have c5_0_1 : w5.cell? ⟨w.heap.size, 1, none⟩ = some (.string ⟨#[]⟩) := cell_of_row _ _ 1 _ _ (0, 0) b5_0.out
    have f5_0_1 : w5.frozen? ⟨w.heap.size, 1, none⟩ = false := block_free b5_0.out _
    have c5_0_2 : w5.cell? ⟨w.heap.size, 2, none⟩ = some (.string ⟨#[]⟩) := cell_of_row _ _ 2 _ _ (0, 0) b5_0.out
    have f5_0_2 : w5.frozen? ⟨w.heap.size, 2, none⟩ = false := block_free b5_0.out _
    have c5_0_3 : w5.cell? ⟨w.heap.size, 3, none⟩ = some (.int .i64 0) := cell_of_row _ _ 3 _ _ (0, 0) b5_0.out
    have f5_0_3 : w5.frozen? ⟨w.heap.size, 3, none⟩ = false := block_free b5_0.out _
    have c5_0_4 : w5.cell? ⟨w.heap.size, 4, none⟩ = some (.string ⟨#[]⟩) := cell_of_row _ _ 4 _ _ (0, 0) b5_0.out
    have f5_0_4 : w5.frozen? ⟨w.heap.size, 4, none⟩ = false := block_free b5_0.out _
    have l5_1 : nb < w5.heap.size := (Array.getElem?_eq_some_iff.1 b5_1.out).1
    have c5_1_0 : w5.cell? ⟨nb, 0, none⟩ = some (.int .i64 (n0 : Int)) := cell_of_row _ _ 0 _ _ (0, 0) b5_1.out
    have f5_1_0 : w5.frozen? ⟨nb, 0, none⟩ = false := block_free b5_1.out _
    have c5_1_1 : w5.cell? ⟨nb, 1, none⟩ = some (.string (strB y1)) := cell_of_row _ _ 1 _ _ (0, 0) b5_1.out
    have f5_1_1 : w5.frozen? ⟨nb, 1, none⟩ = false := block_free b5_1.out _
    have c5_1_2 : w5.cell? ⟨nb, 2, none⟩ = some (.string (strB y2)) := cell_of_row _ _ 2 _ _ (0, 0) b5_1.out
    have f5_1_2 : w5.frozen? ⟨nb, 2, none⟩ = false := block_free b5_1.out _
    have c5_1_3 : w5.cell? ⟨nb, 3, none⟩ = some (.int .i64 (n3 : Int)) := cell_of_row _ _ 3 _ _ (0, 0) b5_1.out
    have f5_1_3 : w5.frozen? ⟨nb, 3, none⟩ = false := block_free b5_1.out _
    have c5_1_4 : w5.cell? ⟨nb, 4, none⟩ = some (.string (strB y4)) := cell_of_row _ _ 4 _ _ (0, 0) b5_1.out
    have f5_1_4 : w5.frozen? ⟨nb, 4, none⟩ = false := block_free b5_1.out _
    cases rk
    case false =>
      have HNO := Lib.hid (HF.out.no_ok (by rw [← HN0.out, ← HN3.out]; exact HRK.out.symm))
      have HRR : Hid ((w5).heap[w.heap.size]? = some (.cells #[.int .i64 0, .string ⟨#[]⟩, .string ⟨#[]⟩, .int .i64 0, .string ⟨#[]⟩] 32 (0, 0))) := Lib.hid (b5_0.out)
      have HBL : Hid (Below w.heap.size w w5) := Lib.hid X5
      go_wp2_with fail
      have hst := setG_5 (x0 := .int .i64 0) (x1 := .string ⟨#[]⟩) (x2 := .string ⟨#[]⟩) (x3 := .int .i64 0) (x4 := .string ⟨#[]⟩) HRR.out
      have r0 := cell_of_row _ _ 0 _ _ (0, 0) hst
      have r1 := cell_of_row _ _ 1 _ _ (0, 0) hst
      have r2 := cell_of_row _ _ 2 _ _ (0, 0) hst
      have r3 := cell_of_row _ _ 3 _ _ (0, 0) hst
      have r4 := cell_of_row _ _ 4 _ _ (0, 0) hst
      clear hst
      exact bodyPost_ret (v := .tuple #[.agg #[.int .i64 0, .string ⟨#[]⟩, .string ⟨#[]⟩, .int .i64 0, .string ⟨#[]⟩], .bool false]) (by simp [results, Tryz.results76, go_sem, r0, r1, r2, r3, r4]) rfl (⟨0, [], [], 0, [], false, rfl, HNO.out, (Below.setCell (p := ⟨w.heap.size, 4, none⟩) (Below.setCell (p := ⟨w.heap.size, 3, none⟩) (Below.setCell (p := ⟨w.heap.size, 2, none⟩) (Below.setCell (p := ⟨w.heap.size, 1, none⟩) (Below.setCell (p := ⟨w.heap.size, 0, none⟩) HBL.out (Nat.le_refl _) _) (Nat.le_refl _) _) (Nat.le_refl _) _) (Nat.le_refl _) _) (Nat.le_refl _) _)⟩)
    go_wp2_with fail
    refine (spOpPut_any (n0 : Int) y1 y2 (n3 : Int) y4 _ (by omega) (by omega) (by omega)).mono ?_
    rintro e w6 ⟨rfl, hb6⟩
    have zz6 : w5.heap.size ≤ w6.heap.size := by have := hb6.size; simpa [World.setCell] using this
    have YY6 : Below w.heap.size w w5 := X5
    have X6 : Below w.heap.size w w6 := YY6.trans (hb6.mono YY6.size)
    clear YY6
    have b6_0 : Hid (w6.heap[w.heap.size]? = some (.cells #[.int .i64 0, .string ⟨#[]⟩, .string ⟨#[]⟩, .int .i64 0, .string ⟨#[]⟩] 32 (0, 0))) := Lib.hid ((hb6.block _ (by first | omega | (simp [World.setCell] <;> omega))).trans b5_0.out)
    have b6_1 : Hid (w6.heap[nb]? = some (.cells #[.int .i64 (n0 : Int), .string (strB y1), .string (strB y2), .int .i64 (n3 : Int), .string (strB y4)] 32 (0, 0))) := Lib.hid ((hb6.block _ (by first | omega | (simp [World.setCell] <;> omega))).trans b5_1.out)
    clear b5_0 b5_1 X5 zz5 l5_0 c5_0_0 f5_0_0 c5_0_1 f5_0_1 c5_0_2 f5_0_2 c5_0_3 f5_0_3 c5_0_4 f5_0_4 l5_1 c5_1_0 f5_1_0 c5_1_1 f5_1_1 c5_1_2 f5_1_2 c5_1_3 f5_1_3 c5_1_4 f5_1_4 hb6
    have l6_0 : w.heap.size < w6.heap.size := (Array.getElem?_eq_some_iff.1 b6_0.out).1
    have c6_0_0 : w6.cell? ⟨w.heap.size, 0, none⟩ = some (.int .i64 0) := cell_of_row _ _ 0 _ _ (0, 0) b6_0.out
    have f6_0_0 : w6.frozen? ⟨w.heap.size, 0, none⟩ = false := block_free b6_0.out _
    have c6_0_1 : w6.cell? ⟨w.heap.size, 1, none⟩ = some (.string ⟨#[]⟩) := cell_of_row _ _ 1 _ _ (0, 0) b6_0.out
    have f6_0_1 : w6.frozen? ⟨w.heap.size, 1, none⟩ = false := block_free b6_0.out _
    have c6_0_2 : w6.cell? ⟨w.heap.size, 2, none⟩ = some (.string ⟨#[]⟩) := cell_of_row _ _ 2 _ _ (0, 0) b6_0.out
    have f6_0_2 : w6.frozen? ⟨w.heap.size, 2, none⟩ = false := block_free b6_0.out _
    have c6_0_3 : w6.cell? ⟨w.heap.size, 3, none⟩ = some (.int .i64 0) := cell_of_row _ _ 3 _ _ (0, 0) b6_0.out
    have f6_0_3 : w6.frozen? ⟨w.heap.size, 3, none⟩ = false := block_free b6_0.out _
    have c6_0_4 : w6.cell? ⟨w.heap.size, 4, none⟩ = some (.string ⟨#[]⟩) := cell_of_row _ _ 4 _ _ (0, 0) b6_0.out
    have f6_0_4 : w6.frozen? ⟨w.heap.size, 4, none⟩ = false := block_free b6_0.out _
    have l6_1 : nb < w6.heap.size := (Array.getElem?_eq_some_iff.1 b6_1.out).1
    have c6_1_0 : w6.cell? ⟨nb, 0, none⟩ = some (.int .i64 (n0 : Int)) := cell_of_row _ _ 0 _ _ (0, 0) b6_1.out
    have f6_1_0 : w6.frozen? ⟨nb, 0, none⟩ = false := block_free b6_1.out _
    have c6_1_1 : w6.cell? ⟨nb, 1, none⟩ = some (.string (strB y1)) := cell_of_row _ _ 1 _ _ (0, 0) b6_1.out
    have f6_1_1 : w6.frozen? ⟨nb, 1, none⟩ = false := block_free b6_1.out _
    have c6_1_2 : w6.cell? ⟨nb, 2, none⟩ = some (.string (strB y2)) := cell_of_row _ _ 2 _ _ (0, 0) b6_1.out
    have f6_1_2 : w6.frozen? ⟨nb, 2, none⟩ = false := block_free b6_1.out _
    have c6_1_3 : w6.cell? ⟨nb, 3, none⟩ = some (.int .i64 (n3 : Int)) := cell_of_row _ _ 3 _ _ (0, 0) b6_1.out
    have f6_1_3 : w6.frozen? ⟨nb, 3, none⟩ = false := block_free b6_1.out _
    have c6_1_4 : w6.cell? ⟨nb, 4, none⟩ = some (.string (strB y4)) := cell_of_row _ _ 4 _ _ (0, 0) b6_1.out
    have f6_1_4 : w6.frozen? ⟨nb, 4, none⟩ = false := block_free b6_1.out _
    by_cases hps : opS ((n0 : Int), y1, y2, (n3 : Int), y4) = s
    case neg =>
      have HNO := Lib.hid (HF.out.no_text (by rw [← HN0.out, ← HN3.out]; exact hps))
      have hq : ((strB (opS ((n0 : Int), y1, y2, (n3 : Int), y4))).toList == (strB s).toList) = false := by rw [strB_list, strB_list]; simpa using hps
      clear hps
      have HRR : Hid ((w6).heap[w.heap.size]? = some (.cells #[.int .i64 0, .string ⟨#[]⟩, .string ⟨#[]⟩, .int .i64 0, .string ⟨#[]⟩] 32 (0, 0))) := Lib.hid (b6_0.out)
      have HBL : Hid (Below w.heap.size w w6) := Lib.hid X6
      go_wp2_with fail
      have hst := setG_5 (x0 := .int .i64 0) (x1 := .string ⟨#[]⟩) (x2 := .string ⟨#[]⟩) (x3 := .int .i64 0) (x4 := .string ⟨#[]⟩) HRR.out
      have r0 := cell_of_row _ _ 0 _ _ (0, 0) hst
      have r1 := cell_of_row _ _ 1 _ _ (0, 0) hst
      have r2 := cell_of_row _ _ 2 _ _ (0, 0) hst
      have r3 := cell_of_row _ _ 3 _ _ (0, 0) hst
      have r4 := cell_of_row _ _ 4 _ _ (0, 0) hst
      clear hst
      exact bodyPost_ret (v := .tuple #[.agg #[.int .i64 0, .string ⟨#[]⟩, .string ⟨#[]⟩, .int .i64 0, .string ⟨#[]⟩], .bool false]) (by simp [results, Tryz.results76, go_sem, r0, r1, r2, r3, r4]) rfl (⟨0, [], [], 0, [], false, rfl, HNO.out, (Below.setCell (p := ⟨w.heap.size, 4, none⟩) (Below.setCell (p := ⟨w.heap.size, 3, none⟩) (Below.setCell (p := ⟨w.heap.size, 2, none⟩) (Below.setCell (p := ⟨w.heap.size, 1, none⟩) (Below.setCell (p := ⟨w.heap.size, 0, none⟩) HBL.out (Nat.le_refl _) _) (Nat.le_refl _) _) (Nat.le_refl _) _) (Nat.le_refl _) _) (Nat.le_refl _) _)⟩)
    have HY : Hid (opIs s ((n0 : Int), y1, y2, (n3 : Int), y4) true) := Lib.hid (by have := HF.out.yes (by rw [← HN0.out, ← HN3.out]; exact hps); rw [← HN0.out, ← HN3.out] at this; exact this)
    have hq : ((strB (opS ((n0 : Int), y1, y2, (n3 : Int), y4))).toList == (strB s).toList) = true := by rw [hps]; simp
    clear hps
    have HRR : Hid ((w6).heap[w.heap.size]? = some (.cells #[.int .i64 0, .string ⟨#[]⟩, .string ⟨#[]⟩, .int .i64 0, .string ⟨#[]⟩] 32 (0, 0))) := Lib.hid (b6_0.out)
    have HBL : Hid (Below w.heap.size w w6) := Lib.hid X6
    go_wp2_with fail
    have hst := setG_5 (x0 := .int .i64 (n0 : Int)) (x1 := .string (strB y1)) (x2 := .string (strB y2)) (x3 := .int .i64 (n3 : Int)) (x4 := .string (strB y4)) HRR.out
    have r0 := cell_of_row _ _ 0 _ _ (0, 0) hst
    have r1 := cell_of_row _ _ 1 _ _ (0, 0) hst
    have r2 := cell_of_row _ _ 2 _ _ (0, 0) hst
    have r3 := cell_of_row _ _ 3 _ _ (0, 0) hst
    have r4 := cell_of_row _ _ 4 _ _ (0, 0) hst
    clear hst
    exact bodyPost_ret (v := .tuple #[.agg #[.int .i64 (n0 : Int), .string (strB y1), .string (strB y2), .int .i64 (n3 : Int), .string (strB y4)], .bool true]) (by simp [results, Tryz.results76, go_sem, r0, r1, r2, r3, r4]) rfl (⟨_, _, _, _, _, _, rfl, HY.out, (Below.setCell (p := ⟨w.heap.size, 4, none⟩) (Below.setCell (p := ⟨w.heap.size, 3, none⟩) (Below.setCell (p := ⟨w.heap.size, 2, none⟩) (Below.setCell (p := ⟨w.heap.size, 1, none⟩) (Below.setCell (p := ⟨w.heap.size, 0, none⟩) HBL.out (Nat.le_refl _) _) (Nat.le_refl _) _) (Nat.le_refl _) _) (Nat.le_refl _) _) (Nat.le_refl _) _)⟩)
end Go.Proofs.YtggdjiklgakfnaaGreatDoor
