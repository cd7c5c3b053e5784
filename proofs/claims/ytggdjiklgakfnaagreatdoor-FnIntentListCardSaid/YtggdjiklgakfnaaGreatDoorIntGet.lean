/- IntentGet of the program and of the reference: the intent that a text is the text of. Condition: the variables that the library reads lie as the row says; the text is at most 2^40 bytes. -/
import Derived.Test.YtggdjiklgakfnaaGreatDoorOpGet
import Derived.Test.YtggdjiklgakfnaaGreatDoorIntPut
namespace Go.Proofs.YtggdjiklgakfnaaGreatDoor
set_option linter.unusedSimpArgs false
set_option linter.unnecessarySimpa false
open Go Go.Lib Go.RowKit
set_option linter.unusedVariables false

def NumDone (y1 y2 : Str) (j a b : Int) : Prop := (1 ≤ j → ∃ n : Nat, numGet y1 = some n ∧ a = n) ∧ (2 ≤ j → ∃ n : Nat, numGet y2 = some n ∧ b = n)
def NumsR (R T : Nat) (v2 v3 v4 v5 v6 v7 : Value) (y1 y2 : Str) (w : World) (e : Ending) (w' : World) : Prop :=
  ∃ (a b : Int) (ok : Bool), e = .returned (.bool ok) ∧ w'.heap[R]? = some (.cells #[.int .i64 a, .int .i64 b, v2, v3, v4, v5, v6, v7] T (0, 0)) ∧ Chg (· ∈ [R]) w w' ∧
    ((ok = true ∧ ∃ n m : Nat, numGet y1 = some n ∧ numGet y2 = some m ∧ a = n ∧ b = m) ∨ (ok = false ∧ ¬ ((numGet y1).isSome = true ∧ (numGet y2).isSome = true)))
set_option maxRecDepth 100000 in
set_option maxHeartbeats 4000000 in
theorem nums2_any (g cp gp R T : Nat) (y1 y2 : Str) (a0 b0 : Int) (v2 v3 v4 v5 v6 v7 : Value) (w : World) (he : ∀ W, Chg (· ∈ [R]) w W → Env W)
    (e1 : w.cell? ⟨g, 1, none⟩ = some (.string (strB y1))) (e2 : w.cell? ⟨g, 2, none⟩ = some (.string (strB y2)))
    (hp : w.heap[gp]? = some (.cells #[.pointer (some ⟨R, 0, none⟩), .pointer (some ⟨R, 1, none⟩)] 107 (0, 0)))
    (hR : w.heap[R]? = some (.cells #[.int .i64 a0, .int .i64 b0, v2, v3, v4, v5, v6, v7] T (0, 0))) (hl1 : y1.length ≤ 1000000) (hl2 : y2.length ≤ 1000000) (hgR : g ≠ R) (hpR : gp ≠ R) :
    Calls Tryz.prog 70 #[.slice (some ⟨g, 1, none⟩) 2 cp, .slice (some ⟨gp, 0, none⟩) 2 2] w (NumsR R T v2 v3 v4 v5 v6 v7 y1 y2 w) := by
  have lg := World.block_lt_of_cell? _ _ e1
  have lp := (Array.getElem?_eq_some_iff.1 hp).1
  have lR := (Array.getElem?_eq_some_iff.1 hR).1
  have HE := Lib.hid he; have E1 := Lib.hid e1; have E2 := Lib.hid e2; have HP := Lib.hid hp; have HR := Lib.hid hR
  clear he e1 e2 hp hR
  go_enter Tryz.func70, Tryz.ntmps70
  go_wp2_with fail
  go_loopw [11] (fun i wr => ∃ (j a b : Int), (j = 0 ∨ j = 1 ∨ j = 2) ∧ i = .int .i64 j ∧ Hid (wr.heap[R]? = some (.cells #[.int .i64 a, .int .i64 b, v2, v3, v4, v5, v6, v7] T (0, 0))) ∧ Hid (Chg (· ∈ [R]) w wr) ∧ Hid (NumDone y1 y2 j a b)) (fun i _ => 2 - (RowKit.intOf i).toNat)
  case atStart => exact ⟨0, a0, b0, .inl rfl, rfl, HR, Lib.hid (Chg.refl _ _), Lib.hid ⟨fun h => absurd h (by omega), fun h => absurd h (by omega)⟩⟩
  case round =>
    obtain ⟨j, a, b, hj, rfl, HRR, HC, HD⟩ := hrel
    have hsz := HC.out.size
    have lgr : g < wr.heap.size := by omega
    rcases hj with rfl | rfl | rfl
    · have qp : wr.cell? ⟨gp, 0, none⟩ = some (.pointer (some ⟨R, 0, none⟩)) := (World.cell?_of_block (HC.out.block gp lp (by simp; omega))).trans (cell_of_row _ _ 0 _ _ (0, 0) HP.out)
      have qe : wr.cell? ⟨g, 1, none⟩ = some (.string (strB y1)) := (World.cell?_of_block (HC.out.block g lg (by simp; omega))).trans E1.out
      go_wp2_with fail
      refine (numGet_any y1 wr (HE.out wr HC.out) (by omega)).mono ?_
      rw [GotNum_defO]
      rintro e w2 ⟨rfl, hb2⟩
      have hR2 := (hb2.block R (by omega)).trans HRR.out
      have hC2 := HC.out.trans (Chg.of_below hb2 (· ∈ [R]))
      cases hn : numGet y1 with
      | none =>
        have HN := Lib.hid hn; clear hn
        have HR2 := Lib.hid hR2; clear hR2 hb2
        simp only [Option.getD_none, Option.isSome_none]
        go_wp2_with fail
        go_ret
        exact ⟨a, b, false, rfl, HR2.out, hC2, .inr ⟨rfl, fun h => by have h2 := h.1; rw [HN.out] at h2; cases h2⟩⟩
      | some n =>
        have HN := Lib.hid hn; clear hn
        simp only [Option.getD_some, Option.isSome_some]
        have fR := fun o => block_free hR2 o
        have fR0 := fR 0
        have cR := cell_of_row _ _ 0 _ _ (0, 0) hR2
        have HR3 := Lib.hid (block_set (o := 0) (v := .int .i64 (n : Int)) hR2)
        have HC3 := Lib.hid (Chg.setCell (p := ⟨R, 0, none⟩) hC2 (.inl (by simp)) (.int .i64 (n : Int)))
        clear fR hR2 hC2 hb2 qp qe
        go_wp2_with fail
        go_roundw
        case rel => exact ⟨1, n, b, .inr (.inl rfl), rfl, HR3, HC3, Lib.hid ⟨fun _ => ⟨n, HN.out, rfl⟩, fun h => absurd h (by omega)⟩⟩
        case measure => simp [RowKit.intOf]
    · have qp : wr.cell? ⟨gp, 1, none⟩ = some (.pointer (some ⟨R, 1, none⟩)) := (World.cell?_of_block (HC.out.block gp lp (by simp; omega))).trans (cell_of_row _ _ 1 _ _ (0, 0) HP.out)
      have qe : wr.cell? ⟨g, 2, none⟩ = some (.string (strB y2)) := (World.cell?_of_block (HC.out.block g lg (by simp; omega))).trans E2.out
      go_wp2_with fail
      refine (numGet_any y2 wr (HE.out wr HC.out) (by omega)).mono ?_
      rw [GotNum_defO]
      rintro e w2 ⟨rfl, hb2⟩
      have hR2 := (hb2.block R (by omega)).trans HRR.out
      have hC2 := HC.out.trans (Chg.of_below hb2 (· ∈ [R]))
      cases hn : numGet y2 with
      | none =>
        have HN := Lib.hid hn; clear hn
        have HR2 := Lib.hid hR2; clear hR2 hb2
        simp only [Option.getD_none, Option.isSome_none]
        go_wp2_with fail
        go_ret
        exact ⟨a, b, false, rfl, HR2.out, hC2, .inr ⟨rfl, fun h => by have h2 := h.2; rw [HN.out] at h2; cases h2⟩⟩
      | some n =>
        have HN := Lib.hid hn; clear hn
        simp only [Option.getD_some, Option.isSome_some]
        have fR := fun o => block_free hR2 o
        have fR0 := fR 1
        have cR := cell_of_row _ _ 1 _ _ (0, 0) hR2
        have HR3 := Lib.hid (block_set (o := 1) (v := .int .i64 (n : Int)) hR2)
        have HC3 := Lib.hid (Chg.setCell (p := ⟨R, 1, none⟩) hC2 (.inl (by simp)) (.int .i64 (n : Int)))
        clear fR hR2 hC2 hb2 qp qe
        go_wp2_with fail
        go_roundw
        case rel => exact ⟨2, a, n, .inr (.inr rfl), rfl, HR3, HC3, Lib.hid ⟨fun _ => HD.out.1 (by omega), fun _ => ⟨n, HN.out, rfl⟩⟩⟩
        case measure => simp [RowKit.intOf]
    · obtain ⟨n, hn1, hn2⟩ := HD.out.1 (by omega)
      obtain ⟨m, hm1, hm2⟩ := HD.out.2 (by omega)
      have H1 := Lib.hid hn1; have H2 := Lib.hid hn2; have H3 := Lib.hid hm1; have H4 := Lib.hid hm2
      clear hn1 hn2 hm1 hm2
      go_wp2_with fail
      go_ret
      exact ⟨a, b, true, rfl, HRR.out, HC.out, .inl ⟨rfl, n, m, H1.out, H3.out, H2.out, H4.out⟩⟩
def GotInt (s : Str) (w : World) (e : Ending) (w' : World) : Prop :=
  ∃ (g q : Int) (h : Str) (k : Int) (p t : Str) (a : Int) (x : Str) (ok : Bool), e = .returned (.tuple #[.agg #[.int .i64 g, .int .i64 q, .string (strB h), .int .i64 k, .string (strB p), .string (strB t), .int .i64 a, .string (strB x)], .bool ok]) ∧ intIs s (g, q, h, k, p, t, a, x) ok ∧ Below w.heap.size w w'
set_option maxRecDepth 100000 in
set_option maxHeartbeats 8000000 in
theorem intGet_any (s : Str) (w : World) (he : Env w) (hs : s.length ≤ 1099511627776) : Calls Tryz.prog 41 #[.string (strB s)] w (GotInt s w) := by
  go_enter Tryz.func41, Tryz.ntmps41
  go_wp2_with fail
  refine (fieldsGet_any s _ (he.below (Below.alloc (Below.refl _ _) (by first | exact Nat.le_refl _ | (simp [World.setCell] <;> omega)) _)) hs).mono ?_
  rintro e w1 (⟨fl, A, cp, hR, rfl, hI, hb1⟩ | ⟨hno, ⟨A, cp, rfl⟩, hb1⟩)
  case inr =>
    have HNO := Lib.hid (int_norec hno); clear hno
    have zz1 : w.heap.size + 1 ≤ w1.heap.size := by have := hb1.size; simp [World.setCell] at this; omega
    have YY1 : Below w.heap.size w (World.alloc w (.cells #[.int .i64 0, .int .i64 0, .string ⟨#[]⟩, .int .i64 0, .string ⟨#[]⟩, .string ⟨#[]⟩, .int .i64 0, .string ⟨#[]⟩] 34)) := (Below.alloc (Below.refl _ _) (by first | exact Nat.le_refl _ | (simp [World.setCell] <;> omega)) _)
    have X1 : Below w.heap.size w w1 := YY1.trans (hb1.mono YY1.size)
    clear YY1
    have b1_0 : Hid (w1.heap[w.heap.size]? = some (.cells #[.int .i64 0, .int .i64 0, .string ⟨#[]⟩, .int .i64 0, .string ⟨#[]⟩, .string ⟨#[]⟩, .int .i64 0, .string ⟨#[]⟩] 34 (0, 0))) := Lib.hid ((hb1.block _ (by first | omega | (simp [World.setCell] <;> omega))).trans (show _ from by have := heap_alloc_new w (.cells #[.int .i64 0, .int .i64 0, .string ⟨#[]⟩, .int .i64 0, .string ⟨#[]⟩, .string ⟨#[]⟩, .int .i64 0, .string ⟨#[]⟩] 34); simpa [World.setCell] using this))
    clear hb1
    have l1_0 : w.heap.size < w1.heap.size := (Array.getElem?_eq_some_iff.1 b1_0.out).1
    have c1_0_0 : w1.cell? ⟨w.heap.size, 0, none⟩ = some (.int .i64 0) := cell_of_row _ _ 0 _ _ (0, 0) b1_0.out
    have f1_0_0 : w1.frozen? ⟨w.heap.size, 0, none⟩ = false := block_free b1_0.out _
    have c1_0_1 : w1.cell? ⟨w.heap.size, 1, none⟩ = some (.int .i64 0) := cell_of_row _ _ 1 _ _ (0, 0) b1_0.out
    have f1_0_1 : w1.frozen? ⟨w.heap.size, 1, none⟩ = false := block_free b1_0.out _
    have c1_0_2 : w1.cell? ⟨w.heap.size, 2, none⟩ = some (.string ⟨#[]⟩) := cell_of_row _ _ 2 _ _ (0, 0) b1_0.out
    have f1_0_2 : w1.frozen? ⟨w.heap.size, 2, none⟩ = false := block_free b1_0.out _
    have c1_0_3 : w1.cell? ⟨w.heap.size, 3, none⟩ = some (.int .i64 0) := cell_of_row _ _ 3 _ _ (0, 0) b1_0.out
    have f1_0_3 : w1.frozen? ⟨w.heap.size, 3, none⟩ = false := block_free b1_0.out _
    have c1_0_4 : w1.cell? ⟨w.heap.size, 4, none⟩ = some (.string ⟨#[]⟩) := cell_of_row _ _ 4 _ _ (0, 0) b1_0.out
    have f1_0_4 : w1.frozen? ⟨w.heap.size, 4, none⟩ = false := block_free b1_0.out _
    have c1_0_5 : w1.cell? ⟨w.heap.size, 5, none⟩ = some (.string ⟨#[]⟩) := cell_of_row _ _ 5 _ _ (0, 0) b1_0.out
    have f1_0_5 : w1.frozen? ⟨w.heap.size, 5, none⟩ = false := block_free b1_0.out _
    have c1_0_6 : w1.cell? ⟨w.heap.size, 6, none⟩ = some (.int .i64 0) := cell_of_row _ _ 6 _ _ (0, 0) b1_0.out
    have f1_0_6 : w1.frozen? ⟨w.heap.size, 6, none⟩ = false := block_free b1_0.out _
    have c1_0_7 : w1.cell? ⟨w.heap.size, 7, none⟩ = some (.string ⟨#[]⟩) := cell_of_row _ _ 7 _ _ (0, 0) b1_0.out
    have f1_0_7 : w1.frozen? ⟨w.heap.size, 7, none⟩ = false := block_free b1_0.out _
    have HRR : Hid ((w1).heap[w.heap.size]? = some (.cells #[.int .i64 0, .int .i64 0, .string ⟨#[]⟩, .int .i64 0, .string ⟨#[]⟩, .string ⟨#[]⟩, .int .i64 0, .string ⟨#[]⟩] 34 (0, 0))) := Lib.hid (b1_0.out)
    have HBL : Hid (Below w.heap.size w w1) := Lib.hid X1
    go_wp2_with fail
    have hst := setG_8 (x0 := .int .i64 0) (x1 := .int .i64 0) (x2 := .string ⟨#[]⟩) (x3 := .int .i64 0) (x4 := .string ⟨#[]⟩) (x5 := .string ⟨#[]⟩) (x6 := .int .i64 0) (x7 := .string ⟨#[]⟩) HRR.out
    have r0 := cell_of_row _ _ 0 _ _ (0, 0) hst
    have r1 := cell_of_row _ _ 1 _ _ (0, 0) hst
    have r2 := cell_of_row _ _ 2 _ _ (0, 0) hst
    have r3 := cell_of_row _ _ 3 _ _ (0, 0) hst
    have r4 := cell_of_row _ _ 4 _ _ (0, 0) hst
    have r5 := cell_of_row _ _ 5 _ _ (0, 0) hst
    have r6 := cell_of_row _ _ 6 _ _ (0, 0) hst
    have r7 := cell_of_row _ _ 7 _ _ (0, 0) hst
    clear hst
    exact bodyPost_ret (v := .tuple #[.agg #[.int .i64 0, .int .i64 0, .string ⟨#[]⟩, .int .i64 0, .string ⟨#[]⟩, .string ⟨#[]⟩, .int .i64 0, .string ⟨#[]⟩], .bool false]) (by simp [results, Tryz.results41, go_sem, r0, r1, r2, r3, r4, r5, r6, r7]) rfl (⟨0, 0, [], 0, [], [], 0, [], false, rfl, HNO.out, (Below.setCell (p := ⟨w.heap.size, 7, none⟩) (Below.setCell (p := ⟨w.heap.size, 6, none⟩) (Below.setCell (p := ⟨w.heap.size, 5, none⟩) (Below.setCell (p := ⟨w.heap.size, 4, none⟩) (Below.setCell (p := ⟨w.heap.size, 3, none⟩) (Below.setCell (p := ⟨w.heap.size, 2, none⟩) (Below.setCell (p := ⟨w.heap.size, 1, none⟩) (Below.setCell (p := ⟨w.heap.size, 0, none⟩) HBL.out (Nat.le_refl _) _) (Nat.le_refl _) _) (Nat.le_refl _) _) (Nat.le_refl _) _) (Nat.le_refl _) _) (Nat.le_refl _) _) (Nat.le_refl _) _) (Nat.le_refl _) _)⟩)
  have HR := Lib.hid hR; clear hR
  have HI1 := Lib.hid hI; clear hI
  have zz1 : w.heap.size + 1 ≤ w1.heap.size := by have := hb1.size; simp [World.setCell] at this; omega
  have YY1 : Below w.heap.size w (World.alloc w (.cells #[.int .i64 0, .int .i64 0, .string ⟨#[]⟩, .int .i64 0, .string ⟨#[]⟩, .string ⟨#[]⟩, .int .i64 0, .string ⟨#[]⟩] 34)) := (Below.alloc (Below.refl _ _) (by first | exact Nat.le_refl _ | (simp [World.setCell] <;> omega)) _)
  have X1 : Below w.heap.size w w1 := YY1.trans (hb1.mono YY1.size)
  clear YY1
  have b1_0 : Hid (w1.heap[w.heap.size]? = some (.cells #[.int .i64 0, .int .i64 0, .string ⟨#[]⟩, .int .i64 0, .string ⟨#[]⟩, .string ⟨#[]⟩, .int .i64 0, .string ⟨#[]⟩] 34 (0, 0))) := Lib.hid ((hb1.block _ (by first | omega | (simp [World.setCell] <;> omega))).trans (show _ from by have := heap_alloc_new w (.cells #[.int .i64 0, .int .i64 0, .string ⟨#[]⟩, .int .i64 0, .string ⟨#[]⟩, .string ⟨#[]⟩, .int .i64 0, .string ⟨#[]⟩] 34); simpa [World.setCell] using this))
  clear hb1
  have l1_0 : w.heap.size < w1.heap.size := (Array.getElem?_eq_some_iff.1 b1_0.out).1
  have c1_0_0 : w1.cell? ⟨w.heap.size, 0, none⟩ = some (.int .i64 0) := cell_of_row _ _ 0 _ _ (0, 0) b1_0.out
  have f1_0_0 : w1.frozen? ⟨w.heap.size, 0, none⟩ = false := block_free b1_0.out _
  have c1_0_1 : w1.cell? ⟨w.heap.size, 1, none⟩ = some (.int .i64 0) := cell_of_row _ _ 1 _ _ (0, 0) b1_0.out
  have f1_0_1 : w1.frozen? ⟨w.heap.size, 1, none⟩ = false := block_free b1_0.out _
  have c1_0_2 : w1.cell? ⟨w.heap.size, 2, none⟩ = some (.string ⟨#[]⟩) := cell_of_row _ _ 2 _ _ (0, 0) b1_0.out
  have f1_0_2 : w1.frozen? ⟨w.heap.size, 2, none⟩ = false := block_free b1_0.out _
  have c1_0_3 : w1.cell? ⟨w.heap.size, 3, none⟩ = some (.int .i64 0) := cell_of_row _ _ 3 _ _ (0, 0) b1_0.out
  have f1_0_3 : w1.frozen? ⟨w.heap.size, 3, none⟩ = false := block_free b1_0.out _
  have c1_0_4 : w1.cell? ⟨w.heap.size, 4, none⟩ = some (.string ⟨#[]⟩) := cell_of_row _ _ 4 _ _ (0, 0) b1_0.out
  have f1_0_4 : w1.frozen? ⟨w.heap.size, 4, none⟩ = false := block_free b1_0.out _
  have c1_0_5 : w1.cell? ⟨w.heap.size, 5, none⟩ = some (.string ⟨#[]⟩) := cell_of_row _ _ 5 _ _ (0, 0) b1_0.out
  have f1_0_5 : w1.frozen? ⟨w.heap.size, 5, none⟩ = false := block_free b1_0.out _
  have c1_0_6 : w1.cell? ⟨w.heap.size, 6, none⟩ = some (.int .i64 0) := cell_of_row _ _ 6 _ _ (0, 0) b1_0.out
  have f1_0_6 : w1.frozen? ⟨w.heap.size, 6, none⟩ = false := block_free b1_0.out _
  have c1_0_7 : w1.cell? ⟨w.heap.size, 7, none⟩ = some (.string ⟨#[]⟩) := cell_of_row _ _ 7 _ _ (0, 0) b1_0.out
  have f1_0_7 : w1.frozen? ⟨w.heap.size, 7, none⟩ = false := block_free b1_0.out _
  by_cases hl : fl.length = 6
  case neg =>
    have HNO := Lib.hid (int_notlen HR.out hl)
    have hnb : ((fl.length : Int) == 6) = false := by simp; omega
    have hnc : ¬ (fl.length : Int) = 6 := by omega
    clear hl
    have HRR : Hid ((w1).heap[w.heap.size]? = some (.cells #[.int .i64 0, .int .i64 0, .string ⟨#[]⟩, .int .i64 0, .string ⟨#[]⟩, .string ⟨#[]⟩, .int .i64 0, .string ⟨#[]⟩] 34 (0, 0))) := Lib.hid (b1_0.out)
    have HBL : Hid (Below w.heap.size w w1) := Lib.hid X1
    go_wp2_with fail
    have hst := setG_8 (x0 := .int .i64 0) (x1 := .int .i64 0) (x2 := .string ⟨#[]⟩) (x3 := .int .i64 0) (x4 := .string ⟨#[]⟩) (x5 := .string ⟨#[]⟩) (x6 := .int .i64 0) (x7 := .string ⟨#[]⟩) HRR.out
    have r0 := cell_of_row _ _ 0 _ _ (0, 0) hst
    have r1 := cell_of_row _ _ 1 _ _ (0, 0) hst
    have r2 := cell_of_row _ _ 2 _ _ (0, 0) hst
    have r3 := cell_of_row _ _ 3 _ _ (0, 0) hst
    have r4 := cell_of_row _ _ 4 _ _ (0, 0) hst
    have r5 := cell_of_row _ _ 5 _ _ (0, 0) hst
    have r6 := cell_of_row _ _ 6 _ _ (0, 0) hst
    have r7 := cell_of_row _ _ 7 _ _ (0, 0) hst
    clear hst
    exact bodyPost_ret (v := .tuple #[.agg #[.int .i64 0, .int .i64 0, .string ⟨#[]⟩, .int .i64 0, .string ⟨#[]⟩, .string ⟨#[]⟩, .int .i64 0, .string ⟨#[]⟩], .bool false]) (by simp [results, Tryz.results41, go_sem, r0, r1, r2, r3, r4, r5, r6, r7]) rfl (⟨0, 0, [], 0, [], [], 0, [], false, rfl, HNO.out, (Below.setCell (p := ⟨w.heap.size, 7, none⟩) (Below.setCell (p := ⟨w.heap.size, 6, none⟩) (Below.setCell (p := ⟨w.heap.size, 5, none⟩) (Below.setCell (p := ⟨w.heap.size, 4, none⟩) (Below.setCell (p := ⟨w.heap.size, 3, none⟩) (Below.setCell (p := ⟨w.heap.size, 2, none⟩) (Below.setCell (p := ⟨w.heap.size, 1, none⟩) (Below.setCell (p := ⟨w.heap.size, 0, none⟩) HBL.out (Nat.le_refl _) _) (Nat.le_refl _) _) (Nat.le_refl _) _) (Nat.le_refl _) _) (Nat.le_refl _) _) (Nat.le_refl _) _) (Nat.le_refl _) _) (Nat.le_refl _) _)⟩)
  obtain ⟨y0, y1, y2, y3, y4, y5, rfl⟩ := strsG6 hl
  rw [hl]
  have hcp : 6 ≤ cp := HI1.out.le
  have hc1 : ¬ cp = 1 := by omega
  have cc1 : ((1 : Int) ≤ (3 : Int)) := by omega
  have cc2 : ((3 : Int) ≤ (cp : Int)) := by omega
  obtain ⟨g, rfl, hgB, lg1, e1⟩ := HI1.out.cellG (j := 1) rfl
  obtain ⟨g2, e2', _, _, e2⟩ := HI1.out.cellG (j := 2) rfl
  injection e2' with e2'; injection e2' with e2'; subst e2'
  obtain ⟨g3, e3', _, _, e3⟩ := HI1.out.cellG (j := 3) rfl
  injection e3' with e3'; injection e3' with e3'; subst e3'
  obtain ⟨g4, e4', _, _, e4⟩ := HI1.out.cellG (j := 4) rfl
  injection e4' with e4'; injection e4' with e4'; subst e4'
  have hl1 := recG_le HR.out (f := y1) (by simp)
  have E1 := Lib.hid e1
  have hl2 := recG_le HR.out (f := y2) (by simp)
  have E2 := Lib.hid e2
  have hl3 := recG_le HR.out (f := y3) (by simp)
  have E3 := Lib.hid e3
  have hl4 := recG_le HR.out (f := y4) (by simp)
  have E4 := Lib.hid e4
  clear hl HI1 e1 e2 e4
  have hw01 : w.heap.size < w1.heap.size := l1_0
  have e4 := E4.out
  go_wp2_with fail
  refine (opGet_any y4 _ (he.below (Below.alloc X1 (by have := X1.size; simp [World.setCell] <;> omega) _)) (by omega)).mono ?_
  rintro e w2 ⟨k, p, t, a, x, ok, rfl, hop, hb2⟩
  have HOP := Lib.hid hop; clear hop e4 e3
  have E1 := Lib.hid ((World.cell?_of_block ((hb2.block g (by first | omega | (simp [World.setCell] <;> omega))).trans ((Below.heap_alloc _ _ _ (by first | omega | (simp [World.setCell] <;> omega))).trans (Eq.refl (w1.heap[g]?))))).trans E1.out)
  have E2 := Lib.hid ((World.cell?_of_block ((hb2.block g (by first | omega | (simp [World.setCell] <;> omega))).trans ((Below.heap_alloc _ _ _ (by first | omega | (simp [World.setCell] <;> omega))).trans (Eq.refl (w1.heap[g]?))))).trans E2.out)
  have lg2 : g < w2.heap.size := by have := hb2.size; simp [World.setCell] at this; omega
  have hg6 : g < w1.heap.size := lg1
  have zz2 : w1.heap.size + 1 ≤ w2.heap.size := by have := hb2.size; simp [World.setCell] at this; omega
  have YY2 : Below w.heap.size w (World.alloc w1 (.cells #[.int .i64 0, .int .i64 0, .string (strB y3), .int .i64 0, .string ⟨#[]⟩, .string ⟨#[]⟩, .int .i64 0, .string ⟨#[]⟩] 34)) := (Below.alloc X1 (by have := X1.size; simp [World.setCell] <;> omega) _)
  have X2 : Below w.heap.size w w2 := YY2.trans (hb2.mono YY2.size)
  clear YY2
  have b2_0 : Hid (w2.heap[w.heap.size]? = some (.cells #[.int .i64 0, .int .i64 0, .string ⟨#[]⟩, .int .i64 0, .string ⟨#[]⟩, .string ⟨#[]⟩, .int .i64 0, .string ⟨#[]⟩] 34 (0, 0))) := Lib.hid ((hb2.block _ (by first | omega | (simp [World.setCell] <;> omega))).trans ((Below.heap_alloc _ _ _ (by first | omega | (simp [World.setCell] <;> omega))).trans b1_0.out))
  have b2_1 : Hid (w2.heap[w1.heap.size]? = some (.cells #[.int .i64 0, .int .i64 0, .string (strB y3), .int .i64 0, .string ⟨#[]⟩, .string ⟨#[]⟩, .int .i64 0, .string ⟨#[]⟩] 34 (0, 0))) := Lib.hid ((hb2.block _ (by first | omega | (simp [World.setCell] <;> omega))).trans (show _ from by have := heap_alloc_new w1 (.cells #[.int .i64 0, .int .i64 0, .string (strB y3), .int .i64 0, .string ⟨#[]⟩, .string ⟨#[]⟩, .int .i64 0, .string ⟨#[]⟩] 34); simpa [World.setCell] using this))
  clear b1_0 X1 zz1 l1_0 c1_0_0 f1_0_0 c1_0_1 f1_0_1 c1_0_2 f1_0_2 c1_0_3 f1_0_3 c1_0_4 f1_0_4 c1_0_5 f1_0_5 c1_0_6 f1_0_6 c1_0_7 f1_0_7 hb2
  have l2_0 : w.heap.size < w2.heap.size := (Array.getElem?_eq_some_iff.1 b2_0.out).1
  have c2_0_0 : w2.cell? ⟨w.heap.size, 0, none⟩ = some (.int .i64 0) := cell_of_row _ _ 0 _ _ (0, 0) b2_0.out
  have f2_0_0 : w2.frozen? ⟨w.heap.size, 0, none⟩ = false := block_free b2_0.out _
  have c2_0_1 : w2.cell? ⟨w.heap.size, 1, none⟩ = some (.int .i64 0) := cell_of_row _ _ 1 _ _ (0, 0) b2_0.out
  have f2_0_1 : w2.frozen? ⟨w.heap.size, 1, none⟩ = false := block_free b2_0.out _
  have c2_0_2 : w2.cell? ⟨w.heap.size, 2, none⟩ = some (.string ⟨#[]⟩) := cell_of_row _ _ 2 _ _ (0, 0) b2_0.out
  have f2_0_2 : w2.frozen? ⟨w.heap.size, 2, none⟩ = false := block_free b2_0.out _
  have c2_0_3 : w2.cell? ⟨w.heap.size, 3, none⟩ = some (.int .i64 0) := cell_of_row _ _ 3 _ _ (0, 0) b2_0.out
  have f2_0_3 : w2.frozen? ⟨w.heap.size, 3, none⟩ = false := block_free b2_0.out _
  have c2_0_4 : w2.cell? ⟨w.heap.size, 4, none⟩ = some (.string ⟨#[]⟩) := cell_of_row _ _ 4 _ _ (0, 0) b2_0.out
  have f2_0_4 : w2.frozen? ⟨w.heap.size, 4, none⟩ = false := block_free b2_0.out _
  have c2_0_5 : w2.cell? ⟨w.heap.size, 5, none⟩ = some (.string ⟨#[]⟩) := cell_of_row _ _ 5 _ _ (0, 0) b2_0.out
  have f2_0_5 : w2.frozen? ⟨w.heap.size, 5, none⟩ = false := block_free b2_0.out _
  have c2_0_6 : w2.cell? ⟨w.heap.size, 6, none⟩ = some (.int .i64 0) := cell_of_row _ _ 6 _ _ (0, 0) b2_0.out
  have f2_0_6 : w2.frozen? ⟨w.heap.size, 6, none⟩ = false := block_free b2_0.out _
  have c2_0_7 : w2.cell? ⟨w.heap.size, 7, none⟩ = some (.string ⟨#[]⟩) := cell_of_row _ _ 7 _ _ (0, 0) b2_0.out
  have f2_0_7 : w2.frozen? ⟨w.heap.size, 7, none⟩ = false := block_free b2_0.out _
  have l2_1 : w1.heap.size < w2.heap.size := (Array.getElem?_eq_some_iff.1 b2_1.out).1
  have c2_1_0 : w2.cell? ⟨w1.heap.size, 0, none⟩ = some (.int .i64 0) := cell_of_row _ _ 0 _ _ (0, 0) b2_1.out
  have f2_1_0 : w2.frozen? ⟨w1.heap.size, 0, none⟩ = false := block_free b2_1.out _
  have c2_1_1 : w2.cell? ⟨w1.heap.size, 1, none⟩ = some (.int .i64 0) := cell_of_row _ _ 1 _ _ (0, 0) b2_1.out
  have f2_1_1 : w2.frozen? ⟨w1.heap.size, 1, none⟩ = false := block_free b2_1.out _
  have c2_1_2 : w2.cell? ⟨w1.heap.size, 2, none⟩ = some (.string (strB y3)) := cell_of_row _ _ 2 _ _ (0, 0) b2_1.out
  have f2_1_2 : w2.frozen? ⟨w1.heap.size, 2, none⟩ = false := block_free b2_1.out _
  have c2_1_3 : w2.cell? ⟨w1.heap.size, 3, none⟩ = some (.int .i64 0) := cell_of_row _ _ 3 _ _ (0, 0) b2_1.out
  have f2_1_3 : w2.frozen? ⟨w1.heap.size, 3, none⟩ = false := block_free b2_1.out _
  have c2_1_4 : w2.cell? ⟨w1.heap.size, 4, none⟩ = some (.string ⟨#[]⟩) := cell_of_row _ _ 4 _ _ (0, 0) b2_1.out
  have f2_1_4 : w2.frozen? ⟨w1.heap.size, 4, none⟩ = false := block_free b2_1.out _
  have c2_1_5 : w2.cell? ⟨w1.heap.size, 5, none⟩ = some (.string ⟨#[]⟩) := cell_of_row _ _ 5 _ _ (0, 0) b2_1.out
  have f2_1_5 : w2.frozen? ⟨w1.heap.size, 5, none⟩ = false := block_free b2_1.out _
  have c2_1_6 : w2.cell? ⟨w1.heap.size, 6, none⟩ = some (.int .i64 0) := cell_of_row _ _ 6 _ _ (0, 0) b2_1.out
  have f2_1_6 : w2.frozen? ⟨w1.heap.size, 6, none⟩ = false := block_free b2_1.out _
  have c2_1_7 : w2.cell? ⟨w1.heap.size, 7, none⟩ = some (.string ⟨#[]⟩) := cell_of_row _ _ 7 _ _ (0, 0) b2_1.out
  have f2_1_7 : w2.frozen? ⟨w1.heap.size, 7, none⟩ = false := block_free b2_1.out _
  obtain ⟨hlp, hlt, hlx⟩ := opIs_len HOP.out
  have HS : Hid (SixI s (numGet y1) (numGet y2) y3 (k, p, t, a, x) ok) := Lib.hid ⟨y0, y1, y2, y4, y5, HR.out, rfl, rfl, HOP.out⟩
  cases ok
  case false =>
    have HNO := Lib.hid (HS.out.bad (fun h => by cases h.2.2))
    have HRR : Hid (((World.setCell (World.setCell (World.setCell (World.setCell (World.setCell w2 ⟨w1.heap.size, 3, none⟩ (.int .i64 k)) ⟨w1.heap.size, 4, none⟩ (.string (strB p))) ⟨w1.heap.size, 5, none⟩ (.string (strB t))) ⟨w1.heap.size, 6, none⟩ (.int .i64 a)) ⟨w1.heap.size, 7, none⟩ (.string (strB x)))).heap[w.heap.size]? = some (.cells #[.int .i64 0, .int .i64 0, .string ⟨#[]⟩, .int .i64 0, .string ⟨#[]⟩, .string ⟨#[]⟩, .int .i64 0, .string ⟨#[]⟩] 34 (0, 0))) := Lib.hid (((heap_far (by first | omega | (simp <;> omega))).trans ((heap_far (by first | omega | (simp <;> omega))).trans ((heap_far (by first | omega | (simp <;> omega))).trans ((heap_far (by first | omega | (simp <;> omega))).trans ((heap_far (by first | omega | (simp <;> omega))).trans b2_0.out))))))
    have HBL : Hid (Below w.heap.size w (World.setCell (World.setCell (World.setCell (World.setCell (World.setCell w2 ⟨w1.heap.size, 3, none⟩ (.int .i64 k)) ⟨w1.heap.size, 4, none⟩ (.string (strB p))) ⟨w1.heap.size, 5, none⟩ (.string (strB t))) ⟨w1.heap.size, 6, none⟩ (.int .i64 a)) ⟨w1.heap.size, 7, none⟩ (.string (strB x)))) := Lib.hid (Below.setCell (p := ⟨w1.heap.size, 7, none⟩) (Below.setCell (p := ⟨w1.heap.size, 6, none⟩) (Below.setCell (p := ⟨w1.heap.size, 5, none⟩) (Below.setCell (p := ⟨w1.heap.size, 4, none⟩) (Below.setCell (p := ⟨w1.heap.size, 3, none⟩) X2 (by have := X2.size; simp <;> omega) _) (by have := X2.size; simp <;> omega) _) (by have := X2.size; simp <;> omega) _) (by have := X2.size; simp <;> omega) _) (by have := X2.size; simp <;> omega) _)
    go_wp2_with fail
    have hst := setG_8 (x0 := .int .i64 0) (x1 := .int .i64 0) (x2 := .string ⟨#[]⟩) (x3 := .int .i64 0) (x4 := .string ⟨#[]⟩) (x5 := .string ⟨#[]⟩) (x6 := .int .i64 0) (x7 := .string ⟨#[]⟩) HRR.out
    have hst := (Below.heap_alloc _ (.cells #[.int .i64 k, .string (strB p), .string (strB t), .int .i64 a, .string (strB x)] 32) _ (Array.getElem?_eq_some_iff.1 hst).1).trans hst
    have r0 := cell_of_row _ _ 0 _ _ (0, 0) hst
    have r1 := cell_of_row _ _ 1 _ _ (0, 0) hst
    have r2 := cell_of_row _ _ 2 _ _ (0, 0) hst
    have r3 := cell_of_row _ _ 3 _ _ (0, 0) hst
    have r4 := cell_of_row _ _ 4 _ _ (0, 0) hst
    have r5 := cell_of_row _ _ 5 _ _ (0, 0) hst
    have r6 := cell_of_row _ _ 6 _ _ (0, 0) hst
    have r7 := cell_of_row _ _ 7 _ _ (0, 0) hst
    clear hst
    exact bodyPost_ret (v := .tuple #[.agg #[.int .i64 0, .int .i64 0, .string ⟨#[]⟩, .int .i64 0, .string ⟨#[]⟩, .string ⟨#[]⟩, .int .i64 0, .string ⟨#[]⟩], .bool false]) (by simp [results, Tryz.results41, go_sem, r0, r1, r2, r3, r4, r5, r6, r7]) rfl (⟨0, 0, [], 0, [], [], 0, [], false, rfl, HNO.out, (Below.alloc (Below.setCell (p := ⟨w.heap.size, 7, none⟩) (Below.setCell (p := ⟨w.heap.size, 6, none⟩) (Below.setCell (p := ⟨w.heap.size, 5, none⟩) (Below.setCell (p := ⟨w.heap.size, 4, none⟩) (Below.setCell (p := ⟨w.heap.size, 3, none⟩) (Below.setCell (p := ⟨w.heap.size, 2, none⟩) (Below.setCell (p := ⟨w.heap.size, 1, none⟩) (Below.setCell (p := ⟨w.heap.size, 0, none⟩) HBL.out (Nat.le_refl _) _) (Nat.le_refl _) _) (Nat.le_refl _) _) (Nat.le_refl _) _) (Nat.le_refl _) _) (Nat.le_refl _) _) (Nat.le_refl _) _) (Nat.le_refl _) _) (by have hz := (HBL.out).size; simp [World.setCell] <;> omega) _)⟩)
  go_wp2_with fail
  refine (nums2_any g _ (w2.heap.size + 1) (w1.heap.size) 34 y1 y2 0 0 (.string (strB y3)) (.int .i64 k) (.string (strB p)) (.string (strB t)) (.int .i64 a) (.string (strB x)) _ (fun W hC => he.below (Below.trans (Below.alloc (Below.alloc (Below.setCell (p := ⟨w1.heap.size, 7, none⟩) (Below.setCell (p := ⟨w1.heap.size, 6, none⟩) (Below.setCell (p := ⟨w1.heap.size, 5, none⟩) (Below.setCell (p := ⟨w1.heap.size, 4, none⟩) (Below.setCell (p := ⟨w1.heap.size, 3, none⟩) X2 (by have := X2.size; simp <;> omega) _) (by have := X2.size; simp <;> omega) _) (by have := X2.size; simp <;> omega) _) (by have := X2.size; simp <;> omega) _) (by have := X2.size; simp <;> omega) _) (by have := X2.size; simp [World.setCell] <;> omega) _) (by have := X2.size; simp [World.setCell] <;> omega) _) (hC.below (fun k _ hk => by simp at hk; omega) ((Below.alloc (Below.alloc (Below.setCell (p := ⟨w1.heap.size, 7, none⟩) (Below.setCell (p := ⟨w1.heap.size, 6, none⟩) (Below.setCell (p := ⟨w1.heap.size, 5, none⟩) (Below.setCell (p := ⟨w1.heap.size, 4, none⟩) (Below.setCell (p := ⟨w1.heap.size, 3, none⟩) X2 (by have := X2.size; simp <;> omega) _) (by have := X2.size; simp <;> omega) _) (by have := X2.size; simp <;> omega) _) (by have := X2.size; simp <;> omega) _) (by have := X2.size; simp <;> omega) _) (by have := X2.size; simp [World.setCell] <;> omega) _) (by have := X2.size; simp [World.setCell] <;> omega) _)).size))) ((World.cell?_of_block ((Below.heap_alloc _ _ _ (by first | omega | (simp [World.setCell] <;> omega))).trans ((Below.heap_alloc _ _ _ (by first | omega | (simp [World.setCell] <;> omega))).trans ((heap_far (by first | omega | (simp <;> omega))).trans ((heap_far (by first | omega | (simp <;> omega))).trans ((heap_far (by first | omega | (simp <;> omega))).trans ((heap_far (by first | omega | (simp <;> omega))).trans ((heap_far (by first | omega | (simp <;> omega))).trans (Eq.refl (w2.heap[g]?)))))))))).trans E1.out) ((World.cell?_of_block ((Below.heap_alloc _ _ _ (by first | omega | (simp [World.setCell] <;> omega))).trans ((Below.heap_alloc _ _ _ (by first | omega | (simp [World.setCell] <;> omega))).trans ((heap_far (by first | omega | (simp <;> omega))).trans ((heap_far (by first | omega | (simp <;> omega))).trans ((heap_far (by first | omega | (simp <;> omega))).trans ((heap_far (by first | omega | (simp <;> omega))).trans ((heap_far (by first | omega | (simp <;> omega))).trans (Eq.refl (w2.heap[g]?)))))))))).trans E2.out) (show _ from by have := heap_alloc_new (World.alloc (World.setCell (World.setCell (World.setCell (World.setCell (World.setCell w2 ⟨w1.heap.size, 3, none⟩ (.int .i64 k)) ⟨w1.heap.size, 4, none⟩ (.string (strB p))) ⟨w1.heap.size, 5, none⟩ (.string (strB t))) ⟨w1.heap.size, 6, none⟩ (.int .i64 a)) ⟨w1.heap.size, 7, none⟩ (.string (strB x))) (.cells #[.int .i64 k, .string (strB p), .string (strB t), .int .i64 a, .string (strB x)] 32)) (.cells #[.pointer (some ⟨w1.heap.size, 0, none⟩), .pointer (some ⟨w1.heap.size, 1, none⟩)] 107); simpa [World.setCell] using this) ((Below.heap_alloc _ _ _ (by first | omega | (simp [World.setCell] <;> omega))).trans ((Below.heap_alloc _ _ _ (by first | omega | (simp [World.setCell] <;> omega))).trans (block_set (block_set (block_set (block_set (block_set b2_1.out))))))) (by omega) (by omega) (by omega) (by omega)).mono ?_
  rintro e w3 ⟨ga, qa, okn, rfl, hRn, hCn, hcase⟩
  have HCASE := Lib.hid hcase; clear hcase
  have zz3 : w2.heap.size ≤ w3.heap.size := by have := hCn.size; simp [World.setCell] at this; omega
  have X3 : Below w.heap.size w w3 := Below.trans (Below.alloc (Below.alloc (Below.setCell (p := ⟨w1.heap.size, 7, none⟩) (Below.setCell (p := ⟨w1.heap.size, 6, none⟩) (Below.setCell (p := ⟨w1.heap.size, 5, none⟩) (Below.setCell (p := ⟨w1.heap.size, 4, none⟩) (Below.setCell (p := ⟨w1.heap.size, 3, none⟩) X2 (by have := X2.size; simp <;> omega) _) (by have := X2.size; simp <;> omega) _) (by have := X2.size; simp <;> omega) _) (by have := X2.size; simp <;> omega) _) (by have := X2.size; simp <;> omega) _) (by have := X2.size; simp [World.setCell] <;> omega) _) (by have := X2.size; simp [World.setCell] <;> omega) _) (hCn.below (fun k _ hk => by simp at hk; omega) ((Below.alloc (Below.alloc (Below.setCell (p := ⟨w1.heap.size, 7, none⟩) (Below.setCell (p := ⟨w1.heap.size, 6, none⟩) (Below.setCell (p := ⟨w1.heap.size, 5, none⟩) (Below.setCell (p := ⟨w1.heap.size, 4, none⟩) (Below.setCell (p := ⟨w1.heap.size, 3, none⟩) X2 (by have := X2.size; simp <;> omega) _) (by have := X2.size; simp <;> omega) _) (by have := X2.size; simp <;> omega) _) (by have := X2.size; simp <;> omega) _) (by have := X2.size; simp <;> omega) _) (by have := X2.size; simp [World.setCell] <;> omega) _) (by have := X2.size; simp [World.setCell] <;> omega) _)).size)
  have b3_0 : Hid (w3.heap[w.heap.size]? = some (.cells #[.int .i64 0, .int .i64 0, .string ⟨#[]⟩, .int .i64 0, .string ⟨#[]⟩, .string ⟨#[]⟩, .int .i64 0, .string ⟨#[]⟩] 34 (0, 0))) := Lib.hid ((hCn.block _ (by first | omega | (simp [World.setCell] <;> omega)) (by simp; omega)).trans ((Below.heap_alloc _ _ _ (by first | omega | (simp [World.setCell] <;> omega))).trans ((Below.heap_alloc _ _ _ (by first | omega | (simp [World.setCell] <;> omega))).trans ((heap_far (by first | omega | (simp <;> omega))).trans ((heap_far (by first | omega | (simp <;> omega))).trans ((heap_far (by first | omega | (simp <;> omega))).trans ((heap_far (by first | omega | (simp <;> omega))).trans ((heap_far (by first | omega | (simp <;> omega))).trans b2_0.out))))))))
  have b3_1 : Hid (w3.heap[w1.heap.size]? = some (.cells #[.int .i64 ga, .int .i64 qa, .string (strB y3), .int .i64 k, .string (strB p), .string (strB t), .int .i64 a, .string (strB x)] 34 (0, 0))) := Lib.hid hRn
  clear hRn hCn X2 zz2 E1 E2 b2_0 b2_1 l2_0 c2_0_0 f2_0_0 c2_0_1 f2_0_1 c2_0_2 f2_0_2 c2_0_3 f2_0_3 c2_0_4 f2_0_4 c2_0_5 f2_0_5 c2_0_6 f2_0_6 c2_0_7 f2_0_7 l2_1 c2_1_0 f2_1_0 c2_1_1 f2_1_1 c2_1_2 f2_1_2 c2_1_3 f2_1_3 c2_1_4 f2_1_4 c2_1_5 f2_1_5 c2_1_6 f2_1_6 c2_1_7 f2_1_7
  have l3_0 : w.heap.size < w3.heap.size := (Array.getElem?_eq_some_iff.1 b3_0.out).1
  have c3_0_0 : w3.cell? ⟨w.heap.size, 0, none⟩ = some (.int .i64 0) := cell_of_row _ _ 0 _ _ (0, 0) b3_0.out
  have f3_0_0 : w3.frozen? ⟨w.heap.size, 0, none⟩ = false := block_free b3_0.out _
  have c3_0_1 : w3.cell? ⟨w.heap.size, 1, none⟩ = some (.int .i64 0) := cell_of_row _ _ 1 _ _ (0, 0) b3_0.out
  have f3_0_1 : w3.frozen? ⟨w.heap.size, 1, none⟩ = false := block_free b3_0.out _
  have c3_0_2 : w3.cell? ⟨w.heap.size, 2, none⟩ = some (.string ⟨#[]⟩) := cell_of_row _ _ 2 _ _ (0, 0) b3_0.out
  have f3_0_2 : w3.frozen? ⟨w.heap.size, 2, none⟩ = false := block_free b3_0.out _
  have c3_0_3 : w3.cell? ⟨w.heap.size, 3, none⟩ = some (.int .i64 0) := cell_of_row _ _ 3 _ _ (0, 0) b3_0.out
  have f3_0_3 : w3.frozen? ⟨w.heap.size, 3, none⟩ = false := block_free b3_0.out _
  have c3_0_4 : w3.cell? ⟨w.heap.size, 4, none⟩ = some (.string ⟨#[]⟩) := cell_of_row _ _ 4 _ _ (0, 0) b3_0.out
  have f3_0_4 : w3.frozen? ⟨w.heap.size, 4, none⟩ = false := block_free b3_0.out _
  have c3_0_5 : w3.cell? ⟨w.heap.size, 5, none⟩ = some (.string ⟨#[]⟩) := cell_of_row _ _ 5 _ _ (0, 0) b3_0.out
  have f3_0_5 : w3.frozen? ⟨w.heap.size, 5, none⟩ = false := block_free b3_0.out _
  have c3_0_6 : w3.cell? ⟨w.heap.size, 6, none⟩ = some (.int .i64 0) := cell_of_row _ _ 6 _ _ (0, 0) b3_0.out
  have f3_0_6 : w3.frozen? ⟨w.heap.size, 6, none⟩ = false := block_free b3_0.out _
  have c3_0_7 : w3.cell? ⟨w.heap.size, 7, none⟩ = some (.string ⟨#[]⟩) := cell_of_row _ _ 7 _ _ (0, 0) b3_0.out
  have f3_0_7 : w3.frozen? ⟨w.heap.size, 7, none⟩ = false := block_free b3_0.out _
  have l3_1 : w1.heap.size < w3.heap.size := (Array.getElem?_eq_some_iff.1 b3_1.out).1
  have c3_1_0 : w3.cell? ⟨w1.heap.size, 0, none⟩ = some (.int .i64 ga) := cell_of_row _ _ 0 _ _ (0, 0) b3_1.out
  have f3_1_0 : w3.frozen? ⟨w1.heap.size, 0, none⟩ = false := block_free b3_1.out _
  have c3_1_1 : w3.cell? ⟨w1.heap.size, 1, none⟩ = some (.int .i64 qa) := cell_of_row _ _ 1 _ _ (0, 0) b3_1.out
  have f3_1_1 : w3.frozen? ⟨w1.heap.size, 1, none⟩ = false := block_free b3_1.out _
  have c3_1_2 : w3.cell? ⟨w1.heap.size, 2, none⟩ = some (.string (strB y3)) := cell_of_row _ _ 2 _ _ (0, 0) b3_1.out
  have f3_1_2 : w3.frozen? ⟨w1.heap.size, 2, none⟩ = false := block_free b3_1.out _
  have c3_1_3 : w3.cell? ⟨w1.heap.size, 3, none⟩ = some (.int .i64 k) := cell_of_row _ _ 3 _ _ (0, 0) b3_1.out
  have f3_1_3 : w3.frozen? ⟨w1.heap.size, 3, none⟩ = false := block_free b3_1.out _
  have c3_1_4 : w3.cell? ⟨w1.heap.size, 4, none⟩ = some (.string (strB p)) := cell_of_row _ _ 4 _ _ (0, 0) b3_1.out
  have f3_1_4 : w3.frozen? ⟨w1.heap.size, 4, none⟩ = false := block_free b3_1.out _
  have c3_1_5 : w3.cell? ⟨w1.heap.size, 5, none⟩ = some (.string (strB t)) := cell_of_row _ _ 5 _ _ (0, 0) b3_1.out
  have f3_1_5 : w3.frozen? ⟨w1.heap.size, 5, none⟩ = false := block_free b3_1.out _
  have c3_1_6 : w3.cell? ⟨w1.heap.size, 6, none⟩ = some (.int .i64 a) := cell_of_row _ _ 6 _ _ (0, 0) b3_1.out
  have f3_1_6 : w3.frozen? ⟨w1.heap.size, 6, none⟩ = false := block_free b3_1.out _
  have c3_1_7 : w3.cell? ⟨w1.heap.size, 7, none⟩ = some (.string (strB x)) := cell_of_row _ _ 7 _ _ (0, 0) b3_1.out
  have f3_1_7 : w3.frozen? ⟨w1.heap.size, 7, none⟩ = false := block_free b3_1.out _
  cases okn
  case false =>
    have HNO := Lib.hid (HS.out.bad (fun h => by
      rcases HCASE.out with ⟨h0, _⟩ | ⟨_, h1⟩
      · cases h0
      · exact h1 ⟨h.1, h.2.1⟩))
    have HRR : Hid ((w3).heap[w.heap.size]? = some (.cells #[.int .i64 0, .int .i64 0, .string ⟨#[]⟩, .int .i64 0, .string ⟨#[]⟩, .string ⟨#[]⟩, .int .i64 0, .string ⟨#[]⟩] 34 (0, 0))) := Lib.hid (b3_0.out)
    have HBL : Hid (Below w.heap.size w w3) := Lib.hid X3
    go_wp2_with fail
    have hst := setG_8 (x0 := .int .i64 0) (x1 := .int .i64 0) (x2 := .string ⟨#[]⟩) (x3 := .int .i64 0) (x4 := .string ⟨#[]⟩) (x5 := .string ⟨#[]⟩) (x6 := .int .i64 0) (x7 := .string ⟨#[]⟩) HRR.out
    have r0 := cell_of_row _ _ 0 _ _ (0, 0) hst
    have r1 := cell_of_row _ _ 1 _ _ (0, 0) hst
    have r2 := cell_of_row _ _ 2 _ _ (0, 0) hst
    have r3 := cell_of_row _ _ 3 _ _ (0, 0) hst
    have r4 := cell_of_row _ _ 4 _ _ (0, 0) hst
    have r5 := cell_of_row _ _ 5 _ _ (0, 0) hst
    have r6 := cell_of_row _ _ 6 _ _ (0, 0) hst
    have r7 := cell_of_row _ _ 7 _ _ (0, 0) hst
    clear hst
    exact bodyPost_ret (v := .tuple #[.agg #[.int .i64 0, .int .i64 0, .string ⟨#[]⟩, .int .i64 0, .string ⟨#[]⟩, .string ⟨#[]⟩, .int .i64 0, .string ⟨#[]⟩], .bool false]) (by simp [results, Tryz.results41, go_sem, r0, r1, r2, r3, r4, r5, r6, r7]) rfl (⟨0, 0, [], 0, [], [], 0, [], false, rfl, HNO.out, (Below.setCell (p := ⟨w.heap.size, 7, none⟩) (Below.setCell (p := ⟨w.heap.size, 6, none⟩) (Below.setCell (p := ⟨w.heap.size, 5, none⟩) (Below.setCell (p := ⟨w.heap.size, 4, none⟩) (Below.setCell (p := ⟨w.heap.size, 3, none⟩) (Below.setCell (p := ⟨w.heap.size, 2, none⟩) (Below.setCell (p := ⟨w.heap.size, 1, none⟩) (Below.setCell (p := ⟨w.heap.size, 0, none⟩) HBL.out (Nat.le_refl _) _) (Nat.le_refl _) _) (Nat.le_refl _) _) (Nat.le_refl _) _) (Nat.le_refl _) _) (Nat.le_refl _) _) (Nat.le_refl _) _) (Nat.le_refl _) _)⟩)
  obtain ⟨n, m, hn, hm, hga, hqa⟩ : ∃ n m : Nat, numGet y1 = some n ∧ numGet y2 = some m ∧ ga = n ∧ qa = m := by
    rcases HCASE.out with ⟨_, h⟩ | ⟨h, _⟩
    · exact h
    · cases h
  have H1 := Lib.hid hn; have H2 := Lib.hid hm; clear hn hm HCASE
  subst hga hqa
  go_wp2_with fail
  refine (intPut_any (n : Int) (m : Int) y3 k p t a x _ (he.below X3).tab (he.below X3).mlen (by omega) hlp hlt hlx).mono ?_
  rintro e w4 ⟨rfl, hb4⟩
  have zz4 : w3.heap.size ≤ w4.heap.size := by have := hb4.size; simpa [World.setCell] using this
  have YY4 : Below w.heap.size w w3 := X3
  have X4 : Below w.heap.size w w4 := YY4.trans (hb4.mono YY4.size)
  clear YY4
  have b4_0 : Hid (w4.heap[w.heap.size]? = some (.cells #[.int .i64 0, .int .i64 0, .string ⟨#[]⟩, .int .i64 0, .string ⟨#[]⟩, .string ⟨#[]⟩, .int .i64 0, .string ⟨#[]⟩] 34 (0, 0))) := Lib.hid ((hb4.block _ (by first | omega | (simp [World.setCell] <;> omega))).trans b3_0.out)
  have b4_1 : Hid (w4.heap[w1.heap.size]? = some (.cells #[.int .i64 (n : Int), .int .i64 (m : Int), .string (strB y3), .int .i64 k, .string (strB p), .string (strB t), .int .i64 a, .string (strB x)] 34 (0, 0))) := Lib.hid ((hb4.block _ (by first | omega | (simp [World.setCell] <;> omega))).trans b3_1.out)
  clear b3_0 b3_1 X3 zz3 l3_0 c3_0_0 f3_0_0 c3_0_1 f3_0_1 c3_0_2 f3_0_2 c3_0_3 f3_0_3 c3_0_4 f3_0_4 c3_0_5 f3_0_5 c3_0_6 f3_0_6 c3_0_7 f3_0_7 l3_1 c3_1_0 f3_1_0 c3_1_1 f3_1_1 c3_1_2 f3_1_2 c3_1_3 f3_1_3 c3_1_4 f3_1_4 c3_1_5 f3_1_5 c3_1_6 f3_1_6 c3_1_7 f3_1_7 hb4
  have l4_0 : w.heap.size < w4.heap.size := (Array.getElem?_eq_some_iff.1 b4_0.out).1
  have c4_0_0 : w4.cell? ⟨w.heap.size, 0, none⟩ = some (.int .i64 0) := cell_of_row _ _ 0 _ _ (0, 0) b4_0.out
  have f4_0_0 : w4.frozen? ⟨w.heap.size, 0, none⟩ = false := block_free b4_0.out _
  have c4_0_1 : w4.cell? ⟨w.heap.size, 1, none⟩ = some (.int .i64 0) := cell_of_row _ _ 1 _ _ (0, 0) b4_0.out
  have f4_0_1 : w4.frozen? ⟨w.heap.size, 1, none⟩ = false := block_free b4_0.out _
  have c4_0_2 : w4.cell? ⟨w.heap.size, 2, none⟩ = some (.string ⟨#[]⟩) := cell_of_row _ _ 2 _ _ (0, 0) b4_0.out
  have f4_0_2 : w4.frozen? ⟨w.heap.size, 2, none⟩ = false := block_free b4_0.out _
  have c4_0_3 : w4.cell? ⟨w.heap.size, 3, none⟩ = some (.int .i64 0) := cell_of_row _ _ 3 _ _ (0, 0) b4_0.out
  have f4_0_3 : w4.frozen? ⟨w.heap.size, 3, none⟩ = false := block_free b4_0.out _
  have c4_0_4 : w4.cell? ⟨w.heap.size, 4, none⟩ = some (.string ⟨#[]⟩) := cell_of_row _ _ 4 _ _ (0, 0) b4_0.out
  have f4_0_4 : w4.frozen? ⟨w.heap.size, 4, none⟩ = false := block_free b4_0.out _
  have c4_0_5 : w4.cell? ⟨w.heap.size, 5, none⟩ = some (.string ⟨#[]⟩) := cell_of_row _ _ 5 _ _ (0, 0) b4_0.out
  have f4_0_5 : w4.frozen? ⟨w.heap.size, 5, none⟩ = false := block_free b4_0.out _
  have c4_0_6 : w4.cell? ⟨w.heap.size, 6, none⟩ = some (.int .i64 0) := cell_of_row _ _ 6 _ _ (0, 0) b4_0.out
  have f4_0_6 : w4.frozen? ⟨w.heap.size, 6, none⟩ = false := block_free b4_0.out _
  have c4_0_7 : w4.cell? ⟨w.heap.size, 7, none⟩ = some (.string ⟨#[]⟩) := cell_of_row _ _ 7 _ _ (0, 0) b4_0.out
  have f4_0_7 : w4.frozen? ⟨w.heap.size, 7, none⟩ = false := block_free b4_0.out _
  have l4_1 : w1.heap.size < w4.heap.size := (Array.getElem?_eq_some_iff.1 b4_1.out).1
  have c4_1_0 : w4.cell? ⟨w1.heap.size, 0, none⟩ = some (.int .i64 (n : Int)) := cell_of_row _ _ 0 _ _ (0, 0) b4_1.out
  have f4_1_0 : w4.frozen? ⟨w1.heap.size, 0, none⟩ = false := block_free b4_1.out _
  have c4_1_1 : w4.cell? ⟨w1.heap.size, 1, none⟩ = some (.int .i64 (m : Int)) := cell_of_row _ _ 1 _ _ (0, 0) b4_1.out
  have f4_1_1 : w4.frozen? ⟨w1.heap.size, 1, none⟩ = false := block_free b4_1.out _
  have c4_1_2 : w4.cell? ⟨w1.heap.size, 2, none⟩ = some (.string (strB y3)) := cell_of_row _ _ 2 _ _ (0, 0) b4_1.out
  have f4_1_2 : w4.frozen? ⟨w1.heap.size, 2, none⟩ = false := block_free b4_1.out _
  have c4_1_3 : w4.cell? ⟨w1.heap.size, 3, none⟩ = some (.int .i64 k) := cell_of_row _ _ 3 _ _ (0, 0) b4_1.out
  have f4_1_3 : w4.frozen? ⟨w1.heap.size, 3, none⟩ = false := block_free b4_1.out _
  have c4_1_4 : w4.cell? ⟨w1.heap.size, 4, none⟩ = some (.string (strB p)) := cell_of_row _ _ 4 _ _ (0, 0) b4_1.out
  have f4_1_4 : w4.frozen? ⟨w1.heap.size, 4, none⟩ = false := block_free b4_1.out _
  have c4_1_5 : w4.cell? ⟨w1.heap.size, 5, none⟩ = some (.string (strB t)) := cell_of_row _ _ 5 _ _ (0, 0) b4_1.out
  have f4_1_5 : w4.frozen? ⟨w1.heap.size, 5, none⟩ = false := block_free b4_1.out _
  have c4_1_6 : w4.cell? ⟨w1.heap.size, 6, none⟩ = some (.int .i64 a) := cell_of_row _ _ 6 _ _ (0, 0) b4_1.out
  have f4_1_6 : w4.frozen? ⟨w1.heap.size, 6, none⟩ = false := block_free b4_1.out _
  have c4_1_7 : w4.cell? ⟨w1.heap.size, 7, none⟩ = some (.string (strB x)) := cell_of_row _ _ 7 _ _ (0, 0) b4_1.out
  have f4_1_7 : w4.frozen? ⟨w1.heap.size, 7, none⟩ = false := block_free b4_1.out _
  by_cases hps : intS ((n : Int), (m : Int), y3, k, p, t, a, x) = s
  case neg =>
    have HNO := Lib.hid (HS.out.no_text (by rw [H1.out, H2.out]; exact hps))
    have hq : ((strB (intS ((n : Int), (m : Int), y3, k, p, t, a, x))).toList == (strB s).toList) = false := by rw [strB_list, strB_list]; simpa using hps
    clear hps
    have HRR : Hid ((w4).heap[w.heap.size]? = some (.cells #[.int .i64 0, .int .i64 0, .string ⟨#[]⟩, .int .i64 0, .string ⟨#[]⟩, .string ⟨#[]⟩, .int .i64 0, .string ⟨#[]⟩] 34 (0, 0))) := Lib.hid (b4_0.out)
    have HBL : Hid (Below w.heap.size w w4) := Lib.hid X4
    go_wp2_with fail
    have hst := setG_8 (x0 := .int .i64 0) (x1 := .int .i64 0) (x2 := .string ⟨#[]⟩) (x3 := .int .i64 0) (x4 := .string ⟨#[]⟩) (x5 := .string ⟨#[]⟩) (x6 := .int .i64 0) (x7 := .string ⟨#[]⟩) HRR.out
    have r0 := cell_of_row _ _ 0 _ _ (0, 0) hst
    have r1 := cell_of_row _ _ 1 _ _ (0, 0) hst
    have r2 := cell_of_row _ _ 2 _ _ (0, 0) hst
    have r3 := cell_of_row _ _ 3 _ _ (0, 0) hst
    have r4 := cell_of_row _ _ 4 _ _ (0, 0) hst
    have r5 := cell_of_row _ _ 5 _ _ (0, 0) hst
    have r6 := cell_of_row _ _ 6 _ _ (0, 0) hst
    have r7 := cell_of_row _ _ 7 _ _ (0, 0) hst
    clear hst
    exact bodyPost_ret (v := .tuple #[.agg #[.int .i64 0, .int .i64 0, .string ⟨#[]⟩, .int .i64 0, .string ⟨#[]⟩, .string ⟨#[]⟩, .int .i64 0, .string ⟨#[]⟩], .bool false]) (by simp [results, Tryz.results41, go_sem, r0, r1, r2, r3, r4, r5, r6, r7]) rfl (⟨0, 0, [], 0, [], [], 0, [], false, rfl, HNO.out, (Below.setCell (p := ⟨w.heap.size, 7, none⟩) (Below.setCell (p := ⟨w.heap.size, 6, none⟩) (Below.setCell (p := ⟨w.heap.size, 5, none⟩) (Below.setCell (p := ⟨w.heap.size, 4, none⟩) (Below.setCell (p := ⟨w.heap.size, 3, none⟩) (Below.setCell (p := ⟨w.heap.size, 2, none⟩) (Below.setCell (p := ⟨w.heap.size, 1, none⟩) (Below.setCell (p := ⟨w.heap.size, 0, none⟩) HBL.out (Nat.le_refl _) _) (Nat.le_refl _) _) (Nat.le_refl _) _) (Nat.le_refl _) _) (Nat.le_refl _) _) (Nat.le_refl _) _) (Nat.le_refl _) _) (Nat.le_refl _) _)⟩)
  have HY : Hid (intIs s ((n : Int), (m : Int), y3, k, p, t, a, x) true) := Lib.hid (by have := HS.out.yes (by rw [H1.out, H2.out]; exact hps); rw [H1.out, H2.out] at this; exact this)
  have hq : ((strB (intS ((n : Int), (m : Int), y3, k, p, t, a, x))).toList == (strB s).toList) = true := by rw [hps]; simp
  clear hps
  have HRR : Hid ((w4).heap[w.heap.size]? = some (.cells #[.int .i64 0, .int .i64 0, .string ⟨#[]⟩, .int .i64 0, .string ⟨#[]⟩, .string ⟨#[]⟩, .int .i64 0, .string ⟨#[]⟩] 34 (0, 0))) := Lib.hid (b4_0.out)
  have HBL : Hid (Below w.heap.size w w4) := Lib.hid X4
  go_wp2_with fail
  have hst := setG_8 (x0 := .int .i64 (n : Int)) (x1 := .int .i64 (m : Int)) (x2 := .string (strB y3)) (x3 := .int .i64 k) (x4 := .string (strB p)) (x5 := .string (strB t)) (x6 := .int .i64 a) (x7 := .string (strB x)) HRR.out
  have r0 := cell_of_row _ _ 0 _ _ (0, 0) hst
  have r1 := cell_of_row _ _ 1 _ _ (0, 0) hst
  have r2 := cell_of_row _ _ 2 _ _ (0, 0) hst
  have r3 := cell_of_row _ _ 3 _ _ (0, 0) hst
  have r4 := cell_of_row _ _ 4 _ _ (0, 0) hst
  have r5 := cell_of_row _ _ 5 _ _ (0, 0) hst
  have r6 := cell_of_row _ _ 6 _ _ (0, 0) hst
  have r7 := cell_of_row _ _ 7 _ _ (0, 0) hst
  clear hst
  exact bodyPost_ret (v := .tuple #[.agg #[.int .i64 (n : Int), .int .i64 (m : Int), .string (strB y3), .int .i64 k, .string (strB p), .string (strB t), .int .i64 a, .string (strB x)], .bool true]) (by simp [results, Tryz.results41, go_sem, r0, r1, r2, r3, r4, r5, r6, r7]) rfl (⟨_, _, _, _, _, _, _, _, _, rfl, HY.out, (Below.setCell (p := ⟨w.heap.size, 7, none⟩) (Below.setCell (p := ⟨w.heap.size, 6, none⟩) (Below.setCell (p := ⟨w.heap.size, 5, none⟩) (Below.setCell (p := ⟨w.heap.size, 4, none⟩) (Below.setCell (p := ⟨w.heap.size, 3, none⟩) (Below.setCell (p := ⟨w.heap.size, 2, none⟩) (Below.setCell (p := ⟨w.heap.size, 1, none⟩) (Below.setCell (p := ⟨w.heap.size, 0, none⟩) HBL.out (Nat.le_refl _) _) (Nat.le_refl _) _) (Nat.le_refl _) _) (Nat.le_refl _) _) (Nat.le_refl _) _) (Nat.le_refl _) _) (Nat.le_refl _) _) (Nat.le_refl _) _)⟩)
set_option maxRecDepth 100000 in
set_option maxHeartbeats 8000000 in
theorem spIntGet_any (s : Str) (w : World) (hs : s.length ≤ 1099511627776) : Calls Tryz.prog 44 #[.string (strB s)] w (GotInt s w) := by
  go_enter Tryz.func44, Tryz.ntmps44
  go_wp2_with fail
  refine (spFieldsGet_any s _ hs).mono ?_
  rintro e w1 (⟨fl, A, cp, hR, rfl, hI, hb1⟩ | ⟨hno, ⟨A, cp, rfl⟩, hb1⟩)
  case inr =>
    have HNO := Lib.hid (int_norec hno); clear hno
    have zz1 : w.heap.size + 1 ≤ w1.heap.size := by have := hb1.size; simp [World.setCell] at this; omega
    have YY1 : Below w.heap.size w (World.alloc w (.cells #[.int .i64 0, .int .i64 0, .string ⟨#[]⟩, .int .i64 0, .string ⟨#[]⟩, .string ⟨#[]⟩, .int .i64 0, .string ⟨#[]⟩] 34)) := (Below.alloc (Below.refl _ _) (by first | exact Nat.le_refl _ | (simp [World.setCell] <;> omega)) _)
    have X1 : Below w.heap.size w w1 := YY1.trans (hb1.mono YY1.size)
    clear YY1
    have b1_0 : Hid (w1.heap[w.heap.size]? = some (.cells #[.int .i64 0, .int .i64 0, .string ⟨#[]⟩, .int .i64 0, .string ⟨#[]⟩, .string ⟨#[]⟩, .int .i64 0, .string ⟨#[]⟩] 34 (0, 0))) := Lib.hid ((hb1.block _ (by first | omega | (simp [World.setCell] <;> omega))).trans (show _ from by have := heap_alloc_new w (.cells #[.int .i64 0, .int .i64 0, .string ⟨#[]⟩, .int .i64 0, .string ⟨#[]⟩, .string ⟨#[]⟩, .int .i64 0, .string ⟨#[]⟩] 34); simpa [World.setCell] using this))
    clear hb1
    have l1_0 : w.heap.size < w1.heap.size := (Array.getElem?_eq_some_iff.1 b1_0.out).1
    have c1_0_0 : w1.cell? ⟨w.heap.size, 0, none⟩ = some (.int .i64 0) := cell_of_row _ _ 0 _ _ (0, 0) b1_0.out
    have f1_0_0 : w1.frozen? ⟨w.heap.size, 0, none⟩ = false := block_free b1_0.out _
    have c1_0_1 : w1.cell? ⟨w.heap.size, 1, none⟩ = some (.int .i64 0) := cell_of_row _ _ 1 _ _ (0, 0) b1_0.out
    have f1_0_1 : w1.frozen? ⟨w.heap.size, 1, none⟩ = false := block_free b1_0.out _
    have c1_0_2 : w1.cell? ⟨w.heap.size, 2, none⟩ = some (.string ⟨#[]⟩) := cell_of_row _ _ 2 _ _ (0, 0) b1_0.out
    have f1_0_2 : w1.frozen? ⟨w.heap.size, 2, none⟩ = false := block_free b1_0.out _
    have c1_0_3 : w1.cell? ⟨w.heap.size, 3, none⟩ = some (.int .i64 0) := cell_of_row _ _ 3 _ _ (0, 0) b1_0.out
    have f1_0_3 : w1.frozen? ⟨w.heap.size, 3, none⟩ = false := block_free b1_0.out _
    have c1_0_4 : w1.cell? ⟨w.heap.size, 4, none⟩ = some (.string ⟨#[]⟩) := cell_of_row _ _ 4 _ _ (0, 0) b1_0.out
    have f1_0_4 : w1.frozen? ⟨w.heap.size, 4, none⟩ = false := block_free b1_0.out _
    have c1_0_5 : w1.cell? ⟨w.heap.size, 5, none⟩ = some (.string ⟨#[]⟩) := cell_of_row _ _ 5 _ _ (0, 0) b1_0.out
    have f1_0_5 : w1.frozen? ⟨w.heap.size, 5, none⟩ = false := block_free b1_0.out _
    have c1_0_6 : w1.cell? ⟨w.heap.size, 6, none⟩ = some (.int .i64 0) := cell_of_row _ _ 6 _ _ (0, 0) b1_0.out
    have f1_0_6 : w1.frozen? ⟨w.heap.size, 6, none⟩ = false := block_free b1_0.out _
    have c1_0_7 : w1.cell? ⟨w.heap.size, 7, none⟩ = some (.string ⟨#[]⟩) := cell_of_row _ _ 7 _ _ (0, 0) b1_0.out
    have f1_0_7 : w1.frozen? ⟨w.heap.size, 7, none⟩ = false := block_free b1_0.out _
    have HRR : Hid ((w1).heap[w.heap.size]? = some (.cells #[.int .i64 0, .int .i64 0, .string ⟨#[]⟩, .int .i64 0, .string ⟨#[]⟩, .string ⟨#[]⟩, .int .i64 0, .string ⟨#[]⟩] 34 (0, 0))) := Lib.hid (b1_0.out)
    have HBL : Hid (Below w.heap.size w w1) := Lib.hid X1
    go_wp2_with fail
    have hst := setG_8 (x0 := .int .i64 0) (x1 := .int .i64 0) (x2 := .string ⟨#[]⟩) (x3 := .int .i64 0) (x4 := .string ⟨#[]⟩) (x5 := .string ⟨#[]⟩) (x6 := .int .i64 0) (x7 := .string ⟨#[]⟩) HRR.out
    have r0 := cell_of_row _ _ 0 _ _ (0, 0) hst
    have r1 := cell_of_row _ _ 1 _ _ (0, 0) hst
    have r2 := cell_of_row _ _ 2 _ _ (0, 0) hst
    have r3 := cell_of_row _ _ 3 _ _ (0, 0) hst
    have r4 := cell_of_row _ _ 4 _ _ (0, 0) hst
    have r5 := cell_of_row _ _ 5 _ _ (0, 0) hst
    have r6 := cell_of_row _ _ 6 _ _ (0, 0) hst
    have r7 := cell_of_row _ _ 7 _ _ (0, 0) hst
    clear hst
    exact bodyPost_ret (v := .tuple #[.agg #[.int .i64 0, .int .i64 0, .string ⟨#[]⟩, .int .i64 0, .string ⟨#[]⟩, .string ⟨#[]⟩, .int .i64 0, .string ⟨#[]⟩], .bool false]) (by simp [results, Tryz.results44, go_sem, r0, r1, r2, r3, r4, r5, r6, r7]) rfl (⟨0, 0, [], 0, [], [], 0, [], false, rfl, HNO.out, (Below.setCell (p := ⟨w.heap.size, 7, none⟩) (Below.setCell (p := ⟨w.heap.size, 6, none⟩) (Below.setCell (p := ⟨w.heap.size, 5, none⟩) (Below.setCell (p := ⟨w.heap.size, 4, none⟩) (Below.setCell (p := ⟨w.heap.size, 3, none⟩) (Below.setCell (p := ⟨w.heap.size, 2, none⟩) (Below.setCell (p := ⟨w.heap.size, 1, none⟩) (Below.setCell (p := ⟨w.heap.size, 0, none⟩) HBL.out (Nat.le_refl _) _) (Nat.le_refl _) _) (Nat.le_refl _) _) (Nat.le_refl _) _) (Nat.le_refl _) _) (Nat.le_refl _) _) (Nat.le_refl _) _) (Nat.le_refl _) _)⟩)
  have HR := Lib.hid hR; clear hR
  have HI1 := Lib.hid hI; clear hI
  have zz1 : w.heap.size + 1 ≤ w1.heap.size := by have := hb1.size; simp [World.setCell] at this; omega
  have YY1 : Below w.heap.size w (World.alloc w (.cells #[.int .i64 0, .int .i64 0, .string ⟨#[]⟩, .int .i64 0, .string ⟨#[]⟩, .string ⟨#[]⟩, .int .i64 0, .string ⟨#[]⟩] 34)) := (Below.alloc (Below.refl _ _) (by first | exact Nat.le_refl _ | (simp [World.setCell] <;> omega)) _)
  have X1 : Below w.heap.size w w1 := YY1.trans (hb1.mono YY1.size)
  clear YY1
  have b1_0 : Hid (w1.heap[w.heap.size]? = some (.cells #[.int .i64 0, .int .i64 0, .string ⟨#[]⟩, .int .i64 0, .string ⟨#[]⟩, .string ⟨#[]⟩, .int .i64 0, .string ⟨#[]⟩] 34 (0, 0))) := Lib.hid ((hb1.block _ (by first | omega | (simp [World.setCell] <;> omega))).trans (show _ from by have := heap_alloc_new w (.cells #[.int .i64 0, .int .i64 0, .string ⟨#[]⟩, .int .i64 0, .string ⟨#[]⟩, .string ⟨#[]⟩, .int .i64 0, .string ⟨#[]⟩] 34); simpa [World.setCell] using this))
  clear hb1
  have l1_0 : w.heap.size < w1.heap.size := (Array.getElem?_eq_some_iff.1 b1_0.out).1
  have c1_0_0 : w1.cell? ⟨w.heap.size, 0, none⟩ = some (.int .i64 0) := cell_of_row _ _ 0 _ _ (0, 0) b1_0.out
  have f1_0_0 : w1.frozen? ⟨w.heap.size, 0, none⟩ = false := block_free b1_0.out _
  have c1_0_1 : w1.cell? ⟨w.heap.size, 1, none⟩ = some (.int .i64 0) := cell_of_row _ _ 1 _ _ (0, 0) b1_0.out
  have f1_0_1 : w1.frozen? ⟨w.heap.size, 1, none⟩ = false := block_free b1_0.out _
  have c1_0_2 : w1.cell? ⟨w.heap.size, 2, none⟩ = some (.string ⟨#[]⟩) := cell_of_row _ _ 2 _ _ (0, 0) b1_0.out
  have f1_0_2 : w1.frozen? ⟨w.heap.size, 2, none⟩ = false := block_free b1_0.out _
  have c1_0_3 : w1.cell? ⟨w.heap.size, 3, none⟩ = some (.int .i64 0) := cell_of_row _ _ 3 _ _ (0, 0) b1_0.out
  have f1_0_3 : w1.frozen? ⟨w.heap.size, 3, none⟩ = false := block_free b1_0.out _
  have c1_0_4 : w1.cell? ⟨w.heap.size, 4, none⟩ = some (.string ⟨#[]⟩) := cell_of_row _ _ 4 _ _ (0, 0) b1_0.out
  have f1_0_4 : w1.frozen? ⟨w.heap.size, 4, none⟩ = false := block_free b1_0.out _
  have c1_0_5 : w1.cell? ⟨w.heap.size, 5, none⟩ = some (.string ⟨#[]⟩) := cell_of_row _ _ 5 _ _ (0, 0) b1_0.out
  have f1_0_5 : w1.frozen? ⟨w.heap.size, 5, none⟩ = false := block_free b1_0.out _
  have c1_0_6 : w1.cell? ⟨w.heap.size, 6, none⟩ = some (.int .i64 0) := cell_of_row _ _ 6 _ _ (0, 0) b1_0.out
  have f1_0_6 : w1.frozen? ⟨w.heap.size, 6, none⟩ = false := block_free b1_0.out _
  have c1_0_7 : w1.cell? ⟨w.heap.size, 7, none⟩ = some (.string ⟨#[]⟩) := cell_of_row _ _ 7 _ _ (0, 0) b1_0.out
  have f1_0_7 : w1.frozen? ⟨w.heap.size, 7, none⟩ = false := block_free b1_0.out _
  by_cases hl : fl.length = 6
  case neg =>
    have HNO := Lib.hid (int_notlen HR.out hl)
    have hnb : ((fl.length : Int) == 6) = false := by simp; omega
    have hnc : ¬ (fl.length : Int) = 6 := by omega
    clear hl
    have HRR : Hid ((w1).heap[w.heap.size]? = some (.cells #[.int .i64 0, .int .i64 0, .string ⟨#[]⟩, .int .i64 0, .string ⟨#[]⟩, .string ⟨#[]⟩, .int .i64 0, .string ⟨#[]⟩] 34 (0, 0))) := Lib.hid (b1_0.out)
    have HBL : Hid (Below w.heap.size w w1) := Lib.hid X1
    go_wp2_with fail
    have hst := setG_8 (x0 := .int .i64 0) (x1 := .int .i64 0) (x2 := .string ⟨#[]⟩) (x3 := .int .i64 0) (x4 := .string ⟨#[]⟩) (x5 := .string ⟨#[]⟩) (x6 := .int .i64 0) (x7 := .string ⟨#[]⟩) HRR.out
    have r0 := cell_of_row _ _ 0 _ _ (0, 0) hst
    have r1 := cell_of_row _ _ 1 _ _ (0, 0) hst
    have r2 := cell_of_row _ _ 2 _ _ (0, 0) hst
    have r3 := cell_of_row _ _ 3 _ _ (0, 0) hst
    have r4 := cell_of_row _ _ 4 _ _ (0, 0) hst
    have r5 := cell_of_row _ _ 5 _ _ (0, 0) hst
    have r6 := cell_of_row _ _ 6 _ _ (0, 0) hst
    have r7 := cell_of_row _ _ 7 _ _ (0, 0) hst
    clear hst
    exact bodyPost_ret (v := .tuple #[.agg #[.int .i64 0, .int .i64 0, .string ⟨#[]⟩, .int .i64 0, .string ⟨#[]⟩, .string ⟨#[]⟩, .int .i64 0, .string ⟨#[]⟩], .bool false]) (by simp [results, Tryz.results44, go_sem, r0, r1, r2, r3, r4, r5, r6, r7]) rfl (⟨0, 0, [], 0, [], [], 0, [], false, rfl, HNO.out, (Below.setCell (p := ⟨w.heap.size, 7, none⟩) (Below.setCell (p := ⟨w.heap.size, 6, none⟩) (Below.setCell (p := ⟨w.heap.size, 5, none⟩) (Below.setCell (p := ⟨w.heap.size, 4, none⟩) (Below.setCell (p := ⟨w.heap.size, 3, none⟩) (Below.setCell (p := ⟨w.heap.size, 2, none⟩) (Below.setCell (p := ⟨w.heap.size, 1, none⟩) (Below.setCell (p := ⟨w.heap.size, 0, none⟩) HBL.out (Nat.le_refl _) _) (Nat.le_refl _) _) (Nat.le_refl _) _) (Nat.le_refl _) _) (Nat.le_refl _) _) (Nat.le_refl _) _) (Nat.le_refl _) _) (Nat.le_refl _) _)⟩)
  obtain ⟨y0, y1, y2, y3, y4, y5, rfl⟩ := strsG6 hl
  rw [hl]
  have hcp : 6 ≤ cp := HI1.out.le
  have hc1 : ¬ cp = 1 := by omega
  have cc1 : ((1 : Int) ≤ (3 : Int)) := by omega
  have cc2 : ((3 : Int) ≤ (cp : Int)) := by omega
  obtain ⟨g, rfl, hgB, lg1, e1⟩ := HI1.out.cellG (j := 1) rfl
  obtain ⟨g2, e2', _, _, e2⟩ := HI1.out.cellG (j := 2) rfl
  injection e2' with e2'; injection e2' with e2'; subst e2'
  obtain ⟨g3, e3', _, _, e3⟩ := HI1.out.cellG (j := 3) rfl
  injection e3' with e3'; injection e3' with e3'; subst e3'
  obtain ⟨g4, e4', _, _, e4⟩ := HI1.out.cellG (j := 4) rfl
  injection e4' with e4'; injection e4' with e4'; subst e4'
  have hl1 := recG_le HR.out (f := y1) (by simp)
  have E1 := Lib.hid e1
  have hl2 := recG_le HR.out (f := y2) (by simp)
  have E2 := Lib.hid e2
  have hl3 := recG_le HR.out (f := y3) (by simp)
  have E3 := Lib.hid e3
  have hl4 := recG_le HR.out (f := y4) (by simp)
  have E4 := Lib.hid e4
  clear hl HI1 e1 e2 e4
  have hw01 : w.heap.size < w1.heap.size := l1_0
  obtain ⟨n1, hn1⟩ : ∃ n, n = (numGet y1).getD 0 := ⟨_, rfl⟩
  obtain ⟨b1, hb1'⟩ : ∃ n, n = (numGet y1).isSome := ⟨_, rfl⟩
  have HN1 := Lib.hid hn1; have HBB1 := Lib.hid hb1'; clear hn1 hb1'
  obtain ⟨n2, hn2⟩ : ∃ n, n = (numGet y2).getD 0 := ⟨_, rfl⟩
  obtain ⟨b2, hb2'⟩ : ∃ n, n = (numGet y2).isSome := ⟨_, rfl⟩
  have HN2 := Lib.hid hn2; have HBB2 := Lib.hid hb2'; clear hn2 hb2'
  have hg6 : g < w1.heap.size := lg1
  have hne1 : ¬ g = w1.heap.size := by omega
  have hne2 : ¬ w1.heap.size = g := by omega
  have e1 := E1.out
  go_wp2_with fail
  refine (spNumGet_any y1 _ (by omega)).mono ?_
  rw [GotNum_defO, ← HN1.out, ← HBB1.out]
  rintro e w2 ⟨rfl, hb2⟩
  clear e1 e3
  have E2 := Lib.hid ((World.cell?_of_block ((hb2.block g (by first | omega | (simp [World.setCell] <;> omega))).trans ((Below.heap_alloc _ _ _ (by first | omega | (simp [World.setCell] <;> omega))).trans (Eq.refl (w1.heap[g]?))))).trans E2.out)
  have E4 := Lib.hid ((World.cell?_of_block ((hb2.block g (by first | omega | (simp [World.setCell] <;> omega))).trans ((Below.heap_alloc _ _ _ (by first | omega | (simp [World.setCell] <;> omega))).trans (Eq.refl (w1.heap[g]?))))).trans E4.out)
  have lg2 : g < w2.heap.size := by have := hb2.size; simp [World.setCell] at this; omega
  have zz2 : w1.heap.size + 1 ≤ w2.heap.size := by have := hb2.size; simp [World.setCell] at this; omega
  have YY2 : Below w.heap.size w (World.alloc w1 (.cells #[.int .i64 0, .int .i64 0, .string (strB y3), .int .i64 0, .string ⟨#[]⟩, .string ⟨#[]⟩, .int .i64 0, .string ⟨#[]⟩] 34)) := (Below.alloc X1 (by have := X1.size; simp [World.setCell] <;> omega) _)
  have X2 : Below w.heap.size w w2 := YY2.trans (hb2.mono YY2.size)
  clear YY2
  have b2_0 : Hid (w2.heap[w.heap.size]? = some (.cells #[.int .i64 0, .int .i64 0, .string ⟨#[]⟩, .int .i64 0, .string ⟨#[]⟩, .string ⟨#[]⟩, .int .i64 0, .string ⟨#[]⟩] 34 (0, 0))) := Lib.hid ((hb2.block _ (by first | omega | (simp [World.setCell] <;> omega))).trans ((Below.heap_alloc _ _ _ (by first | omega | (simp [World.setCell] <;> omega))).trans b1_0.out))
  have b2_1 : Hid (w2.heap[w1.heap.size]? = some (.cells #[.int .i64 0, .int .i64 0, .string (strB y3), .int .i64 0, .string ⟨#[]⟩, .string ⟨#[]⟩, .int .i64 0, .string ⟨#[]⟩] 34 (0, 0))) := Lib.hid ((hb2.block _ (by first | omega | (simp [World.setCell] <;> omega))).trans (show _ from by have := heap_alloc_new w1 (.cells #[.int .i64 0, .int .i64 0, .string (strB y3), .int .i64 0, .string ⟨#[]⟩, .string ⟨#[]⟩, .int .i64 0, .string ⟨#[]⟩] 34); simpa [World.setCell] using this))
  clear b1_0 X1 zz1 l1_0 c1_0_0 f1_0_0 c1_0_1 f1_0_1 c1_0_2 f1_0_2 c1_0_3 f1_0_3 c1_0_4 f1_0_4 c1_0_5 f1_0_5 c1_0_6 f1_0_6 c1_0_7 f1_0_7 hb2
  have l2_0 : w.heap.size < w2.heap.size := (Array.getElem?_eq_some_iff.1 b2_0.out).1
  have c2_0_0 : w2.cell? ⟨w.heap.size, 0, none⟩ = some (.int .i64 0) := cell_of_row _ _ 0 _ _ (0, 0) b2_0.out
  have f2_0_0 : w2.frozen? ⟨w.heap.size, 0, none⟩ = false := block_free b2_0.out _
  have c2_0_1 : w2.cell? ⟨w.heap.size, 1, none⟩ = some (.int .i64 0) := cell_of_row _ _ 1 _ _ (0, 0) b2_0.out
  have f2_0_1 : w2.frozen? ⟨w.heap.size, 1, none⟩ = false := block_free b2_0.out _
  have c2_0_2 : w2.cell? ⟨w.heap.size, 2, none⟩ = some (.string ⟨#[]⟩) := cell_of_row _ _ 2 _ _ (0, 0) b2_0.out
  have f2_0_2 : w2.frozen? ⟨w.heap.size, 2, none⟩ = false := block_free b2_0.out _
  have c2_0_3 : w2.cell? ⟨w.heap.size, 3, none⟩ = some (.int .i64 0) := cell_of_row _ _ 3 _ _ (0, 0) b2_0.out
  have f2_0_3 : w2.frozen? ⟨w.heap.size, 3, none⟩ = false := block_free b2_0.out _
  have c2_0_4 : w2.cell? ⟨w.heap.size, 4, none⟩ = some (.string ⟨#[]⟩) := cell_of_row _ _ 4 _ _ (0, 0) b2_0.out
  have f2_0_4 : w2.frozen? ⟨w.heap.size, 4, none⟩ = false := block_free b2_0.out _
  have c2_0_5 : w2.cell? ⟨w.heap.size, 5, none⟩ = some (.string ⟨#[]⟩) := cell_of_row _ _ 5 _ _ (0, 0) b2_0.out
  have f2_0_5 : w2.frozen? ⟨w.heap.size, 5, none⟩ = false := block_free b2_0.out _
  have c2_0_6 : w2.cell? ⟨w.heap.size, 6, none⟩ = some (.int .i64 0) := cell_of_row _ _ 6 _ _ (0, 0) b2_0.out
  have f2_0_6 : w2.frozen? ⟨w.heap.size, 6, none⟩ = false := block_free b2_0.out _
  have c2_0_7 : w2.cell? ⟨w.heap.size, 7, none⟩ = some (.string ⟨#[]⟩) := cell_of_row _ _ 7 _ _ (0, 0) b2_0.out
  have f2_0_7 : w2.frozen? ⟨w.heap.size, 7, none⟩ = false := block_free b2_0.out _
  have l2_1 : w1.heap.size < w2.heap.size := (Array.getElem?_eq_some_iff.1 b2_1.out).1
  have c2_1_0 : w2.cell? ⟨w1.heap.size, 0, none⟩ = some (.int .i64 0) := cell_of_row _ _ 0 _ _ (0, 0) b2_1.out
  have f2_1_0 : w2.frozen? ⟨w1.heap.size, 0, none⟩ = false := block_free b2_1.out _
  have c2_1_1 : w2.cell? ⟨w1.heap.size, 1, none⟩ = some (.int .i64 0) := cell_of_row _ _ 1 _ _ (0, 0) b2_1.out
  have f2_1_1 : w2.frozen? ⟨w1.heap.size, 1, none⟩ = false := block_free b2_1.out _
  have c2_1_2 : w2.cell? ⟨w1.heap.size, 2, none⟩ = some (.string (strB y3)) := cell_of_row _ _ 2 _ _ (0, 0) b2_1.out
  have f2_1_2 : w2.frozen? ⟨w1.heap.size, 2, none⟩ = false := block_free b2_1.out _
  have c2_1_3 : w2.cell? ⟨w1.heap.size, 3, none⟩ = some (.int .i64 0) := cell_of_row _ _ 3 _ _ (0, 0) b2_1.out
  have f2_1_3 : w2.frozen? ⟨w1.heap.size, 3, none⟩ = false := block_free b2_1.out _
  have c2_1_4 : w2.cell? ⟨w1.heap.size, 4, none⟩ = some (.string ⟨#[]⟩) := cell_of_row _ _ 4 _ _ (0, 0) b2_1.out
  have f2_1_4 : w2.frozen? ⟨w1.heap.size, 4, none⟩ = false := block_free b2_1.out _
  have c2_1_5 : w2.cell? ⟨w1.heap.size, 5, none⟩ = some (.string ⟨#[]⟩) := cell_of_row _ _ 5 _ _ (0, 0) b2_1.out
  have f2_1_5 : w2.frozen? ⟨w1.heap.size, 5, none⟩ = false := block_free b2_1.out _
  have c2_1_6 : w2.cell? ⟨w1.heap.size, 6, none⟩ = some (.int .i64 0) := cell_of_row _ _ 6 _ _ (0, 0) b2_1.out
  have f2_1_6 : w2.frozen? ⟨w1.heap.size, 6, none⟩ = false := block_free b2_1.out _
  have c2_1_7 : w2.cell? ⟨w1.heap.size, 7, none⟩ = some (.string ⟨#[]⟩) := cell_of_row _ _ 7 _ _ (0, 0) b2_1.out
  have f2_1_7 : w2.frozen? ⟨w1.heap.size, 7, none⟩ = false := block_free b2_1.out _
  have e2 := E2.out
  go_wp2_with fail
  refine (spNumGet_any y2 _ (by omega)).mono ?_
  rw [GotNum_defO, ← HN2.out, ← HBB2.out]
  rintro e w3 ⟨rfl, hb3⟩
  clear e2
  have E4 := Lib.hid ((World.cell?_of_block ((hb3.block g (by first | omega | (simp [World.setCell] <;> omega))).trans ((heap_far (by first | omega | (simp <;> omega))).trans (Eq.refl (w2.heap[g]?))))).trans E4.out)
  have lg3 : g < w3.heap.size := by have := hb3.size; simp [World.setCell] at this; omega
  have zz3 : w2.heap.size ≤ w3.heap.size := by have := hb3.size; simpa [World.setCell] using this
  have YY3 : Below w.heap.size w (World.setCell w2 ⟨w1.heap.size, 0, none⟩ (.int .i64 (n1 : Int))) := (Below.setCell (p := ⟨w1.heap.size, 0, none⟩) X2 (by have := X2.size; simp <;> omega) _)
  have X3 : Below w.heap.size w w3 := YY3.trans (hb3.mono YY3.size)
  clear YY3
  have b3_0 : Hid (w3.heap[w.heap.size]? = some (.cells #[.int .i64 0, .int .i64 0, .string ⟨#[]⟩, .int .i64 0, .string ⟨#[]⟩, .string ⟨#[]⟩, .int .i64 0, .string ⟨#[]⟩] 34 (0, 0))) := Lib.hid ((hb3.block _ (by first | omega | (simp [World.setCell] <;> omega))).trans ((heap_far (by first | omega | (simp <;> omega))).trans b2_0.out))
  have b3_1 : Hid (w3.heap[w1.heap.size]? = some (.cells #[.int .i64 (n1 : Int), .int .i64 0, .string (strB y3), .int .i64 0, .string ⟨#[]⟩, .string ⟨#[]⟩, .int .i64 0, .string ⟨#[]⟩] 34 (0, 0))) := Lib.hid ((hb3.block _ (by first | omega | (simp [World.setCell] <;> omega))).trans (block_set b2_1.out))
  clear b2_0 b2_1 X2 zz2 l2_0 c2_0_0 f2_0_0 c2_0_1 f2_0_1 c2_0_2 f2_0_2 c2_0_3 f2_0_3 c2_0_4 f2_0_4 c2_0_5 f2_0_5 c2_0_6 f2_0_6 c2_0_7 f2_0_7 l2_1 c2_1_0 f2_1_0 c2_1_1 f2_1_1 c2_1_2 f2_1_2 c2_1_3 f2_1_3 c2_1_4 f2_1_4 c2_1_5 f2_1_5 c2_1_6 f2_1_6 c2_1_7 f2_1_7 hb3
  have l3_0 : w.heap.size < w3.heap.size := (Array.getElem?_eq_some_iff.1 b3_0.out).1
  have c3_0_0 : w3.cell? ⟨w.heap.size, 0, none⟩ = some (.int .i64 0) := cell_of_row _ _ 0 _ _ (0, 0) b3_0.out
  have f3_0_0 : w3.frozen? ⟨w.heap.size, 0, none⟩ = false := block_free b3_0.out _
  have c3_0_1 : w3.cell? ⟨w.heap.size, 1, none⟩ = some (.int .i64 0) := cell_of_row _ _ 1 _ _ (0, 0) b3_0.out
  have f3_0_1 : w3.frozen? ⟨w.heap.size, 1, none⟩ = false := block_free b3_0.out _
  have c3_0_2 : w3.cell? ⟨w.heap.size, 2, none⟩ = some (.string ⟨#[]⟩) := cell_of_row _ _ 2 _ _ (0, 0) b3_0.out
  have f3_0_2 : w3.frozen? ⟨w.heap.size, 2, none⟩ = false := block_free b3_0.out _
  have c3_0_3 : w3.cell? ⟨w.heap.size, 3, none⟩ = some (.int .i64 0) := cell_of_row _ _ 3 _ _ (0, 0) b3_0.out
  have f3_0_3 : w3.frozen? ⟨w.heap.size, 3, none⟩ = false := block_free b3_0.out _
  have c3_0_4 : w3.cell? ⟨w.heap.size, 4, none⟩ = some (.string ⟨#[]⟩) := cell_of_row _ _ 4 _ _ (0, 0) b3_0.out
  have f3_0_4 : w3.frozen? ⟨w.heap.size, 4, none⟩ = false := block_free b3_0.out _
  have c3_0_5 : w3.cell? ⟨w.heap.size, 5, none⟩ = some (.string ⟨#[]⟩) := cell_of_row _ _ 5 _ _ (0, 0) b3_0.out
  have f3_0_5 : w3.frozen? ⟨w.heap.size, 5, none⟩ = false := block_free b3_0.out _
  have c3_0_6 : w3.cell? ⟨w.heap.size, 6, none⟩ = some (.int .i64 0) := cell_of_row _ _ 6 _ _ (0, 0) b3_0.out
  have f3_0_6 : w3.frozen? ⟨w.heap.size, 6, none⟩ = false := block_free b3_0.out _
  have c3_0_7 : w3.cell? ⟨w.heap.size, 7, none⟩ = some (.string ⟨#[]⟩) := cell_of_row _ _ 7 _ _ (0, 0) b3_0.out
  have f3_0_7 : w3.frozen? ⟨w.heap.size, 7, none⟩ = false := block_free b3_0.out _
  have l3_1 : w1.heap.size < w3.heap.size := (Array.getElem?_eq_some_iff.1 b3_1.out).1
  have c3_1_0 : w3.cell? ⟨w1.heap.size, 0, none⟩ = some (.int .i64 (n1 : Int)) := cell_of_row _ _ 0 _ _ (0, 0) b3_1.out
  have f3_1_0 : w3.frozen? ⟨w1.heap.size, 0, none⟩ = false := block_free b3_1.out _
  have c3_1_1 : w3.cell? ⟨w1.heap.size, 1, none⟩ = some (.int .i64 0) := cell_of_row _ _ 1 _ _ (0, 0) b3_1.out
  have f3_1_1 : w3.frozen? ⟨w1.heap.size, 1, none⟩ = false := block_free b3_1.out _
  have c3_1_2 : w3.cell? ⟨w1.heap.size, 2, none⟩ = some (.string (strB y3)) := cell_of_row _ _ 2 _ _ (0, 0) b3_1.out
  have f3_1_2 : w3.frozen? ⟨w1.heap.size, 2, none⟩ = false := block_free b3_1.out _
  have c3_1_3 : w3.cell? ⟨w1.heap.size, 3, none⟩ = some (.int .i64 0) := cell_of_row _ _ 3 _ _ (0, 0) b3_1.out
  have f3_1_3 : w3.frozen? ⟨w1.heap.size, 3, none⟩ = false := block_free b3_1.out _
  have c3_1_4 : w3.cell? ⟨w1.heap.size, 4, none⟩ = some (.string ⟨#[]⟩) := cell_of_row _ _ 4 _ _ (0, 0) b3_1.out
  have f3_1_4 : w3.frozen? ⟨w1.heap.size, 4, none⟩ = false := block_free b3_1.out _
  have c3_1_5 : w3.cell? ⟨w1.heap.size, 5, none⟩ = some (.string ⟨#[]⟩) := cell_of_row _ _ 5 _ _ (0, 0) b3_1.out
  have f3_1_5 : w3.frozen? ⟨w1.heap.size, 5, none⟩ = false := block_free b3_1.out _
  have c3_1_6 : w3.cell? ⟨w1.heap.size, 6, none⟩ = some (.int .i64 0) := cell_of_row _ _ 6 _ _ (0, 0) b3_1.out
  have f3_1_6 : w3.frozen? ⟨w1.heap.size, 6, none⟩ = false := block_free b3_1.out _
  have c3_1_7 : w3.cell? ⟨w1.heap.size, 7, none⟩ = some (.string ⟨#[]⟩) := cell_of_row _ _ 7 _ _ (0, 0) b3_1.out
  have f3_1_7 : w3.frozen? ⟨w1.heap.size, 7, none⟩ = false := block_free b3_1.out _
  have e4 := E4.out
  go_wp2_with fail
  refine (spOpGet_any y4 _ (by omega)).mono ?_
  rintro e w4 ⟨k, p, t, a, x, ok, rfl, hop, hb4⟩
  have HOP := Lib.hid hop; clear hop e4
  have zz4 : w3.heap.size ≤ w4.heap.size := by have := hb4.size; simpa [World.setCell] using this
  have YY4 : Below w.heap.size w (World.setCell w3 ⟨w1.heap.size, 1, none⟩ (.int .i64 (n2 : Int))) := (Below.setCell (p := ⟨w1.heap.size, 1, none⟩) X3 (by have := X3.size; simp <;> omega) _)
  have X4 : Below w.heap.size w w4 := YY4.trans (hb4.mono YY4.size)
  clear YY4
  have b4_0 : Hid (w4.heap[w.heap.size]? = some (.cells #[.int .i64 0, .int .i64 0, .string ⟨#[]⟩, .int .i64 0, .string ⟨#[]⟩, .string ⟨#[]⟩, .int .i64 0, .string ⟨#[]⟩] 34 (0, 0))) := Lib.hid ((hb4.block _ (by first | omega | (simp [World.setCell] <;> omega))).trans ((heap_far (by first | omega | (simp <;> omega))).trans b3_0.out))
  have b4_1 : Hid (w4.heap[w1.heap.size]? = some (.cells #[.int .i64 (n1 : Int), .int .i64 (n2 : Int), .string (strB y3), .int .i64 0, .string ⟨#[]⟩, .string ⟨#[]⟩, .int .i64 0, .string ⟨#[]⟩] 34 (0, 0))) := Lib.hid ((hb4.block _ (by first | omega | (simp [World.setCell] <;> omega))).trans (block_set b3_1.out))
  clear b3_0 b3_1 X3 zz3 l3_0 c3_0_0 f3_0_0 c3_0_1 f3_0_1 c3_0_2 f3_0_2 c3_0_3 f3_0_3 c3_0_4 f3_0_4 c3_0_5 f3_0_5 c3_0_6 f3_0_6 c3_0_7 f3_0_7 l3_1 c3_1_0 f3_1_0 c3_1_1 f3_1_1 c3_1_2 f3_1_2 c3_1_3 f3_1_3 c3_1_4 f3_1_4 c3_1_5 f3_1_5 c3_1_6 f3_1_6 c3_1_7 f3_1_7 hb4
  have l4_0 : w.heap.size < w4.heap.size := (Array.getElem?_eq_some_iff.1 b4_0.out).1
  have c4_0_0 : w4.cell? ⟨w.heap.size, 0, none⟩ = some (.int .i64 0) := cell_of_row _ _ 0 _ _ (0, 0) b4_0.out
  have f4_0_0 : w4.frozen? ⟨w.heap.size, 0, none⟩ = false := block_free b4_0.out _
  have c4_0_1 : w4.cell? ⟨w.heap.size, 1, none⟩ = some (.int .i64 0) := cell_of_row _ _ 1 _ _ (0, 0) b4_0.out
  have f4_0_1 : w4.frozen? ⟨w.heap.size, 1, none⟩ = false := block_free b4_0.out _
  have c4_0_2 : w4.cell? ⟨w.heap.size, 2, none⟩ = some (.string ⟨#[]⟩) := cell_of_row _ _ 2 _ _ (0, 0) b4_0.out
  have f4_0_2 : w4.frozen? ⟨w.heap.size, 2, none⟩ = false := block_free b4_0.out _
  have c4_0_3 : w4.cell? ⟨w.heap.size, 3, none⟩ = some (.int .i64 0) := cell_of_row _ _ 3 _ _ (0, 0) b4_0.out
  have f4_0_3 : w4.frozen? ⟨w.heap.size, 3, none⟩ = false := block_free b4_0.out _
  have c4_0_4 : w4.cell? ⟨w.heap.size, 4, none⟩ = some (.string ⟨#[]⟩) := cell_of_row _ _ 4 _ _ (0, 0) b4_0.out
  have f4_0_4 : w4.frozen? ⟨w.heap.size, 4, none⟩ = false := block_free b4_0.out _
  have c4_0_5 : w4.cell? ⟨w.heap.size, 5, none⟩ = some (.string ⟨#[]⟩) := cell_of_row _ _ 5 _ _ (0, 0) b4_0.out
  have f4_0_5 : w4.frozen? ⟨w.heap.size, 5, none⟩ = false := block_free b4_0.out _
  have c4_0_6 : w4.cell? ⟨w.heap.size, 6, none⟩ = some (.int .i64 0) := cell_of_row _ _ 6 _ _ (0, 0) b4_0.out
  have f4_0_6 : w4.frozen? ⟨w.heap.size, 6, none⟩ = false := block_free b4_0.out _
  have c4_0_7 : w4.cell? ⟨w.heap.size, 7, none⟩ = some (.string ⟨#[]⟩) := cell_of_row _ _ 7 _ _ (0, 0) b4_0.out
  have f4_0_7 : w4.frozen? ⟨w.heap.size, 7, none⟩ = false := block_free b4_0.out _
  have l4_1 : w1.heap.size < w4.heap.size := (Array.getElem?_eq_some_iff.1 b4_1.out).1
  have c4_1_0 : w4.cell? ⟨w1.heap.size, 0, none⟩ = some (.int .i64 (n1 : Int)) := cell_of_row _ _ 0 _ _ (0, 0) b4_1.out
  have f4_1_0 : w4.frozen? ⟨w1.heap.size, 0, none⟩ = false := block_free b4_1.out _
  have c4_1_1 : w4.cell? ⟨w1.heap.size, 1, none⟩ = some (.int .i64 (n2 : Int)) := cell_of_row _ _ 1 _ _ (0, 0) b4_1.out
  have f4_1_1 : w4.frozen? ⟨w1.heap.size, 1, none⟩ = false := block_free b4_1.out _
  have c4_1_2 : w4.cell? ⟨w1.heap.size, 2, none⟩ = some (.string (strB y3)) := cell_of_row _ _ 2 _ _ (0, 0) b4_1.out
  have f4_1_2 : w4.frozen? ⟨w1.heap.size, 2, none⟩ = false := block_free b4_1.out _
  have c4_1_3 : w4.cell? ⟨w1.heap.size, 3, none⟩ = some (.int .i64 0) := cell_of_row _ _ 3 _ _ (0, 0) b4_1.out
  have f4_1_3 : w4.frozen? ⟨w1.heap.size, 3, none⟩ = false := block_free b4_1.out _
  have c4_1_4 : w4.cell? ⟨w1.heap.size, 4, none⟩ = some (.string ⟨#[]⟩) := cell_of_row _ _ 4 _ _ (0, 0) b4_1.out
  have f4_1_4 : w4.frozen? ⟨w1.heap.size, 4, none⟩ = false := block_free b4_1.out _
  have c4_1_5 : w4.cell? ⟨w1.heap.size, 5, none⟩ = some (.string ⟨#[]⟩) := cell_of_row _ _ 5 _ _ (0, 0) b4_1.out
  have f4_1_5 : w4.frozen? ⟨w1.heap.size, 5, none⟩ = false := block_free b4_1.out _
  have c4_1_6 : w4.cell? ⟨w1.heap.size, 6, none⟩ = some (.int .i64 0) := cell_of_row _ _ 6 _ _ (0, 0) b4_1.out
  have f4_1_6 : w4.frozen? ⟨w1.heap.size, 6, none⟩ = false := block_free b4_1.out _
  have c4_1_7 : w4.cell? ⟨w1.heap.size, 7, none⟩ = some (.string ⟨#[]⟩) := cell_of_row _ _ 7 _ _ (0, 0) b4_1.out
  have f4_1_7 : w4.frozen? ⟨w1.heap.size, 7, none⟩ = false := block_free b4_1.out _
  obtain ⟨hlp, hlt, hlx⟩ := opIs_len HOP.out
  have HS : Hid (SixI s (numGet y1) (numGet y2) y3 (k, p, t, a, x) ok) := Lib.hid ⟨y0, y1, y2, y4, y5, HR.out, rfl, rfl, HOP.out⟩
  go_wp2_with fail
  refine (spIntOk_any (n1 : Int) (n2 : Int) y3 k p t a x _ (by omega) hlp hlt hlx).mono ?_
  obtain ⟨rk, hrk⟩ : ∃ z, z = intB ((n1 : Int), (n2 : Int), y3, k, p, t, a, x) := ⟨_, rfl⟩
  rw [← hrk]
  have HRK := Lib.hid hrk; clear hrk
  rintro e w5 ⟨rfl, hb5⟩
  have zz5 : w4.heap.size ≤ w5.heap.size := by have := hb5.size; simpa [World.setCell] using this
  have YY5 : Below w.heap.size w (World.setCell (World.setCell (World.setCell (World.setCell (World.setCell w4 ⟨w1.heap.size, 3, none⟩ (.int .i64 k)) ⟨w1.heap.size, 4, none⟩ (.string (strB p))) ⟨w1.heap.size, 5, none⟩ (.string (strB t))) ⟨w1.heap.size, 6, none⟩ (.int .i64 a)) ⟨w1.heap.size, 7, none⟩ (.string (strB x))) := (Below.setCell (p := ⟨w1.heap.size, 7, none⟩) (Below.setCell (p := ⟨w1.heap.size, 6, none⟩) (Below.setCell (p := ⟨w1.heap.size, 5, none⟩) (Below.setCell (p := ⟨w1.heap.size, 4, none⟩) (Below.setCell (p := ⟨w1.heap.size, 3, none⟩) X4 (by have := X4.size; simp <;> omega) _) (by have := X4.size; simp <;> omega) _) (by have := X4.size; simp <;> omega) _) (by have := X4.size; simp <;> omega) _) (by have := X4.size; simp <;> omega) _)
  have X5 : Below w.heap.size w w5 := YY5.trans (hb5.mono YY5.size)
  clear YY5
  have b5_0 : Hid (w5.heap[w.heap.size]? = some (.cells #[.int .i64 0, .int .i64 0, .string ⟨#[]⟩, .int .i64 0, .string ⟨#[]⟩, .string ⟨#[]⟩, .int .i64 0, .string ⟨#[]⟩] 34 (0, 0))) := Lib.hid ((hb5.block _ (by first | omega | (simp [World.setCell] <;> omega))).trans ((heap_far (by first | omega | (simp <;> omega))).trans ((heap_far (by first | omega | (simp <;> omega))).trans ((heap_far (by first | omega | (simp <;> omega))).trans ((heap_far (by first | omega | (simp <;> omega))).trans ((heap_far (by first | omega | (simp <;> omega))).trans b4_0.out))))))
  have b5_1 : Hid (w5.heap[w1.heap.size]? = some (.cells #[.int .i64 (n1 : Int), .int .i64 (n2 : Int), .string (strB y3), .int .i64 k, .string (strB p), .string (strB t), .int .i64 a, .string (strB x)] 34 (0, 0))) := Lib.hid ((hb5.block _ (by first | omega | (simp [World.setCell] <;> omega))).trans (block_set (block_set (block_set (block_set (block_set b4_1.out))))))
  clear b4_0 b4_1 X4 zz4 l4_0 c4_0_0 f4_0_0 c4_0_1 f4_0_1 c4_0_2 f4_0_2 c4_0_3 f4_0_3 c4_0_4 f4_0_4 c4_0_5 f4_0_5 c4_0_6 f4_0_6 c4_0_7 f4_0_7 l4_1 c4_1_0 f4_1_0 c4_1_1 f4_1_1 c4_1_2 f4_1_2 c4_1_3 f4_1_3 c4_1_4 f4_1_4 c4_1_5 f4_1_5 c4_1_6 f4_1_6 c4_1_7 f4_1_7 hb5
  have l5_0 : w.heap.size < w5.heap.size := (Array.getElem?_eq_some_iff.1 b5_0.out).1
  have c5_0_0 : w5.cell? ⟨w.heap.size, 0, none⟩ = some (.int .i64 0) := cell_of_row _ _ 0 _ _ (0, 0) b5_0.out
  have f5_0_0 : w5.frozen? ⟨w.heap.size, 0, none⟩ = false := block_free b5_0.out _
  have c5_0_1 : w5.cell? ⟨w.heap.size, 1, none⟩ = some (.int .i64 0) := cell_of_row _ _ 1 _ _ (0, 0) b5_0.out
  have f5_0_1 : w5.frozen? ⟨w.heap.size, 1, none⟩ = false := block_free b5_0.out _
  have c5_0_2 : w5.cell? ⟨w.heap.size, 2, none⟩ = some (.string ⟨#[]⟩) := cell_of_row _ _ 2 _ _ (0, 0) b5_0.out
  have f5_0_2 : w5.frozen? ⟨w.heap.size, 2, none⟩ = false := block_free b5_0.out _
  have c5_0_3 : w5.cell? ⟨w.heap.size, 3, none⟩ = some (.int .i64 0) := cell_of_row _ _ 3 _ _ (0, 0) b5_0.out
  have f5_0_3 : w5.frozen? ⟨w.heap.size, 3, none⟩ = false := block_free b5_0.out _
  have c5_0_4 : w5.cell? ⟨w.heap.size, 4, none⟩ = some (.string ⟨#[]⟩) := cell_of_row _ _ 4 _ _ (0, 0) b5_0.out
  have f5_0_4 : w5.frozen? ⟨w.heap.size, 4, none⟩ = false := block_free b5_0.out _
  have c5_0_5 : w5.cell? ⟨w.heap.size, 5, none⟩ = some (.string ⟨#[]⟩) := cell_of_row _ _ 5 _ _ (0, 0) b5_0.out
  have f5_0_5 : w5.frozen? ⟨w.heap.size, 5, none⟩ = false := block_free b5_0.out _
  have c5_0_6 : w5.cell? ⟨w.heap.size, 6, none⟩ = some (.int .i64 0) := cell_of_row _ _ 6 _ _ (0, 0) b5_0.out
  have f5_0_6 : w5.frozen? ⟨w.heap.size, 6, none⟩ = false := block_free b5_0.out _
  have c5_0_7 : w5.cell? ⟨w.heap.size, 7, none⟩ = some (.string ⟨#[]⟩) := cell_of_row _ _ 7 _ _ (0, 0) b5_0.out
  have f5_0_7 : w5.frozen? ⟨w.heap.size, 7, none⟩ = false := block_free b5_0.out _
  have l5_1 : w1.heap.size < w5.heap.size := (Array.getElem?_eq_some_iff.1 b5_1.out).1
  have c5_1_0 : w5.cell? ⟨w1.heap.size, 0, none⟩ = some (.int .i64 (n1 : Int)) := cell_of_row _ _ 0 _ _ (0, 0) b5_1.out
  have f5_1_0 : w5.frozen? ⟨w1.heap.size, 0, none⟩ = false := block_free b5_1.out _
  have c5_1_1 : w5.cell? ⟨w1.heap.size, 1, none⟩ = some (.int .i64 (n2 : Int)) := cell_of_row _ _ 1 _ _ (0, 0) b5_1.out
  have f5_1_1 : w5.frozen? ⟨w1.heap.size, 1, none⟩ = false := block_free b5_1.out _
  have c5_1_2 : w5.cell? ⟨w1.heap.size, 2, none⟩ = some (.string (strB y3)) := cell_of_row _ _ 2 _ _ (0, 0) b5_1.out
  have f5_1_2 : w5.frozen? ⟨w1.heap.size, 2, none⟩ = false := block_free b5_1.out _
  have c5_1_3 : w5.cell? ⟨w1.heap.size, 3, none⟩ = some (.int .i64 k) := cell_of_row _ _ 3 _ _ (0, 0) b5_1.out
  have f5_1_3 : w5.frozen? ⟨w1.heap.size, 3, none⟩ = false := block_free b5_1.out _
  have c5_1_4 : w5.cell? ⟨w1.heap.size, 4, none⟩ = some (.string (strB p)) := cell_of_row _ _ 4 _ _ (0, 0) b5_1.out
  have f5_1_4 : w5.frozen? ⟨w1.heap.size, 4, none⟩ = false := block_free b5_1.out _
  have c5_1_5 : w5.cell? ⟨w1.heap.size, 5, none⟩ = some (.string (strB t)) := cell_of_row _ _ 5 _ _ (0, 0) b5_1.out
  have f5_1_5 : w5.frozen? ⟨w1.heap.size, 5, none⟩ = false := block_free b5_1.out _
  have c5_1_6 : w5.cell? ⟨w1.heap.size, 6, none⟩ = some (.int .i64 a) := cell_of_row _ _ 6 _ _ (0, 0) b5_1.out
  have f5_1_6 : w5.frozen? ⟨w1.heap.size, 6, none⟩ = false := block_free b5_1.out _
  have c5_1_7 : w5.cell? ⟨w1.heap.size, 7, none⟩ = some (.string (strB x)) := cell_of_row _ _ 7 _ _ (0, 0) b5_1.out
  have f5_1_7 : w5.frozen? ⟨w1.heap.size, 7, none⟩ = false := block_free b5_1.out _
  cases rk
  case false =>
    have HNO := Lib.hid (HS.out.no_ok (by rw [← HN1.out, ← HN2.out]; exact HRK.out.symm))
    have HRR : Hid ((w5).heap[w.heap.size]? = some (.cells #[.int .i64 0, .int .i64 0, .string ⟨#[]⟩, .int .i64 0, .string ⟨#[]⟩, .string ⟨#[]⟩, .int .i64 0, .string ⟨#[]⟩] 34 (0, 0))) := Lib.hid (b5_0.out)
    have HBL : Hid (Below w.heap.size w w5) := Lib.hid X5
    go_wp2_with fail
    have hst := setG_8 (x0 := .int .i64 0) (x1 := .int .i64 0) (x2 := .string ⟨#[]⟩) (x3 := .int .i64 0) (x4 := .string ⟨#[]⟩) (x5 := .string ⟨#[]⟩) (x6 := .int .i64 0) (x7 := .string ⟨#[]⟩) HRR.out
    have r0 := cell_of_row _ _ 0 _ _ (0, 0) hst
    have r1 := cell_of_row _ _ 1 _ _ (0, 0) hst
    have r2 := cell_of_row _ _ 2 _ _ (0, 0) hst
    have r3 := cell_of_row _ _ 3 _ _ (0, 0) hst
    have r4 := cell_of_row _ _ 4 _ _ (0, 0) hst
    have r5 := cell_of_row _ _ 5 _ _ (0, 0) hst
    have r6 := cell_of_row _ _ 6 _ _ (0, 0) hst
    have r7 := cell_of_row _ _ 7 _ _ (0, 0) hst
    clear hst
    exact bodyPost_ret (v := .tuple #[.agg #[.int .i64 0, .int .i64 0, .string ⟨#[]⟩, .int .i64 0, .string ⟨#[]⟩, .string ⟨#[]⟩, .int .i64 0, .string ⟨#[]⟩], .bool false]) (by simp [results, Tryz.results44, go_sem, r0, r1, r2, r3, r4, r5, r6, r7]) rfl (⟨0, 0, [], 0, [], [], 0, [], false, rfl, HNO.out, (Below.setCell (p := ⟨w.heap.size, 7, none⟩) (Below.setCell (p := ⟨w.heap.size, 6, none⟩) (Below.setCell (p := ⟨w.heap.size, 5, none⟩) (Below.setCell (p := ⟨w.heap.size, 4, none⟩) (Below.setCell (p := ⟨w.heap.size, 3, none⟩) (Below.setCell (p := ⟨w.heap.size, 2, none⟩) (Below.setCell (p := ⟨w.heap.size, 1, none⟩) (Below.setCell (p := ⟨w.heap.size, 0, none⟩) HBL.out (Nat.le_refl _) _) (Nat.le_refl _) _) (Nat.le_refl _) _) (Nat.le_refl _) _) (Nat.le_refl _) _) (Nat.le_refl _) _) (Nat.le_refl _) _) (Nat.le_refl _) _)⟩)
  go_wp2_with fail
  refine (spIntPut_any (n1 : Int) (n2 : Int) y3 k p t a x _ (by omega) hlp hlt hlx).mono ?_
  rintro e w6 ⟨rfl, hb6⟩
  have zz6 : w5.heap.size ≤ w6.heap.size := by have := hb6.size; simpa [World.setCell] using this
  have YY6 : Below w.heap.size w w5 := X5
  have X6 : Below w.heap.size w w6 := YY6.trans (hb6.mono YY6.size)
  clear YY6
  have b6_0 : Hid (w6.heap[w.heap.size]? = some (.cells #[.int .i64 0, .int .i64 0, .string ⟨#[]⟩, .int .i64 0, .string ⟨#[]⟩, .string ⟨#[]⟩, .int .i64 0, .string ⟨#[]⟩] 34 (0, 0))) := Lib.hid ((hb6.block _ (by first | omega | (simp [World.setCell] <;> omega))).trans b5_0.out)
  have b6_1 : Hid (w6.heap[w1.heap.size]? = some (.cells #[.int .i64 (n1 : Int), .int .i64 (n2 : Int), .string (strB y3), .int .i64 k, .string (strB p), .string (strB t), .int .i64 a, .string (strB x)] 34 (0, 0))) := Lib.hid ((hb6.block _ (by first | omega | (simp [World.setCell] <;> omega))).trans b5_1.out)
  clear b5_0 b5_1 X5 zz5 l5_0 c5_0_0 f5_0_0 c5_0_1 f5_0_1 c5_0_2 f5_0_2 c5_0_3 f5_0_3 c5_0_4 f5_0_4 c5_0_5 f5_0_5 c5_0_6 f5_0_6 c5_0_7 f5_0_7 l5_1 c5_1_0 f5_1_0 c5_1_1 f5_1_1 c5_1_2 f5_1_2 c5_1_3 f5_1_3 c5_1_4 f5_1_4 c5_1_5 f5_1_5 c5_1_6 f5_1_6 c5_1_7 f5_1_7 hb6
  have l6_0 : w.heap.size < w6.heap.size := (Array.getElem?_eq_some_iff.1 b6_0.out).1
  have c6_0_0 : w6.cell? ⟨w.heap.size, 0, none⟩ = some (.int .i64 0) := cell_of_row _ _ 0 _ _ (0, 0) b6_0.out
  have f6_0_0 : w6.frozen? ⟨w.heap.size, 0, none⟩ = false := block_free b6_0.out _
  have c6_0_1 : w6.cell? ⟨w.heap.size, 1, none⟩ = some (.int .i64 0) := cell_of_row _ _ 1 _ _ (0, 0) b6_0.out
  have f6_0_1 : w6.frozen? ⟨w.heap.size, 1, none⟩ = false := block_free b6_0.out _
  have c6_0_2 : w6.cell? ⟨w.heap.size, 2, none⟩ = some (.string ⟨#[]⟩) := cell_of_row _ _ 2 _ _ (0, 0) b6_0.out
  have f6_0_2 : w6.frozen? ⟨w.heap.size, 2, none⟩ = false := block_free b6_0.out _
  have c6_0_3 : w6.cell? ⟨w.heap.size, 3, none⟩ = some (.int .i64 0) := cell_of_row _ _ 3 _ _ (0, 0) b6_0.out
  have f6_0_3 : w6.frozen? ⟨w.heap.size, 3, none⟩ = false := block_free b6_0.out _
  have c6_0_4 : w6.cell? ⟨w.heap.size, 4, none⟩ = some (.string ⟨#[]⟩) := cell_of_row _ _ 4 _ _ (0, 0) b6_0.out
  have f6_0_4 : w6.frozen? ⟨w.heap.size, 4, none⟩ = false := block_free b6_0.out _
  have c6_0_5 : w6.cell? ⟨w.heap.size, 5, none⟩ = some (.string ⟨#[]⟩) := cell_of_row _ _ 5 _ _ (0, 0) b6_0.out
  have f6_0_5 : w6.frozen? ⟨w.heap.size, 5, none⟩ = false := block_free b6_0.out _
  have c6_0_6 : w6.cell? ⟨w.heap.size, 6, none⟩ = some (.int .i64 0) := cell_of_row _ _ 6 _ _ (0, 0) b6_0.out
  have f6_0_6 : w6.frozen? ⟨w.heap.size, 6, none⟩ = false := block_free b6_0.out _
  have c6_0_7 : w6.cell? ⟨w.heap.size, 7, none⟩ = some (.string ⟨#[]⟩) := cell_of_row _ _ 7 _ _ (0, 0) b6_0.out
  have f6_0_7 : w6.frozen? ⟨w.heap.size, 7, none⟩ = false := block_free b6_0.out _
  have l6_1 : w1.heap.size < w6.heap.size := (Array.getElem?_eq_some_iff.1 b6_1.out).1
  have c6_1_0 : w6.cell? ⟨w1.heap.size, 0, none⟩ = some (.int .i64 (n1 : Int)) := cell_of_row _ _ 0 _ _ (0, 0) b6_1.out
  have f6_1_0 : w6.frozen? ⟨w1.heap.size, 0, none⟩ = false := block_free b6_1.out _
  have c6_1_1 : w6.cell? ⟨w1.heap.size, 1, none⟩ = some (.int .i64 (n2 : Int)) := cell_of_row _ _ 1 _ _ (0, 0) b6_1.out
  have f6_1_1 : w6.frozen? ⟨w1.heap.size, 1, none⟩ = false := block_free b6_1.out _
  have c6_1_2 : w6.cell? ⟨w1.heap.size, 2, none⟩ = some (.string (strB y3)) := cell_of_row _ _ 2 _ _ (0, 0) b6_1.out
  have f6_1_2 : w6.frozen? ⟨w1.heap.size, 2, none⟩ = false := block_free b6_1.out _
  have c6_1_3 : w6.cell? ⟨w1.heap.size, 3, none⟩ = some (.int .i64 k) := cell_of_row _ _ 3 _ _ (0, 0) b6_1.out
  have f6_1_3 : w6.frozen? ⟨w1.heap.size, 3, none⟩ = false := block_free b6_1.out _
  have c6_1_4 : w6.cell? ⟨w1.heap.size, 4, none⟩ = some (.string (strB p)) := cell_of_row _ _ 4 _ _ (0, 0) b6_1.out
  have f6_1_4 : w6.frozen? ⟨w1.heap.size, 4, none⟩ = false := block_free b6_1.out _
  have c6_1_5 : w6.cell? ⟨w1.heap.size, 5, none⟩ = some (.string (strB t)) := cell_of_row _ _ 5 _ _ (0, 0) b6_1.out
  have f6_1_5 : w6.frozen? ⟨w1.heap.size, 5, none⟩ = false := block_free b6_1.out _
  have c6_1_6 : w6.cell? ⟨w1.heap.size, 6, none⟩ = some (.int .i64 a) := cell_of_row _ _ 6 _ _ (0, 0) b6_1.out
  have f6_1_6 : w6.frozen? ⟨w1.heap.size, 6, none⟩ = false := block_free b6_1.out _
  have c6_1_7 : w6.cell? ⟨w1.heap.size, 7, none⟩ = some (.string (strB x)) := cell_of_row _ _ 7 _ _ (0, 0) b6_1.out
  have f6_1_7 : w6.frozen? ⟨w1.heap.size, 7, none⟩ = false := block_free b6_1.out _
  by_cases hps : intS ((n1 : Int), (n2 : Int), y3, k, p, t, a, x) = s
  case neg =>
    have HNO := Lib.hid (HS.out.no_text (by rw [← HN1.out, ← HN2.out]; exact hps))
    have hq : ((strB (intS ((n1 : Int), (n2 : Int), y3, k, p, t, a, x))).toList == (strB s).toList) = false := by rw [strB_list, strB_list]; simpa using hps
    clear hps
    have HRR : Hid ((w6).heap[w.heap.size]? = some (.cells #[.int .i64 0, .int .i64 0, .string ⟨#[]⟩, .int .i64 0, .string ⟨#[]⟩, .string ⟨#[]⟩, .int .i64 0, .string ⟨#[]⟩] 34 (0, 0))) := Lib.hid (b6_0.out)
    have HBL : Hid (Below w.heap.size w w6) := Lib.hid X6
    go_wp2_with fail
    have hst := setG_8 (x0 := .int .i64 0) (x1 := .int .i64 0) (x2 := .string ⟨#[]⟩) (x3 := .int .i64 0) (x4 := .string ⟨#[]⟩) (x5 := .string ⟨#[]⟩) (x6 := .int .i64 0) (x7 := .string ⟨#[]⟩) HRR.out
    have r0 := cell_of_row _ _ 0 _ _ (0, 0) hst
    have r1 := cell_of_row _ _ 1 _ _ (0, 0) hst
    have r2 := cell_of_row _ _ 2 _ _ (0, 0) hst
    have r3 := cell_of_row _ _ 3 _ _ (0, 0) hst
    have r4 := cell_of_row _ _ 4 _ _ (0, 0) hst
    have r5 := cell_of_row _ _ 5 _ _ (0, 0) hst
    have r6 := cell_of_row _ _ 6 _ _ (0, 0) hst
    have r7 := cell_of_row _ _ 7 _ _ (0, 0) hst
    clear hst
    exact bodyPost_ret (v := .tuple #[.agg #[.int .i64 0, .int .i64 0, .string ⟨#[]⟩, .int .i64 0, .string ⟨#[]⟩, .string ⟨#[]⟩, .int .i64 0, .string ⟨#[]⟩], .bool false]) (by simp [results, Tryz.results44, go_sem, r0, r1, r2, r3, r4, r5, r6, r7]) rfl (⟨0, 0, [], 0, [], [], 0, [], false, rfl, HNO.out, (Below.setCell (p := ⟨w.heap.size, 7, none⟩) (Below.setCell (p := ⟨w.heap.size, 6, none⟩) (Below.setCell (p := ⟨w.heap.size, 5, none⟩) (Below.setCell (p := ⟨w.heap.size, 4, none⟩) (Below.setCell (p := ⟨w.heap.size, 3, none⟩) (Below.setCell (p := ⟨w.heap.size, 2, none⟩) (Below.setCell (p := ⟨w.heap.size, 1, none⟩) (Below.setCell (p := ⟨w.heap.size, 0, none⟩) HBL.out (Nat.le_refl _) _) (Nat.le_refl _) _) (Nat.le_refl _) _) (Nat.le_refl _) _) (Nat.le_refl _) _) (Nat.le_refl _) _) (Nat.le_refl _) _) (Nat.le_refl _) _)⟩)
  have HY : Hid (intIs s ((n1 : Int), (n2 : Int), y3, k, p, t, a, x) true) := Lib.hid (by have := HS.out.yes (by rw [← HN1.out, ← HN2.out]; exact hps); rw [← HN1.out, ← HN2.out] at this; exact this)
  have hq : ((strB (intS ((n1 : Int), (n2 : Int), y3, k, p, t, a, x))).toList == (strB s).toList) = true := by rw [hps]; simp
  clear hps
  have HRR : Hid ((w6).heap[w.heap.size]? = some (.cells #[.int .i64 0, .int .i64 0, .string ⟨#[]⟩, .int .i64 0, .string ⟨#[]⟩, .string ⟨#[]⟩, .int .i64 0, .string ⟨#[]⟩] 34 (0, 0))) := Lib.hid (b6_0.out)
  have HBL : Hid (Below w.heap.size w w6) := Lib.hid X6
  go_wp2_with fail
  have hst := setG_8 (x0 := .int .i64 (n1 : Int)) (x1 := .int .i64 (n2 : Int)) (x2 := .string (strB y3)) (x3 := .int .i64 k) (x4 := .string (strB p)) (x5 := .string (strB t)) (x6 := .int .i64 a) (x7 := .string (strB x)) HRR.out
  have r0 := cell_of_row _ _ 0 _ _ (0, 0) hst
  have r1 := cell_of_row _ _ 1 _ _ (0, 0) hst
  have r2 := cell_of_row _ _ 2 _ _ (0, 0) hst
  have r3 := cell_of_row _ _ 3 _ _ (0, 0) hst
  have r4 := cell_of_row _ _ 4 _ _ (0, 0) hst
  have r5 := cell_of_row _ _ 5 _ _ (0, 0) hst
  have r6 := cell_of_row _ _ 6 _ _ (0, 0) hst
  have r7 := cell_of_row _ _ 7 _ _ (0, 0) hst
  clear hst
  exact bodyPost_ret (v := .tuple #[.agg #[.int .i64 (n1 : Int), .int .i64 (n2 : Int), .string (strB y3), .int .i64 k, .string (strB p), .string (strB t), .int .i64 a, .string (strB x)], .bool true]) (by simp [results, Tryz.results44, go_sem, r0, r1, r2, r3, r4, r5, r6, r7]) rfl (⟨_, _, _, _, _, _, _, _, _, rfl, HY.out, (Below.setCell (p := ⟨w.heap.size, 7, none⟩) (Below.setCell (p := ⟨w.heap.size, 6, none⟩) (Below.setCell (p := ⟨w.heap.size, 5, none⟩) (Below.setCell (p := ⟨w.heap.size, 4, none⟩) (Below.setCell (p := ⟨w.heap.size, 3, none⟩) (Below.setCell (p := ⟨w.heap.size, 2, none⟩) (Below.setCell (p := ⟨w.heap.size, 1, none⟩) (Below.setCell (p := ⟨w.heap.size, 0, none⟩) HBL.out (Nat.le_refl _) _) (Nat.le_refl _) _) (Nat.le_refl _) _) (Nat.le_refl _) _) (Nat.le_refl _) _) (Nat.le_refl _) _) (Nat.le_refl _) _) (Nat.le_refl _) _)⟩)
end Go.Proofs.YtggdjiklgakfnaaGreatDoor
