/- nums of the program: number texts read into cells. Condition: the library's variables lie as the row says. -/
import Derived.Test.YtlacpcdbgimnmaaGreatDoorRMetaBack
import Derived.Test.YtlacpcdbgimnmaaGreatDoorRNumGet
set_option linter.unnecessarySimpa false
set_option linter.unusedSimpArgs false
set_option linter.unusedVariables false
namespace Go.Proofs.YtlacpcdbgimnmaaGreatDoor
open Go Go.Lib Go.RowKit
theorem GotNum_defN (s : Str) (w : World) : GotNum s w = fun e w' => e = .returned (.tuple #[.int .i64 (((numGet s).getD 0 : Nat) : Int), .bool (numGet s).isSome]) ∧ Below w.heap.size w w' := rfl
def numsSR (R T : Nat) (v1 v4 v5 v6 v7 v8 v9 v10 v11 : Value) (y0 y1 y2 : Str) (w : World) (e : Ending) (w' : World) : Prop :=
 ∃ (a0 a1 a2 : Int), e = .returned (.bool ((numGet y0).isSome && (numGet y1).isSome && (numGet y2).isSome)) ∧ w'.heap[R]? = some (.cells #[.int .i64 a0, v1, .int .i64 a1, .int .i64 a2, v4, v5, v6, v7, v8, v9, v10, v11] T (0, 0)) ∧ Chg (· ∈ [R]) w w' ∧ (((numGet y0).isSome && (numGet y1).isSome && (numGet y2).isSome) = true → a0 = rdN y0 ∧ a1 = rdN y1 ∧ a2 = rdN y2)
set_option maxRecDepth 100000 in
set_option maxHeartbeats 8000000 in
theorem numsS_any (g cp gp R T : Nat) (y0 y1 y2 : Str) (b0 b1 b2 : Int) (v1 v4 v5 v6 v7 v8 v9 v10 v11 : Value) (w : World) (he : ∀ W, Chg (· ∈ [R]) w W → Env W)
 (e0 : w.cell? ⟨g, 0, none⟩ = some (.string (strB y0)))
 (e1 : w.cell? ⟨g, 1, none⟩ = some (.string (strB y1)))
 (e2 : w.cell? ⟨g, 2, none⟩ = some (.string (strB y2)))
 (hp : w.heap[gp]? = some (.cells #[.pointer (some ⟨R, 0, none⟩), .pointer (some ⟨R, 2, none⟩), .pointer (some ⟨R, 3, none⟩)] 50 (0, 0)))
 (hR0 : w.heap[R]? = some (.cells #[.int .i64 b0, v1, .int .i64 b1, .int .i64 b2, v4, v5, v6, v7, v8, v9, v10, v11] T (0, 0)))
 (hl0 : y0.length ≤ 1000000) (hl1 : y1.length ≤ 1000000) (hl2 : y2.length ≤ 1000000) (hgR : g ≠ R) (hpR : gp ≠ R) :
 Calls Tryz.prog 15 #[.slice (some ⟨g, 0, none⟩) 3 cp, .slice (some ⟨gp, 0, none⟩) 3 3] w (numsSR R T v1 v4 v5 v6 v7 v8 v9 v10 v11 y0 y1 y2 w) := by
 have lg := World.block_lt_of_cell? _ _ e0
 have lp := (Array.getElem?_eq_some_iff.1 hp).1
 have lR0 := (Array.getElem?_eq_some_iff.1 hR0).1
 obtain ⟨n0, hn0⟩ : ∃ n, n = numGet y0 := ⟨_, rfl⟩
 have HN0 := Lib.hid hn0.symm; clear hn0
 obtain ⟨n1, hn1⟩ : ∃ n, n = numGet y1 := ⟨_, rfl⟩
 have HN1 := Lib.hid hn1.symm; clear hn1
 obtain ⟨n2, hn2⟩ : ∃ n, n = numGet y2 := ⟨_, rfl⟩
 have HN2 := Lib.hid hn2.symm; clear hn2
 have HE := Lib.hid he; have E0 := Lib.hid e0; have E1 := Lib.hid e1; have E2 := Lib.hid e2; have HP := Lib.hid hp; have HR0 := Lib.hid hR0
 clear he hp e0 e1 e2 hR0
 unfold numsSR
 rw [HN0.out, HN1.out, HN2.out]
 go_enter Tryz.func15, Tryz.ntmps15
 go_wp2_with fail
 go_loopw [11] (fun i wr => ∃ (j a0 a1 a2 : Int), (j = 0 ∨ j = 1 ∨ j = 2 ∨ j = 3) ∧ i = .int .i64 j ∧ Hid (wr.heap[R]? = some (.cells #[.int .i64 a0, v1, .int .i64 a1, .int .i64 a2, v4, v5, v6, v7, v8, v9, v10, v11] T (0, 0))) ∧ Hid (Chg (· ∈ [R]) w wr) ∧ Hid ((0 < j → n0 = some (a0).toNat ∧ 0 ≤ a0) ∧ (1 < j → n1 = some (a1).toNat ∧ 0 ≤ a1) ∧ (2 < j → n2 = some (a2).toNat ∧ 0 ≤ a2))) (fun i _ => 3 - (RowKit.intOf i).toNat)
 case atStart => exact ⟨0, b0, b1, b2, .inl rfl, rfl, HR0, Lib.hid (Chg.refl _ _), Lib.hid ⟨fun h => absurd h (by omega), fun h => absurd h (by omega), fun h => absurd h (by omega)⟩⟩
 obtain ⟨j, a0, a1, a2, hj, rfl, HRR0, HC, HD⟩ := hrel
 have hsz := HC.out.size
 have lgr : g < wr.heap.size := by omega
 rcases hj with rfl | rfl | rfl | rfl
 · have qp : wr.cell? ⟨gp, 0, none⟩ = some (.pointer (some ⟨R, 0, none⟩)) := (World.cell?_of_block (HC.out.block gp lp (by simp; omega))).trans (celR 0 HP.out)
   have qe : wr.cell? ⟨g, 0, none⟩ = some (.string (strB y0)) := (World.cell?_of_block (HC.out.block g lg (by simp; omega))).trans E0.out
   go_wp2_with fail
   refine (numGet_any y0 wr (HE.out wr HC.out) (by omega)).mono ?_
   rw [GotNum_defN, HN0.out]
   rintro e w2 ⟨rfl, hb2⟩
   have hB0 := (hb2.block R (by omega)).trans HRR0.out
   have hC2 := HC.out.trans (Chg.of_below hb2 (· ∈ [R]))
   cases n0 with
   | none =>
     have HB0 := Lib.hid hB0; clear hB0 hb2
     simp only [Option.getD_none, Option.isSome_none]
     go_wp2_with fail
     have hfls : ((none : Option Nat).isSome && n1.isSome && n2.isSome) = false := by simp
     rw [hfls]
     go_ret
     exact ⟨a0, a1, a2, rfl, HB0.out, hC2, fun h => by cases h⟩
   | some m =>
     simp only [Option.getD_some, Option.isSome_some]
     have fR := block_free hB0 0
     have cR := celR 0 hB0
     have HB0 := Lib.hid (block_set (o := 0) (v := .int .i64 (m : Int)) hB0)
     have HC3 := Lib.hid (Chg.setCell (p := ⟨R, 0, none⟩) hC2 (.inl (by simp)) (.int .i64 (m : Int)))
     clear hB0 hC2 hb2 qe
     go_wp2_with fail
     go_roundw
     case rel => exact ⟨1, (m : Int), a1, a2, .inr (.inl rfl), rfl, HB0, HC3, Lib.hid ⟨fun _ => ⟨by simp, by omega⟩, fun h => absurd h (by omega), fun h => absurd h (by omega)⟩⟩
     simp [RowKit.intOf]
 · have qp : wr.cell? ⟨gp, 1, none⟩ = some (.pointer (some ⟨R, 2, none⟩)) := (World.cell?_of_block (HC.out.block gp lp (by simp; omega))).trans (celR 1 HP.out)
   have qe : wr.cell? ⟨g, 1, none⟩ = some (.string (strB y1)) := (World.cell?_of_block (HC.out.block g lg (by simp; omega))).trans E1.out
   go_wp2_with fail
   refine (numGet_any y1 wr (HE.out wr HC.out) (by omega)).mono ?_
   rw [GotNum_defN, HN1.out]
   rintro e w2 ⟨rfl, hb2⟩
   have hB0 := (hb2.block R (by omega)).trans HRR0.out
   have hC2 := HC.out.trans (Chg.of_below hb2 (· ∈ [R]))
   cases n1 with
   | none =>
     have HB0 := Lib.hid hB0; clear hB0 hb2
     simp only [Option.getD_none, Option.isSome_none]
     go_wp2_with fail
     have hfls : (n0.isSome && (none : Option Nat).isSome && n2.isSome) = false := by simp
     rw [hfls]
     go_ret
     exact ⟨a0, a1, a2, rfl, HB0.out, hC2, fun h => by cases h⟩
   | some m =>
     simp only [Option.getD_some, Option.isSome_some]
     have fR := block_free hB0 2
     have cR := celR 2 hB0
     have HB0 := Lib.hid (block_set (o := 2) (v := .int .i64 (m : Int)) hB0)
     have HC3 := Lib.hid (Chg.setCell (p := ⟨R, 2, none⟩) hC2 (.inl (by simp)) (.int .i64 (m : Int)))
     clear hB0 hC2 hb2 qe
     go_wp2_with fail
     go_roundw
     case rel => exact ⟨2, a0, (m : Int), a2, .inr (.inr (.inl rfl)), rfl, HB0, HC3, Lib.hid ⟨fun _ => HD.out.1 (by omega), fun _ => ⟨by simp, by omega⟩, fun h => absurd h (by omega)⟩⟩
     simp [RowKit.intOf]
 · have qp : wr.cell? ⟨gp, 2, none⟩ = some (.pointer (some ⟨R, 3, none⟩)) := (World.cell?_of_block (HC.out.block gp lp (by simp; omega))).trans (celR 2 HP.out)
   have qe : wr.cell? ⟨g, 2, none⟩ = some (.string (strB y2)) := (World.cell?_of_block (HC.out.block g lg (by simp; omega))).trans E2.out
   go_wp2_with fail
   refine (numGet_any y2 wr (HE.out wr HC.out) (by omega)).mono ?_
   rw [GotNum_defN, HN2.out]
   rintro e w2 ⟨rfl, hb2⟩
   have hB0 := (hb2.block R (by omega)).trans HRR0.out
   have hC2 := HC.out.trans (Chg.of_below hb2 (· ∈ [R]))
   cases n2 with
   | none =>
     have HB0 := Lib.hid hB0; clear hB0 hb2
     simp only [Option.getD_none, Option.isSome_none]
     go_wp2_with fail
     have hfls : (n0.isSome && n1.isSome && (none : Option Nat).isSome) = false := by simp
     rw [hfls]
     go_ret
     exact ⟨a0, a1, a2, rfl, HB0.out, hC2, fun h => by cases h⟩
   | some m =>
     simp only [Option.getD_some, Option.isSome_some]
     have fR := block_free hB0 3
     have cR := celR 3 hB0
     have HB0 := Lib.hid (block_set (o := 3) (v := .int .i64 (m : Int)) hB0)
     have HC3 := Lib.hid (Chg.setCell (p := ⟨R, 3, none⟩) hC2 (.inl (by simp)) (.int .i64 (m : Int)))
     clear hB0 hC2 hb2 qe
     go_wp2_with fail
     go_roundw
     case rel => exact ⟨3, a0, a1, (m : Int), .inr (.inr (.inr (rfl))), rfl, HB0, HC3, Lib.hid ⟨fun _ => HD.out.1 (by omega), fun _ => HD.out.2.1 (by omega), fun _ => ⟨by simp, by omega⟩⟩⟩
     simp [RowKit.intOf]
 obtain ⟨h0, g0⟩ := HD.out.1 (by omega)
 obtain ⟨h1, g1⟩ := HD.out.2.1 (by omega)
 obtain ⟨h2, g2⟩ := HD.out.2.2 (by omega)
 have H0 := Lib.hid h0; have G0 := Lib.hid g0; have H1 := Lib.hid h1; have G1 := Lib.hid g1; have H2 := Lib.hid h2; have G2 := Lib.hid g2; clear h0 g0 h1 g1 h2 g2
 have htr : (n0.isSome && n1.isSome && n2.isSome) = true := by rw [H0.out, H1.out, H2.out]; rfl
 go_wp2_with fail
 rw [htr]
 go_ret
 exact ⟨a0, a1, a2, rfl, HRR0.out, HC.out, fun _ => ⟨by unfold rdN; rw [HN0.out, H0.out]; simp only [Option.getD_some]; have := G0.out; omega, by unfold rdN; rw [HN1.out, H1.out]; simp only [Option.getD_some]; have := G1.out; omega, by unfold rdN; rw [HN2.out, H2.out]; simp only [Option.getD_some]; have := G2.out; omega⟩⟩
def numsHR (R T : Nat) (v0 v2 v3 v4 v5 v6 v7 v8 v9 : Value) (y0 y1 : Str) (w : World) (e : Ending) (w' : World) : Prop :=
 ∃ (a0 a1 : Int), e = .returned (.bool ((numGet y0).isSome && (numGet y1).isSome)) ∧ w'.heap[R]? = some (.cells #[v0, .int .i64 a0, v2, v3, v4, v5, v6, v7, v8, v9, .int .i64 a1] T (0, 0)) ∧ Chg (· ∈ [R]) w w' ∧ (((numGet y0).isSome && (numGet y1).isSome) = true → a0 = rdN y0 ∧ a1 = rdN y1)
set_option maxRecDepth 100000 in
set_option maxHeartbeats 8000000 in
theorem numsH_any (g cp gp R T : Nat) (y0 y1 : Str) (b0 b1 : Int) (v0 v2 v3 v4 v5 v6 v7 v8 v9 : Value) (w : World) (he : ∀ W, Chg (· ∈ [R]) w W → Env W)
 (e0 : w.cell? ⟨g, 0, none⟩ = some (.string (strB y0)))
 (e1 : w.cell? ⟨g, 1, none⟩ = some (.string (strB y1)))
 (hp : w.heap[gp]? = some (.cells #[.pointer (some ⟨R, 1, none⟩), .pointer (some ⟨R, 10, none⟩)] 50 (0, 0)))
 (hR0 : w.heap[R]? = some (.cells #[v0, .int .i64 b0, v2, v3, v4, v5, v6, v7, v8, v9, .int .i64 b1] T (0, 0)))
 (hl0 : y0.length ≤ 1000000) (hl1 : y1.length ≤ 1000000) (hgR : g ≠ R) (hpR : gp ≠ R) :
 Calls Tryz.prog 15 #[.slice (some ⟨g, 0, none⟩) 2 cp, .slice (some ⟨gp, 0, none⟩) 2 2] w (numsHR R T v0 v2 v3 v4 v5 v6 v7 v8 v9 y0 y1 w) := by
 have lg := World.block_lt_of_cell? _ _ e0
 have lp := (Array.getElem?_eq_some_iff.1 hp).1
 have lR0 := (Array.getElem?_eq_some_iff.1 hR0).1
 obtain ⟨n0, hn0⟩ : ∃ n, n = numGet y0 := ⟨_, rfl⟩
 have HN0 := Lib.hid hn0.symm; clear hn0
 obtain ⟨n1, hn1⟩ : ∃ n, n = numGet y1 := ⟨_, rfl⟩
 have HN1 := Lib.hid hn1.symm; clear hn1
 have HE := Lib.hid he; have E0 := Lib.hid e0; have E1 := Lib.hid e1; have HP := Lib.hid hp; have HR0 := Lib.hid hR0
 clear he hp e0 e1 hR0
 unfold numsHR
 rw [HN0.out, HN1.out]
 go_enter Tryz.func15, Tryz.ntmps15
 go_wp2_with fail
 go_loopw [11] (fun i wr => ∃ (j a0 a1 : Int), (j = 0 ∨ j = 1 ∨ j = 2) ∧ i = .int .i64 j ∧ Hid (wr.heap[R]? = some (.cells #[v0, .int .i64 a0, v2, v3, v4, v5, v6, v7, v8, v9, .int .i64 a1] T (0, 0))) ∧ Hid (Chg (· ∈ [R]) w wr) ∧ Hid ((0 < j → n0 = some (a0).toNat ∧ 0 ≤ a0) ∧ (1 < j → n1 = some (a1).toNat ∧ 0 ≤ a1))) (fun i _ => 2 - (RowKit.intOf i).toNat)
 case atStart => exact ⟨0, b0, b1, .inl rfl, rfl, HR0, Lib.hid (Chg.refl _ _), Lib.hid ⟨fun h => absurd h (by omega), fun h => absurd h (by omega)⟩⟩
 obtain ⟨j, a0, a1, hj, rfl, HRR0, HC, HD⟩ := hrel
 have hsz := HC.out.size
 have lgr : g < wr.heap.size := by omega
 rcases hj with rfl | rfl | rfl
 · have qp : wr.cell? ⟨gp, 0, none⟩ = some (.pointer (some ⟨R, 1, none⟩)) := (World.cell?_of_block (HC.out.block gp lp (by simp; omega))).trans (celR 0 HP.out)
   have qe : wr.cell? ⟨g, 0, none⟩ = some (.string (strB y0)) := (World.cell?_of_block (HC.out.block g lg (by simp; omega))).trans E0.out
   go_wp2_with fail
   refine (numGet_any y0 wr (HE.out wr HC.out) (by omega)).mono ?_
   rw [GotNum_defN, HN0.out]
   rintro e w2 ⟨rfl, hb2⟩
   have hB0 := (hb2.block R (by omega)).trans HRR0.out
   have hC2 := HC.out.trans (Chg.of_below hb2 (· ∈ [R]))
   cases n0 with
   | none =>
     have HB0 := Lib.hid hB0; clear hB0 hb2
     simp only [Option.getD_none, Option.isSome_none]
     go_wp2_with fail
     have hfls : ((none : Option Nat).isSome && n1.isSome) = false := by simp
     rw [hfls]
     go_ret
     exact ⟨a0, a1, rfl, HB0.out, hC2, fun h => by cases h⟩
   | some m =>
     simp only [Option.getD_some, Option.isSome_some]
     have fR := block_free hB0 1
     have cR := celR 1 hB0
     have HB0 := Lib.hid (block_set (o := 1) (v := .int .i64 (m : Int)) hB0)
     have HC3 := Lib.hid (Chg.setCell (p := ⟨R, 1, none⟩) hC2 (.inl (by simp)) (.int .i64 (m : Int)))
     clear hB0 hC2 hb2 qe
     go_wp2_with fail
     go_roundw
     case rel => exact ⟨1, (m : Int), a1, .inr (.inl rfl), rfl, HB0, HC3, Lib.hid ⟨fun _ => ⟨by simp, by omega⟩, fun h => absurd h (by omega)⟩⟩
     simp [RowKit.intOf]
 · have qp : wr.cell? ⟨gp, 1, none⟩ = some (.pointer (some ⟨R, 10, none⟩)) := (World.cell?_of_block (HC.out.block gp lp (by simp; omega))).trans (celR 1 HP.out)
   have qe : wr.cell? ⟨g, 1, none⟩ = some (.string (strB y1)) := (World.cell?_of_block (HC.out.block g lg (by simp; omega))).trans E1.out
   go_wp2_with fail
   refine (numGet_any y1 wr (HE.out wr HC.out) (by omega)).mono ?_
   rw [GotNum_defN, HN1.out]
   rintro e w2 ⟨rfl, hb2⟩
   have hB0 := (hb2.block R (by omega)).trans HRR0.out
   have hC2 := HC.out.trans (Chg.of_below hb2 (· ∈ [R]))
   cases n1 with
   | none =>
     have HB0 := Lib.hid hB0; clear hB0 hb2
     simp only [Option.getD_none, Option.isSome_none]
     go_wp2_with fail
     have hfls : (n0.isSome && (none : Option Nat).isSome) = false := by simp
     rw [hfls]
     go_ret
     exact ⟨a0, a1, rfl, HB0.out, hC2, fun h => by cases h⟩
   | some m =>
     simp only [Option.getD_some, Option.isSome_some]
     have fR := block_free hB0 10
     have cR := celR 10 hB0
     have HB0 := Lib.hid (block_set (o := 10) (v := .int .i64 (m : Int)) hB0)
     have HC3 := Lib.hid (Chg.setCell (p := ⟨R, 10, none⟩) hC2 (.inl (by simp)) (.int .i64 (m : Int)))
     clear hB0 hC2 hb2 qe
     go_wp2_with fail
     go_roundw
     case rel => exact ⟨2, a0, (m : Int), .inr (.inr (rfl)), rfl, HB0, HC3, Lib.hid ⟨fun _ => HD.out.1 (by omega), fun _ => ⟨by simp, by omega⟩⟩⟩
     simp [RowKit.intOf]
 obtain ⟨h0, g0⟩ := HD.out.1 (by omega)
 obtain ⟨h1, g1⟩ := HD.out.2 (by omega)
 have H0 := Lib.hid h0; have G0 := Lib.hid g0; have H1 := Lib.hid h1; have G1 := Lib.hid g1; clear h0 g0 h1 g1
 have htr : (n0.isSome && n1.isSome) = true := by rw [H0.out, H1.out]; rfl
 go_wp2_with fail
 rw [htr]
 go_ret
 exact ⟨a0, a1, rfl, HRR0.out, HC.out, fun _ => ⟨by unfold rdN; rw [HN0.out, H0.out]; simp only [Option.getD_some]; have := G0.out; omega, by unfold rdN; rw [HN1.out, H1.out]; simp only [Option.getD_some]; have := G1.out; omega⟩⟩
def numsMR (R Q T U : Nat) (v0 v1 v3 : Value) (y0 y1 : Str) (w : World) (e : Ending) (w' : World) : Prop :=
 ∃ (a0 a1 : Int), e = .returned (.bool ((numGet y0).isSome && (numGet y1).isSome)) ∧ w'.heap[R]? = some (.cells #[v0, v1, .int .i64 a0, v3] T (0, 0)) ∧ w'.heap[Q]? = some (.cells #[.int .i64 a1] U (0, 0)) ∧ Chg (· ∈ [R, Q]) w w' ∧ (((numGet y0).isSome && (numGet y1).isSome) = true → a0 = rdN y0 ∧ a1 = rdN y1)
set_option maxRecDepth 100000 in
set_option maxHeartbeats 8000000 in
theorem numsM_any (g cp gp R Q T U : Nat) (y0 y1 : Str) (b0 b1 : Int) (v0 v1 v3 : Value) (w : World) (he : ∀ W, Chg (· ∈ [R, Q]) w W → Env W)
 (e0 : w.cell? ⟨g, 0, none⟩ = some (.string (strB y0)))
 (e1 : w.cell? ⟨g, 1, none⟩ = some (.string (strB y1)))
 (hp : w.heap[gp]? = some (.cells #[.pointer (some ⟨R, 2, none⟩), .pointer (some ⟨Q, 0, none⟩)] 50 (0, 0)))
 (hR0 : w.heap[R]? = some (.cells #[v0, v1, .int .i64 b0, v3] T (0, 0)))
 (hR1 : w.heap[Q]? = some (.cells #[.int .i64 b1] U (0, 0)))
 (hl0 : y0.length ≤ 1000000) (hl1 : y1.length ≤ 1000000) (hgR : g ≠ R) (hgQ : g ≠ Q) (hpR : gp ≠ R) (hpQ : gp ≠ Q) (hRR : R ≠ Q) :
 Calls Tryz.prog 15 #[.slice (some ⟨g, 0, none⟩) 2 cp, .slice (some ⟨gp, 0, none⟩) 2 2] w (numsMR R Q T U v0 v1 v3 y0 y1 w) := by
 have lg := World.block_lt_of_cell? _ _ e0
 have lp := (Array.getElem?_eq_some_iff.1 hp).1
 have lR0 := (Array.getElem?_eq_some_iff.1 hR0).1
 have lR1 := (Array.getElem?_eq_some_iff.1 hR1).1
 obtain ⟨n0, hn0⟩ : ∃ n, n = numGet y0 := ⟨_, rfl⟩
 have HN0 := Lib.hid hn0.symm; clear hn0
 obtain ⟨n1, hn1⟩ : ∃ n, n = numGet y1 := ⟨_, rfl⟩
 have HN1 := Lib.hid hn1.symm; clear hn1
 have HE := Lib.hid he; have E0 := Lib.hid e0; have E1 := Lib.hid e1; have HP := Lib.hid hp; have HR0 := Lib.hid hR0; have HR1 := Lib.hid hR1
 clear he hp e0 e1 hR0 hR1
 unfold numsMR
 rw [HN0.out, HN1.out]
 go_enter Tryz.func15, Tryz.ntmps15
 go_wp2_with fail
 go_loopw [11] (fun i wr => ∃ (j a0 a1 : Int), (j = 0 ∨ j = 1 ∨ j = 2) ∧ i = .int .i64 j ∧ Hid (wr.heap[R]? = some (.cells #[v0, v1, .int .i64 a0, v3] T (0, 0))) ∧ Hid (wr.heap[Q]? = some (.cells #[.int .i64 a1] U (0, 0))) ∧ Hid (Chg (· ∈ [R, Q]) w wr) ∧ Hid ((0 < j → n0 = some (a0).toNat ∧ 0 ≤ a0) ∧ (1 < j → n1 = some (a1).toNat ∧ 0 ≤ a1))) (fun i _ => 2 - (RowKit.intOf i).toNat)
 case atStart => exact ⟨0, b0, b1, .inl rfl, rfl, HR0, HR1, Lib.hid (Chg.refl _ _), Lib.hid ⟨fun h => absurd h (by omega), fun h => absurd h (by omega)⟩⟩
 obtain ⟨j, a0, a1, hj, rfl, HRR0, HRR1, HC, HD⟩ := hrel
 have hsz := HC.out.size
 have lgr : g < wr.heap.size := by omega
 rcases hj with rfl | rfl | rfl
 · have qp : wr.cell? ⟨gp, 0, none⟩ = some (.pointer (some ⟨R, 2, none⟩)) := (World.cell?_of_block (HC.out.block gp lp (by simp; omega))).trans (celR 0 HP.out)
   have qe : wr.cell? ⟨g, 0, none⟩ = some (.string (strB y0)) := (World.cell?_of_block (HC.out.block g lg (by simp; omega))).trans E0.out
   go_wp2_with fail
   refine (numGet_any y0 wr (HE.out wr HC.out) (by omega)).mono ?_
   rw [GotNum_defN, HN0.out]
   rintro e w2 ⟨rfl, hb2⟩
   have hB0 := (hb2.block R (by omega)).trans HRR0.out
   have hB1 := (hb2.block Q (by omega)).trans HRR1.out
   have hC2 := HC.out.trans (Chg.of_below hb2 (· ∈ [R, Q]))
   cases n0 with
   | none =>
     have HB0 := Lib.hid hB0; have HB1 := Lib.hid hB1; clear hB0 hB1 hb2
     simp only [Option.getD_none, Option.isSome_none]
     go_wp2_with fail
     have hfls : ((none : Option Nat).isSome && n1.isSome) = false := by simp
     rw [hfls]
     go_ret
     exact ⟨a0, a1, rfl, HB0.out, HB1.out, hC2, fun h => by cases h⟩
   | some m =>
     simp only [Option.getD_some, Option.isSome_some]
     have fR := block_free hB0 2
     have cR := celR 2 hB0
     have HB0 := Lib.hid (block_set (o := 2) (v := .int .i64 (m : Int)) hB0)
     have HB1 := Lib.hid ((heap_far (p := ⟨R, 2, none⟩) (v := .int .i64 (m : Int)) (by simp; omega)).trans hB1)
     have HC3 := Lib.hid (Chg.setCell (p := ⟨R, 2, none⟩) hC2 (.inl (by simp)) (.int .i64 (m : Int)))
     clear hB0 hB1 hC2 hb2 qe
     go_wp2_with fail
     go_roundw
     case rel => exact ⟨1, (m : Int), a1, .inr (.inl rfl), rfl, HB0, HB1, HC3, Lib.hid ⟨fun _ => ⟨by simp, by omega⟩, fun h => absurd h (by omega)⟩⟩
     simp [RowKit.intOf]
 · have qp : wr.cell? ⟨gp, 1, none⟩ = some (.pointer (some ⟨Q, 0, none⟩)) := (World.cell?_of_block (HC.out.block gp lp (by simp; omega))).trans (celR 1 HP.out)
   have qe : wr.cell? ⟨g, 1, none⟩ = some (.string (strB y1)) := (World.cell?_of_block (HC.out.block g lg (by simp; omega))).trans E1.out
   go_wp2_with fail
   refine (numGet_any y1 wr (HE.out wr HC.out) (by omega)).mono ?_
   rw [GotNum_defN, HN1.out]
   rintro e w2 ⟨rfl, hb2⟩
   have hB0 := (hb2.block R (by omega)).trans HRR0.out
   have hB1 := (hb2.block Q (by omega)).trans HRR1.out
   have hC2 := HC.out.trans (Chg.of_below hb2 (· ∈ [R, Q]))
   cases n1 with
   | none =>
     have HB0 := Lib.hid hB0; have HB1 := Lib.hid hB1; clear hB0 hB1 hb2
     simp only [Option.getD_none, Option.isSome_none]
     go_wp2_with fail
     have hfls : (n0.isSome && (none : Option Nat).isSome) = false := by simp
     rw [hfls]
     go_ret
     exact ⟨a0, a1, rfl, HB0.out, HB1.out, hC2, fun h => by cases h⟩
   | some m =>
     simp only [Option.getD_some, Option.isSome_some]
     have fR := block_free hB1 0
     have cR := celR 0 hB1
     have HB1 := Lib.hid (block_set (o := 0) (v := .int .i64 (m : Int)) hB1)
     have HB0 := Lib.hid ((heap_far (p := ⟨Q, 0, none⟩) (v := .int .i64 (m : Int)) (by simp; omega)).trans hB0)
     have HC3 := Lib.hid (Chg.setCell (p := ⟨Q, 0, none⟩) hC2 (.inl (by simp)) (.int .i64 (m : Int)))
     clear hB0 hB1 hC2 hb2 qe
     go_wp2_with fail
     go_roundw
     case rel => exact ⟨2, a0, (m : Int), .inr (.inr (rfl)), rfl, HB0, HB1, HC3, Lib.hid ⟨fun _ => HD.out.1 (by omega), fun _ => ⟨by simp, by omega⟩⟩⟩
     simp [RowKit.intOf]
 obtain ⟨h0, g0⟩ := HD.out.1 (by omega)
 obtain ⟨h1, g1⟩ := HD.out.2 (by omega)
 have H0 := Lib.hid h0; have G0 := Lib.hid g0; have H1 := Lib.hid h1; have G1 := Lib.hid g1; clear h0 g0 h1 g1
 have htr : (n0.isSome && n1.isSome) = true := by rw [H0.out, H1.out]; rfl
 go_wp2_with fail
 rw [htr]
 go_ret
 exact ⟨a0, a1, rfl, HRR0.out, HRR1.out, HC.out, fun _ => ⟨by unfold rdN; rw [HN0.out, H0.out]; simp only [Option.getD_some]; have := G0.out; omega, by unfold rdN; rw [HN1.out, H1.out]; simp only [Option.getD_some]; have := G1.out; omega⟩⟩
end Go.Proofs.YtlacpcdbgimnmaaGreatDoor
