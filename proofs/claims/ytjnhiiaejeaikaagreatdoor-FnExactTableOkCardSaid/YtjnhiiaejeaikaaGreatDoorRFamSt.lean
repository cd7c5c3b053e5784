/- eq, to and sz at stores. No condition. -/
import Derived.Test.YtjnhiiaejeaikaaGreatDoorRFamEq
import Derived.Test.YtjnhiiaejeaikaaGreatDoorRTableOk
import Derived.Test.YtjnhiiaejeaikaaGreatDoorChecked
set_option linter.unnecessarySimpa false
set_option linter.unusedSimpArgs false
set_option linter.unusedVariables false
namespace Go.Proofs.YtjnhiiaejeaikaaGreatDoor
open Go.RowKit
def sizeSpace (x : SpaceD) : Nat := x.1.length + x.2.length
def sizeStore (x : StoreD) : Nat := x.1.length + (x.1.map ByteArray.size).sum + x.2.1.1.length + x.2.1.2.length + x.2.2.2.1.length + x.2.2.2.2.2.1.length
theorem info_StringS : (Tryz.prog.info? 9).map (fun i => (i.zero, i.size, i.bytes)) = some (some (.string ByteArray.empty), 1, 16) := by kernel_rfl
theorem make_StringS (n : Nat) (hn : n ≤ 1048576) (w : World) :
 (Instr.makeSlice 22 (.int .i64 (n : Int)) (.int .i64 (n : Int))).run Tryz.prog w = .ok (.slice (some ⟨w.heap.size, 0, none⟩) n n) (w.alloc (.cells (madeCells #[.string ByteArray.empty] (n)) 9)) := by
 obtain ⟨i, hi, hz, hs, hb⟩ := info_parts info_StringS
 have hr := run_make (P := Tryz.prog) w 22 9 i (.string ByteArray.empty) Tryz.underlying22 hi hz .i64 .i64 n n (by omega) (by omega) (by rw [hb]; omega) (by omega)
 simp only [Int.toNat_natCast, hs, Nat.mul_one] at hr
 exact hr
set_option maxRecDepth 100000 in
set_option maxHeartbeats 2000000 in
theorem toStringS_any (A : Option Addr) (n c : Nat) (xs : List ByteArray) (w : World) (lo hi : Nat) (h : SliceR StrR 1 w lo hi A n c xs) (hz : xs.length + (xs.map ByteArray.size).sum ≤ 1048576) :
 Calls Tryz.prog 28 #[.slice A n c] w (NewSl StrR 1 w n xs) := by
 have hl := Lib.hid h.len
 have hn : n ≤ 1048576 := by have := h.len; omega
 have HZ := Lib.hid hz
 clear hz
 have hmk := make_StringS n hn w
 have H := Lib.hid h
 clear h
 go_enter Tryz.func28, Tryz.ntmps28
 go_wp2_with fail
 have hrow : ∃ cur, (w.alloc (.cells (madeCells #[.string ByteArray.empty] (n)) 9)).heap[w.heap.size]? = some (.cells cur 9 (0, 0)) ∧ cur.size = n * 1 := ⟨_, heap_alloc_new w _, by rw [size_madeCells]; omega⟩
 generalize hW : w.alloc (.cells (madeCells #[.string ByteArray.empty] (n)) 9) = w1 at *
 have hb1 : Below w.heap.size w w1 := by rw [← hW]; exact bel1
 have hs1 : w.heap.size < w1.heap.size := by rw [← hW]; simp
 clear hW hmk
 have rel0 : ∃ cur, w1.heap[w.heap.size]? = some (.cells cur 9 (0, 0)) ∧ cur.size = n * 1 ∧ Hid (RowR StrR 1 w1 (w.heap.size + 1) w1.heap.size cur 0 xs) := by
  obtain ⟨cur, h1, h2⟩ := hrow
  exact ⟨cur, h1, h2, Lib.hid (fun j x hj => absurd hj (by omega))⟩
 clear hrow
 go_loopw [4] (fun i wr => ∃ k : Nat, k ≤ n ∧ i = .int .i64 k ∧ Below w.heap.size w wr ∧ w.heap.size < wr.heap.size ∧ ∃ cur, wr.heap[w.heap.size]? = some (.cells cur 9 (0, 0)) ∧ cur.size = n * 1 ∧ Hid (RowR StrR 1 wr (w.heap.size + 1) wr.heap.size cur k xs)) (fun i _ => n - (intOf i).toNat)
 case atStart => exact ⟨0, Nat.zero_le _, rfl, hb1, hs1, rel0⟩
 clear rel0 hb1 hs1
 obtain ⟨k, hk, rfl, hB, hS, cur, hg, hcs, HR⟩ := hrel
 by_cases hlt : k < n
 · obtain ⟨x, hx⟩ : ∃ x, xs[k]? = some x := ⟨xs[k]'(by rw [hl.out]; exact hlt), List.getElem?_eq_getElem _⟩
   obtain ⟨b, off, rfl, _, _, bl, hc⟩ := (SliceR.below H.out hB (StrR.below hB H.out.lo_le)).at_ (by omega)
   obtain ⟨cs, hcl, hcc, hr⟩ := hc k x hx
   clear hc
   have hhi : hi ≤ wr.heap.size := Nat.le_trans H.out.lo_le hB.size
   obtain ⟨rfl, hm⟩ := hr
   have q0 := hcc 0 _ rfl
   simp only [Nat.add_zero, Nat.mul_one] at q0
   clear hcc hcl
   have k0 : (0 : Int) ≤ (k : Int) := by omega
   have k1 : (k : Int) < (n : Int) := by omega
   have HX := Lib.hid hx
   clear hx
   have HG := Lib.hid hg
   have hkn : k * 1 + 1 ≤ cur.size := by rw [hcs]; omega
   have HC := Lib.hid hcs
   clear hg hcs
   have hg2 := HG.out
   have hs2 := hS
   have hB2 := hB
   have t0 : wr.cell? ⟨w.heap.size, k, none⟩ = some _ := block_cell hg2 (by omega)
   have f0 : wr.frozen? ⟨w.heap.size, k, none⟩ = false := block_free hg2 _
   have HG2 := Lib.hid hg2
   clear hg2
   generalize cur[k]'_ = z0 at t0
   go_wp2_with fail
   go_roundw
   case rel =>
    have hput : putAt cur (k * 1) [.string x] = (cur.setIfInBounds (k) (.string x)) := by simp only [putAt, Nat.add_assoc, Nat.reduceAdd, Nat.mul_one]
    refine ⟨k + 1, by omega, by go_num, Below.setCell (p := ⟨w.heap.size, _, none⟩) (hB2) (Nat.le_refl _) _, by simpa using hs2, (cur.setIfInBounds (k) (.string x)), block_set (HG2.out), (by rw [← hput, putAt_size]; exact HC.out), Lib.hid ?_⟩
    rw [← hput]
    refine RowR.step (n := n) HR.out HX.out rfl HC.out hlt ?_ ?_
    · exact ⟨rfl, hm⟩
    exact fun _ _ h => h
   simp [intOf]; omega
 obtain rfl : k = n := by omega
 have hfin := RowR.slice (lo := w.heap.size) (hi := wr.heap.size) (c := k) (fun j x hj hx => (HR.out j x hj hx).imp fun cs h => ⟨h.1, h.2.1, StrR.wide (Nat.le_succ _) (Nat.le_refl _) (Nat.le_refl _) _ _ h.2.2⟩) hl.out (by unfold maxLen; omega) (Nat.le_refl _) hg (Nat.le_refl _) hS (Nat.le_refl _)
 have HF := Lib.hid hfin
 clear hfin HR hg hcs
 go_wp2_with fail
 go_ret
 exact ⟨_, _, rfl, HF.out, hB⟩
set_option maxRecDepth 100000 in
set_option maxHeartbeats 2000000 in
theorem szStringS_any (A : Option Addr) (n c : Nat) (xs : List ByteArray) (w : World) (lo hi : Nat) (left : Int) (h : SliceR StrR 1 w lo hi A n c xs) (h0 : 0 ≤ left) (h1 : left ≤ 1048576) :
 Calls Tryz.prog 24 #[.slice A n c, .int .i64 left] w (SzPost (xs.length + (xs.map ByteArray.size).sum) left w) := by
 have hl := h.len
 have hn := h.max
 have HL := Lib.hid hl
 have H := Lib.hid h
 clear h hl
 go_enter Tryz.func24, Tryz.ntmps24
 by_cases q1 : left - (n : Int) < 0
 · go_wp2_with fail
   go_ret
   exact ⟨-1, rfl, by omega, by omega, fun h => by omega, Below.refl _ _⟩
 go_wp2_with fail
 go_loopw [1, 5] (fun s i wr => ∃ (k : Nat) (l : Int), k ≤ n ∧ i = .int .i64 k ∧ s = .int .i64 l ∧ 0 ≤ l ∧ l ≤ left ∧ Hid (l + (((xs.take k).map ByteArray.size).sum : Nat) ≤ left - n) ∧ Below w.heap.size w wr) (fun _ i _ => n - (intOf i).toNat)
 case atStart => exact ⟨0, left - (n : Int), Nat.zero_le _, rfl, rfl, by omega, by omega, Lib.hid (by simp), Below.refl _ _⟩
 obtain ⟨k, l, hk, rfl, rfl, l0, l1, HS, hB⟩ := hrel
 by_cases hlt : k < n
 · obtain ⟨x, hx⟩ : ∃ x, xs[k]? = some x := ⟨xs[k]'(by rw [HL.out]; exact hlt), List.getElem?_eq_getElem _⟩
   obtain ⟨b, off, rfl, _, _, bl, hc⟩ := (SliceR.below H.out hB (StrR.below hB H.out.lo_le)).at_ (by omega)
   obtain ⟨cs, hcl, hcc, hr⟩ := hc k x hx
   clear hc
   have hss := sum_take ByteArray.size hx
   have HSS := Lib.hid hss
   clear hss hx
   obtain ⟨rfl, hm⟩ := hr
   have hm : x.size ≤ 9223372036854775807 := by unfold maxLen at hm; exact hm
   have q_0 := hcc 0 _ rfl
   simp only [Nat.add_zero, Nat.mul_one] at q_0
   clear hcc hcl
   have k0 : (0 : Int) ≤ (k : Int) := by omega
   have k1 : (k : Int) < (n : Int) := by omega
   by_cases q2 : l - (x.size : Int) < 0
   · go_wp2_with fail
     go_ret
     exact ⟨-1, rfl, by omega, by omega, fun h => by omega, hB⟩
   have HN : Hid (l - (x.size : Int) + (((xs.take (k + 1)).map ByteArray.size).sum : Nat) ≤ left - n) := Lib.hid (by have b := HS.out; have c := HSS.out; rw [c]; omega)
   go_wp2_with fail
   go_roundw
   case rel => exact ⟨k + 1, l - (x.size : Int), by omega, by go_num, rfl, by omega, by omega, HN, hB⟩
   simp [intOf]; omega
 obtain rfl : k = n := by omega
 have hfin := HS.out
 rw [List.take_of_length_le (by have := HL.out; omega)] at hfin
 have HF := Lib.hid hfin; clear hfin
 go_wp2_with fail
 go_ret
 exact ⟨l, rfl, by omega, by omega, fun _ => by have := HF.out; have := HL.out; omega, hB⟩
set_option maxHeartbeats 1000000 in
theorem eqSpace_yes (cs cs' : List Value) (x : SpaceD) (w : World) (lo hi lo' hi' : Nat) (h : SpaceR w lo hi cs x) (h' : SpaceR w lo' hi' cs' x) :
 Calls Tryz.prog 34 #[.agg cs.toArray, .agg cs'.toArray] w fun e w' => e = .returned (.bool true) ∧ Below w.heap.size w w' := by
 obtain ⟨refs_, last_⟩ := x
 obtain ⟨Aa0, na0, ca0, Aa1, na1, ca1, rfl, ha0, ha1⟩ := h
 obtain ⟨Ab0, nb0, cb0, Ab1, nb1, cb1, rfl, hb0, hb1⟩ := h'
 show Calls Tryz.prog 34 #[.agg #[.slice Aa0 na0 ca0, .slice Aa1 na1 ca1], .agg #[.slice Ab0 nb0 cb0, .slice Ab1 nb1 cb1]] w _
 have Hha0 := Lib.hid ha0
 clear ha0
 have Hha1 := Lib.hid ha1
 clear ha1
 have Hhb0 := Lib.hid hb0
 clear hb0
 have Hhb1 := Lib.hid hb1
 clear hb1
 go_enter Tryz.func34, Tryz.ntmps34
 go_wp2_with fail
 refine (eqIntS_yes _ _ _ _ _ _ refs_ _ _ _ _ _ (SliceR.below Hha0.out bel2 (IntR.below bel2 Hha0.out.lo_le)) (SliceR.below Hhb0.out bel2 (IntR.below bel2 Hhb0.out.lo_le))).mono ?_
 rintro e w1 ⟨rfl, hb1⟩
 have X1 : Below w.heap.size w w1 := bel2.trans (hb1.mono (by first | exact bel2.size | (simp <;> omega)))
 have c1_0_0 : w1.cell? ⟨w.heap.size, 0, none⟩ = some (.slice Aa0 na0 ca0) := (hb1.cell (by simp <;> omega)).trans (by simp [go_sem])
 have c1_0_1 : w1.cell? ⟨w.heap.size, 1, none⟩ = some (.slice Aa1 na1 ca1) := (hb1.cell (by simp <;> omega)).trans (by simp [go_sem])
 have c1_1_0 : w1.cell? ⟨w.heap.size + 1, 0, none⟩ = some (.slice Ab0 nb0 cb0) := (hb1.cell (by simp <;> omega)).trans (by simp [go_sem])
 have c1_1_1 : w1.cell? ⟨w.heap.size + 1, 1, none⟩ = some (.slice Ab1 nb1 cb1) := (hb1.cell (by simp <;> omega)).trans (by simp [go_sem])
 clear hb1
 go_wp2_with fail
 refine (eqIntS_yes _ _ _ _ _ _ last_ _ _ _ _ _ (SliceR.below Hha1.out X1 (IntR.below X1 Hha1.out.lo_le)) (SliceR.below Hhb1.out X1 (IntR.below X1 Hhb1.out.lo_le))).mono ?_
 rintro e w2 ⟨rfl, hb2⟩
 have X2 : Below w.heap.size w w2 := X1.trans (hb2.mono (by first | exact X1.size | (simp <;> omega)))
 have c2_0_0 := (hb2.cell (World.block_lt_of_cell? _ _ c1_0_0)).trans c1_0_0
 have c2_0_1 := (hb2.cell (World.block_lt_of_cell? _ _ c1_0_1)).trans c1_0_1
 have c2_1_0 := (hb2.cell (World.block_lt_of_cell? _ _ c1_1_0)).trans c1_1_0
 have c2_1_1 := (hb2.cell (World.block_lt_of_cell? _ _ c1_1_1)).trans c1_1_1
 clear c1_0_0 c1_0_1 c1_1_0 c1_1_1
 clear hb2 X1
 go_wp2_with fail
 go_ret
 exact ⟨rfl, X2⟩
set_option maxRecDepth 100000 in
set_option maxHeartbeats 2000000 in
theorem toSpaceR_any (cs : List Value) (x : SpaceD) (w : World) (lo hi : Nat) (h : SpaceR w lo hi cs x) (hz : sizeSpace x ≤ 1048576) :
 Calls Tryz.prog 29 #[.agg cs.toArray] w (NewR SpaceR w x) := by
 obtain ⟨refs_, last_⟩ := x
 obtain ⟨Aa0, na0, ca0, Aa1, na1, ca1, rfl, ha0, ha1⟩ := h
 show Calls Tryz.prog 29 #[.agg #[.slice Aa0 na0 ca0, .slice Aa1 na1 ca1]] w _
 have Hha0 := Lib.hid ha0
 clear ha0
 have Hha1 := Lib.hid ha1
 clear ha1
 have hz : refs_.length + last_.length ≤ 1048576 := hz
 have HZ := Lib.hid hz
 have hl0 := Hha0.out.len
 have hl1 := Hha1.out.len
 go_enter Tryz.func29, Tryz.ntmps29
 go_wp2_with fail
 have l1 : w.heap.size ≤ w.heap.size + 1 := Nat.le_add_right _ _
 have l2 : w.heap.size ≤ w.heap.size + 1 + 1 := by omega
 have m1 : w.heap.size + 1 < w.heap.size + 3 := by omega
 have m2 : w.heap.size + 1 + 1 < w.heap.size + 3 := by omega
 have n02 : w.heap.size ≠ w.heap.size + 1 + 1 := by omega
 have n12 : w.heap.size + 1 ≠ w.heap.size + 1 + 1 := by omega
 have Y1 : ∀ W, Below w.heap.size w W → SliceR IntR 1 W lo hi Aa0 na0 ca0 refs_ := fun W hb => SliceR.below Hha0.out hb (IntR.below hb Hha0.out.lo_le)
 refine ((toIntS_new _ _ _ refs_ _ lo hi (Y1 _ (bel3)) (by have := HZ.out; have := Hha0.out.len; clear HZ; omega)).mono ?_)
 rintro e w1 ⟨B1, d1, rfl, S1, hb1⟩
 clear Y1
 have X1 : Below w.heap.size w w1 := Below.trans (bel3) (hb1.mono (by simp <;> omega))
 have b1_0 : w1.heap[w.heap.size]? = some (.cells #[.slice Aa0 na0 ca0, .slice Aa1 na1 ca1] 25 (0, 0)) := (hb1.block _ (by simp <;> omega)).trans al3_0
 have b1_1 : w1.heap[w.heap.size + 1]? = some (.cells #[.slice none 0 0, .slice none 0 0] 36 (0, 0)) := (hb1.block _ (by simp <;> omega)).trans al3_1
 have b1_2 : w1.heap[w.heap.size + 1 + 1]? = some (.cells #[.slice none 0 0, .slice none 0 0] 36 (0, 0)) := (hb1.block _ (by simp <;> omega)).trans al3_2
 have z1 : w.heap.size + 3 ≤ w1.heap.size := by have := hb1.size; simp at this; omega
 have S1 := SliceR.wide (lo' := w.heap.size + 3) (hi' := w1.heap.size) S1 (by simp [World.setCell] <;> omega) (Nat.le_refl _) (Nat.le_refl _) (IntR.wide (by simp [World.setCell] <;> omega) (Nat.le_refl _) (Nat.le_refl _))
 have c1_0_0 := celR 0 b1_0
 have c1_0_1 := celR 1 b1_0
 have c1_1_0 := celR 0 b1_1
 have c1_1_1 := celR 1 b1_1
 have f1_1_0 := block_free b1_1 0
 have f1_1_1 := block_free b1_1 1
 have c1_2_0 := celR 0 b1_2
 have c1_2_1 := celR 1 b1_2
 have f1_2_0 := block_free b1_2 0
 have f1_2_1 := block_free b1_2 1
 have HB1_0 := Lib.hid b1_0
 have HB1_1 := Lib.hid b1_1
 have HB1_2 := Lib.hid b1_2
 clear b1_0 b1_1 b1_2 hb1
 have T1 := Lib.hid S1; clear S1
 go_wp2_with fail
 have b1_0 := HB1_0.out
 have b1_1 := HB1_1.out
 have b1_2 := HB1_2.out
 have S1 := T1.out; clear T1
 have Y2 : ∀ W, Below w.heap.size w W → SliceR IntR 1 W lo hi Aa1 na1 ca1 last_ := fun W hb => SliceR.below Hha1.out hb (IntR.below hb Hha1.out.lo_le)
 refine ((toIntS_new _ _ _ last_ _ lo hi (Y2 _ ((Below.setCell (p := ⟨w.heap.size + 1 + 1, 0, none⟩) X1 l2 _))) (by have := HZ.out; have := Hha1.out.len; clear HZ; omega)).mono ?_)
 rintro e w2 ⟨B2, d2, rfl, S2, hb2⟩
 clear Y2
 have X2 : Below w.heap.size w w2 := Below.trans ((Below.setCell (p := ⟨w.heap.size + 1 + 1, 0, none⟩) X1 l2 _)) (hb2.mono (by simp <;> omega))
 have b2_0 : w2.heap[w.heap.size]? = some (.cells #[.slice Aa0 na0 ca0, .slice Aa1 na1 ca1] 25 (0, 0)) := (hb2.block _ (by simp <;> omega)).trans ((heap_far n02).trans (b1_0))
 have b2_1 : w2.heap[w.heap.size + 1]? = some (.cells #[.slice none 0 0, .slice none 0 0] 36 (0, 0)) := (hb2.block _ (by simp <;> omega)).trans ((heap_far n12).trans (b1_1))
 have b2_2 : w2.heap[w.heap.size + 1 + 1]? = some (.cells #[.slice B1 na0 d1, .slice none 0 0] 36 (0, 0)) := (hb2.block _ (by simp <;> omega)).trans ((block_set (b1_2)).trans (by rfl))
 have z2 : w.heap.size + 3 ≤ w2.heap.size := by have := hb2.size; simp [World.setCell] at this; omega
 have S1 := SliceR.far S1 (Step.setCell (p := ⟨w.heap.size + 1 + 1, 0, none⟩) (Step.refl _ _) m2 _) hb2 (fun a b => IntR.keep a b) (fun a b c => IntR.wide a b c)
 have S2 := SliceR.wide (lo' := w.heap.size + 3) (hi' := w2.heap.size) S2 (by simp [World.setCell] <;> omega) (Nat.le_refl _) (Nat.le_refl _) (IntR.wide (by simp [World.setCell] <;> omega) (Nat.le_refl _) (Nat.le_refl _))
 clear c1_0_0 c1_0_1 c1_1_0 c1_1_1 f1_1_0 f1_1_1 c1_2_0 c1_2_1 f1_2_0 f1_2_1
 have c2_0_0 := celR 0 b2_0
 have c2_0_1 := celR 1 b2_0
 have c2_1_0 := celR 0 b2_1
 have c2_1_1 := celR 1 b2_1
 have f2_1_0 := block_free b2_1 0
 have f2_1_1 := block_free b2_1 1
 have c2_2_0 := celR 0 b2_2
 have c2_2_1 := celR 1 b2_2
 have f2_2_0 := block_free b2_2 0
 have f2_2_1 := block_free b2_2 1
 have HB2_0 := Lib.hid b2_0
 have HB2_1 := Lib.hid b2_1
 have HB2_2 := Lib.hid b2_2
 clear b2_0 b2_1 b2_2 HB1_0 HB1_1 HB1_2 hb2 X1 z1
 have T1 := Lib.hid S1; clear S1 ; have T2 := Lib.hid S2; clear S2
 go_wp2_with fail
 have b2_0 := HB2_0.out
 have b2_1 := HB2_1.out
 have b2_2 := HB2_2.out
 have S1 := T1.out; clear T1
 have S2 := T2.out; clear T2
 exact bodyPost_ret (v := .agg #[.slice B1 na0 d1, .slice B2 na1 d2]) (by simp [results, Tryz.results29, go_sem, c2_1_0, f2_1_0, c2_1_1, f2_1_1]) rfl ⟨[.slice B1 na0 d1, .slice B2 na1 d2], rfl, ⟨_, _, _, _, _, _, rfl, (SliceR.far S1 (Step.setCell (p := ⟨w.heap.size + 1, 1, none⟩) (Step.setCell (p := ⟨w.heap.size + 1, 0, none⟩) (Step.setCell (p := ⟨w.heap.size + 1 + 1, 1, none⟩) (Step.refl _ _) m2 _) m1 _) m1 _) (Below.refl _ _) (fun a b => IntR.keep a b) (fun a b c => IntR.wide a b c)).wide (by omega) (Nat.le_refl _) (Nat.le_refl _) (IntR.wide (by omega) (Nat.le_refl _) (Nat.le_refl _)), (SliceR.far S2 (Step.setCell (p := ⟨w.heap.size + 1, 1, none⟩) (Step.setCell (p := ⟨w.heap.size + 1, 0, none⟩) (Step.setCell (p := ⟨w.heap.size + 1 + 1, 1, none⟩) (Step.refl _ _) m2 _) m1 _) m1 _) (Below.refl _ _) (fun a b => IntR.keep a b) (fun a b c => IntR.wide a b c)).wide (by omega) (Nat.le_refl _) (Nat.le_refl _) (IntR.wide (by omega) (Nat.le_refl _) (Nat.le_refl _))⟩, (Below.setCell (p := ⟨w.heap.size + 1, 1, none⟩) (Below.setCell (p := ⟨w.heap.size + 1, 0, none⟩) (Below.setCell (p := ⟨w.heap.size + 1 + 1, 1, none⟩) X2 l2 _) l1 _) l1 _)⟩
set_option maxRecDepth 100000 in
set_option maxHeartbeats 2000000 in
theorem szSpaceR_any (cs : List Value) (x : SpaceD) (w : World) (lo hi : Nat) (left : Int) (h : SpaceR w lo hi cs x) (h0 : 0 ≤ left) (h1 : left ≤ 1048576) :
 Calls Tryz.prog 25 #[.agg cs.toArray, .int .i64 left] w (SzPost (sizeSpace x) left w) := by
 obtain ⟨refs_, last_⟩ := x
 obtain ⟨Aa0, na0, ca0, Aa1, na1, ca1, rfl, ha0, ha1⟩ := h
 show Calls Tryz.prog 25 #[.agg #[.slice Aa0 na0 ca0, .slice Aa1 na1 ca1], .int .i64 left] w _
 have Hha0 := Lib.hid ha0
 have Nha0 := Hha0.out.max
 clear ha0
 have Hha1 := Lib.hid ha1
 have Nha1 := Hha1.out.max
 clear ha1
 go_enter Tryz.func25, Tryz.ntmps25
 go_wp2_with fail
 refine (szIntSR_any _ _ _ refs_ _ lo hi (left) (SliceR.below Hha0.out bel1 (IntR.below bel1 Hha0.out.lo_le)) (by omega) (by omega)).mono ?_
 rintro e w1 ⟨r1, rfl, p1, o1, s1, hb1⟩
 have P1 := Lib.hid s1; clear s1
 have X1 : Below w.heap.size w w1 := Below.trans bel1 (hb1.mono (by first | exact bel1.size | (simp <;> omega)))
 have c1_0 : w1.cell? ⟨w.heap.size, 0, none⟩ = some (.slice Aa0 na0 ca0) := (hb1.cell (by simp)).trans (by simp [go_sem])
 have c1_1 : w1.cell? ⟨w.heap.size, 1, none⟩ = some (.slice Aa1 na1 ca1) := (hb1.cell (by simp)).trans (by simp [go_sem])
 clear hb1
 by_cases q1 : r1 < 0
 · go_wp2_with fail
   go_ret
   exact ⟨-1, rfl, by omega, by omega, fun h => by omega, X1⟩
 go_wp2_with fail
 refine (szIntSR_any _ _ _ last_ _ lo hi (r1) (SliceR.below Hha1.out X1 (IntR.below X1 Hha1.out.lo_le)) (by omega) (by omega)).mono ?_
 rintro e w2 ⟨r2, rfl, p2, o2, s2, hb2⟩
 have P2 := Lib.hid s2; clear s2
 have X2 : Below w.heap.size w w2 := Below.trans X1 (hb2.mono (by first | exact X1.size | (simp <;> omega)))
 have c2_0 := (hb2.cell (World.block_lt_of_cell? _ _ c1_0)).trans c1_0
 have c2_1 := (hb2.cell (World.block_lt_of_cell? _ _ c1_1)).trans c1_1
 clear c1_0 c1_1
 clear hb2
 by_cases q2 : r2 < 0
 · go_wp2_with fail
   go_ret
   exact ⟨-1, rfl, by omega, by omega, fun h => by omega, X2⟩
 go_wp2_with fail
 go_ret
 have P1 := P1.out (by omega)
 have P2 := P2.out (by omega)
 exact ⟨r2, rfl, by omega, by omega, fun _ => by show ((refs_.length + last_.length : Nat) : Int) ≤ _; omega, X2⟩
set_option maxHeartbeats 1000000 in
theorem eqStore_yes (cs cs' : List Value) (x : StoreD) (w : World) (lo hi lo' hi' : Nat) (h : StoreR w lo hi cs x) (h' : StoreR w lo' hi' cs' x) :
 Calls Tryz.prog 13 #[.agg cs.toArray, .agg cs'.toArray] w fun e w' => e = .returned (.bool true) ∧ Below w.heap.size w w' := by
 obtain ⟨rows_, ⟨space_refs_, space_last_⟩, txg_, gone_, keep_, dead_, same_⟩ := x
 obtain ⟨Aa0, na0, ca0, Aa1, na1, ca1, Aa2, na2, ca2, Aa3, na3, ca3, Aa4, na4, ca4, rfl, ha0, ha1, ha2, ha3, ha4⟩ := h
 obtain ⟨Ab0, nb0, cb0, Ab1, nb1, cb1, Ab2, nb2, cb2, Ab3, nb3, cb3, Ab4, nb4, cb4, rfl, hb0, hb1, hb2, hb3, hb4⟩ := h'
 show Calls Tryz.prog 13 #[.agg #[.slice Aa0 na0 ca0, .slice Aa1 na1 ca1, .slice Aa2 na2 ca2, .int .i64 txg_, .slice Aa3 na3 ca3, .int .i64 keep_, .slice Aa4 na4 ca4, .bool same_], .agg #[.slice Ab0 nb0 cb0, .slice Ab1 nb1 cb1, .slice Ab2 nb2 cb2, .int .i64 txg_, .slice Ab3 nb3 cb3, .int .i64 keep_, .slice Ab4 nb4 cb4, .bool same_]] w _
 have Hha0 := Lib.hid ha0
 clear ha0
 have Hha1 := Lib.hid ha1
 clear ha1
 have Hha2 := Lib.hid ha2
 clear ha2
 have Hha3 := Lib.hid ha3
 clear ha3
 have Hha4 := Lib.hid ha4
 clear ha4
 have Hhb0 := Lib.hid hb0
 clear hb0
 have Hhb1 := Lib.hid hb1
 clear hb1
 have Hhb2 := Lib.hid hb2
 clear hb2
 have Hhb3 := Lib.hid hb3
 clear hb3
 have Hhb4 := Lib.hid hb4
 clear hb4
 go_enter Tryz.func13, Tryz.ntmps13
 go_wp2_with fail
 refine (eqStringS_yes _ _ _ _ _ _ rows_ _ _ _ _ _ (SliceR.below Hha0.out bel2 (StrR.below bel2 Hha0.out.lo_le)) (SliceR.below Hhb0.out bel2 (StrR.below bel2 Hhb0.out.lo_le))).mono ?_
 rintro e w1 ⟨rfl, hb1⟩
 have X1 : Below w.heap.size w w1 := bel2.trans (hb1.mono (by first | exact bel2.size | (simp <;> omega)))
 have c1_0_0 : w1.cell? ⟨w.heap.size, 0, none⟩ = some (.slice Aa0 na0 ca0) := (hb1.cell (by simp <;> omega)).trans (by simp [go_sem])
 have c1_0_1 : w1.cell? ⟨w.heap.size, 1, none⟩ = some (.slice Aa1 na1 ca1) := (hb1.cell (by simp <;> omega)).trans (by simp [go_sem])
 have c1_0_2 : w1.cell? ⟨w.heap.size, 2, none⟩ = some (.slice Aa2 na2 ca2) := (hb1.cell (by simp <;> omega)).trans (by simp [go_sem])
 have c1_0_3 : w1.cell? ⟨w.heap.size, 3, none⟩ = some (.int .i64 txg_) := (hb1.cell (by simp <;> omega)).trans (by simp [go_sem])
 have c1_0_4 : w1.cell? ⟨w.heap.size, 4, none⟩ = some (.slice Aa3 na3 ca3) := (hb1.cell (by simp <;> omega)).trans (by simp [go_sem])
 have c1_0_5 : w1.cell? ⟨w.heap.size, 5, none⟩ = some (.int .i64 keep_) := (hb1.cell (by simp <;> omega)).trans (by simp [go_sem])
 have c1_0_6 : w1.cell? ⟨w.heap.size, 6, none⟩ = some (.slice Aa4 na4 ca4) := (hb1.cell (by simp <;> omega)).trans (by simp [go_sem])
 have c1_0_7 : w1.cell? ⟨w.heap.size, 7, none⟩ = some (.bool same_) := (hb1.cell (by simp <;> omega)).trans (by simp [go_sem])
 have c1_1_0 : w1.cell? ⟨w.heap.size + 1, 0, none⟩ = some (.slice Ab0 nb0 cb0) := (hb1.cell (by simp <;> omega)).trans (by simp [go_sem])
 have c1_1_1 : w1.cell? ⟨w.heap.size + 1, 1, none⟩ = some (.slice Ab1 nb1 cb1) := (hb1.cell (by simp <;> omega)).trans (by simp [go_sem])
 have c1_1_2 : w1.cell? ⟨w.heap.size + 1, 2, none⟩ = some (.slice Ab2 nb2 cb2) := (hb1.cell (by simp <;> omega)).trans (by simp [go_sem])
 have c1_1_3 : w1.cell? ⟨w.heap.size + 1, 3, none⟩ = some (.int .i64 txg_) := (hb1.cell (by simp <;> omega)).trans (by simp [go_sem])
 have c1_1_4 : w1.cell? ⟨w.heap.size + 1, 4, none⟩ = some (.slice Ab3 nb3 cb3) := (hb1.cell (by simp <;> omega)).trans (by simp [go_sem])
 have c1_1_5 : w1.cell? ⟨w.heap.size + 1, 5, none⟩ = some (.int .i64 keep_) := (hb1.cell (by simp <;> omega)).trans (by simp [go_sem])
 have c1_1_6 : w1.cell? ⟨w.heap.size + 1, 6, none⟩ = some (.slice Ab4 nb4 cb4) := (hb1.cell (by simp <;> omega)).trans (by simp [go_sem])
 have c1_1_7 : w1.cell? ⟨w.heap.size + 1, 7, none⟩ = some (.bool same_) := (hb1.cell (by simp <;> omega)).trans (by simp [go_sem])
 clear hb1
 go_wp2_with fail
 refine (eqSpace_yes [.slice Aa1 na1 ca1, .slice Aa2 na2 ca2] [.slice Ab1 nb1 cb1, .slice Ab2 nb2 cb2] (space_refs_, space_last_) _ 0 _ 0 _ ⟨Aa1, na1, ca1, Aa2, na2, ca2, rfl, SliceR.wide (SliceR.below Hha1.out X1 (IntR.below X1 Hha1.out.lo_le)) (Nat.zero_le _) (Nat.le_trans Hha1.out.lo_le (X1).size) (Nat.le_refl _) (IntR.wide (Nat.zero_le _) (Nat.le_trans Hha1.out.lo_le (X1).size) (Nat.le_refl _)), SliceR.wide (SliceR.below Hha2.out X1 (IntR.below X1 Hha2.out.lo_le)) (Nat.zero_le _) (Nat.le_trans Hha2.out.lo_le (X1).size) (Nat.le_refl _) (IntR.wide (Nat.zero_le _) (Nat.le_trans Hha2.out.lo_le (X1).size) (Nat.le_refl _))⟩ ⟨Ab1, nb1, cb1, Ab2, nb2, cb2, rfl, SliceR.wide (SliceR.below Hhb1.out X1 (IntR.below X1 Hhb1.out.lo_le)) (Nat.zero_le _) (Nat.le_trans Hhb1.out.lo_le (X1).size) (Nat.le_refl _) (IntR.wide (Nat.zero_le _) (Nat.le_trans Hhb1.out.lo_le (X1).size) (Nat.le_refl _)), SliceR.wide (SliceR.below Hhb2.out X1 (IntR.below X1 Hhb2.out.lo_le)) (Nat.zero_le _) (Nat.le_trans Hhb2.out.lo_le (X1).size) (Nat.le_refl _) (IntR.wide (Nat.zero_le _) (Nat.le_trans Hhb2.out.lo_le (X1).size) (Nat.le_refl _))⟩).mono ?_
 rintro e w2 ⟨rfl, hb2⟩
 have X2 : Below w.heap.size w w2 := X1.trans (hb2.mono (by first | exact X1.size | (simp <;> omega)))
 have c2_0_0 := (hb2.cell (World.block_lt_of_cell? _ _ c1_0_0)).trans c1_0_0
 have c2_0_1 := (hb2.cell (World.block_lt_of_cell? _ _ c1_0_1)).trans c1_0_1
 have c2_0_2 := (hb2.cell (World.block_lt_of_cell? _ _ c1_0_2)).trans c1_0_2
 have c2_0_3 := (hb2.cell (World.block_lt_of_cell? _ _ c1_0_3)).trans c1_0_3
 have c2_0_4 := (hb2.cell (World.block_lt_of_cell? _ _ c1_0_4)).trans c1_0_4
 have c2_0_5 := (hb2.cell (World.block_lt_of_cell? _ _ c1_0_5)).trans c1_0_5
 have c2_0_6 := (hb2.cell (World.block_lt_of_cell? _ _ c1_0_6)).trans c1_0_6
 have c2_0_7 := (hb2.cell (World.block_lt_of_cell? _ _ c1_0_7)).trans c1_0_7
 have c2_1_0 := (hb2.cell (World.block_lt_of_cell? _ _ c1_1_0)).trans c1_1_0
 have c2_1_1 := (hb2.cell (World.block_lt_of_cell? _ _ c1_1_1)).trans c1_1_1
 have c2_1_2 := (hb2.cell (World.block_lt_of_cell? _ _ c1_1_2)).trans c1_1_2
 have c2_1_3 := (hb2.cell (World.block_lt_of_cell? _ _ c1_1_3)).trans c1_1_3
 have c2_1_4 := (hb2.cell (World.block_lt_of_cell? _ _ c1_1_4)).trans c1_1_4
 have c2_1_5 := (hb2.cell (World.block_lt_of_cell? _ _ c1_1_5)).trans c1_1_5
 have c2_1_6 := (hb2.cell (World.block_lt_of_cell? _ _ c1_1_6)).trans c1_1_6
 have c2_1_7 := (hb2.cell (World.block_lt_of_cell? _ _ c1_1_7)).trans c1_1_7
 clear c1_0_0 c1_0_1 c1_0_2 c1_0_3 c1_0_4 c1_0_5 c1_0_6 c1_0_7 c1_1_0 c1_1_1 c1_1_2 c1_1_3 c1_1_4 c1_1_5 c1_1_6 c1_1_7
 clear hb2 X1
 go_wp2_with fail
 refine (eqPtrS_yes _ _ _ _ _ _ gone_ _ _ _ _ _ (SliceR.below Hha3.out X2 (PtrR.below X2 Hha3.out.lo_le)) (SliceR.below Hhb3.out X2 (PtrR.below X2 Hhb3.out.lo_le))).mono ?_
 rintro e w3 ⟨rfl, hb3⟩
 have X3 : Below w.heap.size w w3 := X2.trans (hb3.mono (by first | exact X2.size | (simp <;> omega)))
 have c3_0_0 := (hb3.cell (World.block_lt_of_cell? _ _ c2_0_0)).trans c2_0_0
 have c3_0_1 := (hb3.cell (World.block_lt_of_cell? _ _ c2_0_1)).trans c2_0_1
 have c3_0_2 := (hb3.cell (World.block_lt_of_cell? _ _ c2_0_2)).trans c2_0_2
 have c3_0_3 := (hb3.cell (World.block_lt_of_cell? _ _ c2_0_3)).trans c2_0_3
 have c3_0_4 := (hb3.cell (World.block_lt_of_cell? _ _ c2_0_4)).trans c2_0_4
 have c3_0_5 := (hb3.cell (World.block_lt_of_cell? _ _ c2_0_5)).trans c2_0_5
 have c3_0_6 := (hb3.cell (World.block_lt_of_cell? _ _ c2_0_6)).trans c2_0_6
 have c3_0_7 := (hb3.cell (World.block_lt_of_cell? _ _ c2_0_7)).trans c2_0_7
 have c3_1_0 := (hb3.cell (World.block_lt_of_cell? _ _ c2_1_0)).trans c2_1_0
 have c3_1_1 := (hb3.cell (World.block_lt_of_cell? _ _ c2_1_1)).trans c2_1_1
 have c3_1_2 := (hb3.cell (World.block_lt_of_cell? _ _ c2_1_2)).trans c2_1_2
 have c3_1_3 := (hb3.cell (World.block_lt_of_cell? _ _ c2_1_3)).trans c2_1_3
 have c3_1_4 := (hb3.cell (World.block_lt_of_cell? _ _ c2_1_4)).trans c2_1_4
 have c3_1_5 := (hb3.cell (World.block_lt_of_cell? _ _ c2_1_5)).trans c2_1_5
 have c3_1_6 := (hb3.cell (World.block_lt_of_cell? _ _ c2_1_6)).trans c2_1_6
 have c3_1_7 := (hb3.cell (World.block_lt_of_cell? _ _ c2_1_7)).trans c2_1_7
 clear c2_0_0 c2_0_1 c2_0_2 c2_0_3 c2_0_4 c2_0_5 c2_0_6 c2_0_7 c2_1_0 c2_1_1 c2_1_2 c2_1_3 c2_1_4 c2_1_5 c2_1_6 c2_1_7
 clear hb3 X2
 go_wp2_with fail
 refine (eqPtrS_yes _ _ _ _ _ _ dead_ _ _ _ _ _ (SliceR.below Hha4.out X3 (PtrR.below X3 Hha4.out.lo_le)) (SliceR.below Hhb4.out X3 (PtrR.below X3 Hhb4.out.lo_le))).mono ?_
 rintro e w4 ⟨rfl, hb4⟩
 have X4 : Below w.heap.size w w4 := X3.trans (hb4.mono (by first | exact X3.size | (simp <;> omega)))
 have c4_0_0 := (hb4.cell (World.block_lt_of_cell? _ _ c3_0_0)).trans c3_0_0
 have c4_0_1 := (hb4.cell (World.block_lt_of_cell? _ _ c3_0_1)).trans c3_0_1
 have c4_0_2 := (hb4.cell (World.block_lt_of_cell? _ _ c3_0_2)).trans c3_0_2
 have c4_0_3 := (hb4.cell (World.block_lt_of_cell? _ _ c3_0_3)).trans c3_0_3
 have c4_0_4 := (hb4.cell (World.block_lt_of_cell? _ _ c3_0_4)).trans c3_0_4
 have c4_0_5 := (hb4.cell (World.block_lt_of_cell? _ _ c3_0_5)).trans c3_0_5
 have c4_0_6 := (hb4.cell (World.block_lt_of_cell? _ _ c3_0_6)).trans c3_0_6
 have c4_0_7 := (hb4.cell (World.block_lt_of_cell? _ _ c3_0_7)).trans c3_0_7
 have c4_1_0 := (hb4.cell (World.block_lt_of_cell? _ _ c3_1_0)).trans c3_1_0
 have c4_1_1 := (hb4.cell (World.block_lt_of_cell? _ _ c3_1_1)).trans c3_1_1
 have c4_1_2 := (hb4.cell (World.block_lt_of_cell? _ _ c3_1_2)).trans c3_1_2
 have c4_1_3 := (hb4.cell (World.block_lt_of_cell? _ _ c3_1_3)).trans c3_1_3
 have c4_1_4 := (hb4.cell (World.block_lt_of_cell? _ _ c3_1_4)).trans c3_1_4
 have c4_1_5 := (hb4.cell (World.block_lt_of_cell? _ _ c3_1_5)).trans c3_1_5
 have c4_1_6 := (hb4.cell (World.block_lt_of_cell? _ _ c3_1_6)).trans c3_1_6
 have c4_1_7 := (hb4.cell (World.block_lt_of_cell? _ _ c3_1_7)).trans c3_1_7
 clear c3_0_0 c3_0_1 c3_0_2 c3_0_3 c3_0_4 c3_0_5 c3_0_6 c3_0_7 c3_1_0 c3_1_1 c3_1_2 c3_1_3 c3_1_4 c3_1_5 c3_1_6 c3_1_7
 clear hb4 X3
 go_wp2_with fail
 go_ret
 exact ⟨rfl, X4⟩
set_option maxRecDepth 100000 in
set_option maxHeartbeats 2000000 in
theorem toStore_any (cs : List Value) (x : StoreD) (w : World) (lo hi : Nat) (h : StoreR w lo hi cs x) (hz : sizeStore x ≤ 1048576) :
 Calls Tryz.prog 9 #[.agg cs.toArray] w (NewR StoreR w x) := by
 obtain ⟨rows_, ⟨space_refs_, space_last_⟩, txg_, gone_, keep_, dead_, same_⟩ := x
 obtain ⟨Aa0, na0, ca0, Aa1, na1, ca1, Aa2, na2, ca2, Aa3, na3, ca3, Aa4, na4, ca4, rfl, ha0, ha1, ha2, ha3, ha4⟩ := h
 show Calls Tryz.prog 9 #[.agg #[.slice Aa0 na0 ca0, .slice Aa1 na1 ca1, .slice Aa2 na2 ca2, .int .i64 txg_, .slice Aa3 na3 ca3, .int .i64 keep_, .slice Aa4 na4 ca4, .bool same_]] w _
 have Hha0 := Lib.hid ha0
 clear ha0
 have Hha1 := Lib.hid ha1
 clear ha1
 have Hha2 := Lib.hid ha2
 clear ha2
 have Hha3 := Lib.hid ha3
 clear ha3
 have Hha4 := Lib.hid ha4
 clear ha4
 have hz : rows_.length + (rows_.map ByteArray.size).sum + space_refs_.length + space_last_.length + gone_.length + dead_.length ≤ 1048576 := hz
 have HZ := Lib.hid hz
 have hl0 := Hha0.out.len
 have hl1 := Hha1.out.len
 have hl2 := Hha2.out.len
 have hl3 := Hha3.out.len
 have hl4 := Hha4.out.len
 go_enter Tryz.func9, Tryz.ntmps9
 go_wp2_with fail
 have l1 : w.heap.size ≤ w.heap.size + 1 := Nat.le_add_right _ _
 have l2 : w.heap.size ≤ w.heap.size + 1 + 1 := by omega
 have m1 : w.heap.size + 1 < w.heap.size + 3 := by omega
 have m2 : w.heap.size + 1 + 1 < w.heap.size + 3 := by omega
 have n02 : w.heap.size ≠ w.heap.size + 1 + 1 := by omega
 have n12 : w.heap.size + 1 ≠ w.heap.size + 1 + 1 := by omega
 have Y1 : ∀ W, Below w.heap.size w W → SliceR StrR 1 W lo hi Aa0 na0 ca0 rows_ := fun W hb => SliceR.below Hha0.out hb (StrR.below hb Hha0.out.lo_le)
 refine ((toStringS_any _ _ _ rows_ _ lo hi (Y1 _ (bel3)) (by have := HZ.out; have := Hha0.out.len; clear HZ; omega)).mono ?_)
 rintro e w1 ⟨B1, d1, rfl, S1, hb1⟩
 clear Y1
 have X1 : Below w.heap.size w w1 := Below.trans (bel3) (hb1.mono (by simp <;> omega))
 have b1_0 : w1.heap[w.heap.size]? = some (.cells #[.slice Aa0 na0 ca0, .slice Aa1 na1 ca1, .slice Aa2 na2 ca2, .int .i64 txg_, .slice Aa3 na3 ca3, .int .i64 keep_, .slice Aa4 na4 ca4, .bool same_] 28 (0, 0)) := (hb1.block _ (by simp <;> omega)).trans al3_0
 have b1_1 : w1.heap[w.heap.size + 1]? = some (.cells #[.slice none 0 0, .slice none 0 0, .slice none 0 0, .int .i64 0, .slice none 0 0, .int .i64 0, .slice none 0 0, .bool false] 39 (0, 0)) := (hb1.block _ (by simp <;> omega)).trans al3_1
 have b1_2 : w1.heap[w.heap.size + 1 + 1]? = some (.cells #[.slice none 0 0, .slice none 0 0, .slice none 0 0, .int .i64 0, .slice none 0 0, .int .i64 0, .slice none 0 0, .bool false] 39 (0, 0)) := (hb1.block _ (by simp <;> omega)).trans al3_2
 have z1 : w.heap.size + 3 ≤ w1.heap.size := by have := hb1.size; simp at this; omega
 have S1 := SliceR.wide (lo' := w.heap.size + 3) (hi' := w1.heap.size) S1 (by simp [World.setCell] <;> omega) (Nat.le_refl _) (Nat.le_refl _) (StrR.wide (by simp [World.setCell] <;> omega) (Nat.le_refl _) (Nat.le_refl _))
 have c1_0_0 := celR 0 b1_0
 have c1_0_1 := celR 1 b1_0
 have c1_0_2 := celR 2 b1_0
 have c1_0_3 := celR 3 b1_0
 have c1_0_4 := celR 4 b1_0
 have c1_0_5 := celR 5 b1_0
 have c1_0_6 := celR 6 b1_0
 have c1_0_7 := celR 7 b1_0
 have c1_1_0 := celR 0 b1_1
 have c1_1_1 := celR 1 b1_1
 have c1_1_2 := celR 2 b1_1
 have c1_1_3 := celR 3 b1_1
 have c1_1_4 := celR 4 b1_1
 have c1_1_5 := celR 5 b1_1
 have c1_1_6 := celR 6 b1_1
 have c1_1_7 := celR 7 b1_1
 have f1_1_0 := block_free b1_1 0
 have f1_1_1 := block_free b1_1 1
 have f1_1_2 := block_free b1_1 2
 have f1_1_3 := block_free b1_1 3
 have f1_1_4 := block_free b1_1 4
 have f1_1_5 := block_free b1_1 5
 have f1_1_6 := block_free b1_1 6
 have f1_1_7 := block_free b1_1 7
 have c1_2_0 := celR 0 b1_2
 have c1_2_1 := celR 1 b1_2
 have c1_2_2 := celR 2 b1_2
 have c1_2_3 := celR 3 b1_2
 have c1_2_4 := celR 4 b1_2
 have c1_2_5 := celR 5 b1_2
 have c1_2_6 := celR 6 b1_2
 have c1_2_7 := celR 7 b1_2
 have f1_2_0 := block_free b1_2 0
 have f1_2_1 := block_free b1_2 1
 have f1_2_2 := block_free b1_2 2
 have f1_2_3 := block_free b1_2 3
 have f1_2_4 := block_free b1_2 4
 have f1_2_5 := block_free b1_2 5
 have f1_2_6 := block_free b1_2 6
 have f1_2_7 := block_free b1_2 7
 have HB1_0 := Lib.hid b1_0
 have HB1_1 := Lib.hid b1_1
 have HB1_2 := Lib.hid b1_2
 clear b1_0 b1_1 b1_2 hb1
 have T1 := Lib.hid S1; clear S1
 go_wp2_with fail
 have b1_0 := HB1_0.out
 have b1_1 := HB1_1.out
 have b1_2 := HB1_2.out
 have S1 := T1.out; clear T1
 have Y2 : ∀ W, Below w.heap.size w W → SpaceR W 0 W.heap.size [.slice Aa1 na1 ca1, .slice Aa2 na2 ca2] (space_refs_, space_last_) := fun W hb => ⟨_, _, _, _, _, _, rfl, SliceR.wide (SliceR.below Hha1.out hb (IntR.below hb Hha1.out.lo_le)) (Nat.zero_le _) (Nat.le_trans Hha1.out.lo_le hb.size) (Nat.le_refl _) (IntR.wide (Nat.zero_le _) (Nat.le_trans Hha1.out.lo_le hb.size) (Nat.le_refl _)), SliceR.wide (SliceR.below Hha2.out hb (IntR.below hb Hha2.out.lo_le)) (Nat.zero_le _) (Nat.le_trans Hha2.out.lo_le hb.size) (Nat.le_refl _) (IntR.wide (Nat.zero_le _) (Nat.le_trans Hha2.out.lo_le hb.size) (Nat.le_refl _))⟩
 refine ((toSpaceR_any [.slice Aa1 na1 ca1, .slice Aa2 na2 ca2] (space_refs_, space_last_) _ 0 _ (Y2 _ ((Below.setCell (p := ⟨w.heap.size + 1 + 1, 0, none⟩) X1 l2 _))) (by show space_refs_.length + space_last_.length ≤ 1048576; have := HZ.out; clear HZ; omega)).mono ?_)
 rintro e w2 ⟨cs_, rfl, hr_, hb2⟩
 clear Y2
 obtain ⟨B2a, m2a, d2a, B2b, m2b, d2b, rfl, S2a, S2b⟩ := hr_
 obtain rfl : na1 = m2a := by have h_ : space_refs_.length = m2a := S2a.len; have := hl1; omega
 obtain rfl : na2 = m2b := by have h_ : space_last_.length = m2b := S2b.len; have := hl2; omega
 have X2 : Below w.heap.size w w2 := Below.trans ((Below.setCell (p := ⟨w.heap.size + 1 + 1, 0, none⟩) X1 l2 _)) (hb2.mono (by simp <;> omega))
 have b2_0 : w2.heap[w.heap.size]? = some (.cells #[.slice Aa0 na0 ca0, .slice Aa1 na1 ca1, .slice Aa2 na2 ca2, .int .i64 txg_, .slice Aa3 na3 ca3, .int .i64 keep_, .slice Aa4 na4 ca4, .bool same_] 28 (0, 0)) := (hb2.block _ (by simp <;> omega)).trans ((heap_far n02).trans (b1_0))
 have b2_1 : w2.heap[w.heap.size + 1]? = some (.cells #[.slice none 0 0, .slice none 0 0, .slice none 0 0, .int .i64 0, .slice none 0 0, .int .i64 0, .slice none 0 0, .bool false] 39 (0, 0)) := (hb2.block _ (by simp <;> omega)).trans ((heap_far n12).trans (b1_1))
 have b2_2 : w2.heap[w.heap.size + 1 + 1]? = some (.cells #[.slice B1 na0 d1, .slice none 0 0, .slice none 0 0, .int .i64 0, .slice none 0 0, .int .i64 0, .slice none 0 0, .bool false] 39 (0, 0)) := (hb2.block _ (by simp <;> omega)).trans ((block_set (b1_2)).trans (by rfl))
 have z2 : w.heap.size + 3 ≤ w2.heap.size := by have := hb2.size; simp [World.setCell] at this; omega
 have S1 := SliceR.far S1 (Step.setCell (p := ⟨w.heap.size + 1 + 1, 0, none⟩) (Step.refl _ _) m2 _) hb2 (fun a b => StrR.keep a b) (fun a b c => StrR.wide a b c)
 have S2a := SliceR.wide (lo' := w.heap.size + 3) (hi' := w2.heap.size) S2a (by simp [World.setCell] <;> omega) (Nat.le_refl _) (Nat.le_refl _) (IntR.wide (by simp [World.setCell] <;> omega) (Nat.le_refl _) (Nat.le_refl _))
 have S2b := SliceR.wide (lo' := w.heap.size + 3) (hi' := w2.heap.size) S2b (by simp [World.setCell] <;> omega) (Nat.le_refl _) (Nat.le_refl _) (IntR.wide (by simp [World.setCell] <;> omega) (Nat.le_refl _) (Nat.le_refl _))
 clear c1_0_0 c1_0_1 c1_0_2 c1_0_3 c1_0_4 c1_0_5 c1_0_6 c1_0_7 c1_1_0 c1_1_1 c1_1_2 c1_1_3 c1_1_4 c1_1_5 c1_1_6 c1_1_7 f1_1_0 f1_1_1 f1_1_2 f1_1_3 f1_1_4 f1_1_5 f1_1_6 f1_1_7 c1_2_0 c1_2_1 c1_2_2 c1_2_3 c1_2_4 c1_2_5 c1_2_6 c1_2_7 f1_2_0 f1_2_1 f1_2_2 f1_2_3 f1_2_4 f1_2_5 f1_2_6 f1_2_7
 have c2_0_0 := celR 0 b2_0
 have c2_0_1 := celR 1 b2_0
 have c2_0_2 := celR 2 b2_0
 have c2_0_3 := celR 3 b2_0
 have c2_0_4 := celR 4 b2_0
 have c2_0_5 := celR 5 b2_0
 have c2_0_6 := celR 6 b2_0
 have c2_0_7 := celR 7 b2_0
 have c2_1_0 := celR 0 b2_1
 have c2_1_1 := celR 1 b2_1
 have c2_1_2 := celR 2 b2_1
 have c2_1_3 := celR 3 b2_1
 have c2_1_4 := celR 4 b2_1
 have c2_1_5 := celR 5 b2_1
 have c2_1_6 := celR 6 b2_1
 have c2_1_7 := celR 7 b2_1
 have f2_1_0 := block_free b2_1 0
 have f2_1_1 := block_free b2_1 1
 have f2_1_2 := block_free b2_1 2
 have f2_1_3 := block_free b2_1 3
 have f2_1_4 := block_free b2_1 4
 have f2_1_5 := block_free b2_1 5
 have f2_1_6 := block_free b2_1 6
 have f2_1_7 := block_free b2_1 7
 have c2_2_0 := celR 0 b2_2
 have c2_2_1 := celR 1 b2_2
 have c2_2_2 := celR 2 b2_2
 have c2_2_3 := celR 3 b2_2
 have c2_2_4 := celR 4 b2_2
 have c2_2_5 := celR 5 b2_2
 have c2_2_6 := celR 6 b2_2
 have c2_2_7 := celR 7 b2_2
 have f2_2_0 := block_free b2_2 0
 have f2_2_1 := block_free b2_2 1
 have f2_2_2 := block_free b2_2 2
 have f2_2_3 := block_free b2_2 3
 have f2_2_4 := block_free b2_2 4
 have f2_2_5 := block_free b2_2 5
 have f2_2_6 := block_free b2_2 6
 have f2_2_7 := block_free b2_2 7
 have HB2_0 := Lib.hid b2_0
 have HB2_1 := Lib.hid b2_1
 have HB2_2 := Lib.hid b2_2
 clear b2_0 b2_1 b2_2 HB1_0 HB1_1 HB1_2 hb2 X1 z1
 have T1 := Lib.hid S1; clear S1 ; have T2a := Lib.hid S2a; clear S2a ; have T2b := Lib.hid S2b; clear S2b
 go_wp2_with fail
 have b2_0 := HB2_0.out
 have b2_1 := HB2_1.out
 have b2_2 := HB2_2.out
 have S1 := T1.out; clear T1
 have S2a := T2a.out; clear T2a
 have S2b := T2b.out; clear T2b
 have Y3 : ∀ W, Below w.heap.size w W → SliceR PtrR 5 W lo hi Aa3 na3 ca3 gone_ := fun W hb => SliceR.below Hha3.out hb (PtrR.below hb Hha3.out.lo_le)
 refine ((toPtrS_any _ _ _ gone_ _ lo hi (Y3 _ ((Below.setCell (p := ⟨w.heap.size + 1 + 1, 3, none⟩) (Below.setCell (p := ⟨w.heap.size + 1 + 1, 2, none⟩) (Below.setCell (p := ⟨w.heap.size + 1 + 1, 1, none⟩) X2 l2 _) l2 _) l2 _))) (by have := HZ.out; have := Hha3.out.len; clear HZ; omega)).mono ?_)
 rintro e w3 ⟨B3, d3, rfl, S3, hb3⟩
 clear Y3
 have X3 : Below w.heap.size w w3 := Below.trans ((Below.setCell (p := ⟨w.heap.size + 1 + 1, 3, none⟩) (Below.setCell (p := ⟨w.heap.size + 1 + 1, 2, none⟩) (Below.setCell (p := ⟨w.heap.size + 1 + 1, 1, none⟩) X2 l2 _) l2 _) l2 _)) (hb3.mono (by simp <;> omega))
 have b3_0 : w3.heap[w.heap.size]? = some (.cells #[.slice Aa0 na0 ca0, .slice Aa1 na1 ca1, .slice Aa2 na2 ca2, .int .i64 txg_, .slice Aa3 na3 ca3, .int .i64 keep_, .slice Aa4 na4 ca4, .bool same_] 28 (0, 0)) := (hb3.block _ (by simp <;> omega)).trans ((heap_far n02).trans ((heap_far n02).trans ((heap_far n02).trans (b2_0))))
 have b3_1 : w3.heap[w.heap.size + 1]? = some (.cells #[.slice none 0 0, .slice none 0 0, .slice none 0 0, .int .i64 0, .slice none 0 0, .int .i64 0, .slice none 0 0, .bool false] 39 (0, 0)) := (hb3.block _ (by simp <;> omega)).trans ((heap_far n12).trans ((heap_far n12).trans ((heap_far n12).trans (b2_1))))
 have b3_2 : w3.heap[w.heap.size + 1 + 1]? = some (.cells #[.slice B1 na0 d1, .slice B2a na1 d2a, .slice B2b na2 d2b, .int .i64 txg_, .slice none 0 0, .int .i64 0, .slice none 0 0, .bool false] 39 (0, 0)) := (hb3.block _ (by simp <;> omega)).trans ((block_set (block_set (block_set (b2_2)))).trans (by rfl))
 have z3 : w.heap.size + 3 ≤ w3.heap.size := by have := hb3.size; simp [World.setCell] at this; omega
 have S1 := SliceR.far S1 (Step.setCell (p := ⟨w.heap.size + 1 + 1, 3, none⟩) (Step.setCell (p := ⟨w.heap.size + 1 + 1, 2, none⟩) (Step.setCell (p := ⟨w.heap.size + 1 + 1, 1, none⟩) (Step.refl _ _) m2 _) m2 _) m2 _) hb3 (fun a b => StrR.keep a b) (fun a b c => StrR.wide a b c)
 have S2a := SliceR.far S2a (Step.setCell (p := ⟨w.heap.size + 1 + 1, 3, none⟩) (Step.setCell (p := ⟨w.heap.size + 1 + 1, 2, none⟩) (Step.setCell (p := ⟨w.heap.size + 1 + 1, 1, none⟩) (Step.refl _ _) m2 _) m2 _) m2 _) hb3 (fun a b => IntR.keep a b) (fun a b c => IntR.wide a b c)
 have S2b := SliceR.far S2b (Step.setCell (p := ⟨w.heap.size + 1 + 1, 3, none⟩) (Step.setCell (p := ⟨w.heap.size + 1 + 1, 2, none⟩) (Step.setCell (p := ⟨w.heap.size + 1 + 1, 1, none⟩) (Step.refl _ _) m2 _) m2 _) m2 _) hb3 (fun a b => IntR.keep a b) (fun a b c => IntR.wide a b c)
 have S3 := SliceR.wide (lo' := w.heap.size + 3) (hi' := w3.heap.size) S3 (by simp [World.setCell] <;> omega) (Nat.le_refl _) (Nat.le_refl _) (PtrR.wide (by simp [World.setCell] <;> omega) (Nat.le_refl _) (Nat.le_refl _))
 clear c2_0_0 c2_0_1 c2_0_2 c2_0_3 c2_0_4 c2_0_5 c2_0_6 c2_0_7 c2_1_0 c2_1_1 c2_1_2 c2_1_3 c2_1_4 c2_1_5 c2_1_6 c2_1_7 f2_1_0 f2_1_1 f2_1_2 f2_1_3 f2_1_4 f2_1_5 f2_1_6 f2_1_7 c2_2_0 c2_2_1 c2_2_2 c2_2_3 c2_2_4 c2_2_5 c2_2_6 c2_2_7 f2_2_0 f2_2_1 f2_2_2 f2_2_3 f2_2_4 f2_2_5 f2_2_6 f2_2_7
 have c3_0_0 := celR 0 b3_0
 have c3_0_1 := celR 1 b3_0
 have c3_0_2 := celR 2 b3_0
 have c3_0_3 := celR 3 b3_0
 have c3_0_4 := celR 4 b3_0
 have c3_0_5 := celR 5 b3_0
 have c3_0_6 := celR 6 b3_0
 have c3_0_7 := celR 7 b3_0
 have c3_1_0 := celR 0 b3_1
 have c3_1_1 := celR 1 b3_1
 have c3_1_2 := celR 2 b3_1
 have c3_1_3 := celR 3 b3_1
 have c3_1_4 := celR 4 b3_1
 have c3_1_5 := celR 5 b3_1
 have c3_1_6 := celR 6 b3_1
 have c3_1_7 := celR 7 b3_1
 have f3_1_0 := block_free b3_1 0
 have f3_1_1 := block_free b3_1 1
 have f3_1_2 := block_free b3_1 2
 have f3_1_3 := block_free b3_1 3
 have f3_1_4 := block_free b3_1 4
 have f3_1_5 := block_free b3_1 5
 have f3_1_6 := block_free b3_1 6
 have f3_1_7 := block_free b3_1 7
 have c3_2_0 := celR 0 b3_2
 have c3_2_1 := celR 1 b3_2
 have c3_2_2 := celR 2 b3_2
 have c3_2_3 := celR 3 b3_2
 have c3_2_4 := celR 4 b3_2
 have c3_2_5 := celR 5 b3_2
 have c3_2_6 := celR 6 b3_2
 have c3_2_7 := celR 7 b3_2
 have f3_2_0 := block_free b3_2 0
 have f3_2_1 := block_free b3_2 1
 have f3_2_2 := block_free b3_2 2
 have f3_2_3 := block_free b3_2 3
 have f3_2_4 := block_free b3_2 4
 have f3_2_5 := block_free b3_2 5
 have f3_2_6 := block_free b3_2 6
 have f3_2_7 := block_free b3_2 7
 have HB3_0 := Lib.hid b3_0
 have HB3_1 := Lib.hid b3_1
 have HB3_2 := Lib.hid b3_2
 clear b3_0 b3_1 b3_2 HB2_0 HB2_1 HB2_2 hb3 X2 z2
 have T1 := Lib.hid S1; clear S1 ; have T2a := Lib.hid S2a; clear S2a ; have T2b := Lib.hid S2b; clear S2b ; have T3 := Lib.hid S3; clear S3
 go_wp2_with fail
 have b3_0 := HB3_0.out
 have b3_1 := HB3_1.out
 have b3_2 := HB3_2.out
 have S1 := T1.out; clear T1
 have S2a := T2a.out; clear T2a
 have S2b := T2b.out; clear T2b
 have S3 := T3.out; clear T3
 have Y4 : ∀ W, Below w.heap.size w W → SliceR PtrR 5 W lo hi Aa4 na4 ca4 dead_ := fun W hb => SliceR.below Hha4.out hb (PtrR.below hb Hha4.out.lo_le)
 refine ((toPtrS_any _ _ _ dead_ _ lo hi (Y4 _ ((Below.setCell (p := ⟨w.heap.size + 1 + 1, 5, none⟩) (Below.setCell (p := ⟨w.heap.size + 1 + 1, 4, none⟩) X3 l2 _) l2 _))) (by have := HZ.out; have := Hha4.out.len; clear HZ; omega)).mono ?_)
 rintro e w4 ⟨B4, d4, rfl, S4, hb4⟩
 clear Y4
 have X4 : Below w.heap.size w w4 := Below.trans ((Below.setCell (p := ⟨w.heap.size + 1 + 1, 5, none⟩) (Below.setCell (p := ⟨w.heap.size + 1 + 1, 4, none⟩) X3 l2 _) l2 _)) (hb4.mono (by simp <;> omega))
 have b4_0 : w4.heap[w.heap.size]? = some (.cells #[.slice Aa0 na0 ca0, .slice Aa1 na1 ca1, .slice Aa2 na2 ca2, .int .i64 txg_, .slice Aa3 na3 ca3, .int .i64 keep_, .slice Aa4 na4 ca4, .bool same_] 28 (0, 0)) := (hb4.block _ (by simp <;> omega)).trans ((heap_far n02).trans ((heap_far n02).trans (b3_0)))
 have b4_1 : w4.heap[w.heap.size + 1]? = some (.cells #[.slice none 0 0, .slice none 0 0, .slice none 0 0, .int .i64 0, .slice none 0 0, .int .i64 0, .slice none 0 0, .bool false] 39 (0, 0)) := (hb4.block _ (by simp <;> omega)).trans ((heap_far n12).trans ((heap_far n12).trans (b3_1)))
 have b4_2 : w4.heap[w.heap.size + 1 + 1]? = some (.cells #[.slice B1 na0 d1, .slice B2a na1 d2a, .slice B2b na2 d2b, .int .i64 txg_, .slice B3 na3 d3, .int .i64 keep_, .slice none 0 0, .bool false] 39 (0, 0)) := (hb4.block _ (by simp <;> omega)).trans ((block_set (block_set (b3_2))).trans (by rfl))
 have z4 : w.heap.size + 3 ≤ w4.heap.size := by have := hb4.size; simp [World.setCell] at this; omega
 have S1 := SliceR.far S1 (Step.setCell (p := ⟨w.heap.size + 1 + 1, 5, none⟩) (Step.setCell (p := ⟨w.heap.size + 1 + 1, 4, none⟩) (Step.refl _ _) m2 _) m2 _) hb4 (fun a b => StrR.keep a b) (fun a b c => StrR.wide a b c)
 have S2a := SliceR.far S2a (Step.setCell (p := ⟨w.heap.size + 1 + 1, 5, none⟩) (Step.setCell (p := ⟨w.heap.size + 1 + 1, 4, none⟩) (Step.refl _ _) m2 _) m2 _) hb4 (fun a b => IntR.keep a b) (fun a b c => IntR.wide a b c)
 have S2b := SliceR.far S2b (Step.setCell (p := ⟨w.heap.size + 1 + 1, 5, none⟩) (Step.setCell (p := ⟨w.heap.size + 1 + 1, 4, none⟩) (Step.refl _ _) m2 _) m2 _) hb4 (fun a b => IntR.keep a b) (fun a b c => IntR.wide a b c)
 have S3 := SliceR.far S3 (Step.setCell (p := ⟨w.heap.size + 1 + 1, 5, none⟩) (Step.setCell (p := ⟨w.heap.size + 1 + 1, 4, none⟩) (Step.refl _ _) m2 _) m2 _) hb4 (fun a b => PtrR.keep a b) (fun a b c => PtrR.wide a b c)
 have S4 := SliceR.wide (lo' := w.heap.size + 3) (hi' := w4.heap.size) S4 (by simp [World.setCell] <;> omega) (Nat.le_refl _) (Nat.le_refl _) (PtrR.wide (by simp [World.setCell] <;> omega) (Nat.le_refl _) (Nat.le_refl _))
 clear c3_0_0 c3_0_1 c3_0_2 c3_0_3 c3_0_4 c3_0_5 c3_0_6 c3_0_7 c3_1_0 c3_1_1 c3_1_2 c3_1_3 c3_1_4 c3_1_5 c3_1_6 c3_1_7 f3_1_0 f3_1_1 f3_1_2 f3_1_3 f3_1_4 f3_1_5 f3_1_6 f3_1_7 c3_2_0 c3_2_1 c3_2_2 c3_2_3 c3_2_4 c3_2_5 c3_2_6 c3_2_7 f3_2_0 f3_2_1 f3_2_2 f3_2_3 f3_2_4 f3_2_5 f3_2_6 f3_2_7
 have c4_0_0 := celR 0 b4_0
 have c4_0_1 := celR 1 b4_0
 have c4_0_2 := celR 2 b4_0
 have c4_0_3 := celR 3 b4_0
 have c4_0_4 := celR 4 b4_0
 have c4_0_5 := celR 5 b4_0
 have c4_0_6 := celR 6 b4_0
 have c4_0_7 := celR 7 b4_0
 have c4_1_0 := celR 0 b4_1
 have c4_1_1 := celR 1 b4_1
 have c4_1_2 := celR 2 b4_1
 have c4_1_3 := celR 3 b4_1
 have c4_1_4 := celR 4 b4_1
 have c4_1_5 := celR 5 b4_1
 have c4_1_6 := celR 6 b4_1
 have c4_1_7 := celR 7 b4_1
 have f4_1_0 := block_free b4_1 0
 have f4_1_1 := block_free b4_1 1
 have f4_1_2 := block_free b4_1 2
 have f4_1_3 := block_free b4_1 3
 have f4_1_4 := block_free b4_1 4
 have f4_1_5 := block_free b4_1 5
 have f4_1_6 := block_free b4_1 6
 have f4_1_7 := block_free b4_1 7
 have c4_2_0 := celR 0 b4_2
 have c4_2_1 := celR 1 b4_2
 have c4_2_2 := celR 2 b4_2
 have c4_2_3 := celR 3 b4_2
 have c4_2_4 := celR 4 b4_2
 have c4_2_5 := celR 5 b4_2
 have c4_2_6 := celR 6 b4_2
 have c4_2_7 := celR 7 b4_2
 have f4_2_0 := block_free b4_2 0
 have f4_2_1 := block_free b4_2 1
 have f4_2_2 := block_free b4_2 2
 have f4_2_3 := block_free b4_2 3
 have f4_2_4 := block_free b4_2 4
 have f4_2_5 := block_free b4_2 5
 have f4_2_6 := block_free b4_2 6
 have f4_2_7 := block_free b4_2 7
 have HB4_0 := Lib.hid b4_0
 have HB4_1 := Lib.hid b4_1
 have HB4_2 := Lib.hid b4_2
 clear b4_0 b4_1 b4_2 HB3_0 HB3_1 HB3_2 hb4 X3 z3
 have T1 := Lib.hid S1; clear S1 ; have T2a := Lib.hid S2a; clear S2a ; have T2b := Lib.hid S2b; clear S2b ; have T3 := Lib.hid S3; clear S3 ; have T4 := Lib.hid S4; clear S4
 go_wp2_with fail
 have b4_0 := HB4_0.out
 have b4_1 := HB4_1.out
 have b4_2 := HB4_2.out
 have S1 := T1.out; clear T1
 have S2a := T2a.out; clear T2a
 have S2b := T2b.out; clear T2b
 have S3 := T3.out; clear T3
 have S4 := T4.out; clear T4
 exact bodyPost_ret (v := .agg #[.slice B1 na0 d1, .slice B2a na1 d2a, .slice B2b na2 d2b, .int .i64 txg_, .slice B3 na3 d3, .int .i64 keep_, .slice B4 na4 d4, .bool same_]) (by simp [results, Tryz.results9, go_sem, c4_1_0, f4_1_0, c4_1_1, f4_1_1, c4_1_2, f4_1_2, c4_1_3, f4_1_3, c4_1_4, f4_1_4, c4_1_5, f4_1_5, c4_1_6, f4_1_6, c4_1_7, f4_1_7]) rfl ⟨[.slice B1 na0 d1, .slice B2a na1 d2a, .slice B2b na2 d2b, .int .i64 txg_, .slice B3 na3 d3, .int .i64 keep_, .slice B4 na4 d4, .bool same_], rfl, ⟨_, _, _, _, _, _, _, _, _, _, _, _, _, _, _, rfl, (SliceR.far S1 (Step.setCell (p := ⟨w.heap.size + 1, 7, none⟩) (Step.setCell (p := ⟨w.heap.size + 1, 6, none⟩) (Step.setCell (p := ⟨w.heap.size + 1, 5, none⟩) (Step.setCell (p := ⟨w.heap.size + 1, 4, none⟩) (Step.setCell (p := ⟨w.heap.size + 1, 3, none⟩) (Step.setCell (p := ⟨w.heap.size + 1, 2, none⟩) (Step.setCell (p := ⟨w.heap.size + 1, 1, none⟩) (Step.setCell (p := ⟨w.heap.size + 1, 0, none⟩) (Step.setCell (p := ⟨w.heap.size + 1 + 1, 7, none⟩) (Step.setCell (p := ⟨w.heap.size + 1 + 1, 6, none⟩) (Step.refl _ _) m2 _) m2 _) m1 _) m1 _) m1 _) m1 _) m1 _) m1 _) m1 _) m1 _) (Below.refl _ _) (fun a b => StrR.keep a b) (fun a b c => StrR.wide a b c)).wide (by omega) (Nat.le_refl _) (Nat.le_refl _) (StrR.wide (by omega) (Nat.le_refl _) (Nat.le_refl _)), (SliceR.far S2a (Step.setCell (p := ⟨w.heap.size + 1, 7, none⟩) (Step.setCell (p := ⟨w.heap.size + 1, 6, none⟩) (Step.setCell (p := ⟨w.heap.size + 1, 5, none⟩) (Step.setCell (p := ⟨w.heap.size + 1, 4, none⟩) (Step.setCell (p := ⟨w.heap.size + 1, 3, none⟩) (Step.setCell (p := ⟨w.heap.size + 1, 2, none⟩) (Step.setCell (p := ⟨w.heap.size + 1, 1, none⟩) (Step.setCell (p := ⟨w.heap.size + 1, 0, none⟩) (Step.setCell (p := ⟨w.heap.size + 1 + 1, 7, none⟩) (Step.setCell (p := ⟨w.heap.size + 1 + 1, 6, none⟩) (Step.refl _ _) m2 _) m2 _) m1 _) m1 _) m1 _) m1 _) m1 _) m1 _) m1 _) m1 _) (Below.refl _ _) (fun a b => IntR.keep a b) (fun a b c => IntR.wide a b c)).wide (by omega) (Nat.le_refl _) (Nat.le_refl _) (IntR.wide (by omega) (Nat.le_refl _) (Nat.le_refl _)), (SliceR.far S2b (Step.setCell (p := ⟨w.heap.size + 1, 7, none⟩) (Step.setCell (p := ⟨w.heap.size + 1, 6, none⟩) (Step.setCell (p := ⟨w.heap.size + 1, 5, none⟩) (Step.setCell (p := ⟨w.heap.size + 1, 4, none⟩) (Step.setCell (p := ⟨w.heap.size + 1, 3, none⟩) (Step.setCell (p := ⟨w.heap.size + 1, 2, none⟩) (Step.setCell (p := ⟨w.heap.size + 1, 1, none⟩) (Step.setCell (p := ⟨w.heap.size + 1, 0, none⟩) (Step.setCell (p := ⟨w.heap.size + 1 + 1, 7, none⟩) (Step.setCell (p := ⟨w.heap.size + 1 + 1, 6, none⟩) (Step.refl _ _) m2 _) m2 _) m1 _) m1 _) m1 _) m1 _) m1 _) m1 _) m1 _) m1 _) (Below.refl _ _) (fun a b => IntR.keep a b) (fun a b c => IntR.wide a b c)).wide (by omega) (Nat.le_refl _) (Nat.le_refl _) (IntR.wide (by omega) (Nat.le_refl _) (Nat.le_refl _)), (SliceR.far S3 (Step.setCell (p := ⟨w.heap.size + 1, 7, none⟩) (Step.setCell (p := ⟨w.heap.size + 1, 6, none⟩) (Step.setCell (p := ⟨w.heap.size + 1, 5, none⟩) (Step.setCell (p := ⟨w.heap.size + 1, 4, none⟩) (Step.setCell (p := ⟨w.heap.size + 1, 3, none⟩) (Step.setCell (p := ⟨w.heap.size + 1, 2, none⟩) (Step.setCell (p := ⟨w.heap.size + 1, 1, none⟩) (Step.setCell (p := ⟨w.heap.size + 1, 0, none⟩) (Step.setCell (p := ⟨w.heap.size + 1 + 1, 7, none⟩) (Step.setCell (p := ⟨w.heap.size + 1 + 1, 6, none⟩) (Step.refl _ _) m2 _) m2 _) m1 _) m1 _) m1 _) m1 _) m1 _) m1 _) m1 _) m1 _) (Below.refl _ _) (fun a b => PtrR.keep a b) (fun a b c => PtrR.wide a b c)).wide (by omega) (Nat.le_refl _) (Nat.le_refl _) (PtrR.wide (by omega) (Nat.le_refl _) (Nat.le_refl _)), (SliceR.far S4 (Step.setCell (p := ⟨w.heap.size + 1, 7, none⟩) (Step.setCell (p := ⟨w.heap.size + 1, 6, none⟩) (Step.setCell (p := ⟨w.heap.size + 1, 5, none⟩) (Step.setCell (p := ⟨w.heap.size + 1, 4, none⟩) (Step.setCell (p := ⟨w.heap.size + 1, 3, none⟩) (Step.setCell (p := ⟨w.heap.size + 1, 2, none⟩) (Step.setCell (p := ⟨w.heap.size + 1, 1, none⟩) (Step.setCell (p := ⟨w.heap.size + 1, 0, none⟩) (Step.setCell (p := ⟨w.heap.size + 1 + 1, 7, none⟩) (Step.setCell (p := ⟨w.heap.size + 1 + 1, 6, none⟩) (Step.refl _ _) m2 _) m2 _) m1 _) m1 _) m1 _) m1 _) m1 _) m1 _) m1 _) m1 _) (Below.refl _ _) (fun a b => PtrR.keep a b) (fun a b c => PtrR.wide a b c)).wide (by omega) (Nat.le_refl _) (Nat.le_refl _) (PtrR.wide (by omega) (Nat.le_refl _) (Nat.le_refl _))⟩, (Below.setCell (p := ⟨w.heap.size + 1, 7, none⟩) (Below.setCell (p := ⟨w.heap.size + 1, 6, none⟩) (Below.setCell (p := ⟨w.heap.size + 1, 5, none⟩) (Below.setCell (p := ⟨w.heap.size + 1, 4, none⟩) (Below.setCell (p := ⟨w.heap.size + 1, 3, none⟩) (Below.setCell (p := ⟨w.heap.size + 1, 2, none⟩) (Below.setCell (p := ⟨w.heap.size + 1, 1, none⟩) (Below.setCell (p := ⟨w.heap.size + 1, 0, none⟩) (Below.setCell (p := ⟨w.heap.size + 1 + 1, 7, none⟩) (Below.setCell (p := ⟨w.heap.size + 1 + 1, 6, none⟩) X4 l2 _) l2 _) l1 _) l1 _) l1 _) l1 _) l1 _) l1 _) l1 _) l1 _)⟩
set_option maxRecDepth 100000 in
set_option maxHeartbeats 2000000 in
theorem szStore_any (cs : List Value) (x : StoreD) (w : World) (lo hi : Nat) (left : Int) (h : StoreR w lo hi cs x) (h0 : 0 ≤ left) (h1 : left ≤ 1048576) :
 Calls Tryz.prog 7 #[.agg cs.toArray, .int .i64 left] w (SzPost (sizeStore x) left w) := by
 obtain ⟨rows_, ⟨space_refs_, space_last_⟩, txg_, gone_, keep_, dead_, same_⟩ := x
 obtain ⟨Aa0, na0, ca0, Aa1, na1, ca1, Aa2, na2, ca2, Aa3, na3, ca3, Aa4, na4, ca4, rfl, ha0, ha1, ha2, ha3, ha4⟩ := h
 show Calls Tryz.prog 7 #[.agg #[.slice Aa0 na0 ca0, .slice Aa1 na1 ca1, .slice Aa2 na2 ca2, .int .i64 txg_, .slice Aa3 na3 ca3, .int .i64 keep_, .slice Aa4 na4 ca4, .bool same_], .int .i64 left] w _
 have Hha0 := Lib.hid ha0
 have Nha0 := Hha0.out.max
 clear ha0
 have Hha1 := Lib.hid ha1
 have Nha1 := Hha1.out.max
 clear ha1
 have Hha2 := Lib.hid ha2
 have Nha2 := Hha2.out.max
 clear ha2
 have Hha3 := Lib.hid ha3
 have Nha3 := Hha3.out.max
 clear ha3
 have Hha4 := Lib.hid ha4
 have Nha4 := Hha4.out.max
 clear ha4
 go_enter Tryz.func7, Tryz.ntmps7
 go_wp2_with fail
 refine (szStringS_any _ _ _ rows_ _ lo hi (left) (SliceR.below Hha0.out bel1 (StrR.below bel1 Hha0.out.lo_le)) (by omega) (by omega)).mono ?_
 rintro e w1 ⟨r1, rfl, p1, o1, s1, hb1⟩
 have P1 := Lib.hid s1; clear s1
 have X1 : Below w.heap.size w w1 := Below.trans bel1 (hb1.mono (by first | exact bel1.size | (simp <;> omega)))
 have c1_0 : w1.cell? ⟨w.heap.size, 0, none⟩ = some (.slice Aa0 na0 ca0) := (hb1.cell (by simp)).trans (by simp [go_sem])
 have c1_1 : w1.cell? ⟨w.heap.size, 1, none⟩ = some (.slice Aa1 na1 ca1) := (hb1.cell (by simp)).trans (by simp [go_sem])
 have c1_2 : w1.cell? ⟨w.heap.size, 2, none⟩ = some (.slice Aa2 na2 ca2) := (hb1.cell (by simp)).trans (by simp [go_sem])
 have c1_3 : w1.cell? ⟨w.heap.size, 3, none⟩ = some (.int .i64 txg_) := (hb1.cell (by simp)).trans (by simp [go_sem])
 have c1_4 : w1.cell? ⟨w.heap.size, 4, none⟩ = some (.slice Aa3 na3 ca3) := (hb1.cell (by simp)).trans (by simp [go_sem])
 have c1_5 : w1.cell? ⟨w.heap.size, 5, none⟩ = some (.int .i64 keep_) := (hb1.cell (by simp)).trans (by simp [go_sem])
 have c1_6 : w1.cell? ⟨w.heap.size, 6, none⟩ = some (.slice Aa4 na4 ca4) := (hb1.cell (by simp)).trans (by simp [go_sem])
 have c1_7 : w1.cell? ⟨w.heap.size, 7, none⟩ = some (.bool same_) := (hb1.cell (by simp)).trans (by simp [go_sem])
 clear hb1
 by_cases q1 : r1 < 0
 · go_wp2_with fail
   go_ret
   exact ⟨-1, rfl, by omega, by omega, fun h => by omega, X1⟩
 go_wp2_with fail
 refine (szSpaceR_any [.slice Aa1 na1 ca1, .slice Aa2 na2 ca2] (space_refs_, space_last_) _ 0 _ (r1) ⟨_, _, _, _, _, _, rfl, SliceR.wide (SliceR.below Hha1.out X1 (IntR.below X1 Hha1.out.lo_le)) (Nat.zero_le _) (Nat.le_trans Hha1.out.lo_le (X1).size) (Nat.le_refl _) (IntR.wide (Nat.zero_le _) (Nat.le_trans Hha1.out.lo_le (X1).size) (Nat.le_refl _)), SliceR.wide (SliceR.below Hha2.out X1 (IntR.below X1 Hha2.out.lo_le)) (Nat.zero_le _) (Nat.le_trans Hha2.out.lo_le (X1).size) (Nat.le_refl _) (IntR.wide (Nat.zero_le _) (Nat.le_trans Hha2.out.lo_le (X1).size) (Nat.le_refl _))⟩ (by omega) (by omega)).mono ?_
 rintro e w2 ⟨r2, rfl, p2, o2, s2, hb2⟩
 have P2 : Hid (0 ≤ r2 → ((space_refs_.length + space_last_.length : Nat) : Int) ≤ r1 - r2) := Lib.hid s2; clear s2
 have X2 : Below w.heap.size w w2 := Below.trans X1 (hb2.mono (by first | exact X1.size | (simp <;> omega)))
 have c2_0 := (hb2.cell (World.block_lt_of_cell? _ _ c1_0)).trans c1_0
 have c2_1 := (hb2.cell (World.block_lt_of_cell? _ _ c1_1)).trans c1_1
 have c2_2 := (hb2.cell (World.block_lt_of_cell? _ _ c1_2)).trans c1_2
 have c2_3 := (hb2.cell (World.block_lt_of_cell? _ _ c1_3)).trans c1_3
 have c2_4 := (hb2.cell (World.block_lt_of_cell? _ _ c1_4)).trans c1_4
 have c2_5 := (hb2.cell (World.block_lt_of_cell? _ _ c1_5)).trans c1_5
 have c2_6 := (hb2.cell (World.block_lt_of_cell? _ _ c1_6)).trans c1_6
 have c2_7 := (hb2.cell (World.block_lt_of_cell? _ _ c1_7)).trans c1_7
 clear c1_0 c1_1 c1_2 c1_3 c1_4 c1_5 c1_6 c1_7
 clear hb2
 by_cases q2 : r2 < 0
 · go_wp2_with fail
   go_ret
   exact ⟨-1, rfl, by omega, by omega, fun h => by omega, X2⟩
 go_wp2_with fail
 refine (szPtrS_any _ _ _ gone_ _ lo hi (r2) (SliceR.below Hha3.out X2 (PtrR.below X2 Hha3.out.lo_le)) (by omega) (by omega)).mono ?_
 rintro e w3 ⟨r3, rfl, p3, o3, s3, hb3⟩
 have P3 := Lib.hid s3; clear s3
 have X3 : Below w.heap.size w w3 := Below.trans X2 (hb3.mono (by first | exact X2.size | (simp <;> omega)))
 have c3_0 := (hb3.cell (World.block_lt_of_cell? _ _ c2_0)).trans c2_0
 have c3_1 := (hb3.cell (World.block_lt_of_cell? _ _ c2_1)).trans c2_1
 have c3_2 := (hb3.cell (World.block_lt_of_cell? _ _ c2_2)).trans c2_2
 have c3_3 := (hb3.cell (World.block_lt_of_cell? _ _ c2_3)).trans c2_3
 have c3_4 := (hb3.cell (World.block_lt_of_cell? _ _ c2_4)).trans c2_4
 have c3_5 := (hb3.cell (World.block_lt_of_cell? _ _ c2_5)).trans c2_5
 have c3_6 := (hb3.cell (World.block_lt_of_cell? _ _ c2_6)).trans c2_6
 have c3_7 := (hb3.cell (World.block_lt_of_cell? _ _ c2_7)).trans c2_7
 clear c2_0 c2_1 c2_2 c2_3 c2_4 c2_5 c2_6 c2_7
 clear hb3
 by_cases q3 : r3 < 0
 · go_wp2_with fail
   go_ret
   exact ⟨-1, rfl, by omega, by omega, fun h => by omega, X3⟩
 go_wp2_with fail
 refine (szPtrS_any _ _ _ dead_ _ lo hi (r3) (SliceR.below Hha4.out X3 (PtrR.below X3 Hha4.out.lo_le)) (by omega) (by omega)).mono ?_
 rintro e w4 ⟨r4, rfl, p4, o4, s4, hb4⟩
 have P4 := Lib.hid s4; clear s4
 have X4 : Below w.heap.size w w4 := Below.trans X3 (hb4.mono (by first | exact X3.size | (simp <;> omega)))
 have c4_0 := (hb4.cell (World.block_lt_of_cell? _ _ c3_0)).trans c3_0
 have c4_1 := (hb4.cell (World.block_lt_of_cell? _ _ c3_1)).trans c3_1
 have c4_2 := (hb4.cell (World.block_lt_of_cell? _ _ c3_2)).trans c3_2
 have c4_3 := (hb4.cell (World.block_lt_of_cell? _ _ c3_3)).trans c3_3
 have c4_4 := (hb4.cell (World.block_lt_of_cell? _ _ c3_4)).trans c3_4
 have c4_5 := (hb4.cell (World.block_lt_of_cell? _ _ c3_5)).trans c3_5
 have c4_6 := (hb4.cell (World.block_lt_of_cell? _ _ c3_6)).trans c3_6
 have c4_7 := (hb4.cell (World.block_lt_of_cell? _ _ c3_7)).trans c3_7
 clear c3_0 c3_1 c3_2 c3_3 c3_4 c3_5 c3_6 c3_7
 clear hb4
 by_cases q4 : r4 < 0
 · go_wp2_with fail
   go_ret
   exact ⟨-1, rfl, by omega, by omega, fun h => by omega, X4⟩
 go_wp2_with fail
 go_ret
 have P1 := P1.out (by omega)
 have P2 := P2.out (by omega)
 have P3 := P3.out (by omega)
 have P4 := P4.out (by omega)
 exact ⟨r4, rfl, by omega, by omega, fun _ => by show ((rows_.length + (rows_.map ByteArray.size).sum + space_refs_.length + space_last_.length + gone_.length + dead_.length : Nat) : Int) ≤ _; omega, X4⟩
end Go.Proofs.YtjnhiiaejeaikaaGreatDoor
