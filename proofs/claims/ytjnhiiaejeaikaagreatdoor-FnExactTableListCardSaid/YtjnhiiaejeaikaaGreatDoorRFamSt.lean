/- eq, to and sz at stores. No condition. -/
import Derived.Test.YtjnhiiaejeaikaaGreatDoorRFamEq
import Derived.Test.YtjnhiiaejeaikaaGreatDoorRTableOk
import Derived.Test.YtjnhiiaejeaikaaGreatDoorChecked
set_option linter.unnecessarySimpa false
set_option linter.unusedSimpArgs false
set_option linter.unusedVariables false
namespace Go.Proofs.YtjnhiiaejeaikaaGreatDoor
open Go.RowKit
def sizeSpace (x : SpaceD) : Nat := x.1.length + x.2.length
def sizeStore (x : StoreD) : Nat := x.1.length + (x.1.map ByteArray.size).sum + x.2.1.1.length + x.2.1.2.length + x.2.2.2.1.length + x.2.2.2.2.2.1.length
set_option maxRecDepth 100000 in
set_option maxHeartbeats 2000000 in
theorem szStringS_any (A : Option Addr) (n c : Nat) (xs : List ByteArray) (w : World) (lo hi : Nat) (left : Int) (h : SliceR StrR 1 w lo hi A n c xs) (h0 : 0 ≤ left) (h1 : left ≤ 1048576) :
 Calls Tryz.prog 24 #[.slice A n c, .int .i64 left] w (SzPost (xs.length + (xs.map ByteArray.size).sum) left w) := by
 have hl := h.len
 have hn := h.max
 have HL := Lib.hid hl
 have H := Lib.hid h
 clear h hl
 go_enter Tryz.func24, Tryz.ntmps24
 by_cases q1 : left - (n : Int) < 0
 · go_wp2_with fail
   go_ret
   exact ⟨-1, rfl, by omega, by omega, fun h => by omega, Below.refl _ _⟩
 go_wp2_with fail
 go_loopw [1, 5] (fun s i wr => ∃ (k : Nat) (l : Int), k ≤ n ∧ i = .int .i64 k ∧ s = .int .i64 l ∧ 0 ≤ l ∧ l ≤ left ∧ Hid (l + (((xs.take k).map ByteArray.size).sum : Nat) ≤ left - n) ∧ Below w.heap.size w wr) (fun _ i _ => n - (intOf i).toNat)
 case atStart => exact ⟨0, left - (n : Int), Nat.zero_le _, rfl, rfl, by omega, by omega, Lib.hid (by simp), Below.refl _ _⟩
 obtain ⟨k, l, hk, rfl, rfl, l0, l1, HS, hB⟩ := hrel
 by_cases hlt : k < n
 · obtain ⟨x, hx⟩ : ∃ x, xs[k]? = some x := ⟨xs[k]'(by rw [HL.out]; exact hlt), List.getElem?_eq_getElem _⟩
   obtain ⟨b, off, rfl, _, _, bl, hc⟩ := (SliceR.below H.out hB (StrR.below hB H.out.lo_le)).at_ (by omega)
   obtain ⟨cs, hcl, hcc, hr⟩ := hc k x hx
   clear hc
   have hss := sum_take ByteArray.size hx
   have HSS := Lib.hid hss
   clear hss hx
   obtain ⟨rfl, hm⟩ := hr
   have hm : x.size ≤ 9223372036854775807 := by unfold maxLen at hm; exact hm
   have q_0 := hcc 0 _ rfl
   simp only [Nat.add_zero, Nat.mul_one] at q_0
   clear hcc hcl
   have k0 : (0 : Int) ≤ (k : Int) := by omega
   have k1 : (k : Int) < (n : Int) := by omega
   by_cases q2 : l - (x.size : Int) < 0
   · go_wp2_with fail
     go_ret
     exact ⟨-1, rfl, by omega, by omega, fun h => by omega, hB⟩
   have HN : Hid (l - (x.size : Int) + (((xs.take (k + 1)).map ByteArray.size).sum : Nat) ≤ left - n) := Lib.hid (by have b := HS.out; have c := HSS.out; rw [c]; omega)
   go_wp2_with fail
   go_roundw
   case rel => exact ⟨k + 1, l - (x.size : Int), by omega, by go_num, rfl, by omega, by omega, HN, hB⟩
   simp [intOf]; omega
 obtain rfl : k = n := by omega
 have hfin := HS.out
 rw [List.take_of_length_le (by have := HL.out; omega)] at hfin
 have HF := Lib.hid hfin; clear hfin
 go_wp2_with fail
 go_ret
 exact ⟨l, rfl, by omega, by omega, fun _ => by have := HF.out; have := HL.out; omega, hB⟩
set_option maxHeartbeats 1000000 in
theorem eqSpace_yes (cs cs' : List Value) (x : SpaceD) (w : World) (lo hi lo' hi' : Nat) (h : SpaceR w lo hi cs x) (h' : SpaceR w lo' hi' cs' x) :
 Calls Tryz.prog 34 #[.agg cs.toArray, .agg cs'.toArray] w fun e w' => e = .returned (.bool true) ∧ Below w.heap.size w w' := by
 obtain ⟨refs_, last_⟩ := x
 obtain ⟨Aa0, na0, ca0, Aa1, na1, ca1, rfl, ha0, ha1⟩ := h
 obtain ⟨Ab0, nb0, cb0, Ab1, nb1, cb1, rfl, hb0, hb1⟩ := h'
 show Calls Tryz.prog 34 #[.agg #[.slice Aa0 na0 ca0, .slice Aa1 na1 ca1], .agg #[.slice Ab0 nb0 cb0, .slice Ab1 nb1 cb1]] w _
 have Hha0 := Lib.hid ha0
 clear ha0
 have Hha1 := Lib.hid ha1
 clear ha1
 have Hhb0 := Lib.hid hb0
 clear hb0
 have Hhb1 := Lib.hid hb1
 clear hb1
 go_enter Tryz.func34, Tryz.ntmps34
 go_wp2_with fail
 refine (eqIntS_yes _ _ _ _ _ _ refs_ _ _ _ _ _ (SliceR.below Hha0.out bel2 (IntR.below bel2 Hha0.out.lo_le)) (SliceR.below Hhb0.out bel2 (IntR.below bel2 Hhb0.out.lo_le))).mono ?_
 rintro e w1 ⟨rfl, hb1⟩
 have X1 : Below w.heap.size w w1 := bel2.trans (hb1.mono (by first | exact bel2.size | (simp <;> omega)))
 have c1_0_0 : w1.cell? ⟨w.heap.size, 0, none⟩ = some (.slice Aa0 na0 ca0) := (hb1.cell (by simp <;> omega)).trans (by simp [go_sem])
 have c1_0_1 : w1.cell? ⟨w.heap.size, 1, none⟩ = some (.slice Aa1 na1 ca1) := (hb1.cell (by simp <;> omega)).trans (by simp [go_sem])
 have c1_1_0 : w1.cell? ⟨w.heap.size + 1, 0, none⟩ = some (.slice Ab0 nb0 cb0) := (hb1.cell (by simp <;> omega)).trans (by simp [go_sem])
 have c1_1_1 : w1.cell? ⟨w.heap.size + 1, 1, none⟩ = some (.slice Ab1 nb1 cb1) := (hb1.cell (by simp <;> omega)).trans (by simp [go_sem])
 clear hb1
 go_wp2_with fail
 refine (eqIntS_yes _ _ _ _ _ _ last_ _ _ _ _ _ (SliceR.below Hha1.out X1 (IntR.below X1 Hha1.out.lo_le)) (SliceR.below Hhb1.out X1 (IntR.below X1 Hhb1.out.lo_le))).mono ?_
 rintro e w2 ⟨rfl, hb2⟩
 have X2 : Below w.heap.size w w2 := X1.trans (hb2.mono (by first | exact X1.size | (simp <;> omega)))
 have c2_0_0 := (hb2.cell (World.block_lt_of_cell? _ _ c1_0_0)).trans c1_0_0
 have c2_0_1 := (hb2.cell (World.block_lt_of_cell? _ _ c1_0_1)).trans c1_0_1
 have c2_1_0 := (hb2.cell (World.block_lt_of_cell? _ _ c1_1_0)).trans c1_1_0
 have c2_1_1 := (hb2.cell (World.block_lt_of_cell? _ _ c1_1_1)).trans c1_1_1
 clear c1_0_0 c1_0_1 c1_1_0 c1_1_1
 clear hb2 X1
 go_wp2_with fail
 go_ret
 exact ⟨rfl, X2⟩
set_option maxRecDepth 100000 in
set_option maxHeartbeats 2000000 in
theorem szSpaceR_any (cs : List Value) (x : SpaceD) (w : World) (lo hi : Nat) (left : Int) (h : SpaceR w lo hi cs x) (h0 : 0 ≤ left) (h1 : left ≤ 1048576) :
 Calls Tryz.prog 25 #[.agg cs.toArray, .int .i64 left] w (SzPost (sizeSpace x) left w) := by
 obtain ⟨refs_, last_⟩ := x
 obtain ⟨Aa0, na0, ca0, Aa1, na1, ca1, rfl, ha0, ha1⟩ := h
 show Calls Tryz.prog 25 #[.agg #[.slice Aa0 na0 ca0, .slice Aa1 na1 ca1], .int .i64 left] w _
 have Hha0 := Lib.hid ha0
 have Nha0 := Hha0.out.max
 clear ha0
 have Hha1 := Lib.hid ha1
 have Nha1 := Hha1.out.max
 clear ha1
 go_enter Tryz.func25, Tryz.ntmps25
 go_wp2_with fail
 refine (szIntSR_any _ _ _ refs_ _ lo hi (left) (SliceR.below Hha0.out bel1 (IntR.below bel1 Hha0.out.lo_le)) (by omega) (by omega)).mono ?_
 rintro e w1 ⟨r1, rfl, p1, o1, s1, hb1⟩
 have P1 := Lib.hid s1; clear s1
 have X1 : Below w.heap.size w w1 := Below.trans bel1 (hb1.mono (by first | exact bel1.size | (simp <;> omega)))
 have c1_0 : w1.cell? ⟨w.heap.size, 0, none⟩ = some (.slice Aa0 na0 ca0) := (hb1.cell (by simp)).trans (by simp [go_sem])
 have c1_1 : w1.cell? ⟨w.heap.size, 1, none⟩ = some (.slice Aa1 na1 ca1) := (hb1.cell (by simp)).trans (by simp [go_sem])
 clear hb1
 by_cases q1 : r1 < 0
 · go_wp2_with fail
   go_ret
   exact ⟨-1, rfl, by omega, by omega, fun h => by omega, X1⟩
 go_wp2_with fail
 refine (szIntSR_any _ _ _ last_ _ lo hi (r1) (SliceR.below Hha1.out X1 (IntR.below X1 Hha1.out.lo_le)) (by omega) (by omega)).mono ?_
 rintro e w2 ⟨r2, rfl, p2, o2, s2, hb2⟩
 have P2 := Lib.hid s2; clear s2
 have X2 : Below w.heap.size w w2 := Below.trans X1 (hb2.mono (by first | exact X1.size | (simp <;> omega)))
 have c2_0 := (hb2.cell (World.block_lt_of_cell? _ _ c1_0)).trans c1_0
 have c2_1 := (hb2.cell (World.block_lt_of_cell? _ _ c1_1)).trans c1_1
 clear c1_0 c1_1
 clear hb2
 by_cases q2 : r2 < 0
 · go_wp2_with fail
   go_ret
   exact ⟨-1, rfl, by omega, by omega, fun h => by omega, X2⟩
 go_wp2_with fail
 go_ret
 have P1 := P1.out (by omega)
 have P2 := P2.out (by omega)
 exact ⟨r2, rfl, by omega, by omega, fun _ => by show ((refs_.length + last_.length : Nat) : Int) ≤ _; omega, X2⟩
set_option maxHeartbeats 1000000 in
theorem eqStore_yes (cs cs' : List Value) (x : StoreD) (w : World) (lo hi lo' hi' : Nat) (h : StoreR w lo hi cs x) (h' : StoreR w lo' hi' cs' x) :
 Calls Tryz.prog 13 #[.agg cs.toArray, .agg cs'.toArray] w fun e w' => e = .returned (.bool true) ∧ Below w.heap.size w w' := by
 obtain ⟨rows_, ⟨space_refs_, space_last_⟩, txg_, gone_, keep_, dead_, same_⟩ := x
 obtain ⟨Aa0, na0, ca0, Aa1, na1, ca1, Aa2, na2, ca2, Aa3, na3, ca3, Aa4, na4, ca4, rfl, ha0, ha1, ha2, ha3, ha4⟩ := h
 obtain ⟨Ab0, nb0, cb0, Ab1, nb1, cb1, Ab2, nb2, cb2, Ab3, nb3, cb3, Ab4, nb4, cb4, rfl, hb0, hb1, hb2, hb3, hb4⟩ := h'
 show Calls Tryz.prog 13 #[.agg #[.slice Aa0 na0 ca0, .slice Aa1 na1 ca1, .slice Aa2 na2 ca2, .int .i64 txg_, .slice Aa3 na3 ca3, .int .i64 keep_, .slice Aa4 na4 ca4, .bool same_], .agg #[.slice Ab0 nb0 cb0, .slice Ab1 nb1 cb1, .slice Ab2 nb2 cb2, .int .i64 txg_, .slice Ab3 nb3 cb3, .int .i64 keep_, .slice Ab4 nb4 cb4, .bool same_]] w _
 have Hha0 := Lib.hid ha0
 clear ha0
 have Hha1 := Lib.hid ha1
 clear ha1
 have Hha2 := Lib.hid ha2
 clear ha2
 have Hha3 := Lib.hid ha3
 clear ha3
 have Hha4 := Lib.hid ha4
 clear ha4
 have Hhb0 := Lib.hid hb0
 clear hb0
 have Hhb1 := Lib.hid hb1
 clear hb1
 have Hhb2 := Lib.hid hb2
 clear hb2
 have Hhb3 := Lib.hid hb3
 clear hb3
 have Hhb4 := Lib.hid hb4
 clear hb4
 go_enter Tryz.func13, Tryz.ntmps13
 go_wp2_with fail
 refine (eqStringS_yes _ _ _ _ _ _ rows_ _ _ _ _ _ (SliceR.below Hha0.out bel2 (StrR.below bel2 Hha0.out.lo_le)) (SliceR.below Hhb0.out bel2 (StrR.below bel2 Hhb0.out.lo_le))).mono ?_
 rintro e w1 ⟨rfl, hb1⟩
 have X1 : Below w.heap.size w w1 := bel2.trans (hb1.mono (by first | exact bel2.size | (simp <;> omega)))
 have c1_0_0 : w1.cell? ⟨w.heap.size, 0, none⟩ = some (.slice Aa0 na0 ca0) := (hb1.cell (by simp <;> omega)).trans (by simp [go_sem])
 have c1_0_1 : w1.cell? ⟨w.heap.size, 1, none⟩ = some (.slice Aa1 na1 ca1) := (hb1.cell (by simp <;> omega)).trans (by simp [go_sem])
 have c1_0_2 : w1.cell? ⟨w.heap.size, 2, none⟩ = some (.slice Aa2 na2 ca2) := (hb1.cell (by simp <;> omega)).trans (by simp [go_sem])
 have c1_0_3 : w1.cell? ⟨w.heap.size, 3, none⟩ = some (.int .i64 txg_) := (hb1.cell (by simp <;> omega)).trans (by simp [go_sem])
 have c1_0_4 : w1.cell? ⟨w.heap.size, 4, none⟩ = some (.slice Aa3 na3 ca3) := (hb1.cell (by simp <;> omega)).trans (by simp [go_sem])
 have c1_0_5 : w1.cell? ⟨w.heap.size, 5, none⟩ = some (.int .i64 keep_) := (hb1.cell (by simp <;> omega)).trans (by simp [go_sem])
 have c1_0_6 : w1.cell? ⟨w.heap.size, 6, none⟩ = some (.slice Aa4 na4 ca4) := (hb1.cell (by simp <;> omega)).trans (by simp [go_sem])
 have c1_0_7 : w1.cell? ⟨w.heap.size, 7, none⟩ = some (.bool same_) := (hb1.cell (by simp <;> omega)).trans (by simp [go_sem])
 have c1_1_0 : w1.cell? ⟨w.heap.size + 1, 0, none⟩ = some (.slice Ab0 nb0 cb0) := (hb1.cell (by simp <;> omega)).trans (by simp [go_sem])
 have c1_1_1 : w1.cell? ⟨w.heap.size + 1, 1, none⟩ = some (.slice Ab1 nb1 cb1) := (hb1.cell (by simp <;> omega)).trans (by simp [go_sem])
 have c1_1_2 : w1.cell? ⟨w.heap.size + 1, 2, none⟩ = some (.slice Ab2 nb2 cb2) := (hb1.cell (by simp <;> omega)).trans (by simp [go_sem])
 have c1_1_3 : w1.cell? ⟨w.heap.size + 1, 3, none⟩ = some (.int .i64 txg_) := (hb1.cell (by simp <;> omega)).trans (by simp [go_sem])
 have c1_1_4 : w1.cell? ⟨w.heap.size + 1, 4, none⟩ = some (.slice Ab3 nb3 cb3) := (hb1.cell (by simp <;> omega)).trans (by simp [go_sem])
 have c1_1_5 : w1.cell? ⟨w.heap.size + 1, 5, none⟩ = some (.int .i64 keep_) := (hb1.cell (by simp <;> omega)).trans (by simp [go_sem])
 have c1_1_6 : w1.cell? ⟨w.heap.size + 1, 6, none⟩ = some (.slice Ab4 nb4 cb4) := (hb1.cell (by simp <;> omega)).trans (by simp [go_sem])
 have c1_1_7 : w1.cell? ⟨w.heap.size + 1, 7, none⟩ = some (.bool same_) := (hb1.cell (by simp <;> omega)).trans (by simp [go_sem])
 clear hb1
 go_wp2_with fail
 refine (eqSpace_yes [.slice Aa1 na1 ca1, .slice Aa2 na2 ca2] [.slice Ab1 nb1 cb1, .slice Ab2 nb2 cb2] (space_refs_, space_last_) _ 0 _ 0 _ ⟨Aa1, na1, ca1, Aa2, na2, ca2, rfl, SliceR.wide (SliceR.below Hha1.out X1 (IntR.below X1 Hha1.out.lo_le)) (Nat.zero_le _) (Nat.le_trans Hha1.out.lo_le (X1).size) (Nat.le_refl _) (IntR.wide (Nat.zero_le _) (Nat.le_trans Hha1.out.lo_le (X1).size) (Nat.le_refl _)), SliceR.wide (SliceR.below Hha2.out X1 (IntR.below X1 Hha2.out.lo_le)) (Nat.zero_le _) (Nat.le_trans Hha2.out.lo_le (X1).size) (Nat.le_refl _) (IntR.wide (Nat.zero_le _) (Nat.le_trans Hha2.out.lo_le (X1).size) (Nat.le_refl _))⟩ ⟨Ab1, nb1, cb1, Ab2, nb2, cb2, rfl, SliceR.wide (SliceR.below Hhb1.out X1 (IntR.below X1 Hhb1.out.lo_le)) (Nat.zero_le _) (Nat.le_trans Hhb1.out.lo_le (X1).size) (Nat.le_refl _) (IntR.wide (Nat.zero_le _) (Nat.le_trans Hhb1.out.lo_le (X1).size) (Nat.le_refl _)), SliceR.wide (SliceR.below Hhb2.out X1 (IntR.below X1 Hhb2.out.lo_le)) (Nat.zero_le _) (Nat.le_trans Hhb2.out.lo_le (X1).size) (Nat.le_refl _) (IntR.wide (Nat.zero_le _) (Nat.le_trans Hhb2.out.lo_le (X1).size) (Nat.le_refl _))⟩).mono ?_
 rintro e w2 ⟨rfl, hb2⟩
 have X2 : Below w.heap.size w w2 := X1.trans (hb2.mono (by first | exact X1.size | (simp <;> omega)))
 have c2_0_0 := (hb2.cell (World.block_lt_of_cell? _ _ c1_0_0)).trans c1_0_0
 have c2_0_1 := (hb2.cell (World.block_lt_of_cell? _ _ c1_0_1)).trans c1_0_1
 have c2_0_2 := (hb2.cell (World.block_lt_of_cell? _ _ c1_0_2)).trans c1_0_2
 have c2_0_3 := (hb2.cell (World.block_lt_of_cell? _ _ c1_0_3)).trans c1_0_3
 have c2_0_4 := (hb2.cell (World.block_lt_of_cell? _ _ c1_0_4)).trans c1_0_4
 have c2_0_5 := (hb2.cell (World.block_lt_of_cell? _ _ c1_0_5)).trans c1_0_5
 have c2_0_6 := (hb2.cell (World.block_lt_of_cell? _ _ c1_0_6)).trans c1_0_6
 have c2_0_7 := (hb2.cell (World.block_lt_of_cell? _ _ c1_0_7)).trans c1_0_7
 have c2_1_0 := (hb2.cell (World.block_lt_of_cell? _ _ c1_1_0)).trans c1_1_0
 have c2_1_1 := (hb2.cell (World.block_lt_of_cell? _ _ c1_1_1)).trans c1_1_1
 have c2_1_2 := (hb2.cell (World.block_lt_of_cell? _ _ c1_1_2)).trans c1_1_2
 have c2_1_3 := (hb2.cell (World.block_lt_of_cell? _ _ c1_1_3)).trans c1_1_3
 have c2_1_4 := (hb2.cell (World.block_lt_of_cell? _ _ c1_1_4)).trans c1_1_4
 have c2_1_5 := (hb2.cell (World.block_lt_of_cell? _ _ c1_1_5)).trans c1_1_5
 have c2_1_6 := (hb2.cell (World.block_lt_of_cell? _ _ c1_1_6)).trans c1_1_6
 have c2_1_7 := (hb2.cell (World.block_lt_of_cell? _ _ c1_1_7)).trans c1_1_7
 clear c1_0_0 c1_0_1 c1_0_2 c1_0_3 c1_0_4 c1_0_5 c1_0_6 c1_0_7 c1_1_0 c1_1_1 c1_1_2 c1_1_3 c1_1_4 c1_1_5 c1_1_6 c1_1_7
 clear hb2 X1
 go_wp2_with fail
 refine (eqPtrS_yes _ _ _ _ _ _ gone_ _ _ _ _ _ (SliceR.below Hha3.out X2 (PtrR.below X2 Hha3.out.lo_le)) (SliceR.below Hhb3.out X2 (PtrR.below X2 Hhb3.out.lo_le))).mono ?_
 rintro e w3 ⟨rfl, hb3⟩
 have X3 : Below w.heap.size w w3 := X2.trans (hb3.mono (by first | exact X2.size | (simp <;> omega)))
 have c3_0_0 := (hb3.cell (World.block_lt_of_cell? _ _ c2_0_0)).trans c2_0_0
 have c3_0_1 := (hb3.cell (World.block_lt_of_cell? _ _ c2_0_1)).trans c2_0_1
 have c3_0_2 := (hb3.cell (World.block_lt_of_cell? _ _ c2_0_2)).trans c2_0_2
 have c3_0_3 := (hb3.cell (World.block_lt_of_cell? _ _ c2_0_3)).trans c2_0_3
 have c3_0_4 := (hb3.cell (World.block_lt_of_cell? _ _ c2_0_4)).trans c2_0_4
 have c3_0_5 := (hb3.cell (World.block_lt_of_cell? _ _ c2_0_5)).trans c2_0_5
 have c3_0_6 := (hb3.cell (World.block_lt_of_cell? _ _ c2_0_6)).trans c2_0_6
 have c3_0_7 := (hb3.cell (World.block_lt_of_cell? _ _ c2_0_7)).trans c2_0_7
 have c3_1_0 := (hb3.cell (World.block_lt_of_cell? _ _ c2_1_0)).trans c2_1_0
 have c3_1_1 := (hb3.cell (World.block_lt_of_cell? _ _ c2_1_1)).trans c2_1_1
 have c3_1_2 := (hb3.cell (World.block_lt_of_cell? _ _ c2_1_2)).trans c2_1_2
 have c3_1_3 := (hb3.cell (World.block_lt_of_cell? _ _ c2_1_3)).trans c2_1_3
 have c3_1_4 := (hb3.cell (World.block_lt_of_cell? _ _ c2_1_4)).trans c2_1_4
 have c3_1_5 := (hb3.cell (World.block_lt_of_cell? _ _ c2_1_5)).trans c2_1_5
 have c3_1_6 := (hb3.cell (World.block_lt_of_cell? _ _ c2_1_6)).trans c2_1_6
 have c3_1_7 := (hb3.cell (World.block_lt_of_cell? _ _ c2_1_7)).trans c2_1_7
 clear c2_0_0 c2_0_1 c2_0_2 c2_0_3 c2_0_4 c2_0_5 c2_0_6 c2_0_7 c2_1_0 c2_1_1 c2_1_2 c2_1_3 c2_1_4 c2_1_5 c2_1_6 c2_1_7
 clear hb3 X2
 go_wp2_with fail
 refine (eqPtrS_yes _ _ _ _ _ _ dead_ _ _ _ _ _ (SliceR.below Hha4.out X3 (PtrR.below X3 Hha4.out.lo_le)) (SliceR.below Hhb4.out X3 (PtrR.below X3 Hhb4.out.lo_le))).mono ?_
 rintro e w4 ⟨rfl, hb4⟩
 have X4 : Below w.heap.size w w4 := X3.trans (hb4.mono (by first | exact X3.size | (simp <;> omega)))
 have c4_0_0 := (hb4.cell (World.block_lt_of_cell? _ _ c3_0_0)).trans c3_0_0
 have c4_0_1 := (hb4.cell (World.block_lt_of_cell? _ _ c3_0_1)).trans c3_0_1
 have c4_0_2 := (hb4.cell (World.block_lt_of_cell? _ _ c3_0_2)).trans c3_0_2
 have c4_0_3 := (hb4.cell (World.block_lt_of_cell? _ _ c3_0_3)).trans c3_0_3
 have c4_0_4 := (hb4.cell (World.block_lt_of_cell? _ _ c3_0_4)).trans c3_0_4
 have c4_0_5 := (hb4.cell (World.block_lt_of_cell? _ _ c3_0_5)).trans c3_0_5
 have c4_0_6 := (hb4.cell (World.block_lt_of_cell? _ _ c3_0_6)).trans c3_0_6
 have c4_0_7 := (hb4.cell (World.block_lt_of_cell? _ _ c3_0_7)).trans c3_0_7
 have c4_1_0 := (hb4.cell (World.block_lt_of_cell? _ _ c3_1_0)).trans c3_1_0
 have c4_1_1 := (hb4.cell (World.block_lt_of_cell? _ _ c3_1_1)).trans c3_1_1
 have c4_1_2 := (hb4.cell (World.block_lt_of_cell? _ _ c3_1_2)).trans c3_1_2
 have c4_1_3 := (hb4.cell (World.block_lt_of_cell? _ _ c3_1_3)).trans c3_1_3
 have c4_1_4 := (hb4.cell (World.block_lt_of_cell? _ _ c3_1_4)).trans c3_1_4
 have c4_1_5 := (hb4.cell (World.block_lt_of_cell? _ _ c3_1_5)).trans c3_1_5
 have c4_1_6 := (hb4.cell (World.block_lt_of_cell? _ _ c3_1_6)).trans c3_1_6
 have c4_1_7 := (hb4.cell (World.block_lt_of_cell? _ _ c3_1_7)).trans c3_1_7
 clear c3_0_0 c3_0_1 c3_0_2 c3_0_3 c3_0_4 c3_0_5 c3_0_6 c3_0_7 c3_1_0 c3_1_1 c3_1_2 c3_1_3 c3_1_4 c3_1_5 c3_1_6 c3_1_7
 clear hb4 X3
 go_wp2_with fail
 go_ret
 exact ⟨rfl, X4⟩
set_option maxRecDepth 100000 in
set_option maxHeartbeats 2000000 in
theorem szStore_any (cs : List Value) (x : StoreD) (w : World) (lo hi : Nat) (left : Int) (h : StoreR w lo hi cs x) (h0 : 0 ≤ left) (h1 : left ≤ 1048576) :
 Calls Tryz.prog 7 #[.agg cs.toArray, .int .i64 left] w (SzPost (sizeStore x) left w) := by
 obtain ⟨rows_, ⟨space_refs_, space_last_⟩, txg_, gone_, keep_, dead_, same_⟩ := x
 obtain ⟨Aa0, na0, ca0, Aa1, na1, ca1, Aa2, na2, ca2, Aa3, na3, ca3, Aa4, na4, ca4, rfl, ha0, ha1, ha2, ha3, ha4⟩ := h
 show Calls Tryz.prog 7 #[.agg #[.slice Aa0 na0 ca0, .slice Aa1 na1 ca1, .slice Aa2 na2 ca2, .int .i64 txg_, .slice Aa3 na3 ca3, .int .i64 keep_, .slice Aa4 na4 ca4, .bool same_], .int .i64 left] w _
 have Hha0 := Lib.hid ha0
 have Nha0 := Hha0.out.max
 clear ha0
 have Hha1 := Lib.hid ha1
 have Nha1 := Hha1.out.max
 clear ha1
 have Hha2 := Lib.hid ha2
 have Nha2 := Hha2.out.max
 clear ha2
 have Hha3 := Lib.hid ha3
 have Nha3 := Hha3.out.max
 clear ha3
 have Hha4 := Lib.hid ha4
 have Nha4 := Hha4.out.max
 clear ha4
 go_enter Tryz.func7, Tryz.ntmps7
 go_wp2_with fail
 refine (szStringS_any _ _ _ rows_ _ lo hi (left) (SliceR.below Hha0.out bel1 (StrR.below bel1 Hha0.out.lo_le)) (by omega) (by omega)).mono ?_
 rintro e w1 ⟨r1, rfl, p1, o1, s1, hb1⟩
 have P1 := Lib.hid s1; clear s1
 have X1 : Below w.heap.size w w1 := Below.trans bel1 (hb1.mono (by first | exact bel1.size | (simp <;> omega)))
 have c1_0 : w1.cell? ⟨w.heap.size, 0, none⟩ = some (.slice Aa0 na0 ca0) := (hb1.cell (by simp)).trans (by simp [go_sem])
 have c1_1 : w1.cell? ⟨w.heap.size, 1, none⟩ = some (.slice Aa1 na1 ca1) := (hb1.cell (by simp)).trans (by simp [go_sem])
 have c1_2 : w1.cell? ⟨w.heap.size, 2, none⟩ = some (.slice Aa2 na2 ca2) := (hb1.cell (by simp)).trans (by simp [go_sem])
 have c1_3 : w1.cell? ⟨w.heap.size, 3, none⟩ = some (.int .i64 txg_) := (hb1.cell (by simp)).trans (by simp [go_sem])
 have c1_4 : w1.cell? ⟨w.heap.size, 4, none⟩ = some (.slice Aa3 na3 ca3) := (hb1.cell (by simp)).trans (by simp [go_sem])
 have c1_5 : w1.cell? ⟨w.heap.size, 5, none⟩ = some (.int .i64 keep_) := (hb1.cell (by simp)).trans (by simp [go_sem])
 have c1_6 : w1.cell? ⟨w.heap.size, 6, none⟩ = some (.slice Aa4 na4 ca4) := (hb1.cell (by simp)).trans (by simp [go_sem])
 have c1_7 : w1.cell? ⟨w.heap.size, 7, none⟩ = some (.bool same_) := (hb1.cell (by simp)).trans (by simp [go_sem])
 clear hb1
 by_cases q1 : r1 < 0
 · go_wp2_with fail
   go_ret
   exact ⟨-1, rfl, by omega, by omega, fun h => by omega, X1⟩
 go_wp2_with fail
 refine (szSpaceR_any [.slice Aa1 na1 ca1, .slice Aa2 na2 ca2] (space_refs_, space_last_) _ 0 _ (r1) ⟨_, _, _, _, _, _, rfl, SliceR.wide (SliceR.below Hha1.out X1 (IntR.below X1 Hha1.out.lo_le)) (Nat.zero_le _) (Nat.le_trans Hha1.out.lo_le (X1).size) (Nat.le_refl _) (IntR.wide (Nat.zero_le _) (Nat.le_trans Hha1.out.lo_le (X1).size) (Nat.le_refl _)), SliceR.wide (SliceR.below Hha2.out X1 (IntR.below X1 Hha2.out.lo_le)) (Nat.zero_le _) (Nat.le_trans Hha2.out.lo_le (X1).size) (Nat.le_refl _) (IntR.wide (Nat.zero_le _) (Nat.le_trans Hha2.out.lo_le (X1).size) (Nat.le_refl _))⟩ (by omega) (by omega)).mono ?_
 rintro e w2 ⟨r2, rfl, p2, o2, s2, hb2⟩
 have P2 : Hid (0 ≤ r2 → ((space_refs_.length + space_last_.length : Nat) : Int) ≤ r1 - r2) := Lib.hid s2; clear s2
 have X2 : Below w.heap.size w w2 := Below.trans X1 (hb2.mono (by first | exact X1.size | (simp <;> omega)))
 have c2_0 := (hb2.cell (World.block_lt_of_cell? _ _ c1_0)).trans c1_0
 have c2_1 := (hb2.cell (World.block_lt_of_cell? _ _ c1_1)).trans c1_1
 have c2_2 := (hb2.cell (World.block_lt_of_cell? _ _ c1_2)).trans c1_2
 have c2_3 := (hb2.cell (World.block_lt_of_cell? _ _ c1_3)).trans c1_3
 have c2_4 := (hb2.cell (World.block_lt_of_cell? _ _ c1_4)).trans c1_4
 have c2_5 := (hb2.cell (World.block_lt_of_cell? _ _ c1_5)).trans c1_5
 have c2_6 := (hb2.cell (World.block_lt_of_cell? _ _ c1_6)).trans c1_6
 have c2_7 := (hb2.cell (World.block_lt_of_cell? _ _ c1_7)).trans c1_7
 clear c1_0 c1_1 c1_2 c1_3 c1_4 c1_5 c1_6 c1_7
 clear hb2
 by_cases q2 : r2 < 0
 · go_wp2_with fail
   go_ret
   exact ⟨-1, rfl, by omega, by omega, fun h => by omega, X2⟩
 go_wp2_with fail
 refine (szPtrS_any _ _ _ gone_ _ lo hi (r2) (SliceR.below Hha3.out X2 (PtrR.below X2 Hha3.out.lo_le)) (by omega) (by omega)).mono ?_
 rintro e w3 ⟨r3, rfl, p3, o3, s3, hb3⟩
 have P3 := Lib.hid s3; clear s3
 have X3 : Below w.heap.size w w3 := Below.trans X2 (hb3.mono (by first | exact X2.size | (simp <;> omega)))
 have c3_0 := (hb3.cell (World.block_lt_of_cell? _ _ c2_0)).trans c2_0
 have c3_1 := (hb3.cell (World.block_lt_of_cell? _ _ c2_1)).trans c2_1
 have c3_2 := (hb3.cell (World.block_lt_of_cell? _ _ c2_2)).trans c2_2
 have c3_3 := (hb3.cell (World.block_lt_of_cell? _ _ c2_3)).trans c2_3
 have c3_4 := (hb3.cell (World.block_lt_of_cell? _ _ c2_4)).trans c2_4
 have c3_5 := (hb3.cell (World.block_lt_of_cell? _ _ c2_5)).trans c2_5
 have c3_6 := (hb3.cell (World.block_lt_of_cell? _ _ c2_6)).trans c2_6
 have c3_7 := (hb3.cell (World.block_lt_of_cell? _ _ c2_7)).trans c2_7
 clear c2_0 c2_1 c2_2 c2_3 c2_4 c2_5 c2_6 c2_7
 clear hb3
 by_cases q3 : r3 < 0
 · go_wp2_with fail
   go_ret
   exact ⟨-1, rfl, by omega, by omega, fun h => by omega, X3⟩
 go_wp2_with fail
 refine (szPtrS_any _ _ _ dead_ _ lo hi (r3) (SliceR.below Hha4.out X3 (PtrR.below X3 Hha4.out.lo_le)) (by omega) (by omega)).mono ?_
 rintro e w4 ⟨r4, rfl, p4, o4, s4, hb4⟩
 have P4 := Lib.hid s4; clear s4
 have X4 : Below w.heap.size w w4 := Below.trans X3 (hb4.mono (by first | exact X3.size | (simp <;> omega)))
 have c4_0 := (hb4.cell (World.block_lt_of_cell? _ _ c3_0)).trans c3_0
 have c4_1 := (hb4.cell (World.block_lt_of_cell? _ _ c3_1)).trans c3_1
 have c4_2 := (hb4.cell (World.block_lt_of_cell? _ _ c3_2)).trans c3_2
 have c4_3 := (hb4.cell (World.block_lt_of_cell? _ _ c3_3)).trans c3_3
 have c4_4 := (hb4.cell (World.block_lt_of_cell? _ _ c3_4)).trans c3_4
 have c4_5 := (hb4.cell (World.block_lt_of_cell? _ _ c3_5)).trans c3_5
 have c4_6 := (hb4.cell (World.block_lt_of_cell? _ _ c3_6)).trans c3_6
 have c4_7 := (hb4.cell (World.block_lt_of_cell? _ _ c3_7)).trans c3_7
 clear c3_0 c3_1 c3_2 c3_3 c3_4 c3_5 c3_6 c3_7
 clear hb4
 by_cases q4 : r4 < 0
 · go_wp2_with fail
   go_ret
   exact ⟨-1, rfl, by omega, by omega, fun h => by omega, X4⟩
 go_wp2_with fail
 go_ret
 have P1 := P1.out (by omega)
 have P2 := P2.out (by omega)
 have P3 := P3.out (by omega)
 have P4 := P4.out (by omega)
 exact ⟨r4, rfl, by omega, by omega, fun _ => by show ((rows_.length + (rows_.map ByteArray.size).sum + space_refs_.length + space_last_.length + gone_.length + dead_.length : Nat) : Int) ≤ _; omega, X4⟩
end Go.Proofs.YtjnhiiaejeaikaaGreatDoor
