/- FnStoreNew: the walk. No condition. -/
import Derived.Test.YtffieobjcipeoaaStoreRoom
import Derived.Test.YtffieobjcipeoaaFamREq
import Derived.Test.YtffieobjcipeoaaRd
namespace Go.Proofs.Ytffieobjcipeoaa
set_option linter.unnecessarySimpa false
open Go.RowKit
set_option linter.unusedVariables false
set_option linter.unusedSimpArgs false

theorem z64_len : z64.length = 64 := by simp [z64]
theorem z64_ok : spOk z64 z64 = true := by
  rw [spOk_iff]
  refine ⟨z64_len, z64_len, fun i hi => ?_⟩
  rw [z64_get]
  unfold rowOk
  omega
theorem z64_roomTo : roomTo z64 56 = 56 := by unfold roomTo z64; decide +kernel
def nsD (same : Bool) : StoreD := (e64, (z64, z64), 1, [], 0, [], same)
theorem e64_get (i : Nat) : e64.getD i ByteArray.empty = ByteArray.empty := by
  unfold e64
  rw [List.getD_eq_getElem?_getD, List.getElem?_replicate]
  split <;> rfl
theorem nsD_ok (same : Bool) : StoreOk (nsD same) where
  len := by simp [nsD, e64]
  sp := z64_ok
  txg := by show inB 1 1 900 = true; decide
  keep := by show inB 0 0 (1 - 1) = true; decide
  last := fun i hi => by show z64.getD i 0 ≤ 1; rw [z64_get]; omega
  rows := fun i hi => by
    show rowT (z64.getD i 0) (e64.getD i ByteArray.empty)
    rw [z64_get, e64_get]
    exact ⟨by show (0 : Nat) ≤ 128; omega, ⟨fun _ => rfl, fun _ => rfl⟩⟩
  gone := fun p hp => by simp [nsD] at hp
  dead := fun p hp => by simp [nsD] at hp
  owed := fun i hi => by show ((cntP [] i + cntP [] i : Nat) : Int) ≤ z64.getD i 0; rw [z64_get]; simp [cntP_nil]
theorem nsD_room (same : Bool) : roomS (nsD same) = (56, 56) := by
  unfold roomS
  rw [if_pos (storeOk_yes (nsD_ok same))]
  show ((roomTo z64 56 : Int), (roomTo z64 56 : Int)) = _
  rw [z64_roomTo]; rfl
theorem noPtrs {w : World} {lo hi : Nat} (X : Option Addr) (h : hi ≤ w.heap.size) : SliceR PtrR 5 w lo hi X 0 0 [] := ⟨rfl, Nat.le_refl _, Nat.zero_le _, h, fun _ => rfl, fun h => absurd h (Nat.lt_irrefl _)⟩
theorem OwnI.sliceR {w : World} {g n c : Nat} {xs : List Int} (h : OwnI w g n c xs) {lo hi : Nat} (h1 : lo ≤ g) (h2 : g < hi) (h3 : hi ≤ w.heap.size) (hn : n ≤ maxLen) (hc : n ≤ c) : SliceR IntR 1 w lo hi (some ⟨g, 0, none⟩) n c xs := by
  refine ⟨h.len, hc, hn, h3, (fun e => by cases e), fun _ => ⟨g, 0, rfl, h1, h2, fun j x hx => ?_⟩⟩
  obtain ⟨hj, rfl⟩ := List.getElem?_eq_some_iff.1 hx
  refine ⟨[.int .i64 xs[j]], rfl, fun i v hv => ?_, rfl⟩
  match i, hv with
  | 0, hv =>
    simp at hv; subst hv
    have := h.cell (j := j) (by rw [← h.len]; exact hj)
    rw [List.getD_eq_getElem?_getD, List.getElem?_eq_getElem hj] at this
    simpa using this
  | i + 1, hv => simp at hv
theorem nsD_R {w : World} {same : Bool} {r g h c d : Nat} {X Y : Option Addr} (hr : EmptyS r w) (og : OwnI w g 64 c z64) (oh : OwnI w h 64 d z64) (hc : 64 ≤ c) (hd : 64 ≤ d) : StoreR w 0 w.heap.size [.slice (some ⟨r, 0, none⟩) 64 64, .slice (some ⟨g, 0, none⟩) 64 c, .slice (some ⟨h, 0, none⟩) 64 d, .int .i64 1, .slice X 0 0, .int .i64 0, .slice Y 0 0, .bool same] (nsD same) :=
  ⟨_, _, _, _, _, _, _, _, _, _, _, _, _, _, _, rfl, hr.slice (Nat.zero_le _) hr.lt (Nat.le_refl _), og.sliceR (Nat.zero_le _) og.lt (Nat.le_refl _) (by decide) hc, oh.sliceR (Nat.zero_le _) oh.lt (Nat.le_refl _) (by decide) hd, noPtrs X (Nat.le_refl _), noPtrs Y (Nat.le_refl _)⟩
def DrawnB (w : World) (e : Ending) (w' : World) : Prop := ∃ b : Bool, e = .returned (.bool b) ∧ Below w.heap.size w w'
set_option maxRecDepth 100000 in
set_option maxHeartbeats 1000000 in
theorem drawStoreNew_any (A : Option Addr) (n c : Nat) (zs : List Int) (w : World) (h : BytesIn w A n c zs) : Calls Try.prog 9 #[.slice A n c] w (DrawnB w) := by
  go_enter Try.func9, Try.ntmps9
  go_wp2_with fail
  refine (l6Open_any A n c zs _ h).mono ?_
  rintro e w1 ⟨m, c', ys, rfl, hr, hb1⟩
  have hp1 := hr.2.2.2.1
  go_wp2_with fail
  refine (pick_any w1 _ A m c' ys 0 2 hr (by omega) (by omega) (by omega)).mono ?_
  rintro e w2 ⟨r, rfl, hr2, rd2, hc2, hz2⟩
  go_wp2_with fail
  go_ret
  exact ⟨_, rfl, hb1.trans (hc2.below (fun k _ hk => by simp at hk; omega) hb1.size)⟩
set_option maxRecDepth 100000 in
set_option maxHeartbeats 1000000 in
theorem pfPtrs_nil (X Y : Option Addr) (w : World) : Calls Try.prog 42 #[.slice X 0 0, .slice Y 0 0] w fun e w' => e = .returned (.bool true) ∧ w = w' := by
  go_enter Try.func42, Try.ntmps42
  go_wp2_with fail
  go_loopw [5] (fun i wr => i = .int .i64 0 ∧ SameW wr w) (fun _ _ => 0)
  case atStart => exact ⟨rfl, SameW.refl _⟩
  case round =>
    obtain ⟨rfl, HW⟩ := hrel
    obtain rfl := HW.out
    go_wp2_with fail
    go_ret
    exact ⟨rfl, rfl⟩
theorem z64_eq : eqInts z64 z64 = true := by unfold eqInts; simp
set_option maxRecDepth 100000 in
set_option maxHeartbeats 2000000 in
theorem pfStore_new (same : Bool) (r g h c d : Nat) (X Y : Option Addr) (r' g' h' c' d' : Nat) (X' Y' : Option Addr) (w : World) (hr : EmptyS r w) (og : OwnI w g 64 c z64) (oh : OwnI w h 64 d z64) (hr' : EmptyS r' w) (og' : OwnI w g' 64 c' z64) (oh' : OwnI w h' 64 d' z64) :
    Calls Try.prog 12 #[.agg #[.slice (some ⟨r, 0, none⟩) 64 64, .slice (some ⟨g, 0, none⟩) 64 c, .slice (some ⟨h, 0, none⟩) 64 d, .int .i64 1, .slice X 0 0, .int .i64 0, .slice Y 0 0, .bool same], .agg #[.slice (some ⟨r', 0, none⟩) 64 64, .slice (some ⟨g', 0, none⟩) 64 c', .slice (some ⟨h', 0, none⟩) 64 d', .int .i64 1, .slice X' 0 0, .int .i64 0, .slice Y' 0 0, .bool same]] w fun e w' => e = .returned (.bool true) ∧ Below w.heap.size w w' := by
  have H1 := Lib.hid hr; have H2 := Lib.hid og; have H3 := Lib.hid oh; have G1 := Lib.hid hr'; have G2 := Lib.hid og'; have G3 := Lib.hid oh'
  clear hr og oh hr' og' oh'
  have E1 := z64_eq
  go_enter Try.func12, Try.ntmps12
  go_wp2_with fail
  refine (pfTexts_yes _ _ _ _ _ _ e64 _ 0 _ 0 _ ((H1.out.keep (bel2.block r H1.out.lt)).slice (Nat.zero_le _) (H1.out.keep (w' := _) (bel2.block r H1.out.lt)).lt (Nat.le_refl _)) ((G1.out.keep (bel2.block r' G1.out.lt)).slice (Nat.zero_le _) (G1.out.keep (bel2.block r' G1.out.lt)).lt (Nat.le_refl _))).mono ?_
  rintro e w1 ⟨rfl, hb⟩
  have S1 : Below w.heap.size w w1 := bel2.trans (hb.mono (by simp <;> omega))
  have c1_0 : w1.cell? ⟨w.heap.size, 0, none⟩ = some (.slice (some ⟨r, 0, none⟩) 64 64) := (hb.cell (by simp <;> omega)).trans (by simp [go_sem])
  have c1_1 : w1.cell? ⟨w.heap.size, 1, none⟩ = some (.slice (some ⟨g, 0, none⟩) 64 c) := (hb.cell (by simp <;> omega)).trans (by simp [go_sem])
  have c1_2 : w1.cell? ⟨w.heap.size, 2, none⟩ = some (.slice (some ⟨h, 0, none⟩) 64 d) := (hb.cell (by simp <;> omega)).trans (by simp [go_sem])
  have c1_3 : w1.cell? ⟨w.heap.size, 3, none⟩ = some (.int .i64 1) := (hb.cell (by simp <;> omega)).trans (by simp [go_sem])
  have c1_4 : w1.cell? ⟨w.heap.size, 4, none⟩ = some (.slice X 0 0) := (hb.cell (by simp <;> omega)).trans (by simp [go_sem])
  have c1_5 : w1.cell? ⟨w.heap.size, 5, none⟩ = some (.int .i64 0) := (hb.cell (by simp <;> omega)).trans (by simp [go_sem])
  have c1_6 : w1.cell? ⟨w.heap.size, 6, none⟩ = some (.slice Y 0 0) := (hb.cell (by simp <;> omega)).trans (by simp [go_sem])
  have c1_7 : w1.cell? ⟨w.heap.size, 7, none⟩ = some (.bool same) := (hb.cell (by simp <;> omega)).trans (by simp [go_sem])
  have c1_8 : w1.cell? ⟨w.heap.size + 1, 0, none⟩ = some (.slice (some ⟨r', 0, none⟩) 64 64) := (hb.cell (by simp <;> omega)).trans (by simp [go_sem])
  have c1_9 : w1.cell? ⟨w.heap.size + 1, 1, none⟩ = some (.slice (some ⟨g', 0, none⟩) 64 c') := (hb.cell (by simp <;> omega)).trans (by simp [go_sem])
  have c1_10 : w1.cell? ⟨w.heap.size + 1, 2, none⟩ = some (.slice (some ⟨h', 0, none⟩) 64 d') := (hb.cell (by simp <;> omega)).trans (by simp [go_sem])
  have c1_11 : w1.cell? ⟨w.heap.size + 1, 3, none⟩ = some (.int .i64 1) := (hb.cell (by simp <;> omega)).trans (by simp [go_sem])
  have c1_12 : w1.cell? ⟨w.heap.size + 1, 4, none⟩ = some (.slice X' 0 0) := (hb.cell (by simp <;> omega)).trans (by simp [go_sem])
  have c1_13 : w1.cell? ⟨w.heap.size + 1, 5, none⟩ = some (.int .i64 0) := (hb.cell (by simp <;> omega)).trans (by simp [go_sem])
  have c1_14 : w1.cell? ⟨w.heap.size + 1, 6, none⟩ = some (.slice Y' 0 0) := (hb.cell (by simp <;> omega)).trans (by simp [go_sem])
  have c1_15 : w1.cell? ⟨w.heap.size + 1, 7, none⟩ = some (.bool same) := (hb.cell (by simp <;> omega)).trans (by simp [go_sem])
  have l1_0 : w.heap.size < w1.heap.size := World.block_lt_of_cell? _ _ c1_0
  have l1_1 : w.heap.size + 1 < w1.heap.size := World.block_lt_of_cell? _ _ c1_8
  have X1 : Below w.heap.size w w1 := S1
  clear hb
  clear S1
  go_wp2_with fail
  refine (pfSpace_any _ _ _ _ _ _ _ _ _ _ _ _ z64 z64 z64 z64 _ (H2.out.below X1).at_ (H3.out.below X1).at_ (G2.out.below X1).at_ (G3.out.below X1).at_).mono ?_
  rw [E1]
  rintro e w2 ⟨rfl, hb⟩
  have S2 : Below w1.heap.size w1 w2 := hb
  have c2_0 : w2.cell? ⟨w.heap.size, 0, none⟩ = some (.slice (some ⟨r, 0, none⟩) 64 64) := (S2.cell l1_0).trans c1_0
  have c2_1 : w2.cell? ⟨w.heap.size, 1, none⟩ = some (.slice (some ⟨g, 0, none⟩) 64 c) := (S2.cell l1_0).trans c1_1
  have c2_2 : w2.cell? ⟨w.heap.size, 2, none⟩ = some (.slice (some ⟨h, 0, none⟩) 64 d) := (S2.cell l1_0).trans c1_2
  have c2_3 : w2.cell? ⟨w.heap.size, 3, none⟩ = some (.int .i64 1) := (S2.cell l1_0).trans c1_3
  have c2_4 : w2.cell? ⟨w.heap.size, 4, none⟩ = some (.slice X 0 0) := (S2.cell l1_0).trans c1_4
  have c2_5 : w2.cell? ⟨w.heap.size, 5, none⟩ = some (.int .i64 0) := (S2.cell l1_0).trans c1_5
  have c2_6 : w2.cell? ⟨w.heap.size, 6, none⟩ = some (.slice Y 0 0) := (S2.cell l1_0).trans c1_6
  have c2_7 : w2.cell? ⟨w.heap.size, 7, none⟩ = some (.bool same) := (S2.cell l1_0).trans c1_7
  have c2_8 : w2.cell? ⟨w.heap.size + 1, 0, none⟩ = some (.slice (some ⟨r', 0, none⟩) 64 64) := (S2.cell l1_1).trans c1_8
  have c2_9 : w2.cell? ⟨w.heap.size + 1, 1, none⟩ = some (.slice (some ⟨g', 0, none⟩) 64 c') := (S2.cell l1_1).trans c1_9
  have c2_10 : w2.cell? ⟨w.heap.size + 1, 2, none⟩ = some (.slice (some ⟨h', 0, none⟩) 64 d') := (S2.cell l1_1).trans c1_10
  have c2_11 : w2.cell? ⟨w.heap.size + 1, 3, none⟩ = some (.int .i64 1) := (S2.cell l1_1).trans c1_11
  have c2_12 : w2.cell? ⟨w.heap.size + 1, 4, none⟩ = some (.slice X' 0 0) := (S2.cell l1_1).trans c1_12
  have c2_13 : w2.cell? ⟨w.heap.size + 1, 5, none⟩ = some (.int .i64 0) := (S2.cell l1_1).trans c1_13
  have c2_14 : w2.cell? ⟨w.heap.size + 1, 6, none⟩ = some (.slice Y' 0 0) := (S2.cell l1_1).trans c1_14
  have c2_15 : w2.cell? ⟨w.heap.size + 1, 7, none⟩ = some (.bool same) := (S2.cell l1_1).trans c1_15
  have l2_0 : w.heap.size < w2.heap.size := World.block_lt_of_cell? _ _ c2_0
  have l2_1 : w.heap.size + 1 < w2.heap.size := World.block_lt_of_cell? _ _ c2_8
  have X2 : Below w.heap.size w w2 := X1.trans (S2.mono X1.size)
  clear c1_0 c1_1 c1_2 c1_3 c1_4 c1_5 c1_6 c1_7 c1_8 c1_9 c1_10 c1_11 c1_12 c1_13 c1_14 c1_15 l1_0 l1_1 X1 hb
  clear S2
  clear E1
  go_wp2_with fail
  refine (pfPtrs_nil _ _ _).mono ?_
  rintro e w9 ⟨rfl, rfl⟩
  go_wp2_with fail
  refine (pfPtrs_nil _ _ _).mono ?_
  rintro e w9 ⟨rfl, rfl⟩
  have hsm : (same == same) = true := by simp
  go_wp2_with fail
  go_ret
  exact ⟨ret_bool (by simp), X2⟩
set_option maxRecDepth 100000 in
set_option maxHeartbeats 4000000 in
theorem fnStoreNew_walk (A : Option Addr) (n c : Nat) (zs : List Int) (w : World) (hz : BytesIn w A n c zs) :
    Calls Try.prog 3 #[.slice A n c] w fun e w' => e = .returned (.bool true) ∧ Below w.heap.size w w' := by
  by_cases hn : n ≤ 1048576
  rotate_left
  · go_enter Try.func3, Try.ntmps3
    go_wp2_with fail
    go_ret
    exact ⟨rfl, Below.refl _ _⟩
  go_enter Try.func3, Try.ntmps3
  go_wp2_with fail
  refine (drawStoreNew_any A n c zs _ hz).mono ?_
  rintro e w1 ⟨same, rfl, hb1⟩
  have HB1 := Lib.hid hb1; clear hb1
  go_wp2_with fail
  refine (storeNew_any same _).mono ?_
  rintro e w2 ⟨r, g, h, c, d, X, Y, rfl, h1, h2, h3, hr, og, oh, hb2⟩
  have HC : Hid (64 ≤ c ∧ 64 ≤ d) := Lib.hid ⟨og.2.1, oh.2.1⟩
  obtain ⟨w3, hw3⟩ : ∃ W, W = w2.alloc (.cells #[.slice (some ⟨r, 0, none⟩) 64 64, .slice (some ⟨g, 0, none⟩) 64 c, .slice (some ⟨h, 0, none⟩) 64 d, .int .i64 1, .slice X 0 0, .int .i64 0, .slice Y 0 0, .bool same] 30) := ⟨_, rfl⟩
  have HB2 := Lib.hid (HB1.out.trans (hb2.mono HB1.out.size))
  have HB3 : Hid (Below w.heap.size w w3) := Lib.hid (by rw [hw3]; exact HB2.out.alloc HB2.out.size _)
  have HX3 : Hid (w3.heap[w2.heap.size]? = some (.cells #[.slice (some ⟨r, 0, none⟩) 64 64, .slice (some ⟨g, 0, none⟩) 64 c, .slice (some ⟨h, 0, none⟩) 64 d, .int .i64 1, .slice X 0 0, .int .i64 0, .slice Y 0 0, .bool same] 30 (0, 0))) := Lib.hid (by rw [hw3]; exact heap_alloc_new _ _)
  have R3 : Hid (EmptyS r w3) := Lib.hid (by rw [hw3]; exact hr.keep (bel1.block r hr.lt))
  have G3 : Hid (OwnI w3 g 64 c z64) := Lib.hid (by rw [hw3]; exact og.alloc _)
  have O3 : Hid (OwnI w3 h 64 d z64) := Lib.hid (by rw [hw3]; exact oh.alloc _)
  clear h1 h2 h3 hr og oh hb2
  go_wp2_with fail
  rw [← hw3]
  clear hw3
  go_wp2_with fail
  refine (spStoreNew_any same _).mono ?_
  rintro e w4 ⟨r', g', h', c', d', X', Y', rfl, h1, h2, h3, hr, og, oh, hb4⟩
  obtain ⟨w5, hw5⟩ : ∃ W, W = w4.alloc (.cells #[.slice (some ⟨r', 0, none⟩) 64 64, .slice (some ⟨g', 0, none⟩) 64 c', .slice (some ⟨h', 0, none⟩) 64 d', .int .i64 1, .slice X' 0 0, .int .i64 0, .slice Y' 0 0, .bool same] 30) := ⟨_, rfl⟩
  have hb5 : Below w3.heap.size w3 w5 := by rw [hw5]; exact hb4.alloc hb4.size _
  have HB5 := Lib.hid (HB3.out.trans (hb5.mono HB3.out.size))
  have l3 := (Array.getElem?_eq_some_iff.1 HX3.out).1
  have HX5 := Lib.hid ((hb5.block _ l3).trans HX3.out)
  have HY5 : Hid (w5.heap[w4.heap.size]? = some (.cells #[.slice (some ⟨r', 0, none⟩) 64 64, .slice (some ⟨g', 0, none⟩) 64 c', .slice (some ⟨h', 0, none⟩) 64 d', .int .i64 1, .slice X' 0 0, .int .i64 0, .slice Y' 0 0, .bool same] 30 (0, 0))) := Lib.hid (by rw [hw5]; exact heap_alloc_new _ _)
  have R5 := Lib.hid (R3.out.keep (hb5.block r R3.out.lt)); have G5 := Lib.hid (G3.out.below hb5); have O5 := Lib.hid (O3.out.below hb5)
  have R6 : Hid (EmptyS r' w5) := Lib.hid (by rw [hw5]; exact hr.keep (bel1.block r' hr.lt))
  have G6 : Hid (OwnI w5 g' 64 c' z64) := Lib.hid (by rw [hw5]; exact og.alloc _)
  have O6 : Hid (OwnI w5 h' 64 d' z64) := Lib.hid (by rw [hw5]; exact oh.alloc _)
  have z4 : w2.heap.size < w4.heap.size := Nat.lt_of_lt_of_le l3 hb4.size
  have HX4 := Lib.hid ((hb4.block _ l3).trans HX3.out)
  have b0 := cell_of_row _ _ 0 _ _ (0, 0) HX4.out; have b1 := cell_of_row _ _ 1 _ _ (0, 0) HX4.out; have b2 := cell_of_row _ _ 2 _ _ (0, 0) HX4.out; have b3 := cell_of_row _ _ 3 _ _ (0, 0) HX4.out; have b4 := cell_of_row _ _ 4 _ _ (0, 0) HX4.out; have b5 := cell_of_row _ _ 5 _ _ (0, 0) HX4.out; have b6 := cell_of_row _ _ 6 _ _ (0, 0) HX4.out; have b7 := cell_of_row _ _ 7 _ _ (0, 0) HX4.out
  clear h1 h2 h3 hr og oh hb4 hb5
  go_wp2_with fail
  rw [← hw5]
  clear hw5
  have l5 := (Array.getElem?_eq_some_iff.1 HX5.out).1
  refine (pfStore_new same r g h c d X Y r' g' h' c' d' X' Y' w5 R5.out G5.out O5.out R6.out G6.out O6.out).mono ?_
  rintro e w6 ⟨rfl, hb6⟩
  clear b0 b1 b2 b3 b4 b5 b6 b7
  have HB6 := Lib.hid (HB5.out.trans (hb6.mono HB5.out.size))
  have HX6 := Lib.hid ((hb6.block _ l5).trans HX5.out)
  have l6 := (Array.getElem?_eq_some_iff.1 HX6.out).1
  have HS6 := Lib.hid (nsD_R (same := same) (X := X) (Y := Y) (R5.out.keep (hb6.block r R5.out.lt)) (G5.out.below hb6) (O5.out.below hb6) HC.out.1 HC.out.2)
  clear hb6
  have b0 := cell_of_row _ _ 0 _ _ (0, 0) HX6.out; have b1 := cell_of_row _ _ 1 _ _ (0, 0) HX6.out; have b2 := cell_of_row _ _ 2 _ _ (0, 0) HX6.out; have b3 := cell_of_row _ _ 3 _ _ (0, 0) HX6.out; have b4 := cell_of_row _ _ 4 _ _ (0, 0) HX6.out; have b5 := cell_of_row _ _ 5 _ _ (0, 0) HX6.out; have b6 := cell_of_row _ _ 6 _ _ (0, 0) HX6.out; have b7 := cell_of_row _ _ 7 _ _ (0, 0) HX6.out
  go_wp2_with fail
  refine (storeRoom_any _ (nsD same) _ 0 _ HS6.out ⟨by simp [nsD], by simp [nsD]⟩).mono ?_
  rw [nsD_room]
  rintro e w7 ⟨rfl, hb7⟩
  clear b0 b1 b2 b3 b4 b5 b6 b7
  have HB7 := Lib.hid (HB6.out.trans (hb7.mono HB6.out.size))
  have HX7 := Lib.hid ((hb7.block _ l6).trans HX6.out)
  have l7 := (Array.getElem?_eq_some_iff.1 HX7.out).1
  have HS7 := Lib.hid (StoreR.below hb7 (Nat.le_refl _) _ _ HS6.out)
  clear hb7
  have b0 := cell_of_row _ _ 0 _ _ (0, 0) HX7.out; have b1 := cell_of_row _ _ 1 _ _ (0, 0) HX7.out; have b2 := cell_of_row _ _ 2 _ _ (0, 0) HX7.out; have b3 := cell_of_row _ _ 3 _ _ (0, 0) HX7.out; have b4 := cell_of_row _ _ 4 _ _ (0, 0) HX7.out; have b5 := cell_of_row _ _ 5 _ _ (0, 0) HX7.out; have b6 := cell_of_row _ _ 6 _ _ (0, 0) HX7.out; have b7 := cell_of_row _ _ 7 _ _ (0, 0) HX7.out
  go_wp2_with fail
  refine (storeOk_any _ (nsD same) _ 0 _ HS7.out ⟨by simp [nsD], by simp [nsD]⟩).mono ?_
  rw [storeOk_yes (nsD_ok same)]
  rintro e w8 ⟨rfl, hb8⟩
  clear b0 b1 b2 b3 b4 b5 b6 b7
  have HB8 := Lib.hid (HB7.out.trans (hb8.mono HB7.out.size))
  have HX8 := Lib.hid ((hb8.block _ l7).trans HX7.out)
  have l8 := (Array.getElem?_eq_some_iff.1 HX8.out).1
  clear hb8
  have b0 := cell_of_row _ _ 0 _ _ (0, 0) HX8.out; have b1 := cell_of_row _ _ 1 _ _ (0, 0) HX8.out; have b2 := cell_of_row _ _ 2 _ _ (0, 0) HX8.out; have b3 := cell_of_row _ _ 3 _ _ (0, 0) HX8.out; have b4 := cell_of_row _ _ 4 _ _ (0, 0) HX8.out; have b5 := cell_of_row _ _ 5 _ _ (0, 0) HX8.out; have b6 := cell_of_row _ _ 6 _ _ (0, 0) HX8.out; have b7 := cell_of_row _ _ 7 _ _ (0, 0) HX8.out
  have hsm : (same == same) = true := by simp
  go_wp2_with fail
  go_ret
  exact ⟨ret_bool (by simp), HB8.out⟩
end Go.Proofs.Ytffieobjcipeoaa
