/- CacheNew, the program's and the reference's; marks on an empty cache. No condition. -/
import Derived.Test.YtodibogijnjlaaaFamEq
import Derived.Test.YtodibogijnjlaaaSmall
namespace Go.Proofs.Ytodibogijnjlaaa
set_option linter.unusedVariables false
set_option linter.unusedSimpArgs false
set_option linter.unnecessarySimpa false
open Go.RowKit

def roomOf (x : Int) : Int := if inB x 1 8 = true then x else 0
/-- The reference's new cache. -/
def SpNew (x : Int) (w : World) (e : Ending) (w' : World) : Prop :=
  ∃ A B C D, e = .returned (.tuple #[.agg #[.int .i64 (roomOf x), .int .i64 0, .slice A 0 0, .slice B 0 0, .slice C 0 0, .slice D 0 0], .bool (inB x 1 8)]) ∧ Below w.heap.size w w'
theorem noInts {w : World} {A : Option Addr} : SliceR IntR 1 w 0 0 A 0 0 [] := ⟨rfl, Nat.le_refl _, Nat.zero_le _, Nat.zero_le _, fun _ => rfl, fun h => absurd h (Nat.lt_irrefl _)⟩
theorem noCache {w : World} {r : Int} {A B C D : Option Addr} : CacheR w 0 0 [.int .i64 r, .int .i64 0, .slice A 0 0, .slice B 0 0, .slice C 0 0, .slice D 0 0] (r, 0, [], [], [], []) :=
  ⟨_, _, _, _, _, _, _, _, _, _, _, _, rfl, noInts, noInts, noInts, noInts⟩
theorem Quiet.nil_below {w w' : World} (h : Quiet w w') : Below w.heap.size w w' := h.below _
theorem Chg.nil_below {w w' : World} (h : Chg (· ∈ ([] : List Nat)) w w') : Below w.heap.size w w' := h.below (fun _ _ hk => by simp at hk) (Nat.le_refl _)

set_option maxRecDepth 100000 in
set_option maxHeartbeats 1000000 in
theorem cacheNew_any (x : Int) (w : World) : Calls Try.prog 17 #[.int .i64 x] w fun e w' => e = .returned (.tuple #[.agg #[.int .i64 (roomOf x), .int .i64 0, .slice none 0 0, .slice none 0 0, .slice none 0 0, .slice none 0 0], .bool (inB x 1 8)]) ∧ Below w.heap.size w w' := by
  cases hb : inB x 1 8
  all_goals
    have HR := Lib.hid (show roomOf x = if inB x 1 8 = true then x else 0 from rfl)
    rw [hb] at HR
    have HB := Lib.hid hb; clear hb
    go_enter Try.func17, Try.ntmps17
    go_wp2_with fail
    refine (within_any _ _ _ _).mono ?_
    rw [HB.out]
    rintro e w' ⟨rfl, rfl⟩
    go_wp2_with fail
  · exact bodyPost_ret (v := .tuple #[.agg #[.int .i64 0, .int .i64 0, .slice none 0 0, .slice none 0 0, .slice none 0 0, .slice none 0 0], .bool false]) (by simp [results, Try.results17, go_sem]) rfl ⟨by rw [HR.out]; rfl, by repeat (first | exact Below.refl _ _ | refine Below.setCell ?_ (by simp <;> omega) _ | refine Below.alloc ?_ (by simp <;> omega) _)⟩
  · exact bodyPost_ret (v := .tuple #[.agg #[.int .i64 x, .int .i64 0, .slice none 0 0, .slice none 0 0, .slice none 0 0, .slice none 0 0], .bool true]) (by simp [results, Try.results17, go_sem]) rfl ⟨by rw [HR.out]; rfl, by repeat (first | exact Below.refl _ _ | refine Below.setCell ?_ (by simp <;> omega) _ | refine Below.alloc ?_ (by simp <;> omega) _)⟩

set_option maxRecDepth 100000 in
set_option maxHeartbeats 1000000 in
theorem spCacheNew_any (x : Int) (w : World) : Calls Try.prog 16 #[.int .i64 x] w (SpNew x w) := by
  cases hb : inB x 1 8
  all_goals
    have HR := Lib.hid (show roomOf x = if inB x 1 8 = true then x else 0 from rfl)
    rw [hb] at HR
    have HB := Lib.hid hb; clear hb
    go_enter Try.func16, Try.ntmps16
    go_wp2_with fail
    refine (l6In_any _ _ _ _).mono ?_
    rw [HB.out]
    rintro e w' ⟨rfl, rfl⟩
    go_wp2_with fail
  · exact bodyPost_ret (v := .tuple #[.agg #[.int .i64 0, .int .i64 0, .slice none 0 0, .slice none 0 0, .slice none 0 0, .slice none 0 0], .bool false]) (by simp [results, Try.results16, go_sem]) rfl ⟨_, _, _, _, by rw [HB.out, HR.out]; rfl, by repeat (first | exact Below.refl _ _ | refine Below.setCell ?_ (by simp <;> omega) _ | refine Below.alloc ?_ (by simp <;> omega) _)⟩
  · exact bodyPost_ret (v := .tuple #[.agg #[.int .i64 x, .int .i64 0, .slice (some ⟨w.heap.size + 1, 0, none⟩) 0 0, .slice (some ⟨w.heap.size + 1 + 1, 0, none⟩) 0 0, .slice (some ⟨w.heap.size + 1 + 1 + 1, 0, none⟩) 0 0, .slice (some ⟨w.heap.size + 1 + 1 + 1 + 1, 0, none⟩) 0 0], .bool true]) (by simp [results, Try.results16, go_sem]) rfl ⟨_, _, _, _, by rw [HB.out, HR.out]; rfl, by repeat (first | exact Below.refl _ _ | refine Below.setCell ?_ (by simp <;> omega) _ | refine Below.alloc ?_ (by simp <;> omega) _)⟩

set_option maxRecDepth 100000 in
set_option maxHeartbeats 2000000 in
theorem markCache_nil (r g k : Int) (w : World) (h0 : 0 ≤ k) (h1 : k ≤ 1048576) : Calls Try.prog 19 #[.agg #[.int .i64 r, .int .i64 g, .slice none 0 0, .slice none 0 0, .slice none 0 0, .slice none 0 0], .int .i64 k] w fun e w' => e = .returned (.int .i64 k) ∧ Below w.heap.size w w' := by
  go_enter Try.func19, Try.ntmps19
  go_wp2_with fail
  refine (markIntS_any none 0 0 [] [] k _ (.inl ⟨rfl, rfl, rfl, fun _ => rfl⟩) h0 (by omega)).mono ?_
  rintro e w1 ⟨rfl, _, hc⟩
  have hb1x := hc.nil_below; clear hc
  have X1 : Below w.heap.size w w1 := bel1.trans (hb1x.mono (by first | exact bel1.size | (simp <;> omega)))
  have c1_0 : w1.cell? ⟨w.heap.size, 0, none⟩ = some (.int .i64 r) := (hb1x.cell (by simp)).trans (by simp [go_sem])
  have c1_1 : w1.cell? ⟨w.heap.size, 1, none⟩ = some (.int .i64 g) := (hb1x.cell (by simp)).trans (by simp [go_sem])
  have c1_2 : w1.cell? ⟨w.heap.size, 2, none⟩ = some (.slice none 0 0) := (hb1x.cell (by simp)).trans (by simp [go_sem])
  have c1_3 : w1.cell? ⟨w.heap.size, 3, none⟩ = some (.slice none 0 0) := (hb1x.cell (by simp)).trans (by simp [go_sem])
  have c1_4 : w1.cell? ⟨w.heap.size, 4, none⟩ = some (.slice none 0 0) := (hb1x.cell (by simp)).trans (by simp [go_sem])
  have c1_5 : w1.cell? ⟨w.heap.size, 5, none⟩ = some (.slice none 0 0) := (hb1x.cell (by simp)).trans (by simp [go_sem])
  clear hb1x
  skip
  go_wp2_with fail
  refine (markIntS_any none 0 0 [] [] k _ (.inl ⟨rfl, rfl, rfl, fun _ => rfl⟩) h0 (by omega)).mono ?_
  rintro e w2 ⟨rfl, _, hc⟩
  have hb2x := hc.nil_below; clear hc
  have X2 : Below w.heap.size w w2 := X1.trans (hb2x.mono (by first | exact X1.size | (simp <;> omega)))
  have c2_0 : w2.cell? ⟨w.heap.size, 0, none⟩ = some (.int .i64 r) := (hb2x.cell (World.block_lt_of_cell? _ _ c1_0)).trans c1_0
  have c2_1 : w2.cell? ⟨w.heap.size, 1, none⟩ = some (.int .i64 g) := (hb2x.cell (World.block_lt_of_cell? _ _ c1_1)).trans c1_1
  have c2_2 : w2.cell? ⟨w.heap.size, 2, none⟩ = some (.slice none 0 0) := (hb2x.cell (World.block_lt_of_cell? _ _ c1_2)).trans c1_2
  have c2_3 : w2.cell? ⟨w.heap.size, 3, none⟩ = some (.slice none 0 0) := (hb2x.cell (World.block_lt_of_cell? _ _ c1_3)).trans c1_3
  have c2_4 : w2.cell? ⟨w.heap.size, 4, none⟩ = some (.slice none 0 0) := (hb2x.cell (World.block_lt_of_cell? _ _ c1_4)).trans c1_4
  have c2_5 : w2.cell? ⟨w.heap.size, 5, none⟩ = some (.slice none 0 0) := (hb2x.cell (World.block_lt_of_cell? _ _ c1_5)).trans c1_5
  clear c1_0 c1_1 c1_2 c1_3 c1_4 c1_5
  clear hb2x
  skip
  go_wp2_with fail
  refine (markIntS_any none 0 0 [] [] k _ (.inl ⟨rfl, rfl, rfl, fun _ => rfl⟩) h0 (by omega)).mono ?_
  rintro e w3 ⟨rfl, _, hc⟩
  have hb3x := hc.nil_below; clear hc
  have X3 : Below w.heap.size w w3 := X2.trans (hb3x.mono (by first | exact X2.size | (simp <;> omega)))
  have c3_0 : w3.cell? ⟨w.heap.size, 0, none⟩ = some (.int .i64 r) := (hb3x.cell (World.block_lt_of_cell? _ _ c2_0)).trans c2_0
  have c3_1 : w3.cell? ⟨w.heap.size, 1, none⟩ = some (.int .i64 g) := (hb3x.cell (World.block_lt_of_cell? _ _ c2_1)).trans c2_1
  have c3_2 : w3.cell? ⟨w.heap.size, 2, none⟩ = some (.slice none 0 0) := (hb3x.cell (World.block_lt_of_cell? _ _ c2_2)).trans c2_2
  have c3_3 : w3.cell? ⟨w.heap.size, 3, none⟩ = some (.slice none 0 0) := (hb3x.cell (World.block_lt_of_cell? _ _ c2_3)).trans c2_3
  have c3_4 : w3.cell? ⟨w.heap.size, 4, none⟩ = some (.slice none 0 0) := (hb3x.cell (World.block_lt_of_cell? _ _ c2_4)).trans c2_4
  have c3_5 : w3.cell? ⟨w.heap.size, 5, none⟩ = some (.slice none 0 0) := (hb3x.cell (World.block_lt_of_cell? _ _ c2_5)).trans c2_5
  clear c2_0 c2_1 c2_2 c2_3 c2_4 c2_5
  clear hb3x
  skip
  go_wp2_with fail
  refine (markIntS_any none 0 0 [] [] k _ (.inl ⟨rfl, rfl, rfl, fun _ => rfl⟩) h0 (by omega)).mono ?_
  rintro e w4 ⟨rfl, _, hc⟩
  have hb4x := hc.nil_below; clear hc
  have X4 : Below w.heap.size w w4 := X3.trans (hb4x.mono (by first | exact X3.size | (simp <;> omega)))
  have c4_0 : w4.cell? ⟨w.heap.size, 0, none⟩ = some (.int .i64 r) := (hb4x.cell (World.block_lt_of_cell? _ _ c3_0)).trans c3_0
  have c4_1 : w4.cell? ⟨w.heap.size, 1, none⟩ = some (.int .i64 g) := (hb4x.cell (World.block_lt_of_cell? _ _ c3_1)).trans c3_1
  have c4_2 : w4.cell? ⟨w.heap.size, 2, none⟩ = some (.slice none 0 0) := (hb4x.cell (World.block_lt_of_cell? _ _ c3_2)).trans c3_2
  have c4_3 : w4.cell? ⟨w.heap.size, 3, none⟩ = some (.slice none 0 0) := (hb4x.cell (World.block_lt_of_cell? _ _ c3_3)).trans c3_3
  have c4_4 : w4.cell? ⟨w.heap.size, 4, none⟩ = some (.slice none 0 0) := (hb4x.cell (World.block_lt_of_cell? _ _ c3_4)).trans c3_4
  have c4_5 : w4.cell? ⟨w.heap.size, 5, none⟩ = some (.slice none 0 0) := (hb4x.cell (World.block_lt_of_cell? _ _ c3_5)).trans c3_5
  clear c3_0 c3_1 c3_2 c3_3 c3_4 c3_5
  clear hb4x
  skip
  go_wp2_with fail
  go_ret
  exact ⟨ret_int (by simp), X4⟩

set_option maxRecDepth 100000 in
set_option maxHeartbeats 2000000 in
theorem heldCache_nil (r g k : Int) (w : World) (h0 : 0 ≤ k) (h1 : k ≤ 1048576) : Calls Try.prog 20 #[.agg #[.int .i64 r, .int .i64 g, .slice none 0 0, .slice none 0 0, .slice none 0 0, .slice none 0 0], .int .i64 k] w fun e w' => e = .returned (.int .i64 k) ∧ Below w.heap.size w w' := by
  go_enter Try.func20, Try.ntmps20
  go_wp2_with fail
  refine (heldIntS_any none 0 0 k _ ⟨rfl, Nat.zero_le _, fun h => absurd h (Nat.lt_irrefl _)⟩ h0 (by omega) (Nat.zero_le _)).mono ?_
  rintro e w1 ⟨rfl, hq⟩
  have hb1x := hq.nil_below
  clear hq
  have X1 : Below w.heap.size w w1 := bel1.trans (hb1x.mono (by first | exact Nat.le_refl _ | (simp <;> omega)))
  have c1_0 : w1.cell? ⟨w.heap.size, 0, none⟩ = some (.int .i64 r) := (hb1x.cell (by simp)).trans (by simp [go_sem])
  have c1_1 : w1.cell? ⟨w.heap.size, 1, none⟩ = some (.int .i64 g) := (hb1x.cell (by simp)).trans (by simp [go_sem])
  have c1_2 : w1.cell? ⟨w.heap.size, 2, none⟩ = some (.slice none 0 0) := (hb1x.cell (by simp)).trans (by simp [go_sem])
  have c1_3 : w1.cell? ⟨w.heap.size, 3, none⟩ = some (.slice none 0 0) := (hb1x.cell (by simp)).trans (by simp [go_sem])
  have c1_4 : w1.cell? ⟨w.heap.size, 4, none⟩ = some (.slice none 0 0) := (hb1x.cell (by simp)).trans (by simp [go_sem])
  have c1_5 : w1.cell? ⟨w.heap.size, 5, none⟩ = some (.slice none 0 0) := (hb1x.cell (by simp)).trans (by simp [go_sem])
  clear hb1x
  skip
  go_wp2_with fail
  refine (heldIntS_any none 0 0 k _ ⟨rfl, Nat.zero_le _, fun h => absurd h (Nat.lt_irrefl _)⟩ h0 (by omega) (Nat.zero_le _)).mono ?_
  rintro e w2 ⟨rfl, hq⟩
  have hb2x := hq.nil_below
  clear hq
  have X2 : Below w.heap.size w w2 := X1.trans (hb2x.mono (by first | exact Nat.le_refl _ | exact X1.size | (simp <;> omega)))
  have c2_0 : w2.cell? ⟨w.heap.size, 0, none⟩ = some (.int .i64 r) := (hb2x.cell (World.block_lt_of_cell? _ _ c1_0)).trans c1_0
  have c2_1 : w2.cell? ⟨w.heap.size, 1, none⟩ = some (.int .i64 g) := (hb2x.cell (World.block_lt_of_cell? _ _ c1_1)).trans c1_1
  have c2_2 : w2.cell? ⟨w.heap.size, 2, none⟩ = some (.slice none 0 0) := (hb2x.cell (World.block_lt_of_cell? _ _ c1_2)).trans c1_2
  have c2_3 : w2.cell? ⟨w.heap.size, 3, none⟩ = some (.slice none 0 0) := (hb2x.cell (World.block_lt_of_cell? _ _ c1_3)).trans c1_3
  have c2_4 : w2.cell? ⟨w.heap.size, 4, none⟩ = some (.slice none 0 0) := (hb2x.cell (World.block_lt_of_cell? _ _ c1_4)).trans c1_4
  have c2_5 : w2.cell? ⟨w.heap.size, 5, none⟩ = some (.slice none 0 0) := (hb2x.cell (World.block_lt_of_cell? _ _ c1_5)).trans c1_5
  clear c1_0 c1_1 c1_2 c1_3 c1_4 c1_5
  clear hb2x
  skip
  go_wp2_with fail
  refine (heldIntS_any none 0 0 k _ ⟨rfl, Nat.zero_le _, fun h => absurd h (Nat.lt_irrefl _)⟩ h0 (by omega) (Nat.zero_le _)).mono ?_
  rintro e w3 ⟨rfl, hq⟩
  have hb3x := hq.nil_below
  clear hq
  have X3 : Below w.heap.size w w3 := X2.trans (hb3x.mono (by first | exact Nat.le_refl _ | exact X2.size | (simp <;> omega)))
  have c3_0 : w3.cell? ⟨w.heap.size, 0, none⟩ = some (.int .i64 r) := (hb3x.cell (World.block_lt_of_cell? _ _ c2_0)).trans c2_0
  have c3_1 : w3.cell? ⟨w.heap.size, 1, none⟩ = some (.int .i64 g) := (hb3x.cell (World.block_lt_of_cell? _ _ c2_1)).trans c2_1
  have c3_2 : w3.cell? ⟨w.heap.size, 2, none⟩ = some (.slice none 0 0) := (hb3x.cell (World.block_lt_of_cell? _ _ c2_2)).trans c2_2
  have c3_3 : w3.cell? ⟨w.heap.size, 3, none⟩ = some (.slice none 0 0) := (hb3x.cell (World.block_lt_of_cell? _ _ c2_3)).trans c2_3
  have c3_4 : w3.cell? ⟨w.heap.size, 4, none⟩ = some (.slice none 0 0) := (hb3x.cell (World.block_lt_of_cell? _ _ c2_4)).trans c2_4
  have c3_5 : w3.cell? ⟨w.heap.size, 5, none⟩ = some (.slice none 0 0) := (hb3x.cell (World.block_lt_of_cell? _ _ c2_5)).trans c2_5
  clear c2_0 c2_1 c2_2 c2_3 c2_4 c2_5
  clear hb3x
  skip
  go_wp2_with fail
  refine (heldIntS_any none 0 0 k _ ⟨rfl, Nat.zero_le _, fun h => absurd h (Nat.lt_irrefl _)⟩ h0 (by omega) (Nat.zero_le _)).mono ?_
  rintro e w4 ⟨rfl, hq⟩
  have hb4x := hq.nil_below
  clear hq
  have X4 : Below w.heap.size w w4 := X3.trans (hb4x.mono (by first | exact Nat.le_refl _ | exact X3.size | (simp <;> omega)))
  have c4_0 : w4.cell? ⟨w.heap.size, 0, none⟩ = some (.int .i64 r) := (hb4x.cell (World.block_lt_of_cell? _ _ c3_0)).trans c3_0
  have c4_1 : w4.cell? ⟨w.heap.size, 1, none⟩ = some (.int .i64 g) := (hb4x.cell (World.block_lt_of_cell? _ _ c3_1)).trans c3_1
  have c4_2 : w4.cell? ⟨w.heap.size, 2, none⟩ = some (.slice none 0 0) := (hb4x.cell (World.block_lt_of_cell? _ _ c3_2)).trans c3_2
  have c4_3 : w4.cell? ⟨w.heap.size, 3, none⟩ = some (.slice none 0 0) := (hb4x.cell (World.block_lt_of_cell? _ _ c3_3)).trans c3_3
  have c4_4 : w4.cell? ⟨w.heap.size, 4, none⟩ = some (.slice none 0 0) := (hb4x.cell (World.block_lt_of_cell? _ _ c3_4)).trans c3_4
  have c4_5 : w4.cell? ⟨w.heap.size, 5, none⟩ = some (.slice none 0 0) := (hb4x.cell (World.block_lt_of_cell? _ _ c3_5)).trans c3_5
  clear c3_0 c3_1 c3_2 c3_3 c3_4 c3_5
  clear hb4x
  skip
  go_wp2_with fail
  go_ret
  exact ⟨ret_int (by simp), X4⟩

end Go.Proofs.Ytodibogijnjlaaa
