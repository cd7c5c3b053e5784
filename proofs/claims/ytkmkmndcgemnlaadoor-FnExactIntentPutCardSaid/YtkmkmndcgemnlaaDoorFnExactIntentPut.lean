/- FnExactIntentPut: the walk. Condition: what the library reads lies in memory as the row says. -/
import Derived.Test.YtkmkmndcgemnlaaDoorIntPut
import Derived.Test.YtkmkmndcgemnlaaDoorFamISz
namespace Go.Proofs.YtkmkmndcgemnlaaDoor
set_option linter.unusedVariables false
set_option linter.unusedSimpArgs false
set_option linter.unnecessarySimpa false
open Go Go.Lib Go.RowKit
theorem TextR_def (t : Str) (w : World) : TextR t w = fun e w' => e = .returned (.string (strB t)) ∧ Below w.heap.size w w' := rfl
set_option maxRecDepth 100000 in
set_option maxHeartbeats 2000000 in
theorem fnExactIntentPut_walk (l : List Value) (d : IntentD) (w : World) (HT : EnvM w) (hR : IntentR w 0 w.heap.size l d) :
    Calls Tryd.prog 5 #[.agg l.toArray] w fun e w' => e = .returned (.bool true) ∧ Below w.heap.size w w' := by
  obtain ⟨g, q, h, ⟨kd, p, t, a, x⟩⟩ := d
  obtain ⟨rfl, ha0, ha1, ha2, ha3⟩ := hR
  obtain ⟨h, rfl⟩ : ∃ z, h = strB z := ⟨h.data.toList, (strB_data _).symm⟩
  obtain ⟨p, rfl⟩ : ∃ z, p = strB z := ⟨p.data.toList, (strB_data _).symm⟩
  obtain ⟨t, rfl⟩ : ∃ z, t = strB z := ⟨t.data.toList, (strB_data _).symm⟩
  obtain ⟨x, rfl⟩ : ∃ z, x = strB z := ⟨x.data.toList, (strB_data _).symm⟩
  show Calls Tryd.prog 5 #[.agg #[.int .i64 g, .int .i64 q, .string (strB h), .int .i64 kd, .string (strB p), .string (strB t), .int .i64 a, .string (strB x)]] w _
  have R : ∀ W, IntentR W 0 0 [.int .i64 g, .int .i64 q, .string (strB h), .int .i64 kd, .string (strB p), .string (strB t), .int .i64 a, .string (strB x)] (g, q, strB h, kd, strB p, strB t, a, strB x) := fun W => ⟨rfl, ha0, ha1, ha2, ha3⟩
  have HR := Lib.hid R
  have hself : ∀ s : ByteArray, (s.toList == s.toList) = true := fun s => by simp
  clear R ha0 ha1 ha2 ha3
  go_enter Tryd.func5, Tryd.ntmps5
  go_wp2_with fail
  refine (szIntent_any _ _ _ 0 0 1048576 (HR.out _) (by omega) (by omega)).mono ?_
  rintro e w1 ⟨r, rfl, p1, o1, s1, hb1⟩
  have P := Lib.hid s1; clear s1
  have H1 : Below w.heap.size w w1 := bel1.trans (hb1.mono (by simp))
  have c1_0 : w1.cell? ⟨w.heap.size, 0, none⟩ = some (.int .i64 g) := (hb1.cell (by simp)).trans (by simp [go_sem])
  have c1_1 : w1.cell? ⟨w.heap.size, 1, none⟩ = some (.int .i64 q) := (hb1.cell (by simp)).trans (by simp [go_sem])
  have c1_2 : w1.cell? ⟨w.heap.size, 2, none⟩ = some (.string (strB h)) := (hb1.cell (by simp)).trans (by simp [go_sem])
  have c1_3 : w1.cell? ⟨w.heap.size, 3, none⟩ = some (.int .i64 kd) := (hb1.cell (by simp)).trans (by simp [go_sem])
  have c1_4 : w1.cell? ⟨w.heap.size, 4, none⟩ = some (.string (strB p)) := (hb1.cell (by simp)).trans (by simp [go_sem])
  have c1_5 : w1.cell? ⟨w.heap.size, 5, none⟩ = some (.string (strB t)) := (hb1.cell (by simp)).trans (by simp [go_sem])
  have c1_6 : w1.cell? ⟨w.heap.size, 6, none⟩ = some (.int .i64 a) := (hb1.cell (by simp)).trans (by simp [go_sem])
  have c1_7 : w1.cell? ⟨w.heap.size, 7, none⟩ = some (.string (strB x)) := (hb1.cell (by simp)).trans (by simp [go_sem])
  have l1 : w.heap.size < w1.heap.size := World.block_lt_of_cell? w1 _ c1_0
  clear hb1
  by_cases q0 : r < 0
  · go_wp2_with fail
    go_ret
    exact ⟨rfl, H1⟩
  have P2 : (((strB h).size + (strB p).size + (strB t).size + (strB x).size : Nat) : Int) ≤ 1048576 - r := P.out (by omega)
  rw [strB_size, strB_size, strB_size, strB_size] at P2
  have hh : h.length ≤ 3000000000 := by omega
  have hp : p.length ≤ 3000000000 := by omega
  have ht : t.length ≤ 3000000000 := by omega
  have hx : x.length ≤ 3000000000 := by omega
  have HHB := Lib.hid hh; have HPB := Lib.hid hp; have HTB := Lib.hid ht; have HXB := Lib.hid hx
  clear P P2 hh hp ht hx
  go_wp2_with fail
  refine (toIntent_any _ _ _ w 0 0 (HR.out w)).mono ?_
  rintro e w2 ⟨rfl, hb2⟩
  have H2 := H1.trans (hb2.mono H1.size)
  have c2_0 : w2.cell? ⟨w.heap.size, 0, none⟩ = some (.int .i64 g) := (hb2.cell l1).trans c1_0
  have c2_1 : w2.cell? ⟨w.heap.size, 1, none⟩ = some (.int .i64 q) := (hb2.cell l1).trans c1_1
  have c2_2 : w2.cell? ⟨w.heap.size, 2, none⟩ = some (.string (strB h)) := (hb2.cell l1).trans c1_2
  have c2_3 : w2.cell? ⟨w.heap.size, 3, none⟩ = some (.int .i64 kd) := (hb2.cell l1).trans c1_3
  have c2_4 : w2.cell? ⟨w.heap.size, 4, none⟩ = some (.string (strB p)) := (hb2.cell l1).trans c1_4
  have c2_5 : w2.cell? ⟨w.heap.size, 5, none⟩ = some (.string (strB t)) := (hb2.cell l1).trans c1_5
  have c2_6 : w2.cell? ⟨w.heap.size, 6, none⟩ = some (.int .i64 a) := (hb2.cell l1).trans c1_6
  have c2_7 : w2.cell? ⟨w.heap.size, 7, none⟩ = some (.string (strB x)) := (hb2.cell l1).trans c1_7
  have l2 : w.heap.size < w2.heap.size := World.block_lt_of_cell? _ _ c2_0
  clear hb2 l1 H1 c1_0 c1_1 c1_2 c1_3 c1_4 c1_5 c1_6 c1_7
  go_wp2_with fail
  refine (spIntPut_any g q h kd p t a x _ HHB.out HPB.out HTB.out HXB.out).mono ?_
  obtain ⟨X, hX⟩ : ∃ X, X = intS (g, q, h, kd, p, t, a, x) := ⟨_, rfl⟩
  rw [TextR_def, ← hX]
  have HX := Lib.hid hX; clear hX
  rintro e w3 ⟨rfl, hb3⟩
  have H3 := H2.trans (hb3.mono H2.size)
  have c3_0 : w3.cell? ⟨w.heap.size, 0, none⟩ = some (.int .i64 g) := (hb3.cell l2).trans c2_0
  have c3_1 : w3.cell? ⟨w.heap.size, 1, none⟩ = some (.int .i64 q) := (hb3.cell l2).trans c2_1
  have c3_2 : w3.cell? ⟨w.heap.size, 2, none⟩ = some (.string (strB h)) := (hb3.cell l2).trans c2_2
  have c3_3 : w3.cell? ⟨w.heap.size, 3, none⟩ = some (.int .i64 kd) := (hb3.cell l2).trans c2_3
  have c3_4 : w3.cell? ⟨w.heap.size, 4, none⟩ = some (.string (strB p)) := (hb3.cell l2).trans c2_4
  have c3_5 : w3.cell? ⟨w.heap.size, 5, none⟩ = some (.string (strB t)) := (hb3.cell l2).trans c2_5
  have c3_6 : w3.cell? ⟨w.heap.size, 6, none⟩ = some (.int .i64 a) := (hb3.cell l2).trans c2_6
  have c3_7 : w3.cell? ⟨w.heap.size, 7, none⟩ = some (.string (strB x)) := (hb3.cell l2).trans c2_7
  have l3 : w.heap.size < w3.heap.size := World.block_lt_of_cell? _ _ c3_0
  clear hb3 l2 H2 c2_0 c2_1 c2_2 c2_3 c2_4 c2_5 c2_6 c2_7
  go_wp2_with fail
  refine (toIntent_any _ _ _ w 0 0 (HR.out w)).mono ?_
  rintro e w4 ⟨rfl, hb4⟩
  have H4 := H3.trans (hb4.mono H3.size)
  have c4_0 : w4.cell? ⟨w.heap.size, 0, none⟩ = some (.int .i64 g) := (hb4.cell l3).trans c3_0
  have c4_1 : w4.cell? ⟨w.heap.size, 1, none⟩ = some (.int .i64 q) := (hb4.cell l3).trans c3_1
  have c4_2 : w4.cell? ⟨w.heap.size, 2, none⟩ = some (.string (strB h)) := (hb4.cell l3).trans c3_2
  have c4_3 : w4.cell? ⟨w.heap.size, 3, none⟩ = some (.int .i64 kd) := (hb4.cell l3).trans c3_3
  have c4_4 : w4.cell? ⟨w.heap.size, 4, none⟩ = some (.string (strB p)) := (hb4.cell l3).trans c3_4
  have c4_5 : w4.cell? ⟨w.heap.size, 5, none⟩ = some (.string (strB t)) := (hb4.cell l3).trans c3_5
  have c4_6 : w4.cell? ⟨w.heap.size, 6, none⟩ = some (.int .i64 a) := (hb4.cell l3).trans c3_6
  have c4_7 : w4.cell? ⟨w.heap.size, 7, none⟩ = some (.string (strB x)) := (hb4.cell l3).trans c3_7
  have l4 : w.heap.size < w4.heap.size := World.block_lt_of_cell? _ _ c4_0
  clear hb4 l3 H3 c3_0 c3_1 c3_2 c3_3 c3_4 c3_5 c3_6 c3_7
  go_wp2_with fail
  refine (intPut_any g q h kd p t a x _ (HT.1.below H4) (HT.2.below H4) HHB.out HPB.out HTB.out HXB.out).mono ?_
  rw [TextR_def, ← HX.out]
  rintro e w5 ⟨rfl, hb5⟩
  have H5 := H4.trans (hb5.mono H4.size)
  have c5_0 : w5.cell? ⟨w.heap.size, 0, none⟩ = some (.int .i64 g) := (hb5.cell l4).trans c4_0
  have c5_1 : w5.cell? ⟨w.heap.size, 1, none⟩ = some (.int .i64 q) := (hb5.cell l4).trans c4_1
  have c5_2 : w5.cell? ⟨w.heap.size, 2, none⟩ = some (.string (strB h)) := (hb5.cell l4).trans c4_2
  have c5_3 : w5.cell? ⟨w.heap.size, 3, none⟩ = some (.int .i64 kd) := (hb5.cell l4).trans c4_3
  have c5_4 : w5.cell? ⟨w.heap.size, 4, none⟩ = some (.string (strB p)) := (hb5.cell l4).trans c4_4
  have c5_5 : w5.cell? ⟨w.heap.size, 5, none⟩ = some (.string (strB t)) := (hb5.cell l4).trans c4_5
  have c5_6 : w5.cell? ⟨w.heap.size, 6, none⟩ = some (.int .i64 a) := (hb5.cell l4).trans c4_6
  have c5_7 : w5.cell? ⟨w.heap.size, 7, none⟩ = some (.string (strB x)) := (hb5.cell l4).trans c4_7
  have l5 : w.heap.size < w5.heap.size := World.block_lt_of_cell? _ _ c5_0
  clear hb5 l4 H4 c4_0 c4_1 c4_2 c4_3 c4_4 c4_5 c4_6 c4_7
  go_wp2_with fail
  go_ret
  exact ⟨rfl, H5⟩
end Go.Proofs.YtkmkmndcgemnlaaDoor
