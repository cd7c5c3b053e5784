/- FnSpaceTake: the walk. No condition. -/
import Derived.Test.YtbfdbkidmakapaaDrawTake
import Derived.Test.YtbfdbkidmakapaaSpPlain
import Derived.Test.YtbfdbkidmakapaaTake
import Derived.Test.YtbfdbkidmakapaaGive2
import Derived.Test.YtbfdbkidmakapaaFnExactSpaceRoom
import Derived.Test.YtbfdbkidmakapaaSpaceRoom
import Derived.Test.YtbfdbkidmakapaaRg
namespace Go.Proofs.Ytbfdbkidmakapaa
set_option linter.unusedVariables false
set_option linter.unusedSimpArgs false
set_option linter.unnecessarySimpa false
open Go.RowKit

theorem take_plain {xs ys : List Int} {at_ txg : Int} (h : takeOk xs ys at_ txg = true) : giveOk (takeX xs ys at_ txg) (takeY xs ys at_ txg) at_ = true ∧ giveX (takeX xs ys at_ txg) (takeY xs ys at_ txg) at_ = xs := by
  obtain ⟨a, rfl, h8, ha, hsp, h1, h9, hl, hX, hY⟩ := takeOk_iff h
  have hok := take_spOk hsp h8 ha h1 h9 hl
  have hx := (hsp.2.2 a ha)
  unfold rowOk at hx
  have hlx := hsp.1
  have hg : (xs.set a (xs.getD a 0 + 1)).getD a 0 = xs.getD a 0 + 1 := getD_set_self (by omega)
  have hgo : giveOk (takeX xs ys a txg) (takeY xs ys a txg) a = true := by
    rw [hX, hY]
    unfold giveOk
    rw [spOk_iff.2 hok, inB_yes (by omega), Int.toNat_natCast, hg]
    rw [decide_eq_true (show ¬ (xs.getD a 0 + 1 = 0) by omega)]; rfl
  refine ⟨hgo, ?_⟩
  unfold giveX
  rw [if_pos hgo, hX, Int.toNat_natCast, hg]
  rw [show xs.getD a 0 + 1 - 1 = xs.getD a 0 by omega, List.set_set]
  exact set_get_self

set_option maxRecDepth 100000 in
set_option maxHeartbeats 2000000 in
theorem fnSpaceTake_walk (A : Option Addr) (n c : Nat) (zs : List Int) (w : World) (hz : BytesIn w A n c zs) :
    Calls Try.prog 10 #[.slice A n c] w fun e w' => e = .returned (.bool true) ∧ Below w.heap.size w w' := by
  have hself := eqInts_self
  by_cases hn : n ≤ 1048576
  · go_enter Try.func10, Try.ntmps10
    go_wp2_with fail
    refine (drawSpaceTake_any A n c zs _ hz).mono ?_
    rintro e w1 ⟨A1, n1, c1, B1, m1, d1, xs, ys, at_, txg, rfl, ia_1, ib_1, nl1, hb1⟩
    have hk1 : Below w.heap.size w w1 := hb1
    have z1 : w.heap.size + 0 ≤ w1.heap.size := by have := hb1.size; (try simp at this); omega
    have hB1 : Below w.heap.size w w1 := hk1
    have y1 : w.heap.size ≤ w1.heap.size := hB1.size
    clear hk1 hb1
    obtain ⟨X, hX⟩ : ∃ X, X = takeX xs ys at_ txg := ⟨_, rfl⟩
    have HX := Lib.hid hX; clear hX
    obtain ⟨Y, hY⟩ : ∃ Y, Y = takeY xs ys at_ txg := ⟨_, rfl⟩
    have HY := Lib.hid hY; clear hY
    obtain ⟨ok, hok⟩ : ∃ ok, ok = takeOk xs ys at_ txg := ⟨_, rfl⟩
    have Hok := Lib.hid hok; clear hok
    have hoo : (ok == ok) = true := by simp
    go_wp2_with fail
    refine (take_any _ _ _ _ _ _ xs ys at_ txg _ (ia_1.below ((Below.refl _ _).alloc (Nat.le_refl _) _)) (ib_1.below ((Below.refl _ _).alloc (Nat.le_refl _) _)) nl1.1 nl1.2.1).mono ?_
    rw [← HX.out, ← HY.out, ← Hok.out]
    rintro e w2 ⟨A2, n2, c2, B2, m2, d2, S2, rfl, og_2, hS2, hb2⟩
    have hk2 : Below w1.heap.size w1 w2 := ((Below.refl _ _).alloc (Nat.le_refl _) _).trans (hb2.mono (by simp <;> omega))
    have z2 : w1.heap.size + 1 ≤ w2.heap.size := by have := hb2.size; (try simp at this); omega
    have c2_0 : w2.cell? ⟨w1.heap.size, 0, none⟩ = some (.slice A1 n1 c1) := (hb2.cell (by simp <;> omega)).trans (by simp [go_sem])
    have c2_1 : w2.cell? ⟨w1.heap.size, 1, none⟩ = some (.slice B1 m1 d1) := (hb2.cell (by simp <;> omega)).trans (by simp [go_sem])
    have l2_0 : w1.heap.size < w2.heap.size := by omega
    have ia_2 := ia_1.below hk2
    have ib_2 := ib_1.below hk2
    have iv_og : ∀ k ∈ S2, w1.heap.size + 1 ≤ k ∧ k < w2.heap.size := fun k hk => ⟨by have := hS2 k hk; (try simp at this); omega, og_2.lt k hk⟩
    have hB2 : Below w.heap.size w w2 := hB1.trans (hk2.mono hB1.size)
    have y2 : w.heap.size ≤ w2.heap.size := hB2.size
    clear ia_1 ib_1 hS2 hk2 hb2
    have mx2 := og_2.max1
    have nl2 := og_2.nils
    go_wp2_with fail
    refine (spTake_any _ _ _ _ _ _ xs ys at_ txg _ (ia_2.below ((Below.refl _ _).alloc (Nat.le_refl _) _)) (ib_2.below ((Below.refl _ _).alloc (Nat.le_refl _) _)) nl1.1 nl1.2.1).mono ?_
    rw [← HX.out, ← HY.out, ← Hok.out]
    rintro e w3 ⟨A3, n3, c3, B3, m3, d3, S3, rfl, ow_3, hS3, hb3⟩
    have hk3 : Below w2.heap.size w2 w3 := ((Below.refl _ _).alloc (Nat.le_refl _) _).trans (hb3.mono (by simp <;> omega))
    have z3 : w2.heap.size + 1 ≤ w3.heap.size := by have := hb3.size; (try simp at this); omega
    have c3_0 : w3.cell? ⟨w1.heap.size, 0, none⟩ = some (.slice A1 n1 c1) := (hk3.cell (by simp <;> omega)).trans c2_0
    have c3_1 : w3.cell? ⟨w1.heap.size, 1, none⟩ = some (.slice B1 m1 d1) := (hk3.cell (by simp <;> omega)).trans c2_1
    have c3_2 : w3.cell? ⟨w2.heap.size, 0, none⟩ = some (.slice A2 n2 c2) := (hb3.cell (by simp <;> omega)).trans (by simp [go_sem])
    have c3_3 : w3.cell? ⟨w2.heap.size, 1, none⟩ = some (.slice B2 m2 d2) := (hb3.cell (by simp <;> omega)).trans (by simp [go_sem])
    have l3_0 : w1.heap.size < w3.heap.size := by omega
    have l3_1 : w2.heap.size < w3.heap.size := by omega
    have ia_3 := ia_2.below hk3
    have ib_3 := ib_2.below hk3
    have og_3 := og_2.below hk3
    have iv_ow : ∀ k ∈ S3, w2.heap.size + 1 ≤ k ∧ k < w3.heap.size := fun k hk => ⟨by have := hS3 k hk; (try simp at this); omega, ow_3.lt k hk⟩
    have hB3 : Below w.heap.size w w3 := hB2.trans (hk3.mono hB2.size)
    have y3 : w.heap.size ≤ w3.heap.size := hB3.size
    clear c2_0 c2_1 l2_0 ia_2 ib_2 og_2 hS3 hk3 hb3
    have mx3 := ow_3.max1
    have nl3 := ow_3.nils
    go_wp2_with fail
    refine (pfSpace_any _ _ _ _ _ _ _ _ _ _ _ _ X Y X Y _ (og_3.below ((Below.refl _ _).alloc (Nat.le_refl _) _)).one (og_3.below ((Below.refl _ _).alloc (Nat.le_refl _) _)).two (ow_3.below ((Below.refl _ _).alloc (Nat.le_refl _) _)).one (ow_3.below ((Below.refl _ _).alloc (Nat.le_refl _) _)).two).mono ?_
    rintro e w4 ⟨rfl, hb4⟩
    have hk4 : Below w3.heap.size w3 w4 := ((Below.refl _ _).alloc (Nat.le_refl _) _).trans (hb4.mono (by simp <;> omega))
    have z4 : w3.heap.size + 1 ≤ w4.heap.size := by have := hb4.size; (try simp at this); omega
    have c4_0 : w4.cell? ⟨w1.heap.size, 0, none⟩ = some (.slice A1 n1 c1) := (hk4.cell (by simp <;> omega)).trans c3_0
    have c4_1 : w4.cell? ⟨w1.heap.size, 1, none⟩ = some (.slice B1 m1 d1) := (hk4.cell (by simp <;> omega)).trans c3_1
    have c4_2 : w4.cell? ⟨w2.heap.size, 0, none⟩ = some (.slice A2 n2 c2) := (hk4.cell (by simp <;> omega)).trans c3_2
    have c4_3 : w4.cell? ⟨w2.heap.size, 1, none⟩ = some (.slice B2 m2 d2) := (hk4.cell (by simp <;> omega)).trans c3_3
    have c4_4 : w4.cell? ⟨w3.heap.size, 0, none⟩ = some (.slice A3 n3 c3) := (hb4.cell (by simp <;> omega)).trans (by simp [go_sem])
    have c4_5 : w4.cell? ⟨w3.heap.size, 1, none⟩ = some (.slice B3 m3 d3) := (hb4.cell (by simp <;> omega)).trans (by simp [go_sem])
    have l4_0 : w1.heap.size < w4.heap.size := by omega
    have l4_1 : w2.heap.size < w4.heap.size := by omega
    have l4_2 : w3.heap.size < w4.heap.size := by omega
    have ia_4 := ia_3.below hk4
    have ib_4 := ib_3.below hk4
    have og_4 := og_3.below hk4
    have ow_4 := ow_3.below hk4
    have hB4 : Below w.heap.size w w4 := hB3.trans (hk4.mono hB3.size)
    have y4 : w.heap.size ≤ w4.heap.size := hB4.size
    clear c3_0 c3_1 c3_2 c3_3 l3_0 l3_1 ia_3 ib_3 og_3 ow_3 hk4 hb4
    cases ok
    · go_wp2_with fail
      go_ret
      exact ⟨rfl, hB4⟩
    · have htk := Lib.hid (take_plain Hok.out.symm)
      obtain ⟨a, hat, h8, ha, hsp, h1, h9, hl, hX, hY⟩ := takeOk_iff Hok.out.symm
      subst hat
      have hlx : xs.length = 64 := hsp.1
      have hly : ys.length = 64 := hsp.2.1
      have hXX := HX.out.trans hX
      have hYY := HY.out.trans hY
      have hXa : X.getD a 0 = xs.getD a 0 + 1 := by rw [hXX]; exact getD_set_self (by omega)
      have hYa : Y.getD a 0 = txg := by rw [hYY]; exact getD_set_self (by omega)
      have hXL : X.length = 64 := by rw [hXX]; simpa using hlx
      have hYL : Y.length = 64 := by rw [hYY]; simpa using hly
      have hspX : SpOk X Y := by rw [hXX, hYY]; exact take_spOk hsp h8 ha h1 h9 hl
      have hsum : X.sum = xs.sum + 1 := by rw [hXX, sum_set _ _ _ (by omega)]; omega
      have hgok : giveOk X Y a = true := by have := htk.out.1; rw [← HX.out, ← HY.out] at this; exact this
      have hgX : giveX X Y a = xs := by have := htk.out.2; rw [← HX.out, ← HY.out] at this; exact this
      have hbx : ∀ j, 0 ≤ xs.getD j 0 ∧ xs.getD j 0 ≤ 900 := fun j => by by_cases hj : j < 64; (have := hsp.2.2 j hj; unfold rowOk at this; omega); (rw [List.getD_eq_getElem?_getD, List.getElem?_eq_none (by omega)]; simp)
      have hbX : ∀ j, 0 ≤ X.getD j 0 ∧ X.getD j 0 ≤ 900 := fun j => by by_cases hj : j < 64; (have := hspX.2.2 j hj; unfold rowOk at this; omega); (rw [List.getD_eq_getElem?_getD, List.getElem?_eq_none (by omega)]; simp)
      have sb := sum_bd hbx 64 (by omega)
      rw [List.take_of_length_le (by omega)] at sb
      have hn2 : n2 = 64 := by have := og_4.one.len; omega
      have hm2 : m2 = 64 := by have := og_4.two.len; omega
      have hn1 : n1 = 64 := by have := ia_4.len; omega
      subst hn1; subst hn2; subst hm2
      obtain ⟨q1, f1, rfl, _, hc1⟩ := og_4.one.at_ (k := a) ha
      obtain ⟨q2, f2, rfl, _, hc2⟩ := og_4.two.at_ (k := a) ha
      obtain ⟨q3, f3, rfl, _, hc3⟩ := ia_4.at_ (k := a) ha
      have v1 := hc1 a ha; rw [hXa] at v1
      have v2 := hc2 a ha; rw [hYa] at v2
      have v3 := hc3 a ha
      obtain ⟨g, hg⟩ : ∃ g, g = xs.getD a 0 := ⟨_, rfl⟩
      have hg9 := hbx a; have hg8 := hbX a; rw [hXa] at hg8; rw [← hg] at v1 v3 hg9 hg8
      have HG := Lib.hid hg; clear hg
      obtain ⟨sx, hsx⟩ : ∃ s, s = xs.sum := ⟨_, rfl⟩
      rw [← hsx] at sb hsum
      have Hsx := Lib.hid hsx; have HXS := Lib.hid hsum; have HspX := Lib.hid (spOk_iff.2 hspX); have HbX := Lib.hid hbX; have Hbx := Lib.hid hbx; have HgX := Lib.hid hgX; have Hgok := Lib.hid hgok
      clear hc1 hc2 hc3 hX hY hXX hYY hXa hYa hsp hspX hsum hgok hgX hbx hbX hsx hl HX HY
      obtain ⟨sb1, sb2⟩ := sb; obtain ⟨hg0, hg9⟩ := hg9; obtain ⟨_, hg8⟩ := hg8
      go_wp2_with fail
      refine (spaceGive_any _ _ _ _ _ _ X Y (a : Int) _ og_4.one og_4.two nl2.1 nl2.2.1).mono ?_
      rw [HgX.out, Hgok.out]
      rintro e w5 ⟨A5, n5, c5, B5, m5, d5, S5, rfl, oh_5, hS5, hb5⟩
      have p1 := World.block_lt_of_cell? _ _ v1; have p2 := World.block_lt_of_cell? _ _ v2; have p3 := World.block_lt_of_cell? _ _ v3
      have v1 := (hb5.cell p1).trans v1; have v2 := (hb5.cell p2).trans v2; have v3 := (hb5.cell p3).trans v3
      have p1 : q1 < w5.heap.size := Nat.lt_of_lt_of_le p1 hb5.size; have p2 : q2 < w5.heap.size := Nat.lt_of_lt_of_le p2 hb5.size; have p3 : q3 < w5.heap.size := Nat.lt_of_lt_of_le p3 hb5.size
      have hk5 : Below w4.heap.size w4 w5 := hb5
      have z5 : w4.heap.size + 0 ≤ w5.heap.size := by have := hb5.size; (try simp at this); omega
      have c5_0 : w5.cell? ⟨w1.heap.size, 0, none⟩ = some (.slice (some ⟨q3, f3, none⟩) 64 c1) := (hk5.cell (by simp <;> omega)).trans c4_0
      have c5_1 : w5.cell? ⟨w1.heap.size, 1, none⟩ = some (.slice B1 m1 d1) := (hk5.cell (by simp <;> omega)).trans c4_1
      have c5_2 : w5.cell? ⟨w2.heap.size, 0, none⟩ = some (.slice (some ⟨q1, f1, none⟩) 64 c2) := (hk5.cell (by simp <;> omega)).trans c4_2
      have c5_3 : w5.cell? ⟨w2.heap.size, 1, none⟩ = some (.slice (some ⟨q2, f2, none⟩) 64 d2) := (hk5.cell (by simp <;> omega)).trans c4_3
      have c5_4 : w5.cell? ⟨w3.heap.size, 0, none⟩ = some (.slice A3 n3 c3) := (hk5.cell (by simp <;> omega)).trans c4_4
      have c5_5 : w5.cell? ⟨w3.heap.size, 1, none⟩ = some (.slice B3 m3 d3) := (hk5.cell (by simp <;> omega)).trans c4_5
      have l5_0 : w1.heap.size < w5.heap.size := by omega
      have l5_1 : w2.heap.size < w5.heap.size := by omega
      have l5_2 : w3.heap.size < w5.heap.size := by omega
      have ia_5 := ia_4.below hk5
      have ib_5 := ib_4.below hk5
      have og_5 := og_4.below hk5
      have ow_5 := ow_4.below hk5
      have iv_oh : ∀ k ∈ S5, w4.heap.size + 0 ≤ k ∧ k < w5.heap.size := fun k hk => ⟨by have := hS5 k hk; (try simp at this); omega, oh_5.lt k hk⟩
      have hB5 : Below w.heap.size w w5 := hB4.trans (hk5.mono hB4.size)
      have y5 : w.heap.size ≤ w5.heap.size := hB5.size
      clear c4_0 c4_1 c4_2 c4_3 c4_4 c4_5 l4_0 l4_1 l4_2 ia_4 ib_4 og_4 ow_4 hS5 hk5 hb5
      have mx5 := oh_5.max1
      have hsame : eqInts xs xs = true := hself xs
      have u1 := IntWalk.i64_in (g + 1) (by omega); have u2 := IntWalk.i64_in (sx + 1) (by omega)
      have k0 : (0 : Int) ≤ (a : Int) := by omega
      have k1 : (a : Int) < 64 := by omega
      go_upto_region 10 with fail
      generalize hW6 : w5.alloc (.cells #[.slice A5 n5 c5, .slice B5 m5 d5] 25) = w6 at *
      have hb6 : Below w5.heap.size w5 w6 := by rw [← hW6]; exact (Below.refl _ _).alloc (Nat.le_refl _) _
      have e6 : w6.heap[w5.heap.size]? = some (.cells #[.slice A5 n5 c5, .slice B5 m5 d5] 25 (0, 0)) := by rw [← hW6]; exact heap_alloc_new _ _
      clear hW6
      have v1 := (hb6.cell p1).trans v1; have v2 := (hb6.cell p2).trans v2; have v3 := (hb6.cell p3).trans v3
      have p1 : q1 < w6.heap.size := Nat.lt_of_lt_of_le p1 hb6.size; have p2 : q2 < w6.heap.size := Nat.lt_of_lt_of_le p2 hb6.size; have p3 : q3 < w6.heap.size := Nat.lt_of_lt_of_le p3 hb6.size
      have x0 : w6.cell? ⟨w5.heap.size, 0, none⟩ = some (.slice A5 n5 c5) := cell_of_row _ _ 0 _ _ (0, 0) e6
      have px := World.block_lt_of_cell? _ _ x0
      have y0_ : w6.cell? ⟨w1.heap.size, 0, none⟩ = some (.slice (some ⟨q3, f3, none⟩) 64 c1) := (hb6.cell (World.block_lt_of_cell? _ _ c5_0)).trans c5_0
      have z0_ := World.block_lt_of_cell? _ _ y0_
      have y1_ : w6.cell? ⟨w1.heap.size, 1, none⟩ = some (.slice B1 m1 d1) := (hb6.cell (World.block_lt_of_cell? _ _ c5_1)).trans c5_1
      have z1_ := World.block_lt_of_cell? _ _ y1_
      have y2_ : w6.cell? ⟨w2.heap.size, 0, none⟩ = some (.slice (some ⟨q1, f1, none⟩) 64 c2) := (hb6.cell (World.block_lt_of_cell? _ _ c5_2)).trans c5_2
      have z2_ := World.block_lt_of_cell? _ _ y2_
      have y3_ : w6.cell? ⟨w2.heap.size, 1, none⟩ = some (.slice (some ⟨q2, f2, none⟩) 64 d2) := (hb6.cell (World.block_lt_of_cell? _ _ c5_3)).trans c5_3
      have z3_ := World.block_lt_of_cell? _ _ y3_
      have y4_ : w6.cell? ⟨w3.heap.size, 0, none⟩ = some (.slice A3 n3 c3) := (hb6.cell (World.block_lt_of_cell? _ _ c5_4)).trans c5_4
      have z4_ := World.block_lt_of_cell? _ _ y4_
      have y5_ : w6.cell? ⟨w3.heap.size, 1, none⟩ = some (.slice B3 m3 d3) := (hb6.cell (World.block_lt_of_cell? _ _ c5_5)).trans c5_5
      have z5_ := World.block_lt_of_cell? _ _ y5_
      clear c5_0 c5_1 c5_2 c5_3 c5_4 c5_5
      have og_6 := og_5.below hb6; have ia_6 := ia_5.below hb6; have ib_6 := ib_5.below hb6; have oh_6 := oh_5.below hb6
      have hB6 : Below w.heap.size w w6 := hB5.trans (hb6.mono hB5.size)
      clear e6 hb6 og_5 ia_5 ib_5 oh_5 ow_5
      apply wp_region_rg (by kernel_rfl) (false :: false :: true :: false :: false :: false :: false :: false :: false :: false :: false :: false :: false :: false :: false :: false :: false :: false :: false :: false :: false :: false :: false :: false :: false :: false :: false :: false :: false :: false :: false :: false :: false :: false :: false :: false :: false :: false :: false :: false :: false :: false :: false :: false :: false :: false :: false :: false :: false :: false :: false :: false :: false :: false :: false :: false :: false :: true :: true :: true :: true :: true :: true :: true :: true :: true :: true :: true :: true :: true :: true :: true :: true :: true :: true :: true :: true :: true :: true :: true :: true :: true :: true :: true :: true :: true :: true :: true :: true :: true :: true :: true :: true :: true :: true :: true :: true :: true :: true :: true :: true :: true :: []) (some 57 :: some 58 :: some 59 :: some 60 :: some 61 :: some 62 :: some 63 :: some 64 :: some 65 :: some 66 :: some 67 :: some 68 :: some 69 :: some 70 :: some 71 :: some 72 :: some 73 :: some 74 :: some 75 :: some 76 :: some 77 :: some 78 :: some 79 :: some 80 :: some 81 :: some 82 :: some 83 :: some 84 :: some 85 :: some 86 :: some 87 :: some 88 :: some 89 :: some 90 :: some 91 :: some 92 :: some 93 :: some 94 :: some 95 :: some 96 :: some 97 :: some 98 :: some 99 :: some 100 :: some 101 :: some 2 :: []) ([] :: [0] :: [1] :: [1, 2] :: [1] :: [1, 4] :: [1, 3, 5] :: [1, 6] :: [7] :: [8] :: [8, 9] :: [8] :: [8, 10, 11] :: [8, 12] :: [8] :: [8, 13, 14] :: [8, 15] :: [16] :: [17] :: [17, 18] :: [17] :: [17, 19, 20] :: [17, 21] :: [17] :: [17, 23] :: [17] :: [17, 24, 25] :: [17, 26] :: [17, 27] :: [17, 22, 28] :: [17, 29] :: [30] :: [31] :: [31, 32] :: [31, 33] :: [34] :: [35] :: [35, 36] :: [35, 37] :: [35] :: [35, 39] :: [35, 40] :: [35, 41] :: [35, 38, 42] :: [35, 43] :: [44] :: []) (StP.is _ :: StP.is _ :: StP.is _ :: StP.is _ :: StP.is _ :: StP.is _ :: StP.is _ :: StP.is _ :: StP.is _ :: StP.is _ :: StP.is _ :: StP.is _ :: StP.is _ :: StP.is _ :: StP.is _ :: StP.is _ :: StP.is _ :: StP.is _ :: StP.is _ :: StP.is _ :: StP.is _ :: StP.is _ :: StP.is _ :: StP.is _ :: StP.is _ :: StP.is _ :: StP.is _ :: StP.is _ :: StP.is _ :: StP.is _ :: StP.is _ :: StP.is _ :: StP.is _ :: StP.is _ :: StP.is _ :: StP.is _ :: StP.is _ :: StP.is _ :: StP.is _ :: StP.is _ :: StP.is _ :: StP.is _ :: StP.is _ :: StP.is _ :: StP.is _ :: StP.is _ :: []) (by kernel_rfl)
      case hobs =>
        refine ⟨fun y w' hS hF K hK => ?_, ?_⟩
        · skip -- 0: move
          simp only [fillL, cond_true, cond_false, List.getD_cons_zero, List.getD_cons_succ, StP.is, Act.put, List.setIfInBounds_toArray, List.set_cons_zero, List.set_cons_succ, Nat.reduceAdd] at hK ⊢
          refine rg_yes (by kernel_rfl) ?_
          clear hF
          go_simp
          exact hK _ _ (Ext.refl _) rfl
        refine ⟨fun y w' hS hF K hK => ?_, ?_⟩
        · skip -- 1: move
          have e57 : y 57 = _ := hF.1
          simp only [fillL, cond_true, cond_false, List.getD_cons_zero, List.getD_cons_succ, StP.is, Act.put, List.setIfInBounds_toArray, List.set_cons_zero, List.set_cons_succ, Nat.reduceAdd, e57] at hK ⊢
          refine rg_yes (by kernel_rfl) ?_
          clear e57
          clear hF
          go_simp
          exact hK _ _ (Ext.refl _) rfl
        refine ⟨fun y w' hS hF K hK => ?_, ?_⟩
        · skip -- 2: fieldAddr
          have e58 : y 58 = _ := hF.1
          simp only [fillL, cond_true, cond_false, List.getD_cons_zero, List.getD_cons_succ, StP.is, Act.put, List.setIfInBounds_toArray, List.set_cons_zero, List.set_cons_succ, Nat.reduceAdd, e58] at hK ⊢
          refine rg_yes (by kernel_rfl) ?_
          clear e58
          clear hF
          go_simp
          exact hK _ _ (Ext.refl _) rfl
        refine ⟨fun y w' hS hF K hK => ?_, ?_⟩
        · skip -- 3: load
          have e58 : y 58 = _ := hF.1
          have e59 : y 59 = _ := hF.2.1
          simp only [fillL, cond_true, cond_false, List.getD_cons_zero, List.getD_cons_succ, StP.is, Act.put, List.setIfInBounds_toArray, List.set_cons_zero, List.set_cons_succ, Nat.reduceAdd, e58, e59] at hK ⊢
          refine rg_yes (by kernel_rfl) ?_
          have qx0_ := (Below.cell hS z0_).trans y0_
          have qx1_ := (Below.cell hS z1_).trans y1_
          have qx2_ := (Below.cell hS z2_).trans y2_
          have qx3_ := (Below.cell hS z3_).trans y3_
          have qx4_ := (Below.cell hS z4_).trans y4_
          have qx5_ := (Below.cell hS z5_).trans y5_
          have qx6_ := (Below.cell hS p1).trans v1
          have qx7_ := (Below.cell hS p2).trans v2
          have qx8_ := (Below.cell hS p3).trans v3
          have qx9_ := (Below.cell hS px).trans x0
          clear e58 e59
          clear hF
          go_simp
          exact hK _ _ (Ext.refl _) rfl
        refine ⟨fun y w' hS hF K hK => ?_, ?_⟩
        · skip -- 4: fieldAddr
          have e58 : y 58 = _ := hF.1
          simp only [fillL, cond_true, cond_false, List.getD_cons_zero, List.getD_cons_succ, StP.is, Act.put, List.setIfInBounds_toArray, List.set_cons_zero, List.set_cons_succ, Nat.reduceAdd, e58] at hK ⊢
          refine rg_yes (by kernel_rfl) ?_
          clear e58
          clear hF
          go_simp
          exact hK _ _ (Ext.refl _) rfl
        refine ⟨fun y w' hS hF K hK => ?_, ?_⟩
        · skip -- 5: load
          have e58 : y 58 = _ := hF.1
          have e61 : y 61 = _ := hF.2.1
          simp only [fillL, cond_true, cond_false, List.getD_cons_zero, List.getD_cons_succ, StP.is, Act.put, List.setIfInBounds_toArray, List.set_cons_zero, List.set_cons_succ, Nat.reduceAdd, e58, e61] at hK ⊢
          refine rg_yes (by kernel_rfl) ?_
          have qx0_ := (Below.cell hS z0_).trans y0_
          have qx1_ := (Below.cell hS z1_).trans y1_
          have qx2_ := (Below.cell hS z2_).trans y2_
          have qx3_ := (Below.cell hS z3_).trans y3_
          have qx4_ := (Below.cell hS z4_).trans y4_
          have qx5_ := (Below.cell hS z5_).trans y5_
          have qx6_ := (Below.cell hS p1).trans v1
          have qx7_ := (Below.cell hS p2).trans v2
          have qx8_ := (Below.cell hS p3).trans v3
          have qx9_ := (Below.cell hS px).trans x0
          clear e58 e61
          clear hF
          go_simp
          exact hK _ _ (Ext.refl _) rfl
        refine ⟨fun y w' hS hF K hK => ?_, ?_⟩
        · skip -- 6: call
          have e58 : y 58 = _ := hF.1
          have e60 : y 60 = _ := hF.2.1
          have e62 : y 62 = _ := hF.2.2.1
          simp only [fillL, cond_true, cond_false, List.getD_cons_zero, List.getD_cons_succ, StP.is, Act.put, List.setIfInBounds_toArray, List.set_cons_zero, List.set_cons_succ, Nat.reduceAdd, e58, e60, e62] at hK ⊢
          refine rg_yes (by kernel_rfl) ?_
          clear e58 e60 e62
          clear hF
          go_simp
          go_at_call 33
          refine (pfInts_any _ _ _ _ _ _ xs xs _ (oh_6.below hS).one (ia_6.below hS)).mono ?_
          rw [hsame]
          rintro e w'' ⟨rfl, hq⟩
          exact hK _ _ (hq.below _) rfl
        refine ⟨fun y w' hS hF K hK => ?_, ?_⟩
        · skip -- 7: pick
          have e58 : y 58 = _ := hF.1
          have e63 : y 63 = _ := hF.2.1
          simp only [fillL, cond_true, cond_false, List.getD_cons_zero, List.getD_cons_succ, StP.is, Act.put, List.setIfInBounds_toArray, List.set_cons_zero, List.set_cons_succ, Nat.reduceAdd, e58, e63] at hK ⊢
          refine rg_yes (by kernel_rfl) ?_
          clear e58 e63
          clear hF
          go_simp
          exact hK _ _ (Ext.refl _) rfl
        refine ⟨fun y w' hS hF K hK => ?_, ?_⟩
        · skip -- 8: move
          have e64 : y 64 = _ := hF.1
          simp only [fillL, cond_true, cond_false, List.getD_cons_zero, List.getD_cons_succ, StP.is, Act.put, List.setIfInBounds_toArray, List.set_cons_zero, List.set_cons_succ, Nat.reduceAdd, e64] at hK ⊢
          refine rg_yes (by kernel_rfl) ?_
          clear e64
          clear hF
          go_simp
          exact hK _ _ (Ext.refl _) rfl
        refine ⟨fun y w' hS hF K hK => ?_, ?_⟩
        · skip -- 9: fieldAddr
          have e65 : y 65 = _ := hF.1
          simp only [fillL, cond_true, cond_false, List.getD_cons_zero, List.getD_cons_succ, StP.is, Act.put, List.setIfInBounds_toArray, List.set_cons_zero, List.set_cons_succ, Nat.reduceAdd, e65] at hK ⊢
          refine rg_yes (by kernel_rfl) ?_
          clear e65
          clear hF
          go_simp
          exact hK _ _ (Ext.refl _) rfl
        refine ⟨fun y w' hS hF K hK => ?_, ?_⟩
        · skip -- 10: load
          have e65 : y 65 = _ := hF.1
          have e66 : y 66 = _ := hF.2.1
          simp only [fillL, cond_true, cond_false, List.getD_cons_zero, List.getD_cons_succ, StP.is, Act.put, List.setIfInBounds_toArray, List.set_cons_zero, List.set_cons_succ, Nat.reduceAdd, e65, e66] at hK ⊢
          refine rg_yes (by kernel_rfl) ?_
          have qx0_ := (Below.cell hS z0_).trans y0_
          have qx1_ := (Below.cell hS z1_).trans y1_
          have qx2_ := (Below.cell hS z2_).trans y2_
          have qx3_ := (Below.cell hS z3_).trans y3_
          have qx4_ := (Below.cell hS z4_).trans y4_
          have qx5_ := (Below.cell hS z5_).trans y5_
          have qx6_ := (Below.cell hS p1).trans v1
          have qx7_ := (Below.cell hS p2).trans v2
          have qx8_ := (Below.cell hS p3).trans v3
          have qx9_ := (Below.cell hS px).trans x0
          clear e65 e66
          clear hF
          go_simp
          exact hK _ _ (Ext.refl _) rfl
        refine ⟨fun y w' hS hF K hK => ?_, ?_⟩
        · skip -- 11: move
          have e65 : y 65 = _ := hF.1
          simp only [fillL, cond_true, cond_false, List.getD_cons_zero, List.getD_cons_succ, StP.is, Act.put, List.setIfInBounds_toArray, List.set_cons_zero, List.set_cons_succ, Nat.reduceAdd, e65] at hK ⊢
          refine rg_yes (by kernel_rfl) ?_
          clear e65
          clear hF
          go_simp
          exact hK _ _ (Ext.refl _) rfl
        refine ⟨fun y w' hS hF K hK => ?_, ?_⟩
        · skip -- 12: indexAddr
          have e65 : y 65 = _ := hF.1
          have e67 : y 67 = _ := hF.2.1
          have e68 : y 68 = _ := hF.2.2.1
          simp only [fillL, cond_true, cond_false, List.getD_cons_zero, List.getD_cons_succ, StP.is, Act.put, List.setIfInBounds_toArray, List.set_cons_zero, List.set_cons_succ, Nat.reduceAdd, e65, e67, e68] at hK ⊢
          refine rg_yes (by kernel_rfl) ?_
          clear e65 e67 e68
          clear hF
          go_simp
          exact hK _ _ (Ext.refl _) rfl
        refine ⟨fun y w' hS hF K hK => ?_, ?_⟩
        · skip -- 13: load
          have e65 : y 65 = _ := hF.1
          have e69 : y 69 = _ := hF.2.1
          simp only [fillL, cond_true, cond_false, List.getD_cons_zero, List.getD_cons_succ, StP.is, Act.put, List.setIfInBounds_toArray, List.set_cons_zero, List.set_cons_succ, Nat.reduceAdd, e65, e69] at hK ⊢
          refine rg_yes (by kernel_rfl) ?_
          have qx0_ := (Below.cell hS z0_).trans y0_
          have qx1_ := (Below.cell hS z1_).trans y1_
          have qx2_ := (Below.cell hS z2_).trans y2_
          have qx3_ := (Below.cell hS z3_).trans y3_
          have qx4_ := (Below.cell hS z4_).trans y4_
          have qx5_ := (Below.cell hS z5_).trans y5_
          have qx6_ := (Below.cell hS p1).trans v1
          have qx7_ := (Below.cell hS p2).trans v2
          have qx8_ := (Below.cell hS p3).trans v3
          have qx9_ := (Below.cell hS px).trans x0
          clear e65 e69
          clear hF
          go_simp
          exact hK _ _ (Ext.refl _) rfl
        refine ⟨fun y w' hS hF K hK => ?_, ?_⟩
        · skip -- 14: move
          have e65 : y 65 = _ := hF.1
          simp only [fillL, cond_true, cond_false, List.getD_cons_zero, List.getD_cons_succ, StP.is, Act.put, List.setIfInBounds_toArray, List.set_cons_zero, List.set_cons_succ, Nat.reduceAdd, e65] at hK ⊢
          refine rg_yes (by kernel_rfl) ?_
          clear e65
          clear hF
          go_simp
          exact hK _ _ (Ext.refl _) rfl
        refine ⟨fun y w' hS hF K hK => ?_, ?_⟩
        · skip -- 15: binOp
          have e65 : y 65 = _ := hF.1
          have e70 : y 70 = _ := hF.2.1
          have e71 : y 71 = _ := hF.2.2.1
          simp only [fillL, cond_true, cond_false, List.getD_cons_zero, List.getD_cons_succ, StP.is, Act.put, List.setIfInBounds_toArray, List.set_cons_zero, List.set_cons_succ, Nat.reduceAdd, e65, e70, e71] at hK ⊢
          refine rg_yes (by kernel_rfl) ?_
          clear e65 e70 e71
          clear hF
          go_simp
          exact hK _ _ (Ext.refl _) rfl
        refine ⟨fun y w' hS hF K hK => ?_, ?_⟩
        · skip -- 16: pick
          have e65 : y 65 = _ := hF.1
          have e72 : y 72 = _ := hF.2.1
          simp only [fillL, cond_true, cond_false, List.getD_cons_zero, List.getD_cons_succ, StP.is, Act.put, List.setIfInBounds_toArray, List.set_cons_zero, List.set_cons_succ, Nat.reduceAdd, e65, e72] at hK ⊢
          refine rg_yes (by kernel_rfl) ?_
          clear e65 e72
          clear hF
          go_simp
          exact hK _ _ (Ext.refl _) rfl
        refine ⟨fun y w' hS hF K hK => ?_, ?_⟩
        · skip -- 17: move
          have e73 : y 73 = _ := hF.1
          simp only [fillL, cond_true, cond_false, List.getD_cons_zero, List.getD_cons_succ, StP.is, Act.put, List.setIfInBounds_toArray, List.set_cons_zero, List.set_cons_succ, Nat.reduceAdd, e73] at hK ⊢
          refine rg_yes (by kernel_rfl) ?_
          clear e73
          clear hF
          go_simp
          exact hK _ _ (Ext.refl _) rfl
        refine ⟨fun y w' hS hF K hK => ?_, ?_⟩
        · skip -- 18: fieldAddr
          have e74 : y 74 = _ := hF.1
          simp only [fillL, cond_true, cond_false, List.getD_cons_zero, List.getD_cons_succ, StP.is, Act.put, List.setIfInBounds_toArray, List.set_cons_zero, List.set_cons_succ, Nat.reduceAdd, e74] at hK ⊢
          refine rg_yes (by kernel_rfl) ?_
          clear e74
          clear hF
          go_simp
          exact hK _ _ (Ext.refl _) rfl
        refine ⟨fun y w' hS hF K hK => ?_, ?_⟩
        · skip -- 19: load
          have e74 : y 74 = _ := hF.1
          have e75 : y 75 = _ := hF.2.1
          simp only [fillL, cond_true, cond_false, List.getD_cons_zero, List.getD_cons_succ, StP.is, Act.put, List.setIfInBounds_toArray, List.set_cons_zero, List.set_cons_succ, Nat.reduceAdd, e74, e75] at hK ⊢
          refine rg_yes (by kernel_rfl) ?_
          have qx0_ := (Below.cell hS z0_).trans y0_
          have qx1_ := (Below.cell hS z1_).trans y1_
          have qx2_ := (Below.cell hS z2_).trans y2_
          have qx3_ := (Below.cell hS z3_).trans y3_
          have qx4_ := (Below.cell hS z4_).trans y4_
          have qx5_ := (Below.cell hS z5_).trans y5_
          have qx6_ := (Below.cell hS p1).trans v1
          have qx7_ := (Below.cell hS p2).trans v2
          have qx8_ := (Below.cell hS p3).trans v3
          have qx9_ := (Below.cell hS px).trans x0
          clear e74 e75
          clear hF
          go_simp
          exact hK _ _ (Ext.refl _) rfl
        refine ⟨fun y w' hS hF K hK => ?_, ?_⟩
        · skip -- 20: move
          have e74 : y 74 = _ := hF.1
          simp only [fillL, cond_true, cond_false, List.getD_cons_zero, List.getD_cons_succ, StP.is, Act.put, List.setIfInBounds_toArray, List.set_cons_zero, List.set_cons_succ, Nat.reduceAdd, e74] at hK ⊢
          refine rg_yes (by kernel_rfl) ?_
          clear e74
          clear hF
          go_simp
          exact hK _ _ (Ext.refl _) rfl
        refine ⟨fun y w' hS hF K hK => ?_, ?_⟩
        · skip -- 21: indexAddr
          have e74 : y 74 = _ := hF.1
          have e76 : y 76 = _ := hF.2.1
          have e77 : y 77 = _ := hF.2.2.1
          simp only [fillL, cond_true, cond_false, List.getD_cons_zero, List.getD_cons_succ, StP.is, Act.put, List.setIfInBounds_toArray, List.set_cons_zero, List.set_cons_succ, Nat.reduceAdd, e74, e76, e77] at hK ⊢
          refine rg_yes (by kernel_rfl) ?_
          clear e74 e76 e77
          clear hF
          go_simp
          exact hK _ _ (Ext.refl _) rfl
        refine ⟨fun y w' hS hF K hK => ?_, ?_⟩
        · skip -- 22: load
          have e74 : y 74 = _ := hF.1
          have e78 : y 78 = _ := hF.2.1
          simp only [fillL, cond_true, cond_false, List.getD_cons_zero, List.getD_cons_succ, StP.is, Act.put, List.setIfInBounds_toArray, List.set_cons_zero, List.set_cons_succ, Nat.reduceAdd, e74, e78] at hK ⊢
          refine rg_yes (by kernel_rfl) ?_
          have qx0_ := (Below.cell hS z0_).trans y0_
          have qx1_ := (Below.cell hS z1_).trans y1_
          have qx2_ := (Below.cell hS z2_).trans y2_
          have qx3_ := (Below.cell hS z3_).trans y3_
          have qx4_ := (Below.cell hS z4_).trans y4_
          have qx5_ := (Below.cell hS z5_).trans y5_
          have qx6_ := (Below.cell hS p1).trans v1
          have qx7_ := (Below.cell hS p2).trans v2
          have qx8_ := (Below.cell hS p3).trans v3
          have qx9_ := (Below.cell hS px).trans x0
          clear e74 e78
          clear hF
          go_simp
          exact hK _ _ (Ext.refl _) rfl
        refine ⟨fun y w' hS hF K hK => ?_, ?_⟩
        · skip -- 23: fieldAddr
          have e74 : y 74 = _ := hF.1
          simp only [fillL, cond_true, cond_false, List.getD_cons_zero, List.getD_cons_succ, StP.is, Act.put, List.setIfInBounds_toArray, List.set_cons_zero, List.set_cons_succ, Nat.reduceAdd, e74] at hK ⊢
          refine rg_yes (by kernel_rfl) ?_
          clear e74
          clear hF
          go_simp
          exact hK _ _ (Ext.refl _) rfl
        refine ⟨fun y w' hS hF K hK => ?_, ?_⟩
        · skip -- 24: load
          have e74 : y 74 = _ := hF.1
          have e80 : y 80 = _ := hF.2.1
          simp only [fillL, cond_true, cond_false, List.getD_cons_zero, List.getD_cons_succ, StP.is, Act.put, List.setIfInBounds_toArray, List.set_cons_zero, List.set_cons_succ, Nat.reduceAdd, e74, e80] at hK ⊢
          refine rg_yes (by kernel_rfl) ?_
          have qx0_ := (Below.cell hS z0_).trans y0_
          have qx1_ := (Below.cell hS z1_).trans y1_
          have qx2_ := (Below.cell hS z2_).trans y2_
          have qx3_ := (Below.cell hS z3_).trans y3_
          have qx4_ := (Below.cell hS z4_).trans y4_
          have qx5_ := (Below.cell hS z5_).trans y5_
          have qx6_ := (Below.cell hS p1).trans v1
          have qx7_ := (Below.cell hS p2).trans v2
          have qx8_ := (Below.cell hS p3).trans v3
          have qx9_ := (Below.cell hS px).trans x0
          clear e74 e80
          clear hF
          go_simp
          exact hK _ _ (Ext.refl _) rfl
        refine ⟨fun y w' hS hF K hK => ?_, ?_⟩
        · skip -- 25: move
          have e74 : y 74 = _ := hF.1
          simp only [fillL, cond_true, cond_false, List.getD_cons_zero, List.getD_cons_succ, StP.is, Act.put, List.setIfInBounds_toArray, List.set_cons_zero, List.set_cons_succ, Nat.reduceAdd, e74] at hK ⊢
          refine rg_yes (by kernel_rfl) ?_
          clear e74
          clear hF
          go_simp
          exact hK _ _ (Ext.refl _) rfl
        refine ⟨fun y w' hS hF K hK => ?_, ?_⟩
        · skip -- 26: indexAddr
          have e74 : y 74 = _ := hF.1
          have e81 : y 81 = _ := hF.2.1
          have e82 : y 82 = _ := hF.2.2.1
          simp only [fillL, cond_true, cond_false, List.getD_cons_zero, List.getD_cons_succ, StP.is, Act.put, List.setIfInBounds_toArray, List.set_cons_zero, List.set_cons_succ, Nat.reduceAdd, e74, e81, e82] at hK ⊢
          refine rg_yes (by kernel_rfl) ?_
          clear e74 e81 e82
          clear hF
          go_simp
          exact hK _ _ (Ext.refl _) rfl
        refine ⟨fun y w' hS hF K hK => ?_, ?_⟩
        · skip -- 27: load
          have e74 : y 74 = _ := hF.1
          have e83 : y 83 = _ := hF.2.1
          simp only [fillL, cond_true, cond_false, List.getD_cons_zero, List.getD_cons_succ, StP.is, Act.put, List.setIfInBounds_toArray, List.set_cons_zero, List.set_cons_succ, Nat.reduceAdd, e74, e83] at hK ⊢
          refine rg_yes (by kernel_rfl) ?_
          have qx0_ := (Below.cell hS z0_).trans y0_
          have qx1_ := (Below.cell hS z1_).trans y1_
          have qx2_ := (Below.cell hS z2_).trans y2_
          have qx3_ := (Below.cell hS z3_).trans y3_
          have qx4_ := (Below.cell hS z4_).trans y4_
          have qx5_ := (Below.cell hS z5_).trans y5_
          have qx6_ := (Below.cell hS p1).trans v1
          have qx7_ := (Below.cell hS p2).trans v2
          have qx8_ := (Below.cell hS p3).trans v3
          have qx9_ := (Below.cell hS px).trans x0
          clear e74 e83
          clear hF
          go_simp
          exact hK _ _ (Ext.refl _) rfl
        refine ⟨fun y w' hS hF K hK => ?_, ?_⟩
        · skip -- 28: binOp
          have e74 : y 74 = _ := hF.1
          have e84 : y 84 = _ := hF.2.1
          simp only [fillL, cond_true, cond_false, List.getD_cons_zero, List.getD_cons_succ, StP.is, Act.put, List.setIfInBounds_toArray, List.set_cons_zero, List.set_cons_succ, Nat.reduceAdd, e74, e84] at hK ⊢
          refine rg_yes (by kernel_rfl) ?_
          clear e74 e84
          clear hF
          go_simp
          exact hK _ _ (Ext.refl _) rfl
        refine ⟨fun y w' hS hF K hK => ?_, ?_⟩
        · skip -- 29: binOp
          have e74 : y 74 = _ := hF.1
          have e79 : y 79 = _ := hF.2.1
          have e85 : y 85 = _ := hF.2.2.1
          simp only [fillL, cond_true, cond_false, List.getD_cons_zero, List.getD_cons_succ, StP.is, Act.put, List.setIfInBounds_toArray, List.set_cons_zero, List.set_cons_succ, Nat.reduceAdd, e74, e79, e85] at hK ⊢
          refine rg_yes (by kernel_rfl) ?_
          clear e74 e79 e85
          clear hF
          go_simp
          exact hK _ _ (Ext.refl _) rfl
        refine ⟨fun y w' hS hF K hK => ?_, ?_⟩
        · skip -- 30: pick
          have e74 : y 74 = _ := hF.1
          have e86 : y 86 = _ := hF.2.1
          simp only [fillL, cond_true, cond_false, List.getD_cons_zero, List.getD_cons_succ, StP.is, Act.put, List.setIfInBounds_toArray, List.set_cons_zero, List.set_cons_succ, Nat.reduceAdd, e74, e86] at hK ⊢
          refine rg_yes (by kernel_rfl) ?_
          clear e74 e86
          clear hF
          go_simp
          exact hK _ _ (Ext.refl _) rfl
        refine ⟨fun y w' hS hF K hK => ?_, ?_⟩
        · skip -- 31: move
          have e87 : y 87 = _ := hF.1
          simp only [fillL, cond_true, cond_false, List.getD_cons_zero, List.getD_cons_succ, StP.is, Act.put, List.setIfInBounds_toArray, List.set_cons_zero, List.set_cons_succ, Nat.reduceAdd, e87] at hK ⊢
          refine rg_yes (by kernel_rfl) ?_
          clear e87
          clear hF
          go_simp
          exact hK _ _ (Ext.refl _) rfl
        refine ⟨fun y w' hS hF K hK => ?_, ?_⟩
        · skip -- 32: load
          have e88 : y 88 = _ := hF.1
          simp only [fillL, cond_true, cond_false, List.getD_cons_zero, List.getD_cons_succ, StP.is, Act.put, List.setIfInBounds_toArray, List.set_cons_zero, List.set_cons_succ, Nat.reduceAdd, e88] at hK ⊢
          refine rg_yes (by kernel_rfl) ?_
          have qx0_ := (Below.cell hS z0_).trans y0_
          have qx1_ := (Below.cell hS z1_).trans y1_
          have qx2_ := (Below.cell hS z2_).trans y2_
          have qx3_ := (Below.cell hS z3_).trans y3_
          have qx4_ := (Below.cell hS z4_).trans y4_
          have qx5_ := (Below.cell hS z5_).trans y5_
          have qx6_ := (Below.cell hS p1).trans v1
          have qx7_ := (Below.cell hS p2).trans v2
          have qx8_ := (Below.cell hS p3).trans v3
          have qx9_ := (Below.cell hS px).trans x0
          clear e88
          clear hF
          go_simp
          exact hK _ _ (Ext.refl _) rfl
        refine ⟨fun y w' hS hF K hK => ?_, ?_⟩
        · skip -- 33: call
          have e88 : y 88 = _ := hF.1
          have e89 : y 89 = _ := hF.2.1
          simp only [fillL, cond_true, cond_false, List.getD_cons_zero, List.getD_cons_succ, StP.is, Act.put, List.setIfInBounds_toArray, List.set_cons_zero, List.set_cons_succ, Nat.reduceAdd, e88, e89] at hK ⊢
          refine rg_yes (by kernel_rfl) ?_
          clear e88 e89
          clear hF
          go_simp
          go_at_call 16
          refine (spaceOk_any _ _ _ _ _ _ X Y _ (og_6.below hS).one (og_6.below hS).two).mono ?_
          rw [HspX.out]
          rintro e w'' ⟨rfl, hq⟩
          exact hK _ _ hq rfl
        refine ⟨fun y w' hS hF K hK => ?_, ?_⟩
        · skip -- 34: pick
          have e88 : y 88 = _ := hF.1
          have e90 : y 90 = _ := hF.2.1
          simp only [fillL, cond_true, cond_false, List.getD_cons_zero, List.getD_cons_succ, StP.is, Act.put, List.setIfInBounds_toArray, List.set_cons_zero, List.set_cons_succ, Nat.reduceAdd, e88, e90] at hK ⊢
          refine rg_yes (by kernel_rfl) ?_
          clear e88 e90
          clear hF
          go_simp
          exact hK _ _ (Ext.refl _) rfl
        refine ⟨fun y w' hS hF K hK => ?_, ?_⟩
        · skip -- 35: move
          have e91 : y 91 = _ := hF.1
          simp only [fillL, cond_true, cond_false, List.getD_cons_zero, List.getD_cons_succ, StP.is, Act.put, List.setIfInBounds_toArray, List.set_cons_zero, List.set_cons_succ, Nat.reduceAdd, e91] at hK ⊢
          refine rg_yes (by kernel_rfl) ?_
          clear e91
          clear hF
          go_simp
          exact hK _ _ (Ext.refl _) rfl
        refine ⟨fun y w' hS hF K hK => ?_, ?_⟩
        · skip -- 36: fieldAddr
          have e92 : y 92 = _ := hF.1
          simp only [fillL, cond_true, cond_false, List.getD_cons_zero, List.getD_cons_succ, StP.is, Act.put, List.setIfInBounds_toArray, List.set_cons_zero, List.set_cons_succ, Nat.reduceAdd, e92] at hK ⊢
          refine rg_yes (by kernel_rfl) ?_
          clear e92
          clear hF
          go_simp
          exact hK _ _ (Ext.refl _) rfl
        refine ⟨fun y w' hS hF K hK => ?_, ?_⟩
        · skip -- 37: load
          have e92 : y 92 = _ := hF.1
          have e93 : y 93 = _ := hF.2.1
          simp only [fillL, cond_true, cond_false, List.getD_cons_zero, List.getD_cons_succ, StP.is, Act.put, List.setIfInBounds_toArray, List.set_cons_zero, List.set_cons_succ, Nat.reduceAdd, e92, e93] at hK ⊢
          refine rg_yes (by kernel_rfl) ?_
          have qx0_ := (Below.cell hS z0_).trans y0_
          have qx1_ := (Below.cell hS z1_).trans y1_
          have qx2_ := (Below.cell hS z2_).trans y2_
          have qx3_ := (Below.cell hS z3_).trans y3_
          have qx4_ := (Below.cell hS z4_).trans y4_
          have qx5_ := (Below.cell hS z5_).trans y5_
          have qx6_ := (Below.cell hS p1).trans v1
          have qx7_ := (Below.cell hS p2).trans v2
          have qx8_ := (Below.cell hS p3).trans v3
          have qx9_ := (Below.cell hS px).trans x0
          clear e92 e93
          clear hF
          go_simp
          exact hK _ _ (Ext.refl _) rfl
        refine ⟨fun y w' hS hF K hK => ?_, ?_⟩
        · skip -- 38: call
          have e92 : y 92 = _ := hF.1
          have e94 : y 94 = _ := hF.2.1
          simp only [fillL, cond_true, cond_false, List.getD_cons_zero, List.getD_cons_succ, StP.is, Act.put, List.setIfInBounds_toArray, List.set_cons_zero, List.set_cons_succ, Nat.reduceAdd, e92, e94] at hK ⊢
          refine rg_yes (by kernel_rfl) ?_
          clear e92 e94
          clear hF
          go_simp
          go_at_call 34
          refine (pfSum_any _ _ _ X _ (og_6.below hS).one (by omega) HbX.out).mono ?_
          rw [HXS.out]
          rintro e w'' ⟨rfl, hq⟩
          subst hq
          exact hK _ _ (Ext.refl _) rfl
        refine ⟨fun y w' hS hF K hK => ?_, ?_⟩
        · skip -- 39: fieldAddr
          have e92 : y 92 = _ := hF.1
          simp only [fillL, cond_true, cond_false, List.getD_cons_zero, List.getD_cons_succ, StP.is, Act.put, List.setIfInBounds_toArray, List.set_cons_zero, List.set_cons_succ, Nat.reduceAdd, e92] at hK ⊢
          refine rg_yes (by kernel_rfl) ?_
          clear e92
          clear hF
          go_simp
          exact hK _ _ (Ext.refl _) rfl
        refine ⟨fun y w' hS hF K hK => ?_, ?_⟩
        · skip -- 40: load
          have e92 : y 92 = _ := hF.1
          have e96 : y 96 = _ := hF.2.1
          simp only [fillL, cond_true, cond_false, List.getD_cons_zero, List.getD_cons_succ, StP.is, Act.put, List.setIfInBounds_toArray, List.set_cons_zero, List.set_cons_succ, Nat.reduceAdd, e92, e96] at hK ⊢
          refine rg_yes (by kernel_rfl) ?_
          have qx0_ := (Below.cell hS z0_).trans y0_
          have qx1_ := (Below.cell hS z1_).trans y1_
          have qx2_ := (Below.cell hS z2_).trans y2_
          have qx3_ := (Below.cell hS z3_).trans y3_
          have qx4_ := (Below.cell hS z4_).trans y4_
          have qx5_ := (Below.cell hS z5_).trans y5_
          have qx6_ := (Below.cell hS p1).trans v1
          have qx7_ := (Below.cell hS p2).trans v2
          have qx8_ := (Below.cell hS p3).trans v3
          have qx9_ := (Below.cell hS px).trans x0
          clear e92 e96
          clear hF
          go_simp
          exact hK _ _ (Ext.refl _) rfl
        refine ⟨fun y w' hS hF K hK => ?_, ?_⟩
        · skip -- 41: call
          have e92 : y 92 = _ := hF.1
          have e97 : y 97 = _ := hF.2.1
          simp only [fillL, cond_true, cond_false, List.getD_cons_zero, List.getD_cons_succ, StP.is, Act.put, List.setIfInBounds_toArray, List.set_cons_zero, List.set_cons_succ, Nat.reduceAdd, e92, e97] at hK ⊢
          refine rg_yes (by kernel_rfl) ?_
          clear e92 e97
          clear hF
          go_simp
          go_at_call 34
          refine (pfSum_any _ _ _ xs _ (ia_6.below hS) (by omega) Hbx.out).mono ?_
          rw [← Hsx.out]
          rintro e w'' ⟨rfl, hq⟩
          subst hq
          exact hK _ _ (Ext.refl _) rfl
        refine ⟨fun y w' hS hF K hK => ?_, ?_⟩
        · skip -- 42: binOp
          have e92 : y 92 = _ := hF.1
          have e98 : y 98 = _ := hF.2.1
          simp only [fillL, cond_true, cond_false, List.getD_cons_zero, List.getD_cons_succ, StP.is, Act.put, List.setIfInBounds_toArray, List.set_cons_zero, List.set_cons_succ, Nat.reduceAdd, e92, e98] at hK ⊢
          refine rg_yes (by kernel_rfl) ?_
          clear e92 e98
          clear hF
          go_simp
          exact hK _ _ (Ext.refl _) rfl
        refine ⟨fun y w' hS hF K hK => ?_, ?_⟩
        · skip -- 43: binOp
          have e92 : y 92 = _ := hF.1
          have e95 : y 95 = _ := hF.2.1
          have e99 : y 99 = _ := hF.2.2.1
          simp only [fillL, cond_true, cond_false, List.getD_cons_zero, List.getD_cons_succ, StP.is, Act.put, List.setIfInBounds_toArray, List.set_cons_zero, List.set_cons_succ, Nat.reduceAdd, e92, e95, e99] at hK ⊢
          refine rg_yes (by kernel_rfl) ?_
          clear e92 e95 e99
          clear hF
          go_simp
          exact hK _ _ (Ext.refl _) rfl
        refine ⟨fun y w' hS hF K hK => ?_, ?_⟩
        · skip -- 44: pick
          have e92 : y 92 = _ := hF.1
          have e100 : y 100 = _ := hF.2.1
          simp only [fillL, cond_true, cond_false, List.getD_cons_zero, List.getD_cons_succ, StP.is, Act.put, List.setIfInBounds_toArray, List.set_cons_zero, List.set_cons_succ, Nat.reduceAdd, e92, e100] at hK ⊢
          refine rg_yes (by kernel_rfl) ?_
          clear e92 e100
          clear hF
          go_simp
          exact hK _ _ (Ext.refl _) rfl
        refine ⟨fun y w' hS hF K hK => ?_, ?_⟩
        · skip -- 45: assign
          have e101 : y 101 = _ := hF.1
          simp only [fillL, cond_true, cond_false, List.getD_cons_zero, List.getD_cons_succ, StP.is, Act.put, List.setIfInBounds_toArray, List.set_cons_zero, List.set_cons_succ, Nat.reduceAdd, e101] at hK ⊢
          refine rg_yes (by kernel_rfl) ?_
          clear e101
          clear hF
          go_simp
          exact hK _ _ (Ext.refl _) rfl
        trivial
      case hend =>
        intro y w7 hb7 hF
        have e2 : y 2 = _ := hF.2.2.2.2.2.2.2.2.2.2.2.2.2.2.2.2.2.2.2.2.2.2.2.2.2.2.2.2.2.2.2.2.2.2.2.2.2.2.2.2.2.2.2.2.2.1
        clear hF
        simp only [fillL, cond_true, cond_false, Nat.reduceAdd, e2]
        clear e2
        have hB7 : Below w.heap.size w w7 := hB6.trans (Below.mono hb7 hB6.size)
        clear hb7
        go_wp2_with fail
        go_ret
        exact ⟨rfl, hB7⟩

  · go_enter Try.func10, Try.ntmps10
    go_wp2_with fail
    go_ret
    exact ⟨rfl, Below.refl _ _⟩

end Go.Proofs.Ytbfdbkidmakapaa
