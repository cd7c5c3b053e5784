/- FnExactSpaceGive: the walk. No condition. -/
import Derived.Test.YtbfdbkidmakapaaGive2
import Derived.Test.YtbfdbkidmakapaaFnExactSpaceRoom
import Derived.Deep.DeepCutAuto
import Derived.Deep.RegionWith
namespace Go.Proofs.Ytbfdbkidmakapaa
open Go.RowKit

set_option maxRecDepth 100000 in
set_option maxHeartbeats 8000000 in
theorem fnExactSpaceGive_walk (A : Option Addr) (n c : Nat) (B : Option Addr) (m d : Nat) (xs ys : List Int) (at_ : Int) (w : World) (hA : IntsAt w A n xs) (hB : IntsAt w B m ys) (_hA0 : A = none → n = 0 ∧ c = 0) (_hB0 : B = none → m = 0 ∧ d = 0) :
    Calls Try.prog 9 #[.agg #[.slice A n c, .slice B m d], .int .i64 at_] w fun e w' => e = .returned (.bool true) ∧ Below w.heap.size w w' := by
  have hself := eqInts_self
  have hnm : n ≤ maxLen := by have := hA.2.1; exact this
  have hmm : m ≤ maxLen := by have := hB.2.1; exact this
  by_cases hsz : szSp n m 1048576 < 0
  · go_enter Try.func9, Try.ntmps9
    go_wp2_with fail
    refine (szSpace_any _ _ _ _ _ _ _ _ hnm hmm (by omega) (by omega)).mono ?_
    rintro e w1 ⟨rfl, hb1⟩
    have hk1 : Below w.heap.size w w1 := ((Below.refl _ _).alloc (Nat.le_refl _) _).trans (hb1.mono (by simp <;> omega))
    have z1 : w.heap.size + 1 ≤ w1.heap.size := by have := hb1.size; (try simp at this); omega
    have c1_0 : w1.cell? ⟨w.heap.size, 0, none⟩ = some (.slice A n c) := (hb1.cell (by simp <;> omega)).trans (by simp [go_sem])
    have c1_1 : w1.cell? ⟨w.heap.size, 1, none⟩ = some (.slice B m d) := (hb1.cell (by simp <;> omega)).trans (by simp [go_sem])
    have l1_0 : w.heap.size < w1.heap.size := by omega
    have hB1 : Below w.heap.size w w1 := hk1
    have y1 : w.heap.size ≤ w1.heap.size := hB1.size
    clear hk1 hb1
    go_wp2_with fail
    go_ret
    exact ⟨rfl, hB1⟩

  · obtain ⟨hn, hm⟩ := szSp_yes (by omega) hsz
    obtain ⟨X, hX⟩ : ∃ X, X = giveX xs ys at_ := ⟨_, rfl⟩
    obtain ⟨Y, hY⟩ : ∃ Y, Y = giveY xs ys at_ := ⟨_, rfl⟩
    obtain ⟨ok, hok⟩ : ∃ ok, ok = giveOk xs ys at_ := ⟨_, rfl⟩
    have HX := Lib.hid hX
    have HY := Lib.hid hY
    have HOK := Lib.hid hok
    clear hX hY hok
    have hoo : (ok != ok) = false := by simp
    go_enter Try.func9, Try.ntmps9
    go_wp2_with fail
    refine (szSpace_any _ _ _ _ _ _ _ _ hnm hmm (by omega) (by omega)).mono ?_
    rintro e w1 ⟨rfl, hb1⟩
    have hk1 : Below w.heap.size w w1 := ((Below.refl _ _).alloc (Nat.le_refl _) _).trans (hb1.mono (by simp <;> omega))
    have z1 : w.heap.size + 1 ≤ w1.heap.size := by have := hb1.size; (try simp at this); omega
    have c1_0 : w1.cell? ⟨w.heap.size, 0, none⟩ = some (.slice A n c) := (hb1.cell (by simp <;> omega)).trans (by simp [go_sem])
    have c1_1 : w1.cell? ⟨w.heap.size, 1, none⟩ = some (.slice B m d) := (hb1.cell (by simp <;> omega)).trans (by simp [go_sem])
    have l1_0 : w.heap.size < w1.heap.size := by omega
    have hB1 : Below w.heap.size w w1 := hk1
    have y1 : w.heap.size ≤ w1.heap.size := hB1.size
    clear hk1 hb1
    go_wp2_with fail
    refine (toSpace_any _ _ _ _ _ _ xs ys _ (hA.below hB1) (hB.below hB1) (by omega) (by omega)).mono ?_
    rintro e w2 ⟨A2, n2, c2, B2, m2, d2, S2, rfl, oa_2, hS2, hb2⟩
    have hk2 : Below w1.heap.size w1 w2 := hb2
    have z2 : w1.heap.size + 0 ≤ w2.heap.size := by have := hb2.size; (try simp at this); omega
    have c2_0 : w2.cell? ⟨w.heap.size, 0, none⟩ = some (.slice A n c) := (hk2.cell (by simp <;> omega)).trans c1_0
    have c2_1 : w2.cell? ⟨w.heap.size, 1, none⟩ = some (.slice B m d) := (hk2.cell (by simp <;> omega)).trans c1_1
    have l2_0 : w.heap.size < w2.heap.size := by omega
    have iv_oa : ∀ k ∈ S2, w1.heap.size + 0 ≤ k ∧ k < w2.heap.size := fun k hk => ⟨by have := hS2 k hk; (try simp at this); omega, oa_2.lt k hk⟩
    have hB2 : Below w.heap.size w w2 := hB1.trans (hk2.mono hB1.size)
    have y2 : w.heap.size ≤ w2.heap.size := hB2.size
    clear c1_0 c1_1 l1_0 hS2 hk2 hb2
    have nl2 := oa_2.nils
    go_wp2_with fail
    refine (spSpaceGive_any _ _ _ _ _ _ xs ys _ _ oa_2.one oa_2.two nl2.1 nl2.2.1).mono ?_
    rw [← HX.out, ← HY.out, ← HOK.out]
    rintro e w3 ⟨A3, n3, c3, B3, m3, d3, S3, rfl, ow_3, hS3, hb3⟩
    have hk3 : Below w2.heap.size w2 w3 := hb3
    have z3 : w2.heap.size + 0 ≤ w3.heap.size := by have := hb3.size; (try simp at this); omega
    have c3_0 : w3.cell? ⟨w.heap.size, 0, none⟩ = some (.slice A n c) := (hk3.cell (by simp <;> omega)).trans c2_0
    have c3_1 : w3.cell? ⟨w.heap.size, 1, none⟩ = some (.slice B m d) := (hk3.cell (by simp <;> omega)).trans c2_1
    have l3_0 : w.heap.size < w3.heap.size := by omega
    have oa_3 := oa_2.below hk3
    have iv_ow : ∀ k ∈ S3, w2.heap.size + 0 ≤ k ∧ k < w3.heap.size := fun k hk => ⟨by have := hS3 k hk; (try simp at this); omega, ow_3.lt k hk⟩
    have hB3 : Below w.heap.size w w3 := hB2.trans (hk3.mono hB2.size)
    have y3 : w.heap.size ≤ w3.heap.size := hB3.size
    clear c2_0 c2_1 l2_0 oa_2 hS3 hk3 hb3
    have mx3 := ow_3.max1
    have my3 := ow_3.max2
    go_wp2_with fail
    refine (toSpace_any _ _ _ _ _ _ xs ys _ (hA.below (hB3.alloc (by have := hB3.size; simp <;> omega) _)) (hB.below (hB3.alloc (by have := hB3.size; simp <;> omega) _)) (by omega) (by omega)).mono ?_
    rintro e w4 ⟨A4, n4, c4, B4, m4, d4, S4, rfl, ox_4, hS4, hb4⟩
    have hk4 : Below w3.heap.size w3 w4 := ((Below.refl _ _).alloc (Nat.le_refl _) _).trans (hb4.mono (by simp <;> omega))
    have z4 : w3.heap.size + 1 ≤ w4.heap.size := by have := hb4.size; (try simp at this); omega
    have c4_0 : w4.cell? ⟨w.heap.size, 0, none⟩ = some (.slice A n c) := (hk4.cell (by simp <;> omega)).trans c3_0
    have c4_1 : w4.cell? ⟨w.heap.size, 1, none⟩ = some (.slice B m d) := (hk4.cell (by simp <;> omega)).trans c3_1
    have c4_2 : w4.cell? ⟨w3.heap.size, 0, none⟩ = some (.slice A3 n3 c3) := (hb4.cell (by simp <;> omega)).trans (by simp [go_sem])
    have c4_3 : w4.cell? ⟨w3.heap.size, 1, none⟩ = some (.slice B3 m3 d3) := (hb4.cell (by simp <;> omega)).trans (by simp [go_sem])
    have l4_0 : w.heap.size < w4.heap.size := by omega
    have l4_1 : w3.heap.size < w4.heap.size := by omega
    have oa_4 := oa_3.below hk4
    have ow_4 := ow_3.below hk4
    have iv_ox : ∀ k ∈ S4, w3.heap.size + 1 ≤ k ∧ k < w4.heap.size := fun k hk => ⟨by have := hS4 k hk; (try simp at this); omega, ox_4.lt k hk⟩
    have hB4 : Below w.heap.size w w4 := hB3.trans (hk4.mono hB3.size)
    have y4 : w.heap.size ≤ w4.heap.size := hB4.size
    clear c3_0 c3_1 l3_0 oa_3 ow_3 hS4 hk4 hb4
    have nl4 := ox_4.nils
    go_wp2_with fail
    refine (spaceGive_any _ _ _ _ _ _ xs ys _ _ (ox_4.below ((Below.refl _ _).alloc (Nat.le_refl _) _)).one (ox_4.below ((Below.refl _ _).alloc (Nat.le_refl _) _)).two nl4.1 nl4.2.1).mono ?_
    rw [← HX.out, ← HY.out, ← HOK.out]
    rintro e w5 ⟨A5, n5, c5, B5, m5, d5, S5, rfl, og_5, hS5, hb5⟩
    have hk5 : Below w4.heap.size w4 w5 := ((Below.refl _ _).alloc (Nat.le_refl _) _).trans (hb5.mono (by simp <;> omega))
    have z5 : w4.heap.size + 1 ≤ w5.heap.size := by have := hb5.size; (try simp at this); omega
    have c5_0 : w5.cell? ⟨w.heap.size, 0, none⟩ = some (.slice A n c) := (hk5.cell (by simp <;> omega)).trans c4_0
    have c5_1 : w5.cell? ⟨w.heap.size, 1, none⟩ = some (.slice B m d) := (hk5.cell (by simp <;> omega)).trans c4_1
    have c5_2 : w5.cell? ⟨w3.heap.size, 0, none⟩ = some (.slice A3 n3 c3) := (hk5.cell (by simp <;> omega)).trans c4_2
    have c5_3 : w5.cell? ⟨w3.heap.size, 1, none⟩ = some (.slice B3 m3 d3) := (hk5.cell (by simp <;> omega)).trans c4_3
    have c5_4 : w5.cell? ⟨w4.heap.size, 0, none⟩ = some (.slice A4 n4 c4) := (hb5.cell (by simp <;> omega)).trans (by simp [go_sem])
    have c5_5 : w5.cell? ⟨w4.heap.size, 1, none⟩ = some (.slice B4 m4 d4) := (hb5.cell (by simp <;> omega)).trans (by simp [go_sem])
    have l5_0 : w.heap.size < w5.heap.size := by omega
    have l5_1 : w3.heap.size < w5.heap.size := by omega
    have l5_2 : w4.heap.size < w5.heap.size := by omega
    have oa_5 := oa_4.below hk5
    have ow_5 := ow_4.below hk5
    have ox_5 := ox_4.below hk5
    have iv_og : ∀ k ∈ S5, w4.heap.size + 1 ≤ k ∧ k < w5.heap.size := fun k hk => ⟨by have := hS5 k hk; (try simp at this); omega, og_5.lt k hk⟩
    have hB5 : Below w.heap.size w w5 := hB4.trans (hk5.mono hB4.size)
    have y5 : w.heap.size ≤ w5.heap.size := hB5.size
    clear c4_0 c4_1 c4_2 c4_3 l4_0 l4_1 oa_4 ow_4 ox_4 hS5 hk5 hb5
    have mx5 := og_5.max1
    have my5 := og_5.max2
    go_wp2_with fail
    refine (eqSpace_any _ _ _ _ _ _ _ _ _ _ _ _ X Y X Y _ (og_5.below ((Below.refl _ _).alloc (Nat.le_refl _) _)).one (og_5.below ((Below.refl _ _).alloc (Nat.le_refl _) _)).two (ow_5.below ((Below.refl _ _).alloc (Nat.le_refl _) _)).one (ow_5.below ((Below.refl _ _).alloc (Nat.le_refl _) _)).two).mono ?_
    rintro e w6 ⟨rfl, hb6⟩
    have hk6 : Below w5.heap.size w5 w6 := ((Below.refl _ _).alloc (Nat.le_refl _) _).trans (hb6.mono (by simp <;> omega))
    have z6 : w5.heap.size + 1 ≤ w6.heap.size := by have := hb6.size; (try simp at this); omega
    have c6_0 : w6.cell? ⟨w.heap.size, 0, none⟩ = some (.slice A n c) := (hk6.cell (by simp <;> omega)).trans c5_0
    have c6_1 : w6.cell? ⟨w.heap.size, 1, none⟩ = some (.slice B m d) := (hk6.cell (by simp <;> omega)).trans c5_1
    have c6_2 : w6.cell? ⟨w3.heap.size, 0, none⟩ = some (.slice A3 n3 c3) := (hk6.cell (by simp <;> omega)).trans c5_2
    have c6_3 : w6.cell? ⟨w3.heap.size, 1, none⟩ = some (.slice B3 m3 d3) := (hk6.cell (by simp <;> omega)).trans c5_3
    have c6_4 : w6.cell? ⟨w4.heap.size, 0, none⟩ = some (.slice A4 n4 c4) := (hk6.cell (by simp <;> omega)).trans c5_4
    have c6_5 : w6.cell? ⟨w4.heap.size, 1, none⟩ = some (.slice B4 m4 d4) := (hk6.cell (by simp <;> omega)).trans c5_5
    have c6_6 : w6.cell? ⟨w5.heap.size, 0, none⟩ = some (.slice A5 n5 c5) := (hb6.cell (by simp <;> omega)).trans (by simp [go_sem])
    have c6_7 : w6.cell? ⟨w5.heap.size, 1, none⟩ = some (.slice B5 m5 d5) := (hb6.cell (by simp <;> omega)).trans (by simp [go_sem])
    have l6_0 : w.heap.size < w6.heap.size := by omega
    have l6_1 : w3.heap.size < w6.heap.size := by omega
    have l6_2 : w4.heap.size < w6.heap.size := by omega
    have l6_3 : w5.heap.size < w6.heap.size := by omega
    have oa_6 := oa_5.below hk6
    have ow_6 := ow_5.below hk6
    have ox_6 := ox_5.below hk6
    have og_6 := og_5.below hk6
    have hB6 : Below w.heap.size w w6 := hB5.trans (hk6.mono hB5.size)
    have y6 : w.heap.size ≤ w6.heap.size := hB6.size
    clear c5_0 c5_1 c5_2 c5_3 c5_4 c5_5 l5_0 l5_1 l5_2 oa_5 ow_5 ox_5 og_5 hk6 hb6
    go_upto_region 10 with fail
    go_cut [49] (fun s wx => s = .bool false ∧ Below w6.heap.size w6 wx)
    case first =>
      go_region_with (first
        | (go_at_call 22; refine (toSpace_any _ _ _ _ _ _ xs ys _ ?_ ?_ (by omega) (by omega)).mono ?_; (exact hA.below (by repeat (first | exact Below.refl _ _ | assumption | refine Below.drew ?_))); (exact hB.below (by repeat (first | exact Below.refl _ _ | assumption | refine Below.drew ?_))); rintro e wy ⟨Ay, ny, cy, By, my, dy, Sy, rfl, oy, hSy, hby⟩; have hxy : Below w6.heap.size w6 wy := Below.trans (by repeat (first | exact Below.refl _ _ | assumption | refine Below.drew ?_)) (hby.mono (Nat.le_refl _)); have cy_0 := (hxy.cell (p := ⟨w.heap.size, 0, none⟩) (by simp <;> omega)).trans c6_0; have cy_1 := (hxy.cell (p := ⟨w.heap.size, 1, none⟩) (by simp <;> omega)).trans c6_1; have cy_2 := (hxy.cell (p := ⟨w3.heap.size, 0, none⟩) (by simp <;> omega)).trans c6_2; have cy_3 := (hxy.cell (p := ⟨w3.heap.size, 1, none⟩) (by simp <;> omega)).trans c6_3; have cy_4 := (hxy.cell (p := ⟨w4.heap.size, 0, none⟩) (by simp <;> omega)).trans c6_4; have cy_5 := (hxy.cell (p := ⟨w4.heap.size, 1, none⟩) (by simp <;> omega)).trans c6_5; have cy_6 := (hxy.cell (p := ⟨w5.heap.size, 0, none⟩) (by simp <;> omega)).trans c6_6; have cy_7 := (hxy.cell (p := ⟨w5.heap.size, 1, none⟩) (by simp <;> omega)).trans c6_7)
        | (go_at_call 23; refine (eqSpace_any _ _ _ _ _ _ _ _ _ _ _ _ xs ys xs ys _ ?_ ?_ ?_ ?_).mono ?_; (exact (ox_6.below hxy).one); (exact (ox_6.below hxy).two); (exact oy.one); (exact oy.two); rintro e wz ⟨rfl, hbz⟩; have hxz := hxy.trans (hbz.mono hxy.size)))
      all_goals (go_wp2_with fail; go_meet; exact ⟨rfl, hxz⟩)
    case rest =>
      rename World => w7
      obtain ⟨rfl, hb7⟩ := hcut
      have hk7 : Below w6.heap.size w6 w7 := hb7
      have z7 : w6.heap.size + 0 ≤ w7.heap.size := by have := hb7.size; (try simp at this); omega
      have c7_0 : w7.cell? ⟨w.heap.size, 0, none⟩ = some (.slice A n c) := (hk7.cell (by simp <;> omega)).trans c6_0
      have c7_1 : w7.cell? ⟨w.heap.size, 1, none⟩ = some (.slice B m d) := (hk7.cell (by simp <;> omega)).trans c6_1
      have c7_2 : w7.cell? ⟨w3.heap.size, 0, none⟩ = some (.slice A3 n3 c3) := (hk7.cell (by simp <;> omega)).trans c6_2
      have c7_3 : w7.cell? ⟨w3.heap.size, 1, none⟩ = some (.slice B3 m3 d3) := (hk7.cell (by simp <;> omega)).trans c6_3
      have c7_4 : w7.cell? ⟨w4.heap.size, 0, none⟩ = some (.slice A4 n4 c4) := (hk7.cell (by simp <;> omega)).trans c6_4
      have c7_5 : w7.cell? ⟨w4.heap.size, 1, none⟩ = some (.slice B4 m4 d4) := (hk7.cell (by simp <;> omega)).trans c6_5
      have c7_6 : w7.cell? ⟨w5.heap.size, 0, none⟩ = some (.slice A5 n5 c5) := (hk7.cell (by simp <;> omega)).trans c6_6
      have c7_7 : w7.cell? ⟨w5.heap.size, 1, none⟩ = some (.slice B5 m5 d5) := (hk7.cell (by simp <;> omega)).trans c6_7
      have l7_0 : w.heap.size < w7.heap.size := by omega
      have l7_1 : w3.heap.size < w7.heap.size := by omega
      have l7_2 : w4.heap.size < w7.heap.size := by omega
      have l7_3 : w5.heap.size < w7.heap.size := by omega
      have oa_7 := oa_6.below hk7
      have ow_7 := ow_6.below hk7
      have ox_7 := ox_6.below hk7
      have og_7 := og_6.below hk7
      have hB7 : Below w.heap.size w w7 := hB6.trans (hk7.mono hB6.size)
      have y7 : w.heap.size ≤ w7.heap.size := hB7.size
      clear c6_0 c6_1 c6_2 c6_3 c6_4 c6_5 c6_6 c6_7 l6_0 l6_1 l6_2 l6_3 oa_6 ow_6 ox_6 og_6 hk7 hb7
      go_wp2_with fail
      refine (markSpace_any _ _ _ _ _ _ _ _ _ 1 _ ox_7 (by omega) (by omega)).mono ?_
      rintro e w8 ⟨rfl, ox_8, hc8⟩
      have hk8 : Chg (· ∈ S4) w7 w8 := hc8
      have z8 : w7.heap.size + 0 ≤ w8.heap.size := by have := hc8.size; (try simp at this); omega
      have c8_0 : w8.cell? ⟨w.heap.size, 0, none⟩ = some (.slice A n c) := (World.cell?_of_block (hk8.block (w.heap.size) (by omega) (fun h => by have := iv_ox _ h; omega))).trans c7_0
      have c8_1 : w8.cell? ⟨w.heap.size, 1, none⟩ = some (.slice B m d) := (World.cell?_of_block (hk8.block (w.heap.size) (by omega) (fun h => by have := iv_ox _ h; omega))).trans c7_1
      have c8_2 : w8.cell? ⟨w3.heap.size, 0, none⟩ = some (.slice A3 n3 c3) := (World.cell?_of_block (hk8.block (w3.heap.size) (by omega) (fun h => by have := iv_ox _ h; omega))).trans c7_2
      have c8_3 : w8.cell? ⟨w3.heap.size, 1, none⟩ = some (.slice B3 m3 d3) := (World.cell?_of_block (hk8.block (w3.heap.size) (by omega) (fun h => by have := iv_ox _ h; omega))).trans c7_3
      have c8_4 : w8.cell? ⟨w4.heap.size, 0, none⟩ = some (.slice A4 n4 c4) := (World.cell?_of_block (hk8.block (w4.heap.size) (by omega) (fun h => by have := iv_ox _ h; omega))).trans c7_4
      have c8_5 : w8.cell? ⟨w4.heap.size, 1, none⟩ = some (.slice B4 m4 d4) := (World.cell?_of_block (hk8.block (w4.heap.size) (by omega) (fun h => by have := iv_ox _ h; omega))).trans c7_5
      have c8_6 : w8.cell? ⟨w5.heap.size, 0, none⟩ = some (.slice A5 n5 c5) := (World.cell?_of_block (hk8.block (w5.heap.size) (by omega) (fun h => by have := iv_ox _ h; omega))).trans c7_6
      have c8_7 : w8.cell? ⟨w5.heap.size, 1, none⟩ = some (.slice B5 m5 d5) := (World.cell?_of_block (hk8.block (w5.heap.size) (by omega) (fun h => by have := iv_ox _ h; omega))).trans c7_7
      have l8_0 : w.heap.size < w8.heap.size := by omega
      have l8_1 : w3.heap.size < w8.heap.size := by omega
      have l8_2 : w4.heap.size < w8.heap.size := by omega
      have l8_3 : w5.heap.size < w8.heap.size := by omega
      have oa_8 := oa_7.keep fun k hk' => hk8.block k (oa_7.lt k hk') (fun h => by have a := iv_ox k h; have b := iv_oa k hk'; omega)
      have ow_8 := ow_7.keep fun k hk' => hk8.block k (ow_7.lt k hk') (fun h => by have a := iv_ox k h; have b := iv_ow k hk'; omega)
      have og_8 := og_7.keep fun k hk' => hk8.block k (og_7.lt k hk') (fun h => by have a := iv_ox k h; have b := iv_og k hk'; omega)
      have hB8 : Below w.heap.size w w8 := hB7.trans (hk8.below (fun k _ hs => by have := iv_ox k hs; omega) hB7.size)
      have y8 : w.heap.size ≤ w8.heap.size := hB8.size
      clear c7_0 c7_1 c7_2 c7_3 c7_4 c7_5 c7_6 c7_7 l7_0 l7_1 l7_2 l7_3 oa_7 ow_7 ox_7 og_7 hk8 hc8
      have hkk : ¬ (1 + (n4 : Int) + (m4 : Int) < 0) := by omega
      go_wp2_with fail
      refine (eqSpace_any _ _ _ _ _ _ _ _ _ _ _ _ X Y X Y _ og_8.one og_8.two ow_8.one ow_8.two).mono ?_
      rintro e w9 ⟨rfl, hb9⟩
      have hk9 : Below w8.heap.size w8 w9 := hb9
      have z9 : w8.heap.size + 0 ≤ w9.heap.size := by have := hb9.size; (try simp at this); omega
      have c9_0 : w9.cell? ⟨w.heap.size, 0, none⟩ = some (.slice A n c) := (hk9.cell (by simp <;> omega)).trans c8_0
      have c9_1 : w9.cell? ⟨w.heap.size, 1, none⟩ = some (.slice B m d) := (hk9.cell (by simp <;> omega)).trans c8_1
      have c9_2 : w9.cell? ⟨w3.heap.size, 0, none⟩ = some (.slice A3 n3 c3) := (hk9.cell (by simp <;> omega)).trans c8_2
      have c9_3 : w9.cell? ⟨w3.heap.size, 1, none⟩ = some (.slice B3 m3 d3) := (hk9.cell (by simp <;> omega)).trans c8_3
      have c9_4 : w9.cell? ⟨w4.heap.size, 0, none⟩ = some (.slice A4 n4 c4) := (hk9.cell (by simp <;> omega)).trans c8_4
      have c9_5 : w9.cell? ⟨w4.heap.size, 1, none⟩ = some (.slice B4 m4 d4) := (hk9.cell (by simp <;> omega)).trans c8_5
      have c9_6 : w9.cell? ⟨w5.heap.size, 0, none⟩ = some (.slice A5 n5 c5) := (hk9.cell (by simp <;> omega)).trans c8_6
      have c9_7 : w9.cell? ⟨w5.heap.size, 1, none⟩ = some (.slice B5 m5 d5) := (hk9.cell (by simp <;> omega)).trans c8_7
      have l9_0 : w.heap.size < w9.heap.size := by omega
      have l9_1 : w3.heap.size < w9.heap.size := by omega
      have l9_2 : w4.heap.size < w9.heap.size := by omega
      have l9_3 : w5.heap.size < w9.heap.size := by omega
      have oa_9 := oa_8.below hk9
      have ow_9 := ow_8.below hk9
      have ox_9 := ox_8.below hk9
      have og_9 := og_8.below hk9
      have hB9 : Below w.heap.size w w9 := hB8.trans (hk9.mono hB8.size)
      have y9 : w.heap.size ≤ w9.heap.size := hB9.size
      clear c8_0 c8_1 c8_2 c8_3 c8_4 c8_5 c8_6 c8_7 l8_0 l8_1 l8_2 l8_3 oa_8 ow_8 ox_8 og_8 hk9 hb9
      go_wp2_with fail
      refine (markSpace_any _ _ _ _ _ _ _ _ _ 1 _ og_9 (by omega) (by omega)).mono ?_
      rintro e w10 ⟨rfl, og_10, hc10⟩
      have hk10 : Chg (· ∈ S5) w9 w10 := hc10
      have z10 : w9.heap.size + 0 ≤ w10.heap.size := by have := hc10.size; (try simp at this); omega
      have c10_0 : w10.cell? ⟨w.heap.size, 0, none⟩ = some (.slice A n c) := (World.cell?_of_block (hk10.block (w.heap.size) (by omega) (fun h => by have := iv_og _ h; omega))).trans c9_0
      have c10_1 : w10.cell? ⟨w.heap.size, 1, none⟩ = some (.slice B m d) := (World.cell?_of_block (hk10.block (w.heap.size) (by omega) (fun h => by have := iv_og _ h; omega))).trans c9_1
      have c10_2 : w10.cell? ⟨w3.heap.size, 0, none⟩ = some (.slice A3 n3 c3) := (World.cell?_of_block (hk10.block (w3.heap.size) (by omega) (fun h => by have := iv_og _ h; omega))).trans c9_2
      have c10_3 : w10.cell? ⟨w3.heap.size, 1, none⟩ = some (.slice B3 m3 d3) := (World.cell?_of_block (hk10.block (w3.heap.size) (by omega) (fun h => by have := iv_og _ h; omega))).trans c9_3
      have c10_4 : w10.cell? ⟨w4.heap.size, 0, none⟩ = some (.slice A4 n4 c4) := (World.cell?_of_block (hk10.block (w4.heap.size) (by omega) (fun h => by have := iv_og _ h; omega))).trans c9_4
      have c10_5 : w10.cell? ⟨w4.heap.size, 1, none⟩ = some (.slice B4 m4 d4) := (World.cell?_of_block (hk10.block (w4.heap.size) (by omega) (fun h => by have := iv_og _ h; omega))).trans c9_5
      have c10_6 : w10.cell? ⟨w5.heap.size, 0, none⟩ = some (.slice A5 n5 c5) := (World.cell?_of_block (hk10.block (w5.heap.size) (by omega) (fun h => by have := iv_og _ h; omega))).trans c9_6
      have c10_7 : w10.cell? ⟨w5.heap.size, 1, none⟩ = some (.slice B5 m5 d5) := (World.cell?_of_block (hk10.block (w5.heap.size) (by omega) (fun h => by have := iv_og _ h; omega))).trans c9_7
      have l10_0 : w.heap.size < w10.heap.size := by omega
      have l10_1 : w3.heap.size < w10.heap.size := by omega
      have l10_2 : w4.heap.size < w10.heap.size := by omega
      have l10_3 : w5.heap.size < w10.heap.size := by omega
      have oa_10 := oa_9.keep fun k hk' => hk10.block k (oa_9.lt k hk') (fun h => by have a := iv_og k h; have b := iv_oa k hk'; omega)
      have ow_10 := ow_9.keep fun k hk' => hk10.block k (ow_9.lt k hk') (fun h => by have a := iv_og k h; have b := iv_ow k hk'; omega)
      have ox_10 := ox_9.keep fun k hk' => hk10.block k (ox_9.lt k hk') (fun h => by have a := iv_og k h; have b := iv_ox k hk'; omega)
      have hB10 : Below w.heap.size w w10 := hB9.trans (hk10.below (fun k _ hs => by have := iv_og k hs; omega) hB9.size)
      have y10 : w.heap.size ≤ w10.heap.size := hB10.size
      clear c9_0 c9_1 c9_2 c9_3 c9_4 c9_5 c9_6 c9_7 l9_0 l9_1 l9_2 l9_3 oa_9 ow_9 ox_9 og_9 hk10 hc10
      go_wp2_with fail
      refine (heldSpace_any _ _ _ _ _ _ 1 _ og_10.one og_10.two (by omega) (by omega) mx5 my5).mono ?_
      rintro e w11 ⟨rfl, hb11⟩
      have hk11 : Below w10.heap.size w10 w11 := hb11
      have z11 : w10.heap.size + 0 ≤ w11.heap.size := by have := hb11.size; (try simp at this); omega
      have c11_0 : w11.cell? ⟨w.heap.size, 0, none⟩ = some (.slice A n c) := (hk11.cell (by simp <;> omega)).trans c10_0
      have c11_1 : w11.cell? ⟨w.heap.size, 1, none⟩ = some (.slice B m d) := (hk11.cell (by simp <;> omega)).trans c10_1
      have c11_2 : w11.cell? ⟨w3.heap.size, 0, none⟩ = some (.slice A3 n3 c3) := (hk11.cell (by simp <;> omega)).trans c10_2
      have c11_3 : w11.cell? ⟨w3.heap.size, 1, none⟩ = some (.slice B3 m3 d3) := (hk11.cell (by simp <;> omega)).trans c10_3
      have c11_4 : w11.cell? ⟨w4.heap.size, 0, none⟩ = some (.slice A4 n4 c4) := (hk11.cell (by simp <;> omega)).trans c10_4
      have c11_5 : w11.cell? ⟨w4.heap.size, 1, none⟩ = some (.slice B4 m4 d4) := (hk11.cell (by simp <;> omega)).trans c10_5
      have c11_6 : w11.cell? ⟨w5.heap.size, 0, none⟩ = some (.slice A5 n5 c5) := (hk11.cell (by simp <;> omega)).trans c10_6
      have c11_7 : w11.cell? ⟨w5.heap.size, 1, none⟩ = some (.slice B5 m5 d5) := (hk11.cell (by simp <;> omega)).trans c10_7
      have l11_0 : w.heap.size < w11.heap.size := by omega
      have l11_1 : w3.heap.size < w11.heap.size := by omega
      have l11_2 : w4.heap.size < w11.heap.size := by omega
      have l11_3 : w5.heap.size < w11.heap.size := by omega
      have oa_11 := oa_10.below hk11
      have ow_11 := ow_10.below hk11
      have ox_11 := ox_10.below hk11
      have og_11 := og_10.below hk11
      have hB11 : Below w.heap.size w w11 := hB10.trans (hk11.mono hB10.size)
      have y11 : w.heap.size ≤ w11.heap.size := hB11.size
      clear c10_0 c10_1 c10_2 c10_3 c10_4 c10_5 c10_6 c10_7 l10_0 l10_1 l10_2 l10_3 oa_10 ow_10 ox_10 og_10 hk11 hb11
      have hqq : ¬ (1 + (n5 : Int) + (m5 : Int) < 0) := by omega
      have hmm2 : ((1 + (n5 : Int) + (m5 : Int)) != (1 + (n5 : Int) + (m5 : Int))) = false := by simp
      go_wp2_with fail
      refine (toSpace_any _ _ _ _ _ _ xs ys _ (hA.below hB11) (hB.below hB11) (by omega) (by omega)).mono ?_
      rintro e w12 ⟨A12, n12, c12, B12, m12, d12, S12, rfl, oz_12, hS12, hb12⟩
      have hk12 : Below w11.heap.size w11 w12 := hb12
      have z12 : w11.heap.size + 0 ≤ w12.heap.size := by have := hb12.size; (try simp at this); omega
      have c12_0 : w12.cell? ⟨w.heap.size, 0, none⟩ = some (.slice A n c) := (hk12.cell (by simp <;> omega)).trans c11_0
      have c12_1 : w12.cell? ⟨w.heap.size, 1, none⟩ = some (.slice B m d) := (hk12.cell (by simp <;> omega)).trans c11_1
      have c12_2 : w12.cell? ⟨w3.heap.size, 0, none⟩ = some (.slice A3 n3 c3) := (hk12.cell (by simp <;> omega)).trans c11_2
      have c12_3 : w12.cell? ⟨w3.heap.size, 1, none⟩ = some (.slice B3 m3 d3) := (hk12.cell (by simp <;> omega)).trans c11_3
      have c12_4 : w12.cell? ⟨w4.heap.size, 0, none⟩ = some (.slice A4 n4 c4) := (hk12.cell (by simp <;> omega)).trans c11_4
      have c12_5 : w12.cell? ⟨w4.heap.size, 1, none⟩ = some (.slice B4 m4 d4) := (hk12.cell (by simp <;> omega)).trans c11_5
      have c12_6 : w12.cell? ⟨w5.heap.size, 0, none⟩ = some (.slice A5 n5 c5) := (hk12.cell (by simp <;> omega)).trans c11_6
      have c12_7 : w12.cell? ⟨w5.heap.size, 1, none⟩ = some (.slice B5 m5 d5) := (hk12.cell (by simp <;> omega)).trans c11_7
      have l12_0 : w.heap.size < w12.heap.size := by omega
      have l12_1 : w3.heap.size < w12.heap.size := by omega
      have l12_2 : w4.heap.size < w12.heap.size := by omega
      have l12_3 : w5.heap.size < w12.heap.size := by omega
      have oa_12 := oa_11.below hk12
      have ow_12 := ow_11.below hk12
      have ox_12 := ox_11.below hk12
      have og_12 := og_11.below hk12
      have iv_oz : ∀ k ∈ S12, w11.heap.size + 0 ≤ k ∧ k < w12.heap.size := fun k hk => ⟨by have := hS12 k hk; (try simp at this); omega, oz_12.lt k hk⟩
      have hB12 : Below w.heap.size w w12 := hB11.trans (hk12.mono hB11.size)
      have y12 : w.heap.size ≤ w12.heap.size := hB12.size
      clear c11_0 c11_1 c11_2 c11_3 c11_4 c11_5 c11_6 c11_7 l11_0 l11_1 l11_2 l11_3 oa_11 ow_11 ox_11 og_11 hS12 hk12 hb12
      have nl12 := oz_12.nils
      go_wp2_with fail
      refine (spaceGive_any _ _ _ _ _ _ xs ys _ _ oz_12.one oz_12.two nl12.1 nl12.2.1).mono ?_
      rw [← HX.out, ← HY.out, ← HOK.out]
      rintro e w13 ⟨A13, n13, c13, B13, m13, d13, S13, rfl, oh_13, hS13, hb13⟩
      have hk13 : Below w12.heap.size w12 w13 := hb13
      have z13 : w12.heap.size + 0 ≤ w13.heap.size := by have := hb13.size; (try simp at this); omega
      have c13_0 : w13.cell? ⟨w.heap.size, 0, none⟩ = some (.slice A n c) := (hk13.cell (by simp <;> omega)).trans c12_0
      have c13_1 : w13.cell? ⟨w.heap.size, 1, none⟩ = some (.slice B m d) := (hk13.cell (by simp <;> omega)).trans c12_1
      have c13_2 : w13.cell? ⟨w3.heap.size, 0, none⟩ = some (.slice A3 n3 c3) := (hk13.cell (by simp <;> omega)).trans c12_2
      have c13_3 : w13.cell? ⟨w3.heap.size, 1, none⟩ = some (.slice B3 m3 d3) := (hk13.cell (by simp <;> omega)).trans c12_3
      have c13_4 : w13.cell? ⟨w4.heap.size, 0, none⟩ = some (.slice A4 n4 c4) := (hk13.cell (by simp <;> omega)).trans c12_4
      have c13_5 : w13.cell? ⟨w4.heap.size, 1, none⟩ = some (.slice B4 m4 d4) := (hk13.cell (by simp <;> omega)).trans c12_5
      have c13_6 : w13.cell? ⟨w5.heap.size, 0, none⟩ = some (.slice A5 n5 c5) := (hk13.cell (by simp <;> omega)).trans c12_6
      have c13_7 : w13.cell? ⟨w5.heap.size, 1, none⟩ = some (.slice B5 m5 d5) := (hk13.cell (by simp <;> omega)).trans c12_7
      have l13_0 : w.heap.size < w13.heap.size := by omega
      have l13_1 : w3.heap.size < w13.heap.size := by omega
      have l13_2 : w4.heap.size < w13.heap.size := by omega
      have l13_3 : w5.heap.size < w13.heap.size := by omega
      have oa_13 := oa_12.below hk13
      have ow_13 := ow_12.below hk13
      have ox_13 := ox_12.below hk13
      have og_13 := og_12.below hk13
      have oz_13 := oz_12.below hk13
      have iv_oh : ∀ k ∈ S13, w12.heap.size + 0 ≤ k ∧ k < w13.heap.size := fun k hk => ⟨by have := hS13 k hk; (try simp at this); omega, oh_13.lt k hk⟩
      have hB13 : Below w.heap.size w w13 := hB12.trans (hk13.mono hB12.size)
      have y13 : w.heap.size ≤ w13.heap.size := hB13.size
      clear c12_0 c12_1 c12_2 c12_3 c12_4 c12_5 c12_6 c12_7 l12_0 l12_1 l12_2 l12_3 oa_12 ow_12 ox_12 og_12 oz_12 hS13 hk13 hb13
      have mx13 := oh_13.max1
      have my13 := oh_13.max2
      go_wp2_with fail
      refine (eqSpace_any _ _ _ _ _ _ _ _ _ _ _ _ X Y X Y _ (oh_13.below ((Below.refl _ _).alloc (Nat.le_refl _) _)).one (oh_13.below ((Below.refl _ _).alloc (Nat.le_refl _) _)).two (ow_13.below ((Below.refl _ _).alloc (Nat.le_refl _) _)).one (ow_13.below ((Below.refl _ _).alloc (Nat.le_refl _) _)).two).mono ?_
      rintro e w14 ⟨rfl, hb14⟩
      have hk14 : Below w13.heap.size w13 w14 := ((Below.refl _ _).alloc (Nat.le_refl _) _).trans (hb14.mono (by simp <;> omega))
      have z14 : w13.heap.size + 1 ≤ w14.heap.size := by have := hb14.size; (try simp at this); omega
      have c14_0 : w14.cell? ⟨w.heap.size, 0, none⟩ = some (.slice A n c) := (hk14.cell (by simp <;> omega)).trans c13_0
      have c14_1 : w14.cell? ⟨w.heap.size, 1, none⟩ = some (.slice B m d) := (hk14.cell (by simp <;> omega)).trans c13_1
      have c14_2 : w14.cell? ⟨w3.heap.size, 0, none⟩ = some (.slice A3 n3 c3) := (hk14.cell (by simp <;> omega)).trans c13_2
      have c14_3 : w14.cell? ⟨w3.heap.size, 1, none⟩ = some (.slice B3 m3 d3) := (hk14.cell (by simp <;> omega)).trans c13_3
      have c14_4 : w14.cell? ⟨w4.heap.size, 0, none⟩ = some (.slice A4 n4 c4) := (hk14.cell (by simp <;> omega)).trans c13_4
      have c14_5 : w14.cell? ⟨w4.heap.size, 1, none⟩ = some (.slice B4 m4 d4) := (hk14.cell (by simp <;> omega)).trans c13_5
      have c14_6 : w14.cell? ⟨w5.heap.size, 0, none⟩ = some (.slice A5 n5 c5) := (hk14.cell (by simp <;> omega)).trans c13_6
      have c14_7 : w14.cell? ⟨w5.heap.size, 1, none⟩ = some (.slice B5 m5 d5) := (hk14.cell (by simp <;> omega)).trans c13_7
      have c14_8 : w14.cell? ⟨w13.heap.size, 0, none⟩ = some (.slice A13 n13 c13) := (hb14.cell (by simp <;> omega)).trans (by simp [go_sem])
      have c14_9 : w14.cell? ⟨w13.heap.size, 1, none⟩ = some (.slice B13 m13 d13) := (hb14.cell (by simp <;> omega)).trans (by simp [go_sem])
      have l14_0 : w.heap.size < w14.heap.size := by omega
      have l14_1 : w3.heap.size < w14.heap.size := by omega
      have l14_2 : w4.heap.size < w14.heap.size := by omega
      have l14_3 : w5.heap.size < w14.heap.size := by omega
      have l14_4 : w13.heap.size < w14.heap.size := by omega
      have oa_14 := oa_13.below hk14
      have ow_14 := ow_13.below hk14
      have ox_14 := ox_13.below hk14
      have og_14 := og_13.below hk14
      have oz_14 := oz_13.below hk14
      have oh_14 := oh_13.below hk14
      have hB14 : Below w.heap.size w w14 := hB13.trans (hk14.mono hB13.size)
      have y14 : w.heap.size ≤ w14.heap.size := hB14.size
      clear c13_0 c13_1 c13_2 c13_3 c13_4 c13_5 c13_6 c13_7 l13_0 l13_1 l13_2 l13_3 oa_13 ow_13 ox_13 og_13 oz_13 oh_13 hk14 hb14
      go_wp2_with fail
      refine (heldSpace_any _ _ _ _ _ _ 1 _ og_14.one og_14.two (by omega) (by omega) mx5 my5).mono ?_
      rintro e w15 ⟨rfl, hb15⟩
      have hk15 : Below w14.heap.size w14 w15 := hb15
      have z15 : w14.heap.size + 0 ≤ w15.heap.size := by have := hb15.size; (try simp at this); omega
      have c15_0 : w15.cell? ⟨w.heap.size, 0, none⟩ = some (.slice A n c) := (hk15.cell (by simp <;> omega)).trans c14_0
      have c15_1 : w15.cell? ⟨w.heap.size, 1, none⟩ = some (.slice B m d) := (hk15.cell (by simp <;> omega)).trans c14_1
      have c15_2 : w15.cell? ⟨w3.heap.size, 0, none⟩ = some (.slice A3 n3 c3) := (hk15.cell (by simp <;> omega)).trans c14_2
      have c15_3 : w15.cell? ⟨w3.heap.size, 1, none⟩ = some (.slice B3 m3 d3) := (hk15.cell (by simp <;> omega)).trans c14_3
      have c15_4 : w15.cell? ⟨w4.heap.size, 0, none⟩ = some (.slice A4 n4 c4) := (hk15.cell (by simp <;> omega)).trans c14_4
      have c15_5 : w15.cell? ⟨w4.heap.size, 1, none⟩ = some (.slice B4 m4 d4) := (hk15.cell (by simp <;> omega)).trans c14_5
      have c15_6 : w15.cell? ⟨w5.heap.size, 0, none⟩ = some (.slice A5 n5 c5) := (hk15.cell (by simp <;> omega)).trans c14_6
      have c15_7 : w15.cell? ⟨w5.heap.size, 1, none⟩ = some (.slice B5 m5 d5) := (hk15.cell (by simp <;> omega)).trans c14_7
      have c15_8 : w15.cell? ⟨w13.heap.size, 0, none⟩ = some (.slice A13 n13 c13) := (hk15.cell (by simp <;> omega)).trans c14_8
      have c15_9 : w15.cell? ⟨w13.heap.size, 1, none⟩ = some (.slice B13 m13 d13) := (hk15.cell (by simp <;> omega)).trans c14_9
      have l15_0 : w.heap.size < w15.heap.size := by omega
      have l15_1 : w3.heap.size < w15.heap.size := by omega
      have l15_2 : w4.heap.size < w15.heap.size := by omega
      have l15_3 : w5.heap.size < w15.heap.size := by omega
      have l15_4 : w13.heap.size < w15.heap.size := by omega
      have oa_15 := oa_14.below hk15
      have ow_15 := ow_14.below hk15
      have ox_15 := ox_14.below hk15
      have og_15 := og_14.below hk15
      have oz_15 := oz_14.below hk15
      have oh_15 := oh_14.below hk15
      have hB15 : Below w.heap.size w w15 := hB14.trans (hk15.mono hB14.size)
      have y15 : w.heap.size ≤ w15.heap.size := hB15.size
      clear c14_0 c14_1 c14_2 c14_3 c14_4 c14_5 c14_6 c14_7 c14_8 c14_9 l14_0 l14_1 l14_2 l14_3 l14_4 oa_14 ow_14 ox_14 og_14 oz_14 oh_14 hk15 hb15
      go_wp2_with fail
      go_ret
      exact ⟨rfl, hB15⟩

end Go.Proofs.Ytbfdbkidmakapaa
