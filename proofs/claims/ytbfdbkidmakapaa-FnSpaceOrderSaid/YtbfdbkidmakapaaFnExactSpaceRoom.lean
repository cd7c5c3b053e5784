/- FnExactSpaceRoom: the walk. No condition. -/
import Derived.Test.YtbfdbkidmakapaaSpaceLaw
import Derived.Test.YtbfdbkidmakapaaSpaceRoom
import Derived.Deep.DeepCutAuto
import Derived.Deep.RegionWith
namespace Go.Proofs.Ytbfdbkidmakapaa
set_option linter.unusedVariables false
set_option linter.unusedSimpArgs false
set_option linter.unnecessarySimpa false
open Go.RowKit

theorem eqInts_self (l : List Int) : eqInts l l = true := by unfold eqInts; simp

set_option maxHeartbeats 4000000 in
theorem fnExactSpaceRoom_walk (A : Option Addr) (n c : Nat) (B : Option Addr) (m d : Nat) (xs ys : List Int) (w : World) (hA : IntsAt w A n xs) (hB : IntsAt w B m ys) (_hA0 : A = none → n = 0 ∧ c = 0) (_hB0 : B = none → m = 0 ∧ d = 0) :
    Calls Try.prog 5 #[.agg #[.slice A n c, .slice B m d]] w fun e w' => e = .returned (.bool true) ∧ Below w.heap.size w w' := by
  have hself := eqInts_self
  have hnm : n ≤ maxLen := by have := hA.2.1; exact this
  have hmm : m ≤ maxLen := by have := hB.2.1; exact this
  by_cases hsz : szSp n m 1048576 < 0
  · go_enter Try.func5, Try.ntmps5
    go_wp2_with fail
    refine (szSpace_any _ _ _ _ _ _ _ _ hnm hmm (by omega) (by omega)).mono ?_
    rintro e w1 ⟨rfl, hb1⟩
    have hk1 : Below w.heap.size w w1 := ((Below.refl _ _).alloc (Nat.le_refl _) _).trans (hb1.mono (by simp <;> omega))
    have z1 : w.heap.size + 1 ≤ w1.heap.size := by have := hb1.size; (try simp at this); omega
    have c1_0 : w1.cell? ⟨w.heap.size, 0, none⟩ = some (.slice A n c) := (hb1.cell (by simp <;> omega)).trans (by simp [go_sem])
    have c1_1 : w1.cell? ⟨w.heap.size, 1, none⟩ = some (.slice B m d) := (hb1.cell (by simp <;> omega)).trans (by simp [go_sem])
    have l1_0 : w.heap.size < w1.heap.size := by omega
    have hB1 : Below w.heap.size w w1 := hk1
    have y1 : w.heap.size ≤ w1.heap.size := hB1.size
    clear hk1 hb1
    go_wp2_with fail
    go_ret
    exact ⟨rfl, hB1⟩

  · obtain ⟨hn, hm⟩ := szSp_yes (by omega) hsz
    go_enter Try.func5, Try.ntmps5
    go_wp2_with fail
    refine (szSpace_any _ _ _ _ _ _ _ _ hnm hmm (by omega) (by omega)).mono ?_
    rintro e w1 ⟨rfl, hb1⟩
    have hk1 : Below w.heap.size w w1 := ((Below.refl _ _).alloc (Nat.le_refl _) _).trans (hb1.mono (by simp <;> omega))
    have z1 : w.heap.size + 1 ≤ w1.heap.size := by have := hb1.size; (try simp at this); omega
    have c1_0 : w1.cell? ⟨w.heap.size, 0, none⟩ = some (.slice A n c) := (hb1.cell (by simp <;> omega)).trans (by simp [go_sem])
    have c1_1 : w1.cell? ⟨w.heap.size, 1, none⟩ = some (.slice B m d) := (hb1.cell (by simp <;> omega)).trans (by simp [go_sem])
    have l1_0 : w.heap.size < w1.heap.size := by omega
    have hB1 : Below w.heap.size w w1 := hk1
    have y1 : w.heap.size ≤ w1.heap.size := hB1.size
    clear hk1 hb1
    go_wp2_with fail
    refine (toSpace_any _ _ _ _ _ _ xs ys _ (hA.below hB1) (hB.below hB1) (by omega) (by omega)).mono ?_
    rintro e w2 ⟨A2, n2, c2, B2, m2, d2, S2, rfl, oa_2, hS2, hb2⟩
    have hk2 : Below w1.heap.size w1 w2 := hb2
    have z2 : w1.heap.size + 0 ≤ w2.heap.size := by have := hb2.size; (try simp at this); omega
    have c2_0 : w2.cell? ⟨w.heap.size, 0, none⟩ = some (.slice A n c) := (hk2.cell (by simp <;> omega)).trans c1_0
    have c2_1 : w2.cell? ⟨w.heap.size, 1, none⟩ = some (.slice B m d) := (hk2.cell (by simp <;> omega)).trans c1_1
    have l2_0 : w.heap.size < w2.heap.size := by omega
    have iv_oa : ∀ k ∈ S2, w1.heap.size + 0 ≤ k ∧ k < w2.heap.size := fun k hk => ⟨by have := hS2 k hk; (try simp at this); omega, oa_2.lt k hk⟩
    have hB2 : Below w.heap.size w w2 := hB1.trans (hk2.mono hB1.size)
    have y2 : w.heap.size ≤ w2.heap.size := hB2.size
    clear c1_0 c1_1 l1_0 hS2 hk2 hb2
    go_wp2_with fail
    refine (spSpaceRoom_any _ _ _ _ _ _ xs ys _ oa_2.one oa_2.two).mono ?_
    rintro e w3 ⟨rfl, hb3⟩
    have hk3 : Below w2.heap.size w2 w3 := hb3
    have z3 : w2.heap.size + 0 ≤ w3.heap.size := by have := hb3.size; (try simp at this); omega
    have c3_0 : w3.cell? ⟨w.heap.size, 0, none⟩ = some (.slice A n c) := (hk3.cell (by simp <;> omega)).trans c2_0
    have c3_1 : w3.cell? ⟨w.heap.size, 1, none⟩ = some (.slice B m d) := (hk3.cell (by simp <;> omega)).trans c2_1
    have l3_0 : w.heap.size < w3.heap.size := by omega
    have oa_3 := oa_2.below hk3
    have hB3 : Below w.heap.size w w3 := hB2.trans (hk3.mono hB2.size)
    have y3 : w.heap.size ≤ w3.heap.size := hB3.size
    clear c2_0 c2_1 l2_0 oa_2 hk3 hb3
    go_wp2_with fail
    refine (toSpace_any _ _ _ _ _ _ xs ys _ (hA.below hB3) (hB.below hB3) (by omega) (by omega)).mono ?_
    rintro e w4 ⟨A4, n4, c4, B4, m4, d4, S4, rfl, ox_4, hS4, hb4⟩
    have hk4 : Below w3.heap.size w3 w4 := hb4
    have z4 : w3.heap.size + 0 ≤ w4.heap.size := by have := hb4.size; (try simp at this); omega
    have c4_0 : w4.cell? ⟨w.heap.size, 0, none⟩ = some (.slice A n c) := (hk4.cell (by simp <;> omega)).trans c3_0
    have c4_1 : w4.cell? ⟨w.heap.size, 1, none⟩ = some (.slice B m d) := (hk4.cell (by simp <;> omega)).trans c3_1
    have l4_0 : w.heap.size < w4.heap.size := by omega
    have oa_4 := oa_3.below hk4
    have iv_ox : ∀ k ∈ S4, w3.heap.size + 0 ≤ k ∧ k < w4.heap.size := fun k hk => ⟨by have := hS4 k hk; (try simp at this); omega, ox_4.lt k hk⟩
    have hB4 : Below w.heap.size w w4 := hB3.trans (hk4.mono hB3.size)
    have y4 : w.heap.size ≤ w4.heap.size := hB4.size
    clear c3_0 c3_1 l3_0 oa_3 hS4 hk4 hb4
    have nl_ox := ox_4.nils
    go_wp2_with fail
    refine (spaceRoom_any _ _ _ _ _ _ xs ys _ (ox_4.below ((Below.refl _ _).alloc (Nat.le_refl _) _)).one (ox_4.below ((Below.refl _ _).alloc (Nat.le_refl _) _)).two nl_ox.2.2.1).mono ?_
    rintro e w5 ⟨rfl, hb5⟩
    have hk5 : Below w4.heap.size w4 w5 := ((Below.refl _ _).alloc (Nat.le_refl _) _).trans (hb5.mono (by simp <;> omega))
    have z5 : w4.heap.size + 1 ≤ w5.heap.size := by have := hb5.size; (try simp at this); omega
    have c5_0 : w5.cell? ⟨w.heap.size, 0, none⟩ = some (.slice A n c) := (hk5.cell (by simp <;> omega)).trans c4_0
    have c5_1 : w5.cell? ⟨w.heap.size, 1, none⟩ = some (.slice B m d) := (hk5.cell (by simp <;> omega)).trans c4_1
    have c5_2 : w5.cell? ⟨w4.heap.size, 0, none⟩ = some (.slice A4 n4 c4) := (hb5.cell (by simp <;> omega)).trans (by simp [go_sem])
    have c5_3 : w5.cell? ⟨w4.heap.size, 1, none⟩ = some (.slice B4 m4 d4) := (hb5.cell (by simp <;> omega)).trans (by simp [go_sem])
    have l5_0 : w.heap.size < w5.heap.size := by omega
    have l5_1 : w4.heap.size < w5.heap.size := by omega
    have oa_5 := oa_4.below hk5
    have ox_5 := ox_4.below hk5
    have hB5 : Below w.heap.size w w5 := hB4.trans (hk5.mono hB4.size)
    have y5 : w.heap.size ≤ w5.heap.size := hB5.size
    clear c4_0 c4_1 l4_0 oa_4 ox_4 hk5 hb5
    go_upto_region 10 with fail
    go_cut [26] (fun s wx => s = .bool false ∧ Below w5.heap.size w5 wx)
    case first =>
      go_region_with (first
        | (go_at_call 22; refine (toSpace_any _ _ _ _ _ _ xs ys _ ?_ ?_ (by omega) (by omega)).mono ?_; (exact hA.below (by repeat (first | exact Below.refl _ _ | assumption | refine Below.drew ?_))); (exact hB.below (by repeat (first | exact Below.refl _ _ | assumption | refine Below.drew ?_))); rintro e wy ⟨Ay, ny, cy, By, my, dy, Sy, rfl, oy, hSy, hby⟩; have hxy : Below w5.heap.size w5 wy := Below.trans (by repeat (first | exact Below.refl _ _ | assumption | refine Below.drew ?_)) (hby.mono (Nat.le_refl _)); have cy_0 := (hxy.cell (p := ⟨w.heap.size, 0, none⟩) (by simp <;> omega)).trans c5_0; have cy_1 := (hxy.cell (p := ⟨w.heap.size, 1, none⟩) (by simp <;> omega)).trans c5_1; have cy_2 := (hxy.cell (p := ⟨w4.heap.size, 0, none⟩) (by simp <;> omega)).trans c5_2; have cy_3 := (hxy.cell (p := ⟨w4.heap.size, 1, none⟩) (by simp <;> omega)).trans c5_3)
        | (go_at_call 23; refine (eqSpace_any _ _ _ _ _ _ _ _ _ _ _ _ xs ys xs ys _ ?_ ?_ ?_ ?_).mono ?_; (exact (ox_5.below hxy).one); (exact (ox_5.below hxy).two); (exact oy.one); (exact oy.two); rintro e wz ⟨rfl, hbz⟩; have hxz := hxy.trans (hbz.mono hxy.size)))
      all_goals (go_wp2_with fail; go_meet; exact ⟨rfl, hxz⟩)
    case rest =>
      rename World => w6
      obtain ⟨rfl, hb6⟩ := hcut
      have hk6 : Below w5.heap.size w5 w6 := hb6
      have z6 : w5.heap.size + 0 ≤ w6.heap.size := by have := hb6.size; (try simp at this); omega
      have c6_0 : w6.cell? ⟨w.heap.size, 0, none⟩ = some (.slice A n c) := (hk6.cell (by simp <;> omega)).trans c5_0
      have c6_1 : w6.cell? ⟨w.heap.size, 1, none⟩ = some (.slice B m d) := (hk6.cell (by simp <;> omega)).trans c5_1
      have c6_2 : w6.cell? ⟨w4.heap.size, 0, none⟩ = some (.slice A4 n4 c4) := (hk6.cell (by simp <;> omega)).trans c5_2
      have c6_3 : w6.cell? ⟨w4.heap.size, 1, none⟩ = some (.slice B4 m4 d4) := (hk6.cell (by simp <;> omega)).trans c5_3
      have l6_0 : w.heap.size < w6.heap.size := by omega
      have l6_1 : w4.heap.size < w6.heap.size := by omega
      have oa_6 := oa_5.below hk6
      have ox_6 := ox_5.below hk6
      have hB6 : Below w.heap.size w w6 := hB5.trans (hk6.mono hB5.size)
      have y6 : w.heap.size ≤ w6.heap.size := hB6.size
      clear c5_0 c5_1 c5_2 c5_3 l5_0 l5_1 oa_5 ox_5 hk6 hb6
      go_wp2_with fail
      go_ret
      exact ⟨rfl, hB6⟩

end Go.Proofs.Ytbfdbkidmakapaa
