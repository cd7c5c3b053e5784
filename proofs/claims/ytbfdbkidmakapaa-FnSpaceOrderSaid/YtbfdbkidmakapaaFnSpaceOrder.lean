/- FnSpaceOrder: the walk. No condition. -/
import Derived.Test.YtbfdbkidmakapaaFnSpaceTake
namespace Go.Proofs.Ytbfdbkidmakapaa
set_option linter.unusedVariables false
set_option linter.unusedSimpArgs false
set_option linter.unnecessarySimpa false
open Go.RowKit

theorem order_plain {xs ys : List Int} {at_ txg to_ lat : Int} (h : takeOk xs ys at_ txg = true) (hne : at_ ≠ to_) :
    takeOk (takeX xs ys at_ txg) (takeY xs ys at_ txg) to_ lat = takeOk xs ys to_ lat ∧
    (takeOk xs ys to_ lat = true → takeOk (takeX xs ys to_ lat) (takeY xs ys to_ lat) at_ txg = true ∧
      takeX (takeX xs ys at_ txg) (takeY xs ys at_ txg) to_ lat = takeX (takeX xs ys to_ lat) (takeY xs ys to_ lat) at_ txg ∧
      takeY (takeX xs ys at_ txg) (takeY xs ys at_ txg) to_ lat = takeY (takeX xs ys to_ lat) (takeY xs ys to_ lat) at_ txg) := by
  have key : ∀ (b : Nat) (t : Int), 8 ≤ b → b < 64 → ∀ (a : Nat) (s : Int), 8 ≤ a → a < 64 → a ≠ b → SpOk xs ys → 1 ≤ s → s ≤ 900 → ys.getD a 0 < s →
      takeOk (xs.set a (xs.getD a 0 + 1)) (ys.set a s) b t = takeOk xs ys b t := by
    intro b t hb8 hb a s h8 ha hab hsp h1 h9 hl
    have hok := take_spOk hsp h8 ha h1 h9 hl
    unfold takeOk
    rw [spOk_iff.2 hok, spOk_iff.2 hsp, Int.toNat_natCast]
    have : (ys.set a s).getD b 0 = ys.getD b 0 := by simp [List.getD, List.getElem?_set, hab]
    rw [this]
  obtain ⟨a, rfl, h8, ha, hsp, h1, h9, hl, hX, hY⟩ := takeOk_iff h
  by_cases hto : inB to_ 8 63 = true
  · obtain ⟨b, rfl, hb8, hb⟩ := inB_at hto
    have hab : a ≠ b := fun e => hne (by rw [e])
    refine ⟨by rw [hX, hY]; exact key b lat hb8 (by omega) a txg h8 ha hab hsp h1 h9 hl, fun hv => ?_⟩
    obtain ⟨b', hbb, _, _, _, g1, g9, gl, gX, gY⟩ := takeOk_iff hv
    obtain rfl : b = b' := by omega
    have e1 : takeOk (takeX xs ys b lat) (takeY xs ys b lat) a txg = true := by rw [gX, gY, key a txg h8 ha b lat hb8 (by omega) (Ne.symm hab) hsp g1 g9 gl]; exact h
    have e2 : takeOk (takeX xs ys a txg) (takeY xs ys a txg) b lat = true := by rw [hX, hY, key b lat hb8 (by omega) a txg h8 ha hab hsp h1 h9 hl]; exact hv
    have f1 : (xs.set a (xs.getD a 0 + 1)).getD b 0 = xs.getD b 0 := by simp [List.getD, List.getElem?_set, hab]
    have f2 : (xs.set b (xs.getD b 0 + 1)).getD a 0 = xs.getD a 0 := by simp [List.getD, List.getElem?_set, Ne.symm hab]
    refine ⟨e1, ?_, ?_⟩
    · rw [show takeX (takeX xs ys a txg) (takeY xs ys a txg) b lat = _ from if_pos e2, show takeX (takeX xs ys b lat) (takeY xs ys b lat) a txg = _ from if_pos e1, hX, gX]
      simp only [Int.toNat_natCast]
      rw [f1, f2, List.set_comm _ _ hab]
    · rw [show takeY (takeX xs ys a txg) (takeY xs ys a txg) b lat = _ from if_pos e2, show takeY (takeX xs ys b lat) (takeY xs ys b lat) a txg = _ from if_pos e1, hY, gY]
      simp only [Int.toNat_natCast]
      rw [List.set_comm _ _ hab]
  · have hto : inB to_ 8 63 = false := by simpa using hto
    have e1 : ∀ us vs, takeOk us vs to_ lat = false := fun us vs => by unfold takeOk; simp [hto]
    exact ⟨by rw [e1, e1], fun hv => by rw [e1] at hv; cases hv⟩

set_option maxRecDepth 100000 in
set_option maxHeartbeats 8000000 in
theorem fnSpaceOrder_walk (A : Option Addr) (n c : Nat) (zs : List Int) (A' : Option Addr) (n' c' : Nat) (zs' : List Int) (w : World) (hz : BytesIn w A n c zs) (hz' : BytesIn w A' n' c' zs') :
    Calls Try.prog 6 #[.slice A n c, .slice A' n' c'] w fun e w' => e = .returned (.bool true) ∧ Below w.heap.size w w' := by
  have hself := eqInts_self
  by_cases hn : n ≤ 1048576
  rotate_left
  · go_enter Try.func6, Try.ntmps6
    go_wp2_with fail
    go_ret
    exact ⟨rfl, Below.refl _ _⟩
  by_cases hn' : n' ≤ 1048576
  rotate_left
  · go_enter Try.func6, Try.ntmps6
    go_wp2_with fail
    go_ret
    exact ⟨rfl, Below.refl _ _⟩
  go_enter Try.func6, Try.ntmps6
  go_wp2_with fail
  refine (drawSpaceTake_any A n c zs _ hz).mono ?_
  rintro e w1 ⟨A1, n1, c1, B1, m1, d1, xs, ys, at_, txg, rfl, ia_1, ib_1, nl1, hb1⟩
  have hk1 : Below w.heap.size w w1 := hb1
  have z1 : w.heap.size + 0 ≤ w1.heap.size := by have := hb1.size; (try simp at this); omega
  have hB1 : Below w.heap.size w w1 := hk1
  have y1 : w.heap.size ≤ w1.heap.size := hB1.size
  clear hk1 hb1
  go_wp2_with fail
  refine (drawSpaceTake_any A' n' c' zs' _ (hz'.below (hB1.alloc (by have := hB1.size; simp <;> omega) _))).mono ?_
  rintro e w2 ⟨A2, n2, c2, B2, m2, d2, xs2, ys2, to_, lat, rfl, _, _, _, hb2⟩
  have hk2 : Below w1.heap.size w1 w2 := ((Below.refl _ _).alloc (Nat.le_refl _) _).trans (hb2.mono (by simp <;> omega))
  have z2 : w1.heap.size + 1 ≤ w2.heap.size := by have := hb2.size; (try simp at this); omega
  have c2_0 : w2.cell? ⟨w1.heap.size, 0, none⟩ = some (.slice A1 n1 c1) := (hb2.cell (by simp <;> omega)).trans (by simp [go_sem])
  have c2_1 : w2.cell? ⟨w1.heap.size, 1, none⟩ = some (.slice B1 m1 d1) := (hb2.cell (by simp <;> omega)).trans (by simp [go_sem])
  have l2_0 : w1.heap.size < w2.heap.size := by omega
  have ia_2 := ia_1.below hk2
  have ib_2 := ib_1.below hk2
  have hB2 : Below w.heap.size w w2 := hB1.trans (hk2.mono hB1.size)
  have y2 : w.heap.size ≤ w2.heap.size := hB2.size
  clear ia_1 ib_1 hk2 hb2
  generalize hX : takeX xs ys at_ txg = X; generalize hY : takeY xs ys at_ txg = Y; generalize hok : takeOk xs ys at_ txg = ok
  generalize hP : takeX X Y to_ lat = P; generalize hQ : takeY X Y to_ lat = Q; generalize hq : takeOk X Y to_ lat = q
  generalize hU : takeX xs ys to_ lat = U; generalize hV : takeY xs ys to_ lat = V; generalize hv : takeOk xs ys to_ lat = v
  generalize hM : takeX U V at_ txg = M; generalize hN : takeY U V at_ txg = N; generalize hr : takeOk U V at_ txg = r
  have HX := Lib.hid hX; clear hX
  have HY := Lib.hid hY; clear hY
  have Hok := Lib.hid hok; clear hok
  have HP := Lib.hid hP; clear hP
  have HQ := Lib.hid hQ; clear hQ
  have Hq := Lib.hid hq; clear hq
  have HU := Lib.hid hU; clear hU
  have HV := Lib.hid hV; clear hV
  have Hv := Lib.hid hv; clear hv
  have HM := Lib.hid hM; clear hM
  have HN := Lib.hid hN; clear hN
  have Hr := Lib.hid hr; clear hr
  have hoo : (ok == ok) = true := by simp
  have hon : (ok != ok) = false := by simp
  go_wp2_with fail
  refine (take_any _ _ _ _ _ _ xs ys at_ txg _ (ia_2.below ((Below.refl _ _).alloc (Nat.le_refl _) _)) (ib_2.below ((Below.refl _ _).alloc (Nat.le_refl _) _)) nl1.1 nl1.2.1).mono ?_
  rw [HX.out, HY.out, Hok.out]
  rintro e w3 ⟨A3, n3, c3, B3, m3, d3, S3, rfl, og_3, hS3, hb3⟩
  have hk3 : Below w2.heap.size w2 w3 := ((Below.refl _ _).alloc (Nat.le_refl _) _).trans (hb3.mono (by simp <;> omega))
  have z3 : w2.heap.size + 1 ≤ w3.heap.size := by have := hb3.size; (try simp at this); omega
  have c3_0 : w3.cell? ⟨w1.heap.size, 0, none⟩ = some (.slice A1 n1 c1) := (hk3.cell (by simp <;> omega)).trans c2_0
  have c3_1 : w3.cell? ⟨w1.heap.size, 1, none⟩ = some (.slice B1 m1 d1) := (hk3.cell (by simp <;> omega)).trans c2_1
  have c3_2 : w3.cell? ⟨w2.heap.size, 0, none⟩ = some (.slice A2 n2 c2) := (hb3.cell (by simp <;> omega)).trans (by simp [go_sem])
  have c3_3 : w3.cell? ⟨w2.heap.size, 1, none⟩ = some (.slice B2 m2 d2) := (hb3.cell (by simp <;> omega)).trans (by simp [go_sem])
  have l3_0 : w1.heap.size < w3.heap.size := by omega
  have l3_1 : w2.heap.size < w3.heap.size := by omega
  have ia_3 := ia_2.below hk3
  have ib_3 := ib_2.below hk3
  have iv_og : ∀ k ∈ S3, w2.heap.size + 1 ≤ k ∧ k < w3.heap.size := fun k hk => ⟨by have := hS3 k hk; (try simp at this); omega, og_3.lt k hk⟩
  have hB3 : Below w.heap.size w w3 := hB2.trans (hk3.mono hB2.size)
  have y3 : w.heap.size ≤ w3.heap.size := hB3.size
  clear c2_0 c2_1 l2_0 ia_2 ib_2 hS3 hk3 hb3
  have nl3 := og_3.nils
  go_wp2_with fail
  refine (take_any _ _ _ _ _ _ X Y to_ lat _ (og_3.below ((Below.refl _ _).alloc (Nat.le_refl _) _)).one (og_3.below ((Below.refl _ _).alloc (Nat.le_refl _) _)).two nl3.1 nl3.2.1).mono ?_
  rw [HP.out, HQ.out, Hq.out]
  rintro e w4 ⟨A4, n4, c4, B4, m4, d4, S4, rfl, oy_4, hS4, hb4⟩
  have hk4 : Below w3.heap.size w3 w4 := ((Below.refl _ _).alloc (Nat.le_refl _) _).trans (hb4.mono (by simp <;> omega))
  have z4 : w3.heap.size + 1 ≤ w4.heap.size := by have := hb4.size; (try simp at this); omega
  have c4_0 : w4.cell? ⟨w1.heap.size, 0, none⟩ = some (.slice A1 n1 c1) := (hk4.cell (by simp <;> omega)).trans c3_0
  have c4_1 : w4.cell? ⟨w1.heap.size, 1, none⟩ = some (.slice B1 m1 d1) := (hk4.cell (by simp <;> omega)).trans c3_1
  have c4_2 : w4.cell? ⟨w2.heap.size, 0, none⟩ = some (.slice A2 n2 c2) := (hk4.cell (by simp <;> omega)).trans c3_2
  have c4_3 : w4.cell? ⟨w2.heap.size, 1, none⟩ = some (.slice B2 m2 d2) := (hk4.cell (by simp <;> omega)).trans c3_3
  have c4_4 : w4.cell? ⟨w3.heap.size, 0, none⟩ = some (.slice A3 n3 c3) := (hb4.cell (by simp <;> omega)).trans (by simp [go_sem])
  have c4_5 : w4.cell? ⟨w3.heap.size, 1, none⟩ = some (.slice B3 m3 d3) := (hb4.cell (by simp <;> omega)).trans (by simp [go_sem])
  have l4_0 : w1.heap.size < w4.heap.size := by omega
  have l4_1 : w2.heap.size < w4.heap.size := by omega
  have l4_2 : w3.heap.size < w4.heap.size := by omega
  have ia_4 := ia_3.below hk4
  have ib_4 := ib_3.below hk4
  have og_4 := og_3.below hk4
  have iv_oy : ∀ k ∈ S4, w3.heap.size + 1 ≤ k ∧ k < w4.heap.size := fun k hk => ⟨by have := hS4 k hk; (try simp at this); omega, oy_4.lt k hk⟩
  have hB4 : Below w.heap.size w w4 := hB3.trans (hk4.mono hB3.size)
  have y4 : w.heap.size ≤ w4.heap.size := hB4.size
  clear c3_0 c3_1 c3_2 c3_3 l3_0 l3_1 ia_3 ib_3 og_3 hS4 hk4 hb4
  have nl4 := oy_4.nils
  go_wp2_with fail
  refine (take_any _ _ _ _ _ _ xs ys to_ lat _ (ia_4.below ((Below.refl _ _).alloc (Nat.le_refl _) _)) (ib_4.below ((Below.refl _ _).alloc (Nat.le_refl _) _)) nl1.1 nl1.2.1).mono ?_
  rw [HU.out, HV.out, Hv.out]
  rintro e w5 ⟨A5, n5, c5, B5, m5, d5, S5, rfl, ou_5, hS5, hb5⟩
  have hk5 : Below w4.heap.size w4 w5 := ((Below.refl _ _).alloc (Nat.le_refl _) _).trans (hb5.mono (by simp <;> omega))
  have z5 : w4.heap.size + 1 ≤ w5.heap.size := by have := hb5.size; (try simp at this); omega
  have c5_0 : w5.cell? ⟨w1.heap.size, 0, none⟩ = some (.slice A1 n1 c1) := (hk5.cell (by simp <;> omega)).trans c4_0
  have c5_1 : w5.cell? ⟨w1.heap.size, 1, none⟩ = some (.slice B1 m1 d1) := (hk5.cell (by simp <;> omega)).trans c4_1
  have c5_2 : w5.cell? ⟨w2.heap.size, 0, none⟩ = some (.slice A2 n2 c2) := (hk5.cell (by simp <;> omega)).trans c4_2
  have c5_3 : w5.cell? ⟨w2.heap.size, 1, none⟩ = some (.slice B2 m2 d2) := (hk5.cell (by simp <;> omega)).trans c4_3
  have c5_4 : w5.cell? ⟨w3.heap.size, 0, none⟩ = some (.slice A3 n3 c3) := (hk5.cell (by simp <;> omega)).trans c4_4
  have c5_5 : w5.cell? ⟨w3.heap.size, 1, none⟩ = some (.slice B3 m3 d3) := (hk5.cell (by simp <;> omega)).trans c4_5
  have c5_6 : w5.cell? ⟨w4.heap.size, 0, none⟩ = some (.slice A4 n4 c4) := (hb5.cell (by simp <;> omega)).trans (by simp [go_sem])
  have c5_7 : w5.cell? ⟨w4.heap.size, 1, none⟩ = some (.slice B4 m4 d4) := (hb5.cell (by simp <;> omega)).trans (by simp [go_sem])
  have l5_0 : w1.heap.size < w5.heap.size := by omega
  have l5_1 : w2.heap.size < w5.heap.size := by omega
  have l5_2 : w3.heap.size < w5.heap.size := by omega
  have l5_3 : w4.heap.size < w5.heap.size := by omega
  have ia_5 := ia_4.below hk5
  have ib_5 := ib_4.below hk5
  have og_5 := og_4.below hk5
  have oy_5 := oy_4.below hk5
  have iv_ou : ∀ k ∈ S5, w4.heap.size + 1 ≤ k ∧ k < w5.heap.size := fun k hk => ⟨by have := hS5 k hk; (try simp at this); omega, ou_5.lt k hk⟩
  have hB5 : Below w.heap.size w w5 := hB4.trans (hk5.mono hB4.size)
  have y5 : w.heap.size ≤ w5.heap.size := hB5.size
  clear c4_0 c4_1 c4_2 c4_3 c4_4 c4_5 l4_0 l4_1 l4_2 ia_4 ib_4 og_4 oy_4 hS5 hk5 hb5
  have nl5 := ou_5.nils
  go_wp2_with fail
  refine (take_any _ _ _ _ _ _ U V at_ txg _ (ou_5.below ((Below.refl _ _).alloc (Nat.le_refl _) _)).one (ou_5.below ((Below.refl _ _).alloc (Nat.le_refl _) _)).two nl5.1 nl5.2.1).mono ?_
  rw [HM.out, HN.out, Hr.out]
  rintro e w6 ⟨A6, n6, c6, B6, m6, d6, S6, rfl, oz_6, hS6, hb6⟩
  have hk6 : Below w5.heap.size w5 w6 := ((Below.refl _ _).alloc (Nat.le_refl _) _).trans (hb6.mono (by simp <;> omega))
  have z6 : w5.heap.size + 1 ≤ w6.heap.size := by have := hb6.size; (try simp at this); omega
  have c6_0 : w6.cell? ⟨w1.heap.size, 0, none⟩ = some (.slice A1 n1 c1) := (hk6.cell (by simp <;> omega)).trans c5_0
  have c6_1 : w6.cell? ⟨w1.heap.size, 1, none⟩ = some (.slice B1 m1 d1) := (hk6.cell (by simp <;> omega)).trans c5_1
  have c6_2 : w6.cell? ⟨w2.heap.size, 0, none⟩ = some (.slice A2 n2 c2) := (hk6.cell (by simp <;> omega)).trans c5_2
  have c6_3 : w6.cell? ⟨w2.heap.size, 1, none⟩ = some (.slice B2 m2 d2) := (hk6.cell (by simp <;> omega)).trans c5_3
  have c6_4 : w6.cell? ⟨w3.heap.size, 0, none⟩ = some (.slice A3 n3 c3) := (hk6.cell (by simp <;> omega)).trans c5_4
  have c6_5 : w6.cell? ⟨w3.heap.size, 1, none⟩ = some (.slice B3 m3 d3) := (hk6.cell (by simp <;> omega)).trans c5_5
  have c6_6 : w6.cell? ⟨w4.heap.size, 0, none⟩ = some (.slice A4 n4 c4) := (hk6.cell (by simp <;> omega)).trans c5_6
  have c6_7 : w6.cell? ⟨w4.heap.size, 1, none⟩ = some (.slice B4 m4 d4) := (hk6.cell (by simp <;> omega)).trans c5_7
  have c6_8 : w6.cell? ⟨w5.heap.size, 0, none⟩ = some (.slice A5 n5 c5) := (hb6.cell (by simp <;> omega)).trans (by simp [go_sem])
  have c6_9 : w6.cell? ⟨w5.heap.size, 1, none⟩ = some (.slice B5 m5 d5) := (hb6.cell (by simp <;> omega)).trans (by simp [go_sem])
  have l6_0 : w1.heap.size < w6.heap.size := by omega
  have l6_1 : w2.heap.size < w6.heap.size := by omega
  have l6_2 : w3.heap.size < w6.heap.size := by omega
  have l6_3 : w4.heap.size < w6.heap.size := by omega
  have l6_4 : w5.heap.size < w6.heap.size := by omega
  have ia_6 := ia_5.below hk6
  have ib_6 := ib_5.below hk6
  have og_6 := og_5.below hk6
  have oy_6 := oy_5.below hk6
  have ou_6 := ou_5.below hk6
  have iv_oz : ∀ k ∈ S6, w5.heap.size + 1 ≤ k ∧ k < w6.heap.size := fun k hk => ⟨by have := hS6 k hk; (try simp at this); omega, oz_6.lt k hk⟩
  have hB6 : Below w.heap.size w w6 := hB5.trans (hk6.mono hB5.size)
  have y6 : w.heap.size ≤ w6.heap.size := hB6.size
  clear c5_0 c5_1 c5_2 c5_3 c5_4 c5_5 c5_6 c5_7 l5_0 l5_1 l5_2 l5_3 ia_5 ib_5 og_5 oy_5 ou_5 hS6 hk6 hb6
  have nl6 := oz_6.nils
  go_wp2_with fail
  refine (spTake_any _ _ _ _ _ _ xs ys at_ txg _ (ia_6.below ((Below.refl _ _).alloc (Nat.le_refl _) _)) (ib_6.below ((Below.refl _ _).alloc (Nat.le_refl _) _)) nl1.1 nl1.2.1).mono ?_
  rw [HX.out, HY.out, Hok.out]
  rintro e w7 ⟨A7, n7, c7, B7, m7, d7, S7, rfl, ot_7, hS7, hb7⟩
  have hk7 : Below w6.heap.size w6 w7 := ((Below.refl _ _).alloc (Nat.le_refl _) _).trans (hb7.mono (by simp <;> omega))
  have z7 : w6.heap.size + 1 ≤ w7.heap.size := by have := hb7.size; (try simp at this); omega
  have c7_0 : w7.cell? ⟨w1.heap.size, 0, none⟩ = some (.slice A1 n1 c1) := (hk7.cell (by simp <;> omega)).trans c6_0
  have c7_1 : w7.cell? ⟨w1.heap.size, 1, none⟩ = some (.slice B1 m1 d1) := (hk7.cell (by simp <;> omega)).trans c6_1
  have c7_2 : w7.cell? ⟨w2.heap.size, 0, none⟩ = some (.slice A2 n2 c2) := (hk7.cell (by simp <;> omega)).trans c6_2
  have c7_3 : w7.cell? ⟨w2.heap.size, 1, none⟩ = some (.slice B2 m2 d2) := (hk7.cell (by simp <;> omega)).trans c6_3
  have c7_4 : w7.cell? ⟨w3.heap.size, 0, none⟩ = some (.slice A3 n3 c3) := (hk7.cell (by simp <;> omega)).trans c6_4
  have c7_5 : w7.cell? ⟨w3.heap.size, 1, none⟩ = some (.slice B3 m3 d3) := (hk7.cell (by simp <;> omega)).trans c6_5
  have c7_6 : w7.cell? ⟨w4.heap.size, 0, none⟩ = some (.slice A4 n4 c4) := (hk7.cell (by simp <;> omega)).trans c6_6
  have c7_7 : w7.cell? ⟨w4.heap.size, 1, none⟩ = some (.slice B4 m4 d4) := (hk7.cell (by simp <;> omega)).trans c6_7
  have c7_8 : w7.cell? ⟨w5.heap.size, 0, none⟩ = some (.slice A5 n5 c5) := (hk7.cell (by simp <;> omega)).trans c6_8
  have c7_9 : w7.cell? ⟨w5.heap.size, 1, none⟩ = some (.slice B5 m5 d5) := (hk7.cell (by simp <;> omega)).trans c6_9
  have c7_10 : w7.cell? ⟨w6.heap.size, 0, none⟩ = some (.slice A6 n6 c6) := (hb7.cell (by simp <;> omega)).trans (by simp [go_sem])
  have c7_11 : w7.cell? ⟨w6.heap.size, 1, none⟩ = some (.slice B6 m6 d6) := (hb7.cell (by simp <;> omega)).trans (by simp [go_sem])
  have l7_0 : w1.heap.size < w7.heap.size := by omega
  have l7_1 : w2.heap.size < w7.heap.size := by omega
  have l7_2 : w3.heap.size < w7.heap.size := by omega
  have l7_3 : w4.heap.size < w7.heap.size := by omega
  have l7_4 : w5.heap.size < w7.heap.size := by omega
  have l7_5 : w6.heap.size < w7.heap.size := by omega
  have ia_7 := ia_6.below hk7
  have ib_7 := ib_6.below hk7
  have og_7 := og_6.below hk7
  have oy_7 := oy_6.below hk7
  have ou_7 := ou_6.below hk7
  have oz_7 := oz_6.below hk7
  have iv_ot : ∀ k ∈ S7, w6.heap.size + 1 ≤ k ∧ k < w7.heap.size := fun k hk => ⟨by have := hS7 k hk; (try simp at this); omega, ot_7.lt k hk⟩
  have hB7 : Below w.heap.size w w7 := hB6.trans (hk7.mono hB6.size)
  have y7 : w.heap.size ≤ w7.heap.size := hB7.size
  clear c6_0 c6_1 c6_2 c6_3 c6_4 c6_5 c6_6 c6_7 c6_8 c6_9 l6_0 l6_1 l6_2 l6_3 l6_4 ia_6 ib_6 og_6 oy_6 ou_6 oz_6 hS7 hk7 hb7
  have nl7 := ot_7.nils
  go_wp2_with fail
  refine (pfSpace_any _ _ _ _ _ _ _ _ _ _ _ _ X Y X Y _ (og_7.below ((Below.refl _ _).alloc (Nat.le_refl _) _)).one (og_7.below ((Below.refl _ _).alloc (Nat.le_refl _) _)).two (ot_7.below ((Below.refl _ _).alloc (Nat.le_refl _) _)).one (ot_7.below ((Below.refl _ _).alloc (Nat.le_refl _) _)).two).mono ?_
  rintro e w8 ⟨rfl, hb8⟩
  have hk8 : Below w7.heap.size w7 w8 := ((Below.refl _ _).alloc (Nat.le_refl _) _).trans (hb8.mono (by simp <;> omega))
  have z8 : w7.heap.size + 1 ≤ w8.heap.size := by have := hb8.size; (try simp at this); omega
  have c8_0 : w8.cell? ⟨w1.heap.size, 0, none⟩ = some (.slice A1 n1 c1) := (hk8.cell (by simp <;> omega)).trans c7_0
  have c8_1 : w8.cell? ⟨w1.heap.size, 1, none⟩ = some (.slice B1 m1 d1) := (hk8.cell (by simp <;> omega)).trans c7_1
  have c8_2 : w8.cell? ⟨w2.heap.size, 0, none⟩ = some (.slice A2 n2 c2) := (hk8.cell (by simp <;> omega)).trans c7_2
  have c8_3 : w8.cell? ⟨w2.heap.size, 1, none⟩ = some (.slice B2 m2 d2) := (hk8.cell (by simp <;> omega)).trans c7_3
  have c8_4 : w8.cell? ⟨w3.heap.size, 0, none⟩ = some (.slice A3 n3 c3) := (hk8.cell (by simp <;> omega)).trans c7_4
  have c8_5 : w8.cell? ⟨w3.heap.size, 1, none⟩ = some (.slice B3 m3 d3) := (hk8.cell (by simp <;> omega)).trans c7_5
  have c8_6 : w8.cell? ⟨w4.heap.size, 0, none⟩ = some (.slice A4 n4 c4) := (hk8.cell (by simp <;> omega)).trans c7_6
  have c8_7 : w8.cell? ⟨w4.heap.size, 1, none⟩ = some (.slice B4 m4 d4) := (hk8.cell (by simp <;> omega)).trans c7_7
  have c8_8 : w8.cell? ⟨w5.heap.size, 0, none⟩ = some (.slice A5 n5 c5) := (hk8.cell (by simp <;> omega)).trans c7_8
  have c8_9 : w8.cell? ⟨w5.heap.size, 1, none⟩ = some (.slice B5 m5 d5) := (hk8.cell (by simp <;> omega)).trans c7_9
  have c8_10 : w8.cell? ⟨w6.heap.size, 0, none⟩ = some (.slice A6 n6 c6) := (hk8.cell (by simp <;> omega)).trans c7_10
  have c8_11 : w8.cell? ⟨w6.heap.size, 1, none⟩ = some (.slice B6 m6 d6) := (hk8.cell (by simp <;> omega)).trans c7_11
  have c8_12 : w8.cell? ⟨w7.heap.size, 0, none⟩ = some (.slice A7 n7 c7) := (hb8.cell (by simp <;> omega)).trans (by simp [go_sem])
  have c8_13 : w8.cell? ⟨w7.heap.size, 1, none⟩ = some (.slice B7 m7 d7) := (hb8.cell (by simp <;> omega)).trans (by simp [go_sem])
  have l8_0 : w1.heap.size < w8.heap.size := by omega
  have l8_1 : w2.heap.size < w8.heap.size := by omega
  have l8_2 : w3.heap.size < w8.heap.size := by omega
  have l8_3 : w4.heap.size < w8.heap.size := by omega
  have l8_4 : w5.heap.size < w8.heap.size := by omega
  have l8_5 : w6.heap.size < w8.heap.size := by omega
  have l8_6 : w7.heap.size < w8.heap.size := by omega
  have ia_8 := ia_7.below hk8
  have ib_8 := ib_7.below hk8
  have og_8 := og_7.below hk8
  have oy_8 := oy_7.below hk8
  have ou_8 := ou_7.below hk8
  have oz_8 := oz_7.below hk8
  have ot_8 := ot_7.below hk8
  have hB8 : Below w.heap.size w w8 := hB7.trans (hk8.mono hB7.size)
  have y8 : w.heap.size ≤ w8.heap.size := hB8.size
  clear c7_0 c7_1 c7_2 c7_3 c7_4 c7_5 c7_6 c7_7 c7_8 c7_9 c7_10 c7_11 l7_0 l7_1 l7_2 l7_3 l7_4 l7_5 ia_7 ib_7 og_7 oy_7 ou_7 oz_7 ot_7 hk8 hb8
  cases ok
  · skip
    go_wp2_with fail
    refine (pfSpace_any _ _ _ _ _ _ _ _ _ _ _ _ X Y X Y _ og_8.one og_8.two ot_8.one ot_8.two).mono ?_
    rintro e w9 ⟨rfl, hb9⟩
    have hk9 : Below w8.heap.size w8 w9 := hb9
    have z9 : w8.heap.size + 0 ≤ w9.heap.size := by have := hb9.size; (try simp at this); omega
    have c9_0 : w9.cell? ⟨w1.heap.size, 0, none⟩ = some (.slice A1 n1 c1) := (hk9.cell (by simp <;> omega)).trans c8_0
    have c9_1 : w9.cell? ⟨w1.heap.size, 1, none⟩ = some (.slice B1 m1 d1) := (hk9.cell (by simp <;> omega)).trans c8_1
    have c9_2 : w9.cell? ⟨w2.heap.size, 0, none⟩ = some (.slice A2 n2 c2) := (hk9.cell (by simp <;> omega)).trans c8_2
    have c9_3 : w9.cell? ⟨w2.heap.size, 1, none⟩ = some (.slice B2 m2 d2) := (hk9.cell (by simp <;> omega)).trans c8_3
    have c9_4 : w9.cell? ⟨w3.heap.size, 0, none⟩ = some (.slice A3 n3 c3) := (hk9.cell (by simp <;> omega)).trans c8_4
    have c9_5 : w9.cell? ⟨w3.heap.size, 1, none⟩ = some (.slice B3 m3 d3) := (hk9.cell (by simp <;> omega)).trans c8_5
    have c9_6 : w9.cell? ⟨w4.heap.size, 0, none⟩ = some (.slice A4 n4 c4) := (hk9.cell (by simp <;> omega)).trans c8_6
    have c9_7 : w9.cell? ⟨w4.heap.size, 1, none⟩ = some (.slice B4 m4 d4) := (hk9.cell (by simp <;> omega)).trans c8_7
    have c9_8 : w9.cell? ⟨w5.heap.size, 0, none⟩ = some (.slice A5 n5 c5) := (hk9.cell (by simp <;> omega)).trans c8_8
    have c9_9 : w9.cell? ⟨w5.heap.size, 1, none⟩ = some (.slice B5 m5 d5) := (hk9.cell (by simp <;> omega)).trans c8_9
    have c9_10 : w9.cell? ⟨w6.heap.size, 0, none⟩ = some (.slice A6 n6 c6) := (hk9.cell (by simp <;> omega)).trans c8_10
    have c9_11 : w9.cell? ⟨w6.heap.size, 1, none⟩ = some (.slice B6 m6 d6) := (hk9.cell (by simp <;> omega)).trans c8_11
    have c9_12 : w9.cell? ⟨w7.heap.size, 0, none⟩ = some (.slice A7 n7 c7) := (hk9.cell (by simp <;> omega)).trans c8_12
    have c9_13 : w9.cell? ⟨w7.heap.size, 1, none⟩ = some (.slice B7 m7 d7) := (hk9.cell (by simp <;> omega)).trans c8_13
    have l9_0 : w1.heap.size < w9.heap.size := by omega
    have l9_1 : w2.heap.size < w9.heap.size := by omega
    have l9_2 : w3.heap.size < w9.heap.size := by omega
    have l9_3 : w4.heap.size < w9.heap.size := by omega
    have l9_4 : w5.heap.size < w9.heap.size := by omega
    have l9_5 : w6.heap.size < w9.heap.size := by omega
    have l9_6 : w7.heap.size < w9.heap.size := by omega
    have ia_9 := ia_8.below hk9
    have ib_9 := ib_8.below hk9
    have og_9 := og_8.below hk9
    have oy_9 := oy_8.below hk9
    have ou_9 := ou_8.below hk9
    have oz_9 := oz_8.below hk9
    have ot_9 := ot_8.below hk9
    have hB9 : Below w.heap.size w w9 := hB8.trans (hk9.mono hB8.size)
    have y9 : w.heap.size ≤ w9.heap.size := hB9.size
    clear c8_0 c8_1 c8_2 c8_3 c8_4 c8_5 c8_6 c8_7 c8_8 c8_9 c8_10 c8_11 c8_12 c8_13 l8_0 l8_1 l8_2 l8_3 l8_4 l8_5 l8_6 ia_8 ib_8 og_8 oy_8 ou_8 oz_8 ot_8 hk9 hb9
    go_wp2_with fail
    go_ret
    exact ⟨rfl, hB9⟩
  by_cases hat : at_ = to_
  · have hatb : (at_ == to_) = true := by simpa using hat
    clear hat
    go_wp2_with fail
    refine (pfSpace_any _ _ _ _ _ _ _ _ _ _ _ _ X Y X Y _ og_8.one og_8.two ot_8.one ot_8.two).mono ?_
    rintro e w9 ⟨rfl, hb9⟩
    have hk9 : Below w8.heap.size w8 w9 := hb9
    have z9 : w8.heap.size + 0 ≤ w9.heap.size := by have := hb9.size; (try simp at this); omega
    have c9_0 : w9.cell? ⟨w1.heap.size, 0, none⟩ = some (.slice A1 n1 c1) := (hk9.cell (by simp <;> omega)).trans c8_0
    have c9_1 : w9.cell? ⟨w1.heap.size, 1, none⟩ = some (.slice B1 m1 d1) := (hk9.cell (by simp <;> omega)).trans c8_1
    have c9_2 : w9.cell? ⟨w2.heap.size, 0, none⟩ = some (.slice A2 n2 c2) := (hk9.cell (by simp <;> omega)).trans c8_2
    have c9_3 : w9.cell? ⟨w2.heap.size, 1, none⟩ = some (.slice B2 m2 d2) := (hk9.cell (by simp <;> omega)).trans c8_3
    have c9_4 : w9.cell? ⟨w3.heap.size, 0, none⟩ = some (.slice A3 n3 c3) := (hk9.cell (by simp <;> omega)).trans c8_4
    have c9_5 : w9.cell? ⟨w3.heap.size, 1, none⟩ = some (.slice B3 m3 d3) := (hk9.cell (by simp <;> omega)).trans c8_5
    have c9_6 : w9.cell? ⟨w4.heap.size, 0, none⟩ = some (.slice A4 n4 c4) := (hk9.cell (by simp <;> omega)).trans c8_6
    have c9_7 : w9.cell? ⟨w4.heap.size, 1, none⟩ = some (.slice B4 m4 d4) := (hk9.cell (by simp <;> omega)).trans c8_7
    have c9_8 : w9.cell? ⟨w5.heap.size, 0, none⟩ = some (.slice A5 n5 c5) := (hk9.cell (by simp <;> omega)).trans c8_8
    have c9_9 : w9.cell? ⟨w5.heap.size, 1, none⟩ = some (.slice B5 m5 d5) := (hk9.cell (by simp <;> omega)).trans c8_9
    have c9_10 : w9.cell? ⟨w6.heap.size, 0, none⟩ = some (.slice A6 n6 c6) := (hk9.cell (by simp <;> omega)).trans c8_10
    have c9_11 : w9.cell? ⟨w6.heap.size, 1, none⟩ = some (.slice B6 m6 d6) := (hk9.cell (by simp <;> omega)).trans c8_11
    have c9_12 : w9.cell? ⟨w7.heap.size, 0, none⟩ = some (.slice A7 n7 c7) := (hk9.cell (by simp <;> omega)).trans c8_12
    have c9_13 : w9.cell? ⟨w7.heap.size, 1, none⟩ = some (.slice B7 m7 d7) := (hk9.cell (by simp <;> omega)).trans c8_13
    have l9_0 : w1.heap.size < w9.heap.size := by omega
    have l9_1 : w2.heap.size < w9.heap.size := by omega
    have l9_2 : w3.heap.size < w9.heap.size := by omega
    have l9_3 : w4.heap.size < w9.heap.size := by omega
    have l9_4 : w5.heap.size < w9.heap.size := by omega
    have l9_5 : w6.heap.size < w9.heap.size := by omega
    have l9_6 : w7.heap.size < w9.heap.size := by omega
    have ia_9 := ia_8.below hk9
    have ib_9 := ib_8.below hk9
    have og_9 := og_8.below hk9
    have oy_9 := oy_8.below hk9
    have ou_9 := ou_8.below hk9
    have oz_9 := oz_8.below hk9
    have ot_9 := ot_8.below hk9
    have hB9 : Below w.heap.size w w9 := hB8.trans (hk9.mono hB8.size)
    have y9 : w.heap.size ≤ w9.heap.size := hB9.size
    clear c8_0 c8_1 c8_2 c8_3 c8_4 c8_5 c8_6 c8_7 c8_8 c8_9 c8_10 c8_11 c8_12 c8_13 l8_0 l8_1 l8_2 l8_3 l8_4 l8_5 l8_6 ia_8 ib_8 og_8 oy_8 ou_8 oz_8 ot_8 hk9 hb9
    go_wp2_with fail
    go_ret
    exact ⟨rfl, hB9⟩
  have hatb : (at_ == to_) = false := by simpa using hat
  have hord := order_plain (lat := lat) Hok.out hat
  rw [HX.out, HY.out, Hq.out, Hv.out, HU.out, HV.out, Hr.out, HP.out, HQ.out, HM.out, HN.out] at hord
  obtain ⟨rfl, hord2⟩ := hord
  clear hat
  cases q
  · clear hord2
    go_wp2_with fail
    go_ret
    exact ⟨rfl, hB8⟩
  obtain ⟨rfl, rfl, rfl⟩ := hord2 rfl
  clear hord2
  go_wp2_with fail
  refine (pfSpace_any _ _ _ _ _ _ _ _ _ _ _ _ P Q P Q _ oy_8.one oy_8.two oz_8.one oz_8.two).mono ?_
  rintro e w9 ⟨rfl, hb9⟩
  have hk9 : Below w8.heap.size w8 w9 := hb9
  have z9 : w8.heap.size + 0 ≤ w9.heap.size := by have := hb9.size; (try simp at this); omega
  have c9_0 : w9.cell? ⟨w1.heap.size, 0, none⟩ = some (.slice A1 n1 c1) := (hk9.cell (by simp <;> omega)).trans c8_0
  have c9_1 : w9.cell? ⟨w1.heap.size, 1, none⟩ = some (.slice B1 m1 d1) := (hk9.cell (by simp <;> omega)).trans c8_1
  have c9_2 : w9.cell? ⟨w2.heap.size, 0, none⟩ = some (.slice A2 n2 c2) := (hk9.cell (by simp <;> omega)).trans c8_2
  have c9_3 : w9.cell? ⟨w2.heap.size, 1, none⟩ = some (.slice B2 m2 d2) := (hk9.cell (by simp <;> omega)).trans c8_3
  have c9_4 : w9.cell? ⟨w3.heap.size, 0, none⟩ = some (.slice A3 n3 c3) := (hk9.cell (by simp <;> omega)).trans c8_4
  have c9_5 : w9.cell? ⟨w3.heap.size, 1, none⟩ = some (.slice B3 m3 d3) := (hk9.cell (by simp <;> omega)).trans c8_5
  have c9_6 : w9.cell? ⟨w4.heap.size, 0, none⟩ = some (.slice A4 n4 c4) := (hk9.cell (by simp <;> omega)).trans c8_6
  have c9_7 : w9.cell? ⟨w4.heap.size, 1, none⟩ = some (.slice B4 m4 d4) := (hk9.cell (by simp <;> omega)).trans c8_7
  have c9_8 : w9.cell? ⟨w5.heap.size, 0, none⟩ = some (.slice A5 n5 c5) := (hk9.cell (by simp <;> omega)).trans c8_8
  have c9_9 : w9.cell? ⟨w5.heap.size, 1, none⟩ = some (.slice B5 m5 d5) := (hk9.cell (by simp <;> omega)).trans c8_9
  have c9_10 : w9.cell? ⟨w6.heap.size, 0, none⟩ = some (.slice A6 n6 c6) := (hk9.cell (by simp <;> omega)).trans c8_10
  have c9_11 : w9.cell? ⟨w6.heap.size, 1, none⟩ = some (.slice B6 m6 d6) := (hk9.cell (by simp <;> omega)).trans c8_11
  have c9_12 : w9.cell? ⟨w7.heap.size, 0, none⟩ = some (.slice A7 n7 c7) := (hk9.cell (by simp <;> omega)).trans c8_12
  have c9_13 : w9.cell? ⟨w7.heap.size, 1, none⟩ = some (.slice B7 m7 d7) := (hk9.cell (by simp <;> omega)).trans c8_13
  have l9_0 : w1.heap.size < w9.heap.size := by omega
  have l9_1 : w2.heap.size < w9.heap.size := by omega
  have l9_2 : w3.heap.size < w9.heap.size := by omega
  have l9_3 : w4.heap.size < w9.heap.size := by omega
  have l9_4 : w5.heap.size < w9.heap.size := by omega
  have l9_5 : w6.heap.size < w9.heap.size := by omega
  have l9_6 : w7.heap.size < w9.heap.size := by omega
  have ia_9 := ia_8.below hk9
  have ib_9 := ib_8.below hk9
  have og_9 := og_8.below hk9
  have oy_9 := oy_8.below hk9
  have ou_9 := ou_8.below hk9
  have oz_9 := oz_8.below hk9
  have ot_9 := ot_8.below hk9
  have hB9 : Below w.heap.size w w9 := hB8.trans (hk9.mono hB8.size)
  have y9 : w.heap.size ≤ w9.heap.size := hB9.size
  clear c8_0 c8_1 c8_2 c8_3 c8_4 c8_5 c8_6 c8_7 c8_8 c8_9 c8_10 c8_11 c8_12 c8_13 l8_0 l8_1 l8_2 l8_3 l8_4 l8_5 l8_6 ia_8 ib_8 og_8 oy_8 ou_8 oz_8 ot_8 hk9 hb9
  go_wp2_with fail
  go_ret
  exact ⟨rfl, hB9⟩

end Go.Proofs.Ytbfdbkidmakapaa
