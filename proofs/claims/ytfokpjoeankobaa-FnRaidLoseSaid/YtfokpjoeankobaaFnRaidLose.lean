/- FnRaidLose: the walk. No condition. -/
import Derived.Test.YtfokpjoeankobaaDrawRaid
import Derived.Test.YtfokpjoeankobaaPfDisk
import Derived.Test.YtfokpjoeankobaaRaidLose
namespace Go.Proofs.Ytfokpjoeankobaa
set_option linter.unnecessarySimpa false
open Go Go.Lib Go.RowKit
set_option linter.unusedVariables false
set_option linter.unusedSimpArgs false
theorem bytes_laterR {w w' : World} {A : Option Addr} {n c : Nat} {zs : List Int} (h : BytesIn w A n c zs) (hb : Below w.heap.size w w') : BytesIn w' A n c zs := by
  obtain ⟨h1, h2, h3, h4, h5⟩ := h
  refine ⟨h1, h2, h3, h4, fun hn => ?_⟩
  obtain ⟨b, off, hA, hc⟩ := h5 hn
  exact ⟨b, off, hA, fun j hj => (hb.cell (World.block_lt_of_cell? w _ (hc j hj))).trans (hc j hj)⟩
theorem raid_at {w : World} {lo hi n c : Nat} {A : Option Addr} {x : RaidD} (h : SliceR DiskR 3 w lo hi A n c x) {j : Nat} {d : DiskD} (hd : x[j]? = some d) : ∃ b off v0 v1 v2, A = some ⟨b, off, none⟩ ∧ b < w.heap.size ∧ w.cell? ⟨b, off + j * 3, none⟩ = some v0 ∧ w.cell? ⟨b, off + j * 3 + 1, none⟩ = some v1 ∧ w.cell? ⟨b, off + j * 3 + 2, none⟩ = some v2 ∧ DiskR w lo hi [v0, v1, v2] d ∧ v2 = .bool d.2.2 := by
  have hn : j < n := by have := h.len; have := (List.getElem?_eq_some_iff.1 hd).1; omega
  obtain ⟨b, off, rfl, _, _, bl, hc⟩ := h.at_ (by omega)
  obtain ⟨cs, hcl, hcc, hr⟩ := hc j d hd
  have hr2 := hr
  obtain ⟨A0, n0, c0, A1, n1, c1, rfl, -, -⟩ := hr2
  refine ⟨b, off, _, _, _, rfl, bl, ?_, hcc 1 _ rfl, hcc 2 _ rfl, hr, rfl⟩
  have := hcc 0 _ rfl
  simpa using this
set_option maxRecDepth 100000 in
set_option maxHeartbeats 4000000 in
theorem pfRaid_yes (cs cs' : List Value) (x : RaidD) (w : World) (lo hi lo' hi' : Nat) (h : RaidR w lo hi cs x) (h' : RaidR w lo' hi' cs' x) :
    Calls Try.prog 13 #[.agg cs.toArray, .agg cs'.toArray] w fun e w' => e = .returned (.bool true) ∧ Below w.heap.size w w' := by
  obtain ⟨A, n, c, rfl, h0⟩ := h
  obtain ⟨B, m, d, rfl, g0⟩ := h'
  obtain rfl : m = n := by have := h0.len; have := g0.len; omega
  have hn := h0.max
  have hl := Lib.hid h0.len
  have H0 := Lib.hid h0; have G0 := Lib.hid g0
  show Calls Try.prog 13 #[.agg #[.slice A m c], .agg #[.slice B m d]] w _
  clear h0 g0
  go_enter Try.func13, Try.ntmps13
  go_wp2_with fail
  obtain ⟨w1, hw1⟩ : ∃ W, W = (w.alloc (.cells #[.slice A m c] 35)).alloc (.cells #[.slice B m d] 35) := ⟨_, rfl⟩
  have hb1 : Below w.heap.size w w1 := by rw [hw1]; exact bel2
  have z1 : w1.heap.size = w.heap.size + 2 := by rw [hw1]; simp
  have K0 : w1.heap[w.heap.size]? = some (.cells #[.slice A m c] 35 (0, 0)) := by rw [hw1]; exact (Below.heap_alloc _ _ _ (by simp)).trans (heap_alloc_new _ _)
  have K1 : w1.heap[w.heap.size + 1]? = some (.cells #[.slice B m d] 35 (0, 0)) := by rw [hw1]; exact box2
  rw [← hw1]; clear hw1
  have HB1 := Lib.hid hb1
  have HK0 := Lib.hid K0; have HK1 := Lib.hid K1
  clear hb1 K0 K1
  go_loopw [5] (fun i wr => ∃ j : Nat, j ≤ m ∧ i = .int .i64 (j : Int) ∧ Below w1.heap.size w1 wr) (fun i _ => m - (RowKit.intOf i).toNat)
  case atStart => exact ⟨0, Nat.zero_le _, rfl, Below.refl _ _⟩
  case round =>
    obtain ⟨j, hj, rfl, hB⟩ := hrel
    have hBw : Below w.heap.size w wr := HB1.out.trans (hB.mono HB1.out.size)
    have k0 := (hB.block _ (by omega)).trans HK0.out
    have k1 := (hB.block _ (by omega)).trans HK1.out
    have a0 := cell_of_row _ _ 0 _ _ (0, 0) k0; have l0 := (Array.getElem?_eq_some_iff.1 k0).1
    have b0 := cell_of_row _ _ 0 _ _ (0, 0) k1; have l1 := (Array.getElem?_eq_some_iff.1 k1).1
    clear k0 k1
    have HBW := Lib.hid hBw; have HB := Lib.hid hB
    clear hBw hB
    by_cases hlt : j < m
    · obtain ⟨dd, hx⟩ : ∃ dd, x[j]? = some dd := ⟨x[j]'(by rw [hl.out]; exact hlt), List.getElem?_eq_getElem _⟩
      have GR := SliceR.below H0.out HBW.out (DiskR.below HBW.out H0.out.lo_le); have GR' := SliceR.below G0.out HBW.out (DiskR.below HBW.out G0.out.lo_le)
      have HI := GR.lo_le; have HI' := GR'.lo_le
      obtain ⟨b, off, v0, v1, v2, rfl, bl, q0, q1, q2, hr, -⟩ := raid_at GR hx
      obtain ⟨b', off', u0, u1, u2, rfl, bl', r0, r1, r2, hr', -⟩ := raid_at GR' hx
      have HR := Lib.hid hr; have HR' := Lib.hid hr'
      clear hx GR GR' hr hr'
      have j0 : (0 : Int) ≤ (j : Int) := by omega
      have j1 : (j : Int) < (m : Int) := by omega
      go_wp2_with fail
      apply wp_region_rg (by kernel_rfl) (false :: false :: false :: false :: false :: false :: false :: false :: false :: false :: false :: false :: false :: false :: false :: false :: false :: false :: false :: false :: true :: true :: true :: true :: true :: true :: true :: true :: true :: true :: true :: true :: []) [some 20, some 21, some 22, some 23, some 24, some 25, some 26, some 27, some 28, some 29, some 30, some 31] [[], [0], [], [1, 2], [3], [], [5], [], [6, 7], [8], [4, 9], [10]] [StP.is _, StP.is _, StP.is _, StP.is _, StP.is _, StP.is _, StP.is _, StP.is _, StP.is _, StP.is _, StP.is _, StP.is _] (by kernel_rfl)
      case hobs =>
        refine ⟨fun y w' hS hF K hK => ?_, ?_⟩
        · skip -- 0: fieldAddr
          simp only [fillL, cond_true, cond_false, List.getD_cons_zero, List.getD_cons_succ, StP.is, Act.put, List.setIfInBounds_toArray, List.set_cons_zero, List.set_cons_succ, Nat.reduceAdd] at hK ⊢
          refine rg_yes (by kernel_rfl) ?_
          clear hF
          go_simp
          exact hK _ _ (Ext.refl _) rfl
        refine ⟨fun y w' hS hF K hK => ?_, ?_⟩
        · skip -- 1: load
          have e20 : y 20 = _ := hF.1
          simp only [fillL, cond_true, cond_false, List.getD_cons_zero, List.getD_cons_succ, StP.is, Act.put, List.setIfInBounds_toArray, List.set_cons_zero, List.set_cons_succ, Nat.reduceAdd, e20] at hK ⊢
          refine rg_yes (by kernel_rfl) ?_
          have qx0_ := (Below.cell hS l0).trans a0
          have qx1_ := (Below.cell hS l1).trans b0
          have qx2_ := (Below.cell hS bl).trans q0
          have qx3_ := (Below.cell hS bl).trans q1
          have qx4_ := (Below.cell hS bl).trans q2
          have qx5_ := (Below.cell hS bl').trans r0
          have qx6_ := (Below.cell hS bl').trans r1
          have qx7_ := (Below.cell hS bl').trans r2
          clear e20
          clear hF
          go_simp
          exact hK _ _ (Ext.refl _) rfl
        refine ⟨fun y w' hS hF K hK => ?_, ?_⟩
        · skip -- 2: move
          simp only [fillL, cond_true, cond_false, List.getD_cons_zero, List.getD_cons_succ, StP.is, Act.put, List.setIfInBounds_toArray, List.set_cons_zero, List.set_cons_succ, Nat.reduceAdd] at hK ⊢
          refine rg_yes (by kernel_rfl) ?_
          clear hF
          go_simp
          exact hK _ _ (Ext.refl _) rfl
        refine ⟨fun y w' hS hF K hK => ?_, ?_⟩
        · skip -- 3: indexAddr
          have e21 : y 21 = _ := hF.1
          have e22 : y 22 = _ := hF.2.1
          simp only [fillL, cond_true, cond_false, List.getD_cons_zero, List.getD_cons_succ, StP.is, Act.put, List.setIfInBounds_toArray, List.set_cons_zero, List.set_cons_succ, Nat.reduceAdd, e21, e22] at hK ⊢
          refine rg_yes (by kernel_rfl) ?_
          clear e21 e22
          clear hF
          go_simp
          exact hK _ _ (Ext.refl _) rfl
        refine ⟨fun y w' hS hF K hK => ?_, ?_⟩
        · skip -- 4: load
          have e23 : y 23 = _ := hF.1
          simp only [fillL, cond_true, cond_false, List.getD_cons_zero, List.getD_cons_succ, StP.is, Act.put, List.setIfInBounds_toArray, List.set_cons_zero, List.set_cons_succ, Nat.reduceAdd, e23] at hK ⊢
          refine rg_yes (by kernel_rfl) ?_
          have qx0_ := (Below.cell hS l0).trans a0
          have qx1_ := (Below.cell hS l1).trans b0
          have qx2_ := (Below.cell hS bl).trans q0
          have qx3_ := (Below.cell hS bl).trans q1
          have qx4_ := (Below.cell hS bl).trans q2
          have qx5_ := (Below.cell hS bl').trans r0
          have qx6_ := (Below.cell hS bl').trans r1
          have qx7_ := (Below.cell hS bl').trans r2
          clear e23
          clear hF
          go_simp
          exact hK _ _ (Ext.refl _) rfl
        refine ⟨fun y w' hS hF K hK => ?_, ?_⟩
        · skip -- 5: fieldAddr
          simp only [fillL, cond_true, cond_false, List.getD_cons_zero, List.getD_cons_succ, StP.is, Act.put, List.setIfInBounds_toArray, List.set_cons_zero, List.set_cons_succ, Nat.reduceAdd] at hK ⊢
          refine rg_yes (by kernel_rfl) ?_
          clear hF
          go_simp
          exact hK _ _ (Ext.refl _) rfl
        refine ⟨fun y w' hS hF K hK => ?_, ?_⟩
        · skip -- 6: load
          have e25 : y 25 = _ := hF.1
          simp only [fillL, cond_true, cond_false, List.getD_cons_zero, List.getD_cons_succ, StP.is, Act.put, List.setIfInBounds_toArray, List.set_cons_zero, List.set_cons_succ, Nat.reduceAdd, e25] at hK ⊢
          refine rg_yes (by kernel_rfl) ?_
          have qx0_ := (Below.cell hS l0).trans a0
          have qx1_ := (Below.cell hS l1).trans b0
          have qx2_ := (Below.cell hS bl).trans q0
          have qx3_ := (Below.cell hS bl).trans q1
          have qx4_ := (Below.cell hS bl).trans q2
          have qx5_ := (Below.cell hS bl').trans r0
          have qx6_ := (Below.cell hS bl').trans r1
          have qx7_ := (Below.cell hS bl').trans r2
          clear e25
          clear hF
          go_simp
          exact hK _ _ (Ext.refl _) rfl
        refine ⟨fun y w' hS hF K hK => ?_, ?_⟩
        · skip -- 7: move
          simp only [fillL, cond_true, cond_false, List.getD_cons_zero, List.getD_cons_succ, StP.is, Act.put, List.setIfInBounds_toArray, List.set_cons_zero, List.set_cons_succ, Nat.reduceAdd] at hK ⊢
          refine rg_yes (by kernel_rfl) ?_
          clear hF
          go_simp
          exact hK _ _ (Ext.refl _) rfl
        refine ⟨fun y w' hS hF K hK => ?_, ?_⟩
        · skip -- 8: indexAddr
          have e26 : y 26 = _ := hF.1
          have e27 : y 27 = _ := hF.2.1
          simp only [fillL, cond_true, cond_false, List.getD_cons_zero, List.getD_cons_succ, StP.is, Act.put, List.setIfInBounds_toArray, List.set_cons_zero, List.set_cons_succ, Nat.reduceAdd, e26, e27] at hK ⊢
          refine rg_yes (by kernel_rfl) ?_
          clear e26 e27
          clear hF
          go_simp
          exact hK _ _ (Ext.refl _) rfl
        refine ⟨fun y w' hS hF K hK => ?_, ?_⟩
        · skip -- 9: load
          have e28 : y 28 = _ := hF.1
          simp only [fillL, cond_true, cond_false, List.getD_cons_zero, List.getD_cons_succ, StP.is, Act.put, List.setIfInBounds_toArray, List.set_cons_zero, List.set_cons_succ, Nat.reduceAdd, e28] at hK ⊢
          refine rg_yes (by kernel_rfl) ?_
          have qx0_ := (Below.cell hS l0).trans a0
          have qx1_ := (Below.cell hS l1).trans b0
          have qx2_ := (Below.cell hS bl).trans q0
          have qx3_ := (Below.cell hS bl).trans q1
          have qx4_ := (Below.cell hS bl).trans q2
          have qx5_ := (Below.cell hS bl').trans r0
          have qx6_ := (Below.cell hS bl').trans r1
          have qx7_ := (Below.cell hS bl').trans r2
          clear e28
          clear hF
          go_simp
          exact hK _ _ (Ext.refl _) rfl
        refine ⟨fun y w' hS hF K hK => ?_, ?_⟩
        · skip -- 10: call
          have e24 : y 24 = _ := hF.1
          have e29 : y 29 = _ := hF.2.1
          simp only [fillL, cond_true, cond_false, List.getD_cons_zero, List.getD_cons_succ, StP.is, Act.put, List.setIfInBounds_toArray, List.set_cons_zero, List.set_cons_succ, Nat.reduceAdd, e24, e29] at hK ⊢
          refine rg_yes (by kernel_rfl) ?_
          clear e24 e29
          clear hF
          go_simp
          go_at_call 14
          refine (pfDisk_yes [v0, v1, v2] [u0, u1, u2] dd _ _ _ _ _ (DiskR.below hS HI _ _ HR.out) (DiskR.below hS HI' _ _ HR'.out)).mono ?_
          rintro e w'' ⟨rfl, hb⟩
          exact hK _ _ hb rfl
        refine ⟨fun y w' hS hF K hK => ?_, ?_⟩
        · skip -- 11: unOp
          have e30 : y 30 = _ := hF.1
          simp only [fillL, cond_true, cond_false, List.getD_cons_zero, List.getD_cons_succ, StP.is, Act.put, List.setIfInBounds_toArray, List.set_cons_zero, List.set_cons_succ, Nat.reduceAdd, e30] at hK ⊢
          refine rg_yes (by kernel_rfl) ?_
          clear e30
          clear hF
          go_simp
          exact hK _ _ (Ext.refl _) rfl
        trivial
      case hend =>
        intro y w2 hX hF
        have e31 : y 31 = _ := hF.2.2.2.2.2.2.2.2.2.2.2.1
        clear hF
        simp only [fillL, cond_true, cond_false, Nat.reduceAdd, e31]
        clear e31
        have hB2 : Below w1.heap.size w1 w2 := HB.out.trans (Below.mono hX HB.out.size)
        clear hX HB
        go_wp2_with fail
        go_roundw
        case rel => exact ⟨j + 1, by omega, by go_num, hB2⟩
        case measure => simp [RowKit.intOf]; omega
    · have j1 : ¬ (j : Int) < (m : Int) := by omega
      go_wp2_with fail
      go_ret
      exact ⟨rfl, HBW.out⟩
def DrawnRL (w : World) (e : Ending) (w' : World) : Prop :=
  ∃ (A : Option Addr) (n c : Nat) (x : RaidD) (t : Int), e = .returned (.tuple #[.agg #[.slice A n c], .int .i64 t]) ∧ RaidR w' w.heap.size w'.heap.size [.slice A n c] x ∧ Below w.heap.size w w'
set_option maxRecDepth 100000 in
set_option maxHeartbeats 4000000 in
theorem drawRaidLose_any (A : Option Addr) (n c : Nat) (zs : List Int) (w : World) (h : BytesIn w A n c zs) : Calls Try.prog 10 #[.slice A n c] w (DrawnRL w) := by
  go_enter Try.func10, Try.ntmps10
  go_wp2_with fail
  refine (l6Open_any A n c zs _ (bytes_laterR h bel1)).mono ?_
  rintro e w1 ⟨m', c', ys, rfl, hr, hb1⟩
  have s1 := hb1.size
  have hp1 := hr.2.2.2.1
  have hq1 : w1.heap[w.heap.size]? = some (.cells #[.slice none 0 0] 35 (0, 0)) := (hb1.block _ (by simp)).trans (heap_alloc_new _ _)
  simp at s1 hr hp1
  have hb2 : Below w.heap.size w w1 := ((Below.refl _ _).alloc (Nat.le_refl _) _).trans (hb1.mono (by simp))
  obtain ⟨pp, hpp⟩ : ∃ pp, pp = w.heap.size + 1 := ⟨_, rfl⟩
  clear hb1
  go_wp2_with fail
  refine (l91Raid_any w1 _ _ m' c' ys 0 hr (by omega)).mono ?_
  rintro e w2 ⟨cs, x, v, k2, rfl, hD, hk2, hr2, hc2⟩
  have hq2 := (hc2.block w.heap.size (by omega) (by simp)).trans hq1
  have z2 := hc2.size
  obtain ⟨A0, n0, c0, rfl, hS0⟩ := hD
  have hD : RaidR w2 w1.heap.size w2.heap.size [.slice A0 n0 c0] x := ⟨_, _, _, rfl, hS0⟩
  clear hS0
  obtain ⟨w3, hw3⟩ : ∃ W, W = w2.alloc (.cells #[.slice A0 n0 c0] 35) := ⟨_, rfl⟩
  have hb3 : Below w2.heap.size w2 w3 := by rw [hw3]; exact bel1
  have z3 : w3.heap.size = w2.heap.size + 1 := by rw [hw3]; simp
  have HQ3 : Hid (w3.heap[w2.heap.size]? = some (.cells #[.slice A0 n0 c0] 35 (0, 0))) := Lib.hid (by rw [hw3]; exact heap_alloc_new _ _)
  have HR3 : Hid (w3.heap[w.heap.size]? = some (.cells #[.slice none 0 0] 35 (0, 0))) := Lib.hid ((hb3.block _ (by omega)).trans hq2)
  have hC3 : Hid (Chg (fun b => w.heap.size ≤ b) w w3) := Lib.hid ((Chg.of_below hb2 _).trans ((hc2.mono (fun b _ hb => by simp at hb; omega)).trans (Chg.of_below hb3 _)))
  have HD3 := Lib.hid (RaidR.below hb3 (Nat.le_refl _) _ _ hD)
  have HRD := Lib.hid (hr2.below hb3)
  have HW3 := Lib.hid hw3
  clear hq1 hb2 hq2 hr hr2 hc2 hD hb3 hw3
  go_wp2_with fail
  rw [← HW3.out]
  go_wp2_with fail
  apply wp_region_rgz (Chg (fun b => b = w.heap.size + 1 ∨ b = w.heap.size)) (Ext) (fun y w' k' => (k' < 1000 → Rd w' (w.heap.size + 1) A m' c' ys k2) ∧ w'.heap[w2.heap.size]? = some (.cells #[.slice A0 n0 c0] 35 (0, 0)) ∧ (k' < 2000 → w'.heap[w.heap.size]? = some (.cells #[.slice none 0 0] 35 (0, 0))) ∧ (2000 ≤ k' → w'.heap[w.heap.size]? = some (.cells #[.slice A0 n0 c0] 35 (0, 0)))) [0, 0, 1000, 0, 2000, 0] [2000, 3000, 3000, 0, 2000, 0] (by kernel_rfl) (false :: false :: false :: true :: false :: false :: false :: false :: false :: false :: false :: false :: false :: false :: true :: true :: true :: true :: []) [some 14, some 15, some 16, some 17, none, some 3] [[], [], [1], [2], [0], [3]] [false, false, true, false, true, false] [true, true, true, true, true, true] [5] [MStP.is _, MStP.is _, ⟨fun v _ => ∃ r : Nat, v = .int .i64 (r : Int) ∧ r < 5, true, fun _ _ _ _ h => h, fun _ _ _ _ _ h => h⟩, ⟨fun v _ => ∃ t : Int, v = .int .i64 t, true, fun _ _ _ _ h => h, fun _ _ _ _ _ h => h⟩, MStP.is _, ⟨fun v _ => ∃ t : Int, v = .int .i64 t, true, fun _ _ _ _ h => h, fun _ _ _ _ _ h => h⟩] (by kernel_rfl) (by kernel_rfl) (by kernel_rfl) (by kernel_rfl)
  case hobs =>
    refine ⟨fun y w' k hS hj hk hF K hK => ?_, ?_⟩
    · skip -- 0: load
      simp only [fillL, cond_true, cond_false, List.getD_cons_zero, List.getD_cons_succ, StP.is, Act.put, List.setIfInBounds_toArray, List.set_cons_zero, List.set_cons_succ, Nat.reduceAdd, MStP.is, Option.isSome_some, Option.isSome_none] at hK ⊢
      simp only [List.sum_cons, List.sum_nil, List.getD_cons_zero, List.getD_cons_succ, Nat.reduceAdd, Nat.add_zero] at hk
      refine rg_yes (by kernel_rfl) ?_
      clear hF
      have qb_ := cell_of_row _ _ 0 _ _ (0, 0) hj.2.1
      have lq_ := (Array.getElem?_eq_some_iff.1 hj.2.1).1
      go_simp
      exact hK _ _ (Ext.refl _) hj rfl
    refine ⟨fun y w' k hS hj hk hF K hK => ?_, ?_⟩
    · skip -- 1: move
      simp only [fillL, cond_true, cond_false, List.getD_cons_zero, List.getD_cons_succ, StP.is, Act.put, List.setIfInBounds_toArray, List.set_cons_zero, List.set_cons_succ, Nat.reduceAdd, MStP.is, Option.isSome_some, Option.isSome_none] at hK ⊢
      simp only [List.sum_cons, List.sum_nil, List.getD_cons_zero, List.getD_cons_succ, Nat.reduceAdd, Nat.add_zero] at hk
      refine rg_yes (by kernel_rfl) ?_
      clear hF
      go_simp
      exact hK _ _ (Ext.refl _) hj rfl
    refine ⟨fun y w' k hS hj hk hF K hK => ?_, ?_⟩
    · skip -- 2: call
      have e15 : y 15 = _ := hF.1
      have e15' := Lib.hid e15
      simp only [fillL, cond_true, cond_false, List.getD_cons_zero, List.getD_cons_succ, StP.is, Act.put, List.setIfInBounds_toArray, List.set_cons_zero, List.set_cons_succ, Nat.reduceAdd, e15, MStP.is, Option.isSome_some, Option.isSome_none] at hK ⊢
      simp only [List.sum_cons, List.sum_nil, List.getD_cons_zero, List.getD_cons_succ, Nat.reduceAdd, Nat.add_zero] at hk
      refine rg_yes (by kernel_rfl) ?_
      clear e15
      clear hF
      have hrd_ := hj.1 (by omega)
      have hr_ := hj.2.2.1 (by omega)
      go_simp
      go_at_call 17
      refine (pick_any w' _ A m' c' ys k2 5 hrd_ (by omega) (by omega) (by omega)).mono ?_
      rintro e w'' ⟨r, rfl, hr1_, rd1_, hc1_, hz1_⟩
      exact hK _ _ (hc1_.mono fun b _ hb => by simp at hb; exact .inl hb) ⟨fun h => absurd h (by omega), (hc1_.block _ (Array.getElem?_eq_some_iff.1 hj.2.1).1 (by simp; omega)).trans hj.2.1, fun _ => (hc1_.block _ (Array.getElem?_eq_some_iff.1 hr_).1 (by simp)).trans hr_, fun h => absurd h (by omega)⟩ ⟨r, rfl, by have := hr1_ (by omega); omega⟩
    refine ⟨fun y w' k hS hj hk hF K hK => ?_, ?_⟩
    · skip -- 3: binOp
      obtain ⟨r, e16, hr3⟩ := hF.1
      have e16' := Lib.hid e16
      simp only [fillL, cond_true, cond_false, List.getD_cons_zero, List.getD_cons_succ, StP.is, Act.put, List.setIfInBounds_toArray, List.set_cons_zero, List.set_cons_succ, Nat.reduceAdd, e16, MStP.is, Option.isSome_some, Option.isSome_none] at hK ⊢
      simp only [List.sum_cons, List.sum_nil, List.getD_cons_zero, List.getD_cons_succ, Nat.reduceAdd, Nat.add_zero] at hk
      refine rg_yes (by kernel_rfl) ?_
      clear e16
      clear hF
      go_simp
      exact hK _ _ (Ext.refl _) hj ⟨_, rfl⟩
    refine ⟨fun y w' k hS hj hk hF K hK => ?_, ?_⟩
    · skip -- 4: store
      have e14 : y 14 = _ := hF.1
      have e14' := Lib.hid e14
      simp only [fillL, cond_true, cond_false, List.getD_cons_zero, List.getD_cons_succ, StP.is, Act.put, List.setIfInBounds_toArray, List.set_cons_zero, List.set_cons_succ, Nat.reduceAdd, e14, MStP.is, Option.isSome_some, Option.isSome_none] at hK ⊢
      simp only [List.sum_cons, List.sum_nil, List.getD_cons_zero, List.getD_cons_succ, Nat.reduceAdd, Nat.add_zero] at hk
      refine rg_yes (by kernel_rfl) ?_
      clear e14
      clear hF
      have hr_ := hj.2.2.1 (by omega)
      have c0_ := cell_of_row _ _ 0 _ _ (0, 0) hr_; have f0_ := block_free hr_ 0; have lr_ := (Array.getElem?_eq_some_iff.1 hr_).1
      have HJ := Lib.hid hj; have HR_ := Lib.hid hr_; clear hj hr_
      go_simp
      exact hK undef _ (Chg.setCell (p := ⟨w.heap.size, 0, none⟩) (Chg.refl _ _) (.inl (.inr rfl)) _) ⟨fun h => absurd h (by omega), (heap_far (by show w2.heap.size ≠ w.heap.size; omega)).trans HJ.out.2.1, fun h => absurd h (by omega), fun _ => block_set (o := 0) HR_.out⟩ rfl
    refine ⟨fun y w' k hS hj hk hF K hK => ?_, ?_⟩
    · skip -- 5: assign
      obtain ⟨t, e17⟩ := hF.1
      have e17' := Lib.hid e17
      simp only [fillL, cond_true, cond_false, List.getD_cons_zero, List.getD_cons_succ, StP.is, Act.put, List.setIfInBounds_toArray, List.set_cons_zero, List.set_cons_succ, Nat.reduceAdd, e17, MStP.is, Option.isSome_some, Option.isSome_none] at hK ⊢
      simp only [List.sum_cons, List.sum_nil, List.getD_cons_zero, List.getD_cons_succ, Nat.reduceAdd, Nat.add_zero] at hk
      refine rg_yes (by kernel_rfl) ?_
      clear e17
      clear hF
      go_simp
      exact hK _ _ (Ext.refl _) hj ⟨_, rfl⟩
    trivial
  case hH => rfl
  case hNS => exact fun _ _ h => Chg.of_below h _
  case hSt => exact fun a b => Chg.trans a b
  case hb => rfl
  case hdrew => exact (Chg.refl _ _).drewN 1
  case hj0 => exact fun y => ⟨fun _ => HRD.out.below (below_drewN (Below.refl _ _) 1), HQ3.out, fun _ => HR3.out, fun h => absurd h (by omega)⟩
  case hend =>
    intro y w5 hSS hJ hF
    obtain ⟨t, e3⟩ := hF.1
    have hR5 := hJ.2.2.2 (by decide)
    have r0 := cell_of_row _ _ 0 _ _ (0, 0) hR5
    have HP : Hid (DrawnRL w (.returned (.tuple #[.agg #[.slice A0 n0 c0], .int .i64 t])) w5) := Lib.hid (by
      have hz := hSS.size
      refine ⟨A0, n0, c0, x, t, rfl, RaidR.wide (lo := w1.heap.size) (hi := w2.heap.size) (by omega) (by omega) (Nat.le_refl _) _ _ (RaidR.keep (fun b b1 b2 => hSS.block b (by omega) (fun h => by omega)) hz _ _ HD3.out), (hC3.out.trans (hSS.mono fun b _ hb => by omega)).below (fun k _ hk => hk) (Nat.le_refl _)⟩)
    clear hF hJ hSS hR5
    simp only [fillL, cond_true, cond_false, Nat.reduceAdd, e3]
    clear e3
    go_wp2_with fail
    exact bodyPost_ret (v := .tuple #[.agg #[.slice A0 n0 c0], .int .i64 t]) (by simp [results, Try.results10, go_sem, r0]) rfl HP.out
theorem raidOk_lose {x : RaidD} {j : Nat} (h : raidOk x = true) : raidOk (x.set j loseD) = true := by
  unfold raidOk at h ⊢
  obtain ⟨h1, h2⟩ := (Bool.and_eq_true _ _).mp h
  rw [Bool.and_eq_true]
  refine ⟨by simpa using h1, List.all_eq_true.2 fun d hd => ?_⟩
  rcases List.mem_or_eq_of_mem_set hd with hd | hd
  · exact List.all_eq_true.1 h2 d hd
  · rw [hd]; decide +kernel
set_option maxRecDepth 100000 in
set_option maxHeartbeats 4000000 in
theorem fnRaidLose_walk (A : Option Addr) (n c : Nat) (zs : List Int) (w : World) (hz : BytesIn w A n c zs) :
    Calls Try.prog 4 #[.slice A n c] w fun e w' => e = .returned (.bool true) ∧ Below w.heap.size w w' := by
  by_cases hn : n ≤ 1048576
  · go_enter Try.func4, Try.ntmps4
    go_wp2_with fail
    refine (drawRaidLose_any A n c zs _ hz).mono ?_
    rintro e w1 ⟨A0, n0, c0, x, t, rfl, hx, hb1⟩
    have HX1 := Lib.hid hx
    have z1 := hb1.size
    clear hx
    go_wp2_with fail
    refine (raidLose_any _ x t _ w.heap.size w1.heap.size (RaidR.below bel1 (Nat.le_refl _) _ _ HX1.out)).mono ?_
    rintro e w2 ⟨cs2, rfl, hN2, hb2⟩
    have hq2 : w2.heap[w1.heap.size]? = some (.cells #[.slice A0 n0 c0] 35 (0, 0)) := (hb2.block _ (by simp)).trans (heap_alloc_new _ _)
    have HB2 : Hid (Below w.heap.size w w2) := Lib.hid ((hb1.alloc z1 _).trans (hb2.mono (by simp; omega)))
    have HX2 := Lib.hid (RaidR.below hb2 (by simp) _ _ (RaidR.below bel1 (Nat.le_refl _) _ _ HX1.out))
    have l2 : w1.heap.size < w2.heap.size := (Array.getElem?_eq_some_iff.1 hq2).1
    have u0 := cell_of_row _ _ 0 _ _ (0, 0) hq2
    have HQ2 := Lib.hid hq2
    generalize hxl : loseR x t = xl at hN2
    generalize hok : loseOk x t = ok
    have hN2 : RaidN w2 (w1.heap.size + 1) w2.heap.size cs2 xl := by simpa using hN2
    have HM2 := Lib.hid hN2.r
    obtain ⟨A2, n2, c2, o2, rfl, -⟩ := hN2
    have HXL := Lib.hid hxl; have HOK := Lib.hid hok
    clear hb2 hb1 hq2 HX1 hxl hok
    obtain ⟨w3, hw3⟩ : ∃ W, W = w2.alloc (.cells #[.slice A2 n2 c2] 35) := ⟨_, rfl⟩
    have hb3 : Below w2.heap.size w2 w3 := by rw [hw3]; exact bel1
    have z3 : w3.heap.size = w2.heap.size + 1 := by rw [hw3]; simp
    have HP3 : Hid (w3.heap[w2.heap.size]? = some (.cells #[.slice A2 n2 c2] 35 (0, 0))) := Lib.hid (by rw [hw3]; exact heap_alloc_new _ _)
    have HQ3 := Lib.hid ((hb3.block _ l2).trans HQ2.out)
    have HB3 := Lib.hid (HB2.out.trans (hb3.mono HB2.out.size))
    have HX3 := Lib.hid (RaidR.below hb3 (by omega) _ _ HX2.out)
    have HM3 := Lib.hid (RaidR.below hb3 (Nat.le_refl _) _ _ HM2.out)
    have HW3 := Lib.hid hw3
    clear hb3 hw3 HQ2 HB2 HX2 HM2
    go_wp2_with fail
    rw [← HW3.out]
    refine (spRaidLose_any _ x t _ w.heap.size w1.heap.size HX3.out).mono ?_
    rintro e w4 ⟨cs4, rfl, hN4, hb4⟩
    rw [HXL.out] at hN4
    rw [HOK.out]
    have HM4 := Lib.hid hN4.r
    obtain ⟨A4, n4, c4, o4, rfl, -⟩ := hN4
    have HP4 := Lib.hid ((hb4.block _ (by omega)).trans HP3.out); have HQ4 := Lib.hid ((hb4.block _ (by omega)).trans HQ3.out)
    have HB4 := Lib.hid (HB3.out.trans (hb4.mono HB3.out.size))
    have HX4 := Lib.hid (RaidR.below hb4 (by omega) _ _ HX3.out)
    have HN4 := Lib.hid (RaidR.below hb4 (by omega) _ _ HM3.out)
    have z4 := hb4.size
    clear hb4 u0 HP3 HQ3 HB3 HX3 HM3 HW3
    obtain ⟨w5, hw5⟩ : ∃ W, W = w4.alloc (.cells #[.slice A4 n4 c4] 35) := ⟨_, rfl⟩
    have hb5 : Below w4.heap.size w4 w5 := by rw [hw5]; exact bel1
    have z5 : w5.heap.size = w4.heap.size + 1 := by rw [hw5]; simp
    have hr5 : w5.heap[w4.heap.size]? = some (.cells #[.slice A4 n4 c4] 35 (0, 0)) := by rw [hw5]; exact heap_alloc_new _ _
    have hp5 := (hb5.block _ (by omega)).trans HP4.out
    have HP5 := Lib.hid hp5; have HQ5 := Lib.hid ((hb5.block _ (by omega)).trans HQ4.out)
    have HB5 := Lib.hid (HB4.out.trans (hb5.mono HB4.out.size))
    have HX5 := Lib.hid (RaidR.below hb5 (by omega) _ _ HX4.out)
    have HN5 := Lib.hid (RaidR.below hb5 (by omega) _ _ HN4.out)
    have HM5 := Lib.hid (RaidR.below hb5 (Nat.le_refl _) _ _ HM4.out)
    have p0 := cell_of_row _ _ 0 _ _ (0, 0) HP4.out
    have pl : w2.heap.size < w4.heap.size := by omega
    have pl5 : w2.heap.size < w5.heap.size := by omega
    have HW5 := Lib.hid hw5
    clear hb5 hp5 hr5 hw5 HP4 HQ4 HB4 HX4 HN4 HM4
    go_wp2_with fail
    rw [← HW5.out]
    refine (pfRaid_yes [.slice A2 n2 c2] [.slice A4 n4 c4] xl _ _ _ _ _ HN5.out HM5.out).mono ?_
    rintro e w6 ⟨rfl, hb6⟩
    have HP6 := Lib.hid ((hb6.block _ pl5).trans HP5.out); have HQ6 := Lib.hid ((hb6.block _ (by omega)).trans HQ5.out)
    have HB6 := Lib.hid (HB5.out.trans (hb6.mono HB5.out.size))
    have HX6 := Lib.hid (RaidR.below hb6 (by omega) _ _ HX5.out)
    have HN6 := Lib.hid (RaidR.below hb6 (by omega) _ _ HN5.out)
    have z6 := hb6.size
    have hself : (ok == ok) = true := by simp
    clear hb6 p0 pl HP5 HQ5 HB5 HX5 HN5 HM5 HW5
    cases ok
    · go_wp2_with fail
      go_ret
      exact ⟨by first | rfl | (simp [results, go_sem]), HB6.out⟩
    · have hok := HOK.out
      unfold loseOk at hok
      obtain ⟨hok1, hok2⟩ := (Bool.and_eq_true _ _).mp hok
      have hok3 : 0 ≤ t ∧ t ≤ 2 := by unfold inB at hok2; simpa using hok2
      obtain ⟨tn, rfl⟩ : ∃ tn : Nat, t = (tn : Int) := ⟨t.toNat, by omega⟩
      have htn : tn ≤ 2 := by omega
      have hxl := HXL.out
      unfold loseR at hxl
      rw [if_pos HOK.out, Int.toNat_natCast] at hxl
      have hlen := (raidOk_len hok1).1
      have hokl : raidOk xl = true := by rw [← hxl]; exact raidOk_lose hok1
      have hxt : xl[tn]? = some loseD := by rw [← hxl]; exact List.getElem?_set_self (by rw [hlen]; omega)
      have hxo : ∀ j, j ≠ tn → xl[j]? = x[j]? := fun j hj => by rw [← hxl, List.getElem?_set_ne (by omega)]
      have HOKL := Lib.hid hokl; have HXT := Lib.hid hxt; have HXO := Lib.hid hxo; have HLEN := Lib.hid hlen
      clear hok hok1 hok2 hok3 hxl hokl hxt hxo hlen HOK HXL
      have hA2 : n2 = 3 := by
        obtain ⟨_, _, _, e, h⟩ := HN6.out
        injection e with e _; injection e with e1 e2 e3; subst e2
        rw [← h.len, ← (raidOk_len HOKL.out).1]
      subst hA2
      have hA0 : n0 = 3 := by
        obtain ⟨_, _, _, e, h⟩ := HX6.out
        injection e with e _; injection e with e1 e2 e3; subst e2
        rw [← h.len, HLEN.out]
      subst hA0
      have HS6 : Hid (SliceR DiskR 3 w6 (w1.heap.size + 1) w2.heap.size A2 3 c2 xl) := Lib.hid (by
        obtain ⟨_, _, _, e, h⟩ := HN6.out
        injection e with e _; injection e with e1 e2 e3; subst e1 e2 e3
        exact h)
      have HT6 : Hid (SliceR DiskR 3 w6 w.heap.size w1.heap.size A0 3 c0 x) := Lib.hid (by
        obtain ⟨_, _, _, e, h⟩ := HX6.out
        injection e with e _; injection e with e1 e2 e3; subst e1 e2 e3
        exact h)
      clear HX6
      go_wp2_with fail
      go_loopw [10] (fun i wr => ∃ j : Nat, j ≤ 3 ∧ i = .int .i64 (j : Int) ∧ Below w6.heap.size w6 wr) (fun i _ => 3 - (RowKit.intOf i).toNat)
      case atStart => exact ⟨0, by omega, rfl, Below.refl _ _⟩
      case round =>
        obtain ⟨j, hj, rfl, hB⟩ := hrel
        have hBw : Below w.heap.size w wr := HB6.out.trans (hB.mono HB6.out.size)
        have zr := hB.size
        have hp := (hB.block _ (by omega)).trans HP6.out
        have hq := (hB.block _ (by omega)).trans HQ6.out
        have a0 := cell_of_row _ _ 0 _ _ (0, 0) hp; have l0 : w2.heap.size < wr.heap.size := by omega
        have b0 := cell_of_row _ _ 0 _ _ (0, 0) hq; have l1 : w1.heap.size < wr.heap.size := by omega
        have GR := SliceR.below HS6.out hB (DiskR.below hB HS6.out.lo_le); have GR' := SliceR.below HT6.out hB (DiskR.below hB HT6.out.lo_le)
        have HBW := Lib.hid hBw; have HB := Lib.hid hB
        clear hBw hp hq hB
        have hjc : j < 3 ∨ j = 3 := by omega
        rcases hjc with hlt | rfl
        · have j0 : (0 : Int) ≤ (j : Int) := by omega
          have j1 : (j : Int) < 3 := by omega
          by_cases hjt : j = tn
          · subst hjt
            have d0 : ((j : Int) != (j : Int)) = false := by simp
            clear GR GR'
            go_wp2_with fail
            apply wp_region_rg (by kernel_rfl) (false :: false :: false :: false :: false :: false :: false :: false :: false :: false :: false :: false :: false :: false :: false :: false :: false :: false :: false :: false :: false :: false :: false :: false :: false :: false :: false :: false :: false :: false :: false :: false :: false :: false :: false :: false :: false :: false :: false :: false :: false :: false :: false :: false :: false :: false :: false :: false :: false :: false :: true :: true :: true :: true :: true :: true :: true :: true :: true :: true :: true :: true :: true :: true :: true :: true :: true :: false :: false :: false :: false :: false :: false :: false :: false :: false :: false :: []) (some 50 :: some 51 :: some 52 :: some 53 :: some 54 :: some 55 :: some 56 :: some 57 :: some 58 :: some 59 :: some 60 :: some 61 :: some 62 :: some 63 :: some 64 :: some 65 :: some 66 :: []) ([] :: [] :: [0, 1] :: [2] :: [3] :: [3, 4] :: [3] :: [3, 5, 6] :: [3, 7] :: [3] :: [3, 9] :: [3] :: [3, 10, 11] :: [3, 12] :: [3, 8, 13] :: [3, 14] :: [3, 15] :: []) (StP.is _ :: StP.is _ :: StP.is _ :: StP.is _ :: StP.is _ :: StP.is _ :: StP.is _ :: StP.is _ :: StP.is _ :: StP.is _ :: StP.is _ :: StP.is _ :: StP.is _ :: StP.is _ :: StP.is _ :: StP.is _ :: StP.is _ :: []) (by kernel_rfl)
            case hobs =>
              refine ⟨fun y w' hS hF K hK => ?_, ?_⟩
              · skip -- 0: move
                simp only [fillL, cond_true, cond_false, List.getD_cons_zero, List.getD_cons_succ, StP.is, Act.put, List.setIfInBounds_toArray, List.set_cons_zero, List.set_cons_succ, Nat.reduceAdd] at hK ⊢
                refine rg_yes (by kernel_rfl) ?_
                clear hF
                go_simp
                exact hK _ _ (Ext.refl _) rfl
              refine ⟨fun y w' hS hF K hK => ?_, ?_⟩
              · skip -- 1: move
                simp only [fillL, cond_true, cond_false, List.getD_cons_zero, List.getD_cons_succ, StP.is, Act.put, List.setIfInBounds_toArray, List.set_cons_zero, List.set_cons_succ, Nat.reduceAdd] at hK ⊢
                refine rg_yes (by kernel_rfl) ?_
                clear hF
                go_simp
                exact hK _ _ (Ext.refl _) rfl
              refine ⟨fun y w' hS hF K hK => ?_, ?_⟩
              · skip -- 2: binOp
                have e50 : y 50 = _ := hF.1
                have e51 : y 51 = _ := hF.2.1
                simp only [fillL, cond_true, cond_false, List.getD_cons_zero, List.getD_cons_succ, StP.is, Act.put, List.setIfInBounds_toArray, List.set_cons_zero, List.set_cons_succ, Nat.reduceAdd, e50, e51] at hK ⊢
                refine rg_yes (by kernel_rfl) ?_
                clear e50 e51
                clear hF
                go_simp
                try simp only [d0]
                exact hK _ _ (Ext.refl _) rfl
              refine ⟨fun y w' hS hF K hK => ?_, ?_⟩
              · skip -- 3: move
                have e52 : y 52 = _ := hF.1
                simp only [fillL, cond_true, cond_false, List.getD_cons_zero, List.getD_cons_succ, StP.is, Act.put, List.setIfInBounds_toArray, List.set_cons_zero, List.set_cons_succ, Nat.reduceAdd, e52] at hK ⊢
                refine rg_yes (by kernel_rfl) ?_
                clear e52
                clear hF
                go_simp
                exact hK _ _ (Ext.refl _) rfl
              refine ⟨fun y w' hS hF K hK => ?_, ?_⟩
              · skip -- 4: fieldAddr
                have e53 : y 53 = _ := hF.1
                simp only [fillL, cond_true, cond_false, List.getD_cons_zero, List.getD_cons_succ, StP.is, Act.put, List.setIfInBounds_toArray, List.set_cons_zero, List.set_cons_succ, Nat.reduceAdd, e53] at hK ⊢
                refine rg_no (by kernel_rfl) ?_
                exact hK _ _ (Ext.refl _) rfl
              refine ⟨fun y w' hS hF K hK => ?_, ?_⟩
              · skip -- 5: load
                have e53 : y 53 = _ := hF.1
                have e54 : y 54 = _ := hF.2.1
                simp only [fillL, cond_true, cond_false, List.getD_cons_zero, List.getD_cons_succ, StP.is, Act.put, List.setIfInBounds_toArray, List.set_cons_zero, List.set_cons_succ, Nat.reduceAdd, e53, e54] at hK ⊢
                refine rg_no (by kernel_rfl) ?_
                exact hK _ _ (Ext.refl _) rfl
              refine ⟨fun y w' hS hF K hK => ?_, ?_⟩
              · skip -- 6: move
                have e53 : y 53 = _ := hF.1
                simp only [fillL, cond_true, cond_false, List.getD_cons_zero, List.getD_cons_succ, StP.is, Act.put, List.setIfInBounds_toArray, List.set_cons_zero, List.set_cons_succ, Nat.reduceAdd, e53] at hK ⊢
                refine rg_no (by kernel_rfl) ?_
                exact hK _ _ (Ext.refl _) rfl
              refine ⟨fun y w' hS hF K hK => ?_, ?_⟩
              · skip -- 7: indexAddr
                have e53 : y 53 = _ := hF.1
                have e55 : y 55 = _ := hF.2.1
                have e56 : y 56 = _ := hF.2.2.1
                simp only [fillL, cond_true, cond_false, List.getD_cons_zero, List.getD_cons_succ, StP.is, Act.put, List.setIfInBounds_toArray, List.set_cons_zero, List.set_cons_succ, Nat.reduceAdd, e53, e55, e56] at hK ⊢
                refine rg_no (by kernel_rfl) ?_
                exact hK _ _ (Ext.refl _) rfl
              refine ⟨fun y w' hS hF K hK => ?_, ?_⟩
              · skip -- 8: load
                have e53 : y 53 = _ := hF.1
                have e57 : y 57 = _ := hF.2.1
                simp only [fillL, cond_true, cond_false, List.getD_cons_zero, List.getD_cons_succ, StP.is, Act.put, List.setIfInBounds_toArray, List.set_cons_zero, List.set_cons_succ, Nat.reduceAdd, e53, e57] at hK ⊢
                refine rg_no (by kernel_rfl) ?_
                exact hK _ _ (Ext.refl _) rfl
              refine ⟨fun y w' hS hF K hK => ?_, ?_⟩
              · skip -- 9: fieldAddr
                have e53 : y 53 = _ := hF.1
                simp only [fillL, cond_true, cond_false, List.getD_cons_zero, List.getD_cons_succ, StP.is, Act.put, List.setIfInBounds_toArray, List.set_cons_zero, List.set_cons_succ, Nat.reduceAdd, e53] at hK ⊢
                refine rg_no (by kernel_rfl) ?_
                exact hK _ _ (Ext.refl _) rfl
              refine ⟨fun y w' hS hF K hK => ?_, ?_⟩
              · skip -- 10: load
                have e53 : y 53 = _ := hF.1
                have e59 : y 59 = _ := hF.2.1
                simp only [fillL, cond_true, cond_false, List.getD_cons_zero, List.getD_cons_succ, StP.is, Act.put, List.setIfInBounds_toArray, List.set_cons_zero, List.set_cons_succ, Nat.reduceAdd, e53, e59] at hK ⊢
                refine rg_no (by kernel_rfl) ?_
                exact hK _ _ (Ext.refl _) rfl
              refine ⟨fun y w' hS hF K hK => ?_, ?_⟩
              · skip -- 11: move
                have e53 : y 53 = _ := hF.1
                simp only [fillL, cond_true, cond_false, List.getD_cons_zero, List.getD_cons_succ, StP.is, Act.put, List.setIfInBounds_toArray, List.set_cons_zero, List.set_cons_succ, Nat.reduceAdd, e53] at hK ⊢
                refine rg_no (by kernel_rfl) ?_
                exact hK _ _ (Ext.refl _) rfl
              refine ⟨fun y w' hS hF K hK => ?_, ?_⟩
              · skip -- 12: indexAddr
                have e53 : y 53 = _ := hF.1
                have e60 : y 60 = _ := hF.2.1
                have e61 : y 61 = _ := hF.2.2.1
                simp only [fillL, cond_true, cond_false, List.getD_cons_zero, List.getD_cons_succ, StP.is, Act.put, List.setIfInBounds_toArray, List.set_cons_zero, List.set_cons_succ, Nat.reduceAdd, e53, e60, e61] at hK ⊢
                refine rg_no (by kernel_rfl) ?_
                exact hK _ _ (Ext.refl _) rfl
              refine ⟨fun y w' hS hF K hK => ?_, ?_⟩
              · skip -- 13: load
                have e53 : y 53 = _ := hF.1
                have e62 : y 62 = _ := hF.2.1
                simp only [fillL, cond_true, cond_false, List.getD_cons_zero, List.getD_cons_succ, StP.is, Act.put, List.setIfInBounds_toArray, List.set_cons_zero, List.set_cons_succ, Nat.reduceAdd, e53, e62] at hK ⊢
                refine rg_no (by kernel_rfl) ?_
                exact hK _ _ (Ext.refl _) rfl
              refine ⟨fun y w' hS hF K hK => ?_, ?_⟩
              · skip -- 14: call
                have e53 : y 53 = _ := hF.1
                have e58 : y 58 = _ := hF.2.1
                have e63 : y 63 = _ := hF.2.2.1
                simp only [fillL, cond_true, cond_false, List.getD_cons_zero, List.getD_cons_succ, StP.is, Act.put, List.setIfInBounds_toArray, List.set_cons_zero, List.set_cons_succ, Nat.reduceAdd, e53, e58, e63] at hK ⊢
                refine rg_no (by kernel_rfl) ?_
                exact hK _ _ (Ext.refl _) rfl
              refine ⟨fun y w' hS hF K hK => ?_, ?_⟩
              · skip -- 15: unOp
                have e53 : y 53 = _ := hF.1
                have e64 : y 64 = _ := hF.2.1
                simp only [fillL, cond_true, cond_false, List.getD_cons_zero, List.getD_cons_succ, StP.is, Act.put, List.setIfInBounds_toArray, List.set_cons_zero, List.set_cons_succ, Nat.reduceAdd, e53, e64] at hK ⊢
                refine rg_no (by kernel_rfl) ?_
                exact hK _ _ (Ext.refl _) rfl
              refine ⟨fun y w' hS hF K hK => ?_, ?_⟩
              · skip -- 16: pick
                have e53 : y 53 = _ := hF.1
                have e65 : y 65 = _ := hF.2.1
                simp only [fillL, cond_true, cond_false, List.getD_cons_zero, List.getD_cons_succ, StP.is, Act.put, List.setIfInBounds_toArray, List.set_cons_zero, List.set_cons_succ, Nat.reduceAdd, e53, e65] at hK ⊢
                refine rg_yes (by kernel_rfl) ?_
                clear e53 e65
                clear hF
                go_simp
                exact hK _ _ (Ext.refl _) rfl
              trivial
            case hend =>
              intro y w7 hX hF
              have e66 : y 66 = _ := hF.2.2.2.2.2.2.2.2.2.2.2.2.2.2.2.2.1
              clear hF
              simp only [fillL, cond_true, cond_false, Nat.reduceAdd, e66]
              clear e66
              have hB7 : Below w6.heap.size w6 w7 := HB.out.trans (Below.mono hX HB.out.size)
              clear hX HB
              go_wp2_with fail
              go_roundw
              case rel => exact ⟨j + 1, by omega, by go_num, hB7⟩
              case measure => simp [RowKit.intOf]; omega
          · have d0 : ((j : Int) != (tn : Int)) = true := by simp; omega
            obtain ⟨dd, hx⟩ : ∃ dd, x[j]? = some dd := ⟨x[j]'(by rw [HLEN.out]; exact hlt), List.getElem?_eq_getElem _⟩
            have hxl := (HXO.out j hjt).trans hx
            have HI := GR.lo_le; have HI' := GR'.lo_le
            obtain ⟨b, off, v0, v1, v2, rfl, bl, q0, q1, q2, hr, -⟩ := raid_at GR hxl
            obtain ⟨b', off', u0, u1, u2, rfl, bl', r0, r1, r2, hr', -⟩ := raid_at GR' hx
            have HR := Lib.hid hr; have HR' := Lib.hid hr'
            clear hx hxl GR GR' hr hr'
            go_wp2_with fail
            apply wp_region_rg (by kernel_rfl) (false :: false :: false :: false :: false :: false :: false :: false :: false :: false :: false :: false :: false :: false :: false :: false :: false :: false :: false :: false :: false :: false :: false :: false :: false :: false :: false :: false :: false :: false :: false :: false :: false :: false :: false :: false :: false :: false :: false :: false :: false :: false :: false :: false :: false :: false :: false :: false :: false :: false :: true :: true :: true :: true :: true :: true :: true :: true :: true :: true :: true :: true :: true :: true :: true :: true :: true :: false :: false :: false :: false :: false :: false :: false :: false :: false :: false :: []) (some 50 :: some 51 :: some 52 :: some 53 :: some 54 :: some 55 :: some 56 :: some 57 :: some 58 :: some 59 :: some 60 :: some 61 :: some 62 :: some 63 :: some 64 :: some 65 :: some 66 :: []) ([] :: [] :: [0, 1] :: [2] :: [3] :: [3, 4] :: [3] :: [3, 5, 6] :: [3, 7] :: [3] :: [3, 9] :: [3] :: [3, 10, 11] :: [3, 12] :: [3, 8, 13] :: [3, 14] :: [3, 15] :: []) (StP.is _ :: StP.is _ :: StP.is _ :: StP.is _ :: StP.is _ :: StP.is _ :: StP.is _ :: StP.is _ :: StP.is _ :: StP.is _ :: StP.is _ :: StP.is _ :: StP.is _ :: StP.is _ :: StP.is _ :: StP.is _ :: StP.is _ :: []) (by kernel_rfl)
            case hobs =>
              refine ⟨fun y w' hS hF K hK => ?_, ?_⟩
              · skip -- 0: move
                simp only [fillL, cond_true, cond_false, List.getD_cons_zero, List.getD_cons_succ, StP.is, Act.put, List.setIfInBounds_toArray, List.set_cons_zero, List.set_cons_succ, Nat.reduceAdd] at hK ⊢
                refine rg_yes (by kernel_rfl) ?_
                clear hF
                go_simp
                exact hK _ _ (Ext.refl _) rfl
              refine ⟨fun y w' hS hF K hK => ?_, ?_⟩
              · skip -- 1: move
                simp only [fillL, cond_true, cond_false, List.getD_cons_zero, List.getD_cons_succ, StP.is, Act.put, List.setIfInBounds_toArray, List.set_cons_zero, List.set_cons_succ, Nat.reduceAdd] at hK ⊢
                refine rg_yes (by kernel_rfl) ?_
                clear hF
                go_simp
                exact hK _ _ (Ext.refl _) rfl
              refine ⟨fun y w' hS hF K hK => ?_, ?_⟩
              · skip -- 2: binOp
                have e50 : y 50 = _ := hF.1
                have e51 : y 51 = _ := hF.2.1
                simp only [fillL, cond_true, cond_false, List.getD_cons_zero, List.getD_cons_succ, StP.is, Act.put, List.setIfInBounds_toArray, List.set_cons_zero, List.set_cons_succ, Nat.reduceAdd, e50, e51] at hK ⊢
                refine rg_yes (by kernel_rfl) ?_
                clear e50 e51
                clear hF
                go_simp
                try simp only [d0]
                exact hK _ _ (Ext.refl _) rfl
              refine ⟨fun y w' hS hF K hK => ?_, ?_⟩
              · skip -- 3: move
                have e52 : y 52 = _ := hF.1
                simp only [fillL, cond_true, cond_false, List.getD_cons_zero, List.getD_cons_succ, StP.is, Act.put, List.setIfInBounds_toArray, List.set_cons_zero, List.set_cons_succ, Nat.reduceAdd, e52] at hK ⊢
                refine rg_yes (by kernel_rfl) ?_
                clear e52
                clear hF
                go_simp
                exact hK _ _ (Ext.refl _) rfl
              refine ⟨fun y w' hS hF K hK => ?_, ?_⟩
              · skip -- 4: fieldAddr
                have e53 : y 53 = _ := hF.1
                simp only [fillL, cond_true, cond_false, List.getD_cons_zero, List.getD_cons_succ, StP.is, Act.put, List.setIfInBounds_toArray, List.set_cons_zero, List.set_cons_succ, Nat.reduceAdd, e53] at hK ⊢
                refine rg_yes (by kernel_rfl) ?_
                clear e53
                clear hF
                go_simp
                exact hK _ _ (Ext.refl _) rfl
              refine ⟨fun y w' hS hF K hK => ?_, ?_⟩
              · skip -- 5: load
                have e53 : y 53 = _ := hF.1
                have e54 : y 54 = _ := hF.2.1
                simp only [fillL, cond_true, cond_false, List.getD_cons_zero, List.getD_cons_succ, StP.is, Act.put, List.setIfInBounds_toArray, List.set_cons_zero, List.set_cons_succ, Nat.reduceAdd, e53, e54] at hK ⊢
                refine rg_yes (by kernel_rfl) ?_
                have qx0_ := (Below.cell hS l0).trans a0
                have qx1_ := (Below.cell hS l1).trans b0
                have qx2_ := (Below.cell hS bl).trans q0
                have qx3_ := (Below.cell hS bl).trans q1
                have qx4_ := (Below.cell hS bl).trans q2
                have qx5_ := (Below.cell hS bl').trans r0
                have qx6_ := (Below.cell hS bl').trans r1
                have qx7_ := (Below.cell hS bl').trans r2
                clear e53 e54
                clear hF
                go_simp
                exact hK _ _ (Ext.refl _) rfl
              refine ⟨fun y w' hS hF K hK => ?_, ?_⟩
              · skip -- 6: move
                have e53 : y 53 = _ := hF.1
                simp only [fillL, cond_true, cond_false, List.getD_cons_zero, List.getD_cons_succ, StP.is, Act.put, List.setIfInBounds_toArray, List.set_cons_zero, List.set_cons_succ, Nat.reduceAdd, e53] at hK ⊢
                refine rg_yes (by kernel_rfl) ?_
                clear e53
                clear hF
                go_simp
                exact hK _ _ (Ext.refl _) rfl
              refine ⟨fun y w' hS hF K hK => ?_, ?_⟩
              · skip -- 7: indexAddr
                have e53 : y 53 = _ := hF.1
                have e55 : y 55 = _ := hF.2.1
                have e56 : y 56 = _ := hF.2.2.1
                simp only [fillL, cond_true, cond_false, List.getD_cons_zero, List.getD_cons_succ, StP.is, Act.put, List.setIfInBounds_toArray, List.set_cons_zero, List.set_cons_succ, Nat.reduceAdd, e53, e55, e56] at hK ⊢
                refine rg_yes (by kernel_rfl) ?_
                clear e53 e55 e56
                clear hF
                go_simp
                exact hK _ _ (Ext.refl _) rfl
              refine ⟨fun y w' hS hF K hK => ?_, ?_⟩
              · skip -- 8: load
                have e53 : y 53 = _ := hF.1
                have e57 : y 57 = _ := hF.2.1
                simp only [fillL, cond_true, cond_false, List.getD_cons_zero, List.getD_cons_succ, StP.is, Act.put, List.setIfInBounds_toArray, List.set_cons_zero, List.set_cons_succ, Nat.reduceAdd, e53, e57] at hK ⊢
                refine rg_yes (by kernel_rfl) ?_
                have qx0_ := (Below.cell hS l0).trans a0
                have qx1_ := (Below.cell hS l1).trans b0
                have qx2_ := (Below.cell hS bl).trans q0
                have qx3_ := (Below.cell hS bl).trans q1
                have qx4_ := (Below.cell hS bl).trans q2
                have qx5_ := (Below.cell hS bl').trans r0
                have qx6_ := (Below.cell hS bl').trans r1
                have qx7_ := (Below.cell hS bl').trans r2
                clear e53 e57
                clear hF
                go_simp
                exact hK _ _ (Ext.refl _) rfl
              refine ⟨fun y w' hS hF K hK => ?_, ?_⟩
              · skip -- 9: fieldAddr
                have e53 : y 53 = _ := hF.1
                simp only [fillL, cond_true, cond_false, List.getD_cons_zero, List.getD_cons_succ, StP.is, Act.put, List.setIfInBounds_toArray, List.set_cons_zero, List.set_cons_succ, Nat.reduceAdd, e53] at hK ⊢
                refine rg_yes (by kernel_rfl) ?_
                clear e53
                clear hF
                go_simp
                exact hK _ _ (Ext.refl _) rfl
              refine ⟨fun y w' hS hF K hK => ?_, ?_⟩
              · skip -- 10: load
                have e53 : y 53 = _ := hF.1
                have e59 : y 59 = _ := hF.2.1
                simp only [fillL, cond_true, cond_false, List.getD_cons_zero, List.getD_cons_succ, StP.is, Act.put, List.setIfInBounds_toArray, List.set_cons_zero, List.set_cons_succ, Nat.reduceAdd, e53, e59] at hK ⊢
                refine rg_yes (by kernel_rfl) ?_
                have qx0_ := (Below.cell hS l0).trans a0
                have qx1_ := (Below.cell hS l1).trans b0
                have qx2_ := (Below.cell hS bl).trans q0
                have qx3_ := (Below.cell hS bl).trans q1
                have qx4_ := (Below.cell hS bl).trans q2
                have qx5_ := (Below.cell hS bl').trans r0
                have qx6_ := (Below.cell hS bl').trans r1
                have qx7_ := (Below.cell hS bl').trans r2
                clear e53 e59
                clear hF
                go_simp
                exact hK _ _ (Ext.refl _) rfl
              refine ⟨fun y w' hS hF K hK => ?_, ?_⟩
              · skip -- 11: move
                have e53 : y 53 = _ := hF.1
                simp only [fillL, cond_true, cond_false, List.getD_cons_zero, List.getD_cons_succ, StP.is, Act.put, List.setIfInBounds_toArray, List.set_cons_zero, List.set_cons_succ, Nat.reduceAdd, e53] at hK ⊢
                refine rg_yes (by kernel_rfl) ?_
                clear e53
                clear hF
                go_simp
                exact hK _ _ (Ext.refl _) rfl
              refine ⟨fun y w' hS hF K hK => ?_, ?_⟩
              · skip -- 12: indexAddr
                have e53 : y 53 = _ := hF.1
                have e60 : y 60 = _ := hF.2.1
                have e61 : y 61 = _ := hF.2.2.1
                simp only [fillL, cond_true, cond_false, List.getD_cons_zero, List.getD_cons_succ, StP.is, Act.put, List.setIfInBounds_toArray, List.set_cons_zero, List.set_cons_succ, Nat.reduceAdd, e53, e60, e61] at hK ⊢
                refine rg_yes (by kernel_rfl) ?_
                clear e53 e60 e61
                clear hF
                go_simp
                exact hK _ _ (Ext.refl _) rfl
              refine ⟨fun y w' hS hF K hK => ?_, ?_⟩
              · skip -- 13: load
                have e53 : y 53 = _ := hF.1
                have e62 : y 62 = _ := hF.2.1
                simp only [fillL, cond_true, cond_false, List.getD_cons_zero, List.getD_cons_succ, StP.is, Act.put, List.setIfInBounds_toArray, List.set_cons_zero, List.set_cons_succ, Nat.reduceAdd, e53, e62] at hK ⊢
                refine rg_yes (by kernel_rfl) ?_
                have qx0_ := (Below.cell hS l0).trans a0
                have qx1_ := (Below.cell hS l1).trans b0
                have qx2_ := (Below.cell hS bl).trans q0
                have qx3_ := (Below.cell hS bl).trans q1
                have qx4_ := (Below.cell hS bl).trans q2
                have qx5_ := (Below.cell hS bl').trans r0
                have qx6_ := (Below.cell hS bl').trans r1
                have qx7_ := (Below.cell hS bl').trans r2
                clear e53 e62
                clear hF
                go_simp
                exact hK _ _ (Ext.refl _) rfl
              refine ⟨fun y w' hS hF K hK => ?_, ?_⟩
              · skip -- 14: call
                have e53 : y 53 = _ := hF.1
                have e58 : y 58 = _ := hF.2.1
                have e63 : y 63 = _ := hF.2.2.1
                simp only [fillL, cond_true, cond_false, List.getD_cons_zero, List.getD_cons_succ, StP.is, Act.put, List.setIfInBounds_toArray, List.set_cons_zero, List.set_cons_succ, Nat.reduceAdd, e53, e58, e63] at hK ⊢
                refine rg_yes (by kernel_rfl) ?_
                clear e53 e58 e63
                clear hF
                go_simp
                go_at_call 14
                refine (pfDisk_yes [v0, v1, v2] [u0, u1, u2] dd _ _ _ _ _ (DiskR.below hS HI _ _ HR.out) (DiskR.below hS HI' _ _ HR'.out)).mono ?_
                rintro e w'' ⟨rfl, hb⟩
                exact hK _ _ hb rfl
              refine ⟨fun y w' hS hF K hK => ?_, ?_⟩
              · skip -- 15: unOp
                have e53 : y 53 = _ := hF.1
                have e64 : y 64 = _ := hF.2.1
                simp only [fillL, cond_true, cond_false, List.getD_cons_zero, List.getD_cons_succ, StP.is, Act.put, List.setIfInBounds_toArray, List.set_cons_zero, List.set_cons_succ, Nat.reduceAdd, e53, e64] at hK ⊢
                refine rg_yes (by kernel_rfl) ?_
                clear e53 e64
                clear hF
                go_simp
                exact hK _ _ (Ext.refl _) rfl
              refine ⟨fun y w' hS hF K hK => ?_, ?_⟩
              · skip -- 16: pick
                have e53 : y 53 = _ := hF.1
                have e65 : y 65 = _ := hF.2.1
                simp only [fillL, cond_true, cond_false, List.getD_cons_zero, List.getD_cons_succ, StP.is, Act.put, List.setIfInBounds_toArray, List.set_cons_zero, List.set_cons_succ, Nat.reduceAdd, e53, e65] at hK ⊢
                refine rg_yes (by kernel_rfl) ?_
                clear e53 e65
                clear hF
                go_simp
                exact hK _ _ (Ext.refl _) rfl
              trivial
            case hend =>
              intro y w7 hX hF
              have e66 : y 66 = _ := hF.2.2.2.2.2.2.2.2.2.2.2.2.2.2.2.2.1
              clear hF
              simp only [fillL, cond_true, cond_false, Nat.reduceAdd, e66]
              clear e66
              have hB7 : Below w6.heap.size w6 w7 := HB.out.trans (Below.mono hX HB.out.size)
              clear hX HB
              go_wp2_with fail
              go_roundw
              case rel => exact ⟨j + 1, by omega, by go_num, hB7⟩
              case measure => simp [RowKit.intOf]; omega
        · have j1 : ¬ ((3 : Nat) : Int) < 3 := by omega
          have t0 : (0 : Int) ≤ (tn : Int) := by omega
          have t1 : (tn : Int) < 3 := by omega
          obtain ⟨b, off, v0, v1, v2, rfl, bl, q0, q1, q2, hr, rfl⟩ := raid_at GR HXT.out
          have HG := Lib.hid GR
          have HI := GR.lo_le
          clear GR GR' hr
          go_wp2_with fail
          refine (raidOk_any [.slice (some ⟨b, off, none⟩) 3 c2] xl _ _ _ ⟨_, _, _, rfl, HG.out⟩).mono ?_
          rintro e w7 ⟨rfl, hb7⟩
          rw [HOKL.out]
          go_wp2_with fail
          go_ret
          exact ⟨by first | rfl | (simp [results, go_sem]) | (simp [results, go_sem, loseD]), HBW.out.trans (hb7.mono HBW.out.size)⟩
  · go_enter Try.func4, Try.ntmps4
    go_wp2_with fail
    go_ret
    exact ⟨rfl, Below.refl _ _⟩
end Go.Proofs.Ytfokpjoeankobaa
