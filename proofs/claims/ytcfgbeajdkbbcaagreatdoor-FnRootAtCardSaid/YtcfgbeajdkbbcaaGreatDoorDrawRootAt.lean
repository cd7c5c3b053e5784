/- DrawRootAt. No condition. -/
import Derived.Test.YtcfgbeajdkbbcaaGreatDoorDraw93
import Derived.Test.YtcfgbeajdkbbcaaGreatDoorRootList
namespace Go.Proofs.YtcfgbeajdkbbcaaGreatDoor
set_option linter.unnecessarySimpa false
open Go Go.Lib Go.RowKit
set_option linter.unusedVariables false
set_option linter.unusedSimpArgs false

def DrawnAt (w : World) (e : Ending) (w' : World) : Prop := ∃ (g c3 : Nat) (x : RaidD) (row : Int), e = .returned (.tuple #[.agg #[.slice (some ⟨g, 0, none⟩) 3 c3], .int .i64 row]) ∧ RaidR w' w.heap.size w'.heap.size [.slice (some ⟨g, 0, none⟩) 3 c3] x ∧ Below w.heap.size w w'
/-- What stays while the reader turns. -/
structure StayAt (w : World) (bx g c3 lo hi B : Nat) (x : RaidD) (A4 : Option Addr) (c4 : Nat) (S4 : List Nat) (ys : List RootD) (w' : World) : Prop where
  below : Below w.heap.size w w'
  box : w'.heap[bx]? = some (.cells #[.slice (some ⟨g, 0, none⟩) 3 c3] 36 (0, 0))
  raid : hi ≤ w'.heap.size ∧ RaidR w' lo hi [.slice (some ⟨g, 0, none⟩) 3 c3] x
  roots : RootsAt B A4 c4 S4 ys w'
theorem StayAt.step {w : World} {T : List Nat} {bx g c3 lo hi B : Nat} {x : RaidD} {A4 : Option Addr} {c4 : Nat} {S4 : List Nat} {ys : List RootD} {w1 w2 : World} (h : StayAt w bx g c3 lo hi B x A4 c4 S4 ys w1) (hc : Chg (· ∈ T) w1 w2) (h1 : ∀ b ∈ T, w.heap.size ≤ b ∧ b < lo ∧ b < B ∧ b ≠ bx) : StayAt w bx g c3 lo hi B x A4 c4 S4 ys w2 :=
  ⟨h.below.trans (hc.below (B := w.heap.size) (fun k _ hk => (h1 k hk).1) h.below.size), (hc.block _ (Array.getElem?_eq_some_iff.1 h.box).1 (fun hm => (h1 _ hm).2.2.2 rfl)).trans h.box, ⟨Nat.le_trans h.raid.1 hc.size, RaidR.keep (fun b b1 b2 => hc.block b (by have := h.raid.1; omega) (fun hm => by have := (h1 _ hm).2.1; omega)) hc.size _ _ h.raid.2⟩, h.roots.chg hc (fun g hg hm => by have := h.roots.2 g hg; have := (h1 _ hm).2.2.1; omega)⟩
set_option maxRecDepth 100000 in
set_option maxHeartbeats 8000000 in
theorem drawRootAt_any (A : Option Addr) (n c : Nat) (zs : List Int) (w : World) (h : BytesIn w A n c zs) : Calls Tryz.prog 13 #[.slice A n c] w (DrawnAt w) := by
  go_enter Tryz.func13, Tryz.ntmps13
  go_wp2_with fail
  refine (l6Open_any A n c zs _ ?_).mono ?_
  · exact BytesIn.deep h ((Below.refl _ _).alloc (Nat.le_refl _) _)
  rintro e w1 ⟨m', c', ys', rfl, hr, hb1⟩
  have s1 := hb1.size
  have hp1 := hr.2.2.2.1
  have res1 : w1.heap[w.heap.size]? = some (.cells #[.slice none 0 0] 36 (0, 0)) := (hb1.block _ (by simp)).trans (heap_alloc_new _ _)
  simp at s1 hr hp1
  have hb2 : Below w.heap.size w w1 := ((Below.refl _ _).alloc (Nat.le_refl _) _).trans (hb1.mono (by simp))
  clear hb1
  go_wp2_with fail
  refine (l93Roots_any w1 _ A m' c' ys' 0 hr (by omega)).mono ?_
  rintro e w2 ⟨g, c3, x, k1, rfl, hx, hk1, rd2, hc2⟩
  have HB2 : Hid (Below w.heap.size w w2) := Lib.hid (hb2.trans (hc2.below (fun k _ hk => by simp at hk; omega) hb2.size))
  have res2 := (hc2.block w.heap.size (by omega) (by simp)).trans res1
  have z2 := hc2.size
  have HX2 := Lib.hid hx
  clear hx hc2 hb2 res1 hr
  go_wp2_with fail
  refine (spRootList_any _ x _ w1.heap.size w2.heap.size (RaidR.below bel1 (Nat.le_refl _) _ _ HX2.out)).mono ?_
  rintro e w3 ⟨A4, c4, S4, ys, rfl, hRA, hRT, hb3⟩
  have hl4 := hRA.len
  have z3 := hb3.size
  simp at z3 hRT
  have HST : Hid (StayAt w w2.heap.size g c3 w1.heap.size w2.heap.size (w2.heap.size + 1) x A4 c4 S4 ys w3) := Lib.hid ⟨(Below.alloc HB2.out HB2.out.size _).trans (hb3.mono (by have := HB2.out.size; simp; omega)), (hb3.block _ (by simp <;> omega)).trans (heap_alloc_new _ _), ⟨by omega, RaidR.below (bel1.trans (hb3.mono (by simp))) (Nat.le_refl _) _ _ HX2.out⟩, hRT⟩
  have HRES : Hid (w3.heap[w.heap.size]? = some (.cells #[.slice none 0 0] 36 (0, 0))) := Lib.hid ((hb3.block _ (by simp; omega)).trans ((Below.heap_alloc _ _ _ (by omega)).trans res2))
  have rd3 := Lib.hid ((rd2.below bel1).below hb3)
  have hT : ∀ b ∈ [(w.heap.size + 1)], w.heap.size ≤ b ∧ b < w1.heap.size ∧ b < w2.heap.size + 1 ∧ b ≠ w2.heap.size := by intro b hb; simp at hb; omega
  have hT2 : ∀ b ∈ [(w.heap.size + 1), w.heap.size], w.heap.size ≤ b ∧ b < w1.heap.size ∧ b < w2.heap.size + 1 ∧ b ≠ w2.heap.size := by intro b hb; simp at hb; omega
  have HT := Lib.hid hT; have HT2 := Lib.hid hT2
  clear hRA hRT hb3 rd2 res2 HX2 HB2 hT hT2
  by_cases h0 : 0 < ys.length
  rotate_left
  · have d0 : ¬ (0 : Int) < (ys.length : Int) := by omega
    go_wp2_with fail
    apply wp_region_rgz (Chg (· ∈ [(w.heap.size + 1), w.heap.size])) (Chg (· ∈ [(w.heap.size + 1)])) (fun y w' k' => (k' < 5000 → ∃ kq, kq ≤ k1 + k' ∧ Rd w' (w.heap.size + 1) A m' c' ys' kq) ∧ StayAt w w2.heap.size g c3 w1.heap.size w2.heap.size (w2.heap.size + 1) x A4 c4 S4 ys w' ∧ (k' < 5000 → w'.heap[w.heap.size]? = some (.cells #[.slice none 0 0] 36 (0, 0))) ∧ (5000 ≤ k' → w'.heap[w.heap.size]? = some (.cells #[.slice (some ⟨g, 0, none⟩) 3 c3] 36 (0, 0)))) [0, 0, 1, 0, 5000, 0] [5000, 0, 5000, 0, 5000, 0] (by kernel_rfl) (false :: false :: false :: true :: false :: false :: false :: false :: false :: false :: false :: false :: false :: false :: false :: false :: false :: false :: false :: false :: false :: false :: false :: false :: false :: false :: false :: false :: false :: false :: false :: true :: true :: true :: true :: []) [some 31, some 32, some 33, some 34, none, some 3] [[], [], [1], [2], [0], [3]] [false, false, false, false, true, false] [true, true, true, true, true, true] [5] [MStP.is _, MStP.is _, ⟨fun v _ => ∃ r : Nat, v = .int .i64 (r : Int) ∧ r < 6, true, fun _ _ _ _ h => h, fun _ _ _ _ _ h => h⟩, ⟨fun v _ => ∃ z : Int, v = .int .i64 z, true, fun _ _ _ _ h => h, fun _ _ _ _ _ h => h⟩, MStP.is _, ⟨fun v _ => ∃ z : Int, v = .int .i64 z, true, fun _ _ _ _ h => h, fun _ _ _ _ _ h => h⟩] (by kernel_rfl) (by kernel_rfl) (by kernel_rfl) (by kernel_rfl)
    case hobs =>
      refine ⟨fun y w' k hS hj hk hF K hK => ?_, ?_⟩
      · skip -- 0: load
        simp only [fillL, cond_true, cond_false, List.getD_cons_zero, List.getD_cons_succ, StP.is, Act.put, List.setIfInBounds_toArray, List.set_cons_zero, List.set_cons_succ, Nat.reduceAdd, MStP.is, Option.isSome_some, Option.isSome_none] at hK ⊢
        simp only [List.sum_cons, List.sum_nil, List.getD_cons_zero, List.getD_cons_succ, Nat.reduceAdd, Nat.add_zero] at hk
        refine rg_yes (by kernel_rfl) ?_
        clear hF
        have qb := cell_of_row _ _ 0 _ _ (0, 0) hj.2.1.box
        have lqb := (Array.getElem?_eq_some_iff.1 hj.2.1.box).1
        have HJ := Lib.hid hj; clear hj
        go_simp
        have hj := HJ.out
        exact hK _ _ (Chg.refl _ _) ⟨fun h => hj.1 (by omega), hj.2.1, fun h => hj.2.2.1 (by omega), fun h => hj.2.2.2 (by omega)⟩ rfl
      refine ⟨fun y w' k hS hj hk hF K hK => ?_, ?_⟩
      · skip -- 1: move
        simp only [fillL, cond_true, cond_false, List.getD_cons_zero, List.getD_cons_succ, StP.is, Act.put, List.setIfInBounds_toArray, List.set_cons_zero, List.set_cons_succ, Nat.reduceAdd, MStP.is, Option.isSome_some, Option.isSome_none] at hK ⊢
        simp only [List.sum_cons, List.sum_nil, List.getD_cons_zero, List.getD_cons_succ, Nat.reduceAdd, Nat.add_zero] at hk
        refine rg_yes (by kernel_rfl) ?_
        clear hF
        go_simp
        exact hK _ _ (Chg.refl _ _) ⟨fun h => hj.1 (by omega), hj.2.1, fun h => hj.2.2.1 (by omega), fun h => hj.2.2.2 (by omega)⟩ rfl
      refine ⟨fun y w' k hS hj hk hF K hK => ?_, ?_⟩
      · skip -- 2: call
        have e32 : y 32 = _ := hF.1
        have e32' := Lib.hid e32
        simp only [fillL, cond_true, cond_false, List.getD_cons_zero, List.getD_cons_succ, StP.is, Act.put, List.setIfInBounds_toArray, List.set_cons_zero, List.set_cons_succ, Nat.reduceAdd, e32, MStP.is, Option.isSome_some, Option.isSome_none] at hK ⊢
        simp only [List.sum_cons, List.sum_nil, List.getD_cons_zero, List.getD_cons_succ, Nat.reduceAdd, Nat.add_zero] at hk
        refine rg_yes (by kernel_rfl) ?_
        clear e32
        clear hF
        obtain ⟨hrd0, hst, hr0, hr1⟩ := hj
        obtain ⟨k1, hk1, hrd⟩ := hrd0 (by omega)
        have HST2 := Lib.hid hst; have HR0 := Lib.hid hr0; have HR1 := Lib.hid hr1; clear hst hr0 hr1
        go_simp
        go_at_call 35
        refine (pick_any w' (w.heap.size + 1) A m' c' ys' k1 6 hrd (by omega) (by omega) (by omega)).mono ?_
        rintro e w'' ⟨r, rfl, hr1, rd1, hc1, hz1⟩
        exact hK _ _ hc1 ⟨fun h => ⟨k1 + 1, by omega, rd1⟩, HST2.out.step hc1 HT.out, fun h => (hc1.block _ (Array.getElem?_eq_some_iff.1 (HR0.out (by omega))).1 (by simp <;> omega)).trans (HR0.out (by omega)), fun h => absurd h (by omega)⟩ ⟨r, rfl, by have := hr1 (by omega); omega⟩
      refine ⟨fun y w' k hS hj hk hF K hK => ?_, ?_⟩
      · skip -- 3: binOp
        obtain ⟨r, e33, hr3⟩ := hF.1
        have r30 : (0 : Int) ≤ (r : Int) := by omega
        have r31 : (r : Int) < (6 : Int) := by omega
        have e33' := Lib.hid e33
        simp only [fillL, cond_true, cond_false, List.getD_cons_zero, List.getD_cons_succ, StP.is, Act.put, List.setIfInBounds_toArray, List.set_cons_zero, List.set_cons_succ, Nat.reduceAdd, e33, MStP.is, Option.isSome_some, Option.isSome_none] at hK ⊢
        simp only [List.sum_cons, List.sum_nil, List.getD_cons_zero, List.getD_cons_succ, Nat.reduceAdd, Nat.add_zero] at hk
        refine rg_yes (by kernel_rfl) ?_
        clear e33
        clear hF
        go_simp
        exact hK _ _ (Chg.refl _ _) ⟨fun h => hj.1 (by omega), hj.2.1, fun h => hj.2.2.1 (by omega), fun h => hj.2.2.2 (by omega)⟩ ⟨_, rfl⟩
      refine ⟨fun y w' k hS hj hk hF K hK => ?_, ?_⟩
      · skip -- 4: store
        have e31 : y 31 = _ := hF.1
        have e31' := Lib.hid e31
        simp only [fillL, cond_true, cond_false, List.getD_cons_zero, List.getD_cons_succ, StP.is, Act.put, List.setIfInBounds_toArray, List.set_cons_zero, List.set_cons_succ, Nat.reduceAdd, e31, MStP.is, Option.isSome_some, Option.isSome_none] at hK ⊢
        simp only [List.sum_cons, List.sum_nil, List.getD_cons_zero, List.getD_cons_succ, Nat.reduceAdd, Nat.add_zero] at hk
        refine rg_yes (by kernel_rfl) ?_
        clear e31
        clear hF
        obtain ⟨-, hst, hr0, -⟩ := hj
        have hq := hr0 (by omega)
        have s0 := cell_of_row _ _ 0 _ _ (0, 0) hq
        have f0 := block_free hq 0
        have lq := (Array.getElem?_eq_some_iff.1 hq).1
        have HQ := Lib.hid hq; have HST2 := Lib.hid hst; clear hst hr0 hq
        go_simp
        refine hK undef _ ((Chg.refl _ _).setCell (p := ⟨w.heap.size, 0, none⟩) (.inl (by simp)) _) ⟨fun h => absurd h (by omega), ?_, fun h => absurd h (by omega), fun _ => block_set (o := 0) HQ.out⟩ rfl
        · exact HST2.out.step ((Chg.refl _ _).setCell (p := ⟨w.heap.size, 0, none⟩) (.inl (by simp)) _) HT2.out
      refine ⟨fun y w' k hS hj hk hF K hK => ?_, ?_⟩
      · skip -- 5: assign
        obtain ⟨zz, e34⟩ := hF.1
        have e34' := Lib.hid e34
        simp only [fillL, cond_true, cond_false, List.getD_cons_zero, List.getD_cons_succ, StP.is, Act.put, List.setIfInBounds_toArray, List.set_cons_zero, List.set_cons_succ, Nat.reduceAdd, e34, MStP.is, Option.isSome_some, Option.isSome_none] at hK ⊢
        simp only [List.sum_cons, List.sum_nil, List.getD_cons_zero, List.getD_cons_succ, Nat.reduceAdd, Nat.add_zero] at hk
        refine rg_yes (by kernel_rfl) ?_
        clear e34
        clear hF
        go_simp
        exact hK _ _ (Chg.refl _ _) ⟨fun h => hj.1 (by omega), hj.2.1, fun h => hj.2.2.1 (by omega), fun h => hj.2.2.2 (by omega)⟩ ⟨_, rfl⟩
      trivial
    case hH => rfl
    case hNS => exact fun _ _ h => h.mono (fun b _ hb => by simp at hb ⊢; exact .inl hb)
    case hSt => exact fun a b => Chg.trans a b
    case hb => rfl
    case hdrew => exact (Chg.refl _ _).drewN 1
    case hj0 => exact fun y => ⟨fun _ => ⟨_, Nat.le_add_right _ _, rd3.out.below (below_drewN (Below.refl _ _) 1)⟩, HST.out.step ((Chg.refl _ _).drewN 1) HT.out, fun _ => HRES.out, fun h => absurd h (by omega)⟩
    case hend =>
      intro y_ w9 hS hJ hF
      obtain ⟨z3_, e3⟩ := hF.1
      obtain ⟨-, hst, -, hr1⟩ := hJ
      have hq := hr1 (by decide)
      have t0 := cell_of_row _ _ 0 _ _ (0, 0) hq
      have HST9 := Lib.hid hst
      clear hF hS hst hr1 hq
      simp only [fillL, cond_true, cond_false, Nat.reduceAdd, e3]
      clear e3
      go_wp2_with fail
      refine bodyPost_ret (v := .tuple #[.agg #[.slice (some ⟨g, 0, none⟩) 3 c3], .int .i64 z3_]) (by simp [results, Tryz.results13, go_sem, t0]) rfl ⟨g, c3, x, z3_, rfl, ?_, HST9.out.below⟩
      exact RaidR.wide (by omega) HST9.out.raid.1 (Nat.le_refl _) _ _ HST9.out.raid.2
  have d0 : (0 : Int) < (ys.length : Int) := by omega
  go_wp2_with fail
  refine (pick_any w3 (w.heap.size + 1) A m' c' ys' k1 4 rd3.out (by omega) (by omega) (by omega)).mono ?_
  rintro e w4 ⟨qq, rfl, hqq, rd4, hc4, hz4⟩
  have HST4 := Lib.hid (HST.out.step hc4 HT.out)
  have HRES4 := Lib.hid ((hc4.block _ (Array.getElem?_eq_some_iff.1 HRES.out).1 (by simp <;> omega)).trans HRES.out)
  have RD4 := Lib.hid rd4
  clear hc4 hz4 rd4 HST HRES rd3
  by_cases h1 : 0 < qq
  rotate_left
  · have d1 : ¬ (0 : Int) < (qq : Int) := by omega
    have d2 : ¬ (1 : Int) ≤ (qq : Int) := by omega
    go_wp2_with fail
    apply wp_region_rgz (Chg (· ∈ [(w.heap.size + 1), w.heap.size])) (Chg (· ∈ [(w.heap.size + 1)])) (fun y w' k' => (k' < 5000 → ∃ kq, kq ≤ (k1 + 1) + k' ∧ Rd w' (w.heap.size + 1) A m' c' ys' kq) ∧ StayAt w w2.heap.size g c3 w1.heap.size w2.heap.size (w2.heap.size + 1) x A4 c4 S4 ys w' ∧ (k' < 5000 → w'.heap[w.heap.size]? = some (.cells #[.slice none 0 0] 36 (0, 0))) ∧ (5000 ≤ k' → w'.heap[w.heap.size]? = some (.cells #[.slice (some ⟨g, 0, none⟩) 3 c3] 36 (0, 0)))) [0, 0, 1, 0, 5000, 0] [5000, 0, 5000, 0, 5000, 0] (by kernel_rfl) (false :: false :: false :: true :: false :: false :: false :: false :: false :: false :: false :: false :: false :: false :: false :: false :: false :: false :: false :: false :: false :: false :: false :: false :: false :: false :: false :: false :: false :: false :: false :: true :: true :: true :: true :: []) [some 31, some 32, some 33, some 34, none, some 3] [[], [], [1], [2], [0], [3]] [false, false, false, false, true, false] [true, true, true, true, true, true] [5] [MStP.is _, MStP.is _, ⟨fun v _ => ∃ r : Nat, v = .int .i64 (r : Int) ∧ r < 6, true, fun _ _ _ _ h => h, fun _ _ _ _ _ h => h⟩, ⟨fun v _ => ∃ z : Int, v = .int .i64 z, true, fun _ _ _ _ h => h, fun _ _ _ _ _ h => h⟩, MStP.is _, ⟨fun v _ => ∃ z : Int, v = .int .i64 z, true, fun _ _ _ _ h => h, fun _ _ _ _ _ h => h⟩] (by kernel_rfl) (by kernel_rfl) (by kernel_rfl) (by kernel_rfl)
    case hobs =>
      refine ⟨fun y w' k hS hj hk hF K hK => ?_, ?_⟩
      · skip -- 0: load
        simp only [fillL, cond_true, cond_false, List.getD_cons_zero, List.getD_cons_succ, StP.is, Act.put, List.setIfInBounds_toArray, List.set_cons_zero, List.set_cons_succ, Nat.reduceAdd, MStP.is, Option.isSome_some, Option.isSome_none] at hK ⊢
        simp only [List.sum_cons, List.sum_nil, List.getD_cons_zero, List.getD_cons_succ, Nat.reduceAdd, Nat.add_zero] at hk
        refine rg_yes (by kernel_rfl) ?_
        clear hF
        have qb := cell_of_row _ _ 0 _ _ (0, 0) hj.2.1.box
        have lqb := (Array.getElem?_eq_some_iff.1 hj.2.1.box).1
        have HJ := Lib.hid hj; clear hj
        go_simp
        have hj := HJ.out
        exact hK _ _ (Chg.refl _ _) ⟨fun h => hj.1 (by omega), hj.2.1, fun h => hj.2.2.1 (by omega), fun h => hj.2.2.2 (by omega)⟩ rfl
      refine ⟨fun y w' k hS hj hk hF K hK => ?_, ?_⟩
      · skip -- 1: move
        simp only [fillL, cond_true, cond_false, List.getD_cons_zero, List.getD_cons_succ, StP.is, Act.put, List.setIfInBounds_toArray, List.set_cons_zero, List.set_cons_succ, Nat.reduceAdd, MStP.is, Option.isSome_some, Option.isSome_none] at hK ⊢
        simp only [List.sum_cons, List.sum_nil, List.getD_cons_zero, List.getD_cons_succ, Nat.reduceAdd, Nat.add_zero] at hk
        refine rg_yes (by kernel_rfl) ?_
        clear hF
        go_simp
        exact hK _ _ (Chg.refl _ _) ⟨fun h => hj.1 (by omega), hj.2.1, fun h => hj.2.2.1 (by omega), fun h => hj.2.2.2 (by omega)⟩ rfl
      refine ⟨fun y w' k hS hj hk hF K hK => ?_, ?_⟩
      · skip -- 2: call
        have e32 : y 32 = _ := hF.1
        have e32' := Lib.hid e32
        simp only [fillL, cond_true, cond_false, List.getD_cons_zero, List.getD_cons_succ, StP.is, Act.put, List.setIfInBounds_toArray, List.set_cons_zero, List.set_cons_succ, Nat.reduceAdd, e32, MStP.is, Option.isSome_some, Option.isSome_none] at hK ⊢
        simp only [List.sum_cons, List.sum_nil, List.getD_cons_zero, List.getD_cons_succ, Nat.reduceAdd, Nat.add_zero] at hk
        refine rg_yes (by kernel_rfl) ?_
        clear e32
        clear hF
        obtain ⟨hrd0, hst, hr0, hr1⟩ := hj
        obtain ⟨k1, hk1, hrd⟩ := hrd0 (by omega)
        have HST2 := Lib.hid hst; have HR0 := Lib.hid hr0; have HR1 := Lib.hid hr1; clear hst hr0 hr1
        go_simp
        go_at_call 35
        refine (pick_any w' (w.heap.size + 1) A m' c' ys' k1 6 hrd (by omega) (by omega) (by omega)).mono ?_
        rintro e w'' ⟨r, rfl, hr1, rd1, hc1, hz1⟩
        exact hK _ _ hc1 ⟨fun h => ⟨k1 + 1, by omega, rd1⟩, HST2.out.step hc1 HT.out, fun h => (hc1.block _ (Array.getElem?_eq_some_iff.1 (HR0.out (by omega))).1 (by simp <;> omega)).trans (HR0.out (by omega)), fun h => absurd h (by omega)⟩ ⟨r, rfl, by have := hr1 (by omega); omega⟩
      refine ⟨fun y w' k hS hj hk hF K hK => ?_, ?_⟩
      · skip -- 3: binOp
        obtain ⟨r, e33, hr3⟩ := hF.1
        have r30 : (0 : Int) ≤ (r : Int) := by omega
        have r31 : (r : Int) < (6 : Int) := by omega
        have e33' := Lib.hid e33
        simp only [fillL, cond_true, cond_false, List.getD_cons_zero, List.getD_cons_succ, StP.is, Act.put, List.setIfInBounds_toArray, List.set_cons_zero, List.set_cons_succ, Nat.reduceAdd, e33, MStP.is, Option.isSome_some, Option.isSome_none] at hK ⊢
        simp only [List.sum_cons, List.sum_nil, List.getD_cons_zero, List.getD_cons_succ, Nat.reduceAdd, Nat.add_zero] at hk
        refine rg_yes (by kernel_rfl) ?_
        clear e33
        clear hF
        go_simp
        exact hK _ _ (Chg.refl _ _) ⟨fun h => hj.1 (by omega), hj.2.1, fun h => hj.2.2.1 (by omega), fun h => hj.2.2.2 (by omega)⟩ ⟨_, rfl⟩
      refine ⟨fun y w' k hS hj hk hF K hK => ?_, ?_⟩
      · skip -- 4: store
        have e31 : y 31 = _ := hF.1
        have e31' := Lib.hid e31
        simp only [fillL, cond_true, cond_false, List.getD_cons_zero, List.getD_cons_succ, StP.is, Act.put, List.setIfInBounds_toArray, List.set_cons_zero, List.set_cons_succ, Nat.reduceAdd, e31, MStP.is, Option.isSome_some, Option.isSome_none] at hK ⊢
        simp only [List.sum_cons, List.sum_nil, List.getD_cons_zero, List.getD_cons_succ, Nat.reduceAdd, Nat.add_zero] at hk
        refine rg_yes (by kernel_rfl) ?_
        clear e31
        clear hF
        obtain ⟨-, hst, hr0, -⟩ := hj
        have hq := hr0 (by omega)
        have s0 := cell_of_row _ _ 0 _ _ (0, 0) hq
        have f0 := block_free hq 0
        have lq := (Array.getElem?_eq_some_iff.1 hq).1
        have HQ := Lib.hid hq; have HST2 := Lib.hid hst; clear hst hr0 hq
        go_simp
        refine hK undef _ ((Chg.refl _ _).setCell (p := ⟨w.heap.size, 0, none⟩) (.inl (by simp)) _) ⟨fun h => absurd h (by omega), ?_, fun h => absurd h (by omega), fun _ => block_set (o := 0) HQ.out⟩ rfl
        · exact HST2.out.step ((Chg.refl _ _).setCell (p := ⟨w.heap.size, 0, none⟩) (.inl (by simp)) _) HT2.out
      refine ⟨fun y w' k hS hj hk hF K hK => ?_, ?_⟩
      · skip -- 5: assign
        obtain ⟨zz, e34⟩ := hF.1
        have e34' := Lib.hid e34
        simp only [fillL, cond_true, cond_false, List.getD_cons_zero, List.getD_cons_succ, StP.is, Act.put, List.setIfInBounds_toArray, List.set_cons_zero, List.set_cons_succ, Nat.reduceAdd, e34, MStP.is, Option.isSome_some, Option.isSome_none] at hK ⊢
        simp only [List.sum_cons, List.sum_nil, List.getD_cons_zero, List.getD_cons_succ, Nat.reduceAdd, Nat.add_zero] at hk
        refine rg_yes (by kernel_rfl) ?_
        clear e34
        clear hF
        go_simp
        exact hK _ _ (Chg.refl _ _) ⟨fun h => hj.1 (by omega), hj.2.1, fun h => hj.2.2.1 (by omega), fun h => hj.2.2.2 (by omega)⟩ ⟨_, rfl⟩
      trivial
    case hH => rfl
    case hNS => exact fun _ _ h => h.mono (fun b _ hb => by simp at hb ⊢; exact .inl hb)
    case hSt => exact fun a b => Chg.trans a b
    case hb => rfl
    case hdrew => exact (Chg.refl _ _).drewN 1
    case hj0 => exact fun y => ⟨fun _ => ⟨_, Nat.le_add_right _ _, RD4.out.below (below_drewN (Below.refl _ _) 1)⟩, HST4.out.step ((Chg.refl _ _).drewN 1) HT.out, fun _ => HRES4.out, fun h => absurd h (by omega)⟩
    case hend =>
      intro y_ w9 hS hJ hF
      obtain ⟨z3_, e3⟩ := hF.1
      obtain ⟨-, hst, -, hr1⟩ := hJ
      have hq := hr1 (by decide)
      have t0 := cell_of_row _ _ 0 _ _ (0, 0) hq
      have HST9 := Lib.hid hst
      clear hF hS hst hr1 hq
      simp only [fillL, cond_true, cond_false, Nat.reduceAdd, e3]
      clear e3
      go_wp2_with fail
      refine bodyPost_ret (v := .tuple #[.agg #[.slice (some ⟨g, 0, none⟩) 3 c3], .int .i64 z3_]) (by simp [results, Tryz.results13, go_sem, t0]) rfl ⟨g, c3, x, z3_, rfl, ?_, HST9.out.below⟩
      exact RaidR.wide (by omega) HST9.out.raid.1 (Nat.le_refl _) _ _ HST9.out.raid.2
  have d1 : (0 : Int) < (qq : Int) := by omega
  obtain ⟨y0, hy0⟩ : ∃ y, ys[0]? = some y := ⟨ys[0], List.getElem?_eq_getElem h0⟩
  obtain ⟨g4, hg4, -, -, -⟩ := HST4.out.roots.at_ hy0
  subst hg4
  clear hy0
  go_wp2_with fail
  apply wp_region_rgz (Chg (· ∈ [(w.heap.size + 1), w.heap.size])) (Chg (· ∈ [(w.heap.size + 1)])) (fun y w' k' => (k' < 5000 → ∃ kq, kq ≤ (k1 + 1) + k' ∧ Rd w' (w.heap.size + 1) A m' c' ys' kq) ∧ StayAt w w2.heap.size g c3 w1.heap.size w2.heap.size (w2.heap.size + 1) x (some ⟨g4, 0, none⟩) c4 S4 ys w' ∧ (k' < 5000 → w'.heap[w.heap.size]? = some (.cells #[.slice none 0 0] 36 (0, 0))) ∧ (5000 ≤ k' → w'.heap[w.heap.size]? = some (.cells #[.slice (some ⟨g, 0, none⟩) 3 c3] 36 (0, 0)))) [0, 0, 0, 0, 0, 1, 0, 0, 0, 0, 5000, 0] [5000, 0, 0, 0, 0, 5000, 0, 0, 0, 0, 5000, 0] (by kernel_rfl) (false :: false :: false :: true :: false :: false :: false :: false :: false :: false :: false :: false :: false :: false :: false :: false :: false :: false :: false :: false :: false :: true :: true :: true :: true :: true :: true :: true :: true :: true :: true :: false :: false :: false :: false :: []) [some 21, some 22, some 23, some 24, some 25, some 26, some 27, some 28, some 29, some 30, none, some 3] [[], [], [], [], [3], [2, 4], [1, 5], [6], [7], [8], [0], [9]] [false, false, false, false, false, false, false, false, false, false, true, false] [true, true, true, true, true, true, true, true, true, true, true, true] [11] [MStP.is _, MStP.is _, MStP.is _, MStP.is _, MStP.is _, ⟨fun v _ => ∃ r : Nat, v = .int .i64 (r : Int) ∧ r < ys.length, true, fun _ _ _ _ h => h, fun _ _ _ _ _ h => h⟩, ⟨fun v _ => ∃ r : Nat, v = .pointer (some ⟨g4, r * 8, none⟩) ∧ r < ys.length, true, fun _ _ _ _ h => h, fun _ _ _ _ _ h => h⟩, ⟨fun v _ => ∃ r : Nat, v = .pointer (some ⟨g4, r * 8, none⟩) ∧ r < ys.length, true, fun _ _ _ _ h => h, fun _ _ _ _ _ h => h⟩, ⟨fun v _ => ∃ z : Int, v = .int .i64 z, true, fun _ _ _ _ h => h, fun _ _ _ _ _ h => h⟩, ⟨fun v _ => ∃ z : Int, v = .int .i64 z, true, fun _ _ _ _ h => h, fun _ _ _ _ _ h => h⟩, MStP.is _, ⟨fun v _ => ∃ z : Int, v = .int .i64 z, true, fun _ _ _ _ h => h, fun _ _ _ _ _ h => h⟩] (by kernel_rfl) (by kernel_rfl) (by kernel_rfl) (by kernel_rfl)
  case hobs =>
    refine ⟨fun y w' k hS hj hk hF K hK => ?_, ?_⟩
    · skip -- 0: load
      simp only [fillL, cond_true, cond_false, List.getD_cons_zero, List.getD_cons_succ, StP.is, Act.put, List.setIfInBounds_toArray, List.set_cons_zero, List.set_cons_succ, Nat.reduceAdd, MStP.is, Option.isSome_some, Option.isSome_none] at hK ⊢
      simp only [List.sum_cons, List.sum_nil, List.getD_cons_zero, List.getD_cons_succ, Nat.reduceAdd, Nat.add_zero] at hk
      refine rg_yes (by kernel_rfl) ?_
      clear hF
      have qb := cell_of_row _ _ 0 _ _ (0, 0) hj.2.1.box
      have lqb := (Array.getElem?_eq_some_iff.1 hj.2.1.box).1
      have HJ := Lib.hid hj; clear hj
      go_simp
      have hj := HJ.out
      exact hK _ _ (Chg.refl _ _) ⟨fun h => hj.1 (by omega), hj.2.1, fun h => hj.2.2.1 (by omega), fun h => hj.2.2.2 (by omega)⟩ rfl
    refine ⟨fun y w' k hS hj hk hF K hK => ?_, ?_⟩
    · skip -- 1: move
      simp only [fillL, cond_true, cond_false, List.getD_cons_zero, List.getD_cons_succ, StP.is, Act.put, List.setIfInBounds_toArray, List.set_cons_zero, List.set_cons_succ, Nat.reduceAdd, MStP.is, Option.isSome_some, Option.isSome_none] at hK ⊢
      simp only [List.sum_cons, List.sum_nil, List.getD_cons_zero, List.getD_cons_succ, Nat.reduceAdd, Nat.add_zero] at hk
      refine rg_yes (by kernel_rfl) ?_
      clear hF
      go_simp
      exact hK _ _ (Chg.refl _ _) ⟨fun h => hj.1 (by omega), hj.2.1, fun h => hj.2.2.1 (by omega), fun h => hj.2.2.2 (by omega)⟩ rfl
    refine ⟨fun y w' k hS hj hk hF K hK => ?_, ?_⟩
    · skip -- 2: move
      simp only [fillL, cond_true, cond_false, List.getD_cons_zero, List.getD_cons_succ, StP.is, Act.put, List.setIfInBounds_toArray, List.set_cons_zero, List.set_cons_succ, Nat.reduceAdd, MStP.is, Option.isSome_some, Option.isSome_none] at hK ⊢
      simp only [List.sum_cons, List.sum_nil, List.getD_cons_zero, List.getD_cons_succ, Nat.reduceAdd, Nat.add_zero] at hk
      refine rg_yes (by kernel_rfl) ?_
      clear hF
      go_simp
      exact hK _ _ (Chg.refl _ _) ⟨fun h => hj.1 (by omega), hj.2.1, fun h => hj.2.2.1 (by omega), fun h => hj.2.2.2 (by omega)⟩ rfl
    refine ⟨fun y w' k hS hj hk hF K hK => ?_, ?_⟩
    · skip -- 3: move
      simp only [fillL, cond_true, cond_false, List.getD_cons_zero, List.getD_cons_succ, StP.is, Act.put, List.setIfInBounds_toArray, List.set_cons_zero, List.set_cons_succ, Nat.reduceAdd, MStP.is, Option.isSome_some, Option.isSome_none] at hK ⊢
      simp only [List.sum_cons, List.sum_nil, List.getD_cons_zero, List.getD_cons_succ, Nat.reduceAdd, Nat.add_zero] at hk
      refine rg_yes (by kernel_rfl) ?_
      clear hF
      go_simp
      exact hK _ _ (Chg.refl _ _) ⟨fun h => hj.1 (by omega), hj.2.1, fun h => hj.2.2.1 (by omega), fun h => hj.2.2.2 (by omega)⟩ rfl
    refine ⟨fun y w' k hS hj hk hF K hK => ?_, ?_⟩
    · skip -- 4: call
      have e24 : y 24 = _ := hF.1
      have e24' := Lib.hid e24
      simp only [fillL, cond_true, cond_false, List.getD_cons_zero, List.getD_cons_succ, StP.is, Act.put, List.setIfInBounds_toArray, List.set_cons_zero, List.set_cons_succ, Nat.reduceAdd, e24, MStP.is, Option.isSome_some, Option.isSome_none] at hK ⊢
      simp only [List.sum_cons, List.sum_nil, List.getD_cons_zero, List.getD_cons_succ, Nat.reduceAdd, Nat.add_zero] at hk
      refine rg_yes (by kernel_rfl) ?_
      clear e24
      clear hF
      go_simp
      exact hK _ _ (Chg.refl _ _) ⟨fun h => hj.1 (by omega), hj.2.1, fun h => hj.2.2.1 (by omega), fun h => hj.2.2.2 (by omega)⟩ rfl
    refine ⟨fun y w' k hS hj hk hF K hK => ?_, ?_⟩
    · skip -- 5: call
      have e23 : y 23 = _ := hF.1
      have e25 : y 25 = _ := hF.2.1
      have e23' := Lib.hid e23
      have e25' := Lib.hid e25
      simp only [fillL, cond_true, cond_false, List.getD_cons_zero, List.getD_cons_succ, StP.is, Act.put, List.setIfInBounds_toArray, List.set_cons_zero, List.set_cons_succ, Nat.reduceAdd, e23, e25, MStP.is, Option.isSome_some, Option.isSome_none] at hK ⊢
      simp only [List.sum_cons, List.sum_nil, List.getD_cons_zero, List.getD_cons_succ, Nat.reduceAdd, Nat.add_zero] at hk
      refine rg_yes (by kernel_rfl) ?_
      clear e23 e25
      clear hF
      obtain ⟨hrd0, hst, hr0, hr1⟩ := hj
      obtain ⟨k1, hk1, hrd⟩ := hrd0 (by omega)
      have HST2 := Lib.hid hst; have HR0 := Lib.hid hr0; have HR1 := Lib.hid hr1; clear hst hr0 hr1
      go_simp
      go_at_call 35
      refine (pick_any w' (w.heap.size + 1) A m' c' ys' k1 ys.length hrd (by omega) (by omega) (by omega)).mono ?_
      rintro e w'' ⟨r, rfl, hr1, rd1, hc1, hz1⟩
      exact hK _ _ hc1 ⟨fun h => ⟨k1 + 1, by omega, rd1⟩, HST2.out.step hc1 HT.out, fun h => (hc1.block _ (Array.getElem?_eq_some_iff.1 (HR0.out (by omega))).1 (by simp <;> omega)).trans (HR0.out (by omega)), fun h => absurd h (by omega)⟩ ⟨r, rfl, by have := hr1 (by omega); omega⟩
    refine ⟨fun y w' k hS hj hk hF K hK => ?_, ?_⟩
    · skip -- 6: indexAddr
      have e22 : y 22 = _ := hF.1
      obtain ⟨r, e26, hr3⟩ := hF.2.1
      have r30 : (0 : Int) ≤ (r : Int) := by omega
      have r31 : (r : Int) < (ys.length : Int) := by omega
      have e22' := Lib.hid e22
      have e26' := Lib.hid e26
      simp only [fillL, cond_true, cond_false, List.getD_cons_zero, List.getD_cons_succ, StP.is, Act.put, List.setIfInBounds_toArray, List.set_cons_zero, List.set_cons_succ, Nat.reduceAdd, e22, e26, MStP.is, Option.isSome_some, Option.isSome_none] at hK ⊢
      simp only [List.sum_cons, List.sum_nil, List.getD_cons_zero, List.getD_cons_succ, Nat.reduceAdd, Nat.add_zero] at hk
      refine rg_yes (by kernel_rfl) ?_
      clear e22 e26
      clear hF
      go_simp
      exact hK _ _ (Chg.refl _ _) ⟨fun h => hj.1 (by omega), hj.2.1, fun h => hj.2.2.1 (by omega), fun h => hj.2.2.2 (by omega)⟩ ⟨r, rfl, hr3⟩
    refine ⟨fun y w' k hS hj hk hF K hK => ?_, ?_⟩
    · skip -- 7: fieldAddr
      obtain ⟨rp, e27, hrp⟩ := hF.1
      have e27' := Lib.hid e27
      simp only [fillL, cond_true, cond_false, List.getD_cons_zero, List.getD_cons_succ, StP.is, Act.put, List.setIfInBounds_toArray, List.set_cons_zero, List.set_cons_succ, Nat.reduceAdd, e27, MStP.is, Option.isSome_some, Option.isSome_none] at hK ⊢
      simp only [List.sum_cons, List.sum_nil, List.getD_cons_zero, List.getD_cons_succ, Nat.reduceAdd, Nat.add_zero] at hk
      refine rg_yes (by kernel_rfl) ?_
      clear e27
      clear hF
      go_simp
      exact hK _ _ (Chg.refl _ _) ⟨fun h => hj.1 (by omega), hj.2.1, fun h => hj.2.2.1 (by omega), fun h => hj.2.2.2 (by omega)⟩ ⟨rp, by simp, hrp⟩
    refine ⟨fun y w' k hS hj hk hF K hK => ?_, ?_⟩
    · skip -- 8: load
      obtain ⟨rp, e28, hrp⟩ := hF.1
      have e28' := Lib.hid e28
      simp only [fillL, cond_true, cond_false, List.getD_cons_zero, List.getD_cons_succ, StP.is, Act.put, List.setIfInBounds_toArray, List.set_cons_zero, List.set_cons_succ, Nat.reduceAdd, e28, MStP.is, Option.isSome_some, Option.isSome_none] at hK ⊢
      simp only [List.sum_cons, List.sum_nil, List.getD_cons_zero, List.getD_cons_succ, Nat.reduceAdd, Nat.add_zero] at hk
      refine rg_yes (by kernel_rfl) ?_
      clear e28
      clear hF
      obtain ⟨u, hu⟩ : ∃ y, ys[rp]? = some y := ⟨ys[rp], List.getElem?_eq_getElem hrp⟩
      obtain ⟨g5, hg5, lg5, -, hcu⟩ := hj.2.1.roots.at_ hu
      injection hg5 with hg5; injection hg5 with hg5 _; subst hg5
      have qc := hcu 0 _ rfl
      simp only [Nat.add_zero] at qc
      have HJ := Lib.hid hj; clear hj hcu
      go_simp
      have hj := HJ.out
      exact hK _ _ (Chg.refl _ _) ⟨fun h => hj.1 (by omega), hj.2.1, fun h => hj.2.2.1 (by omega), fun h => hj.2.2.2 (by omega)⟩ ⟨_, rfl⟩
    refine ⟨fun y w' k hS hj hk hF K hK => ?_, ?_⟩
    · skip -- 9: binOp
      obtain ⟨zz, e29⟩ := hF.1
      have e29' := Lib.hid e29
      simp only [fillL, cond_true, cond_false, List.getD_cons_zero, List.getD_cons_succ, StP.is, Act.put, List.setIfInBounds_toArray, List.set_cons_zero, List.set_cons_succ, Nat.reduceAdd, e29, MStP.is, Option.isSome_some, Option.isSome_none] at hK ⊢
      simp only [List.sum_cons, List.sum_nil, List.getD_cons_zero, List.getD_cons_succ, Nat.reduceAdd, Nat.add_zero] at hk
      refine rg_yes (by kernel_rfl) ?_
      clear e29
      clear hF
      go_simp
      exact hK _ _ (Chg.refl _ _) ⟨fun h => hj.1 (by omega), hj.2.1, fun h => hj.2.2.1 (by omega), fun h => hj.2.2.2 (by omega)⟩ ⟨_, rfl⟩
    refine ⟨fun y w' k hS hj hk hF K hK => ?_, ?_⟩
    · skip -- 10: store
      have e21 : y 21 = _ := hF.1
      have e21' := Lib.hid e21
      simp only [fillL, cond_true, cond_false, List.getD_cons_zero, List.getD_cons_succ, StP.is, Act.put, List.setIfInBounds_toArray, List.set_cons_zero, List.set_cons_succ, Nat.reduceAdd, e21, MStP.is, Option.isSome_some, Option.isSome_none] at hK ⊢
      simp only [List.sum_cons, List.sum_nil, List.getD_cons_zero, List.getD_cons_succ, Nat.reduceAdd, Nat.add_zero] at hk
      refine rg_yes (by kernel_rfl) ?_
      clear e21
      clear hF
      obtain ⟨-, hst, hr0, -⟩ := hj
      have hq := hr0 (by omega)
      have s0 := cell_of_row _ _ 0 _ _ (0, 0) hq
      have f0 := block_free hq 0
      have lq := (Array.getElem?_eq_some_iff.1 hq).1
      have HQ := Lib.hid hq; have HST2 := Lib.hid hst; clear hst hr0 hq
      go_simp
      refine hK undef _ ((Chg.refl _ _).setCell (p := ⟨w.heap.size, 0, none⟩) (.inl (by simp)) _) ⟨fun h => absurd h (by omega), ?_, fun h => absurd h (by omega), fun _ => block_set (o := 0) HQ.out⟩ rfl
      · exact HST2.out.step ((Chg.refl _ _).setCell (p := ⟨w.heap.size, 0, none⟩) (.inl (by simp)) _) HT2.out
    refine ⟨fun y w' k hS hj hk hF K hK => ?_, ?_⟩
    · skip -- 11: assign
      obtain ⟨zz, e30⟩ := hF.1
      have e30' := Lib.hid e30
      simp only [fillL, cond_true, cond_false, List.getD_cons_zero, List.getD_cons_succ, StP.is, Act.put, List.setIfInBounds_toArray, List.set_cons_zero, List.set_cons_succ, Nat.reduceAdd, e30, MStP.is, Option.isSome_some, Option.isSome_none] at hK ⊢
      simp only [List.sum_cons, List.sum_nil, List.getD_cons_zero, List.getD_cons_succ, Nat.reduceAdd, Nat.add_zero] at hk
      refine rg_yes (by kernel_rfl) ?_
      clear e30
      clear hF
      go_simp
      exact hK _ _ (Chg.refl _ _) ⟨fun h => hj.1 (by omega), hj.2.1, fun h => hj.2.2.1 (by omega), fun h => hj.2.2.2 (by omega)⟩ ⟨_, rfl⟩
    trivial
  case hH => rfl
  case hNS => exact fun _ _ h => h.mono (fun b _ hb => by simp at hb ⊢; exact .inl hb)
  case hSt => exact fun a b => Chg.trans a b
  case hb => rfl
  case hdrew => exact (Chg.refl _ _).drewN 1
  case hj0 => exact fun y => ⟨fun _ => ⟨_, Nat.le_add_right _ _, RD4.out.below (below_drewN (Below.refl _ _) 1)⟩, HST4.out.step ((Chg.refl _ _).drewN 1) HT.out, fun _ => HRES4.out, fun h => absurd h (by omega)⟩
  case hend =>
    intro y_ w9 hS hJ hF
    obtain ⟨z3_, e3⟩ := hF.1
    obtain ⟨-, hst, -, hr1⟩ := hJ
    have hq := hr1 (by decide)
    have t0 := cell_of_row _ _ 0 _ _ (0, 0) hq
    have HST9 := Lib.hid hst
    clear hF hS hst hr1 hq
    simp only [fillL, cond_true, cond_false, Nat.reduceAdd, e3]
    clear e3
    go_wp2_with fail
    refine bodyPost_ret (v := .tuple #[.agg #[.slice (some ⟨g, 0, none⟩) 3 c3], .int .i64 z3_]) (by simp [results, Tryz.results13, go_sem, t0]) rfl ⟨g, c3, x, z3_, rfl, ?_, HST9.out.below⟩
    exact RaidR.wide (by omega) HST9.out.raid.1 (Nat.le_refl _) _ _ HST9.out.raid.2
end Go.Proofs.YtcfgbeajdkbbcaaGreatDoor
