/- FnRootList: the walk; DrawRootList; pfRoots at equal lists. Condition: the tables that strconv's functions read lie as their initialisers lay them. -/
import Derived.Test.YtcfgbeajdkbbcaaGreatDoorDraw93
import Derived.Test.YtcfgbeajdkbbcaaGreatDoorRootListI
namespace Go.Proofs.YtcfgbeajdkbbcaaGreatDoor
set_option linter.unnecessarySimpa false
open Go Go.Lib Go.RowKit
set_option linter.unusedVariables false
set_option linter.unusedSimpArgs false

def DrawnR (w : World) (e : Ending) (w' : World) : Prop := ∃ (g c3 : Nat) (x : RaidD), e = .returned (.agg #[.slice (some ⟨g, 0, none⟩) 3 c3]) ∧ RaidR w' w.heap.size w'.heap.size [.slice (some ⟨g, 0, none⟩) 3 c3] x ∧ Below w.heap.size w w'
theorem ifs8 {α : Type} {p1 p2 p3 p4 p5 p6 p7 p8 : Prop} [Decidable p1] [Decidable p2] [Decidable p3] [Decidable p4] [Decidable p5] [Decidable p6] [Decidable p7] [Decidable p8] (a b : α) (h : ¬ (p1 ∧ p2 ∧ p3 ∧ p4 ∧ p5 ∧ p6 ∧ p7 ∧ p8)) :
    (if p1 then if p2 then if p3 then if p4 then if p5 then if p6 then if p7 then if p8 then a else b else b else b else b else b else b else b else b) = b := by
  repeat' split
  all_goals first | rfl | exact absurd ⟨by assumption, by assumption, by assumption, by assumption, by assumption, by assumption, by assumption, by assumption⟩ h
theorem takeMem {x v : RootD} {l l' : List RootD} {P : Prop} (he : l' = l ++ [v]) (hne : ¬ x = v) (hf : x ∈ l → P) (hm : x ∈ l') : P := by
  rw [he] at hm
  rcases List.mem_append.1 hm with hm | hm
  · exact hf hm
  · exact absurd (List.mem_singleton.1 hm) hne
set_option maxRecDepth 100000 in
set_option maxHeartbeats 2000000 in
theorem drawRootList_any (A : Option Addr) (n c : Nat) (zs : List Int) (w : World) (h : BytesIn w A n c zs) : Calls Tryz.prog 21 #[.slice A n c] w (DrawnR w) := by
  go_enter Tryz.func21, Tryz.ntmps21
  go_wp2_with fail
  refine (l6Open_any A n c zs _ ?_).mono ?_
  · exact BytesIn.deep h ((Below.refl _ _).alloc (Nat.le_refl _) _)
  rintro e w1 ⟨m', c', ys', rfl, hr, hb1⟩
  have s1 := hb1.size
  have hp1 := hr.2.2.2.1
  have res1 : w1.heap[w.heap.size]? = some (.cells #[.slice none 0 0] 36 (0, 0)) := (hb1.block _ (by simp)).trans (heap_alloc_new _ _)
  simp at s1 hr hp1
  have hb2 : Below w.heap.size w w1 := ((Below.refl _ _).alloc (Nat.le_refl _) _).trans (hb1.mono (by simp))
  clear hb1
  go_wp2_with fail
  refine (l93Roots_any w1 _ A m' c' ys' 0 hr (by omega)).mono ?_
  rintro e w2 ⟨g, c3, x, k1, rfl, hx, hk1, rd2, hc2⟩
  have HB2 : Hid (Below w.heap.size w w2) := Lib.hid (hb2.trans (hc2.below (fun k _ hk => by simp at hk; omega) hb2.size))
  have res2 := (hc2.block w.heap.size (by omega) (by simp)).trans res1
  have s0 := cell_of_row _ _ 0 _ _ (0, 0) res2
  have f0 := block_free res2 0
  have t0 := cell_of_row _ _ 0 _ _ (0, 0) (block_set (o := 0) (v := .slice (some ⟨g, 0, none⟩) 3 c3) res2)
  have l2 := (Array.getElem?_eq_some_iff.1 res2).1
  have HX := Lib.hid hx
  clear hx hc2 hb2 res1 hr rd2 res2
  go_wp2_with fail
  refine bodyPost_ret (v := .agg #[.slice (some ⟨g, 0, none⟩) 3 c3]) (by simp [results, Tryz.results21, go_sem, t0]) rfl ⟨g, c3, x, rfl, ?_, Below.setCell (p := ⟨w.heap.size, 0, none⟩) HB2.out (Nat.le_refl _) _⟩
  exact RaidR.wide (by omega) (by simp [World.setCell]) (Nat.le_refl _) _ _ (RaidR.keep (Same.setCell (p := ⟨w.heap.size, 0, none⟩) (Same.refl _ _ _) (.inl (by show w.heap.size < _; omega)) _) (by simp [World.setCell]) _ _ HX.out)
set_option maxRecDepth 100000 in
set_option maxHeartbeats 2000000 in
theorem pfRoots_yes (A B : Option Addr) (n c m d : Nat) (xs : List RootD) (w : World) (lo hi lo' hi' : Nat) (h : SliceR RootR 8 w lo hi A n c xs) (h' : SliceR RootR 8 w lo' hi' B m d xs) :
    Calls Tryz.prog 22 #[.slice A n c, .slice B m d] w fun e w' => e = .returned (.bool true) ∧ Below w.heap.size w w' := by
  obtain rfl : m = n := by have := h.len; have := h'.len; omega
  have hn := h.max
  have hl := Lib.hid h.len
  have H := Lib.hid h; have H' := Lib.hid h'; clear h h'
  go_enter Tryz.func22, Tryz.ntmps22
  go_wp2_with fail
  go_loopw [5] (fun i wr => ∃ k : Nat, k ≤ m ∧ i = .int .i64 k ∧ Below w.heap.size w wr) (fun i _ => m - (RowKit.intOf i).toNat)
  case atStart => exact ⟨0, Nat.zero_le _, rfl, Below.refl _ _⟩
  case round =>
    obtain ⟨k, hk, rfl, hB⟩ := hrel
    by_cases hlt : k < m
    · obtain ⟨x, hx⟩ : ∃ x, xs[k]? = some x := ⟨xs[k]'(by rw [hl.out]; exact hlt), List.getElem?_eq_getElem _⟩
      obtain ⟨b0, o0, rfl, _, _, bl, hc⟩ := (SliceR.below H.out hB (fun _ _ h => h)).at_ (by omega)
      obtain ⟨b1, o1, rfl, _, _, bl', hc'⟩ := (SliceR.below H'.out hB (fun _ _ h => h)).at_ (by omega)
      obtain ⟨cs, hcl, hcc, hr⟩ := hc k x hx; obtain ⟨cs', hcl', hcc', hr'⟩ := hc' k x hx
      obtain ⟨t, ⟨a, b, s, m_, l⟩, d_, y_⟩ := x
      obtain rfl := hr; obtain rfl := hr'
      have q0 := hcc 0 _ rfl; have r0 := hcc' 0 _ rfl; have q1 := hcc 1 _ rfl; have r1 := hcc' 1 _ rfl; have q2 := hcc 2 _ rfl; have r2 := hcc' 2 _ rfl; have q3 := hcc 3 _ rfl; have r3 := hcc' 3 _ rfl; have q4 := hcc 4 _ rfl; have r4 := hcc' 4 _ rfl; have q5 := hcc 5 _ rfl; have r5 := hcc' 5 _ rfl; have q6 := hcc 6 _ rfl; have r6 := hcc' 6 _ rfl; have q7 := hcc 7 _ rfl; have r7 := hcc' 7 _ rfl
      simp only [Nat.add_zero] at q0 r0
      clear hcc hcc' hcl hcl' hc hc' hx
      have k0 : (0 : Int) ≤ (k : Int) := by omega
      have k1 : (k : Int) < (m : Int) := by omega
      go_wp2_with fail
      apply wp_region_rg (by kernel_rfl) (false :: false :: false :: false :: false :: false :: false :: false :: false :: false :: false :: false :: false :: false :: false :: false :: false :: true :: true :: true :: true :: true :: true :: true :: true :: true :: []) [some 17, some 18, some 19, some 20, some 21, some 22, some 23, some 24, some 25] [[], [], [0, 1], [2], [], [], [4, 5], [6], [3, 7]] [StP.is _, StP.is _, StP.is _, StP.is _, StP.is _, StP.is _, StP.is _, StP.is _, StP.is _] (by kernel_rfl)
      case hobs =>
        refine ⟨fun y w' hS hF K hK => ?_, ?_⟩
        · skip -- 0: move
          simp only [fillL, cond_true, cond_false, List.getD_cons_zero, List.getD_cons_succ, StP.is, Act.put, List.setIfInBounds_toArray, List.set_cons_zero, List.set_cons_succ, Nat.reduceAdd] at hK ⊢
          refine rg_yes (by kernel_rfl) ?_
          clear hF
          go_simp
          exact hK _ _ (Ext.refl _) rfl
        refine ⟨fun y w' hS hF K hK => ?_, ?_⟩
        · skip -- 1: move
          simp only [fillL, cond_true, cond_false, List.getD_cons_zero, List.getD_cons_succ, StP.is, Act.put, List.setIfInBounds_toArray, List.set_cons_zero, List.set_cons_succ, Nat.reduceAdd] at hK ⊢
          refine rg_yes (by kernel_rfl) ?_
          clear hF
          go_simp
          exact hK _ _ (Ext.refl _) rfl
        refine ⟨fun y w' hS hF K hK => ?_, ?_⟩
        · skip -- 2: indexAddr
          have e17 : y 17 = _ := hF.1
          have e18 : y 18 = _ := hF.2.1
          simp only [fillL, cond_true, cond_false, List.getD_cons_zero, List.getD_cons_succ, StP.is, Act.put, List.setIfInBounds_toArray, List.set_cons_zero, List.set_cons_succ, Nat.reduceAdd, e17, e18] at hK ⊢
          refine rg_yes (by kernel_rfl) ?_
          clear e17 e18
          clear hF
          go_simp
          exact hK _ _ (Ext.refl _) rfl
        refine ⟨fun y w' hS hF K hK => ?_, ?_⟩
        · skip -- 3: load
          have e19 : y 19 = _ := hF.1
          simp only [fillL, cond_true, cond_false, List.getD_cons_zero, List.getD_cons_succ, StP.is, Act.put, List.setIfInBounds_toArray, List.set_cons_zero, List.set_cons_succ, Nat.reduceAdd, e19] at hK ⊢
          refine rg_yes (by kernel_rfl) ?_
          have qx0_ := (Below.cell hS bl).trans q0
          have qx1_ := (Below.cell hS bl).trans q1
          have qx2_ := (Below.cell hS bl).trans q2
          have qx3_ := (Below.cell hS bl).trans q3
          have qx4_ := (Below.cell hS bl).trans q4
          have qx5_ := (Below.cell hS bl).trans q5
          have qx6_ := (Below.cell hS bl).trans q6
          have qx7_ := (Below.cell hS bl).trans q7
          have qx8_ := (Below.cell hS bl').trans r0
          have qx9_ := (Below.cell hS bl').trans r1
          have qx10_ := (Below.cell hS bl').trans r2
          have qx11_ := (Below.cell hS bl').trans r3
          have qx12_ := (Below.cell hS bl').trans r4
          have qx13_ := (Below.cell hS bl').trans r5
          have qx14_ := (Below.cell hS bl').trans r6
          have qx15_ := (Below.cell hS bl').trans r7
          clear e19
          clear hF
          go_simp
          exact hK _ _ (Ext.refl _) rfl
        refine ⟨fun y w' hS hF K hK => ?_, ?_⟩
        · skip -- 4: move
          simp only [fillL, cond_true, cond_false, List.getD_cons_zero, List.getD_cons_succ, StP.is, Act.put, List.setIfInBounds_toArray, List.set_cons_zero, List.set_cons_succ, Nat.reduceAdd] at hK ⊢
          refine rg_yes (by kernel_rfl) ?_
          clear hF
          go_simp
          exact hK _ _ (Ext.refl _) rfl
        refine ⟨fun y w' hS hF K hK => ?_, ?_⟩
        · skip -- 5: move
          simp only [fillL, cond_true, cond_false, List.getD_cons_zero, List.getD_cons_succ, StP.is, Act.put, List.setIfInBounds_toArray, List.set_cons_zero, List.set_cons_succ, Nat.reduceAdd] at hK ⊢
          refine rg_yes (by kernel_rfl) ?_
          clear hF
          go_simp
          exact hK _ _ (Ext.refl _) rfl
        refine ⟨fun y w' hS hF K hK => ?_, ?_⟩
        · skip -- 6: indexAddr
          have e21 : y 21 = _ := hF.1
          have e22 : y 22 = _ := hF.2.1
          simp only [fillL, cond_true, cond_false, List.getD_cons_zero, List.getD_cons_succ, StP.is, Act.put, List.setIfInBounds_toArray, List.set_cons_zero, List.set_cons_succ, Nat.reduceAdd, e21, e22] at hK ⊢
          refine rg_yes (by kernel_rfl) ?_
          clear e21 e22
          clear hF
          go_simp
          exact hK _ _ (Ext.refl _) rfl
        refine ⟨fun y w' hS hF K hK => ?_, ?_⟩
        · skip -- 7: load
          have e23 : y 23 = _ := hF.1
          simp only [fillL, cond_true, cond_false, List.getD_cons_zero, List.getD_cons_succ, StP.is, Act.put, List.setIfInBounds_toArray, List.set_cons_zero, List.set_cons_succ, Nat.reduceAdd, e23] at hK ⊢
          refine rg_yes (by kernel_rfl) ?_
          have qx0_ := (Below.cell hS bl).trans q0
          have qx1_ := (Below.cell hS bl).trans q1
          have qx2_ := (Below.cell hS bl).trans q2
          have qx3_ := (Below.cell hS bl).trans q3
          have qx4_ := (Below.cell hS bl).trans q4
          have qx5_ := (Below.cell hS bl).trans q5
          have qx6_ := (Below.cell hS bl).trans q6
          have qx7_ := (Below.cell hS bl).trans q7
          have qx8_ := (Below.cell hS bl').trans r0
          have qx9_ := (Below.cell hS bl').trans r1
          have qx10_ := (Below.cell hS bl').trans r2
          have qx11_ := (Below.cell hS bl').trans r3
          have qx12_ := (Below.cell hS bl').trans r4
          have qx13_ := (Below.cell hS bl').trans r5
          have qx14_ := (Below.cell hS bl').trans r6
          have qx15_ := (Below.cell hS bl').trans r7
          clear e23
          clear hF
          go_simp
          exact hK _ _ (Ext.refl _) rfl
        refine ⟨fun y w' hS hF K hK => ?_, ?_⟩
        · skip -- 8: binOp
          have e20 : y 20 = _ := hF.1
          have e24 : y 24 = _ := hF.2.1
          simp only [fillL, cond_true, cond_false, List.getD_cons_zero, List.getD_cons_succ, StP.is, Act.put, List.setIfInBounds_toArray, List.set_cons_zero, List.set_cons_succ, Nat.reduceAdd, e20, e24] at hK ⊢
          refine rg_yes (by kernel_rfl) ?_
          clear e20 e24
          clear hF
          go_simp
          exact hK _ _ (Ext.refl _) rfl
        trivial
      case hend =>
        intro z_ w3 hX hF
        have e25 : z_ 25 = _ := hF.2.2.2.2.2.2.2.2.1
        clear hF
        simp only [fillL, cond_true, cond_false, Nat.reduceAdd, e25]
        clear e25
        have HB3 : Hid (Below w.heap.size w w3) := Lib.hid (hB.trans (Below.mono hX hB.size))
        clear hX
        go_wp2_with fail
        go_roundw
        case rel => exact ⟨k + 1, by omega, by go_num, HB3.out⟩
        case measure => simp [RowKit.intOf]; omega
    · obtain rfl : k = m := by omega
      go_wp2_with fail
      go_ret
      exact ⟨rfl, hB⟩
set_option maxRecDepth 100000 in
set_option maxHeartbeats 8000000 in
theorem fnRootList_walk (A : Option Addr) (n c : Nat) (zs : List Int) (w : World) (he : Env w) (h : BytesIn w A n c zs) :
    Calls Tryz.prog 6 #[.slice A n c] w fun e w' => e = .returned (.bool true) ∧ Below w.heap.size w w' := by
  go_enter Tryz.func6, Tryz.ntmps6
  by_cases hb : 1048576 < n
  · have h0 : (1048576 : Int) < (n : Int) := by omega
    go_wp2_with fail
    go_ret
    exact ⟨rfl, Below.refl _ _⟩
  have h0 : ¬ (1048576 : Int) < (n : Int) := by omega
  have h1 : (n : Int) ≤ 1048576 := by omega
  go_wp2_with fail
  refine (drawRootList_any A n c zs _ h).mono ?_
  rintro e w1 ⟨g, c3, x, rfl, hx, hb1⟩
  have HX := Lib.hid hx; have HB1 := Lib.hid hb1
  clear hx hb1
  go_wp2_with fail
  refine (rootList_any _ x _ w.heap.size w1.heap.size (he.below (Below.alloc HB1.out HB1.out.size _)) (RaidR.below bel1 (Nat.le_refl _) _ _ HX.out)).mono ?_
  rintro e w2 ⟨A1, c1, S1, ys, rfl, hRA, hRT, hb2⟩
  have c0 : w2.cell? ⟨w1.heap.size, 0, none⟩ = some (.slice (some ⟨g, 0, none⟩) 3 c3) := (hb2.cell (by simp)).trans (by simp [go_sem])
  have l1 : w1.heap.size < w2.heap.size := World.block_lt_of_cell? _ _ c0
  have HX2 := Lib.hid (RaidR.below (bel1.trans (hb2.mono (by simp))) (Nat.le_refl _) _ _ HX.out)
  have HB2 := Lib.hid ((Below.alloc HB1.out HB1.out.size _).trans (hb2.mono (by have := HB1.out.size; simp; omega)))
  have HRA := Lib.hid hRA; have HRT := Lib.hid hRT
  clear hb2 HX HB1 hRA hRT
  go_wp2_with fail
  refine (spRootList_any _ x _ w.heap.size w1.heap.size HX2.out).mono ?_
  rintro e w3 ⟨A2, c2, S2, ys', rfl, hRA', hRT', hb3⟩
  obtain rfl := HRA.out.one hRA'
  have c0' := (hb3.cell l1).trans c0
  have l1' : w1.heap.size < w3.heap.size := World.block_lt_of_cell? _ _ c0'
  have HX3 := Lib.hid (RaidR.below hb3 (by omega) _ _ HX2.out)
  have HRT3 := Lib.hid (HRT.out.below hb3)
  have HB3 := Lib.hid (HB2.out.trans (hb3.mono HB2.out.size))
  clear hb3 HX2 HRT HB2 c0 l1 hRA'
  go_wp2_with fail
  refine (pfRoots_yes A1 A2 ys.length c1 ys.length c2 ys _ _ _ _ _ HRT3.out.slice.1 hRT'.slice.1).mono ?_
  rintro e w4 ⟨rfl, hb4⟩
  have c0 := (hb4.cell l1').trans c0'
  have l1 : w1.heap.size < w4.heap.size := World.block_lt_of_cell? _ _ c0
  have HX4 := Lib.hid (RaidR.below hb4 (by omega) _ _ HX3.out)
  have HRT4 := Lib.hid (HRT3.out.below hb4)
  have HB4 := Lib.hid (HB3.out.trans (hb4.mono HB3.out.size))
  have C0 := Lib.hid c0
  clear hb4 HX3 HRT3 HB3 c0' l1' hRT' c0
  by_cases hy0 : ys.length = 0
  · have d0 : ¬ (0 : Int) < (ys.length : Int) := by omega
    have d1 : ¬ 0 < ys.length := by omega
    go_wp2_with fail
    go_ret
    exact ⟨rfl, HB4.out⟩
  have d0 : (0 : Int) < (ys.length : Int) := by omega
  have hok : raidOk x = true := by
    cases e : raidOk x with
    | true => rfl
    | false =>
      have := HRA.out
      unfold RootsAre at this
      rw [if_neg (by rw [e]; simp)] at this
      rw [this] at hy0; simp at hy0
  have HP : Hid (ys.Perm (rowsU x 4) ∧ ys.Pairwise DescR) := Lib.hid (by have := HRA.out; unfold RootsAre at this; rwa [if_pos hok] at this)
  have HOKR := Lib.hid hok; clear hok
  have hy4 := HRA.out.len
  have hlo : w.heap.size ≤ w4.heap.size := HB4.out.size
  have d2 : 0 < ys.length := by omega
  go_wp2_with fail
  go_loopw [7, 8] (fun a_ i wr => ∃ k : Nat, k ≤ 4 ∧ i = .int .i64 (k : Int) ∧ a_ = .int .i64 ((rowsU x k).length : Int) ∧ Hid (Below w4.heap.size w4 wr)) (fun _ i _ => 4 - (RowKit.intOf i).toNat)
  case atStart => exact ⟨0, Nat.zero_le _, rfl, rfl, Lib.hid (Below.refl _ _)⟩
  case round =>
    obtain ⟨k, hk, rfl, rfl, HB⟩ := hrel
    have q := (HB.out.cell l1).trans C0.out
    have lq : w1.heap.size < wr.heap.size := World.block_lt_of_cell? _ _ q
    have HBW := Lib.hid (HB4.out.trans (HB.out.mono hlo))
    by_cases hlt : k < 4
    · have k4 : (k : Int) < 4 := by omega
      have hul := rowsU_len x k
      obtain ⟨rd, hrd⟩ : ∃ r, r = rootAtR x (k : Int) := ⟨_, rfl⟩
      obtain ⟨rb, hrb⟩ : ∃ r, r = rootAtB x (k : Int) := ⟨_, rfl⟩
      have hat : atOk x (k : Int) = true := by unfold atOk inB; rw [HOKR.out]; simp; omega
      have hrd2 : rd = rootAtF x (k : Int) := by rw [hrd]; unfold rootAtR; rw [if_pos hat]
      have hrb2 : rb = decide (0 < rd.1) := by rw [hrb, hrd2]; unfold rootAtB; rw [hat]; simp
      have HRD := Lib.hid hrd; have HRB := Lib.hid hrb
      have HU : Hid (rowsU x (k + 1) = if rb = true then rowsU x k ++ [rd] else rowsU x k) := Lib.hid (by show (if _ then _ else _) = _; rw [← hrd2, hrb2]; by_cases hh : 0 < rd.1 <;> simp [hh])
      have HM : Hid (rb = true → rd ∈ ys) := Lib.hid (fun hh => HP.out.1.symm.subset (by rw [hrd2]; exact rowsU_has hlt (by rw [← hrd2]; rw [hrb2] at hh; exact of_decide_eq_true hh)))
      clear hrd hrb hrd2 hrb2 hat
      go_wp2_with fail
      refine (rootAtW_any _ x (k : Int) _ w.heap.size w1.heap.size (he.below HBW.out) (RaidR.below HB.out (by omega) _ _ HX4.out)).mono ?_
      rw [← HRD.out, ← HRB.out]
      rintro e w5 ⟨rfl, hb5⟩
      have HB5 := Lib.hid (HB.out.trans (hb5.mono HB.out.size))
      have z5 := HB5.out.size
      clear hb5 HBW HRD HRB HB q
      obtain ⟨t, ⟨a, b, s, m, l⟩, d, y⟩ := rd
      unfold rcA
      cases rb
      · have HUL : Hid ((rowsU x k).length = (rowsU x (k + 1)).length) := Lib.hid (by rw [HU.out]; rfl)
        go_wp2_with fail
        go_roundw
        case rel => exact ⟨k + 1, by omega, by go_num, by rw [HUL.out], Lib.hid (Below.alloc HB5.out z5 _)⟩
        case measure => simp [RowKit.intOf]; omega
      have HUL : Hid ((rowsU x (k + 1)).length = (rowsU x k).length + 1) := Lib.hid (by rw [HU.out]; simp)
      obtain ⟨w6, hw6⟩ : ∃ w6, w6 = w5.alloc (.cells #[.int .i64 t, .int .i64 a, .int .i64 b, .int .i64 s, .int .i64 m, .int .i64 l, .int .i64 d, .int .i64 y] 31) := ⟨_, rfl⟩
      have HB6 : Hid (Below w4.heap.size w4 w6) := Lib.hid (by rw [hw6]; exact Below.alloc HB5.out z5 _)
      have HX9 : Hid (w6.heap[w5.heap.size]? = some (.cells #[.int .i64 t, .int .i64 a, .int .i64 b, .int .i64 s, .int .i64 m, .int .i64 l, .int .i64 d, .int .i64 y] 31 (0, 0))) := Lib.hid (by rw [hw6]; exact heap_alloc_new _ _)
      have l6 : w5.heap.size < w6.heap.size := by rw [hw6]; simp
      have nu : IntKind.i64.wrap (((rowsU x k).length : Int) + 1) = ((rowsU x k).length : Int) + 1 := IntWalk.i64_in _ (by omega)
      go_wp2_with fail
      rw [← hw6]
      clear hw6 HB5
      go_wp2_with fail
      go_loopw [11, 12] (fun b_ i wr2 => ∃ (bb : Bool) (ii : Nat), b_ = .bool bb ∧ i = .int .i64 (ii : Int) ∧ ii ≤ ys.length ∧ Hid ((t, (a, b, s, m, l), d, y) ∈ ys.take ii → bb = true) ∧ Hid (Below w6.heap.size w6 wr2)) (fun _ i _ => ys.length - (RowKit.intOf i).toNat)
      case atStart => exact ⟨false, 0, rfl, rfl, Nat.zero_le _, Lib.hid (by simp), Lib.hid (Below.refl _ _)⟩
      case round =>
        obtain ⟨bb, ii, rfl, rfl, hii, HI, HB7⟩ := hrel
        have HBX := Lib.hid (HB6.out.trans (HB7.out.mono HB6.out.size))
        by_cases hil : ii < ys.length
        · obtain ⟨v, hv⟩ : ∃ v, ys[ii]? = some v := ⟨ys[ii], List.getElem?_eq_getElem hil⟩
          obtain ⟨g1, hg1, lg1, -, hcv⟩ := (HRT4.out.below HBX.out).at_ hv
          subst hg1
          have HV := Lib.hid hv; clear hv
          have hbx := (HB7.out.block _ l6).trans HX9.out
          have l9 : w5.heap.size < wr.heap.size := (Array.getElem?_eq_some_iff.1 hbx).1
          have i00 : (0 : Int) ≤ (ii : Int) := by omega
          have i01 : (ii : Int) < (ys.length : Int) := by omega
          have HTK : Hid (ys.take (ii + 1) = ys.take ii ++ [v]) := Lib.hid (by rw [List.take_add_one, HV.out]; rfl)
          obtain ⟨t', ⟨a', b', s', m', l'⟩, d', y'⟩ := v
          have v0 := hcv 0 _ rfl; have v1 := hcv 1 _ rfl; have v2 := hcv 2 _ rfl; have v3 := hcv 3 _ rfl; have v4 := hcv 4 _ rfl; have v5 := hcv 5 _ rfl; have v6 := hcv 6 _ rfl; have v7 := hcv 7 _ rfl
          have x0 := cell_of_row _ _ 0 _ _ (0, 0) hbx; have x1 := cell_of_row _ _ 1 _ _ (0, 0) hbx; have x2 := cell_of_row _ _ 2 _ _ (0, 0) hbx; have x3 := cell_of_row _ _ 3 _ _ (0, 0) hbx; have x4 := cell_of_row _ _ 4 _ _ (0, 0) hbx; have x5 := cell_of_row _ _ 5 _ _ (0, 0) hbx; have x6 := cell_of_row _ _ 6 _ _ (0, 0) hbx; have x7 := cell_of_row _ _ 7 _ _ (0, 0) hbx
          simp only [Nat.add_zero] at v0
          clear hcv hbx
          cases bb
          case true =>
            go_wp2_with fail
            apply wp_region_rgt (by kernel_rfl) 9 11 (false :: false :: false :: false :: false :: false :: false :: false :: false :: false :: false :: true :: false :: false :: false :: false :: false :: false :: false :: false :: false :: false :: false :: false :: false :: false :: false :: false :: false :: false :: false :: false :: false :: false :: false :: false :: false :: false :: false :: false :: false :: false :: false :: false :: false :: false :: false :: false :: false :: false :: false :: false :: false :: false :: false :: true :: true :: true :: true :: true :: true :: true :: true :: true :: false :: false :: false :: false :: false :: false :: false :: false :: false :: false :: false :: false :: false :: false :: false :: false :: false :: false :: false :: false :: false :: false :: false :: false :: []) [some 55, some 56, some 57, some 58, some 59, some 60, some 61, some 62, some 63, some 11] [[], [0], [1], [1], [1, 2, 3], [1, 4], [1], [1, 5, 6], [1, 7], [8]] [StP.is _, StP.is _, StP.is _, StP.is _, StP.is _, StP.is _, StP.is _, StP.is _, StP.is _, StP.is _] (by kernel_rfl) (by kernel_rfl)
            case hobs =>
              refine ⟨fun y w' hS hz hF K hK => ?_, ?_⟩
              · skip -- 0: move
                have ez : y 11 = .bool true := hz
                clear hz
                simp only [fillL, cond_true, cond_false, List.getD_cons_zero, List.getD_cons_succ, StP.is, Act.put, List.setIfInBounds_toArray, List.set_cons_zero, List.set_cons_succ, Nat.reduceAdd, ez] at hK ⊢
                refine rg_yes (by kernel_rfl) ?_
                clear ez
                clear hF
                go_simp
                exact hK _ _ (Ext.refl _) rfl
              refine ⟨fun y w' hS hz hF K hK => ?_, ?_⟩
              · skip -- 1: move
                have e55 : y 55 = _ := hF.1
                clear hz
                simp only [fillL, cond_true, cond_false, List.getD_cons_zero, List.getD_cons_succ, StP.is, Act.put, List.setIfInBounds_toArray, List.set_cons_zero, List.set_cons_succ, Nat.reduceAdd, e55] at hK ⊢
                refine rg_yes (by kernel_rfl) ?_
                clear e55
                clear hF
                go_simp
                exact hK _ _ (Ext.refl _) rfl
              refine ⟨fun y w' hS hz hF K hK => ?_, ?_⟩
              · skip -- 2: move
                have e56 : y 56 = _ := hF.1
                clear hz
                simp only [fillL, cond_true, cond_false, List.getD_cons_zero, List.getD_cons_succ, StP.is, Act.put, List.setIfInBounds_toArray, List.set_cons_zero, List.set_cons_succ, Nat.reduceAdd, e56] at hK ⊢
                refine rg_no (by kernel_rfl) ?_
                exact hK _ _ (Ext.refl _) rfl
              refine ⟨fun y w' hS hz hF K hK => ?_, ?_⟩
              · skip -- 3: move
                have e56 : y 56 = _ := hF.1
                clear hz
                simp only [fillL, cond_true, cond_false, List.getD_cons_zero, List.getD_cons_succ, StP.is, Act.put, List.setIfInBounds_toArray, List.set_cons_zero, List.set_cons_succ, Nat.reduceAdd, e56] at hK ⊢
                refine rg_no (by kernel_rfl) ?_
                exact hK _ _ (Ext.refl _) rfl
              refine ⟨fun y w' hS hz hF K hK => ?_, ?_⟩
              · skip -- 4: indexAddr
                have e56 : y 56 = _ := hF.1
                have e57 : y 57 = _ := hF.2.1
                have e58 : y 58 = _ := hF.2.2.1
                clear hz
                simp only [fillL, cond_true, cond_false, List.getD_cons_zero, List.getD_cons_succ, StP.is, Act.put, List.setIfInBounds_toArray, List.set_cons_zero, List.set_cons_succ, Nat.reduceAdd, e56, e57, e58] at hK ⊢
                refine rg_no (by kernel_rfl) ?_
                exact hK _ _ (Ext.refl _) rfl
              refine ⟨fun y w' hS hz hF K hK => ?_, ?_⟩
              · skip -- 5: load
                have e56 : y 56 = _ := hF.1
                have e59 : y 59 = _ := hF.2.1
                clear hz
                simp only [fillL, cond_true, cond_false, List.getD_cons_zero, List.getD_cons_succ, StP.is, Act.put, List.setIfInBounds_toArray, List.set_cons_zero, List.set_cons_succ, Nat.reduceAdd, e56, e59] at hK ⊢
                refine rg_no (by kernel_rfl) ?_
                exact hK _ _ (Ext.refl _) rfl
              refine ⟨fun y w' hS hz hF K hK => ?_, ?_⟩
              · skip -- 6: load
                have e56 : y 56 = _ := hF.1
                clear hz
                simp only [fillL, cond_true, cond_false, List.getD_cons_zero, List.getD_cons_succ, StP.is, Act.put, List.setIfInBounds_toArray, List.set_cons_zero, List.set_cons_succ, Nat.reduceAdd, e56] at hK ⊢
                refine rg_no (by kernel_rfl) ?_
                exact hK _ _ (Ext.refl _) rfl
              refine ⟨fun y w' hS hz hF K hK => ?_, ?_⟩
              · skip -- 7: binOp
                have e56 : y 56 = _ := hF.1
                have e60 : y 60 = _ := hF.2.1
                have e61 : y 61 = _ := hF.2.2.1
                clear hz
                simp only [fillL, cond_true, cond_false, List.getD_cons_zero, List.getD_cons_succ, StP.is, Act.put, List.setIfInBounds_toArray, List.set_cons_zero, List.set_cons_succ, Nat.reduceAdd, e56, e60, e61] at hK ⊢
                refine rg_no (by kernel_rfl) ?_
                exact hK _ _ (Ext.refl _) rfl
              refine ⟨fun y w' hS hz hF K hK => ?_, ?_⟩
              · skip -- 8: pick
                have e56 : y 56 = _ := hF.1
                have e62 : y 62 = _ := hF.2.1
                clear hz
                simp only [fillL, cond_true, cond_false, List.getD_cons_zero, List.getD_cons_succ, StP.is, Act.put, List.setIfInBounds_toArray, List.set_cons_zero, List.set_cons_succ, Nat.reduceAdd, e56, e62] at hK ⊢
                refine rg_yes (by kernel_rfl) ?_
                clear e56 e62
                clear hF
                go_simp
                exact hK _ _ (Ext.refl _) rfl
              refine ⟨fun y w' hS hz hF K hK => ?_, ?_⟩
              · skip -- 9: assign
                have e63 : y 63 = _ := hF.1
                clear hz
                simp only [fillL, cond_true, cond_false, List.getD_cons_zero, List.getD_cons_succ, StP.is, Act.put, List.setIfInBounds_toArray, List.set_cons_zero, List.set_cons_succ, Nat.reduceAdd, e63] at hK ⊢
                refine rg_yes (by kernel_rfl) ?_
                clear e63
                clear hF
                go_simp
                exact hK _ _ (Ext.refl _) rfl
              trivial
            case hend =>
              intro z_ w8 hX hF
              have e11 : z_ 11 = _ := hF.2.2.2.2.2.2.2.2.2.1
              clear hF
              simp only [fillL, cond_true, cond_false, Nat.reduceAdd, e11]
              clear e11
              have HB8 : Hid (Below w6.heap.size w6 w8) := Lib.hid (HB7.out.trans (Below.mono hX HB7.out.size))
              clear hX
              go_wp2_with fail
              go_roundw
              case rel => exact ⟨_, ii + 1, rfl, by go_num, by omega, Lib.hid (fun _ => rfl), HB8⟩
              case measure => simp [RowKit.intOf]; omega
          case false =>
            by_cases hvv : (t, (a, b, s, m, l), d, y) = (t', (a', b', s', m', l'), d', y')
            case pos =>
              injection hvv with e1 e2; injection e2 with e2 e3; injection e2 with e4 e5; injection e5 with e5 e6; injection e6 with e6 e7; injection e7 with e7 e8; injection e3 with e9 e10
              subst e1 e4 e5 e6 e7 e8 e9 e10
              go_wp2_with fail
              apply wp_region_rgt (by kernel_rfl) 9 11 (false :: false :: false :: false :: false :: false :: false :: false :: false :: false :: false :: true :: false :: false :: false :: false :: false :: false :: false :: false :: false :: false :: false :: false :: false :: false :: false :: false :: false :: false :: false :: false :: false :: false :: false :: false :: false :: false :: false :: false :: false :: false :: false :: false :: false :: false :: false :: false :: false :: false :: false :: false :: false :: false :: false :: true :: true :: true :: true :: true :: true :: true :: true :: true :: false :: false :: false :: false :: false :: false :: false :: false :: false :: false :: false :: false :: false :: false :: false :: false :: false :: false :: false :: false :: false :: false :: false :: false :: []) [some 55, some 56, some 57, some 58, some 59, some 60, some 61, some 62, some 63, some 11] [[], [0], [1], [1], [1, 2, 3], [1, 4], [1], [1, 5, 6], [1, 7], [8]] [StP.is _, StP.is _, StP.is _, StP.is _, StP.is _, StP.is _, StP.is _, StP.is _, StP.is _, StP.is _] (by kernel_rfl) (by kernel_rfl)
              case hobs =>
                refine ⟨fun y w' hS hz hF K hK => ?_, ?_⟩
                · skip -- 0: move
                  have ez : y 11 = .bool false := hz
                  clear hz
                  simp only [fillL, cond_true, cond_false, List.getD_cons_zero, List.getD_cons_succ, StP.is, Act.put, List.setIfInBounds_toArray, List.set_cons_zero, List.set_cons_succ, Nat.reduceAdd, ez] at hK ⊢
                  refine rg_yes (by kernel_rfl) ?_
                  clear ez
                  clear hF
                  go_simp
                  exact hK _ _ (Ext.refl _) rfl
                refine ⟨fun y w' hS hz hF K hK => ?_, ?_⟩
                · skip -- 1: move
                  have e55 : y 55 = _ := hF.1
                  clear hz
                  simp only [fillL, cond_true, cond_false, List.getD_cons_zero, List.getD_cons_succ, StP.is, Act.put, List.setIfInBounds_toArray, List.set_cons_zero, List.set_cons_succ, Nat.reduceAdd, e55] at hK ⊢
                  refine rg_yes (by kernel_rfl) ?_
                  clear e55
                  clear hF
                  go_simp
                  exact hK _ _ (Ext.refl _) rfl
                refine ⟨fun y w' hS hz hF K hK => ?_, ?_⟩
                · skip -- 2: move
                  have e56 : y 56 = _ := hF.1
                  clear hz
                  simp only [fillL, cond_true, cond_false, List.getD_cons_zero, List.getD_cons_succ, StP.is, Act.put, List.setIfInBounds_toArray, List.set_cons_zero, List.set_cons_succ, Nat.reduceAdd, e56] at hK ⊢
                  refine rg_yes (by kernel_rfl) ?_
                  clear e56
                  clear hF
                  go_simp
                  exact hK _ _ (Ext.refl _) rfl
                refine ⟨fun y w' hS hz hF K hK => ?_, ?_⟩
                · skip -- 3: move
                  have e56 : y 56 = _ := hF.1
                  clear hz
                  simp only [fillL, cond_true, cond_false, List.getD_cons_zero, List.getD_cons_succ, StP.is, Act.put, List.setIfInBounds_toArray, List.set_cons_zero, List.set_cons_succ, Nat.reduceAdd, e56] at hK ⊢
                  refine rg_yes (by kernel_rfl) ?_
                  clear e56
                  clear hF
                  go_simp
                  exact hK _ _ (Ext.refl _) rfl
                refine ⟨fun y w' hS hz hF K hK => ?_, ?_⟩
                · skip -- 4: indexAddr
                  have e56 : y 56 = _ := hF.1
                  have e57 : y 57 = _ := hF.2.1
                  have e58 : y 58 = _ := hF.2.2.1
                  clear hz
                  simp only [fillL, cond_true, cond_false, List.getD_cons_zero, List.getD_cons_succ, StP.is, Act.put, List.setIfInBounds_toArray, List.set_cons_zero, List.set_cons_succ, Nat.reduceAdd, e56, e57, e58] at hK ⊢
                  refine rg_yes (by kernel_rfl) ?_
                  clear e56 e57 e58
                  clear hF
                  go_simp
                  exact hK _ _ (Ext.refl _) rfl
                refine ⟨fun y w' hS hz hF K hK => ?_, ?_⟩
                · skip -- 5: load
                  have e56 : y 56 = _ := hF.1
                  have e59 : y 59 = _ := hF.2.1
                  clear hz
                  simp only [fillL, cond_true, cond_false, List.getD_cons_zero, List.getD_cons_succ, StP.is, Act.put, List.setIfInBounds_toArray, List.set_cons_zero, List.set_cons_succ, Nat.reduceAdd, e56, e59] at hK ⊢
                  refine rg_yes (by kernel_rfl) ?_
                  have qx0_ := (Below.cell hS lg1).trans v0
                  have qx1_ := (Below.cell hS lg1).trans v1
                  have qx2_ := (Below.cell hS lg1).trans v2
                  have qx3_ := (Below.cell hS lg1).trans v3
                  have qx4_ := (Below.cell hS lg1).trans v4
                  have qx5_ := (Below.cell hS lg1).trans v5
                  have qx6_ := (Below.cell hS lg1).trans v6
                  have qx7_ := (Below.cell hS lg1).trans v7
                  have qx8_ := (Below.cell hS l9).trans x0
                  have qx9_ := (Below.cell hS l9).trans x1
                  have qx10_ := (Below.cell hS l9).trans x2
                  have qx11_ := (Below.cell hS l9).trans x3
                  have qx12_ := (Below.cell hS l9).trans x4
                  have qx13_ := (Below.cell hS l9).trans x5
                  have qx14_ := (Below.cell hS l9).trans x6
                  have qx15_ := (Below.cell hS l9).trans x7
                  clear e56 e59
                  clear hF
                  go_simp
                  exact hK _ _ (Ext.refl _) rfl
                refine ⟨fun y w' hS hz hF K hK => ?_, ?_⟩
                · skip -- 6: load
                  have e56 : y 56 = _ := hF.1
                  clear hz
                  simp only [fillL, cond_true, cond_false, List.getD_cons_zero, List.getD_cons_succ, StP.is, Act.put, List.setIfInBounds_toArray, List.set_cons_zero, List.set_cons_succ, Nat.reduceAdd, e56] at hK ⊢
                  refine rg_yes (by kernel_rfl) ?_
                  have qx0_ := (Below.cell hS lg1).trans v0
                  have qx1_ := (Below.cell hS lg1).trans v1
                  have qx2_ := (Below.cell hS lg1).trans v2
                  have qx3_ := (Below.cell hS lg1).trans v3
                  have qx4_ := (Below.cell hS lg1).trans v4
                  have qx5_ := (Below.cell hS lg1).trans v5
                  have qx6_ := (Below.cell hS lg1).trans v6
                  have qx7_ := (Below.cell hS lg1).trans v7
                  have qx8_ := (Below.cell hS l9).trans x0
                  have qx9_ := (Below.cell hS l9).trans x1
                  have qx10_ := (Below.cell hS l9).trans x2
                  have qx11_ := (Below.cell hS l9).trans x3
                  have qx12_ := (Below.cell hS l9).trans x4
                  have qx13_ := (Below.cell hS l9).trans x5
                  have qx14_ := (Below.cell hS l9).trans x6
                  have qx15_ := (Below.cell hS l9).trans x7
                  clear e56
                  clear hF
                  go_simp
                  exact hK _ _ (Ext.refl _) rfl
                refine ⟨fun y w' hS hz hF K hK => ?_, ?_⟩
                · skip -- 7: binOp
                  have e56 : y 56 = _ := hF.1
                  have e60 : y 60 = _ := hF.2.1
                  have e61 : y 61 = _ := hF.2.2.1
                  clear hz
                  simp only [fillL, cond_true, cond_false, List.getD_cons_zero, List.getD_cons_succ, StP.is, Act.put, List.setIfInBounds_toArray, List.set_cons_zero, List.set_cons_succ, Nat.reduceAdd, e56, e60, e61] at hK ⊢
                  refine rg_yes (by kernel_rfl) ?_
                  clear e56 e60 e61
                  clear hF
                  go_simp
                  exact hK _ _ (Ext.refl _) rfl
                refine ⟨fun y w' hS hz hF K hK => ?_, ?_⟩
                · skip -- 8: pick
                  have e56 : y 56 = _ := hF.1
                  have e62 : y 62 = _ := hF.2.1
                  clear hz
                  simp only [fillL, cond_true, cond_false, List.getD_cons_zero, List.getD_cons_succ, StP.is, Act.put, List.setIfInBounds_toArray, List.set_cons_zero, List.set_cons_succ, Nat.reduceAdd, e56, e62] at hK ⊢
                  refine rg_yes (by kernel_rfl) ?_
                  clear e56 e62
                  clear hF
                  go_simp
                  exact hK _ _ (Ext.refl _) rfl
                refine ⟨fun y w' hS hz hF K hK => ?_, ?_⟩
                · skip -- 9: assign
                  have e63 : y 63 = _ := hF.1
                  clear hz
                  simp only [fillL, cond_true, cond_false, List.getD_cons_zero, List.getD_cons_succ, StP.is, Act.put, List.setIfInBounds_toArray, List.set_cons_zero, List.set_cons_succ, Nat.reduceAdd, e63] at hK ⊢
                  refine rg_yes (by kernel_rfl) ?_
                  clear e63
                  clear hF
                  go_simp
                  exact hK _ _ (Ext.refl _) rfl
                trivial
              case hend =>
                intro z_ w8 hX hF
                have e11 : z_ 11 = _ := hF.2.2.2.2.2.2.2.2.2.1
                clear hF
                simp only [fillL, cond_true, cond_false, Nat.reduceAdd, e11]
                clear e11
                have HB8 : Hid (Below w6.heap.size w6 w8) := Lib.hid (HB7.out.trans (Below.mono hX HB7.out.size))
                clear hX
                go_wp2_with fail
                go_roundw
                case rel => exact ⟨_, ii + 1, rfl, by go_num, by omega, Lib.hid (fun _ => by simp), HB8⟩
                case measure => simp [RowKit.intOf]; omega
            case neg =>
              have HN : Hid (¬ (t' = t ∧ a' = a ∧ b' = b ∧ s' = s ∧ m' = m ∧ l' = l ∧ d' = d ∧ y' = y)) := Lib.hid (fun ⟨e1, e2, e3, e4, e5, e6, e7, e8⟩ => hvv (by rw [e1, e2, e3, e4, e5, e6, e7, e8]))
              go_wp2_with fail
              apply wp_region_rgt (by kernel_rfl) 9 11 (false :: false :: false :: false :: false :: false :: false :: false :: false :: false :: false :: true :: false :: false :: false :: false :: false :: false :: false :: false :: false :: false :: false :: false :: false :: false :: false :: false :: false :: false :: false :: false :: false :: false :: false :: false :: false :: false :: false :: false :: false :: false :: false :: false :: false :: false :: false :: false :: false :: false :: false :: false :: false :: false :: false :: true :: true :: true :: true :: true :: true :: true :: true :: true :: false :: false :: false :: false :: false :: false :: false :: false :: false :: false :: false :: false :: false :: false :: false :: false :: false :: false :: false :: false :: false :: false :: false :: false :: []) [some 55, some 56, some 57, some 58, some 59, some 60, some 61, some 62, some 63, some 11] [[], [0], [1], [1], [1, 2, 3], [1, 4], [1], [1, 5, 6], [1, 7], [8]] [StP.is _, StP.is _, StP.is _, StP.is _, StP.is _, StP.is _, StP.is _, StP.is _, StP.is _, StP.is _] (by kernel_rfl) (by kernel_rfl)
              case hobs =>
                refine ⟨fun y w' hS hz hF K hK => ?_, ?_⟩
                · skip -- 0: move
                  have ez : y 11 = .bool false := hz
                  clear hz
                  simp only [fillL, cond_true, cond_false, List.getD_cons_zero, List.getD_cons_succ, StP.is, Act.put, List.setIfInBounds_toArray, List.set_cons_zero, List.set_cons_succ, Nat.reduceAdd, ez] at hK ⊢
                  refine rg_yes (by kernel_rfl) ?_
                  clear ez
                  clear hF
                  go_simp
                  exact hK _ _ (Ext.refl _) rfl
                refine ⟨fun y w' hS hz hF K hK => ?_, ?_⟩
                · skip -- 1: move
                  have e55 : y 55 = _ := hF.1
                  clear hz
                  simp only [fillL, cond_true, cond_false, List.getD_cons_zero, List.getD_cons_succ, StP.is, Act.put, List.setIfInBounds_toArray, List.set_cons_zero, List.set_cons_succ, Nat.reduceAdd, e55] at hK ⊢
                  refine rg_yes (by kernel_rfl) ?_
                  clear e55
                  clear hF
                  go_simp
                  exact hK _ _ (Ext.refl _) rfl
                refine ⟨fun y w' hS hz hF K hK => ?_, ?_⟩
                · skip -- 2: move
                  have e56 : y 56 = _ := hF.1
                  clear hz
                  simp only [fillL, cond_true, cond_false, List.getD_cons_zero, List.getD_cons_succ, StP.is, Act.put, List.setIfInBounds_toArray, List.set_cons_zero, List.set_cons_succ, Nat.reduceAdd, e56] at hK ⊢
                  refine rg_yes (by kernel_rfl) ?_
                  clear e56
                  clear hF
                  go_simp
                  exact hK _ _ (Ext.refl _) rfl
                refine ⟨fun y w' hS hz hF K hK => ?_, ?_⟩
                · skip -- 3: move
                  have e56 : y 56 = _ := hF.1
                  clear hz
                  simp only [fillL, cond_true, cond_false, List.getD_cons_zero, List.getD_cons_succ, StP.is, Act.put, List.setIfInBounds_toArray, List.set_cons_zero, List.set_cons_succ, Nat.reduceAdd, e56] at hK ⊢
                  refine rg_yes (by kernel_rfl) ?_
                  clear e56
                  clear hF
                  go_simp
                  exact hK _ _ (Ext.refl _) rfl
                refine ⟨fun y w' hS hz hF K hK => ?_, ?_⟩
                · skip -- 4: indexAddr
                  have e56 : y 56 = _ := hF.1
                  have e57 : y 57 = _ := hF.2.1
                  have e58 : y 58 = _ := hF.2.2.1
                  clear hz
                  simp only [fillL, cond_true, cond_false, List.getD_cons_zero, List.getD_cons_succ, StP.is, Act.put, List.setIfInBounds_toArray, List.set_cons_zero, List.set_cons_succ, Nat.reduceAdd, e56, e57, e58] at hK ⊢
                  refine rg_yes (by kernel_rfl) ?_
                  clear e56 e57 e58
                  clear hF
                  go_simp
                  exact hK _ _ (Ext.refl _) rfl
                refine ⟨fun y w' hS hz hF K hK => ?_, ?_⟩
                · skip -- 5: load
                  have e56 : y 56 = _ := hF.1
                  have e59 : y 59 = _ := hF.2.1
                  clear hz
                  simp only [fillL, cond_true, cond_false, List.getD_cons_zero, List.getD_cons_succ, StP.is, Act.put, List.setIfInBounds_toArray, List.set_cons_zero, List.set_cons_succ, Nat.reduceAdd, e56, e59] at hK ⊢
                  refine rg_yes (by kernel_rfl) ?_
                  have qx0_ := (Below.cell hS lg1).trans v0
                  have qx1_ := (Below.cell hS lg1).trans v1
                  have qx2_ := (Below.cell hS lg1).trans v2
                  have qx3_ := (Below.cell hS lg1).trans v3
                  have qx4_ := (Below.cell hS lg1).trans v4
                  have qx5_ := (Below.cell hS lg1).trans v5
                  have qx6_ := (Below.cell hS lg1).trans v6
                  have qx7_ := (Below.cell hS lg1).trans v7
                  have qx8_ := (Below.cell hS l9).trans x0
                  have qx9_ := (Below.cell hS l9).trans x1
                  have qx10_ := (Below.cell hS l9).trans x2
                  have qx11_ := (Below.cell hS l9).trans x3
                  have qx12_ := (Below.cell hS l9).trans x4
                  have qx13_ := (Below.cell hS l9).trans x5
                  have qx14_ := (Below.cell hS l9).trans x6
                  have qx15_ := (Below.cell hS l9).trans x7
                  clear e56 e59
                  clear hF
                  go_simp
                  exact hK _ _ (Ext.refl _) rfl
                refine ⟨fun y w' hS hz hF K hK => ?_, ?_⟩
                · skip -- 6: load
                  have e56 : y 56 = _ := hF.1
                  clear hz
                  simp only [fillL, cond_true, cond_false, List.getD_cons_zero, List.getD_cons_succ, StP.is, Act.put, List.setIfInBounds_toArray, List.set_cons_zero, List.set_cons_succ, Nat.reduceAdd, e56] at hK ⊢
                  refine rg_yes (by kernel_rfl) ?_
                  have qx0_ := (Below.cell hS lg1).trans v0
                  have qx1_ := (Below.cell hS lg1).trans v1
                  have qx2_ := (Below.cell hS lg1).trans v2
                  have qx3_ := (Below.cell hS lg1).trans v3
                  have qx4_ := (Below.cell hS lg1).trans v4
                  have qx5_ := (Below.cell hS lg1).trans v5
                  have qx6_ := (Below.cell hS lg1).trans v6
                  have qx7_ := (Below.cell hS lg1).trans v7
                  have qx8_ := (Below.cell hS l9).trans x0
                  have qx9_ := (Below.cell hS l9).trans x1
                  have qx10_ := (Below.cell hS l9).trans x2
                  have qx11_ := (Below.cell hS l9).trans x3
                  have qx12_ := (Below.cell hS l9).trans x4
                  have qx13_ := (Below.cell hS l9).trans x5
                  have qx14_ := (Below.cell hS l9).trans x6
                  have qx15_ := (Below.cell hS l9).trans x7
                  clear e56
                  clear hF
                  go_simp
                  exact hK _ _ (Ext.refl _) rfl
                refine ⟨fun y w' hS hz hF K hK => ?_, ?_⟩
                · skip -- 7: binOp
                  have e56 : y 56 = _ := hF.1
                  have e60 : y 60 = _ := hF.2.1
                  have e61 : y 61 = _ := hF.2.2.1
                  clear hz
                  simp only [fillL, cond_true, cond_false, List.getD_cons_zero, List.getD_cons_succ, StP.is, Act.put, List.setIfInBounds_toArray, List.set_cons_zero, List.set_cons_succ, Nat.reduceAdd, e56, e60, e61] at hK ⊢
                  refine rg_yes (by kernel_rfl) ?_
                  clear e56 e60 e61
                  clear hF
                  go_simp
                  rw [ifs8 _ _ HN.out]
                  exact hK _ _ (Ext.refl _) rfl
                refine ⟨fun y w' hS hz hF K hK => ?_, ?_⟩
                · skip -- 8: pick
                  have e56 : y 56 = _ := hF.1
                  have e62 : y 62 = _ := hF.2.1
                  clear hz
                  simp only [fillL, cond_true, cond_false, List.getD_cons_zero, List.getD_cons_succ, StP.is, Act.put, List.setIfInBounds_toArray, List.set_cons_zero, List.set_cons_succ, Nat.reduceAdd, e56, e62] at hK ⊢
                  refine rg_yes (by kernel_rfl) ?_
                  clear e56 e62
                  clear hF
                  go_simp
                  exact hK _ _ (Ext.refl _) rfl
                refine ⟨fun y w' hS hz hF K hK => ?_, ?_⟩
                · skip -- 9: assign
                  have e63 : y 63 = _ := hF.1
                  clear hz
                  simp only [fillL, cond_true, cond_false, List.getD_cons_zero, List.getD_cons_succ, StP.is, Act.put, List.setIfInBounds_toArray, List.set_cons_zero, List.set_cons_succ, Nat.reduceAdd, e63] at hK ⊢
                  refine rg_yes (by kernel_rfl) ?_
                  clear e63
                  clear hF
                  go_simp
                  exact hK _ _ (Ext.refl _) rfl
                trivial
              case hend =>
                intro z_ w8 hX hF
                have e11 : z_ 11 = _ := hF.2.2.2.2.2.2.2.2.2.1
                clear hF
                simp only [fillL, cond_true, cond_false, Nat.reduceAdd, e11]
                clear e11
                have HB8 : Hid (Below w6.heap.size w6 w8) := Lib.hid (HB7.out.trans (Below.mono hX HB7.out.size))
                clear hX
                go_wp2_with fail
                go_roundw
                case rel => exact ⟨_, ii + 1, rfl, by go_num, by omega, Lib.hid (takeMem HTK.out hvv HI.out), HB8⟩
                case measure => simp [RowKit.intOf]; omega
        · obtain rfl : ii = ys.length := by omega
          obtain rfl : bb = true := HI.out (by rw [List.take_length]; exact HM.out (by first | trivial | rfl))
          go_wp2_with fail
          go_roundw
          case rel => exact ⟨k + 1, by omega, by go_num, by rw [HUL.out]; go_num, HBX⟩
          case measure => simp [RowKit.intOf]; omega
    · have hk4 : k = 4 := by omega
      have nk4 : ¬ (k : Int) < 4 := by omega
      have HLN : Hid ((rowsU x 4).length = ys.length) := Lib.hid HP.out.1.length_eq.symm
      go_wp2_with fail
      go_loopw [13] (fun i wr2 => ∃ jj : Nat, i = .int .i64 ((jj : Int) + 1) ∧ jj + 1 ≤ ys.length ∧ Hid (Below w4.heap.size w4 wr2)) (fun i _ => ys.length - (RowKit.intOf i).toNat)
      case atStart => exact ⟨0, rfl, by omega, HB⟩
      case round =>
        clear HB HBW q lq
        obtain ⟨jj, rfl, hjj, HB⟩ := hrel
        by_cases hjl : jj + 1 < ys.length
        · obtain ⟨u, hu⟩ : ∃ v, ys[jj]? = some v := ⟨ys[jj], List.getElem?_eq_getElem (by omega)⟩
          obtain ⟨v, hv⟩ : ∃ v, ys[jj + 1]? = some v := ⟨ys[jj + 1], List.getElem?_eq_getElem hjl⟩
          obtain ⟨g1, hg1, lg1, -, hcu⟩ := (HRT4.out.below HB.out).at_ hu
          subst hg1
          obtain ⟨g2, hg2, -, -, hcv⟩ := (HRT4.out.below HB.out).at_ hv
          injection hg2 with hg2; injection hg2 with hg2 _; subst hg2
          have hgt : v.1 < u.1 := by
            have hd := HP.out.2
            rw [List.pairwise_iff_getElem] at hd
            have := hd jj (jj + 1) (by omega) hjl (by omega)
            rw [List.getElem?_eq_getElem (by omega)] at hu hv
            injection hu with hu; injection hv with hv
            rw [hu, hv] at this
            exact this
          obtain ⟨u1, hu1⟩ : ∃ z, z = u.1 := ⟨_, rfl⟩
          obtain ⟨v1, hv1⟩ : ∃ z, z = v.1 := ⟨_, rfl⟩
          have cu : wr.cell? ⟨g1, jj * 8, none⟩ = some (.int .i64 u1) := by rw [hu1]; simpa using hcu 0 _ rfl
          have cv : wr.cell? ⟨g1, (jj + 1) * 8, none⟩ = some (.int .i64 v1) := by rw [hv1]; simpa using hcv 0 _ rfl
          have hle : ¬ u1 ≤ v1 := by omega
          have j00 : (0 : Int) ≤ (jj : Int) := by omega
          have j01 : (jj : Int) < (ys.length : Int) := by omega
          have j02 : (0 : Int) ≤ (jj : Int) + 1 := by omega
          have j03 : (jj : Int) + 1 < (ys.length : Int) := by omega
          have j04 : ((jj : Int) + 1).toNat = jj + 1 := by omega
          have j05 : IntKind.i64.wrap (jj : Int) = (jj : Int) := IntWalk.i64_in _ (by omega)
          clear hcu hcv hu hv hgt hu1 hv1
          go_wp2_with fail
          apply wp_region_rg (by kernel_rfl) (false :: false :: false :: false :: false :: false :: false :: false :: false :: false :: false :: false :: false :: false :: false :: false :: false :: false :: false :: false :: false :: false :: false :: false :: false :: false :: false :: false :: false :: false :: false :: false :: false :: false :: false :: false :: false :: false :: false :: false :: false :: false :: false :: false :: false :: false :: false :: false :: false :: false :: false :: false :: false :: false :: false :: false :: false :: false :: false :: false :: false :: false :: false :: false :: false :: false :: false :: false :: false :: false :: false :: false :: true :: true :: true :: true :: true :: true :: true :: true :: true :: true :: true :: true :: false :: false :: false :: false :: []) [some 72, some 73, some 74, some 75, some 76, some 77, some 78, some 79, some 80, some 81, some 82, some 83] [[], [], [1], [0, 2], [3], [4], [], [], [6, 7], [8], [9], [5, 10]] [StP.is _, StP.is _, StP.is _, StP.is _, StP.is _, StP.is _, StP.is _, StP.is _, StP.is _, StP.is _, StP.is _, StP.is _] (by kernel_rfl)
          case hobs =>
            refine ⟨fun y w' hS hF K hK => ?_, ?_⟩
            · skip -- 0: move
              simp only [fillL, cond_true, cond_false, List.getD_cons_zero, List.getD_cons_succ, StP.is, Act.put, List.setIfInBounds_toArray, List.set_cons_zero, List.set_cons_succ, Nat.reduceAdd] at hK ⊢
              refine rg_yes (by kernel_rfl) ?_
              clear hF
              go_simp
              exact hK _ _ (Ext.refl _) rfl
            refine ⟨fun y w' hS hF K hK => ?_, ?_⟩
            · skip -- 1: move
              simp only [fillL, cond_true, cond_false, List.getD_cons_zero, List.getD_cons_succ, StP.is, Act.put, List.setIfInBounds_toArray, List.set_cons_zero, List.set_cons_succ, Nat.reduceAdd] at hK ⊢
              refine rg_yes (by kernel_rfl) ?_
              clear hF
              go_simp
              exact hK _ _ (Ext.refl _) rfl
            refine ⟨fun y w' hS hF K hK => ?_, ?_⟩
            · skip -- 2: binOp
              have e73 : y 73 = _ := hF.1
              simp only [fillL, cond_true, cond_false, List.getD_cons_zero, List.getD_cons_succ, StP.is, Act.put, List.setIfInBounds_toArray, List.set_cons_zero, List.set_cons_succ, Nat.reduceAdd, e73] at hK ⊢
              refine rg_yes (by kernel_rfl) ?_
              clear e73
              clear hF
              go_simp
              exact hK _ _ (Ext.refl _) rfl
            refine ⟨fun y w' hS hF K hK => ?_, ?_⟩
            · skip -- 3: indexAddr
              have e72 : y 72 = _ := hF.1
              have e74 : y 74 = _ := hF.2.1
              simp only [fillL, cond_true, cond_false, List.getD_cons_zero, List.getD_cons_succ, StP.is, Act.put, List.setIfInBounds_toArray, List.set_cons_zero, List.set_cons_succ, Nat.reduceAdd, e72, e74] at hK ⊢
              refine rg_yes (by kernel_rfl) ?_
              clear e72 e74
              clear hF
              go_simp
              exact hK _ _ (Ext.refl _) rfl
            refine ⟨fun y w' hS hF K hK => ?_, ?_⟩
            · skip -- 4: fieldAddr
              have e75 : y 75 = _ := hF.1
              simp only [fillL, cond_true, cond_false, List.getD_cons_zero, List.getD_cons_succ, StP.is, Act.put, List.setIfInBounds_toArray, List.set_cons_zero, List.set_cons_succ, Nat.reduceAdd, e75] at hK ⊢
              refine rg_yes (by kernel_rfl) ?_
              clear e75
              clear hF
              go_simp
              exact hK _ _ (Ext.refl _) rfl
            refine ⟨fun y w' hS hF K hK => ?_, ?_⟩
            · skip -- 5: load
              have e76 : y 76 = _ := hF.1
              simp only [fillL, cond_true, cond_false, List.getD_cons_zero, List.getD_cons_succ, StP.is, Act.put, List.setIfInBounds_toArray, List.set_cons_zero, List.set_cons_succ, Nat.reduceAdd, e76] at hK ⊢
              refine rg_yes (by kernel_rfl) ?_
              have qx0_ := (Below.cell hS lg1).trans cu
              have qx1_ := (Below.cell hS lg1).trans cv
              clear e76
              clear hF
              go_simp
              exact hK _ _ (Ext.refl _) rfl
            refine ⟨fun y w' hS hF K hK => ?_, ?_⟩
            · skip -- 6: move
              simp only [fillL, cond_true, cond_false, List.getD_cons_zero, List.getD_cons_succ, StP.is, Act.put, List.setIfInBounds_toArray, List.set_cons_zero, List.set_cons_succ, Nat.reduceAdd] at hK ⊢
              refine rg_yes (by kernel_rfl) ?_
              clear hF
              go_simp
              exact hK _ _ (Ext.refl _) rfl
            refine ⟨fun y w' hS hF K hK => ?_, ?_⟩
            · skip -- 7: move
              simp only [fillL, cond_true, cond_false, List.getD_cons_zero, List.getD_cons_succ, StP.is, Act.put, List.setIfInBounds_toArray, List.set_cons_zero, List.set_cons_succ, Nat.reduceAdd] at hK ⊢
              refine rg_yes (by kernel_rfl) ?_
              clear hF
              go_simp
              exact hK _ _ (Ext.refl _) rfl
            refine ⟨fun y w' hS hF K hK => ?_, ?_⟩
            · skip -- 8: indexAddr
              have e78 : y 78 = _ := hF.1
              have e79 : y 79 = _ := hF.2.1
              simp only [fillL, cond_true, cond_false, List.getD_cons_zero, List.getD_cons_succ, StP.is, Act.put, List.setIfInBounds_toArray, List.set_cons_zero, List.set_cons_succ, Nat.reduceAdd, e78, e79] at hK ⊢
              refine rg_yes (by kernel_rfl) ?_
              clear e78 e79
              clear hF
              go_simp
              exact hK _ _ (Ext.refl _) rfl
            refine ⟨fun y w' hS hF K hK => ?_, ?_⟩
            · skip -- 9: fieldAddr
              have e80 : y 80 = _ := hF.1
              simp only [fillL, cond_true, cond_false, List.getD_cons_zero, List.getD_cons_succ, StP.is, Act.put, List.setIfInBounds_toArray, List.set_cons_zero, List.set_cons_succ, Nat.reduceAdd, e80] at hK ⊢
              refine rg_yes (by kernel_rfl) ?_
              clear e80
              clear hF
              go_simp
              exact hK _ _ (Ext.refl _) rfl
            refine ⟨fun y w' hS hF K hK => ?_, ?_⟩
            · skip -- 10: load
              have e81 : y 81 = _ := hF.1
              simp only [fillL, cond_true, cond_false, List.getD_cons_zero, List.getD_cons_succ, StP.is, Act.put, List.setIfInBounds_toArray, List.set_cons_zero, List.set_cons_succ, Nat.reduceAdd, e81] at hK ⊢
              refine rg_yes (by kernel_rfl) ?_
              have qx0_ := (Below.cell hS lg1).trans cu
              have qx1_ := (Below.cell hS lg1).trans cv
              clear e81
              clear hF
              go_simp
              exact hK _ _ (Ext.refl _) rfl
            refine ⟨fun y w' hS hF K hK => ?_, ?_⟩
            · skip -- 11: binOp
              have e77 : y 77 = _ := hF.1
              have e82 : y 82 = _ := hF.2.1
              simp only [fillL, cond_true, cond_false, List.getD_cons_zero, List.getD_cons_succ, StP.is, Act.put, List.setIfInBounds_toArray, List.set_cons_zero, List.set_cons_succ, Nat.reduceAdd, e77, e82] at hK ⊢
              refine rg_yes (by kernel_rfl) ?_
              clear e77 e82
              clear hF
              go_simp
              exact hK _ _ (Ext.refl _) rfl
            trivial
          case hend =>
            intro z_ w8 hX hF
            have e83 : z_ 83 = _ := hF.2.2.2.2.2.2.2.2.2.2.2.1
            clear hF
            simp only [fillL, cond_true, cond_false, Nat.reduceAdd, e83]
            clear e83
            have HB8 : Hid (Below w4.heap.size w4 w8) := Lib.hid (HB.out.trans (Below.mono hX HB.out.size))
            clear hX
            go_wp2_with fail
            go_roundw
            case rel => exact ⟨jj + 1, by go_num, by omega, HB8⟩
            case measure => simp [RowKit.intOf]; omega
        · have hje : jj + 1 = ys.length := by omega
          have j03 : ¬ (jj : Int) + 1 < (ys.length : Int) := by omega
          have hln := HLN.out
          have e1 : (((rowsU x 4).length : Int) == (ys.length : Int)) = true := by rw [hln]; simp
          go_wp2_with fail
          go_ret
          exact ⟨ret_bool (by simp [hln]), HB4.out.trans (HB.out.mono hlo)⟩
end Go.Proofs.YtcfgbeajdkbbcaaGreatDoor
