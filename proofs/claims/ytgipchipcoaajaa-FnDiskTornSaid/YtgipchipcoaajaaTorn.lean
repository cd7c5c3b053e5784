/- DiskFlush both, at all disks; DiskCrash by mask 0 and tear 0. No condition. -/
import Derived.Test.YtgipchipcoaajaaFlush
import Derived.Test.YtgipchipcoaajaaDiskCopy
namespace Go.Proofs.Ytgipchipcoaajaa
set_option linter.unusedSimpArgs false
set_option linter.unnecessarySimpa false
open Go.RowKit
set_option linter.unusedVariables false
/-- A disk flushed. -/
def flushD (x : DiskD) : DiskD := if diskOk x = true then settleD flushF x else ([], [], false)
theorem bareN {w : World} {lo hi : Nat} {A B : Option Addr} (h : hi ≤ w.heap.size) : DiskN w lo hi [.slice A 0 0, .slice B 0 0, .bool false] ([], [], false) :=
  ⟨_, _, _, _, _, _, rfl, ⟨rfl, Nat.le_refl _, Nat.zero_le _, h, fun _ => rfl, fun h => absurd h (Nat.lt_irrefl _)⟩, .inl ⟨rfl, rfl⟩, ⟨rfl, Nat.le_refl _, Nat.zero_le _, h, fun _ => rfl, fun h => absurd h (Nat.lt_irrefl _)⟩, .inl ⟨rfl, rfl⟩⟩
set_option maxRecDepth 100000 in
set_option maxHeartbeats 2000000 in
theorem diskFlush_no (cs : List Value) (x : DiskD) (w : World) (lo hi : Nat) (h : DiskR w lo hi cs x) (hok : diskOk x = false) :
    Calls Try.prog 27 #[.agg cs.toArray] w (NewR DiskN w ([], [], false)) := by
  have H := Lib.hid h; have HOK := Lib.hid hok
  obtain ⟨gone, hgone⟩ : ∃ g, g = x.2.2 := ⟨_, rfl⟩
  obtain ⟨A0, n0, c0, A1, n1, c1, rfl, h0, h1⟩ := h
  rw [← hgone] at H ⊢; clear hgone
  have HLE := Lib.hid h0.lo_le
  show Calls Try.prog 27 #[.agg #[.slice A0 n0 c0, .slice A1 n1 c1, .bool gone]] w _
  clear h0 h1 hok
  go_enter Try.func27, Try.ntmps27
  go_wp2_with fail
  refine (diskOk_any _ x _ lo hi (DiskR.below bel2 HLE.out _ _ H.out)).mono ?_
  rw [HOK.out]
  rintro e w1 ⟨rfl, hb1⟩
  have X1 : Below w.heap.size w w1 := bel2.trans (hb1.mono (by simp <;> omega))
  have hq2 : w1.heap[w.heap.size + 1]? = some (.cells #[.slice none 0 0, .slice none 0 0, .bool false] 26 (0, 0)) := (hb1.block _ (by simp)).trans (by have := heap_alloc_new (w.alloc (.cells #[.slice A0 n0 c0, .slice A1 n1 c1, .bool gone] 26)) (.cells #[.slice none 0 0, .slice none 0 0, .bool false] 26); simpa using this)
  have z1 : w.heap.size + 2 ≤ w1.heap.size := by have := hb1.size; simp at this; omega
  have fz := fun o => block_free hq2 o
  have fz0 := fz 0; have fz1 := fz 1; have fz2 := fz 2
  have r0 := cell_of_row _ _ 0 _ _ (0, 0) hq2; have r1 := cell_of_row _ _ 1 _ _ (0, 0) hq2; have r2 := cell_of_row _ _ 2 _ _ (0, 0) hq2
  have hst := setT_3 (x0 := .slice none 0 0) (x1 := .slice none 0 0) (x2 := .bool false) hq2
  have s0 := cell_of_row _ _ 0 _ _ (0, 0) hst; have s1 := cell_of_row _ _ 1 _ _ (0, 0) hst; have s2 := cell_of_row _ _ 2 _ _ (0, 0) hst
  have HX1 := Lib.hid X1
  clear fz hst hq2 hb1 X1
  go_wp2_with fail
  refine bodyPost_ret (v := .agg #[.slice none 0 0, .slice none 0 0, .bool false]) (by simp [results, Try.results27, go_sem, s0, s1, s2]) rfl ⟨_, rfl, bareN (Nat.le_refl _), ?_⟩
  repeat (first | exact HX1.out | refine Below.setCell ?_ (by simp) _)
theorem diskFlush_both (cs : List Value) (x : DiskD) (w : World) (lo hi : Nat) (h : DiskR w lo hi cs x) :
    Calls Try.prog 27 #[.agg cs.toArray] w (NewR DiskN w (flushD x)) := by
  unfold flushD
  cases hok : diskOk x
  · exact diskFlush_no cs x w lo hi h hok
  · exact diskFlush_any cs x w lo hi h hok
set_option maxRecDepth 100000 in
set_option maxHeartbeats 4000000 in
theorem l3Flush_any (g c : Nat) (A1 : Option Addr) (n1 c1 : Nat) (x0 : List ByteArray) (x1 : List WaitD) (gone : Bool) (w : World) (lo hi : Nat) (h0 : StrArr 9 w g c x0) (h1 : SliceR WaitR 2 w lo hi A1 n1 c1 x1) (hne : ∀ b off, A1 = some ⟨b, off, none⟩ → 0 < n1 → b ≠ g)
    (hx0 : x0.length = 64) (hn1 : n1 ≤ 120) (hw : ∀ y ∈ x1, inB y.1 0 63 = true) :
    Calls Try.prog 70 #[.agg #[.slice (some ⟨g, 0, none⟩) 64 c, .slice A1 n1 c1, .bool gone]] w fun e w' => ∃ B, e = .returned (.agg #[.slice (some ⟨g, 0, none⟩) 64 c, .slice B 0 0, .bool gone]) ∧ StrArr 9 w' g c (settleTo flushF x1 x0 n1) ∧ Chg (· ∈ [g]) w w' := by
  have hg := h0.lt
  have HN1 := Lib.hid h1.len
  have H0 := Lib.hid h0; have H1 := Lib.hid h1; have HX0 := Lib.hid hx0; have HW := Lib.hid hw; have HNE := Lib.hid hne
  clear h0 h1 hx0 hw hne
  go_enter Try.func70, Try.ntmps70
  go_wp2_with fail
  obtain ⟨w1, hW⟩ : ∃ w1, w1 = (w.alloc (.cells #[.slice (some ⟨g, 0, none⟩) 64 c, .slice A1 n1 c1, .bool gone] 26)).alloc (.cells #[.slice none 0 0, .slice none 0 0, .bool false] 26) := ⟨_, rfl⟩
  have X1 : Below w.heap.size w w1 := by rw [hW]; exact bel2
  have z1 : w1.heap.size = w.heap.size + 2 := by rw [hW]; simp
  have hq : w1.heap[w.heap.size + 1]? = some (.cells #[.slice none 0 0, .slice none 0 0, .bool false] 26 (0, 0)) := by rw [hW]; have := heap_alloc_new (w.alloc (.cells #[.slice (some ⟨g, 0, none⟩) 64 c, .slice A1 n1 c1, .bool gone] 26)) (.cells #[.slice none 0 0, .slice none 0 0, .bool false] 26); simpa using this
  have hbx : w1.heap[w.heap.size]? = some (.cells #[.slice (some ⟨g, 0, none⟩) 64 c, .slice A1 n1 c1, .bool gone] 26 (0, 0)) := by rw [hW]; exact (Below.heap_alloc _ _ _ (by simp)).trans (heap_alloc_new _ _)
  have HWW := Lib.hid hW; rw [← HWW.out]; clear hW HWW
  have HBX := Lib.hid hbx; have HQ := Lib.hid hq; have HX1 := Lib.hid X1
  have HA1 := Lib.hid (H0.out.below X1)
  clear hbx hq X1
  go_loopw [3] (fun i wr => ∃ r : Nat, r ≤ n1 ∧ i = .int .i64 (r : Int) ∧ Hid (Chg (· ∈ [g]) w1 wr) ∧ Hid (StrArr 9 wr g c (settleTo flushF x1 x0 r))) (fun i _ => n1 - (intOf i).toNat)
  case atStart => exact ⟨0, Nat.zero_le _, rfl, Lib.hid (Chg.refl _ _), HA1⟩
  case round =>
    obtain ⟨r, hr, rfl, HC, HA⟩ := hrel
    have hszr := HC.out.size
    have hbr : wr.heap[w.heap.size]? = some (.cells #[.slice (some ⟨g, 0, none⟩) 64 c, .slice A1 n1 c1, .bool gone] 26 (0, 0)) := (HC.out.block _ (by omega) (by simp; omega)).trans HBX.out
    have HBR := Lib.hid hbr
    have b0 := cell_of_row _ _ 0 _ _ (0, 0) hbr; have b1 := cell_of_row _ _ 1 _ _ (0, 0) hbr; have b2 := cell_of_row _ _ 2 _ _ (0, 0) hbr
    clear hbr
    by_cases hlt : r < n1
    · obtain ⟨xx, hx⟩ : ∃ xx, x1[r]? = some xx := ⟨x1[r]'(by rw [HN1.out]; exact hlt), List.getElem?_eq_getElem _⟩
      obtain ⟨bw, ow, rfl, _, _, blw, hcw⟩ := (SliceR.below H1.out HX1.out (WaitR.below HX1.out H1.out.lo_le)).at_ (by omega)
      have hbg : bw ≠ g := HNE.out _ _ rfl (by omega)
      obtain ⟨cs, hcl, hcc, hrr⟩ := hcw r xx hx
      have hin := HW.out xx (List.mem_of_getElem? hx)
      obtain ⟨a, s⟩ := xx
      obtain ⟨m, rfl, hm⟩ := inB_nat (m := 63) hin
      obtain ⟨rfl, _⟩ := hrr
      have hbw := HC.out.block bw blw (by simp; omega)
      have q0 := (World.cell?_of_block (a := ⟨bw, _, none⟩) hbw).trans (hcc 0 _ rfl)
      have q1 := (World.cell?_of_block (a := ⟨bw, _, none⟩) hbw).trans (hcc 1 _ rfl)
      simp only [Nat.add_zero] at q0
      have lbw : bw < wr.heap.size := by omega
      have hlen : (settleTo flushF x1 x0 r).length = 64 := settleTo_len.trans HX0.out
      obtain ⟨u, hu⟩ : ∃ u, (settleTo flushF x1 x0 r)[m]? = some u := ⟨_, List.getElem?_eq_getElem (by omega)⟩
      have HSTEP : Hid (settleTo flushF x1 x0 (r + 1) = (settleTo flushF x1 x0 r).set m s) := Lib.hid (by rw [settleTo_succ]; unfold settleStep; rw [hx]; simp [flushF])
      obtain ⟨t, ht⟩ : ∃ t, t = settleTo flushF x1 x0 r := ⟨_, rfl⟩
      rw [← ht] at HA HSTEP hu hlen
      have HU := Lib.hid hu; have HLEN := Lib.hid hlen; have HIN := Lib.hid hin
      clear hcw hcc hcl hu hlen hin ht hx hbw
      have k0 : (0 : Int) ≤ (r : Int) := by omega
      have k1 : (r : Int) < (n1 : Int) := by omega
      have m0 : (0 : Int) ≤ (m : Int) := by omega
      have m1 : (m : Int) < 64 := by omega
      have lbx : w.heap.size < wr.heap.size := by omega
      have HB0 := Lib.hid b0; have HB1 := Lib.hid b1; have HQ0 := Lib.hid q0; have HQ1 := Lib.hid q1
      clear q0 q1
      go_wp2_with fail
      clear b0 b1 b2
      apply wp_region_rgz (Chg (· ∈ [g])) (Ext) (fun y w' k' => (k' < 1000 → StrArr 9 w' g c t) ∧ (1000 ≤ k' → StrArr 9 w' g c (t.set m s))) (0 :: 0 :: 0 :: 0 :: 0 :: 0 :: 0 :: 0 :: 0 :: 0 :: 0 :: 0 :: 0 :: 0 :: 0 :: 1000 :: []) (1000 :: 1000 :: 1000 :: 1000 :: 1000 :: 1000 :: 1000 :: 1000 :: 1000 :: 1000 :: 1000 :: 1000 :: 1000 :: 1000 :: 1000 :: 1000 :: []) (by kernel_rfl) (false :: false :: false :: false :: false :: false :: false :: false :: false :: false :: false :: true :: true :: true :: true :: true :: true :: true :: true :: true :: true :: true :: true :: true :: true :: true :: false :: false :: false :: []) (some 11 :: some 12 :: some 13 :: some 14 :: some 15 :: some 16 :: some 17 :: some 18 :: some 19 :: some 20 :: some 21 :: some 22 :: some 23 :: some 24 :: some 25 :: none :: []) ([] :: [0] :: [] :: [2] :: [] :: [3, 4] :: [5] :: [6] :: [] :: [8] :: [] :: [9, 10] :: [11] :: [12] :: [1, 7] :: [13, 14] :: []) (false :: false :: false :: false :: false :: false :: false :: false :: false :: false :: false :: false :: false :: false :: false :: true :: []) (true :: true :: true :: true :: true :: true :: true :: true :: true :: true :: true :: true :: true :: true :: true :: true :: []) [] (MStP.is _ :: MStP.is _ :: MStP.is _ :: MStP.is _ :: MStP.is _ :: MStP.is _ :: MStP.is _ :: MStP.is _ :: MStP.is _ :: MStP.is _ :: MStP.is _ :: MStP.is _ :: MStP.is _ :: MStP.is _ :: MStP.is _ :: MStP.is _ :: []) (by kernel_rfl) (by kernel_rfl) (by kernel_rfl) (by kernel_rfl)
      case hobs =>
        refine ⟨fun y w' k hS hj hk hF K hK => ?_, ?_⟩
        · skip -- 0: fieldAddr
          simp only [fillL, cond_true, cond_false, List.getD_cons_zero, List.getD_cons_succ, StP.is, Act.put, List.setIfInBounds_toArray, List.set_cons_zero, List.set_cons_succ, Nat.reduceAdd, MStP.is, Option.isSome_some, Option.isSome_none] at hK ⊢
          simp only [List.sum_cons, List.sum_nil, List.getD_cons_zero, List.getD_cons_succ, Nat.reduceAdd, Nat.add_zero] at hk
          refine rg_yes (by kernel_rfl) ?_
          have hsw := hS.size
          clear hF
          go_simp
          exact hK _ _ (Ext.refl _) ⟨fun h => hj.1 (by omega), fun h => absurd h (by omega)⟩ rfl
        refine ⟨fun y w' k hS hj hk hF K hK => ?_, ?_⟩
        · skip -- 1: load
          have e11 : y 11 = _ := hF.1
          have e11' := Lib.hid e11
          simp only [fillL, cond_true, cond_false, List.getD_cons_zero, List.getD_cons_succ, StP.is, Act.put, List.setIfInBounds_toArray, List.set_cons_zero, List.set_cons_succ, Nat.reduceAdd, e11, MStP.is, Option.isSome_some, Option.isSome_none] at hK ⊢
          simp only [List.sum_cons, List.sum_nil, List.getD_cons_zero, List.getD_cons_succ, Nat.reduceAdd, Nat.add_zero] at hk
          refine rg_yes (by kernel_rfl) ?_
          have hsw := hS.size
          clear e11
          clear hF
          have q0_ := (World.cell?_of_block (a := ⟨w.heap.size, _, none⟩) (hS.block w.heap.size lbx (by simp; omega))).trans HB0.out; have q1_ := (World.cell?_of_block (a := ⟨w.heap.size, _, none⟩) (hS.block w.heap.size lbx (by simp; omega))).trans HB1.out
          go_simp
          exact hK _ _ (Ext.refl _) ⟨fun h => hj.1 (by omega), fun h => absurd h (by omega)⟩ rfl
        refine ⟨fun y w' k hS hj hk hF K hK => ?_, ?_⟩
        · skip -- 2: fieldAddr
          simp only [fillL, cond_true, cond_false, List.getD_cons_zero, List.getD_cons_succ, StP.is, Act.put, List.setIfInBounds_toArray, List.set_cons_zero, List.set_cons_succ, Nat.reduceAdd, MStP.is, Option.isSome_some, Option.isSome_none] at hK ⊢
          simp only [List.sum_cons, List.sum_nil, List.getD_cons_zero, List.getD_cons_succ, Nat.reduceAdd, Nat.add_zero] at hk
          refine rg_yes (by kernel_rfl) ?_
          have hsw := hS.size
          clear hF
          go_simp
          exact hK _ _ (Ext.refl _) ⟨fun h => hj.1 (by omega), fun h => absurd h (by omega)⟩ rfl
        refine ⟨fun y w' k hS hj hk hF K hK => ?_, ?_⟩
        · skip -- 3: load
          have e13 : y 13 = _ := hF.1
          have e13' := Lib.hid e13
          simp only [fillL, cond_true, cond_false, List.getD_cons_zero, List.getD_cons_succ, StP.is, Act.put, List.setIfInBounds_toArray, List.set_cons_zero, List.set_cons_succ, Nat.reduceAdd, e13, MStP.is, Option.isSome_some, Option.isSome_none] at hK ⊢
          simp only [List.sum_cons, List.sum_nil, List.getD_cons_zero, List.getD_cons_succ, Nat.reduceAdd, Nat.add_zero] at hk
          refine rg_yes (by kernel_rfl) ?_
          have hsw := hS.size
          clear e13
          clear hF
          have q0_ := (World.cell?_of_block (a := ⟨w.heap.size, _, none⟩) (hS.block w.heap.size lbx (by simp; omega))).trans HB0.out; have q1_ := (World.cell?_of_block (a := ⟨w.heap.size, _, none⟩) (hS.block w.heap.size lbx (by simp; omega))).trans HB1.out
          go_simp
          exact hK _ _ (Ext.refl _) ⟨fun h => hj.1 (by omega), fun h => absurd h (by omega)⟩ rfl
        refine ⟨fun y w' k hS hj hk hF K hK => ?_, ?_⟩
        · skip -- 4: move
          simp only [fillL, cond_true, cond_false, List.getD_cons_zero, List.getD_cons_succ, StP.is, Act.put, List.setIfInBounds_toArray, List.set_cons_zero, List.set_cons_succ, Nat.reduceAdd, MStP.is, Option.isSome_some, Option.isSome_none] at hK ⊢
          simp only [List.sum_cons, List.sum_nil, List.getD_cons_zero, List.getD_cons_succ, Nat.reduceAdd, Nat.add_zero] at hk
          refine rg_yes (by kernel_rfl) ?_
          have hsw := hS.size
          clear hF
          go_simp
          exact hK _ _ (Ext.refl _) ⟨fun h => hj.1 (by omega), fun h => absurd h (by omega)⟩ rfl
        refine ⟨fun y w' k hS hj hk hF K hK => ?_, ?_⟩
        · skip -- 5: indexAddr
          have e14 : y 14 = _ := hF.1
          have e15 : y 15 = _ := hF.2.1
          have e14' := Lib.hid e14
          have e15' := Lib.hid e15
          simp only [fillL, cond_true, cond_false, List.getD_cons_zero, List.getD_cons_succ, StP.is, Act.put, List.setIfInBounds_toArray, List.set_cons_zero, List.set_cons_succ, Nat.reduceAdd, e14, e15, MStP.is, Option.isSome_some, Option.isSome_none] at hK ⊢
          simp only [List.sum_cons, List.sum_nil, List.getD_cons_zero, List.getD_cons_succ, Nat.reduceAdd, Nat.add_zero] at hk
          refine rg_yes (by kernel_rfl) ?_
          have hsw := hS.size
          clear e14 e15
          clear hF
          go_simp
          exact hK _ _ (Ext.refl _) ⟨fun h => hj.1 (by omega), fun h => absurd h (by omega)⟩ rfl
        refine ⟨fun y w' k hS hj hk hF K hK => ?_, ?_⟩
        · skip -- 6: fieldAddr
          have e16 : y 16 = _ := hF.1
          have e16' := Lib.hid e16
          simp only [fillL, cond_true, cond_false, List.getD_cons_zero, List.getD_cons_succ, StP.is, Act.put, List.setIfInBounds_toArray, List.set_cons_zero, List.set_cons_succ, Nat.reduceAdd, e16, MStP.is, Option.isSome_some, Option.isSome_none] at hK ⊢
          simp only [List.sum_cons, List.sum_nil, List.getD_cons_zero, List.getD_cons_succ, Nat.reduceAdd, Nat.add_zero] at hk
          refine rg_yes (by kernel_rfl) ?_
          have hsw := hS.size
          clear e16
          clear hF
          go_simp
          exact hK _ _ (Ext.refl _) ⟨fun h => hj.1 (by omega), fun h => absurd h (by omega)⟩ rfl
        refine ⟨fun y w' k hS hj hk hF K hK => ?_, ?_⟩
        · skip -- 7: load
          have e17 : y 17 = _ := hF.1
          have e17' := Lib.hid e17
          simp only [fillL, cond_true, cond_false, List.getD_cons_zero, List.getD_cons_succ, StP.is, Act.put, List.setIfInBounds_toArray, List.set_cons_zero, List.set_cons_succ, Nat.reduceAdd, e17, MStP.is, Option.isSome_some, Option.isSome_none] at hK ⊢
          simp only [List.sum_cons, List.sum_nil, List.getD_cons_zero, List.getD_cons_succ, Nat.reduceAdd, Nat.add_zero] at hk
          refine rg_yes (by kernel_rfl) ?_
          have hsw := hS.size
          clear e17
          clear hF
          have q0_ := (World.cell?_of_block (a := ⟨bw, _, none⟩) (hS.block bw lbw (by simp; omega))).trans HQ0.out; have q1_ := (World.cell?_of_block (a := ⟨bw, _, none⟩) (hS.block bw lbw (by simp; omega))).trans HQ1.out
          go_simp
          exact hK _ _ (Ext.refl _) ⟨fun h => hj.1 (by omega), fun h => absurd h (by omega)⟩ rfl
        refine ⟨fun y w' k hS hj hk hF K hK => ?_, ?_⟩
        · skip -- 8: fieldAddr
          simp only [fillL, cond_true, cond_false, List.getD_cons_zero, List.getD_cons_succ, StP.is, Act.put, List.setIfInBounds_toArray, List.set_cons_zero, List.set_cons_succ, Nat.reduceAdd, MStP.is, Option.isSome_some, Option.isSome_none] at hK ⊢
          simp only [List.sum_cons, List.sum_nil, List.getD_cons_zero, List.getD_cons_succ, Nat.reduceAdd, Nat.add_zero] at hk
          refine rg_yes (by kernel_rfl) ?_
          have hsw := hS.size
          clear hF
          go_simp
          exact hK _ _ (Ext.refl _) ⟨fun h => hj.1 (by omega), fun h => absurd h (by omega)⟩ rfl
        refine ⟨fun y w' k hS hj hk hF K hK => ?_, ?_⟩
        · skip -- 9: load
          have e19 : y 19 = _ := hF.1
          have e19' := Lib.hid e19
          simp only [fillL, cond_true, cond_false, List.getD_cons_zero, List.getD_cons_succ, StP.is, Act.put, List.setIfInBounds_toArray, List.set_cons_zero, List.set_cons_succ, Nat.reduceAdd, e19, MStP.is, Option.isSome_some, Option.isSome_none] at hK ⊢
          simp only [List.sum_cons, List.sum_nil, List.getD_cons_zero, List.getD_cons_succ, Nat.reduceAdd, Nat.add_zero] at hk
          refine rg_yes (by kernel_rfl) ?_
          have hsw := hS.size
          clear e19
          clear hF
          have q0_ := (World.cell?_of_block (a := ⟨w.heap.size, _, none⟩) (hS.block w.heap.size lbx (by simp; omega))).trans HB0.out; have q1_ := (World.cell?_of_block (a := ⟨w.heap.size, _, none⟩) (hS.block w.heap.size lbx (by simp; omega))).trans HB1.out
          go_simp
          exact hK _ _ (Ext.refl _) ⟨fun h => hj.1 (by omega), fun h => absurd h (by omega)⟩ rfl
        refine ⟨fun y w' k hS hj hk hF K hK => ?_, ?_⟩
        · skip -- 10: move
          simp only [fillL, cond_true, cond_false, List.getD_cons_zero, List.getD_cons_succ, StP.is, Act.put, List.setIfInBounds_toArray, List.set_cons_zero, List.set_cons_succ, Nat.reduceAdd, MStP.is, Option.isSome_some, Option.isSome_none] at hK ⊢
          simp only [List.sum_cons, List.sum_nil, List.getD_cons_zero, List.getD_cons_succ, Nat.reduceAdd, Nat.add_zero] at hk
          refine rg_yes (by kernel_rfl) ?_
          have hsw := hS.size
          clear hF
          go_simp
          exact hK _ _ (Ext.refl _) ⟨fun h => hj.1 (by omega), fun h => absurd h (by omega)⟩ rfl
        refine ⟨fun y w' k hS hj hk hF K hK => ?_, ?_⟩
        · skip -- 11: indexAddr
          have e20 : y 20 = _ := hF.1
          have e21 : y 21 = _ := hF.2.1
          have e20' := Lib.hid e20
          have e21' := Lib.hid e21
          simp only [fillL, cond_true, cond_false, List.getD_cons_zero, List.getD_cons_succ, StP.is, Act.put, List.setIfInBounds_toArray, List.set_cons_zero, List.set_cons_succ, Nat.reduceAdd, e20, e21, MStP.is, Option.isSome_some, Option.isSome_none] at hK ⊢
          simp only [List.sum_cons, List.sum_nil, List.getD_cons_zero, List.getD_cons_succ, Nat.reduceAdd, Nat.add_zero] at hk
          refine rg_yes (by kernel_rfl) ?_
          have hsw := hS.size
          clear e20 e21
          clear hF
          go_simp
          exact hK _ _ (Ext.refl _) ⟨fun h => hj.1 (by omega), fun h => absurd h (by omega)⟩ rfl
        refine ⟨fun y w' k hS hj hk hF K hK => ?_, ?_⟩
        · skip -- 12: fieldAddr
          have e22 : y 22 = _ := hF.1
          have e22' := Lib.hid e22
          simp only [fillL, cond_true, cond_false, List.getD_cons_zero, List.getD_cons_succ, StP.is, Act.put, List.setIfInBounds_toArray, List.set_cons_zero, List.set_cons_succ, Nat.reduceAdd, e22, MStP.is, Option.isSome_some, Option.isSome_none] at hK ⊢
          simp only [List.sum_cons, List.sum_nil, List.getD_cons_zero, List.getD_cons_succ, Nat.reduceAdd, Nat.add_zero] at hk
          refine rg_yes (by kernel_rfl) ?_
          have hsw := hS.size
          clear e22
          clear hF
          go_simp
          exact hK _ _ (Ext.refl _) ⟨fun h => hj.1 (by omega), fun h => absurd h (by omega)⟩ rfl
        refine ⟨fun y w' k hS hj hk hF K hK => ?_, ?_⟩
        · skip -- 13: load
          have e23 : y 23 = _ := hF.1
          have e23' := Lib.hid e23
          simp only [fillL, cond_true, cond_false, List.getD_cons_zero, List.getD_cons_succ, StP.is, Act.put, List.setIfInBounds_toArray, List.set_cons_zero, List.set_cons_succ, Nat.reduceAdd, e23, MStP.is, Option.isSome_some, Option.isSome_none] at hK ⊢
          simp only [List.sum_cons, List.sum_nil, List.getD_cons_zero, List.getD_cons_succ, Nat.reduceAdd, Nat.add_zero] at hk
          refine rg_yes (by kernel_rfl) ?_
          have hsw := hS.size
          clear e23
          clear hF
          have q0_ := (World.cell?_of_block (a := ⟨bw, _, none⟩) (hS.block bw lbw (by simp; omega))).trans HQ0.out; have q1_ := (World.cell?_of_block (a := ⟨bw, _, none⟩) (hS.block bw lbw (by simp; omega))).trans HQ1.out
          go_simp
          exact hK _ _ (Ext.refl _) ⟨fun h => hj.1 (by omega), fun h => absurd h (by omega)⟩ rfl
        refine ⟨fun y w' k hS hj hk hF K hK => ?_, ?_⟩
        · skip -- 14: indexAddr
          have e12 : y 12 = _ := hF.1
          have e18 : y 18 = _ := hF.2.1
          have e12' := Lib.hid e12
          have e18' := Lib.hid e18
          simp only [fillL, cond_true, cond_false, List.getD_cons_zero, List.getD_cons_succ, StP.is, Act.put, List.setIfInBounds_toArray, List.set_cons_zero, List.set_cons_succ, Nat.reduceAdd, e12, e18, MStP.is, Option.isSome_some, Option.isSome_none] at hK ⊢
          simp only [List.sum_cons, List.sum_nil, List.getD_cons_zero, List.getD_cons_succ, Nat.reduceAdd, Nat.add_zero] at hk
          refine rg_yes (by kernel_rfl) ?_
          have hsw := hS.size
          clear e12 e18
          clear hF
          go_simp
          exact hK _ _ (Ext.refl _) ⟨fun h => hj.1 (by omega), fun h => absurd h (by omega)⟩ rfl
        refine ⟨fun y w' k hS hj hk hF K hK => ?_, ?_⟩
        · skip -- 15: store
          have e24 : y 24 = _ := hF.1
          have e25 : y 25 = _ := hF.2.1
          have e24' := Lib.hid e24
          have e25' := Lib.hid e25
          simp only [fillL, cond_true, cond_false, List.getD_cons_zero, List.getD_cons_succ, StP.is, Act.put, List.setIfInBounds_toArray, List.set_cons_zero, List.set_cons_succ, Nat.reduceAdd, e24, e25, MStP.is, Option.isSome_some, Option.isSome_none] at hK ⊢
          simp only [List.sum_cons, List.sum_nil, List.getD_cons_zero, List.getD_cons_succ, Nat.reduceAdd, Nat.add_zero] at hk
          refine rg_yes (by kernel_rfl) ?_
          have hsw := hS.size
          clear e24 e25
          clear hF
          have HAA := Lib.hid (hj.1 (by omega))
          have fz := HAA.out.free (j := m)
          have q0_ := HAA.out.cell HU.out
          go_simp
          exact hK undef _ ((Chg.refl _ _).setCell (.inl (by simp)) _) ⟨fun h => absurd h (by omega), fun _ => HAA.out.set (by rw [HLEN.out]; omega)⟩ rfl
        trivial
      case hH => rfl
      case hNS => exact fun _ _ h => Chg.of_below h _
      case hSt => exact fun a b => Chg.trans a b
      case hb => rfl
      case hdrew => exact (Chg.refl _ _).drewN 1
      case hj0 => exact fun y => ⟨fun _ => HA.out, fun h => absurd h (by omega)⟩
      case hend =>
        intro y w6 hS hJ hF
        have hA6 := hJ.2 (by decide)
        rw [← HSTEP.out] at hA6
        have HA6 := Lib.hid hA6
        have HC6 : Hid (Chg (· ∈ [g]) w1 w6) := Lib.hid (HC.out.trans hS)
        clear hJ hF hS hA6
        simp only [fillL, cond_true, cond_false, Nat.reduceAdd]
        go_wp2_with fail
        go_roundw
        case rel => exact ⟨r + 1, by omega, by go_num, HC6, HA6⟩
        case measure => simp [intOf]; omega
    · obtain rfl : r = n1 := by omega
      have hqr : wr.heap[w.heap.size + 1]? = some (.cells #[.slice none 0 0, .slice none 0 0, .bool false] 26 (0, 0)) := (HC.out.block (w.heap.size + 1) (by omega) (by simp; omega)).trans HQ.out
      have r0 := cell_of_row _ _ 0 _ _ (0, 0) hqr; have r1 := cell_of_row _ _ 1 _ _ (0, 0) hqr; have r2 := cell_of_row _ _ 2 _ _ (0, 0) hqr
      have fz := fun o => block_free hqr o
      have fz0 := fz 0; have fz1 := fz 1; have fz2 := fz 2
      have fx := fun o => block_free HBR.out o
      have fx1 := fx 1
      have lq : w.heap.size + 1 < wr.heap.size := by omega
      have lx : w.heap.size < wr.heap.size := by omega
      have HQR := Lib.hid hqr
      clear fz fx hqr
      have sh : ∀ (B : Option Addr), (((((wr.setCell ⟨w.heap.size, 1, none⟩ (.slice B 0 0)).setCell ⟨w.heap.size + 1, 0, none⟩ (.slice (some ⟨g, 0, none⟩) 64 c)).setCell ⟨w.heap.size + 1, 1, none⟩ (.slice B 0 0)).setCell ⟨w.heap.size + 1, 2, none⟩ (.bool gone)).alloc (.cells #[] 78)).heap[w.heap.size + 1]? = some (.cells #[.slice (some ⟨g, 0, none⟩) 64 c, .slice B 0 0, .bool gone] 26 (0, 0)) := fun B =>
        (Below.heap_alloc _ _ _ (by simp [World.setCell]; omega)).trans (setT_3 ((heap_far (by simp)).trans HQR.out))
      have s0 := fun B => cell_of_row _ _ 0 _ _ (0, 0) (sh B); have s1 := fun B => cell_of_row _ _ 1 _ _ (0, 0) (sh B); have s2 := fun B => cell_of_row _ _ 2 _ _ (0, 0) (sh B)
      have S0 := Lib.hid s0; have S1 := Lib.hid s1; have S2 := Lib.hid s2
      clear sh s0 s1 s2
      go_wp2_with fail
      refine bodyPost_ret (v := .agg #[.slice (some ⟨g, 0, none⟩) 64 c, .slice (some ⟨wr.heap.size, 0, none⟩) 0 0, .bool gone]) (by simp [results, Try.results70, go_sem, S0.out, S1.out, S2.out]) rfl ⟨_, rfl, ?_, ?_⟩
      · exact (HA.out.block ((heap_far (by simp <;> omega)).trans ((heap_far (by simp <;> omega)).trans ((heap_far (by simp <;> omega)).trans (heap_far (by simp <;> omega)))))).below bel1
      · exact (Chg.setCell (p := ⟨w.heap.size + 1, 2, none⟩) (Chg.setCell (p := ⟨w.heap.size + 1, 1, none⟩) (Chg.setCell (p := ⟨w.heap.size + 1, 0, none⟩) (Chg.setCell (p := ⟨w.heap.size, 1, none⟩) ((Chg.of_below HX1.out _).trans HC.out) (.inr (by simp)) _) (.inr (by simp)) _) (.inr (by simp)) _) (.inr (by simp)) _).alloc _
set_option maxRecDepth 100000 in
set_option maxHeartbeats 4000000 in
theorem spDiskFlush_any (cs : List Value) (x : DiskD) (w : World) (lo hi : Nat) (h : DiskR w lo hi cs x) :
    Calls Try.prog 29 #[.agg cs.toArray] w (NewR DiskN w (flushD x)) := by
  have H := Lib.hid h
  obtain ⟨ok, hok⟩ : ∃ b, b = diskOk x := ⟨_, rfl⟩
  obtain ⟨sd, hsd⟩ : ∃ d, d = flushD x := ⟨_, rfl⟩
  have HOK := Lib.hid hok; have HSD := Lib.hid hsd
  rw [← hsd]
  clear hok hsd
  obtain ⟨x0, x1, gone⟩ := x
  obtain ⟨A0, n0, c0, A1, n1, c1, rfl, h0, h1⟩ := h
  have HLE := Lib.hid h0.lo_le
  have hl0 := h0.len; have hl1 := h1.len
  simp only at hl0 hl1 H
  have HL0 := Lib.hid hl0; have HL1 := Lib.hid hl1
  clear h0 h1 hl0 hl1
  show Calls Try.prog 29 #[.agg #[.slice A0 n0 c0, .slice A1 n1 c1, .bool gone]] w _
  go_enter Try.func29, Try.ntmps29
  go_wp2_with fail
  refine (spDiskOk_any _ (x0, x1, gone) _ lo hi (DiskR.below bel2 HLE.out _ _ H.out)).mono ?_
  rw [← HOK.out]
  rintro e w1 ⟨rfl, hb1⟩
  have X1 : Below w.heap.size w w1 := bel2.trans (hb1.mono (by simp <;> omega))
  have q0 : w1.cell? ⟨w.heap.size, 0, none⟩ = some (.slice A0 n0 c0) := (hb1.cell (by simp <;> omega)).trans (by simp [go_sem])
  have q1 : w1.cell? ⟨w.heap.size, 1, none⟩ = some (.slice A1 n1 c1) := (hb1.cell (by simp <;> omega)).trans (by simp [go_sem])
  have q2 : w1.cell? ⟨w.heap.size, 2, none⟩ = some (.bool gone) := (hb1.cell (by simp <;> omega)).trans (by simp [go_sem])
  have hq : w1.heap[w.heap.size + 1]? = some (.cells #[.slice none 0 0, .slice none 0 0, .bool false] 26 (0, 0)) := (hb1.block _ (by simp)).trans (by have := heap_alloc_new (w.alloc (.cells #[.slice A0 n0 c0, .slice A1 n1 c1, .bool gone] 26)) (.cells #[.slice none 0 0, .slice none 0 0, .bool false] 26); simpa using this)
  have z1 : w.heap.size + 2 ≤ w1.heap.size := by have := hb1.size; simp at this; omega
  have HX1 := Lib.hid X1; have HQ := Lib.hid hq
  clear hb1 hq X1
  cases ok
  · have HSB : Hid (sd = ([], [], false)) := Lib.hid (by rw [HSD.out]; unfold flushD; rw [if_neg (by rw [← HOK.out]; decide)])
    have fz := fun o => block_free HQ.out o
    have fz0 := fz 0; have fz1 := fz 1; have fz2 := fz 2
    have r0 := cell_of_row _ _ 0 _ _ (0, 0) HQ.out; have r1 := cell_of_row _ _ 1 _ _ (0, 0) HQ.out; have r2 := cell_of_row _ _ 2 _ _ (0, 0) HQ.out
    have hst := setT_3 (x0 := .slice none 0 0) (x1 := .slice none 0 0) (x2 := .bool false) HQ.out
    have s0 := cell_of_row _ _ 0 _ _ (0, 0) hst; have s1 := cell_of_row _ _ 1 _ _ (0, 0) hst; have s2 := cell_of_row _ _ 2 _ _ (0, 0) hst
    clear fz hst
    go_wp2_with fail
    refine bodyPost_ret (v := .agg #[.slice none 0 0, .slice none 0 0, .bool false]) (by simp [results, Try.results29, go_sem, s0, s1, s2]) rfl ⟨_, rfl, by rw [HSB.out]; exact bareN (Nat.le_refl _), ?_⟩
    repeat (first | exact HX1.out | refine Below.setCell ?_ (by simp) _)
  · have HSB : Hid (sd = (settleTo flushF x1 x0 n1, [], gone)) := Lib.hid (by rw [HSD.out]; unfold flushD settleD; rw [if_pos HOK.out.symm]; simp only [HL1.out])
    have hok' := HOK.out.symm
    unfold diskOk at hok'
    simp only [Bool.and_eq_true, decide_eq_true_eq, List.all_eq_true] at hok'
    obtain ⟨⟨⟨⟨hx0, hx1⟩, hx2⟩, hx3⟩, hx4⟩ := hok'
    have HT : Hid (∀ s ∈ x0, s.size ≤ 200) := Lib.hid (fun s hs => by have := hx2 s hs; unfold textOk at this; simp at this; exact this.1)
    have HW : Hid (∀ y ∈ x1, inB y.1 0 63 = true ∧ y.2.size ≤ 200) := Lib.hid (fun y hy => by have := hx4 y hy; unfold waitOk at this; simpa using this)
    have HB0 : Hid (x0.length ≤ 1099511627776 ∧ x1.length ≤ 1099511627776) := Lib.hid (by omega)
    have HX0 := Lib.hid hx0; have hn1 : n1 ≤ 120 := by have := HL1.out; omega
    clear hx0 hx1 hx2 hx3 hx4
    go_wp2_with fail
    refine (l3Copy_any _ (x0, x1, gone) _ lo hi (DiskR.below HX1.out HLE.out _ _ H.out) HB0.out.1 HB0.out.2).mono ?_
    rintro e w2 ⟨cs2, rfl, hN2, hb2⟩
    obtain ⟨B0, m0, d0, B1, m1, d1, rfl, k0, k1, k2, k3⟩ := hN2
    simp only at k0 k2
    obtain rfl : 64 = m0 := by have := k0.len; have := HX0.out; omega
    obtain rfl : n1 = m1 := by have := k2.len; have := HL1.out; omega
    obtain ⟨g, rfl, hg1, hg2, hsa⟩ := StrArr.of_whole k0 k1 (by omega)
    have HSA := Lib.hid hsa; have HK2 := Lib.hid k2
    have HNE : Hid (∀ b off, B1 = some ⟨b, off, none⟩ → 0 < n1 → b ≠ g) := Lib.hid (fun b off hB hn he => by
      subst hB he
      rcases k3 with h | ⟨g', cur, hA, _, _, h4, _⟩
      · omega
      · injection hA with e; injection e with e1 e2
        subst e1
        obtain ⟨cur', h5, _⟩ := hsa
        rw [h4] at h5
        injection h5 with h5; injection h5 with _ h5; exact absurd h5 (by decide))
    have z2 := hb2.size
    have HX2 := Lib.hid (HX1.out.trans (hb2.mono HX1.out.size))
    have HQ2 := Lib.hid ((hb2.block (w.heap.size + 1) (by omega)).trans HQ.out)
    clear k0 k1 k2 k3 hsa hb2 q0 q1 q2
    go_wp2_with fail
    refine (l3Flush_any g d0 B1 n1 d1 x0 x1 gone _ _ _ HSA.out HK2.out HNE.out HX0.out hn1 (fun y hy => (HW.out y hy).1)).mono ?_
    rintro e w3 ⟨B, rfl, hsa3, hc3⟩
    have z3 := hc3.size
    have HX3 := Lib.hid (HX2.out.trans (hc3.below (B := w.heap.size) (fun k _ hk => by simp at hk; omega) (by omega)))
    have hq3 := (hc3.block (w.heap.size + 1) (by omega) (by simp; omega)).trans HQ2.out
    have fz := fun o => block_free hq3 o
    have fz0 := fz 0; have fz1 := fz 1; have fz2 := fz 2
    have r0 := cell_of_row _ _ 0 _ _ (0, 0) hq3; have r1 := cell_of_row _ _ 1 _ _ (0, 0) hq3; have r2 := cell_of_row _ _ 2 _ _ (0, 0) hq3
    have hst := setT_3 (x0 := .slice (some ⟨g, 0, none⟩) 64 d0) (x1 := .slice B 0 0) (x2 := .bool gone) hq3
    have s0 := cell_of_row _ _ 0 _ _ (0, 0) hst; have s1 := cell_of_row _ _ 1 _ _ (0, 0) hst; have s2 := cell_of_row _ _ 2 _ _ (0, 0) hst
    have hgq : g ≠ w.heap.size + 1 := by omega
    have HFA := Lib.hid (hsa3.block (w' := ((w3.setCell ⟨w.heap.size + 1, 0, none⟩ (.slice (some ⟨g, 0, none⟩) 64 d0)).setCell ⟨w.heap.size + 1, 1, none⟩ (.slice B 0 0)).setCell ⟨w.heap.size + 1, 2, none⟩ (.bool gone)) ((heap_far hgq).trans ((heap_far hgq).trans (heap_far hgq))))
    clear fz hst hq3 hc3 hsa3
    go_wp2_with fail
    refine bodyPost_ret (v := .agg #[.slice (some ⟨g, 0, none⟩) 64 d0, .slice B 0 0, .bool gone]) (by simp [results, Try.results29, go_sem, s0, s1, s2]) rfl ⟨_, rfl, ?_, ?_⟩
    · have hl : (settleTo flushF x1 x0 n1).length = 64 := settleTo_len.trans HX0.out
      have hs1 := HFA.out.slice (lo := w.heap.size) (hi := _) (by omega) HFA.out.lt (Nat.le_refl _) (fun s hs => by have := settleTo_le (fun y hy => (HW.out y hy).2) HT.out (fun _ _ _ h _ => h) n1 s hs; unfold maxLen; omega)
      have hs2 := HFA.out.whole (lo := w.heap.size) (hi := _) (by omega) HFA.out.lt
      rw [hl] at hs1 hs2
      rw [HSB.out]
      exact ⟨_, _, _, _, _, _, rfl, hs1, hs2, ⟨rfl, Nat.le_refl _, Nat.zero_le _, Nat.le_refl _, fun _ => rfl, fun h => absurd h (Nat.lt_irrefl _)⟩, .inl ⟨rfl, rfl⟩⟩
    · exact Below.setCell (p := ⟨w.heap.size + 1, 2, none⟩) (Below.setCell (p := ⟨w.heap.size + 1, 1, none⟩) (Below.setCell (p := ⟨w.heap.size + 1, 0, none⟩) HX3.out (by simp) _) (by simp) _) (by simp) _
/-- The torn write of the first wait. -/
def tornF (i : Nat) (x : WaitD) (t : ByteArray) : ByteArray := if i = 0 then (if x.2.size / 2 < t.size then x.2.extract 0 (x.2.size / 2) ++ t.extract (x.2.size / 2) t.size else x.2.extract 0 (x.2.size / 2)) else t
set_option maxRecDepth 100000 in
set_option maxHeartbeats 1000000 in
theorem crashTorn1_any (b0 b1 i : Nat) (a : Int) (s t : ByteArray) (w : World) (h0 : w.cell? ⟨b0, 0, none⟩ = some (.int .i64 0)) (h1 : w.cell? ⟨b1, 0, none⟩ = some (.int .i64 0)) (hl0 : b0 < w.heap.size) (hl1 : b1 < w.heap.size) (hs : s.size ≤ 200) (ht : t.size ≤ 200) (hi : i < 120) :
    Calls Try.prog 69 #[.int .i64 (i : Int), .agg #[.int .i64 a, .string s], .string t, .pointer (some ⟨b0, 0, none⟩), .pointer (some ⟨b1, 0, none⟩)] w fun e w' => e = .returned (.string (tornF i (a, s) t)) ∧ Below w.heap.size w w' := by
  have i0 : (0 : Int) ≤ (i : Int) := by omega
  have hbit := bits_none (i % 60) (Nat.mod_lt _ (by omega))
  obtain ⟨r, hr⟩ : ∃ r, r = tornF i (a, s) t := ⟨_, rfl⟩
  rw [← hr]; have HR := Lib.hid hr; clear hr
  obtain ⟨m, hm⟩ : ∃ m, m = s.size / 2 := ⟨_, rfl⟩
  have hms : m ≤ s.size := by omega
  have hsm : s.size ≤ 9223372036854775807 := by omega
  by_cases hi0 : i = 0
  · have hi1 : ((i : Int) == 0) = true := by rw [beq_iff_eq]; omega
    have HI0 := Lib.hid hi0; clear hi0
    by_cases hlt : m < t.size
    · have HE : Hid (r = s.extract 0 m ++ t.extract m t.size) := Lib.hid (by rw [HR.out, hm]; unfold tornF; rw [if_pos HI0.out, if_pos (by rw [← hm]; exact hlt)])
      have hd : (s.size : Int) / 2 = (m : Int) := by omega
      have hl : (m : Int) < (t.size : Int) := by omega
      have hl2 : (m : Int) ≤ (t.size : Int) := by omega
      have htm : t.size ≤ 9223372036854775807 := by omega
      have m0 : (0 : Int) ≤ (m : Int) := by omega
      have m1 : (m : Int) ≤ (s.size : Int) := by omega
      have HM := Lib.hid hm; clear hm
      have z1 : (s.extract 0 m).size = m := by rw [ByteArray.size_extract]; omega
      have z2 : (t.extract m t.size).size = t.size - m := by rw [ByteArray.size_extract]; omega
      go_enter Try.func69, Try.ntmps69
      go_wp2_with fail
      obtain ⟨W, hW⟩ : ∃ W, W = w.alloc (.cells #[.int .i64 a, .string s] 78) := ⟨_, rfl⟩
      have XW : Below w.heap.size w W := by rw [hW]; exact bel1
      have qw : W.cell? ⟨w.heap.size, 1, none⟩ = some (.string s) := by rw [hW]; simp [go_sem]
      have lw : w.heap.size < W.heap.size := by rw [hW]; simp
      rw [← hW]; clear hW
      generalize bits BinOp.and IntKind.i64 0 1 = bz at *
      generalize (bz == 1) = bb at *
      obtain rfl : bb = false := by assumption
      generalize ((i : Int) == 0) = bi at *
      generalize decide ((m : Int) < (t.size : Int)) = bl at *
      apply wp_region_rg (by kernel_rfl) (false :: false :: false :: false :: false :: false :: false :: false :: true :: false :: false :: false :: false :: false :: false :: false :: false :: false :: false :: false :: false :: false :: false :: false :: false :: false :: false :: false :: false :: false :: false :: false :: false :: true :: true :: true :: true :: true :: true :: true :: true :: false :: false :: false :: false :: false :: false :: false :: false :: false :: []) [some 33, some 34, some 35, some 36, some 37, some 38, some 39, some 40, some 8] [[], [0], [], [1, 2], [], [], [4, 5], [3, 6], [7]] [StP.is _, StP.is _, StP.is _, StP.is _, StP.is _, StP.is _, StP.is _, StP.is _, StP.is _] (by kernel_rfl)
      case hobs =>
        refine ⟨fun y w' hS hF K hK => ?_, ?_⟩
        · skip -- 0: fieldAddr
          simp only [fillL, cond_true, cond_false, List.getD_cons_zero, List.getD_cons_succ, StP.is, Act.put, List.setIfInBounds_toArray, List.set_cons_zero, List.set_cons_succ, Nat.reduceAdd] at hK ⊢
          refine rg_yes (by kernel_rfl) ?_
          clear hF
          go_simp
          exact hK _ _ (Ext.refl _) rfl
        refine ⟨fun y w' hS hF K hK => ?_, ?_⟩
        · skip -- 1: load
          have e33 : y 33 = _ := hF.1
          simp only [fillL, cond_true, cond_false, List.getD_cons_zero, List.getD_cons_succ, StP.is, Act.put, List.setIfInBounds_toArray, List.set_cons_zero, List.set_cons_succ, Nat.reduceAdd, e33] at hK ⊢
          refine rg_yes (by kernel_rfl) ?_
          have qx0_ := (Below.cell hS lw).trans qw
          clear e33
          clear hF
          go_simp
          exact hK _ _ (Ext.refl _) rfl
        refine ⟨fun y w' hS hF K hK => ?_, ?_⟩
        · skip -- 2: move
          simp only [fillL, cond_true, cond_false, List.getD_cons_zero, List.getD_cons_succ, StP.is, Act.put, List.setIfInBounds_toArray, List.set_cons_zero, List.set_cons_succ, Nat.reduceAdd] at hK ⊢
          refine rg_yes (by kernel_rfl) ?_
          clear hF
          go_simp
          exact hK _ _ (Ext.refl _) rfl
        refine ⟨fun y w' hS hF K hK => ?_, ?_⟩
        · skip -- 3: slice
          have e34 : y 34 = _ := hF.1
          have e35 : y 35 = _ := hF.2.1
          simp only [fillL, cond_true, cond_false, List.getD_cons_zero, List.getD_cons_succ, StP.is, Act.put, List.setIfInBounds_toArray, List.set_cons_zero, List.set_cons_succ, Nat.reduceAdd, e34, e35] at hK ⊢
          refine rg_yes (by kernel_rfl) ?_
          clear e34 e35
          clear hF
          go_simp
          exact hK _ _ (Ext.refl _) rfl
        refine ⟨fun y w' hS hF K hK => ?_, ?_⟩
        · skip -- 4: move
          simp only [fillL, cond_true, cond_false, List.getD_cons_zero, List.getD_cons_succ, StP.is, Act.put, List.setIfInBounds_toArray, List.set_cons_zero, List.set_cons_succ, Nat.reduceAdd] at hK ⊢
          refine rg_yes (by kernel_rfl) ?_
          clear hF
          go_simp
          exact hK _ _ (Ext.refl _) rfl
        refine ⟨fun y w' hS hF K hK => ?_, ?_⟩
        · skip -- 5: move
          simp only [fillL, cond_true, cond_false, List.getD_cons_zero, List.getD_cons_succ, StP.is, Act.put, List.setIfInBounds_toArray, List.set_cons_zero, List.set_cons_succ, Nat.reduceAdd] at hK ⊢
          refine rg_yes (by kernel_rfl) ?_
          clear hF
          go_simp
          exact hK _ _ (Ext.refl _) rfl
        refine ⟨fun y w' hS hF K hK => ?_, ?_⟩
        · skip -- 6: slice
          have e37 : y 37 = _ := hF.1
          have e38 : y 38 = _ := hF.2.1
          simp only [fillL, cond_true, cond_false, List.getD_cons_zero, List.getD_cons_succ, StP.is, Act.put, List.setIfInBounds_toArray, List.set_cons_zero, List.set_cons_succ, Nat.reduceAdd, e37, e38] at hK ⊢
          refine rg_yes (by kernel_rfl) ?_
          clear e37 e38
          clear hF
          go_simp
          exact hK _ _ (Ext.refl _) rfl
        refine ⟨fun y w' hS hF K hK => ?_, ?_⟩
        · skip -- 7: binOp
          have e36 : y 36 = _ := hF.1
          have e39 : y 39 = _ := hF.2.1
          simp only [fillL, cond_true, cond_false, List.getD_cons_zero, List.getD_cons_succ, StP.is, Act.put, List.setIfInBounds_toArray, List.set_cons_zero, List.set_cons_succ, Nat.reduceAdd, e36, e39] at hK ⊢
          refine rg_yes (by kernel_rfl) ?_
          clear e36 e39
          clear hF
          go_simp
          rw [if_neg (by omega)]
          go_simp
          exact hK _ _ (Ext.refl _) rfl
        refine ⟨fun y w' hS hF K hK => ?_, ?_⟩
        · skip -- 8: assign
          have e40 : y 40 = _ := hF.1
          simp only [fillL, cond_true, cond_false, List.getD_cons_zero, List.getD_cons_succ, StP.is, Act.put, List.setIfInBounds_toArray, List.set_cons_zero, List.set_cons_succ, Nat.reduceAdd, e40] at hK ⊢
          refine rg_yes (by kernel_rfl) ?_
          clear e40
          clear hF
          go_simp
          exact hK _ _ (Ext.refl _) rfl
        trivial
      case hend =>
        intro y w3 hX hF
        have e8 : y 8 = _ := hF.2.2.2.2.2.2.2.2.1
        clear hF
        simp only [fillL, cond_true, cond_false, Nat.reduceAdd, e8]
        clear e8
        go_wp2_with fail
        go_ret
        exact ⟨ret_str HE.out.symm, XW.trans (hX.mono XW.size)⟩
    · have HE : Hid (r = s.extract 0 m) := Lib.hid (by rw [HR.out, hm]; unfold tornF; rw [if_pos HI0.out, if_neg (by rw [← hm]; exact hlt)])
      have hd : (s.size : Int) / 2 = (m : Int) := by omega
      have hl : ¬ (m : Int) < (t.size : Int) := by omega
      have m0 : (0 : Int) ≤ (m : Int) := by omega
      have m1 : (m : Int) ≤ (s.size : Int) := by omega
      have HM := Lib.hid hm; clear hm
      go_enter Try.func69, Try.ntmps69
      go_wp2_with fail
      go_ret
      exact ⟨ret_str HE.out.symm, bel1⟩
  · have hi1 : ((i : Int) == 0) = false := by rw [beq_eq_false_iff_ne]; omega
    have HE : Hid (r = t) := Lib.hid (by rw [HR.out]; unfold tornF; rw [if_neg hi0])
    clear hi0
    go_enter Try.func69, Try.ntmps69
    go_wp2_with fail
    go_ret
    exact ⟨ret_str HE.out.symm, bel1⟩
theorem tornF_le {i : Nat} {x : WaitD} {s : ByteArray} (h : x.2.size ≤ 200) (h' : s.size ≤ 200) : (tornF i x s).size ≤ 200 := by
  unfold tornF
  split
  · split
    · rw [ByteArray.size_append, ByteArray.size_extract, ByteArray.size_extract]; omega
    · rw [ByteArray.size_extract]; omega
  · exact h'
set_option maxRecDepth 100000 in
set_option maxHeartbeats 2000000 in
theorem crashTorn_any (cs : List Value) (x : DiskD) (w : World) (lo hi : Nat) (h : DiskR w lo hi cs x) (hok : diskOk x = true) :
    Calls Try.prog 28 #[.agg cs.toArray, .int .i64 0, .int .i64 0] w (NewR DiskN w (settleD tornF x)) := by
  have H := Lib.hid h; have HOK := Lib.hid hok
  obtain ⟨sd, hsd⟩ : ∃ d, d = settleD tornF x := ⟨_, rfl⟩
  rw [← hsd]
  have HSD := Lib.hid hsd; clear hsd
  obtain ⟨gone, hgone⟩ : ∃ g, g = x.2.2 := ⟨_, rfl⟩
  obtain ⟨A0, n0, c0, A1, n1, c1, rfl, h0, h1⟩ := h
  rw [← hgone] at H ⊢; clear hgone
  have HLE := Lib.hid h0.lo_le
  show Calls Try.prog 28 #[.agg #[.slice A0 n0 c0, .slice A1 n1 c1, .bool gone], .int .i64 0, .int .i64 0] w _
  clear h0 h1 hok
  go_enter Try.func28, Try.ntmps28
  go_wp2_with fail
  obtain ⟨W, hW⟩ : ∃ W, W = (((w.alloc (.cells #[.slice A0 n0 c0, .slice A1 n1 c1, .bool gone] 26)).alloc (.cells #[.int .i64 0] 3)).alloc (.cells #[.int .i64 0] 3)).alloc (.cells #[.slice none 0 0, .slice none 0 0, .bool false] 26) := ⟨_, rfl⟩
  have XW : Below w.heap.size w W := by rw [hW]; exact ((((Below.refl _ w).alloc (Nat.le_refl _) _).alloc (by simp) _).alloc (by simp <;> omega) _).alloc (by simp <;> omega) _
  have zW : W.heap.size = w.heap.size + 4 := by rw [hW]; simp
  have kd : W.heap[w.heap.size]? = some (.cells #[.slice A0 n0 c0, .slice A1 n1 c1, .bool gone] 26 (0, 0)) := by rw [hW]; exact (Below.heap_alloc _ _ _ (by simp <;> omega)).trans ((Below.heap_alloc _ _ _ (by simp <;> omega)).trans ((Below.heap_alloc _ _ _ (by simp)).trans (heap_alloc_new _ _)))
  have kk : W.heap[w.heap.size + 1]? = some (.cells #[.int .i64 0] 3 (0, 0)) := by rw [hW]; exact (Below.heap_alloc _ _ _ (by simp <;> omega)).trans ((Below.heap_alloc _ _ _ (by simp)).trans (by have := heap_alloc_new (w.alloc (.cells #[.slice A0 n0 c0, .slice A1 n1 c1, .bool gone] 26)) (.cells #[.int .i64 0] 3); simpa using this))
  have kt : W.heap[w.heap.size + 1 + 1]? = some (.cells #[.int .i64 0] 3 (0, 0)) := by rw [hW]; exact (Below.heap_alloc _ _ _ (by simp)).trans (by have := heap_alloc_new ((w.alloc (.cells #[.slice A0 n0 c0, .slice A1 n1 c1, .bool gone] 26)).alloc (.cells #[.int .i64 0] 3)) (.cells #[.int .i64 0] 3); simpa using this)
  have kr : W.heap[w.heap.size + 1 + 1 + 1]? = some (.cells #[.slice none 0 0, .slice none 0 0, .bool false] 26 (0, 0)) := by rw [hW]; have := heap_alloc_new (((w.alloc (.cells #[.slice A0 n0 c0, .slice A1 n1 c1, .bool gone] 26)).alloc (.cells #[.int .i64 0] 3)).alloc (.cells #[.int .i64 0] 3)) (.cells #[.slice none 0 0, .slice none 0 0, .bool false] 26); simpa using this
  rw [← hW]
  clear hW
  refine (diskOk_any _ x _ lo hi (DiskR.below XW HLE.out _ _ H.out)).mono ?_
  rw [HOK.out]
  rintro e w1 ⟨rfl, hb1⟩
  have z1 := hb1.size
  have X1 : Below w.heap.size w w1 := XW.trans (hb1.mono (by omega))
  have kd1 := (hb1.block _ (by omega)).trans kd; have kk1 := (hb1.block _ (by omega)).trans kk; have kt1 := (hb1.block _ (by omega)).trans kt
  have HQ := Lib.hid ((hb1.block _ (by omega)).trans kr)
  have q0 := cell_of_row _ _ 0 _ _ (0, 0) kd1; have q1 := cell_of_row _ _ 1 _ _ (0, 0) kd1; have q2 := cell_of_row _ _ 2 _ _ (0, 0) kd1
  have v0 := cell_of_row _ _ 0 _ _ (0, 0) kk1; have v1 := cell_of_row _ _ 0 _ _ (0, 0) kt1
  have V0 := Lib.hid v0; have V1 := Lib.hid v1
  have HX1 := Lib.hid X1
  clear hb1 kd kk kt kr kd1 kk1 kt1 X1 XW
  go_wp2_with fail
  refine (settleCrash_any (w.heap.size + 1) (w.heap.size + 1 + 1) _ x _ lo hi (DiskR.below HX1.out HLE.out _ _ H.out) HOK.out tornF (fun i x s h h' => tornF_le h h') (fun i a s t w' hb hi hs ht => crashTorn1_any _ _ i a s t w' ((hb.cell (by simp <;> omega)).trans V0.out) ((hb.cell (by simp <;> omega)).trans V1.out) (by have := hb.size; omega) (by have := hb.size; omega) hs ht hi)).mono ?_
  rw [← HSD.out]
  rintro e w2 ⟨cs2, rfl, hN2, hb2⟩
  have HN2 := Lib.hid hN2
  obtain ⟨B0, m0, d0, B1, m1, d1, rfl, -⟩ := hN2
  have z2 := hb2.size
  have hq2 := (hb2.block (w.heap.size + 1 + 1 + 1) (by omega)).trans HQ.out
  have HX2 := Lib.hid (HX1.out.trans (hb2.mono HX1.out.size))
  have fz := fun o => block_free hq2 o
  have fz0 := fz 0; have fz1 := fz 1; have fz2 := fz 2
  have r0 := cell_of_row _ _ 0 _ _ (0, 0) hq2; have r1 := cell_of_row _ _ 1 _ _ (0, 0) hq2; have r2 := cell_of_row _ _ 2 _ _ (0, 0) hq2
  have hst := setT_3 (x0 := .slice B0 m0 d0) (x1 := .slice B1 m1 d1) (x2 := .bool sd.2.2) hq2
  have s0 := cell_of_row _ _ 0 _ _ (0, 0) hst; have s1 := cell_of_row _ _ 1 _ _ (0, 0) hst; have s2 := cell_of_row _ _ 2 _ _ (0, 0) hst
  clear fz hst hq2 hb2 q0 q1 q2 v0 v1
  go_wp2_with fail
  refine bodyPost_ret (v := .agg #[.slice B0 m0 d0, .slice B1 m1 d1, .bool sd.2.2]) (by simp [results, Try.results28, go_sem, s0, s1, s2]) rfl ⟨_, rfl, ?_, ?_⟩
  · refine DiskN.wide (show w.heap.size ≤ w1.heap.size by omega) (by simp [World.setCell]) (Nat.le_refl _) _ _ (DiskN.keep (w := w2) (lo := w1.heap.size) (hi := w2.heap.size) (Same.setCell (p := ⟨w.heap.size + 1 + 1 + 1, 2, none⟩) (Same.setCell (p := ⟨w.heap.size + 1 + 1 + 1, 1, none⟩) (Same.setCell (p := ⟨w.heap.size + 1 + 1 + 1, 0, none⟩) (Same.refl _ _ _) (.inl (by simp <;> omega)) _) (.inl (by simp <;> omega)) _) (.inl (by simp <;> omega)) _) (by simp [World.setCell]) _ _ HN2.out)
  · exact Below.setCell (p := ⟨w.heap.size + 1 + 1 + 1, 2, none⟩) (Below.setCell (p := ⟨w.heap.size + 1 + 1 + 1, 1, none⟩) (Below.setCell (p := ⟨w.heap.size + 1 + 1 + 1, 0, none⟩) HX2.out (by simp <;> omega) _) (by simp <;> omega) _) (by simp <;> omega) _
end Go.Proofs.Ytgipchipcoaajaa
