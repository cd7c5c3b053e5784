/- DiskFlush both, at all disks; DiskCrash by mask 0 and tear 0. No condition. -/
import Derived.Test.YtfokpjoeankobaaFlush
import Derived.Test.YtfokpjoeankobaaDiskCopy
namespace Go.Proofs.Ytfokpjoeankobaa
set_option linter.unusedSimpArgs false
set_option linter.unnecessarySimpa false
open Go.RowKit
set_option linter.unusedVariables false
/-- A disk flushed. -/
def flushD (x : DiskD) : DiskD := if diskOk x = true then settleD flushF x else ([], [], false)
theorem bareN {w : World} {lo hi : Nat} {A B : Option Addr} (h : hi ≤ w.heap.size) : DiskN w lo hi [.slice A 0 0, .slice B 0 0, .bool false] ([], [], false) :=
  ⟨_, _, _, _, _, _, rfl, ⟨rfl, Nat.le_refl _, Nat.zero_le _, h, fun _ => rfl, fun h => absurd h (Nat.lt_irrefl _)⟩, .inl ⟨rfl, rfl⟩, ⟨rfl, Nat.le_refl _, Nat.zero_le _, h, fun _ => rfl, fun h => absurd h (Nat.lt_irrefl _)⟩, .inl ⟨rfl, rfl⟩⟩
set_option maxRecDepth 100000 in
set_option maxHeartbeats 4000000 in
theorem l3Flush_any (g c : Nat) (A1 : Option Addr) (n1 c1 : Nat) (x0 : List ByteArray) (x1 : List WaitD) (gone : Bool) (w : World) (lo hi : Nat) (h0 : StrArr 9 w g c x0) (h1 : SliceR WaitR 2 w lo hi A1 n1 c1 x1) (hne : ∀ b off, A1 = some ⟨b, off, none⟩ → 0 < n1 → b ≠ g)
    (hx0 : x0.length = 64) (hn1 : n1 ≤ 120) (hw : ∀ y ∈ x1, inB y.1 0 63 = true) :
    Calls Try.prog 48 #[.agg #[.slice (some ⟨g, 0, none⟩) 64 c, .slice A1 n1 c1, .bool gone]] w fun e w' => ∃ B, e = .returned (.agg #[.slice (some ⟨g, 0, none⟩) 64 c, .slice B 0 0, .bool gone]) ∧ StrArr 9 w' g c (settleTo flushF x1 x0 n1) ∧ Chg (· ∈ [g]) w w' := by
  have hg := h0.lt
  have HN1 := Lib.hid h1.len
  have H0 := Lib.hid h0; have H1 := Lib.hid h1; have HX0 := Lib.hid hx0; have HW := Lib.hid hw; have HNE := Lib.hid hne
  clear h0 h1 hx0 hw hne
  go_enter Try.func48, Try.ntmps48
  go_wp2_with fail
  obtain ⟨w1, hW⟩ : ∃ w1, w1 = (w.alloc (.cells #[.slice (some ⟨g, 0, none⟩) 64 c, .slice A1 n1 c1, .bool gone] 45)).alloc (.cells #[.slice none 0 0, .slice none 0 0, .bool false] 45) := ⟨_, rfl⟩
  have X1 : Below w.heap.size w w1 := by rw [hW]; exact bel2
  have z1 : w1.heap.size = w.heap.size + 2 := by rw [hW]; simp
  have hq : w1.heap[w.heap.size + 1]? = some (.cells #[.slice none 0 0, .slice none 0 0, .bool false] 45 (0, 0)) := by rw [hW]; have := heap_alloc_new (w.alloc (.cells #[.slice (some ⟨g, 0, none⟩) 64 c, .slice A1 n1 c1, .bool gone] 45)) (.cells #[.slice none 0 0, .slice none 0 0, .bool false] 45); simpa using this
  have hbx : w1.heap[w.heap.size]? = some (.cells #[.slice (some ⟨g, 0, none⟩) 64 c, .slice A1 n1 c1, .bool gone] 45 (0, 0)) := by rw [hW]; exact (Below.heap_alloc _ _ _ (by simp)).trans (heap_alloc_new _ _)
  have HWW := Lib.hid hW; rw [← HWW.out]; clear hW HWW
  have HBX := Lib.hid hbx; have HQ := Lib.hid hq; have HX1 := Lib.hid X1
  have HA1 := Lib.hid (H0.out.below X1)
  clear hbx hq X1
  go_loopw [3] (fun i wr => ∃ r : Nat, r ≤ n1 ∧ i = .int .i64 (r : Int) ∧ Hid (Chg (· ∈ [g]) w1 wr) ∧ Hid (StrArr 9 wr g c (settleTo flushF x1 x0 r))) (fun i _ => n1 - (intOf i).toNat)
  case atStart => exact ⟨0, Nat.zero_le _, rfl, Lib.hid (Chg.refl _ _), HA1⟩
  case round =>
    obtain ⟨r, hr, rfl, HC, HA⟩ := hrel
    have hszr := HC.out.size
    have hbr : wr.heap[w.heap.size]? = some (.cells #[.slice (some ⟨g, 0, none⟩) 64 c, .slice A1 n1 c1, .bool gone] 45 (0, 0)) := (HC.out.block _ (by omega) (by simp; omega)).trans HBX.out
    have HBR := Lib.hid hbr
    have b0 := cell_of_row _ _ 0 _ _ (0, 0) hbr; have b1 := cell_of_row _ _ 1 _ _ (0, 0) hbr; have b2 := cell_of_row _ _ 2 _ _ (0, 0) hbr
    clear hbr
    by_cases hlt : r < n1
    · obtain ⟨xx, hx⟩ : ∃ xx, x1[r]? = some xx := ⟨x1[r]'(by rw [HN1.out]; exact hlt), List.getElem?_eq_getElem _⟩
      obtain ⟨bw, ow, rfl, _, _, blw, hcw⟩ := (SliceR.below H1.out HX1.out (WaitR.below HX1.out H1.out.lo_le)).at_ (by omega)
      have hbg : bw ≠ g := HNE.out _ _ rfl (by omega)
      obtain ⟨cs, hcl, hcc, hrr⟩ := hcw r xx hx
      have hin := HW.out xx (List.mem_of_getElem? hx)
      obtain ⟨a, s⟩ := xx
      obtain ⟨m, rfl, hm⟩ := inB_nat (m := 63) hin
      obtain ⟨rfl, _⟩ := hrr
      have hbw := HC.out.block bw blw (by simp; omega)
      have q0 := (World.cell?_of_block (a := ⟨bw, _, none⟩) hbw).trans (hcc 0 _ rfl)
      have q1 := (World.cell?_of_block (a := ⟨bw, _, none⟩) hbw).trans (hcc 1 _ rfl)
      simp only [Nat.add_zero] at q0
      have lbw : bw < wr.heap.size := by omega
      have hlen : (settleTo flushF x1 x0 r).length = 64 := settleTo_len.trans HX0.out
      obtain ⟨u, hu⟩ : ∃ u, (settleTo flushF x1 x0 r)[m]? = some u := ⟨_, List.getElem?_eq_getElem (by omega)⟩
      have HSTEP : Hid (settleTo flushF x1 x0 (r + 1) = (settleTo flushF x1 x0 r).set m s) := Lib.hid (by rw [settleTo_succ]; unfold settleStep; rw [hx]; simp [flushF])
      obtain ⟨t, ht⟩ : ∃ t, t = settleTo flushF x1 x0 r := ⟨_, rfl⟩
      rw [← ht] at HA HSTEP hu hlen
      have HU := Lib.hid hu; have HLEN := Lib.hid hlen; have HIN := Lib.hid hin
      clear hcw hcc hcl hu hlen hin ht hx hbw
      have k0 : (0 : Int) ≤ (r : Int) := by omega
      have k1 : (r : Int) < (n1 : Int) := by omega
      have m0 : (0 : Int) ≤ (m : Int) := by omega
      have m1 : (m : Int) < 64 := by omega
      have lbx : w.heap.size < wr.heap.size := by omega
      have HB0 := Lib.hid b0; have HB1 := Lib.hid b1; have HQ0 := Lib.hid q0; have HQ1 := Lib.hid q1
      clear q0 q1
      go_wp2_with fail
      clear b0 b1 b2
      apply wp_region_rgz (Chg (· ∈ [g])) (Ext) (fun y w' k' => (k' < 1000 → StrArr 9 w' g c t) ∧ (1000 ≤ k' → StrArr 9 w' g c (t.set m s))) (0 :: 0 :: 0 :: 0 :: 0 :: 0 :: 0 :: 0 :: 0 :: 0 :: 0 :: 0 :: 0 :: 0 :: 0 :: 1000 :: []) (1000 :: 1000 :: 1000 :: 1000 :: 1000 :: 1000 :: 1000 :: 1000 :: 1000 :: 1000 :: 1000 :: 1000 :: 1000 :: 1000 :: 1000 :: 1000 :: []) (by kernel_rfl) (false :: false :: false :: false :: false :: false :: false :: false :: false :: false :: false :: true :: true :: true :: true :: true :: true :: true :: true :: true :: true :: true :: true :: true :: true :: true :: false :: false :: false :: []) (some 11 :: some 12 :: some 13 :: some 14 :: some 15 :: some 16 :: some 17 :: some 18 :: some 19 :: some 20 :: some 21 :: some 22 :: some 23 :: some 24 :: some 25 :: none :: []) ([] :: [0] :: [] :: [2] :: [] :: [3, 4] :: [5] :: [6] :: [] :: [8] :: [] :: [9, 10] :: [11] :: [12] :: [1, 7] :: [13, 14] :: []) (false :: false :: false :: false :: false :: false :: false :: false :: false :: false :: false :: false :: false :: false :: false :: true :: []) (true :: true :: true :: true :: true :: true :: true :: true :: true :: true :: true :: true :: true :: true :: true :: true :: []) [] (MStP.is _ :: MStP.is _ :: MStP.is _ :: MStP.is _ :: MStP.is _ :: MStP.is _ :: MStP.is _ :: MStP.is _ :: MStP.is _ :: MStP.is _ :: MStP.is _ :: MStP.is _ :: MStP.is _ :: MStP.is _ :: MStP.is _ :: MStP.is _ :: []) (by kernel_rfl) (by kernel_rfl) (by kernel_rfl) (by kernel_rfl)
      case hobs =>
        refine ⟨fun y w' k hS hj hk hF K hK => ?_, ?_⟩
        · skip -- 0: fieldAddr
          simp only [fillL, cond_true, cond_false, List.getD_cons_zero, List.getD_cons_succ, StP.is, Act.put, List.setIfInBounds_toArray, List.set_cons_zero, List.set_cons_succ, Nat.reduceAdd, MStP.is, Option.isSome_some, Option.isSome_none] at hK ⊢
          simp only [List.sum_cons, List.sum_nil, List.getD_cons_zero, List.getD_cons_succ, Nat.reduceAdd, Nat.add_zero] at hk
          refine rg_yes (by kernel_rfl) ?_
          have hsw := hS.size
          clear hF
          go_simp
          exact hK _ _ (Ext.refl _) ⟨fun h => hj.1 (by omega), fun h => absurd h (by omega)⟩ rfl
        refine ⟨fun y w' k hS hj hk hF K hK => ?_, ?_⟩
        · skip -- 1: load
          have e11 : y 11 = _ := hF.1
          have e11' := Lib.hid e11
          simp only [fillL, cond_true, cond_false, List.getD_cons_zero, List.getD_cons_succ, StP.is, Act.put, List.setIfInBounds_toArray, List.set_cons_zero, List.set_cons_succ, Nat.reduceAdd, e11, MStP.is, Option.isSome_some, Option.isSome_none] at hK ⊢
          simp only [List.sum_cons, List.sum_nil, List.getD_cons_zero, List.getD_cons_succ, Nat.reduceAdd, Nat.add_zero] at hk
          refine rg_yes (by kernel_rfl) ?_
          have hsw := hS.size
          clear e11
          clear hF
          have q0_ := (World.cell?_of_block (a := ⟨w.heap.size, _, none⟩) (hS.block w.heap.size lbx (by simp; omega))).trans HB0.out; have q1_ := (World.cell?_of_block (a := ⟨w.heap.size, _, none⟩) (hS.block w.heap.size lbx (by simp; omega))).trans HB1.out
          go_simp
          exact hK _ _ (Ext.refl _) ⟨fun h => hj.1 (by omega), fun h => absurd h (by omega)⟩ rfl
        refine ⟨fun y w' k hS hj hk hF K hK => ?_, ?_⟩
        · skip -- 2: fieldAddr
          simp only [fillL, cond_true, cond_false, List.getD_cons_zero, List.getD_cons_succ, StP.is, Act.put, List.setIfInBounds_toArray, List.set_cons_zero, List.set_cons_succ, Nat.reduceAdd, MStP.is, Option.isSome_some, Option.isSome_none] at hK ⊢
          simp only [List.sum_cons, List.sum_nil, List.getD_cons_zero, List.getD_cons_succ, Nat.reduceAdd, Nat.add_zero] at hk
          refine rg_yes (by kernel_rfl) ?_
          have hsw := hS.size
          clear hF
          go_simp
          exact hK _ _ (Ext.refl _) ⟨fun h => hj.1 (by omega), fun h => absurd h (by omega)⟩ rfl
        refine ⟨fun y w' k hS hj hk hF K hK => ?_, ?_⟩
        · skip -- 3: load
          have e13 : y 13 = _ := hF.1
          have e13' := Lib.hid e13
          simp only [fillL, cond_true, cond_false, List.getD_cons_zero, List.getD_cons_succ, StP.is, Act.put, List.setIfInBounds_toArray, List.set_cons_zero, List.set_cons_succ, Nat.reduceAdd, e13, MStP.is, Option.isSome_some, Option.isSome_none] at hK ⊢
          simp only [List.sum_cons, List.sum_nil, List.getD_cons_zero, List.getD_cons_succ, Nat.reduceAdd, Nat.add_zero] at hk
          refine rg_yes (by kernel_rfl) ?_
          have hsw := hS.size
          clear e13
          clear hF
          have q0_ := (World.cell?_of_block (a := ⟨w.heap.size, _, none⟩) (hS.block w.heap.size lbx (by simp; omega))).trans HB0.out; have q1_ := (World.cell?_of_block (a := ⟨w.heap.size, _, none⟩) (hS.block w.heap.size lbx (by simp; omega))).trans HB1.out
          go_simp
          exact hK _ _ (Ext.refl _) ⟨fun h => hj.1 (by omega), fun h => absurd h (by omega)⟩ rfl
        refine ⟨fun y w' k hS hj hk hF K hK => ?_, ?_⟩
        · skip -- 4: move
          simp only [fillL, cond_true, cond_false, List.getD_cons_zero, List.getD_cons_succ, StP.is, Act.put, List.setIfInBounds_toArray, List.set_cons_zero, List.set_cons_succ, Nat.reduceAdd, MStP.is, Option.isSome_some, Option.isSome_none] at hK ⊢
          simp only [List.sum_cons, List.sum_nil, List.getD_cons_zero, List.getD_cons_succ, Nat.reduceAdd, Nat.add_zero] at hk
          refine rg_yes (by kernel_rfl) ?_
          have hsw := hS.size
          clear hF
          go_simp
          exact hK _ _ (Ext.refl _) ⟨fun h => hj.1 (by omega), fun h => absurd h (by omega)⟩ rfl
        refine ⟨fun y w' k hS hj hk hF K hK => ?_, ?_⟩
        · skip -- 5: indexAddr
          have e14 : y 14 = _ := hF.1
          have e15 : y 15 = _ := hF.2.1
          have e14' := Lib.hid e14
          have e15' := Lib.hid e15
          simp only [fillL, cond_true, cond_false, List.getD_cons_zero, List.getD_cons_succ, StP.is, Act.put, List.setIfInBounds_toArray, List.set_cons_zero, List.set_cons_succ, Nat.reduceAdd, e14, e15, MStP.is, Option.isSome_some, Option.isSome_none] at hK ⊢
          simp only [List.sum_cons, List.sum_nil, List.getD_cons_zero, List.getD_cons_succ, Nat.reduceAdd, Nat.add_zero] at hk
          refine rg_yes (by kernel_rfl) ?_
          have hsw := hS.size
          clear e14 e15
          clear hF
          go_simp
          exact hK _ _ (Ext.refl _) ⟨fun h => hj.1 (by omega), fun h => absurd h (by omega)⟩ rfl
        refine ⟨fun y w' k hS hj hk hF K hK => ?_, ?_⟩
        · skip -- 6: fieldAddr
          have e16 : y 16 = _ := hF.1
          have e16' := Lib.hid e16
          simp only [fillL, cond_true, cond_false, List.getD_cons_zero, List.getD_cons_succ, StP.is, Act.put, List.setIfInBounds_toArray, List.set_cons_zero, List.set_cons_succ, Nat.reduceAdd, e16, MStP.is, Option.isSome_some, Option.isSome_none] at hK ⊢
          simp only [List.sum_cons, List.sum_nil, List.getD_cons_zero, List.getD_cons_succ, Nat.reduceAdd, Nat.add_zero] at hk
          refine rg_yes (by kernel_rfl) ?_
          have hsw := hS.size
          clear e16
          clear hF
          go_simp
          exact hK _ _ (Ext.refl _) ⟨fun h => hj.1 (by omega), fun h => absurd h (by omega)⟩ rfl
        refine ⟨fun y w' k hS hj hk hF K hK => ?_, ?_⟩
        · skip -- 7: load
          have e17 : y 17 = _ := hF.1
          have e17' := Lib.hid e17
          simp only [fillL, cond_true, cond_false, List.getD_cons_zero, List.getD_cons_succ, StP.is, Act.put, List.setIfInBounds_toArray, List.set_cons_zero, List.set_cons_succ, Nat.reduceAdd, e17, MStP.is, Option.isSome_some, Option.isSome_none] at hK ⊢
          simp only [List.sum_cons, List.sum_nil, List.getD_cons_zero, List.getD_cons_succ, Nat.reduceAdd, Nat.add_zero] at hk
          refine rg_yes (by kernel_rfl) ?_
          have hsw := hS.size
          clear e17
          clear hF
          have q0_ := (World.cell?_of_block (a := ⟨bw, _, none⟩) (hS.block bw lbw (by simp; omega))).trans HQ0.out; have q1_ := (World.cell?_of_block (a := ⟨bw, _, none⟩) (hS.block bw lbw (by simp; omega))).trans HQ1.out
          go_simp
          exact hK _ _ (Ext.refl _) ⟨fun h => hj.1 (by omega), fun h => absurd h (by omega)⟩ rfl
        refine ⟨fun y w' k hS hj hk hF K hK => ?_, ?_⟩
        · skip -- 8: fieldAddr
          simp only [fillL, cond_true, cond_false, List.getD_cons_zero, List.getD_cons_succ, StP.is, Act.put, List.setIfInBounds_toArray, List.set_cons_zero, List.set_cons_succ, Nat.reduceAdd, MStP.is, Option.isSome_some, Option.isSome_none] at hK ⊢
          simp only [List.sum_cons, List.sum_nil, List.getD_cons_zero, List.getD_cons_succ, Nat.reduceAdd, Nat.add_zero] at hk
          refine rg_yes (by kernel_rfl) ?_
          have hsw := hS.size
          clear hF
          go_simp
          exact hK _ _ (Ext.refl _) ⟨fun h => hj.1 (by omega), fun h => absurd h (by omega)⟩ rfl
        refine ⟨fun y w' k hS hj hk hF K hK => ?_, ?_⟩
        · skip -- 9: load
          have e19 : y 19 = _ := hF.1
          have e19' := Lib.hid e19
          simp only [fillL, cond_true, cond_false, List.getD_cons_zero, List.getD_cons_succ, StP.is, Act.put, List.setIfInBounds_toArray, List.set_cons_zero, List.set_cons_succ, Nat.reduceAdd, e19, MStP.is, Option.isSome_some, Option.isSome_none] at hK ⊢
          simp only [List.sum_cons, List.sum_nil, List.getD_cons_zero, List.getD_cons_succ, Nat.reduceAdd, Nat.add_zero] at hk
          refine rg_yes (by kernel_rfl) ?_
          have hsw := hS.size
          clear e19
          clear hF
          have q0_ := (World.cell?_of_block (a := ⟨w.heap.size, _, none⟩) (hS.block w.heap.size lbx (by simp; omega))).trans HB0.out; have q1_ := (World.cell?_of_block (a := ⟨w.heap.size, _, none⟩) (hS.block w.heap.size lbx (by simp; omega))).trans HB1.out
          go_simp
          exact hK _ _ (Ext.refl _) ⟨fun h => hj.1 (by omega), fun h => absurd h (by omega)⟩ rfl
        refine ⟨fun y w' k hS hj hk hF K hK => ?_, ?_⟩
        · skip -- 10: move
          simp only [fillL, cond_true, cond_false, List.getD_cons_zero, List.getD_cons_succ, StP.is, Act.put, List.setIfInBounds_toArray, List.set_cons_zero, List.set_cons_succ, Nat.reduceAdd, MStP.is, Option.isSome_some, Option.isSome_none] at hK ⊢
          simp only [List.sum_cons, List.sum_nil, List.getD_cons_zero, List.getD_cons_succ, Nat.reduceAdd, Nat.add_zero] at hk
          refine rg_yes (by kernel_rfl) ?_
          have hsw := hS.size
          clear hF
          go_simp
          exact hK _ _ (Ext.refl _) ⟨fun h => hj.1 (by omega), fun h => absurd h (by omega)⟩ rfl
        refine ⟨fun y w' k hS hj hk hF K hK => ?_, ?_⟩
        · skip -- 11: indexAddr
          have e20 : y 20 = _ := hF.1
          have e21 : y 21 = _ := hF.2.1
          have e20' := Lib.hid e20
          have e21' := Lib.hid e21
          simp only [fillL, cond_true, cond_false, List.getD_cons_zero, List.getD_cons_succ, StP.is, Act.put, List.setIfInBounds_toArray, List.set_cons_zero, List.set_cons_succ, Nat.reduceAdd, e20, e21, MStP.is, Option.isSome_some, Option.isSome_none] at hK ⊢
          simp only [List.sum_cons, List.sum_nil, List.getD_cons_zero, List.getD_cons_succ, Nat.reduceAdd, Nat.add_zero] at hk
          refine rg_yes (by kernel_rfl) ?_
          have hsw := hS.size
          clear e20 e21
          clear hF
          go_simp
          exact hK _ _ (Ext.refl _) ⟨fun h => hj.1 (by omega), fun h => absurd h (by omega)⟩ rfl
        refine ⟨fun y w' k hS hj hk hF K hK => ?_, ?_⟩
        · skip -- 12: fieldAddr
          have e22 : y 22 = _ := hF.1
          have e22' := Lib.hid e22
          simp only [fillL, cond_true, cond_false, List.getD_cons_zero, List.getD_cons_succ, StP.is, Act.put, List.setIfInBounds_toArray, List.set_cons_zero, List.set_cons_succ, Nat.reduceAdd, e22, MStP.is, Option.isSome_some, Option.isSome_none] at hK ⊢
          simp only [List.sum_cons, List.sum_nil, List.getD_cons_zero, List.getD_cons_succ, Nat.reduceAdd, Nat.add_zero] at hk
          refine rg_yes (by kernel_rfl) ?_
          have hsw := hS.size
          clear e22
          clear hF
          go_simp
          exact hK _ _ (Ext.refl _) ⟨fun h => hj.1 (by omega), fun h => absurd h (by omega)⟩ rfl
        refine ⟨fun y w' k hS hj hk hF K hK => ?_, ?_⟩
        · skip -- 13: load
          have e23 : y 23 = _ := hF.1
          have e23' := Lib.hid e23
          simp only [fillL, cond_true, cond_false, List.getD_cons_zero, List.getD_cons_succ, StP.is, Act.put, List.setIfInBounds_toArray, List.set_cons_zero, List.set_cons_succ, Nat.reduceAdd, e23, MStP.is, Option.isSome_some, Option.isSome_none] at hK ⊢
          simp only [List.sum_cons, List.sum_nil, List.getD_cons_zero, List.getD_cons_succ, Nat.reduceAdd, Nat.add_zero] at hk
          refine rg_yes (by kernel_rfl) ?_
          have hsw := hS.size
          clear e23
          clear hF
          have q0_ := (World.cell?_of_block (a := ⟨bw, _, none⟩) (hS.block bw lbw (by simp; omega))).trans HQ0.out; have q1_ := (World.cell?_of_block (a := ⟨bw, _, none⟩) (hS.block bw lbw (by simp; omega))).trans HQ1.out
          go_simp
          exact hK _ _ (Ext.refl _) ⟨fun h => hj.1 (by omega), fun h => absurd h (by omega)⟩ rfl
        refine ⟨fun y w' k hS hj hk hF K hK => ?_, ?_⟩
        · skip -- 14: indexAddr
          have e12 : y 12 = _ := hF.1
          have e18 : y 18 = _ := hF.2.1
          have e12' := Lib.hid e12
          have e18' := Lib.hid e18
          simp only [fillL, cond_true, cond_false, List.getD_cons_zero, List.getD_cons_succ, StP.is, Act.put, List.setIfInBounds_toArray, List.set_cons_zero, List.set_cons_succ, Nat.reduceAdd, e12, e18, MStP.is, Option.isSome_some, Option.isSome_none] at hK ⊢
          simp only [List.sum_cons, List.sum_nil, List.getD_cons_zero, List.getD_cons_succ, Nat.reduceAdd, Nat.add_zero] at hk
          refine rg_yes (by kernel_rfl) ?_
          have hsw := hS.size
          clear e12 e18
          clear hF
          go_simp
          exact hK _ _ (Ext.refl _) ⟨fun h => hj.1 (by omega), fun h => absurd h (by omega)⟩ rfl
        refine ⟨fun y w' k hS hj hk hF K hK => ?_, ?_⟩
        · skip -- 15: store
          have e24 : y 24 = _ := hF.1
          have e25 : y 25 = _ := hF.2.1
          have e24' := Lib.hid e24
          have e25' := Lib.hid e25
          simp only [fillL, cond_true, cond_false, List.getD_cons_zero, List.getD_cons_succ, StP.is, Act.put, List.setIfInBounds_toArray, List.set_cons_zero, List.set_cons_succ, Nat.reduceAdd, e24, e25, MStP.is, Option.isSome_some, Option.isSome_none] at hK ⊢
          simp only [List.sum_cons, List.sum_nil, List.getD_cons_zero, List.getD_cons_succ, Nat.reduceAdd, Nat.add_zero] at hk
          refine rg_yes (by kernel_rfl) ?_
          have hsw := hS.size
          clear e24 e25
          clear hF
          have HAA := Lib.hid (hj.1 (by omega))
          have fz := HAA.out.free (j := m)
          have q0_ := HAA.out.cell HU.out
          go_simp
          exact hK undef _ ((Chg.refl _ _).setCell (.inl (by simp)) _) ⟨fun h => absurd h (by omega), fun _ => HAA.out.set (by rw [HLEN.out]; omega)⟩ rfl
        trivial
      case hH => rfl
      case hNS => exact fun _ _ h => Chg.of_below h _
      case hSt => exact fun a b => Chg.trans a b
      case hb => rfl
      case hdrew => exact (Chg.refl _ _).drewN 1
      case hj0 => exact fun y => ⟨fun _ => HA.out, fun h => absurd h (by omega)⟩
      case hend =>
        intro y w6 hS hJ hF
        have hA6 := hJ.2 (by decide)
        rw [← HSTEP.out] at hA6
        have HA6 := Lib.hid hA6
        have HC6 : Hid (Chg (· ∈ [g]) w1 w6) := Lib.hid (HC.out.trans hS)
        clear hJ hF hS hA6
        simp only [fillL, cond_true, cond_false, Nat.reduceAdd]
        go_wp2_with fail
        go_roundw
        case rel => exact ⟨r + 1, by omega, by go_num, HC6, HA6⟩
        case measure => simp [intOf]; omega
    · obtain rfl : r = n1 := by omega
      have hqr : wr.heap[w.heap.size + 1]? = some (.cells #[.slice none 0 0, .slice none 0 0, .bool false] 45 (0, 0)) := (HC.out.block (w.heap.size + 1) (by omega) (by simp; omega)).trans HQ.out
      have r0 := cell_of_row _ _ 0 _ _ (0, 0) hqr; have r1 := cell_of_row _ _ 1 _ _ (0, 0) hqr; have r2 := cell_of_row _ _ 2 _ _ (0, 0) hqr
      have fz := fun o => block_free hqr o
      have fz0 := fz 0; have fz1 := fz 1; have fz2 := fz 2
      have fx := fun o => block_free HBR.out o
      have fx1 := fx 1
      have lq : w.heap.size + 1 < wr.heap.size := by omega
      have lx : w.heap.size < wr.heap.size := by omega
      have HQR := Lib.hid hqr
      clear fz fx hqr
      have sh : ∀ (B : Option Addr), (((((wr.setCell ⟨w.heap.size, 1, none⟩ (.slice B 0 0)).setCell ⟨w.heap.size + 1, 0, none⟩ (.slice (some ⟨g, 0, none⟩) 64 c)).setCell ⟨w.heap.size + 1, 1, none⟩ (.slice B 0 0)).setCell ⟨w.heap.size + 1, 2, none⟩ (.bool gone)).alloc (.cells #[] 63)).heap[w.heap.size + 1]? = some (.cells #[.slice (some ⟨g, 0, none⟩) 64 c, .slice B 0 0, .bool gone] 45 (0, 0)) := fun B =>
        (Below.heap_alloc _ _ _ (by simp [World.setCell]; omega)).trans (setT_3 ((heap_far (by simp)).trans HQR.out))
      have s0 := fun B => cell_of_row _ _ 0 _ _ (0, 0) (sh B); have s1 := fun B => cell_of_row _ _ 1 _ _ (0, 0) (sh B); have s2 := fun B => cell_of_row _ _ 2 _ _ (0, 0) (sh B)
      have S0 := Lib.hid s0; have S1 := Lib.hid s1; have S2 := Lib.hid s2
      clear sh s0 s1 s2
      go_wp2_with fail
      refine bodyPost_ret (v := .agg #[.slice (some ⟨g, 0, none⟩) 64 c, .slice (some ⟨wr.heap.size, 0, none⟩) 0 0, .bool gone]) (by simp [results, Try.results48, go_sem, S0.out, S1.out, S2.out]) rfl ⟨_, rfl, ?_, ?_⟩
      · exact (HA.out.block ((heap_far (by simp <;> omega)).trans ((heap_far (by simp <;> omega)).trans ((heap_far (by simp <;> omega)).trans (heap_far (by simp <;> omega)))))).below bel1
      · exact (Chg.setCell (p := ⟨w.heap.size + 1, 2, none⟩) (Chg.setCell (p := ⟨w.heap.size + 1, 1, none⟩) (Chg.setCell (p := ⟨w.heap.size + 1, 0, none⟩) (Chg.setCell (p := ⟨w.heap.size, 1, none⟩) ((Chg.of_below HX1.out _).trans HC.out) (.inr (by simp)) _) (.inr (by simp)) _) (.inr (by simp)) _) (.inr (by simp)) _).alloc _
/-- The torn write of the first wait. -/
def tornF (i : Nat) (x : WaitD) (t : ByteArray) : ByteArray := if i = 0 then (if x.2.size / 2 < t.size then x.2.extract 0 (x.2.size / 2) ++ t.extract (x.2.size / 2) t.size else x.2.extract 0 (x.2.size / 2)) else t
end Go.Proofs.Ytfokpjoeankobaa
