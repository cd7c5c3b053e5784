/- StoreOk of the reference. No condition. -/
import Derived.Test.YtjnhiiaejeaikaaGreatDoorRStoreOkI
import Derived.Test.YtjnhiiaejeaikaaGreatDoorRStorePlain
set_option linter.unnecessarySimpa false
set_option linter.unusedSimpArgs false
set_option linter.unusedVariables false
namespace Go.Proofs.YtjnhiiaejeaikaaGreatDoor
open Go.RowKit
abbrev rl0StoreOkS : List Bool := (false :: false :: false :: false :: false :: false :: false :: false :: false :: false :: false :: false :: false :: false :: false :: false :: false :: false :: false :: false :: false :: false :: false :: false :: false :: false :: false :: false :: false :: false :: false :: false :: false :: false :: false :: false :: false :: true :: true :: true :: true :: true :: true :: true :: true :: true :: true :: true :: true :: true :: true :: true :: true :: true :: true :: true :: true :: true :: true :: true :: true :: true :: true :: true :: true :: true :: true :: true :: true :: true :: true :: false :: false :: false :: false :: false :: false :: false :: false :: false :: false :: false :: false :: false :: false :: false :: false :: false :: false :: false :: false :: false :: false :: false :: false :: false :: false :: false :: false :: false :: false :: false :: false :: false :: false :: false :: false :: false :: false :: false :: false :: false :: false :: false :: false :: false :: false :: false :: false :: false :: false :: false :: false :: false :: false :: false :: false :: false :: false :: false :: false :: false :: false :: false :: false :: false :: false :: false :: false :: false :: false :: false :: false :: false :: [])
abbrev rl1StoreOkS : List (Option Nat) := (some 37 :: some 38 :: some 39 :: some 40 :: some 41 :: some 42 :: some 43 :: some 44 :: some 45 :: some 46 :: some 47 :: some 48 :: some 49 :: some 50 :: some 51 :: some 52 :: some 53 :: some 54 :: some 55 :: some 56 :: some 57 :: some 58 :: some 59 :: some 60 :: some 61 :: some 62 :: some 63 :: some 64 :: some 65 :: some 66 :: some 67 :: some 68 :: some 69 :: some 70 :: [])
abbrev rl2StoreOkS : List (List Nat) := ([] :: [0] :: [] :: [1, 2] :: [3] :: [4] :: [5] :: [6] :: [7] :: [7, 8] :: [7] :: [7, 9, 10] :: [7, 11] :: [7, 12] :: [7] :: [7, 14] :: [7, 15] :: [7] :: [7, 16, 17] :: [7, 18] :: [7, 19] :: [7, 13, 20] :: [7, 21] :: [22] :: [23] :: [23, 24] :: [23, 25] :: [23] :: [23, 26, 27] :: [23, 28] :: [23] :: [23, 30] :: [23, 29, 31] :: [23, 32] :: [])
abbrev rl3StoreOkS : List Bool := (false :: false :: false :: false :: false :: false :: false :: false :: false :: false :: false :: false :: false :: false :: false :: false :: false :: false :: false :: false :: false :: false :: false :: false :: false :: false :: false :: false :: false :: false :: false :: false :: false :: false :: false :: false :: false :: false :: false :: false :: false :: false :: false :: false :: false :: false :: false :: false :: false :: false :: false :: false :: false :: false :: false :: false :: false :: false :: false :: false :: false :: false :: false :: false :: false :: false :: false :: false :: false :: false :: false :: false :: false :: false :: false :: false :: false :: false :: false :: false :: false :: false :: false :: false :: false :: false :: false :: false :: false :: false :: false :: false :: false :: false :: false :: false :: false :: false :: false :: false :: false :: false :: false :: false :: false :: false :: false :: false :: false :: false :: false :: false :: false :: false :: false :: false :: false :: false :: false :: false :: false :: false :: false :: false :: false :: false :: false :: false :: false :: false :: false :: true :: true :: true :: true :: true :: true :: true :: true :: true :: true :: true :: true :: true :: [])
abbrev rl4StoreOkS : List (Option Nat) := (some 131 :: some 132 :: some 133 :: some 134 :: some 135 :: some 136 :: some 137 :: some 138 :: some 139 :: some 140 :: some 141 :: some 142 :: some 143 :: [])
abbrev rl5StoreOkS : List (List Nat) := ([] :: [] :: [1] :: [0, 2] :: [3] :: [] :: [5] :: [6] :: [] :: [8] :: [7, 9] :: [10] :: [4, 11] :: [])
theorem take_app_le {xs ys : List PtrD} {a : Nat} (k : Nat) : cntP ((xs ++ ys).take k) a ≤ cntP xs a + cntP ys a := by
 have := cntP_le (xs ++ ys) k a
 rwa [cntP_append] at this
theorem upto_step2 {f : Nat → PtrD → Bool} {xs : List PtrD} {k : Nat} {x : PtrD} (hp : ∀ j y, j < k → xs[j]? = some y → f j y = true) (hx : xs[k]? = some x) (h : f k x = true) : ∀ j y, j < k + 1 → xs[j]? = some y → f j y = true := by
 intro j y hj hy
 rcases Nat.lt_or_ge j k with h2 | h2
 · exact hp j y h2 hy
 obtain rfl : j = k := by omega
 rw [hx] at hy; obtain rfl := Option.some.inj hy; exact h
theorem app_left {xs ys : List PtrD} {k : Nat} {p : PtrD} (h : xs[k]? = some p) : (xs ++ ys)[k]? = some p := by
 rw [List.getElem?_append_left (List.getElem?_eq_some_iff.1 h).1]; exact h
theorem app_right {xs ys : List PtrD} {n j : Nat} {p : PtrD} (hn : xs.length = n) (h : ys[j]? = some p) : (xs ++ ys)[n + j]? = some p := by
 subst hn
 rw [List.getElem?_append_right (by omega), Nat.add_sub_cancel_left]; exact h
set_option maxRecDepth 100000 in
set_option maxHeartbeats 8000000 in
theorem spStoreOk_any (cs : List Value) (x : StoreD) (w : World) (lo hi : Nat) (h : StoreR w lo hi cs x) (hsz : x.2.2.2.1.length ≤ 2000000 ∧ x.2.2.2.2.2.1.length ≤ 2000000) :
 Calls Tryz.prog 39 #[.agg cs.toArray] w fun e w' => e = .returned (.bool (storeOk x)) ∧ Below w.heap.size w w' := by
 obtain ⟨rows, ⟨refs, last⟩, txg, gone, keep, dead, same⟩ := x
 obtain ⟨A0, n0, c0, A1, n1, c1, A2, n2, c2, A3, n3, c3, A4, n4, c4, rfl, h0, h1, h2, h3, h4⟩ := h
 obtain ⟨res, hres⟩ : ∃ r, r = storeOk (rows, (refs, last), txg, gone, keep, dead, same) := ⟨_, rfl⟩
 rw [← hres]
 have HBAD : Hid (¬ StoreOk (rows, (refs, last), txg, gone, keep, dead, same) → false = res) := Lib.hid (fun h => by rw [hres, storeOk_no h])
 have HYES : Hid (StoreOk (rows, (refs, last), txg, gone, keep, dead, same) → true = res) := Lib.hid (fun h => by rw [hres, storeOk_yes h])
 clear hres
 show Calls Tryz.prog 39 #[.agg #[.slice A0 n0 c0, .slice A1 n1 c1, .slice A2 n2 c2, .int .i64 txg, .slice A3 n3 c3, .int .i64 keep, .slice A4 n4 c4, .bool same]] w _
 have m0 := h0.max
 have L0 := Lib.hid h0.len; have L1 := Lib.hid h1.len; have L2 := Lib.hid h2.len; have L3 := Lib.hid h3.len; have L4 := Lib.hid h4.len
 have s3 : n3 ≤ 2000000 := by have := h3.len; have := hsz.1; simp at this; omega
 have s4 : n4 ≤ 2000000 := by have := h4.len; have := hsz.2; simp at this; omega
 have H0 := Lib.hid h0; have H1 := Lib.hid h1; have H2 := Lib.hid h2; have H3 := Lib.hid h3; have H4 := Lib.hid h4
 clear h0 h1 h2 h3 h4 hsz
 go_enter Tryz.func39, Tryz.ntmps39
 by_cases q0 : n0 = 64
 rotate_left
 · have d0 : ((n0 : Int) != 64) = true := by simp; omega
   go_wp2_with fail
   go_ret
   exact ⟨ret_bool (HBAD.out (fun h => q0 (by rw [← L0.out]; exact h.len))), bel1⟩
 subst q0
 go_wp2_with fail
 obtain ⟨w1, hW⟩ : ∃ W, W = w.alloc (.cells #[.slice A0 64 c0, .slice A1 n1 c1, .slice A2 n2 c2, .int .i64 txg, .slice A3 n3 c3, .int .i64 keep, .slice A4 n4 c4, .bool same] 39) := ⟨_, rfl⟩
 have HB1 : Hid (Below w.heap.size w w1) := Lib.hid (by rw [hW]; exact bel1)
 have HBX : Hid (w1.heap[w.heap.size]? = some (.cells #[.slice A0 64 c0, .slice A1 n1 c1, .slice A2 n2 c2, .int .i64 txg, .slice A3 n3 c3, .int .i64 keep, .slice A4 n4 c4, .bool same] 39 (0, 0))) := Lib.hid (by rw [hW]; exact heap_alloc_new _ _)
 rw [← hW]; clear hW
 have l1 : w.heap.size < w1.heap.size := (Array.getElem?_eq_some_iff.1 HBX.out).1
 have hWI : ∀ W, Below w1.heap.size w1 W → IntsAt W A1 n1 refs ∧ IntsAt W A2 n2 last := fun W hb => by
  have hw : Below w.heap.size w W := HB1.out.trans (hb.mono HB1.out.size)
  exact ⟨(H1.out.below hw (IntR.below hw H1.out.lo_le)).ints, (H2.out.below hw (IntR.below hw H2.out.lo_le)).ints⟩
 have HWI := Lib.hid hWI; clear hWI
 refine (spSpaceOk_any _ _ _ _ _ _ refs last _ (HWI.out w1 (Below.refl _ _)).1 (HWI.out w1 (Below.refl _ _)).2).mono ?_
 rintro e w2 ⟨rfl, hb2⟩
 have HB2 := Lib.hid hb2
 have HB3 : Hid (Below w.heap.size w w2) := Lib.hid (HB1.out.trans (hb2.mono HB1.out.size))
 have HBX2 : Hid (w2.heap[w.heap.size]? = some (.cells #[.slice A0 64 c0, .slice A1 n1 c1, .slice A2 n2 c2, .int .i64 txg, .slice A3 n3 c3, .int .i64 keep, .slice A4 n4 c4, .bool same] 39 (0, 0))) := Lib.hid ((hb2.block _ l1).trans HBX.out)
 have l2 : w.heap.size < w2.heap.size := (Array.getElem?_eq_some_iff.1 HBX2.out).1
 clear hb2
 have b0 := celR 0 HBX2.out; have b1 := celR 1 HBX2.out; have b2 := celR 2 HBX2.out; have b3 := celR 3 HBX2.out; have b4 := celR 4 HBX2.out; have b5 := celR 5 HBX2.out; have b6 := celR 6 HBX2.out; have b7 := celR 7 HBX2.out
 cases e1 : spOk refs last
 · have E1 := Lib.hid e1; clear e1
   go_wp2_with fail
   go_ret
   exact ⟨ret_bool (HBAD.out (fun h => by have h_ : spOk refs last = true := h.sp; rw [E1.out] at h_; cases h_)), HB3.out⟩
 have E1 := Lib.hid e1; clear e1
 obtain ⟨p1, p2, p3⟩ := spOk_iff.1 E1.out
 have HP3 := Lib.hid p3; clear p3
 obtain rfl : n1 = 64 := by rw [← L1.out]; exact p1
 obtain rfl : n2 = 64 := by rw [← L2.out]; exact p2
 clear p1 p2
 have W1 := l6In_any txg 1 900
 cases e2 : inB txg 1 900
 · have E2 := Lib.hid e2
   rw [e2] at W1
   clear e2
   go_wp2_with (go_at_call 55; with_reducible refine (W1 _).mono ?_; rintro e w' ⟨rfl, rfl⟩)
   go_ret
   exact ⟨ret_bool (HBAD.out (fun h => by have h_ : inB txg 1 900 = true := h.txg; rw [E2.out] at h_; cases h_)), HB3.out⟩
 have E2 := Lib.hid e2
 rw [e2] at W1
 clear e2
 have ht : 1 ≤ txg ∧ txg ≤ 900 := by have := E2.out; unfold inB at this; simpa using this
 have nt : IntKind.i64.wrap (txg - 1) = txg - 1 := IntWalk.i64_in _ (by omega)
 have W2 := l6In_any keep 0 (txg - 1)
 cases e3 : inB keep 0 (txg - 1)
 · have E3 := Lib.hid e3
   rw [e3] at W2
   clear e3
   go_wp2_with (first | (go_at_call 55; with_reducible refine (W1 _).mono ?_; rintro e w' ⟨rfl, rfl⟩) | (go_at_call 55; with_reducible refine (W2 _).mono ?_; rintro e w' ⟨rfl, rfl⟩))
   go_ret
   exact ⟨ret_bool (HBAD.out (fun h => by have h_ : inB keep 0 (txg - 1) = true := h.keep; rw [E3.out] at h_; cases h_)), HB3.out⟩
 have E3 := Lib.hid e3
 rw [e3] at W2
 clear e3
 have hkp : 0 ≤ keep ∧ keep ≤ txg - 1 := by have := E3.out; unfold inB at this; simpa using this
 go_wp2_with (first | (go_at_call 55; with_reducible refine (W1 _).mono ?_; rintro e w' ⟨rfl, rfl⟩) | (go_at_call 55; with_reducible refine (W2 _).mono ?_; rintro e w' ⟨rfl, rfl⟩))
 clear b0 b1 b2 b3 b4 b5 b6 b7 W1 W2
 go_loopw [3] (fun i wr => ∃ k : Nat, k ≤ 64 ∧ i = .int .i64 (k : Int) ∧ Hid (∀ j, j < k → rowT (refs.getD j 0) (rows.getD j ByteArray.empty) ∧ last.getD j 0 ≤ txg) ∧ Hid (Below w2.heap.size w2 wr)) (fun i _ => 64 - (intOf i).toNat)
 case atStart => exact ⟨0, Nat.zero_le _, rfl, Lib.hid (fun j hj => absurd hj (by omega)), Lib.hid (Below.refl _ _)⟩
 obtain ⟨k, hk, rfl, HT, HBr⟩ := hrel
 have HBw := Lib.hid (HB3.out.trans (HBr.out.mono HB3.out.size))
 have HBX3 := Lib.hid ((HBr.out.block _ l2).trans HBX2.out)
 have l3 : w.heap.size < wr.heap.size := (Array.getElem?_eq_some_iff.1 HBX3.out).1
 by_cases hlt : k < 64
 · have HI := Lib.hid (HWI.out wr (HB2.out.trans (HBr.out.mono HB2.out.size)))
   obtain ⟨s, hs⟩ : ∃ s, rows[k]? = some s := ⟨rows[k]'(by rw [L0.out]; exact hlt), List.getElem?_eq_getElem _⟩
   obtain ⟨b, off, rfl, _, _, bl, hc⟩ := (H0.out.below HBw.out (StrR.below HBw.out H0.out.lo_le)).at_ (show 0 < 64 by omega)
   obtain ⟨cs, hcl, hcc, hr⟩ := hc k s hs
   obtain ⟨rfl, hm⟩ := hr
   have v0 := hcc 0 _ rfl
   simp only [Nat.add_zero, Nat.mul_one] at v0
   unfold maxLen at hm
   obtain ⟨g1, o1, rfl, lg1, hcr⟩ := HI.out.1.at_ (show 0 < 64 by omega)
   have r0 := hcr k hlt
   obtain ⟨g2, o2, rfl, lg2, hcl2⟩ := HI.out.2.at_ (show 0 < 64 by omega)
   have y0 := hcl2 k hlt
   have hsd : rows.getD k ByteArray.empty = s := by rw [List.getD_eq_getElem?_getD, hs]; rfl
   obtain ⟨rv, hrv⟩ : ∃ r, r = refs.getD k 0 := ⟨_, rfl⟩
   obtain ⟨lv, hlv⟩ : ∃ r, r = last.getD k 0 := ⟨_, rfl⟩
   rw [← hrv] at r0; rw [← hlv] at y0
   have k0 : (0 : Int) ≤ (k : Int) := by omega
   have k1 : (k : Int) < 64 := by omega
   have hbad : ¬ (rowT rv s ∧ lv ≤ txg) → false = res := fun hn => HBAD.out (fun h => hn (by have h_ := h.rows k hlt; have h2_ := h.last k hlt; rw [hrv, hlv]; have e_ : rows.getD k ByteArray.empty = s := hsd; rw [← e_]; exact ⟨h_, h2_⟩))
   have hok : (rowT rv s ∧ lv ≤ txg) → Hid (∀ j, j < k + 1 → rowT (refs.getD j 0) (rows.getD j ByteArray.empty) ∧ last.getD j 0 ≤ txg) := fun hn => Lib.hid (fun j hj => by
    rcases Nat.lt_or_ge j k with hjk | hjk
    · exact HT.out j hjk
    · obtain rfl : j = k := by omega
      rw [hsd, ← hrv, ← hlv]; exact hn)
   have HBD := Lib.hid hbad; have HOK := Lib.hid hok
   clear hbad hok hrv hlv hsd hcr hcl2 hcc hcl hc hs
   have b0 := celR 0 HBX3.out; have b1 := celR 1 HBX3.out; have b2 := celR 2 HBX3.out; have b3 := celR 3 HBX3.out; have b4 := celR 4 HBX3.out; have b5 := celR 5 HBX3.out; have b6 := celR 6 HBX3.out; have b7 := celR 7 HBX3.out
   by_cases z1 : 128 < s.size
   · have z2 : (128 : Int) < (s.size : Int) := by omega
     have HN := Lib.hid (HBD.out (fun h => by have := h.1.1; omega))
     clear HBD HOK
     go_wp2_with fail
     apply wp_region_rg (by kernel_rfl) rl0StoreOkS rl1StoreOkS rl2StoreOkS (StP.is _ :: StP.is _ :: StP.is _ :: StP.is _ :: StP.is _ :: StP.is _ :: StP.is _ :: StP.is _ :: StP.is _ :: StP.is _ :: StP.is _ :: StP.is _ :: StP.is _ :: StP.is _ :: StP.is _ :: StP.is _ :: StP.is _ :: StP.is _ :: StP.is _ :: StP.is _ :: StP.is _ :: StP.is _ :: StP.is _ :: StP.is _ :: StP.is _ :: StP.is _ :: StP.is _ :: StP.is _ :: StP.is _ :: StP.is _ :: StP.is _ :: StP.is _ :: StP.is _ :: StP.is _ :: []) (by kernel_rfl)
     case hobs =>
      constructor; rotate_left
      constructor; have ld_ := trivial; rotate_left
      iterate 2 (constructor; rotate_left)
      iterate 2 (constructor; have ld_ := trivial; rotate_left)
      iterate 2 (constructor; rotate_left)
      iterate 14 (constructor; have skip_ := trivial; rotate_left)
      iterate 2 (constructor; rotate_left)
      iterate 9 (constructor; have skip_ := trivial; rotate_left)
      constructor; rotate_left
      · trivial
      all_goals (
       intro y w' hS hF K hK
       have eF := trivial
       repeat (obtain ⟨f1, hF⟩ := hF; replace eF := And.intro (show y _ = _ from f1) eF; clear f1)
       first
        | simp only [fillL, rl0StoreOkS, rl1StoreOkS, rl2StoreOkS, rl3StoreOkS, rl4StoreOkS, rl5StoreOkS, cond_true, cond_false, zG0, zG1, StP.is, Act.put, zS2, zS0, zS1, Nat.reduceAdd, eF] at hK ⊢
        | simp only [fillL, rl0StoreOkS, rl1StoreOkS, rl2StoreOkS, rl3StoreOkS, rl4StoreOkS, rl5StoreOkS, cond_true, cond_false, zG0, zG1, StP.is, Act.put, zS2, zS0, zS1, Nat.reduceAdd] at hK ⊢
       clear eF hF
       first
        | (clear skip_; refine rg_no (by kernel_rfl) ?_; exact hK _ _ (Ext.refl _) rfl)
        | (refine rg_yes (by kernel_rfl) ?_
           try (clear ld_; have qx0_ := (Below.cell hS l3).trans b0; have qx1_ := (Below.cell hS l3).trans b1; have qx2_ := (Below.cell hS l3).trans b2; have qx3_ := (Below.cell hS l3).trans b3; have qx4_ := (Below.cell hS l3).trans b4; have qx5_ := (Below.cell hS l3).trans b5; have qx6_ := (Below.cell hS l3).trans b6; have qx7_ := (Below.cell hS l3).trans b7; have qx8_ := (Below.cell hS bl).trans v0; have qx9_ := (Below.cell hS lg1).trans r0; have qx10_ := (Below.cell hS lg2).trans y0)
           go_simp
           first
            | exact hK _ _ (Ext.refl _) rfl))
     intro z_ w4 hX hF
     have e70 : z_ 70 = _ := hF.2.2.2.2.2.2.2.2.2.2.2.2.2.2.2.2.2.2.2.2.2.2.2.2.2.2.2.2.2.2.2.2.2.1
     clear hF
     simp only [fillL, rl0StoreOkS, rl1StoreOkS, rl2StoreOkS, rl3StoreOkS, rl4StoreOkS, rl5StoreOkS, cond_true, cond_false, Nat.reduceAdd, e70]
     clear e70
     have HB4 : Hid (Below w.heap.size w w4) := Lib.hid (HBw.out.trans (Below.mono hX HBw.out.size))
     have HBr4 : Hid (Below w2.heap.size w2 w4) := Lib.hid (HBr.out.trans (Below.mono hX HBr.out.size))
     clear hX
     go_wp2_with fail
     go_ret
     exact ⟨ret_bool (HN.out), HB4.out⟩
   have z2 : ¬ (128 : Int) < (s.size : Int) := by omega
   have z2b : decide ((128 : Int) < (s.size : Int)) = false := decide_eq_false z2
   have z2c : decide (128 < s.size) = false := decide_eq_false z1
   by_cases z3 : s.size = 0
   case pos =>
    by_cases z4 : rv = 0
    case pos =>
     have hrt : rowT rv s := ⟨by omega, ⟨fun _ => z4, fun _ => z3⟩⟩
     by_cases z8 : txg < lv
     case pos =>
      have HN := Lib.hid (HBD.out (fun h => by have := h.2; omega))
      clear HBD HOK hrt
      have z6 : s.toList.isEmpty = true := by rw [str_nil z3, ByteArray.toList_eq]; rfl
      have z7 : (s.toList == []) = true := by rw [str_nil z3, ByteArray.toList_eq]; rfl
      have z5 : (rv == 0) = true := by simp [z4]
      go_wp2_with fail
      apply wp_region_rg (by kernel_rfl) rl0StoreOkS rl1StoreOkS rl2StoreOkS (StP.is _ :: StP.is _ :: StP.is _ :: StP.is _ :: StP.is _ :: StP.is _ :: StP.is _ :: StP.is _ :: StP.is _ :: StP.is _ :: StP.is _ :: StP.is _ :: StP.is _ :: StP.is _ :: StP.is _ :: StP.is _ :: StP.is _ :: StP.is _ :: StP.is _ :: StP.is _ :: StP.is _ :: StP.is _ :: StP.is _ :: StP.is _ :: StP.is _ :: StP.is _ :: StP.is _ :: StP.is _ :: StP.is _ :: StP.is _ :: StP.is _ :: StP.is _ :: StP.is _ :: StP.is _ :: []) (by kernel_rfl)
      case hobs =>
       constructor; rotate_left
       constructor; have ld_ := trivial; rotate_left
       iterate 2 (constructor; rotate_left)
       iterate 2 (constructor; have ld_ := trivial; rotate_left)
       iterate 3 (constructor; rotate_left)
       constructor; have ld_ := trivial; rotate_left
       iterate 2 (constructor; rotate_left)
       constructor; have ld_ := trivial; rotate_left
       iterate 3 (constructor; rotate_left)
       constructor; have ld_ := trivial; rotate_left
       iterate 2 (constructor; rotate_left)
       constructor; have ld_ := trivial; rotate_left
       iterate 6 (constructor; rotate_left)
       constructor; have ld_ := trivial; rotate_left
       iterate 2 (constructor; rotate_left)
       constructor; have ld_ := trivial; rotate_left
       constructor; rotate_left
       constructor; have ld_ := trivial; rotate_left
       iterate 2 (constructor; rotate_left)
       · trivial
       all_goals (
        intro y w' hS hF K hK
        have eF := trivial
        repeat (obtain ⟨f1, hF⟩ := hF; replace eF := And.intro (show y _ = _ from f1) eF; clear f1)
        first
         | simp only [fillL, rl0StoreOkS, rl1StoreOkS, rl2StoreOkS, rl3StoreOkS, rl4StoreOkS, rl5StoreOkS, cond_true, cond_false, zG0, zG1, StP.is, Act.put, zS2, zS0, zS1, Nat.reduceAdd, eF] at hK ⊢
         | simp only [fillL, rl0StoreOkS, rl1StoreOkS, rl2StoreOkS, rl3StoreOkS, rl4StoreOkS, rl5StoreOkS, cond_true, cond_false, zG0, zG1, StP.is, Act.put, zS2, zS0, zS1, Nat.reduceAdd] at hK ⊢
        clear eF hF
        first
         | (refine rg_yes (by kernel_rfl) ?_
            try (clear ld_; have qx0_ := (Below.cell hS l3).trans b0; have qx1_ := (Below.cell hS l3).trans b1; have qx2_ := (Below.cell hS l3).trans b2; have qx3_ := (Below.cell hS l3).trans b3; have qx4_ := (Below.cell hS l3).trans b4; have qx5_ := (Below.cell hS l3).trans b5; have qx6_ := (Below.cell hS l3).trans b6; have qx7_ := (Below.cell hS l3).trans b7; have qx8_ := (Below.cell hS bl).trans v0; have qx9_ := (Below.cell hS lg1).trans r0; have qx10_ := (Below.cell hS lg2).trans y0)
            go_simp
            first
             | exact hK _ _ (Ext.refl _) rfl))
      intro z_ w4 hX hF
      have e70 : z_ 70 = _ := hF.2.2.2.2.2.2.2.2.2.2.2.2.2.2.2.2.2.2.2.2.2.2.2.2.2.2.2.2.2.2.2.2.2.1
      clear hF
      simp only [fillL, rl0StoreOkS, rl1StoreOkS, rl2StoreOkS, rl3StoreOkS, rl4StoreOkS, rl5StoreOkS, cond_true, cond_false, Nat.reduceAdd, e70]
      clear e70
      have HB4 : Hid (Below w.heap.size w w4) := Lib.hid (HBw.out.trans (Below.mono hX HBw.out.size))
      have HBr4 : Hid (Below w2.heap.size w2 w4) := Lib.hid (HBr.out.trans (Below.mono hX HBr.out.size))
      clear hX
      go_wp2_with fail
      go_ret
      exact ⟨ret_bool (HN.out), HB4.out⟩
     have HN := HOK.out ⟨hrt, by omega⟩
     clear HBD HOK hrt
     have z6 : s.toList.isEmpty = true := by rw [str_nil z3, ByteArray.toList_eq]; rfl
     have z7 : (s.toList == []) = true := by rw [str_nil z3, ByteArray.toList_eq]; rfl
     have z5 : (rv == 0) = true := by simp [z4]
     go_wp2_with fail
     apply wp_region_rg (by kernel_rfl) rl0StoreOkS rl1StoreOkS rl2StoreOkS (StP.is _ :: StP.is _ :: StP.is _ :: StP.is _ :: StP.is _ :: StP.is _ :: StP.is _ :: StP.is _ :: StP.is _ :: StP.is _ :: StP.is _ :: StP.is _ :: StP.is _ :: StP.is _ :: StP.is _ :: StP.is _ :: StP.is _ :: StP.is _ :: StP.is _ :: StP.is _ :: StP.is _ :: StP.is _ :: StP.is _ :: StP.is _ :: StP.is _ :: StP.is _ :: StP.is _ :: StP.is _ :: StP.is _ :: StP.is _ :: StP.is _ :: StP.is _ :: StP.is _ :: StP.is _ :: []) (by kernel_rfl)
     case hobs =>
      constructor; rotate_left
      constructor; have ld_ := trivial; rotate_left
      iterate 2 (constructor; rotate_left)
      iterate 2 (constructor; have ld_ := trivial; rotate_left)
      iterate 3 (constructor; rotate_left)
      constructor; have ld_ := trivial; rotate_left
      iterate 2 (constructor; rotate_left)
      constructor; have ld_ := trivial; rotate_left
      iterate 3 (constructor; rotate_left)
      constructor; have ld_ := trivial; rotate_left
      iterate 2 (constructor; rotate_left)
      constructor; have ld_ := trivial; rotate_left
      iterate 6 (constructor; rotate_left)
      constructor; have ld_ := trivial; rotate_left
      iterate 2 (constructor; rotate_left)
      constructor; have ld_ := trivial; rotate_left
      constructor; rotate_left
      constructor; have ld_ := trivial; rotate_left
      iterate 2 (constructor; rotate_left)
      · trivial
      all_goals (
       intro y w' hS hF K hK
       have eF := trivial
       repeat (obtain ⟨f1, hF⟩ := hF; replace eF := And.intro (show y _ = _ from f1) eF; clear f1)
       first
        | simp only [fillL, rl0StoreOkS, rl1StoreOkS, rl2StoreOkS, rl3StoreOkS, rl4StoreOkS, rl5StoreOkS, cond_true, cond_false, zG0, zG1, StP.is, Act.put, zS2, zS0, zS1, Nat.reduceAdd, eF] at hK ⊢
        | simp only [fillL, rl0StoreOkS, rl1StoreOkS, rl2StoreOkS, rl3StoreOkS, rl4StoreOkS, rl5StoreOkS, cond_true, cond_false, zG0, zG1, StP.is, Act.put, zS2, zS0, zS1, Nat.reduceAdd] at hK ⊢
       clear eF hF
       first
        | (refine rg_yes (by kernel_rfl) ?_
           try (clear ld_; have qx0_ := (Below.cell hS l3).trans b0; have qx1_ := (Below.cell hS l3).trans b1; have qx2_ := (Below.cell hS l3).trans b2; have qx3_ := (Below.cell hS l3).trans b3; have qx4_ := (Below.cell hS l3).trans b4; have qx5_ := (Below.cell hS l3).trans b5; have qx6_ := (Below.cell hS l3).trans b6; have qx7_ := (Below.cell hS l3).trans b7; have qx8_ := (Below.cell hS bl).trans v0; have qx9_ := (Below.cell hS lg1).trans r0; have qx10_ := (Below.cell hS lg2).trans y0)
           go_simp
           first
            | exact hK _ _ (Ext.refl _) rfl))
     intro z_ w4 hX hF
     have e70 : z_ 70 = _ := hF.2.2.2.2.2.2.2.2.2.2.2.2.2.2.2.2.2.2.2.2.2.2.2.2.2.2.2.2.2.2.2.2.2.1
     clear hF
     simp only [fillL, rl0StoreOkS, rl1StoreOkS, rl2StoreOkS, rl3StoreOkS, rl4StoreOkS, rl5StoreOkS, cond_true, cond_false, Nat.reduceAdd, e70]
     clear e70
     have HB4 : Hid (Below w.heap.size w w4) := Lib.hid (HBw.out.trans (Below.mono hX HBw.out.size))
     have HBr4 : Hid (Below w2.heap.size w2 w4) := Lib.hid (HBr.out.trans (Below.mono hX HBr.out.size))
     clear hX
     go_wp2_with fail
     go_roundw
     case rel => exact ⟨k + 1, by omega, by go_num, HN, HBr4⟩
     simp [intOf]; omega
    have HN := Lib.hid (HBD.out (fun h => z4 (h.1.2.1 z3)))
    clear HBD HOK
    have z6 : s.toList.isEmpty = true := by rw [str_nil z3, ByteArray.toList_eq]; rfl
    have z7 : (s.toList == []) = true := by rw [str_nil z3, ByteArray.toList_eq]; rfl
    have z5 : (rv == 0) = false := by simpa using z4
    go_wp2_with fail
    apply wp_region_rg (by kernel_rfl) rl0StoreOkS rl1StoreOkS rl2StoreOkS (StP.is _ :: StP.is _ :: StP.is _ :: StP.is _ :: StP.is _ :: StP.is _ :: StP.is _ :: StP.is _ :: StP.is _ :: StP.is _ :: StP.is _ :: StP.is _ :: StP.is _ :: StP.is _ :: StP.is _ :: StP.is _ :: StP.is _ :: StP.is _ :: StP.is _ :: StP.is _ :: StP.is _ :: StP.is _ :: StP.is _ :: StP.is _ :: StP.is _ :: StP.is _ :: StP.is _ :: StP.is _ :: StP.is _ :: StP.is _ :: StP.is _ :: StP.is _ :: StP.is _ :: StP.is _ :: []) (by kernel_rfl)
    case hobs =>
     constructor; rotate_left
     constructor; have ld_ := trivial; rotate_left
     iterate 2 (constructor; rotate_left)
     iterate 2 (constructor; have ld_ := trivial; rotate_left)
     iterate 3 (constructor; rotate_left)
     constructor; have ld_ := trivial; rotate_left
     iterate 2 (constructor; rotate_left)
     constructor; have ld_ := trivial; rotate_left
     iterate 3 (constructor; rotate_left)
     constructor; have ld_ := trivial; rotate_left
     iterate 2 (constructor; rotate_left)
     constructor; have ld_ := trivial; rotate_left
     iterate 4 (constructor; rotate_left)
     iterate 9 (constructor; have skip_ := trivial; rotate_left)
     constructor; rotate_left
     · trivial
     all_goals (
      intro y w' hS hF K hK
      have eF := trivial
      repeat (obtain ⟨f1, hF⟩ := hF; replace eF := And.intro (show y _ = _ from f1) eF; clear f1)
      first
       | simp only [fillL, rl0StoreOkS, rl1StoreOkS, rl2StoreOkS, rl3StoreOkS, rl4StoreOkS, rl5StoreOkS, cond_true, cond_false, zG0, zG1, StP.is, Act.put, zS2, zS0, zS1, Nat.reduceAdd, eF] at hK ⊢
       | simp only [fillL, rl0StoreOkS, rl1StoreOkS, rl2StoreOkS, rl3StoreOkS, rl4StoreOkS, rl5StoreOkS, cond_true, cond_false, zG0, zG1, StP.is, Act.put, zS2, zS0, zS1, Nat.reduceAdd] at hK ⊢
      clear eF hF
      first
       | (clear skip_; refine rg_no (by kernel_rfl) ?_; exact hK _ _ (Ext.refl _) rfl)
       | (refine rg_yes (by kernel_rfl) ?_
          try (clear ld_; have qx0_ := (Below.cell hS l3).trans b0; have qx1_ := (Below.cell hS l3).trans b1; have qx2_ := (Below.cell hS l3).trans b2; have qx3_ := (Below.cell hS l3).trans b3; have qx4_ := (Below.cell hS l3).trans b4; have qx5_ := (Below.cell hS l3).trans b5; have qx6_ := (Below.cell hS l3).trans b6; have qx7_ := (Below.cell hS l3).trans b7; have qx8_ := (Below.cell hS bl).trans v0; have qx9_ := (Below.cell hS lg1).trans r0; have qx10_ := (Below.cell hS lg2).trans y0)
          go_simp
          first
           | exact hK _ _ (Ext.refl _) rfl))
    intro z_ w4 hX hF
    have e70 : z_ 70 = _ := hF.2.2.2.2.2.2.2.2.2.2.2.2.2.2.2.2.2.2.2.2.2.2.2.2.2.2.2.2.2.2.2.2.2.1
    clear hF
    simp only [fillL, rl0StoreOkS, rl1StoreOkS, rl2StoreOkS, rl3StoreOkS, rl4StoreOkS, rl5StoreOkS, cond_true, cond_false, Nat.reduceAdd, e70]
    clear e70
    have HB4 : Hid (Below w.heap.size w w4) := Lib.hid (HBw.out.trans (Below.mono hX HBw.out.size))
    have HBr4 : Hid (Below w2.heap.size w2 w4) := Lib.hid (HBr.out.trans (Below.mono hX HBr.out.size))
    clear hX
    go_wp2_with fail
    go_ret
    exact ⟨ret_bool (HN.out), HB4.out⟩
   by_cases z4 : rv = 0
   case pos =>
    have HN := Lib.hid (HBD.out (fun h => z3 (h.1.2.2 z4)))
    clear HBD HOK
    have z6 := str_isE z3
    have z7 : (s.toList == []) = false := by cases hl : s.toList with
     | nil => exact absurd hl (str_ne0 z3)
     | cons _ _ => rfl
    have z5 : (rv == 0) = true := by simp [z4]
    go_wp2_with fail
    apply wp_region_rg (by kernel_rfl) rl0StoreOkS rl1StoreOkS rl2StoreOkS (StP.is _ :: StP.is _ :: StP.is _ :: StP.is _ :: StP.is _ :: StP.is _ :: StP.is _ :: StP.is _ :: StP.is _ :: StP.is _ :: StP.is _ :: StP.is _ :: StP.is _ :: StP.is _ :: StP.is _ :: StP.is _ :: StP.is _ :: StP.is _ :: StP.is _ :: StP.is _ :: StP.is _ :: StP.is _ :: StP.is _ :: StP.is _ :: StP.is _ :: StP.is _ :: StP.is _ :: StP.is _ :: StP.is _ :: StP.is _ :: StP.is _ :: StP.is _ :: StP.is _ :: StP.is _ :: []) (by kernel_rfl)
    case hobs =>
     constructor; rotate_left
     constructor; have ld_ := trivial; rotate_left
     iterate 2 (constructor; rotate_left)
     iterate 2 (constructor; have ld_ := trivial; rotate_left)
     iterate 3 (constructor; rotate_left)
     constructor; have ld_ := trivial; rotate_left
     iterate 2 (constructor; rotate_left)
     constructor; have ld_ := trivial; rotate_left
     iterate 3 (constructor; rotate_left)
     constructor; have ld_ := trivial; rotate_left
     iterate 2 (constructor; rotate_left)
     constructor; have ld_ := trivial; rotate_left
     iterate 4 (constructor; rotate_left)
     iterate 9 (constructor; have skip_ := trivial; rotate_left)
     constructor; rotate_left
     · trivial
     all_goals (
      intro y w' hS hF K hK
      have eF := trivial
      repeat (obtain ⟨f1, hF⟩ := hF; replace eF := And.intro (show y _ = _ from f1) eF; clear f1)
      first
       | simp only [fillL, rl0StoreOkS, rl1StoreOkS, rl2StoreOkS, rl3StoreOkS, rl4StoreOkS, rl5StoreOkS, cond_true, cond_false, zG0, zG1, StP.is, Act.put, zS2, zS0, zS1, Nat.reduceAdd, eF] at hK ⊢
       | simp only [fillL, rl0StoreOkS, rl1StoreOkS, rl2StoreOkS, rl3StoreOkS, rl4StoreOkS, rl5StoreOkS, cond_true, cond_false, zG0, zG1, StP.is, Act.put, zS2, zS0, zS1, Nat.reduceAdd] at hK ⊢
      clear eF hF
      first
       | (clear skip_; refine rg_no (by kernel_rfl) ?_; exact hK _ _ (Ext.refl _) rfl)
       | (refine rg_yes (by kernel_rfl) ?_
          try (clear ld_; have qx0_ := (Below.cell hS l3).trans b0; have qx1_ := (Below.cell hS l3).trans b1; have qx2_ := (Below.cell hS l3).trans b2; have qx3_ := (Below.cell hS l3).trans b3; have qx4_ := (Below.cell hS l3).trans b4; have qx5_ := (Below.cell hS l3).trans b5; have qx6_ := (Below.cell hS l3).trans b6; have qx7_ := (Below.cell hS l3).trans b7; have qx8_ := (Below.cell hS bl).trans v0; have qx9_ := (Below.cell hS lg1).trans r0; have qx10_ := (Below.cell hS lg2).trans y0)
          go_simp
          first
           | exact hK _ _ (Ext.refl _) rfl))
    intro z_ w4 hX hF
    have e70 : z_ 70 = _ := hF.2.2.2.2.2.2.2.2.2.2.2.2.2.2.2.2.2.2.2.2.2.2.2.2.2.2.2.2.2.2.2.2.2.1
    clear hF
    simp only [fillL, rl0StoreOkS, rl1StoreOkS, rl2StoreOkS, rl3StoreOkS, rl4StoreOkS, rl5StoreOkS, cond_true, cond_false, Nat.reduceAdd, e70]
    clear e70
    have HB4 : Hid (Below w.heap.size w w4) := Lib.hid (HBw.out.trans (Below.mono hX HBw.out.size))
    have HBr4 : Hid (Below w2.heap.size w2 w4) := Lib.hid (HBr.out.trans (Below.mono hX HBr.out.size))
    clear hX
    go_wp2_with fail
    go_ret
    exact ⟨ret_bool (HN.out), HB4.out⟩
   have hrt : rowT rv s := ⟨by omega, ⟨fun h => absurd h z3, fun h => absurd h z4⟩⟩
   by_cases z8 : txg < lv
   case pos =>
    have HN := Lib.hid (HBD.out (fun h => by have := h.2; omega))
    clear HBD HOK hrt
    have z6 := str_isE z3
    have z7 : (s.toList == []) = false := by cases hl : s.toList with
     | nil => exact absurd hl (str_ne0 z3)
     | cons _ _ => rfl
    have z5 : (rv == 0) = false := by simpa using z4
    go_wp2_with fail
    apply wp_region_rg (by kernel_rfl) rl0StoreOkS rl1StoreOkS rl2StoreOkS (StP.is _ :: StP.is _ :: StP.is _ :: StP.is _ :: StP.is _ :: StP.is _ :: StP.is _ :: StP.is _ :: StP.is _ :: StP.is _ :: StP.is _ :: StP.is _ :: StP.is _ :: StP.is _ :: StP.is _ :: StP.is _ :: StP.is _ :: StP.is _ :: StP.is _ :: StP.is _ :: StP.is _ :: StP.is _ :: StP.is _ :: StP.is _ :: StP.is _ :: StP.is _ :: StP.is _ :: StP.is _ :: StP.is _ :: StP.is _ :: StP.is _ :: StP.is _ :: StP.is _ :: StP.is _ :: []) (by kernel_rfl)
    case hobs =>
     constructor; rotate_left
     constructor; have ld_ := trivial; rotate_left
     iterate 2 (constructor; rotate_left)
     iterate 2 (constructor; have ld_ := trivial; rotate_left)
     iterate 3 (constructor; rotate_left)
     constructor; have ld_ := trivial; rotate_left
     iterate 2 (constructor; rotate_left)
     constructor; have ld_ := trivial; rotate_left
     iterate 3 (constructor; rotate_left)
     constructor; have ld_ := trivial; rotate_left
     iterate 2 (constructor; rotate_left)
     constructor; have ld_ := trivial; rotate_left
     iterate 6 (constructor; rotate_left)
     constructor; have ld_ := trivial; rotate_left
     iterate 2 (constructor; rotate_left)
     constructor; have ld_ := trivial; rotate_left
     constructor; rotate_left
     constructor; have ld_ := trivial; rotate_left
     iterate 2 (constructor; rotate_left)
     · trivial
     all_goals (
      intro y w' hS hF K hK
      have eF := trivial
      repeat (obtain ⟨f1, hF⟩ := hF; replace eF := And.intro (show y _ = _ from f1) eF; clear f1)
      first
       | simp only [fillL, rl0StoreOkS, rl1StoreOkS, rl2StoreOkS, rl3StoreOkS, rl4StoreOkS, rl5StoreOkS, cond_true, cond_false, zG0, zG1, StP.is, Act.put, zS2, zS0, zS1, Nat.reduceAdd, eF] at hK ⊢
       | simp only [fillL, rl0StoreOkS, rl1StoreOkS, rl2StoreOkS, rl3StoreOkS, rl4StoreOkS, rl5StoreOkS, cond_true, cond_false, zG0, zG1, StP.is, Act.put, zS2, zS0, zS1, Nat.reduceAdd] at hK ⊢
      clear eF hF
      first
       | (refine rg_yes (by kernel_rfl) ?_
          try (clear ld_; have qx0_ := (Below.cell hS l3).trans b0; have qx1_ := (Below.cell hS l3).trans b1; have qx2_ := (Below.cell hS l3).trans b2; have qx3_ := (Below.cell hS l3).trans b3; have qx4_ := (Below.cell hS l3).trans b4; have qx5_ := (Below.cell hS l3).trans b5; have qx6_ := (Below.cell hS l3).trans b6; have qx7_ := (Below.cell hS l3).trans b7; have qx8_ := (Below.cell hS bl).trans v0; have qx9_ := (Below.cell hS lg1).trans r0; have qx10_ := (Below.cell hS lg2).trans y0)
          go_simp
          first
           | exact hK _ _ (Ext.refl _) rfl))
    intro z_ w4 hX hF
    have e70 : z_ 70 = _ := hF.2.2.2.2.2.2.2.2.2.2.2.2.2.2.2.2.2.2.2.2.2.2.2.2.2.2.2.2.2.2.2.2.2.1
    clear hF
    simp only [fillL, rl0StoreOkS, rl1StoreOkS, rl2StoreOkS, rl3StoreOkS, rl4StoreOkS, rl5StoreOkS, cond_true, cond_false, Nat.reduceAdd, e70]
    clear e70
    have HB4 : Hid (Below w.heap.size w w4) := Lib.hid (HBw.out.trans (Below.mono hX HBw.out.size))
    have HBr4 : Hid (Below w2.heap.size w2 w4) := Lib.hid (HBr.out.trans (Below.mono hX HBr.out.size))
    clear hX
    go_wp2_with fail
    go_ret
    exact ⟨ret_bool (HN.out), HB4.out⟩
   have HN := HOK.out ⟨hrt, by omega⟩
   clear HBD HOK hrt
   have z6 := str_isE z3
   have z7 : (s.toList == []) = false := by cases hl : s.toList with
    | nil => exact absurd hl (str_ne0 z3)
    | cons _ _ => rfl
   have z5 : (rv == 0) = false := by simpa using z4
   go_wp2_with fail
   apply wp_region_rg (by kernel_rfl) rl0StoreOkS rl1StoreOkS rl2StoreOkS (StP.is _ :: StP.is _ :: StP.is _ :: StP.is _ :: StP.is _ :: StP.is _ :: StP.is _ :: StP.is _ :: StP.is _ :: StP.is _ :: StP.is _ :: StP.is _ :: StP.is _ :: StP.is _ :: StP.is _ :: StP.is _ :: StP.is _ :: StP.is _ :: StP.is _ :: StP.is _ :: StP.is _ :: StP.is _ :: StP.is _ :: StP.is _ :: StP.is _ :: StP.is _ :: StP.is _ :: StP.is _ :: StP.is _ :: StP.is _ :: StP.is _ :: StP.is _ :: StP.is _ :: StP.is _ :: []) (by kernel_rfl)
   case hobs =>
    constructor; rotate_left
    constructor; have ld_ := trivial; rotate_left
    iterate 2 (constructor; rotate_left)
    iterate 2 (constructor; have ld_ := trivial; rotate_left)
    iterate 3 (constructor; rotate_left)
    constructor; have ld_ := trivial; rotate_left
    iterate 2 (constructor; rotate_left)
    constructor; have ld_ := trivial; rotate_left
    iterate 3 (constructor; rotate_left)
    constructor; have ld_ := trivial; rotate_left
    iterate 2 (constructor; rotate_left)
    constructor; have ld_ := trivial; rotate_left
    iterate 6 (constructor; rotate_left)
    constructor; have ld_ := trivial; rotate_left
    iterate 2 (constructor; rotate_left)
    constructor; have ld_ := trivial; rotate_left
    constructor; rotate_left
    constructor; have ld_ := trivial; rotate_left
    iterate 2 (constructor; rotate_left)
    · trivial
    all_goals (
     intro y w' hS hF K hK
     have eF := trivial
     repeat (obtain ⟨f1, hF⟩ := hF; replace eF := And.intro (show y _ = _ from f1) eF; clear f1)
     first
      | simp only [fillL, rl0StoreOkS, rl1StoreOkS, rl2StoreOkS, rl3StoreOkS, rl4StoreOkS, rl5StoreOkS, cond_true, cond_false, zG0, zG1, StP.is, Act.put, zS2, zS0, zS1, Nat.reduceAdd, eF] at hK ⊢
      | simp only [fillL, rl0StoreOkS, rl1StoreOkS, rl2StoreOkS, rl3StoreOkS, rl4StoreOkS, rl5StoreOkS, cond_true, cond_false, zG0, zG1, StP.is, Act.put, zS2, zS0, zS1, Nat.reduceAdd] at hK ⊢
     clear eF hF
     first
      | (refine rg_yes (by kernel_rfl) ?_
         try (clear ld_; have qx0_ := (Below.cell hS l3).trans b0; have qx1_ := (Below.cell hS l3).trans b1; have qx2_ := (Below.cell hS l3).trans b2; have qx3_ := (Below.cell hS l3).trans b3; have qx4_ := (Below.cell hS l3).trans b4; have qx5_ := (Below.cell hS l3).trans b5; have qx6_ := (Below.cell hS l3).trans b6; have qx7_ := (Below.cell hS l3).trans b7; have qx8_ := (Below.cell hS bl).trans v0; have qx9_ := (Below.cell hS lg1).trans r0; have qx10_ := (Below.cell hS lg2).trans y0)
         go_simp
         first
          | exact hK _ _ (Ext.refl _) rfl))
   intro z_ w4 hX hF
   have e70 : z_ 70 = _ := hF.2.2.2.2.2.2.2.2.2.2.2.2.2.2.2.2.2.2.2.2.2.2.2.2.2.2.2.2.2.2.2.2.2.1
   clear hF
   simp only [fillL, rl0StoreOkS, rl1StoreOkS, rl2StoreOkS, rl3StoreOkS, rl4StoreOkS, rl5StoreOkS, cond_true, cond_false, Nat.reduceAdd, e70]
   clear e70
   have HB4 : Hid (Below w.heap.size w w4) := Lib.hid (HBw.out.trans (Below.mono hX HBw.out.size))
   have HBr4 : Hid (Below w2.heap.size w2 w4) := Lib.hid (HBr.out.trans (Below.mono hX HBr.out.size))
   clear hX
   go_wp2_with fail
   go_roundw
   case rel => exact ⟨k + 1, by omega, by go_num, HN, HBr4⟩
   simp [intOf]; omega
 obtain rfl : k = 64 := by omega
 have hmk := makeZ
 have k1 : ¬ ((64 : Nat) : Int) < 64 := by omega
 obtain ⟨N, hN⟩ : ∃ N, N = n3 + n4 := ⟨_, rfl⟩
 have nN : IntKind.i64.wrap ((n3 : Int) + (n4 : Int)) = (N : Int) := by rw [IntWalk.i64_in _ (by omega)]; omega
 obtain ⟨g, hg⟩ : ∃ g, g = wr.heap.size := ⟨_, rfl⟩
 obtain ⟨w5, hw5⟩ : ∃ W, W = wr.alloc (.cells Z64 3) := ⟨_, rfl⟩
 have HO5 : Hid (OwnI w5 g 64 64 z64) := Lib.hid (by rw [hw5, hg]; exact OwnI.new Z64_list Z64_max rfl Z64_size.symm)
 have HB5 : Hid (Below wr.heap.size wr w5) := Lib.hid (by rw [hw5]; exact bel1)
 have HX5 : Hid (w5.heap[w.heap.size]? = some (.cells #[.slice A0 64 c0, .slice A1 64 c1, .slice A2 64 c2, .int .i64 txg, .slice A3 n3 c3, .int .i64 keep, .slice A4 n4 c4, .bool same] 39 (0, 0))) := Lib.hid ((HB5.out.block _ l3).trans HBX3.out)
 have HBw5 : Hid (Below w.heap.size w w5) := Lib.hid (HBw.out.trans (HB5.out.mono HBw.out.size))
 have hgw : w.heap.size ≤ g := by rw [hg]; exact HBw.out.size
 have hgx : w.heap.size < g := by rw [hg]; exact l3
 have HLen : Hid ((gone ++ dead).length = N) := Lib.hid (by rw [List.length_append, L3.out, L4.out, hN])
 have HN := Lib.hid hN
 go_wp2_with fail
 rw [← hw5, ← hg]
 have HGE := Lib.hid hg
 clear hw5 hN HBX3 HBw hg
 go_wp2_with fail
 go_loopw [5] (fun i wz => ∃ k : Nat, k ≤ N ∧ i = .int .i64 (k : Int) ∧ Hid (∀ j p, j < k → (gone ++ dead)[j]? = some p → goodP (if j < n3 then txg - 1 else keep) p = true) ∧ Hid (∀ a, a < 64 → (cntP ((gone ++ dead).take k) a : Int) ≤ refs.getD a 0) ∧ Hid (OwnI wz g 64 64 (owe z64 ((gone ++ dead).take k))) ∧ Hid (Chg (· ∈ [g]) w5 wz)) (fun i _ => N - (intOf i).toNat)
 case atStart => exact ⟨0, Nat.zero_le _, rfl, Lib.hid (fun j p hj => absurd hj (by omega)), Lib.hid (fun a ha => by have := HP3.out a ha; unfold rowOk at this; simp [cntP_nil]; simp at this; omega), Lib.hid (by simpa [owe] using HO5.out), Lib.hid (Chg.refl _ _)⟩
 obtain ⟨k, hk, rfl, HP, HQ, HO, HC⟩ := hrel
 have HBz := Lib.hid (HBw5.out.trans (HC.out.below (B := w.heap.size) (fun b _ hb => by simp at hb; subst hb; exact hgw) HBw5.out.size))
 have HXz := Lib.hid ((HC.out.block w.heap.size (Array.getElem?_eq_some_iff.1 HX5.out).1 (by simp; omega)).trans HX5.out)
 have lz := (Array.getElem?_eq_some_iff.1 HXz.out).1
 have b0 := celR 0 HXz.out; have b1 := celR 1 HXz.out; have b2 := celR 2 HXz.out; have b3 := celR 3 HXz.out; have b4 := celR 4 HXz.out; have b5 := celR 5 HXz.out; have b6 := celR 6 HXz.out; have b7 := celR 7 HXz.out
 by_cases hlt : k < N
 · have kN : (k : Int) < (N : Int) := by omega
   have k0 : (0 : Int) ≤ (k : Int) := by omega
   have HKN := Lib.hid (show k + 1 ≤ N by omega)
   have hkb : k ≤ 4000000 := by have := HN.out; omega
   have HROW : Hid (∀ p ∈ (gone ++ dead).take k, 8 ≤ p.1 ∧ p.1 ≤ 63) := Lib.hid (fun p hp => by
    obtain ⟨j, hj, rfl⟩ := List.mem_iff_getElem.1 hp
    have hj2 : j < k := by rw [List.length_take] at hj; omega
    exact (goodP_parts (HP.out j _ hj2 (by rw [← List.getElem?_eq_getElem hj, List.getElem?_take, if_pos hj2]))).2.2.2)
   have HOV : Hid (∀ i : Nat, (owe z64 ((gone ++ dead).take k)).getD i 0 = (cntP ((gone ++ dead).take k) i : Int)) := Lib.hid (fun i => by rw [(owe_get (o := z64) (by simp [z64]) HROW.out).2, z64_get]; omega)
   by_cases hk3 : k < n3
   case pos =>
    have i3 : (k : Int) < (n3 : Int) := by omega
    obtain ⟨p, hp⟩ : ∃ x, gone[k]? = some x := ⟨gone[k]'(by rw [L3.out]; exact hk3), List.getElem?_eq_getElem _⟩
    have hx : (gone ++ dead)[k]? = some p := app_left hp
    have HX0 := Lib.hid hp
    obtain ⟨b, off, rfl, _, _, bl, hc⟩ := (H3.out.upP HBz.out).at_ (by omega)
    obtain ⟨cs, hcl, hcc, hr⟩ := hc _ p hp
    obtain ⟨a, bi, sz, sm, lv⟩ := p
    obtain rfl := hr
    have q0 := hcc 0 _ rfl; have q1 := hcc 1 _ rfl; have q2 := hcc 2 _ rfl; have q3 := hcc 3 _ rfl; have q4 := hcc 4 _ rfl
    simp only [Nat.add_zero] at q0
    clear hc hcc hcl
    have HX := Lib.hid hx; clear hx hp
    have R1 := Lib.hid (fun W => spPtrOk_any a bi sz sm lv W)
    have R2 := Lib.hid (fun W => spPtrHole_any a bi sz sm lv W)
    obtain ⟨w2, hw2⟩ : ∃ W, W = wr.alloc (.cells #[.int .i64 a, .int .i64 bi, .int .i64 sz, .int .i64 sm, .int .i64 lv] 41) := ⟨_, rfl⟩
    have HY2 : Hid (Below wr.heap.size wr w2) := Lib.hid (by rw [hw2]; exact bel1)
    have hbx : Hid (w2.heap[wr.heap.size]? = some (.cells #[.int .i64 a, .int .i64 bi, .int .i64 sz, .int .i64 sm, .int .i64 lv] 41 (0, 0))) := Lib.hid (by rw [hw2]; exact heap_alloc_new _ _)
    go_wp2_with fail
    rw [← hw2]
    clear hw2 q0 q1 q2 q3 q4 b0 b1 b2 b3 b4 b5 b6 b7
    have x0 := celR 0 hbx.out; have x1 := celR 1 hbx.out; have x2 := celR 2 hbx.out; have x3 := celR 3 hbx.out; have x4 := celR 4 hbx.out
    have l2x := (Array.getElem?_eq_some_iff.1 hbx.out).1
    go_wp2_with fail
    refine (R1.out _).mono ?_
    rintro e w3 ⟨rfl, hb3⟩
    have HY3 := Lib.hid (HY2.out.trans (hb3.mono HY2.out.size))
    have hbx3 := Lib.hid ((hb3.block _ l2x).trans hbx.out)
    clear hb3 HY2 hbx x0 x1 x2 x3 x4 l2x
    have y0 := celR 0 hbx3.out; have y1 := celR 1 hbx3.out; have y2 := celR 2 hbx3.out; have y3 := celR 3 hbx3.out; have y4 := celR 4 hbx3.out
    have l3x := (Array.getElem?_eq_some_iff.1 hbx3.out).1
    have HNO : Hid (goodP (txg - 1) (a, bi, sz, sm, lv) = false → false = res) := Lib.hid (fun u => HBAD.out (fun h => by
     have h_ : goodP (txg - 1) (a, bi, sz, sm, lv) = true := h.gone _ (List.mem_of_getElem? HX0.out)
     exact absurd (h_.symm.trans u) (by simp)))
    have HCB : Hid (∀ W, Below wr.heap.size wr W → Below w.heap.size w W) := Lib.hid (fun W h => HBz.out.trans (h.mono HBz.out.size))
    cases e1 : ptrOkB a bi sz sm lv
    · have HN := Lib.hid (HNO.out (by unfold goodP okP; simp [e1]))
      clear HNO
      go_wp2_with fail
      go_ret
      exact ⟨ret_bool HN.out, HCB.out _ HY3.out⟩
    go_wp2_with fail
    refine (R2.out _).mono ?_
    rintro e w4 ⟨rfl, hb4⟩
    have HY4 := Lib.hid (HY3.out.trans (hb4.mono HY3.out.size))
    have hbx4 := Lib.hid ((hb4.block _ l3x).trans hbx3.out)
    clear hb4 HY3 hbx3 y0 y1 y2 y3 y4 l3x
    have z0 := celR 0 hbx4.out; have z1 := celR 1 hbx4.out; have z2 := celR 2 hbx4.out; have z3 := celR 3 hbx4.out; have z4 := celR 4 hbx4.out
    have l4x := (Array.getElem?_eq_some_iff.1 hbx4.out).1
    cases e2 : ptrHole a bi sz sm lv
    rotate_left
    · have HN := Lib.hid (HNO.out (by unfold goodP holeP; simp [e2]))
      clear HNO
      go_wp2_with fail
      go_ret
      exact ⟨ret_bool HN.out, HCB.out _ HY4.out⟩
    by_cases h3 : (txg - 1) < bi
    · have HN := Lib.hid (HNO.out (by first | (unfold goodP; simp; intro _ _ h; omega) | (unfold goodP; simp; omega)))
      clear HNO
      go_wp2_with fail
      go_ret
      exact ⟨ret_bool HN.out, HCB.out _ HY4.out⟩
    have hgp : goodP (txg - 1) (a, bi, sz, sm, lv) = true := by unfold goodP okP holeP; simp [e1, e2]; omega
    obtain ⟨-, -, -, ha8, ha63⟩ := goodP_parts hgp
    have ha8 : 8 ≤ a := ha8
    have ha63 : a ≤ 63 := ha63
    obtain ⟨an, rfl⟩ : ∃ m : Nat, a = (m : Int) := ⟨a.toNat, by omega⟩
    have hm64 : an < 64 := by omega
    have an0 : (0 : Int) ≤ (an : Int) := by omega
    have an1 : (an : Int) < 64 := by omega
    have HGP : Hid (∀ j p, j < k + 1 → (gone ++ dead)[j]? = some p → goodP (if j < n3 then txg - 1 else keep) p = true) := Lib.hid (upto_step2 (f := fun j p => goodP (if j < n3 then txg - 1 else keep) p) HP.out HX.out (by rw [if_pos hk3]; exact hgp))
    have HO4 := Lib.hid ((HO.out.below HY4.out))
    obtain ⟨ov, hov⟩ : ∃ r, r = (owe z64 ((gone ++ dead).take k)).getD an 0 := ⟨_, rfl⟩
    have hcn : ov = (cntP ((gone ++ dead).take k) an : Int) := by rw [hov]; exact HOV.out an
    have hcl : cntP ((gone ++ dead).take k) an ≤ k := Nat.le_trans (cntP_len _ _) (by simp; omega)
    have nov : IntKind.i64.wrap (ov + 1) = ov + 1 := IntWalk.i64_in _ (by omega)
    have HW : Hid (owe z64 ((gone ++ dead).take (k + 1)) = (owe z64 ((gone ++ dead).take k)).set an (ov + 1)) := Lib.hid (by rw [owe_take HX.out, hov]; rfl)
    have HC1 : Hid (∀ i : Nat, cntP ((gone ++ dead).take (k + 1)) i = cntP ((gone ++ dead).take k) i + if (an : Int) = (i : Int) then 1 else 0) := Lib.hid (fun i => cntP_take HX.out i)
    have HHOV := Lib.hid hov; have HCN := Lib.hid hcn
    clear hgp ha8 ha63 hov hcn hcl e1 e2 HNO
    have lg4 := HO4.out.lt
    have hgb : wr.heap.size ≠ g := by have := HO.out.lt; omega
    go_wp2_with fail
    apply wp_region_rgz (Chg (· ∈ [g])) (Ext) (fun y w' k' => (k' < 1000 → OwnI w' g 64 64 (owe z64 ((gone ++ dead).take k))) ∧ (1000 ≤ k' → OwnI w' g 64 64 (owe z64 ((gone ++ dead).take (k + 1))))) [0, 0, 0, 0, 0, 0, 0, 0, 0, 0, 1000] [1000, 1000, 1000, 1000, 1000, 1000, 1000, 1000, 1000, 1000, 1000] (by kernel_rfl) (false :: false :: false :: false :: false :: false :: false :: false :: false :: false :: false :: false :: false :: false :: false :: false :: false :: false :: false :: false :: false :: false :: false :: false :: false :: false :: false :: false :: false :: false :: false :: false :: false :: false :: false :: false :: false :: false :: false :: false :: false :: false :: false :: false :: false :: false :: false :: false :: false :: false :: false :: false :: false :: false :: false :: false :: false :: false :: false :: false :: false :: false :: false :: false :: false :: false :: false :: false :: false :: false :: false :: false :: false :: false :: false :: false :: false :: false :: false :: false :: false :: false :: false :: false :: false :: false :: false :: false :: false :: false :: false :: false :: false :: false :: false :: false :: false :: false :: false :: false :: false :: false :: false :: false :: false :: false :: false :: false :: false :: false :: false :: false :: false :: false :: false :: false :: false :: false :: false :: false :: false :: true :: true :: true :: true :: true :: true :: true :: true :: true :: true :: false :: false :: false :: false :: false :: false :: false :: false :: false :: false :: false :: false :: false :: []) [some 121, some 122, some 123, some 124, some 125, some 126, some 127, some 128, some 129, some 130, none] [[], [], [1], [], [], [4], [3, 5], [6], [7], [0, 2], [8, 9]] [false, false, false, false, false, false, false, false, false, false, true] [true, true, true, true, true, true, true, true, true, true, true] [] [MStP.is _, MStP.is _, MStP.is _, MStP.is _, MStP.is _, MStP.is _, MStP.is _, MStP.is _, MStP.is _, MStP.is _, MStP.is _] (by kernel_rfl) (by kernel_rfl) (by kernel_rfl) (by kernel_rfl)
    case hobs =>
     refine ⟨fun y w' k hS hj hk hF K hK => ?_, ?_⟩
     · skip
       simp only [fillL, rl0StoreOkS, rl1StoreOkS, rl2StoreOkS, rl3StoreOkS, rl4StoreOkS, rl5StoreOkS, cond_true, cond_false, zG0, zG1, StP.is, Act.put, zS2, zS0, zS1, Nat.reduceAdd, MStP.is, Option.isSome_some, Option.isSome_none] at hK ⊢
       simp only [List.sum_cons, List.sum_nil, zG0, zG1, Nat.reduceAdd, Nat.add_zero] at hk
       refine rg_yes (by kernel_rfl) ?_
       clear hF
       go_simp
       exact hK _ _ (Ext.refl _) ⟨fun h => hj.1 (by omega), fun h => absurd h (by omega)⟩ rfl
     refine ⟨fun y w' k hS hj hk hF K hK => ?_, ?_⟩
     · skip
       simp only [fillL, rl0StoreOkS, rl1StoreOkS, rl2StoreOkS, rl3StoreOkS, rl4StoreOkS, rl5StoreOkS, cond_true, cond_false, zG0, zG1, StP.is, Act.put, zS2, zS0, zS1, Nat.reduceAdd, MStP.is, Option.isSome_some, Option.isSome_none] at hK ⊢
       simp only [List.sum_cons, List.sum_nil, zG0, zG1, Nat.reduceAdd, Nat.add_zero] at hk
       refine rg_yes (by kernel_rfl) ?_
       clear hF
       go_simp
       exact hK _ _ (Ext.refl _) ⟨fun h => hj.1 (by omega), fun h => absurd h (by omega)⟩ rfl
     refine ⟨fun y w' k hS hj hk hF K hK => ?_, ?_⟩
     · skip
       have e122 : y 122 = _ := hF.1
       have e122' := Lib.hid e122
       simp only [fillL, rl0StoreOkS, rl1StoreOkS, rl2StoreOkS, rl3StoreOkS, rl4StoreOkS, rl5StoreOkS, cond_true, cond_false, zG0, zG1, StP.is, Act.put, zS2, zS0, zS1, Nat.reduceAdd, e122, MStP.is, Option.isSome_some, Option.isSome_none] at hK ⊢
       simp only [List.sum_cons, List.sum_nil, zG0, zG1, Nat.reduceAdd, Nat.add_zero] at hk
       refine rg_yes (by kernel_rfl) ?_
       clear e122
       clear hF
       have qc := (World.cell?_of_block (a := ⟨wr.heap.size, 0, none⟩) (hS.block _ l4x (by simpa using hgb))).trans z0
       have lqc : wr.heap.size < w'.heap.size := Nat.lt_of_lt_of_le l4x hS.size
       go_simp
       exact hK _ _ (Ext.refl _) ⟨fun h => hj.1 (by omega), fun h => absurd h (by omega)⟩ rfl
     refine ⟨fun y w' k hS hj hk hF K hK => ?_, ?_⟩
     · skip
       simp only [fillL, rl0StoreOkS, rl1StoreOkS, rl2StoreOkS, rl3StoreOkS, rl4StoreOkS, rl5StoreOkS, cond_true, cond_false, zG0, zG1, StP.is, Act.put, zS2, zS0, zS1, Nat.reduceAdd, MStP.is, Option.isSome_some, Option.isSome_none] at hK ⊢
       simp only [List.sum_cons, List.sum_nil, zG0, zG1, Nat.reduceAdd, Nat.add_zero] at hk
       refine rg_yes (by kernel_rfl) ?_
       clear hF
       go_simp
       exact hK _ _ (Ext.refl _) ⟨fun h => hj.1 (by omega), fun h => absurd h (by omega)⟩ rfl
     refine ⟨fun y w' k hS hj hk hF K hK => ?_, ?_⟩
     · skip
       simp only [fillL, rl0StoreOkS, rl1StoreOkS, rl2StoreOkS, rl3StoreOkS, rl4StoreOkS, rl5StoreOkS, cond_true, cond_false, zG0, zG1, StP.is, Act.put, zS2, zS0, zS1, Nat.reduceAdd, MStP.is, Option.isSome_some, Option.isSome_none] at hK ⊢
       simp only [List.sum_cons, List.sum_nil, zG0, zG1, Nat.reduceAdd, Nat.add_zero] at hk
       refine rg_yes (by kernel_rfl) ?_
       clear hF
       go_simp
       exact hK _ _ (Ext.refl _) ⟨fun h => hj.1 (by omega), fun h => absurd h (by omega)⟩ rfl
     refine ⟨fun y w' k hS hj hk hF K hK => ?_, ?_⟩
     · skip
       have e125 : y 125 = _ := hF.1
       have e125' := Lib.hid e125
       simp only [fillL, rl0StoreOkS, rl1StoreOkS, rl2StoreOkS, rl3StoreOkS, rl4StoreOkS, rl5StoreOkS, cond_true, cond_false, zG0, zG1, StP.is, Act.put, zS2, zS0, zS1, Nat.reduceAdd, e125, MStP.is, Option.isSome_some, Option.isSome_none] at hK ⊢
       simp only [List.sum_cons, List.sum_nil, zG0, zG1, Nat.reduceAdd, Nat.add_zero] at hk
       refine rg_yes (by kernel_rfl) ?_
       clear e125
       clear hF
       have qc := (World.cell?_of_block (a := ⟨wr.heap.size, 0, none⟩) (hS.block _ l4x (by simpa using hgb))).trans z0
       have lqc : wr.heap.size < w'.heap.size := Nat.lt_of_lt_of_le l4x hS.size
       go_simp
       exact hK _ _ (Ext.refl _) ⟨fun h => hj.1 (by omega), fun h => absurd h (by omega)⟩ rfl
     refine ⟨fun y w' k hS hj hk hF K hK => ?_, ?_⟩
     · skip
       have e124 : y 124 = _ := hF.1
       have e126 : y 126 = _ := hF.2.1
       have e124' := Lib.hid e124
       have e126' := Lib.hid e126
       simp only [fillL, rl0StoreOkS, rl1StoreOkS, rl2StoreOkS, rl3StoreOkS, rl4StoreOkS, rl5StoreOkS, cond_true, cond_false, zG0, zG1, StP.is, Act.put, zS2, zS0, zS1, Nat.reduceAdd, e124, e126, MStP.is, Option.isSome_some, Option.isSome_none] at hK ⊢
       simp only [List.sum_cons, List.sum_nil, zG0, zG1, Nat.reduceAdd, Nat.add_zero] at hk
       refine rg_yes (by kernel_rfl) ?_
       clear e124 e126
       clear hF
       go_simp
       exact hK _ _ (Ext.refl _) ⟨fun h => hj.1 (by omega), fun h => absurd h (by omega)⟩ rfl
     refine ⟨fun y w' k hS hj hk hF K hK => ?_, ?_⟩
     · skip
       have e127 : y 127 = _ := hF.1
       have e127' := Lib.hid e127
       simp only [fillL, rl0StoreOkS, rl1StoreOkS, rl2StoreOkS, rl3StoreOkS, rl4StoreOkS, rl5StoreOkS, cond_true, cond_false, zG0, zG1, StP.is, Act.put, zS2, zS0, zS1, Nat.reduceAdd, e127, MStP.is, Option.isSome_some, Option.isSome_none] at hK ⊢
       simp only [List.sum_cons, List.sum_nil, zG0, zG1, Nat.reduceAdd, Nat.add_zero] at hk
       refine rg_yes (by kernel_rfl) ?_
       clear e127
       clear hF
       have ho := (hj.1 (by omega)).cell (j := an) hm64
       rw [← HHOV.out] at ho
       have lqg := (hj.1 (by omega)).lt
       go_simp
       exact hK _ _ (Ext.refl _) ⟨fun h => hj.1 (by omega), fun h => absurd h (by omega)⟩ rfl
     refine ⟨fun y w' k hS hj hk hF K hK => ?_, ?_⟩
     · skip
       have e128 : y 128 = _ := hF.1
       have e128' := Lib.hid e128
       simp only [fillL, rl0StoreOkS, rl1StoreOkS, rl2StoreOkS, rl3StoreOkS, rl4StoreOkS, rl5StoreOkS, cond_true, cond_false, zG0, zG1, StP.is, Act.put, zS2, zS0, zS1, Nat.reduceAdd, e128, MStP.is, Option.isSome_some, Option.isSome_none] at hK ⊢
       simp only [List.sum_cons, List.sum_nil, zG0, zG1, Nat.reduceAdd, Nat.add_zero] at hk
       refine rg_yes (by kernel_rfl) ?_
       clear e128
       clear hF
       go_simp
       exact hK _ _ (Ext.refl _) ⟨fun h => hj.1 (by omega), fun h => absurd h (by omega)⟩ rfl
     refine ⟨fun y w' k hS hj hk hF K hK => ?_, ?_⟩
     · skip
       have e121 : y 121 = _ := hF.1
       have e123 : y 123 = _ := hF.2.1
       have e121' := Lib.hid e121
       have e123' := Lib.hid e123
       simp only [fillL, rl0StoreOkS, rl1StoreOkS, rl2StoreOkS, rl3StoreOkS, rl4StoreOkS, rl5StoreOkS, cond_true, cond_false, zG0, zG1, StP.is, Act.put, zS2, zS0, zS1, Nat.reduceAdd, e121, e123, MStP.is, Option.isSome_some, Option.isSome_none] at hK ⊢
       simp only [List.sum_cons, List.sum_nil, zG0, zG1, Nat.reduceAdd, Nat.add_zero] at hk
       refine rg_yes (by kernel_rfl) ?_
       clear e121 e123
       clear hF
       go_simp
       exact hK _ _ (Ext.refl _) ⟨fun h => hj.1 (by omega), fun h => absurd h (by omega)⟩ rfl
     refine ⟨fun y w' k hS hj hk hF K hK => ?_, ?_⟩
     · skip
       have e129 : y 129 = _ := hF.1
       have e130 : y 130 = _ := hF.2.1
       have e129' := Lib.hid e129
       have e130' := Lib.hid e130
       simp only [fillL, rl0StoreOkS, rl1StoreOkS, rl2StoreOkS, rl3StoreOkS, rl4StoreOkS, rl5StoreOkS, cond_true, cond_false, zG0, zG1, StP.is, Act.put, zS2, zS0, zS1, Nat.reduceAdd, e129, e130, MStP.is, Option.isSome_some, Option.isSome_none] at hK ⊢
       simp only [List.sum_cons, List.sum_nil, zG0, zG1, Nat.reduceAdd, Nat.add_zero] at hk
       refine rg_yes (by kernel_rfl) ?_
       clear e129 e130
       clear hF
       have ho := hj.1 (by omega)
       have of_ := ho.frozen an; have oc := ho.cell (j := an) hm64; have lqg := ho.lt
       have HOj := Lib.hid ho; clear ho
       go_simp
       exact hK undef _ ((Chg.refl _ _).setCell (p := ⟨g, an, none⟩) (.inl (by simp)) _) ⟨fun h => absurd h (by omega), fun _ => by rw [HW.out]; exact HOj.out.set_ hm64 _⟩ rfl
     trivial
    case hH => rfl
    case hNS => exact fun _ _ h => Chg.of_below h _
    case hSt => exact fun a b => Chg.trans a b
    case hb => rfl
    case hdrew => exact (Chg.refl _ _).drewN 1
    case hj0 => exact fun y => ⟨fun _ => HO4.out.drewN 1, fun h => absurd h (by omega)⟩
    intro y_ w8 hS hJ hF
    have HO8 := Lib.hid (hJ.2 (by decide))
    have hbx8 := Lib.hid ((hS.block _ l4x (by simpa using hgb)).trans hbx4.out)
    have HG8 : Hid (Chg (· ∈ [g]) wr w8) := Lib.hid ((Chg.of_below HY4.out _).trans hS)
    clear hF hJ hS z0 z1 z2 z3 z4 l4x HO4
    simp only [fillL, rl0StoreOkS, rl1StoreOkS, rl2StoreOkS, rl3StoreOkS, rl4StoreOkS, rl5StoreOkS, cond_true, cond_false, Nat.reduceAdd]
    have HB8 := Lib.hid (HBz.out.trans (HG8.out.below (B := w.heap.size) (fun b _ hb => by simp at hb; subst hb; exact hgw) HBz.out.size))
    have HX8 := Lib.hid ((HG8.out.block w.heap.size lz (by simp; omega)).trans HXz.out)
    have z0 := celR 0 hbx8.out; have z1 := celR 1 hbx8.out; have z2 := celR 2 hbx8.out; have z3 := celR 3 hbx8.out; have z4 := celR 4 hbx8.out
    have b0 := celR 0 HX8.out; have b1 := celR 1 HX8.out; have b2 := celR 2 HX8.out; have b3 := celR 3 HX8.out; have b4 := celR 4 HX8.out; have b5 := celR 5 HX8.out; have b6 := celR 6 HX8.out; have b7 := celR 7 HX8.out
    have l8 := (Array.getElem?_eq_some_iff.1 HX8.out).1
    have l8x := (Array.getElem?_eq_some_iff.1 hbx8.out).1
    have lg8 := HO8.out.lt
    have o8 := HO8.out.cell (j := an) hm64
    have e8 : (owe z64 ((gone ++ dead).take (k + 1))).getD an 0 = ov + 1 := by rw [HW.out, getD_set (by have := HO.out.len; omega), if_pos rfl]
    rw [e8] at o8
    clear e8
    obtain ⟨g1, o1, rfl, lg1, hcr⟩ := (H1.out.below HB8.out (IntR.below HB8.out H1.out.lo_le)).ints.at_ (show 0 < 64 by omega)
    have r8 := hcr an hm64
    obtain ⟨rv, hrv⟩ : ∃ r, r = refs.getD an 0 := ⟨_, rfl⟩
    rw [← hrv] at r8
    have HRV := Lib.hid hrv
    clear hcr hrv
    go_wp2_with fail
    apply wp_region_rg (by kernel_rfl) rl3StoreOkS rl4StoreOkS rl5StoreOkS (StP.is _ :: StP.is _ :: StP.is _ :: StP.is _ :: StP.is _ :: StP.is _ :: StP.is _ :: StP.is _ :: StP.is _ :: StP.is _ :: StP.is _ :: StP.is _ :: StP.is _ :: []) (by kernel_rfl)
    case hobs =>
     iterate 2 (constructor; rotate_left)
     constructor; have ld_ := trivial; rotate_left
     constructor; rotate_left
     constructor; have ld_ := trivial; rotate_left
     iterate 2 (constructor; rotate_left)
     constructor; have ld_ := trivial; rotate_left
     constructor; rotate_left
     constructor; have ld_ := trivial; rotate_left
     constructor; rotate_left
     constructor; have ld_ := trivial; rotate_left
     constructor; rotate_left
     · trivial
     all_goals (
      intro y w' hS hF K hK
      have eF := trivial
      repeat (obtain ⟨f1, hF⟩ := hF; replace eF := And.intro (show y _ = _ from f1) eF; clear f1)
      first
       | simp only [fillL, rl0StoreOkS, rl1StoreOkS, rl2StoreOkS, rl3StoreOkS, rl4StoreOkS, rl5StoreOkS, cond_true, cond_false, zG0, zG1, StP.is, Act.put, zS2, zS0, zS1, Nat.reduceAdd, eF] at hK ⊢
       | simp only [fillL, rl0StoreOkS, rl1StoreOkS, rl2StoreOkS, rl3StoreOkS, rl4StoreOkS, rl5StoreOkS, cond_true, cond_false, zG0, zG1, StP.is, Act.put, zS2, zS0, zS1, Nat.reduceAdd] at hK ⊢
      clear eF hF
      first
       | (refine rg_yes (by kernel_rfl) ?_
          try (clear ld_; have qx0_ := (Below.cell hS l8).trans b0; have qx1_ := (Below.cell hS l8).trans b1; have qx2_ := (Below.cell hS l8).trans b2; have qx3_ := (Below.cell hS l8).trans b3; have qx4_ := (Below.cell hS l8).trans b4; have qx5_ := (Below.cell hS l8).trans b5; have qx6_ := (Below.cell hS l8).trans b6; have qx7_ := (Below.cell hS l8).trans b7; have qx8_ := (Below.cell hS l8x).trans z0; have qx9_ := (Below.cell hS lg8).trans o8; have qx10_ := (Below.cell hS lg1).trans r8)
          go_simp
          first
           | exact hK _ _ (Ext.refl _) rfl))
    intro y_ w9 hX hF
    have e143 : y_ 143 = _ := hF.2.2.2.2.2.2.2.2.2.2.2.2.1
    clear hF
    simp only [fillL, rl0StoreOkS, rl1StoreOkS, rl2StoreOkS, rl3StoreOkS, rl4StoreOkS, rl5StoreOkS, cond_true, cond_false, Nat.reduceAdd, e143]
    clear e143
    have HB9 : Hid (Below w.heap.size w w9) := Lib.hid (HB8.out.trans (Below.mono hX HB8.out.size))
    have HG9 : Hid (Chg (· ∈ [g]) w5 w9) := Lib.hid ((HC.out.trans HG8.out).trans (Chg.of_below hX _))
    have HO9 := Lib.hid (HO8.out.below hX)
    clear hX
    by_cases h9 : rv < ov + 1
    · have HN := Lib.hid (HBAD.out (fun h => by
       have h_ : ((cntP gone an + cntP dead an : Nat) : Int) ≤ refs.getD an 0 := h.owed an hm64
       have h1_ := take_app_le (xs := gone) (ys := dead) (a := an) (k + 1)
       have h2_ := HC1.out an
       have h3_ := HCN.out
       rw [if_pos rfl] at h2_
       rw [← HRV.out] at h_
       omega))
      go_wp2_with fail
      go_ret
      exact ⟨ret_bool HN.out, HB9.out⟩
    have HQ1 : Hid (∀ a, a < 64 → (cntP ((gone ++ dead).take (k + 1)) a : Int) ≤ refs.getD a 0) := Lib.hid (fun a ha => by
     have h1_ := HQ.out a ha
     have h2_ := HC1.out a
     by_cases haa : (an : Int) = (a : Int)
     · obtain rfl : an = a := by omega
       have h3_ := HCN.out
       rw [if_pos rfl] at h2_
       rw [← HRV.out]
       omega
     · rw [if_neg haa] at h2_
       omega)
    go_wp2_with fail
    go_roundw
    case rel => exact ⟨k + 1, HKN.out, by go_num, HGP, HQ1, HO9, HG9⟩
    have := HKN.out; simp [intOf]; omega
   have i3 : ¬ (k : Int) < (n3 : Int) := by omega
   obtain ⟨j, hj⟩ : ∃ j, k = n3 + j := ⟨k - n3, by omega⟩
   have hjn : j < n4 := by have := HN.out; omega
   have nj : IntKind.i64.wrap ((k : Int) - (n3 : Int)) = (j : Int) := by rw [IntWalk.i64_in _ (by omega)]; omega
   have j0 : (0 : Int) ≤ (j : Int) := by omega
   have j1 : (j : Int) < (n4 : Int) := by omega
   obtain ⟨p, hp⟩ : ∃ x, dead[j]? = some x := ⟨dead[j]'(by rw [L4.out]; exact hjn), List.getElem?_eq_getElem _⟩
   have hx : (gone ++ dead)[k]? = some p := by rw [hj]; exact app_right L3.out hp
   have HX0 := Lib.hid hp
   have HJ := Lib.hid hj
   clear hj
   obtain ⟨b, off, rfl, _, _, bl, hc⟩ := (H4.out.upP HBz.out).at_ (by omega)
   obtain ⟨cs, hcl, hcc, hr⟩ := hc _ p hp
   obtain ⟨a, bi, sz, sm, lv⟩ := p
   obtain rfl := hr
   have q0 := hcc 0 _ rfl; have q1 := hcc 1 _ rfl; have q2 := hcc 2 _ rfl; have q3 := hcc 3 _ rfl; have q4 := hcc 4 _ rfl
   simp only [Nat.add_zero] at q0
   clear hc hcc hcl
   have HX := Lib.hid hx; clear hx hp
   have R1 := Lib.hid (fun W => spPtrOk_any a bi sz sm lv W)
   have R2 := Lib.hid (fun W => spPtrHole_any a bi sz sm lv W)
   obtain ⟨w2, hw2⟩ : ∃ W, W = wr.alloc (.cells #[.int .i64 a, .int .i64 bi, .int .i64 sz, .int .i64 sm, .int .i64 lv] 41) := ⟨_, rfl⟩
   have HY2 : Hid (Below wr.heap.size wr w2) := Lib.hid (by rw [hw2]; exact bel1)
   have hbx : Hid (w2.heap[wr.heap.size]? = some (.cells #[.int .i64 a, .int .i64 bi, .int .i64 sz, .int .i64 sm, .int .i64 lv] 41 (0, 0))) := Lib.hid (by rw [hw2]; exact heap_alloc_new _ _)
   go_wp2_with fail
   rw [← hw2]
   clear hw2 q0 q1 q2 q3 q4 b0 b1 b2 b3 b4 b5 b6 b7
   have x0 := celR 0 hbx.out; have x1 := celR 1 hbx.out; have x2 := celR 2 hbx.out; have x3 := celR 3 hbx.out; have x4 := celR 4 hbx.out
   have l2x := (Array.getElem?_eq_some_iff.1 hbx.out).1
   go_wp2_with fail
   refine (R1.out _).mono ?_
   rintro e w3 ⟨rfl, hb3⟩
   have HY3 := Lib.hid (HY2.out.trans (hb3.mono HY2.out.size))
   have hbx3 := Lib.hid ((hb3.block _ l2x).trans hbx.out)
   clear hb3 HY2 hbx x0 x1 x2 x3 x4 l2x
   have y0 := celR 0 hbx3.out; have y1 := celR 1 hbx3.out; have y2 := celR 2 hbx3.out; have y3 := celR 3 hbx3.out; have y4 := celR 4 hbx3.out
   have l3x := (Array.getElem?_eq_some_iff.1 hbx3.out).1
   have HNO : Hid (goodP keep (a, bi, sz, sm, lv) = false → false = res) := Lib.hid (fun u => HBAD.out (fun h => by
    have h_ : goodP keep (a, bi, sz, sm, lv) = true := h.dead _ (List.mem_of_getElem? HX0.out)
    exact absurd (h_.symm.trans u) (by simp)))
   have HCB : Hid (∀ W, Below wr.heap.size wr W → Below w.heap.size w W) := Lib.hid (fun W h => HBz.out.trans (h.mono HBz.out.size))
   cases e1 : ptrOkB a bi sz sm lv
   · have HN := Lib.hid (HNO.out (by unfold goodP okP; simp [e1]))
     clear HNO
     go_wp2_with fail
     go_ret
     exact ⟨ret_bool HN.out, HCB.out _ HY3.out⟩
   go_wp2_with fail
   refine (R2.out _).mono ?_
   rintro e w4 ⟨rfl, hb4⟩
   have HY4 := Lib.hid (HY3.out.trans (hb4.mono HY3.out.size))
   have hbx4 := Lib.hid ((hb4.block _ l3x).trans hbx3.out)
   clear hb4 HY3 hbx3 y0 y1 y2 y3 y4 l3x
   have z0 := celR 0 hbx4.out; have z1 := celR 1 hbx4.out; have z2 := celR 2 hbx4.out; have z3 := celR 3 hbx4.out; have z4 := celR 4 hbx4.out
   have l4x := (Array.getElem?_eq_some_iff.1 hbx4.out).1
   cases e2 : ptrHole a bi sz sm lv
   rotate_left
   · have HN := Lib.hid (HNO.out (by unfold goodP holeP; simp [e2]))
     clear HNO
     go_wp2_with fail
     go_ret
     exact ⟨ret_bool HN.out, HCB.out _ HY4.out⟩
   by_cases h3 : keep < bi
   · have HN := Lib.hid (HNO.out (by first | (unfold goodP; simp; intro _ _ h; omega) | (unfold goodP; simp; omega)))
     clear HNO
     go_wp2_with fail
     go_ret
     exact ⟨ret_bool HN.out, HCB.out _ HY4.out⟩
   have hgp : goodP keep (a, bi, sz, sm, lv) = true := by unfold goodP okP holeP; simp [e1, e2]; omega
   obtain ⟨-, -, -, ha8, ha63⟩ := goodP_parts hgp
   have ha8 : 8 ≤ a := ha8
   have ha63 : a ≤ 63 := ha63
   obtain ⟨an, rfl⟩ : ∃ m : Nat, a = (m : Int) := ⟨a.toNat, by omega⟩
   have hm64 : an < 64 := by omega
   have an0 : (0 : Int) ≤ (an : Int) := by omega
   have an1 : (an : Int) < 64 := by omega
   have HGP : Hid (∀ j p, j < k + 1 → (gone ++ dead)[j]? = some p → goodP (if j < n3 then txg - 1 else keep) p = true) := Lib.hid (upto_step2 (f := fun j p => goodP (if j < n3 then txg - 1 else keep) p) HP.out HX.out (by rw [if_neg hk3]; exact hgp))
   have HO4 := Lib.hid ((HO.out.below HY4.out))
   obtain ⟨ov, hov⟩ : ∃ r, r = (owe z64 ((gone ++ dead).take k)).getD an 0 := ⟨_, rfl⟩
   have hcn : ov = (cntP ((gone ++ dead).take k) an : Int) := by rw [hov]; exact HOV.out an
   have hcl : cntP ((gone ++ dead).take k) an ≤ k := Nat.le_trans (cntP_len _ _) (by simp; omega)
   have nov : IntKind.i64.wrap (ov + 1) = ov + 1 := IntWalk.i64_in _ (by omega)
   have HW : Hid (owe z64 ((gone ++ dead).take (k + 1)) = (owe z64 ((gone ++ dead).take k)).set an (ov + 1)) := Lib.hid (by rw [owe_take HX.out, hov]; rfl)
   have HC1 : Hid (∀ i : Nat, cntP ((gone ++ dead).take (k + 1)) i = cntP ((gone ++ dead).take k) i + if (an : Int) = (i : Int) then 1 else 0) := Lib.hid (fun i => cntP_take HX.out i)
   have HHOV := Lib.hid hov; have HCN := Lib.hid hcn
   clear hgp ha8 ha63 hov hcn hcl e1 e2 HNO
   have lg4 := HO4.out.lt
   have hgb : wr.heap.size ≠ g := by have := HO.out.lt; omega
   go_wp2_with fail
   apply wp_region_rgz (Chg (· ∈ [g])) (Ext) (fun y w' k' => (k' < 1000 → OwnI w' g 64 64 (owe z64 ((gone ++ dead).take k))) ∧ (1000 ≤ k' → OwnI w' g 64 64 (owe z64 ((gone ++ dead).take (k + 1))))) [0, 0, 0, 0, 0, 0, 0, 0, 0, 0, 1000] [1000, 1000, 1000, 1000, 1000, 1000, 1000, 1000, 1000, 1000, 1000] (by kernel_rfl) (false :: false :: false :: false :: false :: false :: false :: false :: false :: false :: false :: false :: false :: false :: false :: false :: false :: false :: false :: false :: false :: false :: false :: false :: false :: false :: false :: false :: false :: false :: false :: false :: false :: false :: false :: false :: false :: false :: false :: false :: false :: false :: false :: false :: false :: false :: false :: false :: false :: false :: false :: false :: false :: false :: false :: false :: false :: false :: false :: false :: false :: false :: false :: false :: false :: false :: false :: false :: false :: false :: false :: false :: false :: false :: false :: false :: false :: false :: false :: false :: false :: false :: false :: false :: false :: false :: false :: false :: false :: false :: false :: false :: false :: false :: false :: false :: false :: false :: false :: false :: false :: false :: false :: false :: false :: false :: false :: false :: false :: false :: false :: false :: false :: false :: false :: false :: false :: false :: false :: false :: false :: true :: true :: true :: true :: true :: true :: true :: true :: true :: true :: false :: false :: false :: false :: false :: false :: false :: false :: false :: false :: false :: false :: false :: []) [some 121, some 122, some 123, some 124, some 125, some 126, some 127, some 128, some 129, some 130, none] [[], [], [1], [], [], [4], [3, 5], [6], [7], [0, 2], [8, 9]] [false, false, false, false, false, false, false, false, false, false, true] [true, true, true, true, true, true, true, true, true, true, true] [] [MStP.is _, MStP.is _, MStP.is _, MStP.is _, MStP.is _, MStP.is _, MStP.is _, MStP.is _, MStP.is _, MStP.is _, MStP.is _] (by kernel_rfl) (by kernel_rfl) (by kernel_rfl) (by kernel_rfl)
   case hobs =>
    refine ⟨fun y w' k hS hj hk hF K hK => ?_, ?_⟩
    · skip
      simp only [fillL, rl0StoreOkS, rl1StoreOkS, rl2StoreOkS, rl3StoreOkS, rl4StoreOkS, rl5StoreOkS, cond_true, cond_false, zG0, zG1, StP.is, Act.put, zS2, zS0, zS1, Nat.reduceAdd, MStP.is, Option.isSome_some, Option.isSome_none] at hK ⊢
      simp only [List.sum_cons, List.sum_nil, zG0, zG1, Nat.reduceAdd, Nat.add_zero] at hk
      refine rg_yes (by kernel_rfl) ?_
      clear hF
      go_simp
      exact hK _ _ (Ext.refl _) ⟨fun h => hj.1 (by omega), fun h => absurd h (by omega)⟩ rfl
    refine ⟨fun y w' k hS hj hk hF K hK => ?_, ?_⟩
    · skip
      simp only [fillL, rl0StoreOkS, rl1StoreOkS, rl2StoreOkS, rl3StoreOkS, rl4StoreOkS, rl5StoreOkS, cond_true, cond_false, zG0, zG1, StP.is, Act.put, zS2, zS0, zS1, Nat.reduceAdd, MStP.is, Option.isSome_some, Option.isSome_none] at hK ⊢
      simp only [List.sum_cons, List.sum_nil, zG0, zG1, Nat.reduceAdd, Nat.add_zero] at hk
      refine rg_yes (by kernel_rfl) ?_
      clear hF
      go_simp
      exact hK _ _ (Ext.refl _) ⟨fun h => hj.1 (by omega), fun h => absurd h (by omega)⟩ rfl
    refine ⟨fun y w' k hS hj hk hF K hK => ?_, ?_⟩
    · skip
      have e122 : y 122 = _ := hF.1
      have e122' := Lib.hid e122
      simp only [fillL, rl0StoreOkS, rl1StoreOkS, rl2StoreOkS, rl3StoreOkS, rl4StoreOkS, rl5StoreOkS, cond_true, cond_false, zG0, zG1, StP.is, Act.put, zS2, zS0, zS1, Nat.reduceAdd, e122, MStP.is, Option.isSome_some, Option.isSome_none] at hK ⊢
      simp only [List.sum_cons, List.sum_nil, zG0, zG1, Nat.reduceAdd, Nat.add_zero] at hk
      refine rg_yes (by kernel_rfl) ?_
      clear e122
      clear hF
      have qc := (World.cell?_of_block (a := ⟨wr.heap.size, 0, none⟩) (hS.block _ l4x (by simpa using hgb))).trans z0
      have lqc : wr.heap.size < w'.heap.size := Nat.lt_of_lt_of_le l4x hS.size
      go_simp
      exact hK _ _ (Ext.refl _) ⟨fun h => hj.1 (by omega), fun h => absurd h (by omega)⟩ rfl
    refine ⟨fun y w' k hS hj hk hF K hK => ?_, ?_⟩
    · skip
      simp only [fillL, rl0StoreOkS, rl1StoreOkS, rl2StoreOkS, rl3StoreOkS, rl4StoreOkS, rl5StoreOkS, cond_true, cond_false, zG0, zG1, StP.is, Act.put, zS2, zS0, zS1, Nat.reduceAdd, MStP.is, Option.isSome_some, Option.isSome_none] at hK ⊢
      simp only [List.sum_cons, List.sum_nil, zG0, zG1, Nat.reduceAdd, Nat.add_zero] at hk
      refine rg_yes (by kernel_rfl) ?_
      clear hF
      go_simp
      exact hK _ _ (Ext.refl _) ⟨fun h => hj.1 (by omega), fun h => absurd h (by omega)⟩ rfl
    refine ⟨fun y w' k hS hj hk hF K hK => ?_, ?_⟩
    · skip
      simp only [fillL, rl0StoreOkS, rl1StoreOkS, rl2StoreOkS, rl3StoreOkS, rl4StoreOkS, rl5StoreOkS, cond_true, cond_false, zG0, zG1, StP.is, Act.put, zS2, zS0, zS1, Nat.reduceAdd, MStP.is, Option.isSome_some, Option.isSome_none] at hK ⊢
      simp only [List.sum_cons, List.sum_nil, zG0, zG1, Nat.reduceAdd, Nat.add_zero] at hk
      refine rg_yes (by kernel_rfl) ?_
      clear hF
      go_simp
      exact hK _ _ (Ext.refl _) ⟨fun h => hj.1 (by omega), fun h => absurd h (by omega)⟩ rfl
    refine ⟨fun y w' k hS hj hk hF K hK => ?_, ?_⟩
    · skip
      have e125 : y 125 = _ := hF.1
      have e125' := Lib.hid e125
      simp only [fillL, rl0StoreOkS, rl1StoreOkS, rl2StoreOkS, rl3StoreOkS, rl4StoreOkS, rl5StoreOkS, cond_true, cond_false, zG0, zG1, StP.is, Act.put, zS2, zS0, zS1, Nat.reduceAdd, e125, MStP.is, Option.isSome_some, Option.isSome_none] at hK ⊢
      simp only [List.sum_cons, List.sum_nil, zG0, zG1, Nat.reduceAdd, Nat.add_zero] at hk
      refine rg_yes (by kernel_rfl) ?_
      clear e125
      clear hF
      have qc := (World.cell?_of_block (a := ⟨wr.heap.size, 0, none⟩) (hS.block _ l4x (by simpa using hgb))).trans z0
      have lqc : wr.heap.size < w'.heap.size := Nat.lt_of_lt_of_le l4x hS.size
      go_simp
      exact hK _ _ (Ext.refl _) ⟨fun h => hj.1 (by omega), fun h => absurd h (by omega)⟩ rfl
    refine ⟨fun y w' k hS hj hk hF K hK => ?_, ?_⟩
    · skip
      have e124 : y 124 = _ := hF.1
      have e126 : y 126 = _ := hF.2.1
      have e124' := Lib.hid e124
      have e126' := Lib.hid e126
      simp only [fillL, rl0StoreOkS, rl1StoreOkS, rl2StoreOkS, rl3StoreOkS, rl4StoreOkS, rl5StoreOkS, cond_true, cond_false, zG0, zG1, StP.is, Act.put, zS2, zS0, zS1, Nat.reduceAdd, e124, e126, MStP.is, Option.isSome_some, Option.isSome_none] at hK ⊢
      simp only [List.sum_cons, List.sum_nil, zG0, zG1, Nat.reduceAdd, Nat.add_zero] at hk
      refine rg_yes (by kernel_rfl) ?_
      clear e124 e126
      clear hF
      go_simp
      exact hK _ _ (Ext.refl _) ⟨fun h => hj.1 (by omega), fun h => absurd h (by omega)⟩ rfl
    refine ⟨fun y w' k hS hj hk hF K hK => ?_, ?_⟩
    · skip
      have e127 : y 127 = _ := hF.1
      have e127' := Lib.hid e127
      simp only [fillL, rl0StoreOkS, rl1StoreOkS, rl2StoreOkS, rl3StoreOkS, rl4StoreOkS, rl5StoreOkS, cond_true, cond_false, zG0, zG1, StP.is, Act.put, zS2, zS0, zS1, Nat.reduceAdd, e127, MStP.is, Option.isSome_some, Option.isSome_none] at hK ⊢
      simp only [List.sum_cons, List.sum_nil, zG0, zG1, Nat.reduceAdd, Nat.add_zero] at hk
      refine rg_yes (by kernel_rfl) ?_
      clear e127
      clear hF
      have ho := (hj.1 (by omega)).cell (j := an) hm64
      rw [← HHOV.out] at ho
      have lqg := (hj.1 (by omega)).lt
      go_simp
      exact hK _ _ (Ext.refl _) ⟨fun h => hj.1 (by omega), fun h => absurd h (by omega)⟩ rfl
    refine ⟨fun y w' k hS hj hk hF K hK => ?_, ?_⟩
    · skip
      have e128 : y 128 = _ := hF.1
      have e128' := Lib.hid e128
      simp only [fillL, rl0StoreOkS, rl1StoreOkS, rl2StoreOkS, rl3StoreOkS, rl4StoreOkS, rl5StoreOkS, cond_true, cond_false, zG0, zG1, StP.is, Act.put, zS2, zS0, zS1, Nat.reduceAdd, e128, MStP.is, Option.isSome_some, Option.isSome_none] at hK ⊢
      simp only [List.sum_cons, List.sum_nil, zG0, zG1, Nat.reduceAdd, Nat.add_zero] at hk
      refine rg_yes (by kernel_rfl) ?_
      clear e128
      clear hF
      go_simp
      exact hK _ _ (Ext.refl _) ⟨fun h => hj.1 (by omega), fun h => absurd h (by omega)⟩ rfl
    refine ⟨fun y w' k hS hj hk hF K hK => ?_, ?_⟩
    · skip
      have e121 : y 121 = _ := hF.1
      have e123 : y 123 = _ := hF.2.1
      have e121' := Lib.hid e121
      have e123' := Lib.hid e123
      simp only [fillL, rl0StoreOkS, rl1StoreOkS, rl2StoreOkS, rl3StoreOkS, rl4StoreOkS, rl5StoreOkS, cond_true, cond_false, zG0, zG1, StP.is, Act.put, zS2, zS0, zS1, Nat.reduceAdd, e121, e123, MStP.is, Option.isSome_some, Option.isSome_none] at hK ⊢
      simp only [List.sum_cons, List.sum_nil, zG0, zG1, Nat.reduceAdd, Nat.add_zero] at hk
      refine rg_yes (by kernel_rfl) ?_
      clear e121 e123
      clear hF
      go_simp
      exact hK _ _ (Ext.refl _) ⟨fun h => hj.1 (by omega), fun h => absurd h (by omega)⟩ rfl
    refine ⟨fun y w' k hS hj hk hF K hK => ?_, ?_⟩
    · skip
      have e129 : y 129 = _ := hF.1
      have e130 : y 130 = _ := hF.2.1
      have e129' := Lib.hid e129
      have e130' := Lib.hid e130
      simp only [fillL, rl0StoreOkS, rl1StoreOkS, rl2StoreOkS, rl3StoreOkS, rl4StoreOkS, rl5StoreOkS, cond_true, cond_false, zG0, zG1, StP.is, Act.put, zS2, zS0, zS1, Nat.reduceAdd, e129, e130, MStP.is, Option.isSome_some, Option.isSome_none] at hK ⊢
      simp only [List.sum_cons, List.sum_nil, zG0, zG1, Nat.reduceAdd, Nat.add_zero] at hk
      refine rg_yes (by kernel_rfl) ?_
      clear e129 e130
      clear hF
      have ho := hj.1 (by omega)
      have of_ := ho.frozen an; have oc := ho.cell (j := an) hm64; have lqg := ho.lt
      have HOj := Lib.hid ho; clear ho
      go_simp
      exact hK undef _ ((Chg.refl _ _).setCell (p := ⟨g, an, none⟩) (.inl (by simp)) _) ⟨fun h => absurd h (by omega), fun _ => by rw [HW.out]; exact HOj.out.set_ hm64 _⟩ rfl
    trivial
   case hH => rfl
   case hNS => exact fun _ _ h => Chg.of_below h _
   case hSt => exact fun a b => Chg.trans a b
   case hb => rfl
   case hdrew => exact (Chg.refl _ _).drewN 1
   case hj0 => exact fun y => ⟨fun _ => HO4.out.drewN 1, fun h => absurd h (by omega)⟩
   intro y_ w8 hS hJ hF
   have HO8 := Lib.hid (hJ.2 (by decide))
   have hbx8 := Lib.hid ((hS.block _ l4x (by simpa using hgb)).trans hbx4.out)
   have HG8 : Hid (Chg (· ∈ [g]) wr w8) := Lib.hid ((Chg.of_below HY4.out _).trans hS)
   clear hF hJ hS z0 z1 z2 z3 z4 l4x HO4
   simp only [fillL, rl0StoreOkS, rl1StoreOkS, rl2StoreOkS, rl3StoreOkS, rl4StoreOkS, rl5StoreOkS, cond_true, cond_false, Nat.reduceAdd]
   have HB8 := Lib.hid (HBz.out.trans (HG8.out.below (B := w.heap.size) (fun b _ hb => by simp at hb; subst hb; exact hgw) HBz.out.size))
   have HX8 := Lib.hid ((HG8.out.block w.heap.size lz (by simp; omega)).trans HXz.out)
   have z0 := celR 0 hbx8.out; have z1 := celR 1 hbx8.out; have z2 := celR 2 hbx8.out; have z3 := celR 3 hbx8.out; have z4 := celR 4 hbx8.out
   have b0 := celR 0 HX8.out; have b1 := celR 1 HX8.out; have b2 := celR 2 HX8.out; have b3 := celR 3 HX8.out; have b4 := celR 4 HX8.out; have b5 := celR 5 HX8.out; have b6 := celR 6 HX8.out; have b7 := celR 7 HX8.out
   have l8 := (Array.getElem?_eq_some_iff.1 HX8.out).1
   have l8x := (Array.getElem?_eq_some_iff.1 hbx8.out).1
   have lg8 := HO8.out.lt
   have o8 := HO8.out.cell (j := an) hm64
   have e8 : (owe z64 ((gone ++ dead).take (k + 1))).getD an 0 = ov + 1 := by rw [HW.out, getD_set (by have := HO.out.len; omega), if_pos rfl]
   rw [e8] at o8
   clear e8
   obtain ⟨g1, o1, rfl, lg1, hcr⟩ := (H1.out.below HB8.out (IntR.below HB8.out H1.out.lo_le)).ints.at_ (show 0 < 64 by omega)
   have r8 := hcr an hm64
   obtain ⟨rv, hrv⟩ : ∃ r, r = refs.getD an 0 := ⟨_, rfl⟩
   rw [← hrv] at r8
   have HRV := Lib.hid hrv
   clear hcr hrv
   go_wp2_with fail
   apply wp_region_rg (by kernel_rfl) rl3StoreOkS rl4StoreOkS rl5StoreOkS (StP.is _ :: StP.is _ :: StP.is _ :: StP.is _ :: StP.is _ :: StP.is _ :: StP.is _ :: StP.is _ :: StP.is _ :: StP.is _ :: StP.is _ :: StP.is _ :: StP.is _ :: []) (by kernel_rfl)
   case hobs =>
    iterate 2 (constructor; rotate_left)
    constructor; have ld_ := trivial; rotate_left
    constructor; rotate_left
    constructor; have ld_ := trivial; rotate_left
    iterate 2 (constructor; rotate_left)
    constructor; have ld_ := trivial; rotate_left
    constructor; rotate_left
    constructor; have ld_ := trivial; rotate_left
    constructor; rotate_left
    constructor; have ld_ := trivial; rotate_left
    constructor; rotate_left
    · trivial
    all_goals (
     intro y w' hS hF K hK
     have eF := trivial
     repeat (obtain ⟨f1, hF⟩ := hF; replace eF := And.intro (show y _ = _ from f1) eF; clear f1)
     first
      | simp only [fillL, rl0StoreOkS, rl1StoreOkS, rl2StoreOkS, rl3StoreOkS, rl4StoreOkS, rl5StoreOkS, cond_true, cond_false, zG0, zG1, StP.is, Act.put, zS2, zS0, zS1, Nat.reduceAdd, eF] at hK ⊢
      | simp only [fillL, rl0StoreOkS, rl1StoreOkS, rl2StoreOkS, rl3StoreOkS, rl4StoreOkS, rl5StoreOkS, cond_true, cond_false, zG0, zG1, StP.is, Act.put, zS2, zS0, zS1, Nat.reduceAdd] at hK ⊢
     clear eF hF
     first
      | (refine rg_yes (by kernel_rfl) ?_
         try (clear ld_; have qx0_ := (Below.cell hS l8).trans b0; have qx1_ := (Below.cell hS l8).trans b1; have qx2_ := (Below.cell hS l8).trans b2; have qx3_ := (Below.cell hS l8).trans b3; have qx4_ := (Below.cell hS l8).trans b4; have qx5_ := (Below.cell hS l8).trans b5; have qx6_ := (Below.cell hS l8).trans b6; have qx7_ := (Below.cell hS l8).trans b7; have qx8_ := (Below.cell hS l8x).trans z0; have qx9_ := (Below.cell hS lg8).trans o8; have qx10_ := (Below.cell hS lg1).trans r8)
         go_simp
         first
          | exact hK _ _ (Ext.refl _) rfl))
   intro y_ w9 hX hF
   have e143 : y_ 143 = _ := hF.2.2.2.2.2.2.2.2.2.2.2.2.1
   clear hF
   simp only [fillL, rl0StoreOkS, rl1StoreOkS, rl2StoreOkS, rl3StoreOkS, rl4StoreOkS, rl5StoreOkS, cond_true, cond_false, Nat.reduceAdd, e143]
   clear e143
   have HB9 : Hid (Below w.heap.size w w9) := Lib.hid (HB8.out.trans (Below.mono hX HB8.out.size))
   have HG9 : Hid (Chg (· ∈ [g]) w5 w9) := Lib.hid ((HC.out.trans HG8.out).trans (Chg.of_below hX _))
   have HO9 := Lib.hid (HO8.out.below hX)
   clear hX
   by_cases h9 : rv < ov + 1
   · have HN := Lib.hid (HBAD.out (fun h => by
      have h_ : ((cntP gone an + cntP dead an : Nat) : Int) ≤ refs.getD an 0 := h.owed an hm64
      have h1_ := take_app_le (xs := gone) (ys := dead) (a := an) (k + 1)
      have h2_ := HC1.out an
      have h3_ := HCN.out
      rw [if_pos rfl] at h2_
      rw [← HRV.out] at h_
      omega))
     go_wp2_with fail
     go_ret
     exact ⟨ret_bool HN.out, HB9.out⟩
   have HQ1 : Hid (∀ a, a < 64 → (cntP ((gone ++ dead).take (k + 1)) a : Int) ≤ refs.getD a 0) := Lib.hid (fun a ha => by
    have h1_ := HQ.out a ha
    have h2_ := HC1.out a
    by_cases haa : (an : Int) = (a : Int)
    · obtain rfl : an = a := by omega
      have h3_ := HCN.out
      rw [if_pos rfl] at h2_
      rw [← HRV.out]
      omega
    · rw [if_neg haa] at h2_
      omega)
   go_wp2_with fail
   go_roundw
   case rel => exact ⟨k + 1, HKN.out, by go_num, HGP, HQ1, HO9, HG9⟩
   have := HKN.out; simp [intOf]; omega
 obtain rfl : k = N := by omega
 have kN : ¬ (k : Int) < (k : Int) := by omega
 have hL : (gone ++ dead).take k = gone ++ dead := List.take_of_length_le (by rw [HLen.out]; omega)
 go_wp2_with fail
 go_ret
 refine ⟨ret_bool (HYES.out ⟨L0.out, E1.out, E2.out, E3.out, fun i hi => (HT.out i hi).2, fun i hi => (HT.out i hi).1, fun p hp => ?_, fun p hp => ?_, fun i hi => ?_⟩), HBz.out⟩
 · obtain ⟨j, hj, rfl⟩ := List.mem_iff_getElem.1 hp
   have h3 : j < n3 := by rw [← L3.out]; exact hj
   have := HP.out j _ (by have := HN.out; omega) (app_left (List.getElem?_eq_getElem hj))
   rwa [if_pos h3] at this
 · obtain ⟨j, hj, rfl⟩ := List.mem_iff_getElem.1 hp
   have h4 : j < n4 := by rw [← L4.out]; exact hj
   have := HP.out (n3 + j) _ (by have := HN.out; omega) (app_right L3.out (List.getElem?_eq_getElem hj))
   rwa [if_neg (by omega)] at this
 have := HQ.out i hi
 rw [hL, cntP_append] at this
 exact this
end Go.Proofs.YtjnhiiaejeaikaaGreatDoor
