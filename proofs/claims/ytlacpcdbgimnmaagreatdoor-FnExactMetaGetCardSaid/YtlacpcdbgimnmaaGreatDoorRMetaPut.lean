/- MetaPut of the program. Condition: the table of powers of ten lies as its initialiser lays it. -/
import Derived.Test.YtlacpcdbgimnmaaGreatDoorRMetaField
set_option linter.unnecessarySimpa false
set_option linter.unusedSimpArgs false
set_option linter.unusedVariables false
namespace Go.Proofs.YtlacpcdbgimnmaaGreatDoor
open Go Go.Lib Go.RowKit
abbrev rl0MetaPut : List Bool := (false :: false :: false :: false :: false :: true :: false :: false :: false :: false :: false :: false :: false :: false :: false :: false :: false :: false :: false :: false :: false :: false :: false :: false :: false :: false :: false :: true :: true :: true :: true :: true :: true :: true :: true :: true :: false :: false :: false :: false :: false :: false :: false :: false :: false :: false :: false :: false :: false :: false :: false :: false :: false :: false :: false :: false :: false :: false :: false :: false :: false :: false :: false :: false :: false :: false :: false :: false :: false :: false :: false :: false :: false :: false :: false :: false :: false :: false :: [])
abbrev rl1MetaPut : List (Option Nat) := [some 27, some 28, some 29, some 30, some 31, some 32, some 33, some 34, some 35, some 5]
theorem FieldR_def (X : Str) (ok : Bool) (w : World) : FieldR X ok w = fun e w' => e = .returned (.tuple #[.string (strB X), .bool ok]) ∧ Below w.heap.size w w' := rfl
theorem take_snoc {α β : Type} (f : α → β) {xs : List α} {k : Nat} {x : α} (base : List β) (h : xs[k]? = some x) : base ++ (xs.take (k + 1)).map f = base ++ (xs.take k).map f ++ [f x] := by
 rw [List.take_add_one, h, List.map_append, List.append_assoc]; rfl
set_option maxRecDepth 100000 in
set_option maxHeartbeats 4000000 in
theorem metaPut_any (A0 : Option Addr) (n0 c0 : Nat) (A1 : Option Addr) (n1 c1 : Nat) (hs : List HeadD) (ss : List SnapD) (nx : Int) (bo : Bool) (w : World) (lo hi : Nat) (ht : Tab w) (h0 : SliceR HeadR 11 w lo hi A0 n0 c0 hs) (h1 : SliceR SnapR 12 w lo hi A1 n1 c1 ss) (b0 : ∀ x ∈ hs, x.1.size ≤ 3000000 ∧ x.2.2.2.1.length ≤ 2000000) (b1 : ∀ x ∈ ss, x.2.1.size ≤ 3000000 ∧ x.2.2.2.2.2.length ≤ 2000000) :
 Calls Tryz.prog 18 #[.agg #[.slice A0 n0 c0, .slice A1 n1 c1, .int .i64 nx, .bool bo]] w (FieldR (metaF (hs, ss, nx, bo)).1 (metaF (hs, ss, nx, bo)).2 w) := by
 obtain ⟨i0, hi0, hz0, hz1, hz2⟩ := info_parts info_strs
 have HL0 := Lib.hid h0.len; have HL1 := Lib.hid h1.len
 have hm0 := h0.max; have hm1 := h1.max
 have H0 := Lib.hid h0; have H1 := Lib.hid h1; have HT := Lib.hid ht; have HB0 := Lib.hid b0; have HB1 := Lib.hid b1
 clear h0 h1 ht b0 b1
 obtain ⟨rx, hrx⟩ : ∃ r, r = metaF (hs, ss, nx, bo) := ⟨_, rfl⟩
 rw [← hrx]
 have HR := Lib.hid hrx; clear hrx
 rw [FieldR_def]
 by_cases h6 : n1 ≤ 6
 rotate_left
 · have HX : Hid (rx = ([], false)) := Lib.hid (by rw [HR.out]; exact metaF_size (fun c => h6 (by have := c.1; have := HL1.out; simp only at *; omega)))
   have d6 : (6 : Int) < (n1 : Int) := by omega
   go_enter Tryz.func18, Tryz.ntmps18
   go_wp2_with fail
   exact bodyPost_ret (v := .tuple #[.string ⟨#[]⟩, .bool false]) (by simp [results, Tryz.results18, go_sem]) rfl ⟨by rw [HX.out]; rfl, bel1⟩
 have d6 : ¬ (6 : Int) < (n1 : Int) := by omega
 go_enter Tryz.func18, Tryz.ntmps18
 go_wp2_with fail
 obtain ⟨w1, hw1⟩ : ∃ x, x = w.alloc (.cells #[.slice A0 n0 c0, .slice A1 n1 c1, .int .i64 nx, .bool bo] 25) := ⟨_, rfl⟩
 have hb1 : Below w.heap.size w w1 := by rw [hw1]; exact bel1
 have hg1 : w1.heap[w.heap.size]? = some (.cells #[.slice A0 n0 c0, .slice A1 n1 c1, .int .i64 nx, .bool bo] 25 (0, 0)) := by rw [hw1]; exact heap_alloc_new _ _
 rw [← hw1]
 have c1_0 := celR 0 hg1; have c1_1 := celR 1 hg1; have c1_2 := celR 2 hg1; have c1_3 := celR 3 hg1
 have l1 := (Array.getElem?_eq_some_iff.1 hg1).1
 clear hw1 hg1
 have HBX := Lib.hid hb1
 have HT1 := Lib.hid (HT.out.below hb1)
 clear hb1 HT
 refine (within_any _ _ _ _).mono ?_
 obtain ⟨bi, hbi⟩ : ∃ b, b = inB (n0 : Int) 1 3 := ⟨_, rfl⟩
 rw [← hbi]
 have HBI := Lib.hid hbi; clear hbi
 rintro e w' ⟨rfl, rfl⟩
 cases bi
 · have HX : Hid (rx = ([], false)) := Lib.hid (by rw [HR.out]; exact metaF_size (fun c => by
    have h := HBI.out; unfold inB at h; have h1 := c.2.1; have h2 := c.2.2; have := HL0.out; simp only at h1 h2; simp at h; omega))
   go_wp2_with fail
   exact bodyPost_ret (v := .tuple #[.string ⟨#[]⟩, .bool false]) (by simp [results, Tryz.results18, go_sem]) rfl ⟨by rw [HX.out]; rfl, HBX.out⟩
 have HSZ : Hid (ss.length ≤ 6 ∧ 1 ≤ hs.length ∧ hs.length ≤ 3) := Lib.hid (by
  have h := HBI.out; unfold inB at h; simp at h; have := HL0.out; have := HL1.out; omega)
 have h3 : n0 ≤ 3 := by have := HSZ.out; have := HL0.out; omega
 clear HBI d6
 cases bo
 case false =>
  go_wp2_with fail
  apply wp_region_rg (by kernel_rfl) rl0MetaPut rl1MetaPut [[], [0], [1], [], [], [4], [5], [6], [2, 3, 7], [8]] [StP.is _, StP.is _, StP.is _, StP.is _, StP.is _, StP.is _, StP.is _, StP.is _, strsP (w1.heap.size) ([[98, 97, 121], numS nx, [48], numS (n1 : Nat)]), strsP (w1.heap.size) ([[98, 97, 121], numS nx, [48], numS (n1 : Nat)])] (by kernel_rfl)
  case hobs =>
   refine ⟨fun y w' hS hF K hK => ?_, ?_⟩
   · skip
     simp only [fillL, rl0MetaPut, rl1MetaPut, cond_true, cond_false, zG0, zG1, StP.is, Act.put, zS2, zS0, zS1, Nat.reduceAdd] at hK ⊢
     refine rg_yes (by kernel_rfl) ?_
     clear hF
     go_simp
     exact hK _ _ (Ext.refl _) rfl
   refine ⟨fun y w' hS hF K hK => ?_, ?_⟩
   · skip
     have e27 : y 27 = _ := hF.1
     simp only [fillL, rl0MetaPut, rl1MetaPut, cond_true, cond_false, zG0, zG1, StP.is, Act.put, zS2, zS0, zS1, Nat.reduceAdd, e27] at hK ⊢
     refine rg_yes (by kernel_rfl) ?_
     have qx0_ := (Below.cell hS l1).trans c1_0
     have qx1_ := (Below.cell hS l1).trans c1_1
     have qx2_ := (Below.cell hS l1).trans c1_2
     have qx3_ := (Below.cell hS l1).trans c1_3
     clear e27
     clear hF
     go_simp
     exact hK _ _ (Ext.refl _) rfl
   refine ⟨fun y w' hS hF K hK => ?_, ?_⟩
   · skip
     have e28 : y 28 = _ := hF.1
     simp only [fillL, rl0MetaPut, rl1MetaPut, cond_true, cond_false, zG0, zG1, StP.is, Act.put, zS2, zS0, zS1, Nat.reduceAdd, e28] at hK ⊢
     refine rg_yes (by kernel_rfl) ?_
     clear e28
     clear hF
     go_simp
     go_at_call 42
     refine (numPut_any nx w' (HT1.out.below hS)).mono ?_
     rintro e w'' ⟨rfl, hb9⟩
     exact hK _ _ hb9 rfl
   refine ⟨fun y w' hS hF K hK => ?_, ?_⟩
   · skip
     simp only [fillL, rl0MetaPut, rl1MetaPut, cond_true, cond_false, zG0, zG1, StP.is, Act.put, zS2, zS0, zS1, Nat.reduceAdd] at hK ⊢
     refine rg_yes (by kernel_rfl) ?_
     clear hF
     go_simp
     exact hK _ _ (Ext.refl _) rfl
   refine ⟨fun y w' hS hF K hK => ?_, ?_⟩
   · skip
     simp only [fillL, rl0MetaPut, rl1MetaPut, cond_true, cond_false, zG0, zG1, StP.is, Act.put, zS2, zS0, zS1, Nat.reduceAdd] at hK ⊢
     refine rg_yes (by kernel_rfl) ?_
     clear hF
     go_simp
     exact hK _ _ (Ext.refl _) rfl
   refine ⟨fun y w' hS hF K hK => ?_, ?_⟩
   · skip
     have e31 : y 31 = _ := hF.1
     simp only [fillL, rl0MetaPut, rl1MetaPut, cond_true, cond_false, zG0, zG1, StP.is, Act.put, zS2, zS0, zS1, Nat.reduceAdd, e31] at hK ⊢
     refine rg_yes (by kernel_rfl) ?_
     have qx0_ := (Below.cell hS l1).trans c1_0
     have qx1_ := (Below.cell hS l1).trans c1_1
     have qx2_ := (Below.cell hS l1).trans c1_2
     have qx3_ := (Below.cell hS l1).trans c1_3
     clear e31
     clear hF
     go_simp
     exact hK _ _ (Ext.refl _) rfl
   refine ⟨fun y w' hS hF K hK => ?_, ?_⟩
   · skip
     have e32 : y 32 = _ := hF.1
     simp only [fillL, rl0MetaPut, rl1MetaPut, cond_true, cond_false, zG0, zG1, StP.is, Act.put, zS2, zS0, zS1, Nat.reduceAdd, e32] at hK ⊢
     refine rg_yes (by kernel_rfl) ?_
     have qx0_ := (Below.cell hS l1).trans c1_0
     have qx1_ := (Below.cell hS l1).trans c1_1
     have qx2_ := (Below.cell hS l1).trans c1_2
     have qx3_ := (Below.cell hS l1).trans c1_3
     clear e32
     clear hF
     go_simp
     exact hK _ _ (Ext.refl _) rfl
   refine ⟨fun y w' hS hF K hK => ?_, ?_⟩
   · skip
     have e33 : y 33 = _ := hF.1
     simp only [fillL, rl0MetaPut, rl1MetaPut, cond_true, cond_false, zG0, zG1, StP.is, Act.put, zS2, zS0, zS1, Nat.reduceAdd, e33] at hK ⊢
     refine rg_yes (by kernel_rfl) ?_
     clear e33
     clear hF
     go_simp
     go_at_call 42
     refine (numPut_any (n1 : Nat) w' (HT1.out.below hS)).mono ?_
     rintro e w'' ⟨rfl, hb9⟩
     exact hK _ _ hb9 rfl
   refine ⟨fun y w' hS hF K hK => ?_, ?_⟩
   · skip
     have e29 : y 29 = _ := hF.1
     have e30 : y 30 = _ := hF.2.1
     have e34 : y 34 = _ := hF.2.2.1
     simp only [fillL, rl0MetaPut, rl1MetaPut, cond_true, cond_false, zG0, zG1, StP.is, Act.put, zS2, zS0, zS1, Nat.reduceAdd, e29, e30, e34] at hK ⊢
     refine rg_yes (by kernel_rfl) ?_
     clear e29 e30 e34
     clear hF
     go_simp
     exact hK _ _ (Ext.alloc _ _) ⟨_, _, _, rfl, rfl, StrsIn.lit (fs := [[98, 97, 121], numS nx, [48], numS (n1 : Nat)]) (Below.size hS) (heap_alloc_new _ _) rfl (by unfold maxLen; simp)⟩
   refine ⟨fun y w' hS hF K hK => ?_, ?_⟩
   · skip
     obtain ⟨Ae35, ce35, ne35, e35, hxe35, hIe35⟩ := hF.1
     have hne35 := Lib.hid hxe35; clear hxe35
     simp only [fillL, rl0MetaPut, rl1MetaPut, cond_true, cond_false, zG0, zG1, StP.is, Act.put, zS2, zS0, zS1, Nat.reduceAdd, e35] at hK ⊢
     refine rg_yes (by kernel_rfl) ?_
     clear e35
     clear hF
     go_simp
     exact hK _ _ (Ext.refl _) ⟨_, _, _, rfl, hne35.out, hIe35⟩
   trivial
  intro y w9 hS9 hF
  obtain ⟨Ae5, ce5, ne5, e5, hxe5, hIe5⟩ := hF.2.2.2.2.2.2.2.2.2.1
  have hne5 := Lib.hid hxe5; clear hxe5
  clear hF
  simp only [fillL, rl0MetaPut, rl1MetaPut, cond_true, cond_false, Nat.reduceAdd, e5]
  clear e5
  have HBW : Hid (Below w1.heap.size w1 w9) := Lib.hid hS9
  have HI := Lib.hid hIe5
  have HN : Hid (ne5 = ([[98, 97, 121], numS nx, [48], numS (n1 : Nat)]).length) := hne5
  have hn4 : ne5 = 4 := by rw [HN.out]; rfl
  have c9_0 := (HBW.out.cell l1).trans c1_0; have c9_1 := (HBW.out.cell l1).trans c1_1
  clear hIe5 hne5 hS9
  go_wp2_with fail
  go_loopw [5, 39] (fun t i wr => ∃ (k : Nat) (C : Option Addr) (m e : Nat), k ≤ n1 ∧ i = .int .i64 (k : Int) ∧ t = .slice C m e ∧ m ≤ 10 + k ∧ Hid (m = ([[98, 97, 121], numS nx, [48], numS (n1 : Nat)] ++ (ss.take k).map snapT).length) ∧ Hid (∀ j x, j < k → ss[j]? = some x → snapB x = true) ∧ Hid (StrsIn w1.heap.size wr C e ([[98, 97, 121], numS nx, [48], numS (n1 : Nat)] ++ (ss.take k).map snapT)) ∧ Hid (Below w1.heap.size w1 wr)) (fun _ i _ => n1 - (RowKit.intOf i).toNat)
  case atStart => exact ⟨0, _, _, _, Nat.zero_le _, rfl, rfl, by omega, Lib.hid (by simpa using HN.out), Lib.hid (fun j p hj => absurd hj (by omega)), Lib.hid (by simpa using HI.out), HBW⟩
  clear HI HBW HN
  obtain ⟨k, C, m_, e, hk, rfl, rfl, hm_, HN, HP, HI, HBW⟩ := hrel
  by_cases hlt : k < n1
  · obtain ⟨x, hp⟩ : ∃ x, ss[k]? = some x := ⟨ss[k]'(by rw [HL1.out]; exact hlt), List.getElem?_eq_getElem _⟩
    have HBR := Lib.hid (HBX.out.trans (HBW.out.mono HBX.out.size))
    obtain ⟨b_, off, rfl, _, _, bl, hc⟩ := (SliceR.below H1.out HBR.out (SnapR.below HBR.out H1.out.lo_le)).at_ (by omega)
    obtain ⟨cs, hcl, hcc, hr⟩ := hc k x hp
    have HBD := Lib.hid (HB1.out x (List.mem_of_getElem? hp))
    have HX := Lib.hid hp; clear hp hc
    obtain ⟨i, nm, g, v, ⟨⟨a, b, s, m, l⟩, d, kk⟩, ps⟩ := x
    obtain ⟨Ad, nd, cd, rfl, hsz, hd⟩ := hr
    obtain ⟨nm, rfl⟩ : ∃ z, nm = strB z := ⟨nm.data.toList, (strB_data _).symm⟩
    have q0 := hcc 0 _ rfl; have q1 := hcc 1 _ rfl; have q2 := hcc 2 _ rfl; have q3 := hcc 3 _ rfl; have q4 := hcc 4 _ rfl; have q5 := hcc 5 _ rfl; have q6 := hcc 6 _ rfl; have q7 := hcc 7 _ rfl; have q8 := hcc 8 _ rfl; have q9 := hcc 9 _ rfl; have q10 := hcc 10 _ rfl; have q11 := hcc 11 _ rfl
    simp only [Nat.add_zero] at q0
    have HD := Lib.hid hd
    clear hcc hcl hsz hd
    have k0 : (0 : Int) ≤ (k : Int) := by omega
    have k1 : (k : Int) < (n1 : Int) := by omega
    obtain ⟨w2, hw2⟩ : ∃ W, W = wr.alloc (.cells #[.int .i64 i, .string (strB nm), .int .i64 g, .int .i64 v, .int .i64 a, .int .i64 b, .int .i64 s, .int .i64 m, .int .i64 l, .int .i64 d, .int .i64 kk, .slice Ad nd cd] 44) := ⟨_, rfl⟩
    have HY2 : Hid (Below wr.heap.size wr w2) := Lib.hid (by rw [hw2]; exact bel1)
    have hbx : Hid (w2.heap[wr.heap.size]? = some (.cells #[.int .i64 i, .string (strB nm), .int .i64 g, .int .i64 v, .int .i64 a, .int .i64 b, .int .i64 s, .int .i64 m, .int .i64 l, .int .i64 d, .int .i64 kk, .slice Ad nd cd] 44 (0, 0))) := Lib.hid (by rw [hw2]; exact heap_alloc_new _ _)
    go_wp2_with fail
    rw [← hw2]
    clear hw2 q0 q1 q2 q3 q4 q5 q6 q7 q8 q9 q10 q11
    have x0 := celR 0 hbx.out; have x1 := celR 1 hbx.out; have x2 := celR 2 hbx.out; have x3 := celR 3 hbx.out; have x4 := celR 4 hbx.out; have x5 := celR 5 hbx.out; have x6 := celR 6 hbx.out; have x7 := celR 7 hbx.out; have x8 := celR 8 hbx.out; have x9 := celR 9 hbx.out; have x10 := celR 10 hbx.out; have x11 := celR 11 hbx.out
    have l2x := (Array.getElem?_eq_some_iff.1 hbx.out).1
    go_wp2_with fail
    have HB2 := Lib.hid (HBW.out.trans (HY2.out.mono HBW.out.size))
    refine (fieldSnap_any i nm g v a b s m l d kk Ad nd cd ps w2 lo hi (HT1.out.below HB2.out) (SliceR.below HD.out HY2.out (PtrR.below HY2.out HD.out.lo_le)) (by have h := HBD.out.2; have h2 := HD.out.len; (try simp only at h); omega) (by have h := HBD.out.1; exact h)).mono ?_
    obtain ⟨tx, htx⟩ : ∃ X, X = snapT (i, strB nm, g, v, ((a, b, s, m, l), d, kk), ps) := ⟨_, rfl⟩
    obtain ⟨okx, hokx⟩ : ∃ X, X = snapB (i, strB nm, g, v, ((a, b, s, m, l), d, kk), ps) := ⟨_, rfl⟩
    rw [FieldR_def, ← htx, ← hokx]
    rintro e_ w3 ⟨rfl, hb3⟩
    have HB3 := Lib.hid (HB2.out.trans (hb3.mono HB2.out.size))
    have HI3 := Lib.hid ((HI.out.below HY2.out).below hb3)
    have HST := Lib.hid (take_snoc snapT ([[98, 97, 121], numS nx, [48], numS (n1 : Nat)]) HX.out)
    rw [← htx] at HST
    have HOK := Lib.hid hokx; clear hokx htx hb3 x0 x1 x2 x3 x4 x5 x6 x7 x8 x9 x10 x11 l2x HY2 hbx HI HD
    cases okx
    · have HZ : Hid (rx = ([], false)) := Lib.hid (by rw [HR.out]; exact metaF_snap (k := k) HX.out HOK.out.symm)
      go_wp2_with fail
      exact bodyPost_ret (v := .tuple #[.string ⟨#[]⟩, .bool false]) (by simp [results, Tryz.results18, go_sem]) rfl ⟨by rw [HZ.out]; rfl, HBX.out.trans (HB3.out.mono HBX.out.size)⟩
    have HPN := Lib.hid (upto_stepD HP.out HX.out HOK.out.symm)
    have hB3 : w1.heap.size ≤ w3.heap.size := HB3.out.size
    obtain ⟨gs, hgs⟩ : ∃ z, z = [[98, 97, 121], numS nx, [48], numS (n1 : Nat)] ++ (ss.take k).map snapT := ⟨_, rfl⟩
    rw [← hgs] at HI3 HN HST
    have hgl := HN.out
    obtain ⟨S, hOS, hSB⟩ := HI3.out
    rw [← hgl] at hOS
    have HOA := Lib.hid (hOS.below (bel1 (o := .cells #[.string (strB tx)] 9)))
    have HLIT := Lib.hid (fun (W : World) => RowAt.lit (w := W) (e := 9) (cur := #[.string (strB tx)]) (m := 1) rfl)
    have HONE : Hid (∀ u ∈ [tx].map strV, u.oneCell' = true) := Lib.hid (strs_one _)
    have HSB := Lib.hid hSB; have HGL := Lib.hid hgl; have HGS := Lib.hid hgs
    clear hOS hSB HI3 hgl hgs
    go_wp2_with (at_builtin; go_must (refine wpList_append_row rfl _ _ 31 rfl 9 i0 (.string ByteArray.empty) 1 16 Tryz.underlying31 hi0 hz0 hz1 hz2 rfl (by decide) S C _ m_ e 1 _ (gs.map strV) ([tx].map strV) rfl rfl HOA.out (HLIT.out _) HONE.out (by unfold maxLen; omega) (by omega) ?_))
    intro A' c' S' w5 hO' hS' hC'
    obtain ⟨hI5, hb5⟩ := app_strs (B := w1.heap.size) HSB.out (w1 := w3.alloc (.cells #[.string (strB tx)] 9)) (fs := gs) (gs := [tx]) (by simp; omega) (by rw [List.length_append, ← HGL.out]; rfl) hO' (fun g hg => (hS' g hg).imp id (fun h => by simpa using h)) hC'
    have HB5 := Lib.hid (HB3.out.trans (((Below.refl _ _).alloc hB3 _).trans hb5))
    have HI5 := Lib.hid (HST.out ▸ hI5)
    have HN5 : Hid (m_ + 1 = ([[98, 97, 121], numS nx, [48], numS (n1 : Nat)] ++ (ss.take (k + 1)).map snapT).length) := Lib.hid (by rw [HST.out, List.length_append, ← HGL.out]; rfl)
    clear hO' hS' hC' HOA HLIT HONE HSB hI5 hb5
    go_wp2_with fail
    go_roundw
    case rel => exact ⟨k + 1, A', m_ + 1, c', by omega, by go_num, rfl, by omega, HN5, HPN, HI5, HB5⟩
    simp [RowKit.intOf]; omega
  obtain rfl : n1 = k := by omega
  have HALL1 := Lib.hid (all_uptoD HL1.out HP.out)
  have HTK : Hid ([[98, 97, 121], numS nx, [48], numS (n1 : Nat)] ++ (ss.take n1).map snapT = [[98, 97, 121], numS nx, [48], numS (n1 : Nat)] ++ ss.map snapT) := Lib.hid (by rw [List.take_of_length_le (by rw [HL1.out]; exact Nat.le_refl _)])
  have HI := Lib.hid (HTK.out ▸ HI.out)
  have HN := Lib.hid (HTK.out ▸ HN.out)
  clear HTK HP
  have c9_0 := (HBW.out.cell l1).trans c1_0; have c9_1 := (HBW.out.cell l1).trans c1_1
  go_wp2_with fail
  go_loopw [5, 58] (fun t i wr => ∃ (k : Nat) (C : Option Addr) (m e : Nat), k ≤ n0 ∧ i = .int .i64 (k : Int) ∧ t = .slice C m e ∧ m ≤ 20 + k ∧ Hid (m = ([[98, 97, 121], numS nx, [48], numS (n1 : Nat)] ++ ss.map snapT ++ (hs.take k).map headT).length) ∧ Hid (∀ j x, j < k → hs[j]? = some x → headB x = true) ∧ Hid (StrsIn w1.heap.size wr C e ([[98, 97, 121], numS nx, [48], numS (n1 : Nat)] ++ ss.map snapT ++ (hs.take k).map headT)) ∧ Hid (Below w1.heap.size w1 wr)) (fun _ i _ => n0 - (RowKit.intOf i).toNat)
  case atStart => exact ⟨0, _, _, _, Nat.zero_le _, rfl, rfl, by omega, Lib.hid (by simpa using HN.out), Lib.hid (fun j p hj => absurd hj (by omega)), Lib.hid (by simpa using HI.out), HBW⟩
  clear HI HBW HN
  obtain ⟨k, C, m_, e, hk, rfl, rfl, hm_, HN, HP, HI, HBW⟩ := hrel
  by_cases hlt : k < n0
  · obtain ⟨x, hp⟩ : ∃ x, hs[k]? = some x := ⟨hs[k]'(by rw [HL0.out]; exact hlt), List.getElem?_eq_getElem _⟩
    have HBR := Lib.hid (HBX.out.trans (HBW.out.mono HBX.out.size))
    obtain ⟨b_, off, rfl, _, _, bl, hc⟩ := (SliceR.below H0.out HBR.out (HeadR.below HBR.out H0.out.lo_le)).at_ (by omega)
    obtain ⟨cs, hcl, hcc, hr⟩ := hc k x hp
    have HBD := Lib.hid (HB0.out x (List.mem_of_getElem? hp))
    have HX := Lib.hid hp; clear hp hc
    obtain ⟨nm, g, ⟨⟨a, b, s, m, l⟩, d, kk⟩, ps, u⟩ := x
    obtain ⟨Ad, nd, cd, rfl, hsz, hd⟩ := hr
    obtain ⟨nm, rfl⟩ : ∃ z, nm = strB z := ⟨nm.data.toList, (strB_data _).symm⟩
    have q0 := hcc 0 _ rfl; have q1 := hcc 1 _ rfl; have q2 := hcc 2 _ rfl; have q3 := hcc 3 _ rfl; have q4 := hcc 4 _ rfl; have q5 := hcc 5 _ rfl; have q6 := hcc 6 _ rfl; have q7 := hcc 7 _ rfl; have q8 := hcc 8 _ rfl; have q9 := hcc 9 _ rfl; have q10 := hcc 10 _ rfl
    simp only [Nat.add_zero] at q0
    have HD := Lib.hid hd
    clear hcc hcl hsz hd
    have k0 : (0 : Int) ≤ (k : Int) := by omega
    have k1 : (k : Int) < (n0 : Int) := by omega
    obtain ⟨w2, hw2⟩ : ∃ W, W = wr.alloc (.cells #[.string (strB nm), .int .i64 g, .int .i64 a, .int .i64 b, .int .i64 s, .int .i64 m, .int .i64 l, .int .i64 d, .int .i64 kk, .slice Ad nd cd, .int .i64 u] 46) := ⟨_, rfl⟩
    have HY2 : Hid (Below wr.heap.size wr w2) := Lib.hid (by rw [hw2]; exact bel1)
    have hbx : Hid (w2.heap[wr.heap.size]? = some (.cells #[.string (strB nm), .int .i64 g, .int .i64 a, .int .i64 b, .int .i64 s, .int .i64 m, .int .i64 l, .int .i64 d, .int .i64 kk, .slice Ad nd cd, .int .i64 u] 46 (0, 0))) := Lib.hid (by rw [hw2]; exact heap_alloc_new _ _)
    go_wp2_with fail
    rw [← hw2]
    clear hw2 q0 q1 q2 q3 q4 q5 q6 q7 q8 q9 q10
    have x0 := celR 0 hbx.out; have x1 := celR 1 hbx.out; have x2 := celR 2 hbx.out; have x3 := celR 3 hbx.out; have x4 := celR 4 hbx.out; have x5 := celR 5 hbx.out; have x6 := celR 6 hbx.out; have x7 := celR 7 hbx.out; have x8 := celR 8 hbx.out; have x9 := celR 9 hbx.out; have x10 := celR 10 hbx.out
    have l2x := (Array.getElem?_eq_some_iff.1 hbx.out).1
    go_wp2_with fail
    have HB2 := Lib.hid (HBW.out.trans (HY2.out.mono HBW.out.size))
    refine (fieldHead_any nm g a b s m l d kk u Ad nd cd ps w2 lo hi (HT1.out.below HB2.out) (SliceR.below HD.out HY2.out (PtrR.below HY2.out HD.out.lo_le)) (by have h := HBD.out.2; have h2 := HD.out.len; (try simp only at h); omega) (by have h := HBD.out.1; exact h)).mono ?_
    obtain ⟨tx, htx⟩ : ∃ X, X = headT (strB nm, g, ((a, b, s, m, l), d, kk), ps, u) := ⟨_, rfl⟩
    obtain ⟨okx, hokx⟩ : ∃ X, X = headB (strB nm, g, ((a, b, s, m, l), d, kk), ps, u) := ⟨_, rfl⟩
    rw [FieldR_def, ← htx, ← hokx]
    rintro e_ w3 ⟨rfl, hb3⟩
    have HB3 := Lib.hid (HB2.out.trans (hb3.mono HB2.out.size))
    have HI3 := Lib.hid ((HI.out.below HY2.out).below hb3)
    have HST := Lib.hid (take_snoc headT ([[98, 97, 121], numS nx, [48], numS (n1 : Nat)] ++ ss.map snapT) HX.out)
    rw [← htx] at HST
    have HOK := Lib.hid hokx; clear hokx htx hb3 x0 x1 x2 x3 x4 x5 x6 x7 x8 x9 x10 l2x HY2 hbx HI HD
    cases okx
    · have HZ : Hid (rx = ([], false)) := Lib.hid (by rw [HR.out]; exact metaF_head (k := k) HX.out HOK.out.symm)
      go_wp2_with fail
      exact bodyPost_ret (v := .tuple #[.string ⟨#[]⟩, .bool false]) (by simp [results, Tryz.results18, go_sem]) rfl ⟨by rw [HZ.out]; rfl, HBX.out.trans (HB3.out.mono HBX.out.size)⟩
    have HPN := Lib.hid (upto_stepD HP.out HX.out HOK.out.symm)
    have hB3 : w1.heap.size ≤ w3.heap.size := HB3.out.size
    obtain ⟨gs, hgs⟩ : ∃ z, z = [[98, 97, 121], numS nx, [48], numS (n1 : Nat)] ++ ss.map snapT ++ (hs.take k).map headT := ⟨_, rfl⟩
    rw [← hgs] at HI3 HN HST
    have hgl := HN.out
    obtain ⟨S, hOS, hSB⟩ := HI3.out
    rw [← hgl] at hOS
    have HOA := Lib.hid (hOS.below (bel1 (o := .cells #[.string (strB tx)] 9)))
    have HLIT := Lib.hid (fun (W : World) => RowAt.lit (w := W) (e := 9) (cur := #[.string (strB tx)]) (m := 1) rfl)
    have HONE : Hid (∀ u ∈ [tx].map strV, u.oneCell' = true) := Lib.hid (strs_one _)
    have HSB := Lib.hid hSB; have HGL := Lib.hid hgl; have HGS := Lib.hid hgs
    clear hOS hSB HI3 hgl hgs
    go_wp2_with (at_builtin; go_must (refine wpList_append_row rfl _ _ 31 rfl 9 i0 (.string ByteArray.empty) 1 16 Tryz.underlying31 hi0 hz0 hz1 hz2 rfl (by decide) S C _ m_ e 1 _ (gs.map strV) ([tx].map strV) rfl rfl HOA.out (HLIT.out _) HONE.out (by unfold maxLen; omega) (by omega) ?_))
    intro A' c' S' w5 hO' hS' hC'
    obtain ⟨hI5, hb5⟩ := app_strs (B := w1.heap.size) HSB.out (w1 := w3.alloc (.cells #[.string (strB tx)] 9)) (fs := gs) (gs := [tx]) (by simp; omega) (by rw [List.length_append, ← HGL.out]; rfl) hO' (fun g hg => (hS' g hg).imp id (fun h => by simpa using h)) hC'
    have HB5 := Lib.hid (HB3.out.trans (((Below.refl _ _).alloc hB3 _).trans hb5))
    have HI5 := Lib.hid (HST.out ▸ hI5)
    have HN5 : Hid (m_ + 1 = ([[98, 97, 121], numS nx, [48], numS (n1 : Nat)] ++ ss.map snapT ++ (hs.take (k + 1)).map headT).length) := Lib.hid (by rw [HST.out, List.length_append, ← HGL.out]; rfl)
    clear hO' hS' hC' HOA HLIT HONE HSB hI5 hb5
    go_wp2_with fail
    go_roundw
    case rel => exact ⟨k + 1, A', m_ + 1, c', by omega, by go_num, rfl, by omega, HN5, HPN, HI5, HB5⟩
    simp [RowKit.intOf]; omega
  obtain rfl : n0 = k := by omega
  have HALL := Lib.hid (all_uptoD HL0.out HP.out)
  have HTK : Hid ([[98, 97, 121], numS nx, [48], numS (n1 : Nat)] ++ ss.map snapT ++ (hs.take n0).map headT = [[98, 97, 121], numS nx, [48], numS (n1 : Nat)] ++ ss.map snapT ++ hs.map headT) := Lib.hid (by rw [List.take_of_length_le (by rw [HL0.out]; exact Nat.le_refl _)])
  have HI := Lib.hid (HTK.out ▸ HI.out)
  have HN := Lib.hid (HTK.out ▸ HN.out)
  clear HTK HP
  have HFS : Hid ([[98, 97, 121], numS nx, [48], numS (n1 : Nat)] ++ ss.map snapT ++ hs.map headT = metaL (hs, ss, nx, false)) := Lib.hid (by unfold metaL metaH; simp only [HL1.out]; rfl)
  have HRY : Hid (rx = recF (metaL (hs, ss, nx, false)) (-1)) := Lib.hid (by rw [HR.out]; exact metaF_yes HSZ.out HALL1.out HALL.out)
  have HLE := Lib.hid (metaL_le (hs, ss, nx, false))
  rw [HFS.out] at HI HN
  generalize metaL (hs, ss, nx, false) = fs at *
  have P5 := record_any C e fs (-1) wr (HT1.out.below HBW.out) HI.out.row HLE.out (by have := HN.out; omega)
  rw [← HN.out, RecR_def] at P5
  have HP5 := Lib.hid P5; clear P5
  go_wp2_with fail
  refine HP5.out.mono ?_
  rw [← HRY.out]
  rintro e_ w6 ⟨rfl, hb6⟩
  have HB6 := Lib.hid (HBW.out.trans (hb6.mono HBW.out.size))
  clear hb6 HP5
  go_wp2_with fail
  exact bodyPost_ret (v := .tuple #[.string (strB rx.1), .bool rx.2]) (by simp [results, Tryz.results18, go_sem]) rfl ⟨rfl, HBX.out.trans (HB6.out.mono HBX.out.size)⟩
 go_wp2_with fail
 apply wp_region_rg (by kernel_rfl) rl0MetaPut rl1MetaPut [[], [0], [1], [], [], [4], [5], [6], [2, 3, 7], [8]] [StP.is _, StP.is _, StP.is _, StP.is _, StP.is _, StP.is _, StP.is _, StP.is _, strsP (w1.heap.size) ([[98, 97, 121], numS nx, [49], numS (n1 : Nat)]), strsP (w1.heap.size) ([[98, 97, 121], numS nx, [49], numS (n1 : Nat)])] (by kernel_rfl)
 case hobs =>
  refine ⟨fun y w' hS hF K hK => ?_, ?_⟩
  · skip
    simp only [fillL, rl0MetaPut, rl1MetaPut, cond_true, cond_false, zG0, zG1, StP.is, Act.put, zS2, zS0, zS1, Nat.reduceAdd] at hK ⊢
    refine rg_yes (by kernel_rfl) ?_
    clear hF
    go_simp
    exact hK _ _ (Ext.refl _) rfl
  refine ⟨fun y w' hS hF K hK => ?_, ?_⟩
  · skip
    have e27 : y 27 = _ := hF.1
    simp only [fillL, rl0MetaPut, rl1MetaPut, cond_true, cond_false, zG0, zG1, StP.is, Act.put, zS2, zS0, zS1, Nat.reduceAdd, e27] at hK ⊢
    refine rg_yes (by kernel_rfl) ?_
    have qx0_ := (Below.cell hS l1).trans c1_0
    have qx1_ := (Below.cell hS l1).trans c1_1
    have qx2_ := (Below.cell hS l1).trans c1_2
    have qx3_ := (Below.cell hS l1).trans c1_3
    clear e27
    clear hF
    go_simp
    exact hK _ _ (Ext.refl _) rfl
  refine ⟨fun y w' hS hF K hK => ?_, ?_⟩
  · skip
    have e28 : y 28 = _ := hF.1
    simp only [fillL, rl0MetaPut, rl1MetaPut, cond_true, cond_false, zG0, zG1, StP.is, Act.put, zS2, zS0, zS1, Nat.reduceAdd, e28] at hK ⊢
    refine rg_yes (by kernel_rfl) ?_
    clear e28
    clear hF
    go_simp
    go_at_call 42
    refine (numPut_any nx w' (HT1.out.below hS)).mono ?_
    rintro e w'' ⟨rfl, hb9⟩
    exact hK _ _ hb9 rfl
  refine ⟨fun y w' hS hF K hK => ?_, ?_⟩
  · skip
    simp only [fillL, rl0MetaPut, rl1MetaPut, cond_true, cond_false, zG0, zG1, StP.is, Act.put, zS2, zS0, zS1, Nat.reduceAdd] at hK ⊢
    refine rg_yes (by kernel_rfl) ?_
    clear hF
    go_simp
    exact hK _ _ (Ext.refl _) rfl
  refine ⟨fun y w' hS hF K hK => ?_, ?_⟩
  · skip
    simp only [fillL, rl0MetaPut, rl1MetaPut, cond_true, cond_false, zG0, zG1, StP.is, Act.put, zS2, zS0, zS1, Nat.reduceAdd] at hK ⊢
    refine rg_yes (by kernel_rfl) ?_
    clear hF
    go_simp
    exact hK _ _ (Ext.refl _) rfl
  refine ⟨fun y w' hS hF K hK => ?_, ?_⟩
  · skip
    have e31 : y 31 = _ := hF.1
    simp only [fillL, rl0MetaPut, rl1MetaPut, cond_true, cond_false, zG0, zG1, StP.is, Act.put, zS2, zS0, zS1, Nat.reduceAdd, e31] at hK ⊢
    refine rg_yes (by kernel_rfl) ?_
    have qx0_ := (Below.cell hS l1).trans c1_0
    have qx1_ := (Below.cell hS l1).trans c1_1
    have qx2_ := (Below.cell hS l1).trans c1_2
    have qx3_ := (Below.cell hS l1).trans c1_3
    clear e31
    clear hF
    go_simp
    exact hK _ _ (Ext.refl _) rfl
  refine ⟨fun y w' hS hF K hK => ?_, ?_⟩
  · skip
    have e32 : y 32 = _ := hF.1
    simp only [fillL, rl0MetaPut, rl1MetaPut, cond_true, cond_false, zG0, zG1, StP.is, Act.put, zS2, zS0, zS1, Nat.reduceAdd, e32] at hK ⊢
    refine rg_yes (by kernel_rfl) ?_
    have qx0_ := (Below.cell hS l1).trans c1_0
    have qx1_ := (Below.cell hS l1).trans c1_1
    have qx2_ := (Below.cell hS l1).trans c1_2
    have qx3_ := (Below.cell hS l1).trans c1_3
    clear e32
    clear hF
    go_simp
    exact hK _ _ (Ext.refl _) rfl
  refine ⟨fun y w' hS hF K hK => ?_, ?_⟩
  · skip
    have e33 : y 33 = _ := hF.1
    simp only [fillL, rl0MetaPut, rl1MetaPut, cond_true, cond_false, zG0, zG1, StP.is, Act.put, zS2, zS0, zS1, Nat.reduceAdd, e33] at hK ⊢
    refine rg_yes (by kernel_rfl) ?_
    clear e33
    clear hF
    go_simp
    go_at_call 42
    refine (numPut_any (n1 : Nat) w' (HT1.out.below hS)).mono ?_
    rintro e w'' ⟨rfl, hb9⟩
    exact hK _ _ hb9 rfl
  refine ⟨fun y w' hS hF K hK => ?_, ?_⟩
  · skip
    have e29 : y 29 = _ := hF.1
    have e30 : y 30 = _ := hF.2.1
    have e34 : y 34 = _ := hF.2.2.1
    simp only [fillL, rl0MetaPut, rl1MetaPut, cond_true, cond_false, zG0, zG1, StP.is, Act.put, zS2, zS0, zS1, Nat.reduceAdd, e29, e30, e34] at hK ⊢
    refine rg_yes (by kernel_rfl) ?_
    clear e29 e30 e34
    clear hF
    go_simp
    exact hK _ _ (Ext.alloc _ _) ⟨_, _, _, rfl, rfl, StrsIn.lit (fs := [[98, 97, 121], numS nx, [49], numS (n1 : Nat)]) (Below.size hS) (heap_alloc_new _ _) rfl (by unfold maxLen; simp)⟩
  refine ⟨fun y w' hS hF K hK => ?_, ?_⟩
  · skip
    obtain ⟨Ae35, ce35, ne35, e35, hxe35, hIe35⟩ := hF.1
    have hne35 := Lib.hid hxe35; clear hxe35
    simp only [fillL, rl0MetaPut, rl1MetaPut, cond_true, cond_false, zG0, zG1, StP.is, Act.put, zS2, zS0, zS1, Nat.reduceAdd, e35] at hK ⊢
    refine rg_yes (by kernel_rfl) ?_
    clear e35
    clear hF
    go_simp
    exact hK _ _ (Ext.refl _) ⟨_, _, _, rfl, hne35.out, hIe35⟩
  trivial
 intro y w9 hS9 hF
 obtain ⟨Ae5, ce5, ne5, e5, hxe5, hIe5⟩ := hF.2.2.2.2.2.2.2.2.2.1
 have hne5 := Lib.hid hxe5; clear hxe5
 clear hF
 simp only [fillL, rl0MetaPut, rl1MetaPut, cond_true, cond_false, Nat.reduceAdd, e5]
 clear e5
 have HBW : Hid (Below w1.heap.size w1 w9) := Lib.hid hS9
 have HI := Lib.hid hIe5
 have HN : Hid (ne5 = ([[98, 97, 121], numS nx, [49], numS (n1 : Nat)]).length) := hne5
 have hn4 : ne5 = 4 := by rw [HN.out]; rfl
 have c9_0 := (HBW.out.cell l1).trans c1_0; have c9_1 := (HBW.out.cell l1).trans c1_1
 clear hIe5 hne5 hS9
 go_wp2_with fail
 go_loopw [5, 39] (fun t i wr => ∃ (k : Nat) (C : Option Addr) (m e : Nat), k ≤ n1 ∧ i = .int .i64 (k : Int) ∧ t = .slice C m e ∧ m ≤ 10 + k ∧ Hid (m = ([[98, 97, 121], numS nx, [49], numS (n1 : Nat)] ++ (ss.take k).map snapT).length) ∧ Hid (∀ j x, j < k → ss[j]? = some x → snapB x = true) ∧ Hid (StrsIn w1.heap.size wr C e ([[98, 97, 121], numS nx, [49], numS (n1 : Nat)] ++ (ss.take k).map snapT)) ∧ Hid (Below w1.heap.size w1 wr)) (fun _ i _ => n1 - (RowKit.intOf i).toNat)
 case atStart => exact ⟨0, _, _, _, Nat.zero_le _, rfl, rfl, by omega, Lib.hid (by simpa using HN.out), Lib.hid (fun j p hj => absurd hj (by omega)), Lib.hid (by simpa using HI.out), HBW⟩
 clear HI HBW HN
 obtain ⟨k, C, m_, e, hk, rfl, rfl, hm_, HN, HP, HI, HBW⟩ := hrel
 by_cases hlt : k < n1
 · obtain ⟨x, hp⟩ : ∃ x, ss[k]? = some x := ⟨ss[k]'(by rw [HL1.out]; exact hlt), List.getElem?_eq_getElem _⟩
   have HBR := Lib.hid (HBX.out.trans (HBW.out.mono HBX.out.size))
   obtain ⟨b_, off, rfl, _, _, bl, hc⟩ := (SliceR.below H1.out HBR.out (SnapR.below HBR.out H1.out.lo_le)).at_ (by omega)
   obtain ⟨cs, hcl, hcc, hr⟩ := hc k x hp
   have HBD := Lib.hid (HB1.out x (List.mem_of_getElem? hp))
   have HX := Lib.hid hp; clear hp hc
   obtain ⟨i, nm, g, v, ⟨⟨a, b, s, m, l⟩, d, kk⟩, ps⟩ := x
   obtain ⟨Ad, nd, cd, rfl, hsz, hd⟩ := hr
   obtain ⟨nm, rfl⟩ : ∃ z, nm = strB z := ⟨nm.data.toList, (strB_data _).symm⟩
   have q0 := hcc 0 _ rfl; have q1 := hcc 1 _ rfl; have q2 := hcc 2 _ rfl; have q3 := hcc 3 _ rfl; have q4 := hcc 4 _ rfl; have q5 := hcc 5 _ rfl; have q6 := hcc 6 _ rfl; have q7 := hcc 7 _ rfl; have q8 := hcc 8 _ rfl; have q9 := hcc 9 _ rfl; have q10 := hcc 10 _ rfl; have q11 := hcc 11 _ rfl
   simp only [Nat.add_zero] at q0
   have HD := Lib.hid hd
   clear hcc hcl hsz hd
   have k0 : (0 : Int) ≤ (k : Int) := by omega
   have k1 : (k : Int) < (n1 : Int) := by omega
   obtain ⟨w2, hw2⟩ : ∃ W, W = wr.alloc (.cells #[.int .i64 i, .string (strB nm), .int .i64 g, .int .i64 v, .int .i64 a, .int .i64 b, .int .i64 s, .int .i64 m, .int .i64 l, .int .i64 d, .int .i64 kk, .slice Ad nd cd] 44) := ⟨_, rfl⟩
   have HY2 : Hid (Below wr.heap.size wr w2) := Lib.hid (by rw [hw2]; exact bel1)
   have hbx : Hid (w2.heap[wr.heap.size]? = some (.cells #[.int .i64 i, .string (strB nm), .int .i64 g, .int .i64 v, .int .i64 a, .int .i64 b, .int .i64 s, .int .i64 m, .int .i64 l, .int .i64 d, .int .i64 kk, .slice Ad nd cd] 44 (0, 0))) := Lib.hid (by rw [hw2]; exact heap_alloc_new _ _)
   go_wp2_with fail
   rw [← hw2]
   clear hw2 q0 q1 q2 q3 q4 q5 q6 q7 q8 q9 q10 q11
   have x0 := celR 0 hbx.out; have x1 := celR 1 hbx.out; have x2 := celR 2 hbx.out; have x3 := celR 3 hbx.out; have x4 := celR 4 hbx.out; have x5 := celR 5 hbx.out; have x6 := celR 6 hbx.out; have x7 := celR 7 hbx.out; have x8 := celR 8 hbx.out; have x9 := celR 9 hbx.out; have x10 := celR 10 hbx.out; have x11 := celR 11 hbx.out
   have l2x := (Array.getElem?_eq_some_iff.1 hbx.out).1
   go_wp2_with fail
   have HB2 := Lib.hid (HBW.out.trans (HY2.out.mono HBW.out.size))
   refine (fieldSnap_any i nm g v a b s m l d kk Ad nd cd ps w2 lo hi (HT1.out.below HB2.out) (SliceR.below HD.out HY2.out (PtrR.below HY2.out HD.out.lo_le)) (by have h := HBD.out.2; have h2 := HD.out.len; (try simp only at h); omega) (by have h := HBD.out.1; exact h)).mono ?_
   obtain ⟨tx, htx⟩ : ∃ X, X = snapT (i, strB nm, g, v, ((a, b, s, m, l), d, kk), ps) := ⟨_, rfl⟩
   obtain ⟨okx, hokx⟩ : ∃ X, X = snapB (i, strB nm, g, v, ((a, b, s, m, l), d, kk), ps) := ⟨_, rfl⟩
   rw [FieldR_def, ← htx, ← hokx]
   rintro e_ w3 ⟨rfl, hb3⟩
   have HB3 := Lib.hid (HB2.out.trans (hb3.mono HB2.out.size))
   have HI3 := Lib.hid ((HI.out.below HY2.out).below hb3)
   have HST := Lib.hid (take_snoc snapT ([[98, 97, 121], numS nx, [49], numS (n1 : Nat)]) HX.out)
   rw [← htx] at HST
   have HOK := Lib.hid hokx; clear hokx htx hb3 x0 x1 x2 x3 x4 x5 x6 x7 x8 x9 x10 x11 l2x HY2 hbx HI HD
   cases okx
   · have HZ : Hid (rx = ([], false)) := Lib.hid (by rw [HR.out]; exact metaF_snap (k := k) HX.out HOK.out.symm)
     go_wp2_with fail
     exact bodyPost_ret (v := .tuple #[.string ⟨#[]⟩, .bool false]) (by simp [results, Tryz.results18, go_sem]) rfl ⟨by rw [HZ.out]; rfl, HBX.out.trans (HB3.out.mono HBX.out.size)⟩
   have HPN := Lib.hid (upto_stepD HP.out HX.out HOK.out.symm)
   have hB3 : w1.heap.size ≤ w3.heap.size := HB3.out.size
   obtain ⟨gs, hgs⟩ : ∃ z, z = [[98, 97, 121], numS nx, [49], numS (n1 : Nat)] ++ (ss.take k).map snapT := ⟨_, rfl⟩
   rw [← hgs] at HI3 HN HST
   have hgl := HN.out
   obtain ⟨S, hOS, hSB⟩ := HI3.out
   rw [← hgl] at hOS
   have HOA := Lib.hid (hOS.below (bel1 (o := .cells #[.string (strB tx)] 9)))
   have HLIT := Lib.hid (fun (W : World) => RowAt.lit (w := W) (e := 9) (cur := #[.string (strB tx)]) (m := 1) rfl)
   have HONE : Hid (∀ u ∈ [tx].map strV, u.oneCell' = true) := Lib.hid (strs_one _)
   have HSB := Lib.hid hSB; have HGL := Lib.hid hgl; have HGS := Lib.hid hgs
   clear hOS hSB HI3 hgl hgs
   go_wp2_with (at_builtin; go_must (refine wpList_append_row rfl _ _ 31 rfl 9 i0 (.string ByteArray.empty) 1 16 Tryz.underlying31 hi0 hz0 hz1 hz2 rfl (by decide) S C _ m_ e 1 _ (gs.map strV) ([tx].map strV) rfl rfl HOA.out (HLIT.out _) HONE.out (by unfold maxLen; omega) (by omega) ?_))
   intro A' c' S' w5 hO' hS' hC'
   obtain ⟨hI5, hb5⟩ := app_strs (B := w1.heap.size) HSB.out (w1 := w3.alloc (.cells #[.string (strB tx)] 9)) (fs := gs) (gs := [tx]) (by simp; omega) (by rw [List.length_append, ← HGL.out]; rfl) hO' (fun g hg => (hS' g hg).imp id (fun h => by simpa using h)) hC'
   have HB5 := Lib.hid (HB3.out.trans (((Below.refl _ _).alloc hB3 _).trans hb5))
   have HI5 := Lib.hid (HST.out ▸ hI5)
   have HN5 : Hid (m_ + 1 = ([[98, 97, 121], numS nx, [49], numS (n1 : Nat)] ++ (ss.take (k + 1)).map snapT).length) := Lib.hid (by rw [HST.out, List.length_append, ← HGL.out]; rfl)
   clear hO' hS' hC' HOA HLIT HONE HSB hI5 hb5
   go_wp2_with fail
   go_roundw
   case rel => exact ⟨k + 1, A', m_ + 1, c', by omega, by go_num, rfl, by omega, HN5, HPN, HI5, HB5⟩
   simp [RowKit.intOf]; omega
 obtain rfl : n1 = k := by omega
 have HALL1 := Lib.hid (all_uptoD HL1.out HP.out)
 have HTK : Hid ([[98, 97, 121], numS nx, [49], numS (n1 : Nat)] ++ (ss.take n1).map snapT = [[98, 97, 121], numS nx, [49], numS (n1 : Nat)] ++ ss.map snapT) := Lib.hid (by rw [List.take_of_length_le (by rw [HL1.out]; exact Nat.le_refl _)])
 have HI := Lib.hid (HTK.out ▸ HI.out)
 have HN := Lib.hid (HTK.out ▸ HN.out)
 clear HTK HP
 have c9_0 := (HBW.out.cell l1).trans c1_0; have c9_1 := (HBW.out.cell l1).trans c1_1
 go_wp2_with fail
 go_loopw [5, 58] (fun t i wr => ∃ (k : Nat) (C : Option Addr) (m e : Nat), k ≤ n0 ∧ i = .int .i64 (k : Int) ∧ t = .slice C m e ∧ m ≤ 20 + k ∧ Hid (m = ([[98, 97, 121], numS nx, [49], numS (n1 : Nat)] ++ ss.map snapT ++ (hs.take k).map headT).length) ∧ Hid (∀ j x, j < k → hs[j]? = some x → headB x = true) ∧ Hid (StrsIn w1.heap.size wr C e ([[98, 97, 121], numS nx, [49], numS (n1 : Nat)] ++ ss.map snapT ++ (hs.take k).map headT)) ∧ Hid (Below w1.heap.size w1 wr)) (fun _ i _ => n0 - (RowKit.intOf i).toNat)
 case atStart => exact ⟨0, _, _, _, Nat.zero_le _, rfl, rfl, by omega, Lib.hid (by simpa using HN.out), Lib.hid (fun j p hj => absurd hj (by omega)), Lib.hid (by simpa using HI.out), HBW⟩
 clear HI HBW HN
 obtain ⟨k, C, m_, e, hk, rfl, rfl, hm_, HN, HP, HI, HBW⟩ := hrel
 by_cases hlt : k < n0
 · obtain ⟨x, hp⟩ : ∃ x, hs[k]? = some x := ⟨hs[k]'(by rw [HL0.out]; exact hlt), List.getElem?_eq_getElem _⟩
   have HBR := Lib.hid (HBX.out.trans (HBW.out.mono HBX.out.size))
   obtain ⟨b_, off, rfl, _, _, bl, hc⟩ := (SliceR.below H0.out HBR.out (HeadR.below HBR.out H0.out.lo_le)).at_ (by omega)
   obtain ⟨cs, hcl, hcc, hr⟩ := hc k x hp
   have HBD := Lib.hid (HB0.out x (List.mem_of_getElem? hp))
   have HX := Lib.hid hp; clear hp hc
   obtain ⟨nm, g, ⟨⟨a, b, s, m, l⟩, d, kk⟩, ps, u⟩ := x
   obtain ⟨Ad, nd, cd, rfl, hsz, hd⟩ := hr
   obtain ⟨nm, rfl⟩ : ∃ z, nm = strB z := ⟨nm.data.toList, (strB_data _).symm⟩
   have q0 := hcc 0 _ rfl; have q1 := hcc 1 _ rfl; have q2 := hcc 2 _ rfl; have q3 := hcc 3 _ rfl; have q4 := hcc 4 _ rfl; have q5 := hcc 5 _ rfl; have q6 := hcc 6 _ rfl; have q7 := hcc 7 _ rfl; have q8 := hcc 8 _ rfl; have q9 := hcc 9 _ rfl; have q10 := hcc 10 _ rfl
   simp only [Nat.add_zero] at q0
   have HD := Lib.hid hd
   clear hcc hcl hsz hd
   have k0 : (0 : Int) ≤ (k : Int) := by omega
   have k1 : (k : Int) < (n0 : Int) := by omega
   obtain ⟨w2, hw2⟩ : ∃ W, W = wr.alloc (.cells #[.string (strB nm), .int .i64 g, .int .i64 a, .int .i64 b, .int .i64 s, .int .i64 m, .int .i64 l, .int .i64 d, .int .i64 kk, .slice Ad nd cd, .int .i64 u] 46) := ⟨_, rfl⟩
   have HY2 : Hid (Below wr.heap.size wr w2) := Lib.hid (by rw [hw2]; exact bel1)
   have hbx : Hid (w2.heap[wr.heap.size]? = some (.cells #[.string (strB nm), .int .i64 g, .int .i64 a, .int .i64 b, .int .i64 s, .int .i64 m, .int .i64 l, .int .i64 d, .int .i64 kk, .slice Ad nd cd, .int .i64 u] 46 (0, 0))) := Lib.hid (by rw [hw2]; exact heap_alloc_new _ _)
   go_wp2_with fail
   rw [← hw2]
   clear hw2 q0 q1 q2 q3 q4 q5 q6 q7 q8 q9 q10
   have x0 := celR 0 hbx.out; have x1 := celR 1 hbx.out; have x2 := celR 2 hbx.out; have x3 := celR 3 hbx.out; have x4 := celR 4 hbx.out; have x5 := celR 5 hbx.out; have x6 := celR 6 hbx.out; have x7 := celR 7 hbx.out; have x8 := celR 8 hbx.out; have x9 := celR 9 hbx.out; have x10 := celR 10 hbx.out
   have l2x := (Array.getElem?_eq_some_iff.1 hbx.out).1
   go_wp2_with fail
   have HB2 := Lib.hid (HBW.out.trans (HY2.out.mono HBW.out.size))
   refine (fieldHead_any nm g a b s m l d kk u Ad nd cd ps w2 lo hi (HT1.out.below HB2.out) (SliceR.below HD.out HY2.out (PtrR.below HY2.out HD.out.lo_le)) (by have h := HBD.out.2; have h2 := HD.out.len; (try simp only at h); omega) (by have h := HBD.out.1; exact h)).mono ?_
   obtain ⟨tx, htx⟩ : ∃ X, X = headT (strB nm, g, ((a, b, s, m, l), d, kk), ps, u) := ⟨_, rfl⟩
   obtain ⟨okx, hokx⟩ : ∃ X, X = headB (strB nm, g, ((a, b, s, m, l), d, kk), ps, u) := ⟨_, rfl⟩
   rw [FieldR_def, ← htx, ← hokx]
   rintro e_ w3 ⟨rfl, hb3⟩
   have HB3 := Lib.hid (HB2.out.trans (hb3.mono HB2.out.size))
   have HI3 := Lib.hid ((HI.out.below HY2.out).below hb3)
   have HST := Lib.hid (take_snoc headT ([[98, 97, 121], numS nx, [49], numS (n1 : Nat)] ++ ss.map snapT) HX.out)
   rw [← htx] at HST
   have HOK := Lib.hid hokx; clear hokx htx hb3 x0 x1 x2 x3 x4 x5 x6 x7 x8 x9 x10 l2x HY2 hbx HI HD
   cases okx
   · have HZ : Hid (rx = ([], false)) := Lib.hid (by rw [HR.out]; exact metaF_head (k := k) HX.out HOK.out.symm)
     go_wp2_with fail
     exact bodyPost_ret (v := .tuple #[.string ⟨#[]⟩, .bool false]) (by simp [results, Tryz.results18, go_sem]) rfl ⟨by rw [HZ.out]; rfl, HBX.out.trans (HB3.out.mono HBX.out.size)⟩
   have HPN := Lib.hid (upto_stepD HP.out HX.out HOK.out.symm)
   have hB3 : w1.heap.size ≤ w3.heap.size := HB3.out.size
   obtain ⟨gs, hgs⟩ : ∃ z, z = [[98, 97, 121], numS nx, [49], numS (n1 : Nat)] ++ ss.map snapT ++ (hs.take k).map headT := ⟨_, rfl⟩
   rw [← hgs] at HI3 HN HST
   have hgl := HN.out
   obtain ⟨S, hOS, hSB⟩ := HI3.out
   rw [← hgl] at hOS
   have HOA := Lib.hid (hOS.below (bel1 (o := .cells #[.string (strB tx)] 9)))
   have HLIT := Lib.hid (fun (W : World) => RowAt.lit (w := W) (e := 9) (cur := #[.string (strB tx)]) (m := 1) rfl)
   have HONE : Hid (∀ u ∈ [tx].map strV, u.oneCell' = true) := Lib.hid (strs_one _)
   have HSB := Lib.hid hSB; have HGL := Lib.hid hgl; have HGS := Lib.hid hgs
   clear hOS hSB HI3 hgl hgs
   go_wp2_with (at_builtin; go_must (refine wpList_append_row rfl _ _ 31 rfl 9 i0 (.string ByteArray.empty) 1 16 Tryz.underlying31 hi0 hz0 hz1 hz2 rfl (by decide) S C _ m_ e 1 _ (gs.map strV) ([tx].map strV) rfl rfl HOA.out (HLIT.out _) HONE.out (by unfold maxLen; omega) (by omega) ?_))
   intro A' c' S' w5 hO' hS' hC'
   obtain ⟨hI5, hb5⟩ := app_strs (B := w1.heap.size) HSB.out (w1 := w3.alloc (.cells #[.string (strB tx)] 9)) (fs := gs) (gs := [tx]) (by simp; omega) (by rw [List.length_append, ← HGL.out]; rfl) hO' (fun g hg => (hS' g hg).imp id (fun h => by simpa using h)) hC'
   have HB5 := Lib.hid (HB3.out.trans (((Below.refl _ _).alloc hB3 _).trans hb5))
   have HI5 := Lib.hid (HST.out ▸ hI5)
   have HN5 : Hid (m_ + 1 = ([[98, 97, 121], numS nx, [49], numS (n1 : Nat)] ++ ss.map snapT ++ (hs.take (k + 1)).map headT).length) := Lib.hid (by rw [HST.out, List.length_append, ← HGL.out]; rfl)
   clear hO' hS' hC' HOA HLIT HONE HSB hI5 hb5
   go_wp2_with fail
   go_roundw
   case rel => exact ⟨k + 1, A', m_ + 1, c', by omega, by go_num, rfl, by omega, HN5, HPN, HI5, HB5⟩
   simp [RowKit.intOf]; omega
 obtain rfl : n0 = k := by omega
 have HALL := Lib.hid (all_uptoD HL0.out HP.out)
 have HTK : Hid ([[98, 97, 121], numS nx, [49], numS (n1 : Nat)] ++ ss.map snapT ++ (hs.take n0).map headT = [[98, 97, 121], numS nx, [49], numS (n1 : Nat)] ++ ss.map snapT ++ hs.map headT) := Lib.hid (by rw [List.take_of_length_le (by rw [HL0.out]; exact Nat.le_refl _)])
 have HI := Lib.hid (HTK.out ▸ HI.out)
 have HN := Lib.hid (HTK.out ▸ HN.out)
 clear HTK HP
 have HFS : Hid ([[98, 97, 121], numS nx, [49], numS (n1 : Nat)] ++ ss.map snapT ++ hs.map headT = metaL (hs, ss, nx, true)) := Lib.hid (by unfold metaL metaH; simp only [HL1.out]; rfl)
 have HRY : Hid (rx = recF (metaL (hs, ss, nx, true)) (-1)) := Lib.hid (by rw [HR.out]; exact metaF_yes HSZ.out HALL1.out HALL.out)
 have HLE := Lib.hid (metaL_le (hs, ss, nx, true))
 rw [HFS.out] at HI HN
 generalize metaL (hs, ss, nx, true) = fs at *
 have P5 := record_any C e fs (-1) wr (HT1.out.below HBW.out) HI.out.row HLE.out (by have := HN.out; omega)
 rw [← HN.out, RecR_def] at P5
 have HP5 := Lib.hid P5; clear P5
 go_wp2_with fail
 refine HP5.out.mono ?_
 rw [← HRY.out]
 rintro e_ w6 ⟨rfl, hb6⟩
 have HB6 := Lib.hid (HBW.out.trans (hb6.mono HBW.out.size))
 clear hb6 HP5
 go_wp2_with fail
 exact bodyPost_ret (v := .tuple #[.string (strB rx.1), .bool rx.2]) (by simp [results, Tryz.results18, go_sem]) rfl ⟨rfl, HBX.out.trans (HB6.out.mono HBX.out.size)⟩
end Go.Proofs.YtlacpcdbgimnmaaGreatDoor
