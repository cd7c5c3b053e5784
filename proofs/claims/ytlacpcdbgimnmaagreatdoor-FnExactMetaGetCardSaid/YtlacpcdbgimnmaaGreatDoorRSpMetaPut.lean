/- MetaPut of the reference. No condition. -/
import Derived.Test.YtlacpcdbgimnmaaGreatDoorRMetaPut
set_option linter.unnecessarySimpa false
set_option linter.unusedSimpArgs false
set_option linter.unusedVariables false
namespace Go.Proofs.YtlacpcdbgimnmaaGreatDoor
open Go Go.Lib Go.RowKit
theorem row_litM {w : World} {g T : Nat} {cur : Array Value} {fs : List Str} {n : Nat} (hg : w.heap[g]? = some (.cells cur T (0, 0))) (hc : cur.toList = fs.map strV) (hn : n = fs.length) : RowAt w (some ⟨g, 0, none⟩) n (fs.map strV) := by
 subst hn
 refine ⟨by simp, fun _ => ⟨g, 0, rfl, fun j hj => ?_⟩⟩
 rw [Nat.zero_add, cell_of_row _ _ j _ _ (0, 0) hg, ← hc]
 simp
theorem wp_append_full {P : Program} {o : Oper} {a : Act} {w : World} {K : Act → World → Prop} {Q : Exit → Act → World → Prop} (s x : Operand) (t : TypeId)
 (ho : o.op = .call { callee := .builtin .append, args := #[s, x], argTypes := #[t, t] })
 (e : TypeId) (i : TypeInfo) (z : Value) (size bytes : Nat) (ht : P.underlying t = some (.slice e)) (hi : P.info? e = some i) (hz : i.zero = some z)
 (hsize : i.size = size) (hby : i.bytes = bytes) (hzs : z.cells.size = size) (hsz : 0 < size) (b : Addr) (B : Option Addr) (n c m d : Nat) (vs us : List Value) (hs : a.eval s = .slice (some b) n c) (hx : a.eval x = .slice B m d)
 (hA : RowAt w (some b) (n * size) vs) (hB : RowAt w B (m * size) us) (hm : 0 < m) (hc : c < n + m) (h63 : n + m ≤ maxLen) (hbytes : (n + m) * bytes ≤ 140737488355328)
 (h : ∀ A' c' S w', OwnA w' e size S A' (n + m) c' (vs ++ us) → (∀ g ∈ S, w.heap.size ≤ g) → Below w.heap.size w w' → K (a.put o.dst (.slice A' (n + m) c')) w') : o.wp P a w K Q := by
 obtain ⟨b2, off2, rfl, _⟩ := hB.at_ (Nat.mul_pos hm hsz)
 obtain ⟨v', w', hr, ho2, hg⟩ := run_append_arg_grows (P := P) w t o.type e i z size bytes ht hi hz hsize hby hzs hsz b n c vs hA.1 (hA.news rfl) ⟨b2, off2, none⟩ m d us hB.1 (hB.news rfl) hc h63 hbytes
 obtain ⟨A', c', S, rfl, ho', hS, hcc, _⟩ := ownRow_of ho2
 unfold Oper.wp execOp
 simp only [ho, resolve, invoke, builtin, Sem.run_bind, Sem.run_pure, Result.andThen_ok, List.map_toArray, List.map_cons, List.map_nil, hs, hx, hr]
 refine h A' c' S w' ⟨ho', fun h0 => ?_⟩ hS ((Below.refl _ _).grown hg (Nat.le_refl _) (by simp))
 rcases ho' with ⟨_, h1, _⟩ | ⟨g, _, h1, _⟩
 · omega
 rw [h0] at h1; cases h1
set_option maxRecDepth 100000 in
set_option maxHeartbeats 4000000 in
theorem spMetaPut_any (A0 : Option Addr) (n0 c0 : Nat) (A1 : Option Addr) (n1 c1 : Nat) (hs : List HeadD) (ss : List SnapD) (nx : Int) (bo : Bool) (w : World) (lo hi : Nat) (h0 : SliceR HeadR 11 w lo hi A0 n0 c0 hs) (h1 : SliceR SnapR 12 w lo hi A1 n1 c1 ss) (b0 : ∀ x ∈ hs, x.1.size ≤ 3000000 ∧ x.2.2.2.1.length ≤ 2000000) (b1 : ∀ x ∈ ss, x.2.1.size ≤ 3000000 ∧ x.2.2.2.2.2.length ≤ 2000000) :
 Calls Tryz.prog 13 #[.agg #[.slice A0 n0 c0, .slice A1 n1 c1, .int .i64 nx, .bool bo]] w (FieldR (metaF (hs, ss, nx, bo)).1 (metaF (hs, ss, nx, bo)).2 w) := by
 obtain ⟨i0, hi0, hz0, hz1, hz2⟩ := info_parts info_strs
 have HL0 := Lib.hid h0.len; have HL1 := Lib.hid h1.len
 have hm0 := h0.max; have hm1 := h1.max
 have H0 := Lib.hid h0; have H1 := Lib.hid h1; have HB0 := Lib.hid b0; have HB1 := Lib.hid b1
 clear h0 h1 b0 b1
 obtain ⟨rx, hrx⟩ : ∃ r, r = metaF (hs, ss, nx, bo) := ⟨_, rfl⟩
 rw [← hrx]
 have HR := Lib.hid hrx; clear hrx
 rw [FieldR_def]
 go_enter Tryz.func13, Tryz.ntmps13
 go_wp2_with fail
 obtain ⟨w1, hw1⟩ : ∃ x, x = w.alloc (.cells #[.slice A0 n0 c0, .slice A1 n1 c1, .int .i64 nx, .bool bo] 25) := ⟨_, rfl⟩
 have hb1 : Below w.heap.size w w1 := by rw [hw1]; exact bel1
 have hg1 : w1.heap[w.heap.size]? = some (.cells #[.slice A0 n0 c0, .slice A1 n1 c1, .int .i64 nx, .bool bo] 25 (0, 0)) := by rw [hw1]; exact heap_alloc_new _ _
 rw [← hw1]
 have c1_0 := celR 0 hg1; have c1_1 := celR 1 hg1; have c1_2 := celR 2 hg1; have c1_3 := celR 3 hg1
 have l1 := (Array.getElem?_eq_some_iff.1 hg1).1
 clear hw1 hg1
 have HBX := Lib.hid hb1
 clear hb1
 apply wp_region_rg (by kernel_rfl) (false :: false :: false :: false :: true :: false :: false :: false :: false :: false :: false :: false :: false :: false :: false :: false :: false :: true :: true :: true :: true :: true :: true :: true :: true :: true :: true :: true :: false :: false :: false :: false :: false :: false :: false :: false :: false :: false :: false :: false :: false :: false :: false :: false :: false :: false :: false :: false :: false :: false :: false :: false :: false :: false :: false :: false :: false :: false :: false :: false :: false :: false :: false :: false :: false :: false :: false :: false :: false :: false :: false :: false :: false :: false :: false :: false :: false :: false :: false :: false :: false :: false :: false :: false :: false :: false :: false :: false :: false :: false :: false :: false :: false :: false :: false :: false :: false :: false :: false :: false :: false :: false :: false :: false :: false :: false :: false :: false :: false :: false :: false :: false :: false :: false :: false :: false :: false :: false :: false :: false :: false :: false :: false :: false :: false :: false :: false :: false :: false :: false :: false :: false :: false :: false :: false :: false :: false :: false :: false :: false :: false :: false :: false :: false :: false :: false :: false :: false :: false :: false :: false :: false :: false :: false :: []) [some 17, some 18, some 19, some 20, some 21, some 22, some 23, some 24, some 25, some 26, some 27, some 4] [[], [0], [1], [], [3], [4], [], [6], [7], [8], [2, 5, 9], [10]] [StP.is _, StP.is _, StP.is _, StP.is _, StP.is _, StP.is _, StP.is _, StP.is _, StP.is _, StP.is _, strsP (w1.heap.size) ([[98, 97, 121], numS nx, bitS bo, numS (n1 : Nat)]), strsP (w1.heap.size) ([[98, 97, 121], numS nx, bitS bo, numS (n1 : Nat)])] (by kernel_rfl)
 case hobs =>
  refine ⟨fun y w' hS hF K hK => ?_, ?_⟩
  · skip
    simp only [fillL, cond_true, cond_false, zG0, zG1, StP.is, Act.put, zS2, zS0, zS1, Nat.reduceAdd] at hK ⊢
    refine rg_yes (by kernel_rfl) ?_
    clear hF
    go_simp
    exact hK _ _ (Ext.refl _) rfl
  refine ⟨fun y w' hS hF K hK => ?_, ?_⟩
  · skip
    have e17 : y 17 = _ := hF.1
    simp only [fillL, cond_true, cond_false, zG0, zG1, StP.is, Act.put, zS2, zS0, zS1, Nat.reduceAdd, e17] at hK ⊢
    refine rg_yes (by kernel_rfl) ?_
    have qx0_ := (Below.cell hS l1).trans c1_0
    have qx1_ := (Below.cell hS l1).trans c1_1
    have qx2_ := (Below.cell hS l1).trans c1_2
    have qx3_ := (Below.cell hS l1).trans c1_3
    clear e17
    clear hF
    go_simp
    exact hK _ _ (Ext.refl _) rfl
  refine ⟨fun y w' hS hF K hK => ?_, ?_⟩
  · skip
    have e18 : y 18 = _ := hF.1
    simp only [fillL, cond_true, cond_false, zG0, zG1, StP.is, Act.put, zS2, zS0, zS1, Nat.reduceAdd, e18] at hK ⊢
    refine rg_yes (by kernel_rfl) ?_
    clear e18
    clear hF
    go_simp
    go_at_call 29
    refine (spNumPut_any nx w').mono ?_
    rintro e w'' ⟨rfl, hb9⟩
    exact hK _ _ hb9 rfl
  refine ⟨fun y w' hS hF K hK => ?_, ?_⟩
  · skip
    simp only [fillL, cond_true, cond_false, zG0, zG1, StP.is, Act.put, zS2, zS0, zS1, Nat.reduceAdd] at hK ⊢
    refine rg_yes (by kernel_rfl) ?_
    clear hF
    go_simp
    exact hK _ _ (Ext.refl _) rfl
  refine ⟨fun y w' hS hF K hK => ?_, ?_⟩
  · skip
    have e20 : y 20 = _ := hF.1
    simp only [fillL, cond_true, cond_false, zG0, zG1, StP.is, Act.put, zS2, zS0, zS1, Nat.reduceAdd, e20] at hK ⊢
    refine rg_yes (by kernel_rfl) ?_
    have qx0_ := (Below.cell hS l1).trans c1_0
    have qx1_ := (Below.cell hS l1).trans c1_1
    have qx2_ := (Below.cell hS l1).trans c1_2
    have qx3_ := (Below.cell hS l1).trans c1_3
    clear e20
    clear hF
    go_simp
    exact hK _ _ (Ext.refl _) rfl
  refine ⟨fun y w' hS hF K hK => ?_, ?_⟩
  · skip
    have e21 : y 21 = _ := hF.1
    simp only [fillL, cond_true, cond_false, zG0, zG1, StP.is, Act.put, zS2, zS0, zS1, Nat.reduceAdd, e21] at hK ⊢
    refine rg_yes (by kernel_rfl) ?_
    clear e21
    clear hF
    go_simp
    go_at_call 30
    refine (l21Bit_any bo w').mono ?_
    rintro e w'' ⟨rfl, rfl⟩
    exact hK _ _ (Ext.refl _) rfl
  refine ⟨fun y w' hS hF K hK => ?_, ?_⟩
  · skip
    simp only [fillL, cond_true, cond_false, zG0, zG1, StP.is, Act.put, zS2, zS0, zS1, Nat.reduceAdd] at hK ⊢
    refine rg_yes (by kernel_rfl) ?_
    clear hF
    go_simp
    exact hK _ _ (Ext.refl _) rfl
  refine ⟨fun y w' hS hF K hK => ?_, ?_⟩
  · skip
    have e23 : y 23 = _ := hF.1
    simp only [fillL, cond_true, cond_false, zG0, zG1, StP.is, Act.put, zS2, zS0, zS1, Nat.reduceAdd, e23] at hK ⊢
    refine rg_yes (by kernel_rfl) ?_
    have qx0_ := (Below.cell hS l1).trans c1_0
    have qx1_ := (Below.cell hS l1).trans c1_1
    have qx2_ := (Below.cell hS l1).trans c1_2
    have qx3_ := (Below.cell hS l1).trans c1_3
    clear e23
    clear hF
    go_simp
    exact hK _ _ (Ext.refl _) rfl
  refine ⟨fun y w' hS hF K hK => ?_, ?_⟩
  · skip
    have e24 : y 24 = _ := hF.1
    simp only [fillL, cond_true, cond_false, zG0, zG1, StP.is, Act.put, zS2, zS0, zS1, Nat.reduceAdd, e24] at hK ⊢
    refine rg_yes (by kernel_rfl) ?_
    have qx0_ := (Below.cell hS l1).trans c1_0
    have qx1_ := (Below.cell hS l1).trans c1_1
    have qx2_ := (Below.cell hS l1).trans c1_2
    have qx3_ := (Below.cell hS l1).trans c1_3
    clear e24
    clear hF
    go_simp
    exact hK _ _ (Ext.refl _) rfl
  refine ⟨fun y w' hS hF K hK => ?_, ?_⟩
  · skip
    have e25 : y 25 = _ := hF.1
    simp only [fillL, cond_true, cond_false, zG0, zG1, StP.is, Act.put, zS2, zS0, zS1, Nat.reduceAdd, e25] at hK ⊢
    refine rg_yes (by kernel_rfl) ?_
    clear e25
    clear hF
    go_simp
    go_at_call 29
    refine (spNumPut_any (n1 : Nat) w').mono ?_
    rintro e w'' ⟨rfl, hb9⟩
    exact hK _ _ hb9 rfl
  refine ⟨fun y w' hS hF K hK => ?_, ?_⟩
  · skip
    have e19 : y 19 = _ := hF.1
    have e22 : y 22 = _ := hF.2.1
    have e26 : y 26 = _ := hF.2.2.1
    simp only [fillL, cond_true, cond_false, zG0, zG1, StP.is, Act.put, zS2, zS0, zS1, Nat.reduceAdd, e19, e22, e26] at hK ⊢
    refine rg_yes (by kernel_rfl) ?_
    clear e19 e22 e26
    clear hF
    go_simp
    exact hK _ _ (Ext.alloc _ _) ⟨_, _, _, rfl, rfl, StrsIn.lit (fs := [[98, 97, 121], numS nx, bitS bo, numS (n1 : Nat)]) (Below.size hS) (heap_alloc_new _ _) rfl (by unfold maxLen; simp)⟩
  refine ⟨fun y w' hS hF K hK => ?_, ?_⟩
  · skip
    obtain ⟨Ae27, ce27, ne27, e27, hxe27, hIe27⟩ := hF.1
    have hne27 := Lib.hid hxe27; clear hxe27
    simp only [fillL, cond_true, cond_false, zG0, zG1, StP.is, Act.put, zS2, zS0, zS1, Nat.reduceAdd, e27] at hK ⊢
    refine rg_yes (by kernel_rfl) ?_
    clear e27
    clear hF
    go_simp
    exact hK _ _ (Ext.refl _) ⟨_, _, _, rfl, hne27.out, hIe27⟩
  trivial
 intro y w9 hS9 hF
 obtain ⟨Ae4, ce4, ne4, e4, hxe4, hIe4⟩ := hF.2.2.2.2.2.2.2.2.2.2.2.1
 have hne4 := Lib.hid hxe4; clear hxe4
 clear hF
 simp only [fillL, cond_true, cond_false, Nat.reduceAdd, e4]
 clear e4
 have HBW : Hid (Below w1.heap.size w1 w9) := Lib.hid hS9
 have HI := Lib.hid hIe4
 have HN : Hid (ne4 = ([[98, 97, 121], numS nx, bitS bo, numS (n1 : Nat)]).length) := hne4
 have hn4 : ne4 = 4 := by rw [HN.out]; rfl
 have c9_0 := (HBW.out.cell l1).trans c1_0; have c9_1 := (HBW.out.cell l1).trans c1_1
 clear hIe4 hne4 hS9
 go_wp2_with fail
 refine (l6In_any _ _ _ _).mono ?_
 obtain ⟨bi, hbi⟩ : ∃ b, b = inB (n0 : Int) 1 3 := ⟨_, rfl⟩
 rw [← hbi]
 have HBI := Lib.hid hbi; clear hbi
 rintro e w' ⟨rfl, rfl⟩
 cases bi
 · have HX : Hid (rx = ([], false)) := Lib.hid (by rw [HR.out]; exact metaF_size (fun c => by
    have h := HBI.out; unfold inB at h; have h1 := c.2.1; have h2 := c.2.2; have := HL0.out; simp only at h1 h2; simp at h; omega))
   go_wp2_with fail
   exact bodyPost_ret (v := .tuple #[.string ⟨#[]⟩, .bool false]) (by simp [results, Tryz.results13, go_sem]) rfl ⟨by rw [HX.out]; rfl, HBX.out.trans (HBW.out.mono HBX.out.size)⟩
 by_cases h6 : n1 ≤ 6
 rotate_left
 · have HX : Hid (rx = ([], false)) := Lib.hid (by rw [HR.out]; exact metaF_size (fun c => h6 (by have := c.1; have := HL1.out; simp only at *; omega)))
   have d6 : (6 : Int) < (n1 : Int) := by omega
   go_wp2_with fail
   exact bodyPost_ret (v := .tuple #[.string ⟨#[]⟩, .bool false]) (by simp [results, Tryz.results13, go_sem]) rfl ⟨by rw [HX.out]; rfl, HBX.out.trans (HBW.out.mono HBX.out.size)⟩
 have d6 : ¬ (6 : Int) < (n1 : Int) := by omega
 have HSZ : Hid (ss.length ≤ 6 ∧ 1 ≤ hs.length ∧ hs.length ≤ 3) := Lib.hid (by
  have h := HBI.out; unfold inB at h; simp at h; have := HL0.out; have := HL1.out; omega)
 have h3 : n0 ≤ 3 := by have := HSZ.out; have := HL0.out; omega
 clear HBI
 go_wp2_with fail
 clear d6
 go_loopw [4, 5] (fun t i wr => ∃ (k : Nat) (C : Option Addr) (m e : Nat), k ≤ n1 ∧ i = .int .i64 (k : Int) ∧ t = .slice C m e ∧ m ≤ 10 + k ∧ Hid (m = ([[98, 97, 121], numS nx, bitS bo, numS (n1 : Nat)] ++ (ss.take k).map snapT).length) ∧ Hid (∀ j x, j < k → ss[j]? = some x → snapB x = true) ∧ Hid (StrsIn w1.heap.size wr C e ([[98, 97, 121], numS nx, bitS bo, numS (n1 : Nat)] ++ (ss.take k).map snapT)) ∧ Hid (Below w1.heap.size w1 wr)) (fun _ i _ => n1 - (RowKit.intOf i).toNat)
 case atStart => exact ⟨0, _, _, _, Nat.zero_le _, rfl, rfl, by omega, Lib.hid (by simpa using HN.out), Lib.hid (fun j p hj => absurd hj (by omega)), Lib.hid (by simpa using HI.out), HBW⟩
 clear HI HBW HN c9_0 c9_1
 obtain ⟨k, C, m_, e, hk, rfl, rfl, hm_, HN, HP, HI, HBW⟩ := hrel
 have c9_0 := (HBW.out.cell l1).trans c1_0; have c9_1 := (HBW.out.cell l1).trans c1_1
 by_cases hlt : k < n1
 · obtain ⟨x, hp⟩ : ∃ x, ss[k]? = some x := ⟨ss[k]'(by rw [HL1.out]; exact hlt), List.getElem?_eq_getElem _⟩
   have HBR := Lib.hid (HBX.out.trans (HBW.out.mono HBX.out.size))
   obtain ⟨b_, off, hA_, _, _, bl, hc⟩ := (SliceR.below H1.out HBR.out (SnapR.below HBR.out H1.out.lo_le)).at_ (by omega)
   obtain ⟨cs, hcl, hcc, hr⟩ := hc k x hp
   have HBD := Lib.hid (HB1.out x (List.mem_of_getElem? hp))
   have HX := Lib.hid hp; clear hp hc
   subst hA_
   obtain ⟨i, nm, g, v, ⟨⟨a, b, s, m, l⟩, d, kk⟩, ps⟩ := x
   obtain ⟨Ad, nd, cd, rfl, hsz, hd⟩ := hr
   obtain ⟨nm, rfl⟩ : ∃ z, nm = strB z := ⟨nm.data.toList, (strB_data _).symm⟩
   have q0 := hcc 0 _ rfl; have q1 := hcc 1 _ rfl; have q2 := hcc 2 _ rfl; have q3 := hcc 3 _ rfl; have q4 := hcc 4 _ rfl; have q5 := hcc 5 _ rfl; have q6 := hcc 6 _ rfl; have q7 := hcc 7 _ rfl; have q8 := hcc 8 _ rfl; have q9 := hcc 9 _ rfl; have q10 := hcc 10 _ rfl; have q11 := hcc 11 _ rfl
   simp only [Nat.add_zero] at q0
   have HD := Lib.hid hd
   have HLE : Hid (∀ f ∈ snapL (i, strB nm, g, v, ((a, b, s, m, l), d, kk), ps), f.length ≤ 1099511627776) := Lib.hid (snapL_le HBD.out.1 HBD.out.2)
   have HNM : Hid (nm.length ≤ 3000000) := Lib.hid (by have h := HBD.out.1; exact h)
   clear hcc hcl hsz hd
   have k0 : (0 : Int) ≤ (k : Int) := by omega
   have k1 : (k : Int) < (n1 : Int) := by omega
   obtain ⟨w2, hw2⟩ : ∃ W, W = wr.alloc (.cells #[.int .i64 i, .string (strB nm), .int .i64 g, .int .i64 v, .int .i64 a, .int .i64 b, .int .i64 s, .int .i64 m, .int .i64 l, .int .i64 d, .int .i64 kk, .slice Ad nd cd] 44) := ⟨_, rfl⟩
   have HY2 : Hid (Below wr.heap.size wr w2) := Lib.hid (by rw [hw2]; exact bel1)
   have hbx : Hid (w2.heap[wr.heap.size]? = some (.cells #[.int .i64 i, .string (strB nm), .int .i64 g, .int .i64 v, .int .i64 a, .int .i64 b, .int .i64 s, .int .i64 m, .int .i64 l, .int .i64 d, .int .i64 kk, .slice Ad nd cd] 44 (0, 0))) := Lib.hid (by rw [hw2]; exact heap_alloc_new _ _)
   go_wp2_with fail
   rw [← hw2]
   clear hw2 q0 q1 q2 q3 q4 q5 q6 q7 q8 q9 q10 q11
   have x0 := celR 0 hbx.out; have x1 := celR 1 hbx.out; have x2 := celR 2 hbx.out; have x3 := celR 3 hbx.out; have x4 := celR 4 hbx.out; have x5 := celR 5 hbx.out; have x6 := celR 6 hbx.out; have x7 := celR 7 hbx.out; have x8 := celR 8 hbx.out; have x9 := celR 9 hbx.out; have x10 := celR 10 hbx.out; have x11 := celR 11 hbx.out
   have l2x := (Array.getElem?_eq_some_iff.1 hbx.out).1
   go_wp2_with fail
   have HB2 := Lib.hid (HBW.out.trans (HY2.out.mono HBW.out.size))
   refine (l21Dead_any Ad nd cd ps w2 lo hi (SliceR.below HD.out HY2.out (PtrR.below HY2.out HD.out.lo_le)) (by have h := HBD.out.2; have h2 := HD.out.len; (try simp only at h); omega)).mono ?_
   obtain ⟨tx, htx⟩ : ∃ X, X = snapT (i, strB nm, g, v, ((a, b, s, m, l), d, kk), ps) := ⟨_, rfl⟩
   obtain ⟨okx, hokx⟩ : ∃ X, X = snapB (i, strB nm, g, v, ((a, b, s, m, l), d, kk), ps) := ⟨_, rfl⟩
   obtain ⟨dt, hdt⟩ : ∃ X, X = (deadF ps).1 := ⟨_, rfl⟩
   obtain ⟨okd, hokd⟩ : ∃ X, X = (deadF ps).2 := ⟨_, rfl⟩
   rw [DeadR_def, ← hdt, ← hokd]
   obtain ⟨okr, hokr⟩ : ∃ X, X = (recF (snapL (i, strB nm, g, v, ((a, b, s, m, l), d, kk), ps)) 7).2 := ⟨_, rfl⟩
   have HST := Lib.hid (take_snoc snapT ([[98, 97, 121], numS nx, bitS bo, numS (n1 : Nat)]) HX.out)
   rw [← htx] at HST
   have HOX : Hid (okx = (okd && (okr && namB nm))) := Lib.hid (by rw [hokx, hokd, hokr]; rfl)
   have HOK := Lib.hid hokx
   have HLF : Hid (snapL (i, strB nm, g, v, ((a, b, s, m, l), d, kk), ps) = [numS i, nm, numS g, numS v] ++ treeS a b s m l d kk ++ [dt]) := Lib.hid (by rw [hdt]; rfl)
   have HRT : Hid ((recF ([numS i, nm, numS g, numS v] ++ treeS a b s m l d kk ++ [dt]) 7).1 = tx) := Lib.hid (by rw [htx, ← HLF.out]; rfl)
   have HRB : Hid ((recF ([numS i, nm, numS g, numS v] ++ treeS a b s m l d kk ++ [dt]) 7).2 = okr) := Lib.hid (by rw [hokr, ← HLF.out])
   have HLE := Lib.hid (HLF.out ▸ HLE.out)
   rintro e_ w4 ⟨rfl, hb4⟩
   have HY4 := Lib.hid (HY2.out.trans (hb4.mono HY2.out.size))
   have hbx4 := Lib.hid ((hb4.block _ l2x).trans hbx.out)
   clear htx hokx hdt hokd hokr hb4 x0 x1 x2 x3 x4 x5 x6 x7 x8 x9 x10 x11 l2x HY2 hbx HD HLF HB2
   have l4x := (Array.getElem?_eq_some_iff.1 hbx4.out).1
   have x0 := celR 0 hbx4.out; have x1 := celR 1 hbx4.out; have x2 := celR 2 hbx4.out; have x3 := celR 3 hbx4.out; have x4 := celR 4 hbx4.out; have x5 := celR 5 hbx4.out; have x6 := celR 6 hbx4.out; have x7 := celR 7 hbx4.out; have x8 := celR 8 hbx4.out; have x9 := celR 9 hbx4.out; have x10 := celR 10 hbx4.out; have x11 := celR 11 hbx4.out
   go_wp2_with fail
   apply wp_region_rgm (Own (w4.heap.size)) (Ext) (fun _ _ => True) (0 :: 0 :: 0 :: 0 :: 0 :: 0 :: 0 :: 0 :: 0 :: 0 :: 0 :: 0 :: 0 :: 0 :: 0 :: 0 :: 0 :: 0 :: 0 :: 0 :: 0 :: 0 :: 0 :: 0 :: 0 :: []) (by kernel_rfl) (false :: false :: false :: false :: false :: false :: false :: false :: false :: true :: true :: false :: false :: false :: false :: false :: false :: false :: false :: false :: false :: false :: false :: false :: false :: false :: false :: false :: false :: false :: false :: false :: false :: false :: false :: false :: false :: false :: false :: false :: false :: false :: false :: false :: false :: false :: false :: false :: false :: false :: false :: false :: false :: false :: false :: false :: false :: true :: true :: true :: true :: true :: true :: true :: true :: true :: true :: true :: true :: true :: true :: true :: true :: true :: true :: true :: true :: true :: true :: true :: false :: false :: false :: false :: false :: false :: false :: false :: false :: false :: false :: false :: false :: false :: false :: false :: false :: false :: false :: false :: false :: false :: false :: false :: false :: false :: false :: false :: false :: false :: false :: false :: false :: false :: false :: false :: false :: false :: false :: false :: false :: false :: false :: false :: false :: false :: false :: false :: false :: false :: false :: false :: false :: false :: false :: false :: false :: false :: false :: false :: false :: false :: false :: false :: false :: false :: false :: false :: false :: false :: false :: false :: false :: false :: []) (some 58 :: some 59 :: some 60 :: some 61 :: some 62 :: some 63 :: some 64 :: some 65 :: some 66 :: some 67 :: some 68 :: some 69 :: some 70 :: some 71 :: some 72 :: some 73 :: some 74 :: some 75 :: some 76 :: some 77 :: some 57 :: some 78 :: some 79 :: some 9 :: some 10 :: []) ([] :: [0] :: [1] :: [] :: [3] :: [] :: [5] :: [6] :: [] :: [8] :: [9] :: [2, 4, 7, 10] :: [] :: [12] :: [13] :: [11, 14] :: [] :: [16] :: [15, 17] :: [18] :: [19] :: [20] :: [20] :: [21] :: [22] :: []) (false :: false :: false :: false :: false :: false :: false :: false :: false :: false :: false :: false :: false :: false :: false :: false :: false :: false :: true :: false :: false :: false :: false :: false :: false :: []) (true :: true :: true :: true :: true :: true :: true :: true :: true :: true :: true :: false :: true :: true :: false :: false :: true :: false :: false :: true :: true :: true :: true :: true :: true :: []) [23, 24] (MStP.is _ :: MStP.is _ :: MStP.is _ :: MStP.is _ :: MStP.is _ :: MStP.is _ :: MStP.is _ :: MStP.is _ :: MStP.is _ :: MStP.is _ :: MStP.is _ :: softLit (w4.heap.size) 9 (#[.string (strB (numS i)), .string (strB nm), .string (strB (numS g)), .string (strB (numS v))]) 4 :: MStP.is _ :: MStP.is _ :: softStrs (w4.heap.size) (treeS a b s m l d kk) :: softStrs (w4.heap.size) ([numS i, nm, numS g, numS v] ++ treeS a b s m l d kk) :: MStP.is _ :: softStrs (w4.heap.size) ([dt]) :: softStrs (w4.heap.size) ([numS i, nm, numS g, numS v] ++ treeS a b s m l d kk ++ [dt]) :: MStP.is _ :: MStP.is _ :: MStP.is _ :: MStP.is _ :: MStP.is _ :: MStP.is _ :: []) (by kernel_rfl) (by kernel_rfl) (by kernel_rfl)
   case hobs =>
    refine ⟨fun y w' k hS hj hk hF K hK => ?_, ?_⟩
    · skip
      simp only [fillL, cond_true, cond_false, zG0, zG1, StP.is, Act.put, zS2, zS0, zS1, Nat.reduceAdd, MStP.is, Option.isSome_some, Option.isSome_none] at hK ⊢
      refine rg_yes (by kernel_rfl) ?_
      clear hF
      go_simp
      exact hK _ _ (Ext.refl _) trivial rfl
    refine ⟨fun y w' k hS hj hk hF K hK => ?_, ?_⟩
    · skip
      have e58 : y 58 = _ := hF.1
      simp only [fillL, cond_true, cond_false, zG0, zG1, StP.is, Act.put, zS2, zS0, zS1, Nat.reduceAdd, e58, MStP.is, Option.isSome_some, Option.isSome_none] at hK ⊢
      refine rg_yes (by kernel_rfl) ?_
      have hSb := hS.below
      have hBw := hSb.size
      have q0_ := (hSb.cell l4x).trans x0
      have q1_ := (hSb.cell l4x).trans x1
      have q2_ := (hSb.cell l4x).trans x2
      have q3_ := (hSb.cell l4x).trans x3
      have q4_ := (hSb.cell l4x).trans x4
      have q5_ := (hSb.cell l4x).trans x5
      have q6_ := (hSb.cell l4x).trans x6
      have q7_ := (hSb.cell l4x).trans x7
      have q8_ := (hSb.cell l4x).trans x8
      have q9_ := (hSb.cell l4x).trans x9
      have q10_ := (hSb.cell l4x).trans x10
      have q11_ := (hSb.cell l4x).trans x11
      clear e58
      clear hF
      go_simp
      exact hK _ _ (Ext.refl _) trivial rfl
    refine ⟨fun y w' k hS hj hk hF K hK => ?_, ?_⟩
    · skip
      have e59 : y 59 = _ := hF.1
      simp only [fillL, cond_true, cond_false, zG0, zG1, StP.is, Act.put, zS2, zS0, zS1, Nat.reduceAdd, e59, MStP.is, Option.isSome_some, Option.isSome_none] at hK ⊢
      refine rg_yes (by kernel_rfl) ?_
      have hSb := hS.below
      have hBw := hSb.size
      have q0_ := (hSb.cell l4x).trans x0
      have q1_ := (hSb.cell l4x).trans x1
      have q2_ := (hSb.cell l4x).trans x2
      have q3_ := (hSb.cell l4x).trans x3
      have q4_ := (hSb.cell l4x).trans x4
      have q5_ := (hSb.cell l4x).trans x5
      have q6_ := (hSb.cell l4x).trans x6
      have q7_ := (hSb.cell l4x).trans x7
      have q8_ := (hSb.cell l4x).trans x8
      have q9_ := (hSb.cell l4x).trans x9
      have q10_ := (hSb.cell l4x).trans x10
      have q11_ := (hSb.cell l4x).trans x11
      clear e59
      clear hF
      go_simp
      go_at_call 29
      refine (spNumPut_any i w').mono ?_
      rintro e w'' ⟨rfl, hb9⟩
      exact hK _ _ hb9 trivial rfl
    refine ⟨fun y w' k hS hj hk hF K hK => ?_, ?_⟩
    · skip
      simp only [fillL, cond_true, cond_false, zG0, zG1, StP.is, Act.put, zS2, zS0, zS1, Nat.reduceAdd, MStP.is, Option.isSome_some, Option.isSome_none] at hK ⊢
      refine rg_yes (by kernel_rfl) ?_
      clear hF
      go_simp
      exact hK _ _ (Ext.refl _) trivial rfl
    refine ⟨fun y w' k hS hj hk hF K hK => ?_, ?_⟩
    · skip
      have e61 : y 61 = _ := hF.1
      simp only [fillL, cond_true, cond_false, zG0, zG1, StP.is, Act.put, zS2, zS0, zS1, Nat.reduceAdd, e61, MStP.is, Option.isSome_some, Option.isSome_none] at hK ⊢
      refine rg_yes (by kernel_rfl) ?_
      have hSb := hS.below
      have hBw := hSb.size
      have q0_ := (hSb.cell l4x).trans x0
      have q1_ := (hSb.cell l4x).trans x1
      have q2_ := (hSb.cell l4x).trans x2
      have q3_ := (hSb.cell l4x).trans x3
      have q4_ := (hSb.cell l4x).trans x4
      have q5_ := (hSb.cell l4x).trans x5
      have q6_ := (hSb.cell l4x).trans x6
      have q7_ := (hSb.cell l4x).trans x7
      have q8_ := (hSb.cell l4x).trans x8
      have q9_ := (hSb.cell l4x).trans x9
      have q10_ := (hSb.cell l4x).trans x10
      have q11_ := (hSb.cell l4x).trans x11
      clear e61
      clear hF
      go_simp
      exact hK _ _ (Ext.refl _) trivial rfl
    refine ⟨fun y w' k hS hj hk hF K hK => ?_, ?_⟩
    · skip
      simp only [fillL, cond_true, cond_false, zG0, zG1, StP.is, Act.put, zS2, zS0, zS1, Nat.reduceAdd, MStP.is, Option.isSome_some, Option.isSome_none] at hK ⊢
      refine rg_yes (by kernel_rfl) ?_
      clear hF
      go_simp
      exact hK _ _ (Ext.refl _) trivial rfl
    refine ⟨fun y w' k hS hj hk hF K hK => ?_, ?_⟩
    · skip
      have e63 : y 63 = _ := hF.1
      simp only [fillL, cond_true, cond_false, zG0, zG1, StP.is, Act.put, zS2, zS0, zS1, Nat.reduceAdd, e63, MStP.is, Option.isSome_some, Option.isSome_none] at hK ⊢
      refine rg_yes (by kernel_rfl) ?_
      have hSb := hS.below
      have hBw := hSb.size
      have q0_ := (hSb.cell l4x).trans x0
      have q1_ := (hSb.cell l4x).trans x1
      have q2_ := (hSb.cell l4x).trans x2
      have q3_ := (hSb.cell l4x).trans x3
      have q4_ := (hSb.cell l4x).trans x4
      have q5_ := (hSb.cell l4x).trans x5
      have q6_ := (hSb.cell l4x).trans x6
      have q7_ := (hSb.cell l4x).trans x7
      have q8_ := (hSb.cell l4x).trans x8
      have q9_ := (hSb.cell l4x).trans x9
      have q10_ := (hSb.cell l4x).trans x10
      have q11_ := (hSb.cell l4x).trans x11
      clear e63
      clear hF
      go_simp
      exact hK _ _ (Ext.refl _) trivial rfl
    refine ⟨fun y w' k hS hj hk hF K hK => ?_, ?_⟩
    · skip
      have e64 : y 64 = _ := hF.1
      simp only [fillL, cond_true, cond_false, zG0, zG1, StP.is, Act.put, zS2, zS0, zS1, Nat.reduceAdd, e64, MStP.is, Option.isSome_some, Option.isSome_none] at hK ⊢
      refine rg_yes (by kernel_rfl) ?_
      have hSb := hS.below
      have hBw := hSb.size
      have q0_ := (hSb.cell l4x).trans x0
      have q1_ := (hSb.cell l4x).trans x1
      have q2_ := (hSb.cell l4x).trans x2
      have q3_ := (hSb.cell l4x).trans x3
      have q4_ := (hSb.cell l4x).trans x4
      have q5_ := (hSb.cell l4x).trans x5
      have q6_ := (hSb.cell l4x).trans x6
      have q7_ := (hSb.cell l4x).trans x7
      have q8_ := (hSb.cell l4x).trans x8
      have q9_ := (hSb.cell l4x).trans x9
      have q10_ := (hSb.cell l4x).trans x10
      have q11_ := (hSb.cell l4x).trans x11
      clear e64
      clear hF
      go_simp
      go_at_call 29
      refine (spNumPut_any g w').mono ?_
      rintro e w'' ⟨rfl, hb9⟩
      exact hK _ _ hb9 trivial rfl
    refine ⟨fun y w' k hS hj hk hF K hK => ?_, ?_⟩
    · skip
      simp only [fillL, cond_true, cond_false, zG0, zG1, StP.is, Act.put, zS2, zS0, zS1, Nat.reduceAdd, MStP.is, Option.isSome_some, Option.isSome_none] at hK ⊢
      refine rg_yes (by kernel_rfl) ?_
      clear hF
      go_simp
      exact hK _ _ (Ext.refl _) trivial rfl
    refine ⟨fun y w' k hS hj hk hF K hK => ?_, ?_⟩
    · skip
      have e66 : y 66 = _ := hF.1
      simp only [fillL, cond_true, cond_false, zG0, zG1, StP.is, Act.put, zS2, zS0, zS1, Nat.reduceAdd, e66, MStP.is, Option.isSome_some, Option.isSome_none] at hK ⊢
      refine rg_yes (by kernel_rfl) ?_
      have hSb := hS.below
      have hBw := hSb.size
      have q0_ := (hSb.cell l4x).trans x0
      have q1_ := (hSb.cell l4x).trans x1
      have q2_ := (hSb.cell l4x).trans x2
      have q3_ := (hSb.cell l4x).trans x3
      have q4_ := (hSb.cell l4x).trans x4
      have q5_ := (hSb.cell l4x).trans x5
      have q6_ := (hSb.cell l4x).trans x6
      have q7_ := (hSb.cell l4x).trans x7
      have q8_ := (hSb.cell l4x).trans x8
      have q9_ := (hSb.cell l4x).trans x9
      have q10_ := (hSb.cell l4x).trans x10
      have q11_ := (hSb.cell l4x).trans x11
      clear e66
      clear hF
      go_simp
      exact hK _ _ (Ext.refl _) trivial rfl
    refine ⟨fun y w' k hS hj hk hF K hK => ?_, ?_⟩
    · skip
      have e67 : y 67 = _ := hF.1
      simp only [fillL, cond_true, cond_false, zG0, zG1, StP.is, Act.put, zS2, zS0, zS1, Nat.reduceAdd, e67, MStP.is, Option.isSome_some, Option.isSome_none] at hK ⊢
      refine rg_yes (by kernel_rfl) ?_
      have hSb := hS.below
      have hBw := hSb.size
      have q0_ := (hSb.cell l4x).trans x0
      have q1_ := (hSb.cell l4x).trans x1
      have q2_ := (hSb.cell l4x).trans x2
      have q3_ := (hSb.cell l4x).trans x3
      have q4_ := (hSb.cell l4x).trans x4
      have q5_ := (hSb.cell l4x).trans x5
      have q6_ := (hSb.cell l4x).trans x6
      have q7_ := (hSb.cell l4x).trans x7
      have q8_ := (hSb.cell l4x).trans x8
      have q9_ := (hSb.cell l4x).trans x9
      have q10_ := (hSb.cell l4x).trans x10
      have q11_ := (hSb.cell l4x).trans x11
      clear e67
      clear hF
      go_simp
      go_at_call 29
      refine (spNumPut_any v w').mono ?_
      rintro e w'' ⟨rfl, hb9⟩
      exact hK _ _ hb9 trivial rfl
    refine ⟨fun y w' k hS hj hk hF K hK => ?_, ?_⟩
    · skip
      have e60 : y 60 = _ := hF.1
      have e62 : y 62 = _ := hF.2.1
      have e65 : y 65 = _ := hF.2.2.1
      have e68 : y 68 = _ := hF.2.2.2.1
      simp only [fillL, cond_true, cond_false, zG0, zG1, StP.is, Act.put, zS2, zS0, zS1, Nat.reduceAdd, e60, e62, e65, e68, MStP.is, Option.isSome_some, Option.isSome_none] at hK ⊢
      refine rg_yes (by kernel_rfl) ?_
      have hSb := hS.below
      have hBw := hSb.size
      have q0_ := (hSb.cell l4x).trans x0
      have q1_ := (hSb.cell l4x).trans x1
      have q2_ := (hSb.cell l4x).trans x2
      have q3_ := (hSb.cell l4x).trans x3
      have q4_ := (hSb.cell l4x).trans x4
      have q5_ := (hSb.cell l4x).trans x5
      have q6_ := (hSb.cell l4x).trans x6
      have q7_ := (hSb.cell l4x).trans x7
      have q8_ := (hSb.cell l4x).trans x8
      have q9_ := (hSb.cell l4x).trans x9
      have q10_ := (hSb.cell l4x).trans x10
      have q11_ := (hSb.cell l4x).trans x11
      clear e60 e62 e65 e68
      clear hF
      go_simp
      exact hK _ _ (Ext.alloc _ _) trivial ⟨_, rfl, heap_alloc_new _ _⟩
    refine ⟨fun y w' k hS hj hk hF K hK => ?_, ?_⟩
    · skip
      simp only [fillL, cond_true, cond_false, zG0, zG1, StP.is, Act.put, zS2, zS0, zS1, Nat.reduceAdd, MStP.is, Option.isSome_some, Option.isSome_none] at hK ⊢
      refine rg_yes (by kernel_rfl) ?_
      clear hF
      go_simp
      exact hK _ _ (Ext.refl _) trivial rfl
    refine ⟨fun y w' k hS hj hk hF K hK => ?_, ?_⟩
    · skip
      have e70 : y 70 = _ := hF.1
      simp only [fillL, cond_true, cond_false, zG0, zG1, StP.is, Act.put, zS2, zS0, zS1, Nat.reduceAdd, e70, MStP.is, Option.isSome_some, Option.isSome_none] at hK ⊢
      refine rg_yes (by kernel_rfl) ?_
      have hSb := hS.below
      have hBw := hSb.size
      have q0_ := (hSb.cell l4x).trans x0
      have q1_ := (hSb.cell l4x).trans x1
      have q2_ := (hSb.cell l4x).trans x2
      have q3_ := (hSb.cell l4x).trans x3
      have q4_ := (hSb.cell l4x).trans x4
      have q5_ := (hSb.cell l4x).trans x5
      have q6_ := (hSb.cell l4x).trans x6
      have q7_ := (hSb.cell l4x).trans x7
      have q8_ := (hSb.cell l4x).trans x8
      have q9_ := (hSb.cell l4x).trans x9
      have q10_ := (hSb.cell l4x).trans x10
      have q11_ := (hSb.cell l4x).trans x11
      clear e70
      clear hF
      go_simp
      exact hK _ _ (Ext.refl _) trivial rfl
    refine ⟨fun y w' k hS hj hk hF K hK => ?_, ?_⟩
    · skip
      have e71 : y 71 = _ := hF.1
      simp only [fillL, cond_true, cond_false, zG0, zG1, StP.is, Act.put, zS2, zS0, zS1, Nat.reduceAdd, e71, MStP.is, Option.isSome_some, Option.isSome_none] at hK ⊢
      refine rg_yes (by kernel_rfl) ?_
      have hSb := hS.below
      have hBw := hSb.size
      have q0_ := (hSb.cell l4x).trans x0
      have q1_ := (hSb.cell l4x).trans x1
      have q2_ := (hSb.cell l4x).trans x2
      have q3_ := (hSb.cell l4x).trans x3
      have q4_ := (hSb.cell l4x).trans x4
      have q5_ := (hSb.cell l4x).trans x5
      have q6_ := (hSb.cell l4x).trans x6
      have q7_ := (hSb.cell l4x).trans x7
      have q8_ := (hSb.cell l4x).trans x8
      have q9_ := (hSb.cell l4x).trans x9
      have q10_ := (hSb.cell l4x).trans x10
      have q11_ := (hSb.cell l4x).trans x11
      clear e71
      clear hF
      go_simp
      go_at_call 34
      refine (l21Tree_any a b s m l d kk w').mono ?_
      rintro e w'' ⟨A2, c2, rfl, hI, hb9⟩
      exact hK _ _ hb9 trivial ⟨A2, c2, _, rfl, rfl, hI.mono hBw⟩
    refine ⟨fun y w' k hS hj hk hF K hK => ?_, ?_⟩
    · skip
      obtain ⟨ge69, e69, hge69⟩ := hF.1
      obtain ⟨Ae72, ce72, ne72, e72, hxe72, hIe72⟩ := hF.2.1
      have hne72 := Lib.hid hxe72; clear hxe72
      simp only [fillL, cond_true, cond_false, zG0, zG1, StP.is, Act.put, zS2, zS0, zS1, Nat.reduceAdd, e69, e72, MStP.is, Option.isSome_some, Option.isSome_none] at hK ⊢
      refine rg_yes (by kernel_rfl) ?_
      have hSb := hS.below
      have hBw := hSb.size
      have q0_ := (hSb.cell l4x).trans x0
      have q1_ := (hSb.cell l4x).trans x1
      have q2_ := (hSb.cell l4x).trans x2
      have q3_ := (hSb.cell l4x).trans x3
      have q4_ := (hSb.cell l4x).trans x4
      have q5_ := (hSb.cell l4x).trans x5
      have q6_ := (hSb.cell l4x).trans x6
      have q7_ := (hSb.cell l4x).trans x7
      have q8_ := (hSb.cell l4x).trans x8
      have q9_ := (hSb.cell l4x).trans x9
      have q10_ := (hSb.cell l4x).trans x10
      have q11_ := (hSb.cell l4x).trans x11
      clear e69 e72
      clear hF
      have hne72 := hne72.out
      have h3_ : ne72 = 3 := hne72
      refine wp_append_full (.tmp 69) (.tmp 72) 31 rfl 9 i0 (.string ByteArray.empty) 1 16 Tryz.underlying31 hi0 hz0 hz1 hz2 rfl (by decide) ⟨ge69, 0, none⟩ Ae72 4 4 ne72 ce72 (([numS i, nm, numS g, numS v]).map strV) ((treeS a b s m l d kk).map strV) rfl rfl (row_litM hge69 rfl rfl) (by rw [hne72, Nat.mul_one]; exact hIe72.row) (by omega) (by omega) (by unfold maxLen; omega) (by omega) ?_
      intro A' c' S' w'' hO' hS' hb'
      exact hK _ _ hb' trivial ⟨A', c', _, rfl, by rw [h3_]; rfl, ⟨S', by rw [h3_, ← List.map_append] at hO'; exact hO', fun g hg => Nat.le_trans hBw (hS' g hg)⟩⟩
    refine ⟨fun y w' k hS hj hk hF K hK => ?_, ?_⟩
    · skip
      simp only [fillL, cond_true, cond_false, zG0, zG1, StP.is, Act.put, zS2, zS0, zS1, Nat.reduceAdd, MStP.is, Option.isSome_some, Option.isSome_none] at hK ⊢
      refine rg_yes (by kernel_rfl) ?_
      clear hF
      go_simp
      exact hK _ _ (Ext.refl _) trivial rfl
    refine ⟨fun y w' k hS hj hk hF K hK => ?_, ?_⟩
    · skip
      have e74 : y 74 = _ := hF.1
      simp only [fillL, cond_true, cond_false, zG0, zG1, StP.is, Act.put, zS2, zS0, zS1, Nat.reduceAdd, e74, MStP.is, Option.isSome_some, Option.isSome_none] at hK ⊢
      refine rg_yes (by kernel_rfl) ?_
      have hSb := hS.below
      have hBw := hSb.size
      have q0_ := (hSb.cell l4x).trans x0
      have q1_ := (hSb.cell l4x).trans x1
      have q2_ := (hSb.cell l4x).trans x2
      have q3_ := (hSb.cell l4x).trans x3
      have q4_ := (hSb.cell l4x).trans x4
      have q5_ := (hSb.cell l4x).trans x5
      have q6_ := (hSb.cell l4x).trans x6
      have q7_ := (hSb.cell l4x).trans x7
      have q8_ := (hSb.cell l4x).trans x8
      have q9_ := (hSb.cell l4x).trans x9
      have q10_ := (hSb.cell l4x).trans x10
      have q11_ := (hSb.cell l4x).trans x11
      clear e74
      clear hF
      go_simp
      exact hK _ _ (Ext.alloc _ _) trivial ⟨_, _, _, rfl, rfl, StrsIn.lit (fs := [dt]) hBw (heap_alloc_new _ _) rfl (by unfold maxLen; simp)⟩
    refine ⟨fun y w' k hS hj hk hF K hK => ?_, ?_⟩
    · skip
      obtain ⟨Ae73, ce73, ne73, e73, hxe73, hIe73⟩ := hF.1
      have hne73 := Lib.hid hxe73; clear hxe73
      obtain ⟨Ae75, ce75, ne75, e75, hxe75, hIe75⟩ := hF.2.1
      have hne75 := Lib.hid hxe75; clear hxe75
      simp only [fillL, cond_true, cond_false, zG0, zG1, StP.is, Act.put, zS2, zS0, zS1, Nat.reduceAdd, e73, e75, MStP.is, Option.isSome_some, Option.isSome_none] at hK ⊢
      refine rg_yes (by kernel_rfl) ?_
      have hSb := hS.below
      have hBw := hSb.size
      have q0_ := (hSb.cell l4x).trans x0
      have q1_ := (hSb.cell l4x).trans x1
      have q2_ := (hSb.cell l4x).trans x2
      have q3_ := (hSb.cell l4x).trans x3
      have q4_ := (hSb.cell l4x).trans x4
      have q5_ := (hSb.cell l4x).trans x5
      have q6_ := (hSb.cell l4x).trans x6
      have q7_ := (hSb.cell l4x).trans x7
      have q8_ := (hSb.cell l4x).trans x8
      have q9_ := (hSb.cell l4x).trans x9
      have q10_ := (hSb.cell l4x).trans x10
      have q11_ := (hSb.cell l4x).trans x11
      clear e73 e75
      clear hF
      have hlr := (Nat.le_of_eq rfl : 0 ≤ 0)
      obtain ⟨Se73, hOS, hSB⟩ := hIe73
      have hne73 := hne73.out; have hne75 := hne75.out
      rw [← hne73] at hOS
      have hle1 : ne73 ≤ 7 := by rw [hne73]; exact Nat.le_refl 7
      have hle2 : ne75 ≤ 1 := by rw [hne75]; exact Nat.le_refl 1
      refine wp_append_row (.tmp 73) (.tmp 75) 31 rfl 9 i0 (.string ByteArray.empty) 1 16 Tryz.underlying31 hi0 hz0 hz1 hz2 rfl (by decide) Se73 Ae73 Ae75 ne73 ce73 ne75 ce75 (([numS i, nm, numS g, numS v] ++ treeS a b s m l d kk).map strV) (([dt]).map strV) rfl rfl hOS (by rw [hne75, Nat.mul_one]; exact hIe75.row) (strs_one _) (by unfold maxLen; omega) (by omega) ?_
      intro A' c' S' w'' hO' hS' hC'
      obtain ⟨hI9, hb9⟩ := app_strs (fs := [numS i, nm, numS g, numS v] ++ treeS a b s m l d kk) (gs := [dt]) hSB hBw (by rw [List.length_append, hne73, hne75]) hO' hS' hC'
      exact hK _ _ (fun _ => hb9) trivial ⟨A', c', _, rfl, by rw [hne73, hne75, ← List.length_append], hI9⟩
    refine ⟨fun y w' k hS hj hk hF K hK => ?_, ?_⟩
    · skip
      obtain ⟨Ae76, ce76, ne76, e76, hxe76, hIe76⟩ := hF.1
      have hne76 := Lib.hid hxe76; clear hxe76
      simp only [fillL, cond_true, cond_false, zG0, zG1, StP.is, Act.put, zS2, zS0, zS1, Nat.reduceAdd, e76, MStP.is, Option.isSome_some, Option.isSome_none] at hK ⊢
      refine rg_yes (by kernel_rfl) ?_
      have hSb := hS.below
      have hBw := hSb.size
      have q0_ := (hSb.cell l4x).trans x0
      have q1_ := (hSb.cell l4x).trans x1
      have q2_ := (hSb.cell l4x).trans x2
      have q3_ := (hSb.cell l4x).trans x3
      have q4_ := (hSb.cell l4x).trans x4
      have q5_ := (hSb.cell l4x).trans x5
      have q6_ := (hSb.cell l4x).trans x6
      have q7_ := (hSb.cell l4x).trans x7
      have q8_ := (hSb.cell l4x).trans x8
      have q9_ := (hSb.cell l4x).trans x9
      have q10_ := (hSb.cell l4x).trans x10
      have q11_ := (hSb.cell l4x).trans x11
      clear e76
      clear hF
      go_simp
      go_at_call 33
      have P5 := l21Rec_any Ae76 ce76 ([numS i, nm, numS g, numS v] ++ treeS a b s m l d kk ++ [dt]) 7 w' hIe76.row HLE.out (by rw [← hne76.out]; have h9 : ne76 = 8 := hne76.out; omega)
      rw [← hne76.out, RecR_def, HRT.out, HRB.out] at P5
      refine P5.mono ?_
      rintro e w'' ⟨rfl, hb9⟩
      exact hK _ _ hb9 trivial rfl
    refine ⟨fun y w' k hS hj hk hF K hK => ?_, ?_⟩
    · skip
      have e77 : y 77 = _ := hF.1
      simp only [fillL, cond_true, cond_false, zG0, zG1, StP.is, Act.put, zS2, zS0, zS1, Nat.reduceAdd, e77, MStP.is, Option.isSome_some, Option.isSome_none] at hK ⊢
      refine rg_yes (by kernel_rfl) ?_
      clear e77
      clear hF
      go_simp
      exact hK _ _ (Ext.refl _) trivial rfl
    refine ⟨fun y w' k hS hj hk hF K hK => ?_, ?_⟩
    · skip
      have e57 : y 57 = _ := hF.1
      simp only [fillL, cond_true, cond_false, zG0, zG1, StP.is, Act.put, zS2, zS0, zS1, Nat.reduceAdd, e57, MStP.is, Option.isSome_some, Option.isSome_none] at hK ⊢
      refine rg_yes (by kernel_rfl) ?_
      clear e57
      clear hF
      go_simp
      exact hK _ _ (Ext.refl _) trivial rfl
    refine ⟨fun y w' k hS hj hk hF K hK => ?_, ?_⟩
    · skip
      have e57 : y 57 = _ := hF.1
      simp only [fillL, cond_true, cond_false, zG0, zG1, StP.is, Act.put, zS2, zS0, zS1, Nat.reduceAdd, e57, MStP.is, Option.isSome_some, Option.isSome_none] at hK ⊢
      refine rg_yes (by kernel_rfl) ?_
      clear e57
      clear hF
      go_simp
      exact hK _ _ (Ext.refl _) trivial rfl
    refine ⟨fun y w' k hS hj hk hF K hK => ?_, ?_⟩
    · skip
      have e78 : y 78 = _ := hF.1
      simp only [fillL, cond_true, cond_false, zG0, zG1, StP.is, Act.put, zS2, zS0, zS1, Nat.reduceAdd, e78, MStP.is, Option.isSome_some, Option.isSome_none] at hK ⊢
      refine rg_yes (by kernel_rfl) ?_
      clear e78
      clear hF
      go_simp
      exact hK _ _ (Ext.refl _) trivial rfl
    refine ⟨fun y w' k hS hj hk hF K hK => ?_, ?_⟩
    · skip
      have e79 : y 79 = _ := hF.1
      simp only [fillL, cond_true, cond_false, zG0, zG1, StP.is, Act.put, zS2, zS0, zS1, Nat.reduceAdd, e79, MStP.is, Option.isSome_some, Option.isSome_none] at hK ⊢
      refine rg_yes (by kernel_rfl) ?_
      clear e79
      clear hF
      go_simp
      exact hK _ _ (Ext.refl _) trivial rfl
    trivial
   case hH => rfl
   case hNS => exact Own.of_ext _
   case hSt => exact fun a b => Own.trans a b
   case hJ => exact fun _ _ _ _ h => h
   case hdrew => exact Own.drew _ _
   case hj0 => trivial
   intro y w9 hS _ hF
   have e1_ : y 9 = _ := hF.1
   have e2_ : y 10 = _ := hF.2.1
   clear hF
   simp only [fillL, cond_true, cond_false, Nat.reduceAdd, e1_, e2_]
   clear e1_ e2_
   have hSb := hS.below
   have cn : w9.cell? ⟨wr.heap.size, 1, none⟩ = some (.string (strB nm)) := (hSb.cell l4x).trans x1
   have HYW := Lib.hid (HY4.out.trans (hSb.mono HY4.out.size))
   have HI9 := Lib.hid (HI.out.below HYW.out)
   have HB_W := Lib.hid (HBW.out.trans (HYW.out.mono HBW.out.size))
   have hB3 : w1.heap.size ≤ w9.heap.size := HB_W.out.size
   clear hS hSb x0 x1 x2 x3 x4 x5 x6 x7 x8 x9 x10 x11 l4x HY4 hbx4 HI HRT HRB HLE c9_0 c9_1
   cases okd
   · have HZ : Hid (rx = ([], false)) := Lib.hid (by rw [HR.out]; exact metaF_snap (k := k) HX.out (by rw [← HOK.out, HOX.out]; rfl))
     go_wp2_with fail
     exact bodyPost_ret (v := .tuple #[.string ⟨#[]⟩, .bool false]) (by simp [results, Tryz.results13, go_sem]) rfl ⟨by rw [HZ.out]; rfl, HBX.out.trans (HB_W.out.mono HBX.out.size)⟩
   cases okr
   · have HZ : Hid (rx = ([], false)) := Lib.hid (by rw [HR.out]; exact metaF_snap (k := k) HX.out (by rw [← HOK.out, HOX.out]; rfl))
     go_wp2_with fail
     exact bodyPost_ret (v := .tuple #[.string ⟨#[]⟩, .bool false]) (by simp [results, Tryz.results13, go_sem]) rfl ⟨by rw [HZ.out]; rfl, HBX.out.trans (HB_W.out.mono HBX.out.size)⟩
   have HXX : Hid (namB nm = okx) := Lib.hid (by rw [HOX.out]; rfl)
   go_wp2_with fail
   refine (spNameOk_any nm w9 (by have := HNM.out; omega)).mono ?_
   rw [HXX.out]
   rintro e_ w' ⟨rfl, rfl⟩
   clear HOX HXX cn
   cases okx
   · have HZ : Hid (rx = ([], false)) := Lib.hid (by rw [HR.out]; exact metaF_snap (k := k) HX.out HOK.out.symm)
     go_wp2_with fail
     exact bodyPost_ret (v := .tuple #[.string ⟨#[]⟩, .bool false]) (by simp [results, Tryz.results13, go_sem]) rfl ⟨by rw [HZ.out]; rfl, HBX.out.trans (HB_W.out.mono HBX.out.size)⟩
   have HPN := Lib.hid (upto_stepD HP.out HX.out HOK.out.symm)
   obtain ⟨gs, hgs⟩ : ∃ z, z = [[98, 97, 121], numS nx, bitS bo, numS (n1 : Nat)] ++ (ss.take k).map snapT := ⟨_, rfl⟩
   rw [← hgs] at HI9 HN HST
   have hgl := HN.out
   obtain ⟨S, hOS, hSB⟩ := HI9.out
   rw [← hgl] at hOS
   have HOA := Lib.hid (hOS.below (bel1 (o := .cells #[.string (strB tx)] 9)))
   have HLIT := Lib.hid (fun (W : World) => RowAt.lit (w := W) (e := 9) (cur := #[.string (strB tx)]) (m := 1) rfl)
   have HONE : Hid (∀ u ∈ [tx].map strV, u.oneCell' = true) := Lib.hid (strs_one _)
   have HSB := Lib.hid hSB; have HGL := Lib.hid hgl; have HGS := Lib.hid hgs
   have nu1 : IntKind.i64.wrap ((k : Int) + 1) = ((k + 1 : Nat) : Int) := by rw [IntWalk.i64_in _ (by omega)]; omega
   clear hOS hSB HI9 hgl hgs
   go_wp2_with (at_builtin; go_must (refine wpList_append_row rfl _ _ 31 rfl 9 i0 (.string ByteArray.empty) 1 16 Tryz.underlying31 hi0 hz0 hz1 hz2 rfl (by decide) S C _ m_ e 1 _ (gs.map strV) ([tx].map strV) rfl rfl HOA.out (HLIT.out _) HONE.out (by unfold maxLen; omega) (by omega) ?_))
   intro A' c' S' w5 hO' hS' hC'
   obtain ⟨hI5, hb5⟩ := app_strs (B := w1.heap.size) HSB.out (w1 := w9.alloc (.cells #[.string (strB tx)] 9)) (fs := gs) (gs := [tx]) (by simp; omega) (by rw [List.length_append, ← HGL.out]; rfl) hO' (fun g hg => (hS' g hg).imp id (fun h => by simpa using h)) hC'
   have HB5 := Lib.hid (HB_W.out.trans (((Below.refl _ _).alloc hB3 _).trans hb5))
   have HI5 := Lib.hid (HST.out ▸ hI5)
   have HN5 : Hid (m_ + 1 = ([[98, 97, 121], numS nx, bitS bo, numS (n1 : Nat)] ++ (ss.take (k + 1)).map snapT).length) := Lib.hid (by rw [HST.out, List.length_append, ← HGL.out]; rfl)
   clear hO' hS' hC' HOA HLIT HONE HSB hI5 hb5
   go_wp2_with fail
   go_roundw
   case rel => exact ⟨k + 1, A', m_ + 1, c', by omega, by go_num, rfl, by omega, HN5, HPN, HI5, HB5⟩
   simp [RowKit.intOf]; omega
 obtain rfl : n1 = k := by omega
 have HALL1 := Lib.hid (all_uptoD HL1.out HP.out)
 have HTK : Hid ([[98, 97, 121], numS nx, bitS bo, numS (n1 : Nat)] ++ (ss.take n1).map snapT = [[98, 97, 121], numS nx, bitS bo, numS (n1 : Nat)] ++ ss.map snapT) := Lib.hid (by rw [List.take_of_length_le (by rw [HL1.out]; exact Nat.le_refl _)])
 have HI := Lib.hid (HTK.out ▸ HI.out)
 have HN := Lib.hid (HTK.out ▸ HN.out)
 clear HTK HP
 go_wp2_with fail
 go_loopw [4, 11] (fun t i wr => ∃ (k : Nat) (C : Option Addr) (m e : Nat), k ≤ n0 ∧ i = .int .i64 (k : Int) ∧ t = .slice C m e ∧ m ≤ 20 + k ∧ Hid (m = ([[98, 97, 121], numS nx, bitS bo, numS (n1 : Nat)] ++ ss.map snapT ++ (hs.take k).map headT).length) ∧ Hid (∀ j x, j < k → hs[j]? = some x → headB x = true) ∧ Hid (StrsIn w1.heap.size wr C e ([[98, 97, 121], numS nx, bitS bo, numS (n1 : Nat)] ++ ss.map snapT ++ (hs.take k).map headT)) ∧ Hid (Below w1.heap.size w1 wr)) (fun _ i _ => n0 - (RowKit.intOf i).toNat)
 case atStart => exact ⟨0, _, _, _, Nat.zero_le _, rfl, rfl, by omega, Lib.hid (by simpa using HN.out), Lib.hid (fun j p hj => absurd hj (by omega)), Lib.hid (by simpa using HI.out), HBW⟩
 clear HI HBW HN c9_0 c9_1
 obtain ⟨k, C, m_, e, hk, rfl, rfl, hm_, HN, HP, HI, HBW⟩ := hrel
 have c9_0 := (HBW.out.cell l1).trans c1_0; have c9_1 := (HBW.out.cell l1).trans c1_1
 by_cases hlt : k < n0
 · obtain ⟨x, hp⟩ : ∃ x, hs[k]? = some x := ⟨hs[k]'(by rw [HL0.out]; exact hlt), List.getElem?_eq_getElem _⟩
   have HBR := Lib.hid (HBX.out.trans (HBW.out.mono HBX.out.size))
   obtain ⟨b_, off, hA_, _, _, bl, hc⟩ := (SliceR.below H0.out HBR.out (HeadR.below HBR.out H0.out.lo_le)).at_ (by omega)
   obtain ⟨cs, hcl, hcc, hr⟩ := hc k x hp
   have HBD := Lib.hid (HB0.out x (List.mem_of_getElem? hp))
   have HX := Lib.hid hp; clear hp hc
   subst hA_
   obtain ⟨nm, g, ⟨⟨a, b, s, m, l⟩, d, kk⟩, ps, u⟩ := x
   obtain ⟨Ad, nd, cd, rfl, hsz, hd⟩ := hr
   obtain ⟨nm, rfl⟩ : ∃ z, nm = strB z := ⟨nm.data.toList, (strB_data _).symm⟩
   have q0 := hcc 0 _ rfl; have q1 := hcc 1 _ rfl; have q2 := hcc 2 _ rfl; have q3 := hcc 3 _ rfl; have q4 := hcc 4 _ rfl; have q5 := hcc 5 _ rfl; have q6 := hcc 6 _ rfl; have q7 := hcc 7 _ rfl; have q8 := hcc 8 _ rfl; have q9 := hcc 9 _ rfl; have q10 := hcc 10 _ rfl
   simp only [Nat.add_zero] at q0
   have HD := Lib.hid hd
   have HLE : Hid (∀ f ∈ headL (strB nm, g, ((a, b, s, m, l), d, kk), ps, u), f.length ≤ 1099511627776) := Lib.hid (headL_le HBD.out.1 HBD.out.2)
   have HNM : Hid (nm.length ≤ 3000000) := Lib.hid (by have h := HBD.out.1; exact h)
   clear hcc hcl hsz hd
   have k0 : (0 : Int) ≤ (k : Int) := by omega
   have k1 : (k : Int) < (n0 : Int) := by omega
   obtain ⟨w2, hw2⟩ : ∃ W, W = wr.alloc (.cells #[.string (strB nm), .int .i64 g, .int .i64 a, .int .i64 b, .int .i64 s, .int .i64 m, .int .i64 l, .int .i64 d, .int .i64 kk, .slice Ad nd cd, .int .i64 u] 46) := ⟨_, rfl⟩
   have HY2 : Hid (Below wr.heap.size wr w2) := Lib.hid (by rw [hw2]; exact bel1)
   have hbx : Hid (w2.heap[wr.heap.size]? = some (.cells #[.string (strB nm), .int .i64 g, .int .i64 a, .int .i64 b, .int .i64 s, .int .i64 m, .int .i64 l, .int .i64 d, .int .i64 kk, .slice Ad nd cd, .int .i64 u] 46 (0, 0))) := Lib.hid (by rw [hw2]; exact heap_alloc_new _ _)
   go_wp2_with fail
   rw [← hw2]
   clear hw2 q0 q1 q2 q3 q4 q5 q6 q7 q8 q9 q10
   have x0 := celR 0 hbx.out; have x1 := celR 1 hbx.out; have x2 := celR 2 hbx.out; have x3 := celR 3 hbx.out; have x4 := celR 4 hbx.out; have x5 := celR 5 hbx.out; have x6 := celR 6 hbx.out; have x7 := celR 7 hbx.out; have x8 := celR 8 hbx.out; have x9 := celR 9 hbx.out; have x10 := celR 10 hbx.out
   have l2x := (Array.getElem?_eq_some_iff.1 hbx.out).1
   go_wp2_with fail
   have HB2 := Lib.hid (HBW.out.trans (HY2.out.mono HBW.out.size))
   refine (l21Dead_any Ad nd cd ps w2 lo hi (SliceR.below HD.out HY2.out (PtrR.below HY2.out HD.out.lo_le)) (by have h := HBD.out.2; have h2 := HD.out.len; (try simp only at h); omega)).mono ?_
   obtain ⟨tx, htx⟩ : ∃ X, X = headT (strB nm, g, ((a, b, s, m, l), d, kk), ps, u) := ⟨_, rfl⟩
   obtain ⟨okx, hokx⟩ : ∃ X, X = headB (strB nm, g, ((a, b, s, m, l), d, kk), ps, u) := ⟨_, rfl⟩
   obtain ⟨dt, hdt⟩ : ∃ X, X = (deadF ps).1 := ⟨_, rfl⟩
   obtain ⟨okd, hokd⟩ : ∃ X, X = (deadF ps).2 := ⟨_, rfl⟩
   rw [DeadR_def, ← hdt, ← hokd]
   obtain ⟨okr, hokr⟩ : ∃ X, X = (recF (headL (strB nm, g, ((a, b, s, m, l), d, kk), ps, u)) 5).2 := ⟨_, rfl⟩
   have HST := Lib.hid (take_snoc headT ([[98, 97, 121], numS nx, bitS bo, numS (n1 : Nat)] ++ ss.map snapT) HX.out)
   rw [← htx] at HST
   have HOX : Hid (okx = (okd && (okr && namB nm))) := Lib.hid (by rw [hokx, hokd, hokr]; rfl)
   have HOK := Lib.hid hokx
   have HLF : Hid (headL (strB nm, g, ((a, b, s, m, l), d, kk), ps, u) = [nm, numS g] ++ treeS a b s m l d kk ++ [dt, numS u]) := Lib.hid (by rw [hdt]; rfl)
   have HRT : Hid ((recF ([nm, numS g] ++ treeS a b s m l d kk ++ [dt, numS u]) 5).1 = tx) := Lib.hid (by rw [htx, ← HLF.out]; rfl)
   have HRB : Hid ((recF ([nm, numS g] ++ treeS a b s m l d kk ++ [dt, numS u]) 5).2 = okr) := Lib.hid (by rw [hokr, ← HLF.out])
   have HLE := Lib.hid (HLF.out ▸ HLE.out)
   rintro e_ w4 ⟨rfl, hb4⟩
   have HY4 := Lib.hid (HY2.out.trans (hb4.mono HY2.out.size))
   have hbx4 := Lib.hid ((hb4.block _ l2x).trans hbx.out)
   clear htx hokx hdt hokd hokr hb4 x0 x1 x2 x3 x4 x5 x6 x7 x8 x9 x10 l2x HY2 hbx HD HLF HB2
   have l4x := (Array.getElem?_eq_some_iff.1 hbx4.out).1
   have x0 := celR 0 hbx4.out; have x1 := celR 1 hbx4.out; have x2 := celR 2 hbx4.out; have x3 := celR 3 hbx4.out; have x4 := celR 4 hbx4.out; have x5 := celR 5 hbx4.out; have x6 := celR 6 hbx4.out; have x7 := celR 7 hbx4.out; have x8 := celR 8 hbx4.out; have x9 := celR 9 hbx4.out; have x10 := celR 10 hbx4.out
   go_wp2_with fail
   apply wp_region_rgm (Own (w4.heap.size)) (Ext) (fun _ _ => True) (0 :: 0 :: 0 :: 0 :: 0 :: 0 :: 0 :: 0 :: 0 :: 0 :: 0 :: 0 :: 0 :: 0 :: 0 :: 0 :: 0 :: 0 :: 0 :: 0 :: 0 :: 0 :: []) (by kernel_rfl) (false :: false :: false :: false :: false :: false :: false :: false :: false :: false :: false :: false :: false :: false :: false :: true :: true :: false :: false :: false :: false :: false :: false :: false :: false :: false :: false :: false :: false :: false :: false :: false :: false :: false :: false :: false :: false :: false :: false :: false :: false :: false :: false :: false :: false :: false :: false :: false :: false :: false :: false :: false :: false :: false :: false :: false :: false :: false :: false :: false :: false :: false :: false :: false :: false :: false :: false :: false :: false :: false :: false :: false :: false :: false :: false :: false :: false :: false :: false :: false :: false :: false :: false :: false :: false :: false :: false :: false :: false :: false :: false :: false :: false :: false :: false :: false :: false :: false :: false :: false :: false :: false :: false :: false :: false :: false :: false :: false :: false :: false :: false :: false :: false :: false :: true :: true :: true :: true :: true :: true :: true :: true :: true :: true :: true :: true :: true :: true :: true :: true :: true :: true :: true :: true :: false :: false :: false :: false :: false :: false :: false :: false :: false :: false :: false :: false :: false :: false :: false :: false :: false :: false :: false :: false :: []) (some 115 :: some 116 :: some 117 :: some 118 :: some 119 :: some 120 :: some 121 :: some 122 :: some 123 :: some 124 :: some 125 :: some 126 :: some 127 :: some 128 :: some 129 :: some 130 :: some 131 :: some 114 :: some 132 :: some 133 :: some 15 :: some 16 :: []) ([] :: [0] :: [] :: [2] :: [3] :: [1, 4] :: [] :: [6] :: [7] :: [5, 8] :: [] :: [] :: [11] :: [12] :: [10, 13] :: [9, 14] :: [15] :: [16] :: [17] :: [17] :: [18] :: [19] :: []) (false :: false :: false :: false :: false :: false :: false :: false :: false :: false :: false :: false :: false :: false :: false :: true :: false :: false :: false :: false :: false :: false :: []) (true :: true :: true :: true :: true :: false :: true :: true :: false :: false :: true :: true :: true :: true :: false :: false :: true :: true :: true :: true :: true :: true :: []) [20, 21] (MStP.is _ :: MStP.is _ :: MStP.is _ :: MStP.is _ :: MStP.is _ :: softLit (w4.heap.size) 9 (#[.string (strB nm), .string (strB (numS g))]) 2 :: MStP.is _ :: MStP.is _ :: softStrs (w4.heap.size) (treeS a b s m l d kk) :: softStrs (w4.heap.size) ([nm, numS g] ++ treeS a b s m l d kk) :: MStP.is _ :: MStP.is _ :: MStP.is _ :: MStP.is _ :: softStrs (w4.heap.size) ([dt, numS u]) :: softStrs (w4.heap.size) ([nm, numS g] ++ treeS a b s m l d kk ++ [dt, numS u]) :: MStP.is _ :: MStP.is _ :: MStP.is _ :: MStP.is _ :: MStP.is _ :: MStP.is _ :: []) (by kernel_rfl) (by kernel_rfl) (by kernel_rfl)
   case hobs =>
    refine ⟨fun y w' k hS hj hk hF K hK => ?_, ?_⟩
    · skip
      simp only [fillL, cond_true, cond_false, zG0, zG1, StP.is, Act.put, zS2, zS0, zS1, Nat.reduceAdd, MStP.is, Option.isSome_some, Option.isSome_none] at hK ⊢
      refine rg_yes (by kernel_rfl) ?_
      clear hF
      go_simp
      exact hK _ _ (Ext.refl _) trivial rfl
    refine ⟨fun y w' k hS hj hk hF K hK => ?_, ?_⟩
    · skip
      have e115 : y 115 = _ := hF.1
      simp only [fillL, cond_true, cond_false, zG0, zG1, StP.is, Act.put, zS2, zS0, zS1, Nat.reduceAdd, e115, MStP.is, Option.isSome_some, Option.isSome_none] at hK ⊢
      refine rg_yes (by kernel_rfl) ?_
      have hSb := hS.below
      have hBw := hSb.size
      have q0_ := (hSb.cell l4x).trans x0
      have q1_ := (hSb.cell l4x).trans x1
      have q2_ := (hSb.cell l4x).trans x2
      have q3_ := (hSb.cell l4x).trans x3
      have q4_ := (hSb.cell l4x).trans x4
      have q5_ := (hSb.cell l4x).trans x5
      have q6_ := (hSb.cell l4x).trans x6
      have q7_ := (hSb.cell l4x).trans x7
      have q8_ := (hSb.cell l4x).trans x8
      have q9_ := (hSb.cell l4x).trans x9
      have q10_ := (hSb.cell l4x).trans x10
      clear e115
      clear hF
      go_simp
      exact hK _ _ (Ext.refl _) trivial rfl
    refine ⟨fun y w' k hS hj hk hF K hK => ?_, ?_⟩
    · skip
      simp only [fillL, cond_true, cond_false, zG0, zG1, StP.is, Act.put, zS2, zS0, zS1, Nat.reduceAdd, MStP.is, Option.isSome_some, Option.isSome_none] at hK ⊢
      refine rg_yes (by kernel_rfl) ?_
      clear hF
      go_simp
      exact hK _ _ (Ext.refl _) trivial rfl
    refine ⟨fun y w' k hS hj hk hF K hK => ?_, ?_⟩
    · skip
      have e117 : y 117 = _ := hF.1
      simp only [fillL, cond_true, cond_false, zG0, zG1, StP.is, Act.put, zS2, zS0, zS1, Nat.reduceAdd, e117, MStP.is, Option.isSome_some, Option.isSome_none] at hK ⊢
      refine rg_yes (by kernel_rfl) ?_
      have hSb := hS.below
      have hBw := hSb.size
      have q0_ := (hSb.cell l4x).trans x0
      have q1_ := (hSb.cell l4x).trans x1
      have q2_ := (hSb.cell l4x).trans x2
      have q3_ := (hSb.cell l4x).trans x3
      have q4_ := (hSb.cell l4x).trans x4
      have q5_ := (hSb.cell l4x).trans x5
      have q6_ := (hSb.cell l4x).trans x6
      have q7_ := (hSb.cell l4x).trans x7
      have q8_ := (hSb.cell l4x).trans x8
      have q9_ := (hSb.cell l4x).trans x9
      have q10_ := (hSb.cell l4x).trans x10
      clear e117
      clear hF
      go_simp
      exact hK _ _ (Ext.refl _) trivial rfl
    refine ⟨fun y w' k hS hj hk hF K hK => ?_, ?_⟩
    · skip
      have e118 : y 118 = _ := hF.1
      simp only [fillL, cond_true, cond_false, zG0, zG1, StP.is, Act.put, zS2, zS0, zS1, Nat.reduceAdd, e118, MStP.is, Option.isSome_some, Option.isSome_none] at hK ⊢
      refine rg_yes (by kernel_rfl) ?_
      have hSb := hS.below
      have hBw := hSb.size
      have q0_ := (hSb.cell l4x).trans x0
      have q1_ := (hSb.cell l4x).trans x1
      have q2_ := (hSb.cell l4x).trans x2
      have q3_ := (hSb.cell l4x).trans x3
      have q4_ := (hSb.cell l4x).trans x4
      have q5_ := (hSb.cell l4x).trans x5
      have q6_ := (hSb.cell l4x).trans x6
      have q7_ := (hSb.cell l4x).trans x7
      have q8_ := (hSb.cell l4x).trans x8
      have q9_ := (hSb.cell l4x).trans x9
      have q10_ := (hSb.cell l4x).trans x10
      clear e118
      clear hF
      go_simp
      go_at_call 29
      refine (spNumPut_any g w').mono ?_
      rintro e w'' ⟨rfl, hb9⟩
      exact hK _ _ hb9 trivial rfl
    refine ⟨fun y w' k hS hj hk hF K hK => ?_, ?_⟩
    · skip
      have e116 : y 116 = _ := hF.1
      have e119 : y 119 = _ := hF.2.1
      simp only [fillL, cond_true, cond_false, zG0, zG1, StP.is, Act.put, zS2, zS0, zS1, Nat.reduceAdd, e116, e119, MStP.is, Option.isSome_some, Option.isSome_none] at hK ⊢
      refine rg_yes (by kernel_rfl) ?_
      have hSb := hS.below
      have hBw := hSb.size
      have q0_ := (hSb.cell l4x).trans x0
      have q1_ := (hSb.cell l4x).trans x1
      have q2_ := (hSb.cell l4x).trans x2
      have q3_ := (hSb.cell l4x).trans x3
      have q4_ := (hSb.cell l4x).trans x4
      have q5_ := (hSb.cell l4x).trans x5
      have q6_ := (hSb.cell l4x).trans x6
      have q7_ := (hSb.cell l4x).trans x7
      have q8_ := (hSb.cell l4x).trans x8
      have q9_ := (hSb.cell l4x).trans x9
      have q10_ := (hSb.cell l4x).trans x10
      clear e116 e119
      clear hF
      go_simp
      exact hK _ _ (Ext.alloc _ _) trivial ⟨_, rfl, heap_alloc_new _ _⟩
    refine ⟨fun y w' k hS hj hk hF K hK => ?_, ?_⟩
    · skip
      simp only [fillL, cond_true, cond_false, zG0, zG1, StP.is, Act.put, zS2, zS0, zS1, Nat.reduceAdd, MStP.is, Option.isSome_some, Option.isSome_none] at hK ⊢
      refine rg_yes (by kernel_rfl) ?_
      clear hF
      go_simp
      exact hK _ _ (Ext.refl _) trivial rfl
    refine ⟨fun y w' k hS hj hk hF K hK => ?_, ?_⟩
    · skip
      have e121 : y 121 = _ := hF.1
      simp only [fillL, cond_true, cond_false, zG0, zG1, StP.is, Act.put, zS2, zS0, zS1, Nat.reduceAdd, e121, MStP.is, Option.isSome_some, Option.isSome_none] at hK ⊢
      refine rg_yes (by kernel_rfl) ?_
      have hSb := hS.below
      have hBw := hSb.size
      have q0_ := (hSb.cell l4x).trans x0
      have q1_ := (hSb.cell l4x).trans x1
      have q2_ := (hSb.cell l4x).trans x2
      have q3_ := (hSb.cell l4x).trans x3
      have q4_ := (hSb.cell l4x).trans x4
      have q5_ := (hSb.cell l4x).trans x5
      have q6_ := (hSb.cell l4x).trans x6
      have q7_ := (hSb.cell l4x).trans x7
      have q8_ := (hSb.cell l4x).trans x8
      have q9_ := (hSb.cell l4x).trans x9
      have q10_ := (hSb.cell l4x).trans x10
      clear e121
      clear hF
      go_simp
      exact hK _ _ (Ext.refl _) trivial rfl
    refine ⟨fun y w' k hS hj hk hF K hK => ?_, ?_⟩
    · skip
      have e122 : y 122 = _ := hF.1
      simp only [fillL, cond_true, cond_false, zG0, zG1, StP.is, Act.put, zS2, zS0, zS1, Nat.reduceAdd, e122, MStP.is, Option.isSome_some, Option.isSome_none] at hK ⊢
      refine rg_yes (by kernel_rfl) ?_
      have hSb := hS.below
      have hBw := hSb.size
      have q0_ := (hSb.cell l4x).trans x0
      have q1_ := (hSb.cell l4x).trans x1
      have q2_ := (hSb.cell l4x).trans x2
      have q3_ := (hSb.cell l4x).trans x3
      have q4_ := (hSb.cell l4x).trans x4
      have q5_ := (hSb.cell l4x).trans x5
      have q6_ := (hSb.cell l4x).trans x6
      have q7_ := (hSb.cell l4x).trans x7
      have q8_ := (hSb.cell l4x).trans x8
      have q9_ := (hSb.cell l4x).trans x9
      have q10_ := (hSb.cell l4x).trans x10
      clear e122
      clear hF
      go_simp
      go_at_call 34
      refine (l21Tree_any a b s m l d kk w').mono ?_
      rintro e w'' ⟨A2, c2, rfl, hI, hb9⟩
      exact hK _ _ hb9 trivial ⟨A2, c2, _, rfl, rfl, hI.mono hBw⟩
    refine ⟨fun y w' k hS hj hk hF K hK => ?_, ?_⟩
    · skip
      obtain ⟨ge120, e120, hge120⟩ := hF.1
      obtain ⟨Ae123, ce123, ne123, e123, hxe123, hIe123⟩ := hF.2.1
      have hne123 := Lib.hid hxe123; clear hxe123
      simp only [fillL, cond_true, cond_false, zG0, zG1, StP.is, Act.put, zS2, zS0, zS1, Nat.reduceAdd, e120, e123, MStP.is, Option.isSome_some, Option.isSome_none] at hK ⊢
      refine rg_yes (by kernel_rfl) ?_
      have hSb := hS.below
      have hBw := hSb.size
      have q0_ := (hSb.cell l4x).trans x0
      have q1_ := (hSb.cell l4x).trans x1
      have q2_ := (hSb.cell l4x).trans x2
      have q3_ := (hSb.cell l4x).trans x3
      have q4_ := (hSb.cell l4x).trans x4
      have q5_ := (hSb.cell l4x).trans x5
      have q6_ := (hSb.cell l4x).trans x6
      have q7_ := (hSb.cell l4x).trans x7
      have q8_ := (hSb.cell l4x).trans x8
      have q9_ := (hSb.cell l4x).trans x9
      have q10_ := (hSb.cell l4x).trans x10
      clear e120 e123
      clear hF
      have hne123 := hne123.out
      have h3_ : ne123 = 3 := hne123
      refine wp_append_full (.tmp 120) (.tmp 123) 31 rfl 9 i0 (.string ByteArray.empty) 1 16 Tryz.underlying31 hi0 hz0 hz1 hz2 rfl (by decide) ⟨ge120, 0, none⟩ Ae123 2 2 ne123 ce123 (([nm, numS g]).map strV) ((treeS a b s m l d kk).map strV) rfl rfl (row_litM hge120 rfl rfl) (by rw [hne123, Nat.mul_one]; exact hIe123.row) (by omega) (by omega) (by unfold maxLen; omega) (by omega) ?_
      intro A' c' S' w'' hO' hS' hb'
      exact hK _ _ hb' trivial ⟨A', c', _, rfl, by rw [h3_]; rfl, ⟨S', by rw [h3_, ← List.map_append] at hO'; exact hO', fun g hg => Nat.le_trans hBw (hS' g hg)⟩⟩
    refine ⟨fun y w' k hS hj hk hF K hK => ?_, ?_⟩
    · skip
      simp only [fillL, cond_true, cond_false, zG0, zG1, StP.is, Act.put, zS2, zS0, zS1, Nat.reduceAdd, MStP.is, Option.isSome_some, Option.isSome_none] at hK ⊢
      refine rg_yes (by kernel_rfl) ?_
      clear hF
      go_simp
      exact hK _ _ (Ext.refl _) trivial rfl
    refine ⟨fun y w' k hS hj hk hF K hK => ?_, ?_⟩
    · skip
      simp only [fillL, cond_true, cond_false, zG0, zG1, StP.is, Act.put, zS2, zS0, zS1, Nat.reduceAdd, MStP.is, Option.isSome_some, Option.isSome_none] at hK ⊢
      refine rg_yes (by kernel_rfl) ?_
      clear hF
      go_simp
      exact hK _ _ (Ext.refl _) trivial rfl
    refine ⟨fun y w' k hS hj hk hF K hK => ?_, ?_⟩
    · skip
      have e126 : y 126 = _ := hF.1
      simp only [fillL, cond_true, cond_false, zG0, zG1, StP.is, Act.put, zS2, zS0, zS1, Nat.reduceAdd, e126, MStP.is, Option.isSome_some, Option.isSome_none] at hK ⊢
      refine rg_yes (by kernel_rfl) ?_
      have hSb := hS.below
      have hBw := hSb.size
      have q0_ := (hSb.cell l4x).trans x0
      have q1_ := (hSb.cell l4x).trans x1
      have q2_ := (hSb.cell l4x).trans x2
      have q3_ := (hSb.cell l4x).trans x3
      have q4_ := (hSb.cell l4x).trans x4
      have q5_ := (hSb.cell l4x).trans x5
      have q6_ := (hSb.cell l4x).trans x6
      have q7_ := (hSb.cell l4x).trans x7
      have q8_ := (hSb.cell l4x).trans x8
      have q9_ := (hSb.cell l4x).trans x9
      have q10_ := (hSb.cell l4x).trans x10
      clear e126
      clear hF
      go_simp
      exact hK _ _ (Ext.refl _) trivial rfl
    refine ⟨fun y w' k hS hj hk hF K hK => ?_, ?_⟩
    · skip
      have e127 : y 127 = _ := hF.1
      simp only [fillL, cond_true, cond_false, zG0, zG1, StP.is, Act.put, zS2, zS0, zS1, Nat.reduceAdd, e127, MStP.is, Option.isSome_some, Option.isSome_none] at hK ⊢
      refine rg_yes (by kernel_rfl) ?_
      have hSb := hS.below
      have hBw := hSb.size
      have q0_ := (hSb.cell l4x).trans x0
      have q1_ := (hSb.cell l4x).trans x1
      have q2_ := (hSb.cell l4x).trans x2
      have q3_ := (hSb.cell l4x).trans x3
      have q4_ := (hSb.cell l4x).trans x4
      have q5_ := (hSb.cell l4x).trans x5
      have q6_ := (hSb.cell l4x).trans x6
      have q7_ := (hSb.cell l4x).trans x7
      have q8_ := (hSb.cell l4x).trans x8
      have q9_ := (hSb.cell l4x).trans x9
      have q10_ := (hSb.cell l4x).trans x10
      clear e127
      clear hF
      go_simp
      go_at_call 29
      refine (spNumPut_any u w').mono ?_
      rintro e w'' ⟨rfl, hb9⟩
      exact hK _ _ hb9 trivial rfl
    refine ⟨fun y w' k hS hj hk hF K hK => ?_, ?_⟩
    · skip
      have e125 : y 125 = _ := hF.1
      have e128 : y 128 = _ := hF.2.1
      simp only [fillL, cond_true, cond_false, zG0, zG1, StP.is, Act.put, zS2, zS0, zS1, Nat.reduceAdd, e125, e128, MStP.is, Option.isSome_some, Option.isSome_none] at hK ⊢
      refine rg_yes (by kernel_rfl) ?_
      have hSb := hS.below
      have hBw := hSb.size
      have q0_ := (hSb.cell l4x).trans x0
      have q1_ := (hSb.cell l4x).trans x1
      have q2_ := (hSb.cell l4x).trans x2
      have q3_ := (hSb.cell l4x).trans x3
      have q4_ := (hSb.cell l4x).trans x4
      have q5_ := (hSb.cell l4x).trans x5
      have q6_ := (hSb.cell l4x).trans x6
      have q7_ := (hSb.cell l4x).trans x7
      have q8_ := (hSb.cell l4x).trans x8
      have q9_ := (hSb.cell l4x).trans x9
      have q10_ := (hSb.cell l4x).trans x10
      clear e125 e128
      clear hF
      go_simp
      exact hK _ _ (Ext.alloc _ _) trivial ⟨_, _, _, rfl, rfl, StrsIn.lit (fs := [dt, numS u]) hBw (heap_alloc_new _ _) rfl (by unfold maxLen; simp)⟩
    refine ⟨fun y w' k hS hj hk hF K hK => ?_, ?_⟩
    · skip
      obtain ⟨Ae124, ce124, ne124, e124, hxe124, hIe124⟩ := hF.1
      have hne124 := Lib.hid hxe124; clear hxe124
      obtain ⟨Ae129, ce129, ne129, e129, hxe129, hIe129⟩ := hF.2.1
      have hne129 := Lib.hid hxe129; clear hxe129
      simp only [fillL, cond_true, cond_false, zG0, zG1, StP.is, Act.put, zS2, zS0, zS1, Nat.reduceAdd, e124, e129, MStP.is, Option.isSome_some, Option.isSome_none] at hK ⊢
      refine rg_yes (by kernel_rfl) ?_
      have hSb := hS.below
      have hBw := hSb.size
      have q0_ := (hSb.cell l4x).trans x0
      have q1_ := (hSb.cell l4x).trans x1
      have q2_ := (hSb.cell l4x).trans x2
      have q3_ := (hSb.cell l4x).trans x3
      have q4_ := (hSb.cell l4x).trans x4
      have q5_ := (hSb.cell l4x).trans x5
      have q6_ := (hSb.cell l4x).trans x6
      have q7_ := (hSb.cell l4x).trans x7
      have q8_ := (hSb.cell l4x).trans x8
      have q9_ := (hSb.cell l4x).trans x9
      have q10_ := (hSb.cell l4x).trans x10
      clear e124 e129
      clear hF
      have hlr := (Nat.le_of_eq rfl : 0 ≤ 0)
      obtain ⟨Se124, hOS, hSB⟩ := hIe124
      have hne124 := hne124.out; have hne129 := hne129.out
      rw [← hne124] at hOS
      have hle1 : ne124 ≤ 5 := by rw [hne124]; exact Nat.le_refl 5
      have hle2 : ne129 ≤ 2 := by rw [hne129]; exact Nat.le_refl 2
      refine wp_append_row (.tmp 124) (.tmp 129) 31 rfl 9 i0 (.string ByteArray.empty) 1 16 Tryz.underlying31 hi0 hz0 hz1 hz2 rfl (by decide) Se124 Ae124 Ae129 ne124 ce124 ne129 ce129 (([nm, numS g] ++ treeS a b s m l d kk).map strV) (([dt, numS u]).map strV) rfl rfl hOS (by rw [hne129, Nat.mul_one]; exact hIe129.row) (strs_one _) (by unfold maxLen; omega) (by omega) ?_
      intro A' c' S' w'' hO' hS' hC'
      obtain ⟨hI9, hb9⟩ := app_strs (fs := [nm, numS g] ++ treeS a b s m l d kk) (gs := [dt, numS u]) hSB hBw (by rw [List.length_append, hne124, hne129]) hO' hS' hC'
      exact hK _ _ (fun _ => hb9) trivial ⟨A', c', _, rfl, by rw [hne124, hne129, ← List.length_append], hI9⟩
    refine ⟨fun y w' k hS hj hk hF K hK => ?_, ?_⟩
    · skip
      obtain ⟨Ae130, ce130, ne130, e130, hxe130, hIe130⟩ := hF.1
      have hne130 := Lib.hid hxe130; clear hxe130
      simp only [fillL, cond_true, cond_false, zG0, zG1, StP.is, Act.put, zS2, zS0, zS1, Nat.reduceAdd, e130, MStP.is, Option.isSome_some, Option.isSome_none] at hK ⊢
      refine rg_yes (by kernel_rfl) ?_
      have hSb := hS.below
      have hBw := hSb.size
      have q0_ := (hSb.cell l4x).trans x0
      have q1_ := (hSb.cell l4x).trans x1
      have q2_ := (hSb.cell l4x).trans x2
      have q3_ := (hSb.cell l4x).trans x3
      have q4_ := (hSb.cell l4x).trans x4
      have q5_ := (hSb.cell l4x).trans x5
      have q6_ := (hSb.cell l4x).trans x6
      have q7_ := (hSb.cell l4x).trans x7
      have q8_ := (hSb.cell l4x).trans x8
      have q9_ := (hSb.cell l4x).trans x9
      have q10_ := (hSb.cell l4x).trans x10
      clear e130
      clear hF
      go_simp
      go_at_call 33
      have P5 := l21Rec_any Ae130 ce130 ([nm, numS g] ++ treeS a b s m l d kk ++ [dt, numS u]) 5 w' hIe130.row HLE.out (by rw [← hne130.out]; have h9 : ne130 = 7 := hne130.out; omega)
      rw [← hne130.out, RecR_def, HRT.out, HRB.out] at P5
      refine P5.mono ?_
      rintro e w'' ⟨rfl, hb9⟩
      exact hK _ _ hb9 trivial rfl
    refine ⟨fun y w' k hS hj hk hF K hK => ?_, ?_⟩
    · skip
      have e131 : y 131 = _ := hF.1
      simp only [fillL, cond_true, cond_false, zG0, zG1, StP.is, Act.put, zS2, zS0, zS1, Nat.reduceAdd, e131, MStP.is, Option.isSome_some, Option.isSome_none] at hK ⊢
      refine rg_yes (by kernel_rfl) ?_
      clear e131
      clear hF
      go_simp
      exact hK _ _ (Ext.refl _) trivial rfl
    refine ⟨fun y w' k hS hj hk hF K hK => ?_, ?_⟩
    · skip
      have e114 : y 114 = _ := hF.1
      simp only [fillL, cond_true, cond_false, zG0, zG1, StP.is, Act.put, zS2, zS0, zS1, Nat.reduceAdd, e114, MStP.is, Option.isSome_some, Option.isSome_none] at hK ⊢
      refine rg_yes (by kernel_rfl) ?_
      clear e114
      clear hF
      go_simp
      exact hK _ _ (Ext.refl _) trivial rfl
    refine ⟨fun y w' k hS hj hk hF K hK => ?_, ?_⟩
    · skip
      have e114 : y 114 = _ := hF.1
      simp only [fillL, cond_true, cond_false, zG0, zG1, StP.is, Act.put, zS2, zS0, zS1, Nat.reduceAdd, e114, MStP.is, Option.isSome_some, Option.isSome_none] at hK ⊢
      refine rg_yes (by kernel_rfl) ?_
      clear e114
      clear hF
      go_simp
      exact hK _ _ (Ext.refl _) trivial rfl
    refine ⟨fun y w' k hS hj hk hF K hK => ?_, ?_⟩
    · skip
      have e132 : y 132 = _ := hF.1
      simp only [fillL, cond_true, cond_false, zG0, zG1, StP.is, Act.put, zS2, zS0, zS1, Nat.reduceAdd, e132, MStP.is, Option.isSome_some, Option.isSome_none] at hK ⊢
      refine rg_yes (by kernel_rfl) ?_
      clear e132
      clear hF
      go_simp
      exact hK _ _ (Ext.refl _) trivial rfl
    refine ⟨fun y w' k hS hj hk hF K hK => ?_, ?_⟩
    · skip
      have e133 : y 133 = _ := hF.1
      simp only [fillL, cond_true, cond_false, zG0, zG1, StP.is, Act.put, zS2, zS0, zS1, Nat.reduceAdd, e133, MStP.is, Option.isSome_some, Option.isSome_none] at hK ⊢
      refine rg_yes (by kernel_rfl) ?_
      clear e133
      clear hF
      go_simp
      exact hK _ _ (Ext.refl _) trivial rfl
    trivial
   case hH => rfl
   case hNS => exact Own.of_ext _
   case hSt => exact fun a b => Own.trans a b
   case hJ => exact fun _ _ _ _ h => h
   case hdrew => exact Own.drew _ _
   case hj0 => trivial
   intro y w9 hS _ hF
   have e1_ : y 15 = _ := hF.1
   have e2_ : y 16 = _ := hF.2.1
   clear hF
   simp only [fillL, cond_true, cond_false, Nat.reduceAdd, e1_, e2_]
   clear e1_ e2_
   have hSb := hS.below
   have cn : w9.cell? ⟨wr.heap.size, 0, none⟩ = some (.string (strB nm)) := (hSb.cell l4x).trans x0
   have HYW := Lib.hid (HY4.out.trans (hSb.mono HY4.out.size))
   have HI9 := Lib.hid (HI.out.below HYW.out)
   have HB_W := Lib.hid (HBW.out.trans (HYW.out.mono HBW.out.size))
   have hB3 : w1.heap.size ≤ w9.heap.size := HB_W.out.size
   clear hS hSb x0 x1 x2 x3 x4 x5 x6 x7 x8 x9 x10 l4x HY4 hbx4 HI HRT HRB HLE c9_0 c9_1
   cases okd
   · have HZ : Hid (rx = ([], false)) := Lib.hid (by rw [HR.out]; exact metaF_head (k := k) HX.out (by rw [← HOK.out, HOX.out]; rfl))
     go_wp2_with fail
     exact bodyPost_ret (v := .tuple #[.string ⟨#[]⟩, .bool false]) (by simp [results, Tryz.results13, go_sem]) rfl ⟨by rw [HZ.out]; rfl, HBX.out.trans (HB_W.out.mono HBX.out.size)⟩
   cases okr
   · have HZ : Hid (rx = ([], false)) := Lib.hid (by rw [HR.out]; exact metaF_head (k := k) HX.out (by rw [← HOK.out, HOX.out]; rfl))
     go_wp2_with fail
     exact bodyPost_ret (v := .tuple #[.string ⟨#[]⟩, .bool false]) (by simp [results, Tryz.results13, go_sem]) rfl ⟨by rw [HZ.out]; rfl, HBX.out.trans (HB_W.out.mono HBX.out.size)⟩
   have HXX : Hid (namB nm = okx) := Lib.hid (by rw [HOX.out]; rfl)
   go_wp2_with fail
   refine (spNameOk_any nm w9 (by have := HNM.out; omega)).mono ?_
   rw [HXX.out]
   rintro e_ w' ⟨rfl, rfl⟩
   clear HOX HXX cn
   cases okx
   · have HZ : Hid (rx = ([], false)) := Lib.hid (by rw [HR.out]; exact metaF_head (k := k) HX.out HOK.out.symm)
     go_wp2_with fail
     exact bodyPost_ret (v := .tuple #[.string ⟨#[]⟩, .bool false]) (by simp [results, Tryz.results13, go_sem]) rfl ⟨by rw [HZ.out]; rfl, HBX.out.trans (HB_W.out.mono HBX.out.size)⟩
   have HPN := Lib.hid (upto_stepD HP.out HX.out HOK.out.symm)
   obtain ⟨gs, hgs⟩ : ∃ z, z = [[98, 97, 121], numS nx, bitS bo, numS (n1 : Nat)] ++ ss.map snapT ++ (hs.take k).map headT := ⟨_, rfl⟩
   rw [← hgs] at HI9 HN HST
   have hgl := HN.out
   obtain ⟨S, hOS, hSB⟩ := HI9.out
   rw [← hgl] at hOS
   have HOA := Lib.hid (hOS.below (bel1 (o := .cells #[.string (strB tx)] 9)))
   have HLIT := Lib.hid (fun (W : World) => RowAt.lit (w := W) (e := 9) (cur := #[.string (strB tx)]) (m := 1) rfl)
   have HONE : Hid (∀ u ∈ [tx].map strV, u.oneCell' = true) := Lib.hid (strs_one _)
   have HSB := Lib.hid hSB; have HGL := Lib.hid hgl; have HGS := Lib.hid hgs
   have nu1 : IntKind.i64.wrap ((k : Int) + 1) = ((k + 1 : Nat) : Int) := by rw [IntWalk.i64_in _ (by omega)]; omega
   clear hOS hSB HI9 hgl hgs
   go_wp2_with (at_builtin; go_must (refine wpList_append_row rfl _ _ 31 rfl 9 i0 (.string ByteArray.empty) 1 16 Tryz.underlying31 hi0 hz0 hz1 hz2 rfl (by decide) S C _ m_ e 1 _ (gs.map strV) ([tx].map strV) rfl rfl HOA.out (HLIT.out _) HONE.out (by unfold maxLen; omega) (by omega) ?_))
   intro A' c' S' w5 hO' hS' hC'
   obtain ⟨hI5, hb5⟩ := app_strs (B := w1.heap.size) HSB.out (w1 := w9.alloc (.cells #[.string (strB tx)] 9)) (fs := gs) (gs := [tx]) (by simp; omega) (by rw [List.length_append, ← HGL.out]; rfl) hO' (fun g hg => (hS' g hg).imp id (fun h => by simpa using h)) hC'
   have HB5 := Lib.hid (HB_W.out.trans (((Below.refl _ _).alloc hB3 _).trans hb5))
   have HI5 := Lib.hid (HST.out ▸ hI5)
   have HN5 : Hid (m_ + 1 = ([[98, 97, 121], numS nx, bitS bo, numS (n1 : Nat)] ++ ss.map snapT ++ (hs.take (k + 1)).map headT).length) := Lib.hid (by rw [HST.out, List.length_append, ← HGL.out]; rfl)
   clear hO' hS' hC' HOA HLIT HONE HSB hI5 hb5
   go_wp2_with fail
   go_roundw
   case rel => exact ⟨k + 1, A', m_ + 1, c', by omega, by go_num, rfl, by omega, HN5, HPN, HI5, HB5⟩
   simp [RowKit.intOf]; omega
 obtain rfl : n0 = k := by omega
 have HALL0 := Lib.hid (all_uptoD HL0.out HP.out)
 have HTK : Hid ([[98, 97, 121], numS nx, bitS bo, numS (n1 : Nat)] ++ ss.map snapT ++ (hs.take n0).map headT = [[98, 97, 121], numS nx, bitS bo, numS (n1 : Nat)] ++ ss.map snapT ++ hs.map headT) := Lib.hid (by rw [List.take_of_length_le (by rw [HL0.out]; exact Nat.le_refl _)])
 have HI := Lib.hid (HTK.out ▸ HI.out)
 have HN := Lib.hid (HTK.out ▸ HN.out)
 clear HTK HP
 go_wp2_with fail
 have HFS : Hid ([[98, 97, 121], numS nx, bitS bo, numS (n1 : Nat)] ++ ss.map snapT ++ hs.map headT = metaL (hs, ss, nx, bo)) := Lib.hid (by unfold metaL metaH; simp only [HL1.out])
 have HRY : Hid (rx = recF (metaL (hs, ss, nx, bo)) (-1)) := Lib.hid (by rw [HR.out]; exact metaF_yes HSZ.out HALL1.out HALL0.out)
 have HLE := Lib.hid (metaL_le (hs, ss, nx, bo))
 rw [HFS.out] at HI HN
 generalize metaL (hs, ss, nx, bo) = fs at *
 have P5 := l21Rec_any C e fs (-1) wr HI.out.row HLE.out (by have := HN.out; omega)
 rw [← HN.out, RecR_def, ← HRY.out] at P5
 refine P5.mono ?_
 rintro e_ w6 ⟨rfl, hb6⟩
 have HB6 := Lib.hid (HBW.out.trans (hb6.mono HBW.out.size))
 clear hb6 P5
 go_wp2_with fail
 exact bodyPost_ret (v := .tuple #[.string (strB rx.1), .bool rx.2]) (by simp [results, Tryz.results13, go_sem]) rfl ⟨rfl, HBX.out.trans (HB6.out.mono HBX.out.size)⟩
end Go.Proofs.YtlacpcdbgimnmaaGreatDoor
