/- How deep a tree is, how many pieces a node has, whether a node is formed: the program and the reference. No condition. -/
import Derived.Test.YtjnhiiaejeaikaaGreatDoorRNodePlain
import Derived.Test.YtjnhiiaejeaikaaGreatDoorRStorePlain
set_option linter.unnecessarySimpa false
set_option linter.unusedSimpArgs false
set_option linter.unusedVariables false
namespace Go.Proofs.YtjnhiiaejeaikaaGreatDoor
open Go Go.Lib Go.RowKit
abbrev rl0NodeOk : List Bool := (false :: false :: false :: false :: false :: false :: false :: false :: false :: false :: true :: true :: true :: true :: true :: true :: true :: true :: true :: true :: true :: true :: true :: true :: true :: true :: true :: true :: true :: true :: true :: true :: true :: true :: false :: false :: false :: false :: false :: false :: false :: false :: false :: false :: false :: false :: false :: false :: false :: false :: false :: false :: false :: false :: false :: false :: false :: [])
abbrev rl1NodeOk : List (Option Nat) := (some 10 :: some 11 :: some 12 :: some 13 :: some 14 :: some 15 :: some 16 :: some 17 :: some 18 :: some 19 :: some 20 :: some 21 :: some 22 :: some 23 :: some 24 :: some 25 :: some 26 :: some 27 :: some 28 :: some 29 :: some 30 :: some 31 :: some 32 :: some 33 :: [])
abbrev rl2NodeOk : List (List Nat) := ([] :: [0] :: [1] :: [2] :: [2, 3] :: [2, 4] :: [2] :: [2, 5, 6] :: [2, 7] :: [8] :: [9] :: [9, 10] :: [9, 11] :: [9] :: [9, 13] :: [9, 12, 14] :: [9, 15] :: [16] :: [17] :: [17, 18] :: [17, 19] :: [17, 20] :: [17, 21] :: [17, 22] :: [])
def nodeV (n : NodeD) : Value := .agg #[.int .i64 n.1, .int .i64 n.2.1, .int .i64 n.2.2.1, .int .i64 n.2.2.2.1.1, .int .i64 n.2.2.2.1.2.1, .int .i64 n.2.2.2.1.2.2.1, .int .i64 n.2.2.2.1.2.2.2.1, .int .i64 n.2.2.2.1.2.2.2.2, .int .i64 n.2.2.2.2.1, .int .i64 n.2.2.2.2.2]
theorem nodeV_mk (i j z a b s m l d n : Int) : nodeV (i, j, z, (a, b, s, m, l), d, n) = .agg #[.int .i64 i, .int .i64 j, .int .i64 z, .int .i64 a, .int .i64 b, .int .i64 s, .int .i64 m, .int .i64 l, .int .i64 d, .int .i64 n] := rfl
theorem tdiv_12 (z : Int) (h : 0 ≤ z) : (z + 12 - 1).tdiv 12 = (z + 12 - 1) / 12 := Int.tdiv_eq_ediv_of_nonneg (by omega)
theorem tdiv_128 (z : Int) (h : 0 ≤ z) : (z + 128 - 1).tdiv 128 = (z + 128 - 1) / 128 := Int.tdiv_eq_ediv_of_nonneg (by omega)
theorem pieces_in {k z e : Int} (he : eachF k = e) (h0 : e ≠ 0) (h : 0 ≤ z ∧ z ≤ 16 * e) : piecesF k z = (z + e - 1) / e := by
 unfold piecesF
 rw [he, if_neg (fun hc => hc.elim h0 (fun hn => hn h))]
theorem pieces_out {k z e : Int} (he : eachF k = e) (h : ¬ (0 ≤ z ∧ z ≤ 16 * e)) : piecesF k z = -1 := by
 unfold piecesF
 rw [he, if_pos (.inr h)]
theorem pieces_none {k z : Int} (he : eachF k = 0) : piecesF k z = -1 := by
 unfold piecesF
 rw [if_pos (.inl he)]
theorem depthOf_any (n : Int) (w : World) : Calls Tryz.prog 83 #[.int .i64 n] w fun e w' => e = .returned (.int .i64 (depthF n)) ∧ w = w' := by
 by_cases h1 : n ≤ 1
 · have HN : Hid (0 = depthF n) := Lib.hid (by unfold depthF; rw [if_pos h1])
   go_enter Tryz.func83, Tryz.ntmps83
   go_wp2_with fail
   go_ret
   exact ⟨ret_int HN.out, rfl⟩
 by_cases h2 : n ≤ 4
 · have HN : Hid (1 = depthF n) := Lib.hid (by unfold depthF; rw [if_neg h1, if_pos h2])
   go_enter Tryz.func83, Tryz.ntmps83
   go_wp2_with fail
   go_ret
   exact ⟨ret_int HN.out, rfl⟩
 have HN : Hid (2 = depthF n) := Lib.hid (by unfold depthF; rw [if_neg h1, if_neg h2])
 go_enter Tryz.func83, Tryz.ntmps83
 go_wp2_with fail
 go_ret
 exact ⟨ret_int HN.out, rfl⟩
theorem l8Depth_any (n : Int) (w : World) : Calls Tryz.prog 74 #[.int .i64 n] w fun e w' => e = .returned (.int .i64 (depthF n)) ∧ w = w' := by
 by_cases h1 : n ≤ 1
 · have HN : Hid (0 = depthF n) := Lib.hid (by unfold depthF; rw [if_pos h1])
   go_enter Tryz.func74, Tryz.ntmps74
   go_wp2_with fail
   go_ret
   exact ⟨ret_int HN.out, rfl⟩
 by_cases h2 : n ≤ 4
 · have HN : Hid (1 = depthF n) := Lib.hid (by unfold depthF; rw [if_neg h1, if_pos h2])
   go_enter Tryz.func74, Tryz.ntmps74
   go_wp2_with fail
   go_ret
   exact ⟨ret_int HN.out, rfl⟩
 have HN : Hid (2 = depthF n) := Lib.hid (by unfold depthF; rw [if_neg h1, if_neg h2])
 go_enter Tryz.func74, Tryz.ntmps74
 go_wp2_with fail
 go_ret
 exact ⟨ret_int HN.out, rfl⟩
theorem l10Each_any (n : Int) (w : World) : Calls Tryz.prog 110 #[.int .i64 n] w fun e w' => e = .returned (.int .i64 (eachF n)) ∧ w = w' := by
 by_cases h1 : n = 1
 · have HN : Hid (12 = eachF n) := Lib.hid (by unfold eachF; rw [if_pos h1])
   have d1 : (n == 1) = true := by simpa using h1
   clear h1
   go_enter Tryz.func110, Tryz.ntmps110
   go_wp2_with fail
   go_ret
   exact ⟨ret_int HN.out, rfl⟩
 have d1 : (n == 1) = false := by simpa using h1
 by_cases h2 : n = 2
 · have HN : Hid (128 = eachF n) := Lib.hid (by unfold eachF; rw [if_neg h1, if_pos h2])
   have d2 : (n == 2) = true := by simpa using h2
   clear h1 h2
   go_enter Tryz.func110, Tryz.ntmps110
   go_wp2_with fail
   go_ret
   exact ⟨ret_int HN.out, rfl⟩
 have HN : Hid (0 = eachF n) := Lib.hid (by unfold eachF; rw [if_neg h1, if_neg h2])
 have d2 : (n == 2) = false := by simpa using h2
 clear h1 h2
 go_enter Tryz.func110, Tryz.ntmps110
 go_wp2_with fail
 go_ret
 exact ⟨ret_int HN.out, rfl⟩
set_option maxHeartbeats 1000000 in
theorem nodePieces_any (n z : Int) (w : World) : Calls Tryz.prog 122 #[.int .i64 n, .int .i64 z] w fun e w' => e = .returned (.int .i64 (piecesF n z)) ∧ w = w' := by
 by_cases h1 : n = 1
 · have he : eachF n = 12 := by unfold eachF; rw [if_pos h1]
   have d1 : (n == 1) = true := by simpa using h1
   have HE := Lib.hid he; clear he h1
   by_cases hz : 0 ≤ z ∧ z ≤ 16 * 12
   · have HN := Lib.hid (pieces_in HE.out (by decide) hz)
     have hi : inB z 0 192 = true := by unfold inB; simp; omega
     have HI := Lib.hid hi; clear hi
     have u1 : IntKind.i64.wrap (z + 12) = z + 12 := IntWalk.i64_in _ (by omega)
     have u2 : IntKind.i64.wrap (z + 12 - 1) = z + 12 - 1 := IntWalk.i64_in _ (by omega)
     have u3 := tdiv_12 z hz.1
     have u4 : IntKind.i64.wrap ((z + 12 - 1) / 12) = (z + 12 - 1) / 12 := IntWalk.i64_in _ (by omega)
     clear hz
     go_enter Tryz.func122, Tryz.ntmps122
     go_wp2_with fail
     refine (within_any z 0 192 _).mono ?_
     rw [HI.out]
     rintro e w1 ⟨rfl, rfl⟩
     go_wp2_with fail
     go_ret
     exact ⟨ret_int HN.out.symm, rfl⟩
   have HN := Lib.hid (pieces_out HE.out hz)
   have hi : inB z 0 192 = false := inB_no (by omega)
   have HI := Lib.hid hi; clear hi hz
   go_enter Tryz.func122, Tryz.ntmps122
   go_wp2_with fail
   refine (within_any z 0 192 _).mono ?_
   rw [HI.out]
   rintro e w1 ⟨rfl, rfl⟩
   go_wp2_with fail
   go_ret
   exact ⟨ret_int HN.out.symm, rfl⟩
 have d1 : (n == 1) = false := by simpa using h1
 by_cases h2 : n = 2
 · have he : eachF n = 128 := by unfold eachF; rw [if_neg h1, if_pos h2]
   have d2 : (n == 2) = true := by simpa using h2
   have HE := Lib.hid he; clear he h1 h2
   by_cases hz : 0 ≤ z ∧ z ≤ 16 * 128
   · have HN := Lib.hid (pieces_in HE.out (by decide) hz)
     have hi : inB z 0 2048 = true := by unfold inB; simp; omega
     have HI := Lib.hid hi; clear hi
     have u1 : IntKind.i64.wrap (z + 128) = z + 128 := IntWalk.i64_in _ (by omega)
     have u2 : IntKind.i64.wrap (z + 128 - 1) = z + 128 - 1 := IntWalk.i64_in _ (by omega)
     have u3 := tdiv_128 z hz.1
     have u4 : IntKind.i64.wrap ((z + 128 - 1) / 128) = (z + 128 - 1) / 128 := IntWalk.i64_in _ (by omega)
     clear hz
     go_enter Tryz.func122, Tryz.ntmps122
     go_wp2_with fail
     refine (within_any z 0 2048 _).mono ?_
     rw [HI.out]
     rintro e w1 ⟨rfl, rfl⟩
     go_wp2_with fail
     go_ret
     exact ⟨ret_int HN.out.symm, rfl⟩
   have HN := Lib.hid (pieces_out HE.out hz)
   have hi : inB z 0 2048 = false := inB_no (by omega)
   have HI := Lib.hid hi; clear hi hz
   go_enter Tryz.func122, Tryz.ntmps122
   go_wp2_with fail
   refine (within_any z 0 2048 _).mono ?_
   rw [HI.out]
   rintro e w1 ⟨rfl, rfl⟩
   go_wp2_with fail
   go_ret
   exact ⟨ret_int HN.out.symm, rfl⟩
 have he : eachF n = 0 := by unfold eachF; rw [if_neg h1, if_neg h2]
 have d2 : (n == 2) = false := by simpa using h2
 have HN := Lib.hid (pieces_none (z := z) he)
 have HE := Lib.hid he; clear he h1 h2
 go_enter Tryz.func122, Tryz.ntmps122
 go_wp2_with fail
 go_ret
 exact ⟨ret_int HN.out.symm, rfl⟩
set_option maxHeartbeats 1000000 in
theorem l10Pieces_any (z e : Int) (w : World) (u1 : IntKind.i64.wrap (z + e) = z + e) (u2 : IntKind.i64.wrap (z + e - 1) = z + e - 1) (u4 : IntKind.i64.wrap ((z + e - 1).tdiv e) = (z + e - 1).tdiv e) (h0 : e ≠ 0) : Calls Tryz.prog 111 #[.int .i64 z, .int .i64 e] w fun e_ w' => e_ = .returned (.int .i64 ((z + e - 1).tdiv e)) ∧ w = w' := by
 have d0 : (e == 0) = false := by simpa using h0
 go_enter Tryz.func111, Tryz.ntmps111
 go_wp2_with fail
 go_ret
 exact ⟨rfl, rfl⟩
set_option maxHeartbeats 1000000 in
theorem spNodePieces_any (n z : Int) (w : World) : Calls Tryz.prog 93 #[.int .i64 n, .int .i64 z] w fun e w' => e = .returned (.int .i64 (piecesF n z)) ∧ w = w' := by
 by_cases h1 : n = 1
 · have he : eachF n = 12 := by unfold eachF; rw [if_pos h1]
   have d1 : (n == 1) = true := by simpa using h1
   have HE := Lib.hid he; clear he h1
   by_cases hz : 0 ≤ z ∧ z ≤ 16 * 12
   · have HN := Lib.hid (pieces_in HE.out (by decide) hz)
     have hi : inB z 0 192 = true := by unfold inB; simp; omega
     have HI := Lib.hid hi; clear hi
     have u1 : IntKind.i64.wrap (z + 12) = z + 12 := IntWalk.i64_in _ (by omega)
     have u2 : IntKind.i64.wrap (z + 12 - 1) = z + 12 - 1 := IntWalk.i64_in _ (by omega)
     have u3 := tdiv_12 z hz.1
     have u4 : IntKind.i64.wrap ((z + 12 - 1) / 12) = (z + 12 - 1) / 12 := IntWalk.i64_in _ (by omega)
     clear hz
     go_enter Tryz.func93, Tryz.ntmps93
     go_wp2_with fail
     refine (l10Each_any n _).mono ?_
     rw [HE.out]
     rintro e w1 ⟨rfl, rfl⟩
     go_wp2_with fail
     refine (l6In_any z 0 192 _).mono ?_
     rw [HI.out]
     rintro e w1 ⟨rfl, rfl⟩
     go_wp2_with fail
     refine (l10Pieces_any z 12 _ u1 u2 (by rw [u3]; exact u4) (by decide)).mono ?_
     rw [u3]
     rintro e w1 ⟨rfl, rfl⟩
     go_wp2_with fail
     go_ret
     exact ⟨ret_int HN.out.symm, rfl⟩
   have HN := Lib.hid (pieces_out HE.out hz)
   have hi : inB z 0 192 = false := inB_no (by omega)
   have HI := Lib.hid hi; clear hi hz
   go_enter Tryz.func93, Tryz.ntmps93
   go_wp2_with fail
   refine (l10Each_any n _).mono ?_
   rw [HE.out]
   rintro e w1 ⟨rfl, rfl⟩
   go_wp2_with fail
   refine (l6In_any z 0 192 _).mono ?_
   rw [HI.out]
   rintro e w1 ⟨rfl, rfl⟩
   go_wp2_with fail
   go_ret
   exact ⟨ret_int HN.out.symm, rfl⟩
 have d1 : (n == 1) = false := by simpa using h1
 by_cases h2 : n = 2
 · have he : eachF n = 128 := by unfold eachF; rw [if_neg h1, if_pos h2]
   have d2 : (n == 2) = true := by simpa using h2
   have HE := Lib.hid he; clear he h1 h2
   by_cases hz : 0 ≤ z ∧ z ≤ 16 * 128
   · have HN := Lib.hid (pieces_in HE.out (by decide) hz)
     have hi : inB z 0 2048 = true := by unfold inB; simp; omega
     have HI := Lib.hid hi; clear hi
     have u1 : IntKind.i64.wrap (z + 128) = z + 128 := IntWalk.i64_in _ (by omega)
     have u2 : IntKind.i64.wrap (z + 128 - 1) = z + 128 - 1 := IntWalk.i64_in _ (by omega)
     have u3 := tdiv_128 z hz.1
     have u4 : IntKind.i64.wrap ((z + 128 - 1) / 128) = (z + 128 - 1) / 128 := IntWalk.i64_in _ (by omega)
     clear hz
     go_enter Tryz.func93, Tryz.ntmps93
     go_wp2_with fail
     refine (l10Each_any n _).mono ?_
     rw [HE.out]
     rintro e w1 ⟨rfl, rfl⟩
     go_wp2_with fail
     refine (l6In_any z 0 2048 _).mono ?_
     rw [HI.out]
     rintro e w1 ⟨rfl, rfl⟩
     go_wp2_with fail
     refine (l10Pieces_any z 128 _ u1 u2 (by rw [u3]; exact u4) (by decide)).mono ?_
     rw [u3]
     rintro e w1 ⟨rfl, rfl⟩
     go_wp2_with fail
     go_ret
     exact ⟨ret_int HN.out.symm, rfl⟩
   have HN := Lib.hid (pieces_out HE.out hz)
   have hi : inB z 0 2048 = false := inB_no (by omega)
   have HI := Lib.hid hi; clear hi hz
   go_enter Tryz.func93, Tryz.ntmps93
   go_wp2_with fail
   refine (l10Each_any n _).mono ?_
   rw [HE.out]
   rintro e w1 ⟨rfl, rfl⟩
   go_wp2_with fail
   refine (l6In_any z 0 2048 _).mono ?_
   rw [HI.out]
   rintro e w1 ⟨rfl, rfl⟩
   go_wp2_with fail
   go_ret
   exact ⟨ret_int HN.out.symm, rfl⟩
 have he : eachF n = 0 := by unfold eachF; rw [if_neg h1, if_neg h2]
 have d2 : (n == 2) = false := by simpa using h2
 have HN := Lib.hid (pieces_none (z := z) he)
 have HE := Lib.hid he; clear he h1 h2
 go_enter Tryz.func93, Tryz.ntmps93
 go_wp2_with fail
 refine (l10Each_any n _).mono ?_
 rw [HE.out]
 rintro e w1 ⟨rfl, rfl⟩
 go_wp2_with fail
 go_ret
 exact ⟨ret_int HN.out.symm, rfl⟩
theorem nodeOkB_eq (i j z a b s m l d n : Int) : nodeOkB (i, j, z, (a, b, s, m, l), d, n) = (decide (0 ≤ piecesF i z) && (inB j 1 (linkTop i) && (decide (n = piecesF i z) && (decide (d = depthF (piecesF i z)) && (ptrOkB a b s m l && (ptrHole a b s m l || decide (l = d))))))) := rfl
set_option maxRecDepth 100000 in
set_option maxHeartbeats 8000000 in
theorem spNodeOk_any (i j z a b s m l d n : Int) (w : World)  :
 Calls Tryz.prog 78 #[.agg #[.int .i64 i, .int .i64 j, .int .i64 z, .int .i64 a, .int .i64 b, .int .i64 s, .int .i64 m, .int .i64 l, .int .i64 d, .int .i64 n]] w fun e w' => e = .returned (.bool (nodeOkB (i, j, z, (a, b, s, m, l), d, n))) ∧ Below w.heap.size w w' := by
 obtain ⟨r, hr⟩ : ∃ r, r = nodeOkB (i, j, z, (a, b, s, m, l), d, n) := ⟨_, rfl⟩
 rw [← hr]
 rw [nodeOkB_eq] at hr
 obtain ⟨pc, hpc⟩ : ∃ pc, pc = piecesF i z := ⟨_, rfl⟩
 obtain ⟨df, hdf⟩ : ∃ df, df = depthF pc := ⟨_, rfl⟩
 obtain ⟨lk, hlk⟩ : ∃ lk, lk = linkTop i := ⟨_, rfl⟩
 rw [← hpc, ← hdf, ← hlk] at hr
 have HR := Lib.hid hr; have EPC := Lib.hid hpc.symm; have EDF := Lib.hid hdf.symm; have ELK := Lib.hid hlk
 clear hr hpc hdf hlk
 go_enter Tryz.func78, Tryz.ntmps78
 go_wp2_with fail
 refine (spNodePieces_any i z _).mono ?_
 rw [EPC.out]
 rintro e w1' ⟨rfl, rfl⟩
 obtain ⟨w1, hW⟩ : ∃ W, W = w.alloc (.cells #[.int .i64 i, .int .i64 j, .int .i64 z, .int .i64 a, .int .i64 b, .int .i64 s, .int .i64 m, .int .i64 l, .int .i64 d, .int .i64 n] 53) := ⟨_, rfl⟩
 have HB1 : Hid (Below w.heap.size w w1) := Lib.hid (by rw [hW]; exact bel1)
 have HBX : Hid (w1.heap[w.heap.size]? = some (.cells #[.int .i64 i, .int .i64 j, .int .i64 z, .int .i64 a, .int .i64 b, .int .i64 s, .int .i64 m, .int .i64 l, .int .i64 d, .int .i64 n] 53 (0, 0))) := Lib.hid (by rw [hW]; exact heap_alloc_new _ _)
 rw [← hW]; clear hW
 have l1 : w.heap.size < w1.heap.size := (Array.getElem?_eq_some_iff.1 HBX.out).1
 have b0 := celR 0 HBX.out; have b1 := celR 1 HBX.out; have b2 := celR 2 HBX.out; have b3 := celR 3 HBX.out; have b4 := celR 4 HBX.out; have b5 := celR 5 HBX.out; have b6 := celR 6 HBX.out; have b7 := celR 7 HBX.out; have b8 := celR 8 HBX.out; have b9 := celR 9 HBX.out
 by_cases h0 : 0 ≤ pc
 rotate_left
 · have E0 : Hid (decide (0 ≤ pc) = false) := Lib.hid (decide_eq_false h0)
   have h0' : decide (pc < 0) = true := decide_eq_true (by omega)
   have HN : Hid (false = r) := Lib.hid (by rw [HR.out]; rw [E0.out]; rfl)
   go_wp2_with fail
   apply wp_region_rg (by kernel_rfl) rl0NodeOk rl1NodeOk rl2NodeOk (StP.is _ :: StP.is _ :: StP.is _ :: StP.is _ :: StP.is _ :: StP.is _ :: StP.is _ :: StP.is _ :: StP.is _ :: StP.is _ :: StP.is _ :: StP.is _ :: StP.is _ :: StP.is _ :: StP.is _ :: StP.is _ :: StP.is _ :: StP.is _ :: StP.is _ :: StP.is _ :: StP.is _ :: StP.is _ :: StP.is _ :: StP.is _ :: []) (rgCheck_of (by kernel_rfl))
   case hobs =>
    iterate 3 (constructor; rotate_left)
    iterate 5 (constructor; have skip_ := trivial; rotate_left)
    iterate 2 (constructor; rotate_left)
    iterate 6 (constructor; have skip_ := trivial; rotate_left)
    iterate 2 (constructor; rotate_left)
    iterate 5 (constructor; have skip_ := trivial; rotate_left)
    constructor; rotate_left
    · trivial
    all_goals (
     intro y w' hS hF K hK
     have eF := trivial
     repeat (obtain ⟨f1, hF⟩ := hF; replace eF := And.intro (show y _ = _ from f1) eF; clear f1)
     first
      | simp only [fillL, rl0NodeOk, rl1NodeOk, rl2NodeOk, cond_true, cond_false, zG0, zG1, StP.is, Act.put, zS2, zS0, zS1, Nat.reduceAdd, eF] at hK ⊢
      | simp only [fillL, rl0NodeOk, rl1NodeOk, rl2NodeOk, cond_true, cond_false, zG0, zG1, StP.is, Act.put, zS2, zS0, zS1, Nat.reduceAdd] at hK ⊢
     clear eF hF
     first
      | (clear skip_; refine rg_no (by kernel_rfl) ?_; exact hK _ _ (Ext.refl _) rfl)
      | (refine rg_yes (by kernel_rfl) ?_
         try (clear ld_; have qx0_ := (Below.cell hS l1).trans b0; have qx1_ := (Below.cell hS l1).trans b1; have qx2_ := (Below.cell hS l1).trans b2; have qx3_ := (Below.cell hS l1).trans b3; have qx4_ := (Below.cell hS l1).trans b4; have qx5_ := (Below.cell hS l1).trans b5; have qx6_ := (Below.cell hS l1).trans b6; have qx7_ := (Below.cell hS l1).trans b7; have qx8_ := (Below.cell hS l1).trans b8; have qx9_ := (Below.cell hS l1).trans b9)
         go_simp
         first
          | (go_at_call 55
             refine (l6In_any _ _ _ _).mono ?_
             rw [EL.out]
             rintro e w'' ⟨rfl, rfl⟩
             exact hK _ _ (Ext.refl _) rfl)
          | (go_at_call 74
             refine (l8Depth_any _ _).mono ?_
             rw [EDF.out]
             rintro e w'' ⟨rfl, rfl⟩
             exact hK _ _ (Ext.refl _) rfl)
          | (go_at_call 56
             refine (spPtrOk_any a b s m l _).mono ?_
             rw [EO.out]
             rintro e w'' ⟨rfl, hb⟩
             exact hK _ _ hb rfl)
          | (go_at_call 57
             refine (spPtrHole_any a b s m l _).mono ?_
             rw [EH.out]
             rintro e w'' ⟨rfl, hb⟩
             exact hK _ _ hb rfl)
          | exact hK _ _ (Ext.refl _) rfl))
   intro y w2 hX hF
   have e_ : y 33 = _ := hF.2.2.2.2.2.2.2.2.2.2.2.2.2.2.2.2.2.2.2.2.2.2.2.1
   clear hF
   simp only [fillL, rl0NodeOk, rl1NodeOk, rl2NodeOk, cond_true, cond_false, Nat.reduceAdd, e_]
   have HB3 : Hid (Below w.heap.size w w2) := Lib.hid (HB1.out.trans (Below.mono hX HB1.out.size))
   clear hX e_ b0 b1 b2 b3 b4 b5 b6 b7 b8 b9
   go_wp2_with fail
   go_ret
   exact ⟨ret_bool HN.out, HB3.out⟩
 have E0 : Hid (decide (0 ≤ pc) = true) := Lib.hid (decide_eq_true h0)
 have h0' : decide (pc < 0) = false := decide_eq_false (by omega)
 by_cases h2 : n = pc
 rotate_left
 · have E2 : Hid (decide (n = pc) = false) := Lib.hid (decide_eq_false h2)
   have d2 : (n != pc) = true := by simpa using h2
   have HN : Hid (false = r) := Lib.hid (by rw [HR.out]; rw [E0.out, E2.out]; cases inB j 1 lk <;> rfl)
   go_wp2_with fail
   apply wp_region_rg (by kernel_rfl) rl0NodeOk rl1NodeOk rl2NodeOk (StP.is _ :: StP.is _ :: StP.is _ :: StP.is _ :: StP.is _ :: StP.is _ :: StP.is _ :: StP.is _ :: StP.is _ :: StP.is _ :: StP.is _ :: StP.is _ :: StP.is _ :: StP.is _ :: StP.is _ :: StP.is _ :: StP.is _ :: StP.is _ :: StP.is _ :: StP.is _ :: StP.is _ :: StP.is _ :: StP.is _ :: StP.is _ :: []) (rgCheck_of (by kernel_rfl))
   case hobs =>
    iterate 5 (constructor; rotate_left)
    constructor; have ld_ := trivial; rotate_left
    iterate 4 (constructor; rotate_left)
    iterate 6 (constructor; have skip_ := trivial; rotate_left)
    iterate 2 (constructor; rotate_left)
    iterate 5 (constructor; have skip_ := trivial; rotate_left)
    constructor; rotate_left
    · trivial
    all_goals (
     intro y w' hS hF K hK
     have eF := trivial
     repeat (obtain ⟨f1, hF⟩ := hF; replace eF := And.intro (show y _ = _ from f1) eF; clear f1)
     first
      | simp only [fillL, rl0NodeOk, rl1NodeOk, rl2NodeOk, cond_true, cond_false, zG0, zG1, StP.is, Act.put, zS2, zS0, zS1, Nat.reduceAdd, eF] at hK ⊢
      | simp only [fillL, rl0NodeOk, rl1NodeOk, rl2NodeOk, cond_true, cond_false, zG0, zG1, StP.is, Act.put, zS2, zS0, zS1, Nat.reduceAdd] at hK ⊢
     clear eF hF
     first
      | (clear skip_; refine rg_no (by kernel_rfl) ?_; exact hK _ _ (Ext.refl _) rfl)
      | (refine rg_yes (by kernel_rfl) ?_
         try (clear ld_; have qx0_ := (Below.cell hS l1).trans b0; have qx1_ := (Below.cell hS l1).trans b1; have qx2_ := (Below.cell hS l1).trans b2; have qx3_ := (Below.cell hS l1).trans b3; have qx4_ := (Below.cell hS l1).trans b4; have qx5_ := (Below.cell hS l1).trans b5; have qx6_ := (Below.cell hS l1).trans b6; have qx7_ := (Below.cell hS l1).trans b7; have qx8_ := (Below.cell hS l1).trans b8; have qx9_ := (Below.cell hS l1).trans b9)
         go_simp
         first
          | (go_at_call 55
             refine (l6In_any _ _ _ _).mono ?_
             rw [EL.out]
             rintro e w'' ⟨rfl, rfl⟩
             exact hK _ _ (Ext.refl _) rfl)
          | (go_at_call 74
             refine (l8Depth_any _ _).mono ?_
             rw [EDF.out]
             rintro e w'' ⟨rfl, rfl⟩
             exact hK _ _ (Ext.refl _) rfl)
          | (go_at_call 56
             refine (spPtrOk_any a b s m l _).mono ?_
             rw [EO.out]
             rintro e w'' ⟨rfl, hb⟩
             exact hK _ _ hb rfl)
          | (go_at_call 57
             refine (spPtrHole_any a b s m l _).mono ?_
             rw [EH.out]
             rintro e w'' ⟨rfl, hb⟩
             exact hK _ _ hb rfl)
          | exact hK _ _ (Ext.refl _) rfl))
   intro y w2 hX hF
   have e_ : y 33 = _ := hF.2.2.2.2.2.2.2.2.2.2.2.2.2.2.2.2.2.2.2.2.2.2.2.1
   clear hF
   simp only [fillL, rl0NodeOk, rl1NodeOk, rl2NodeOk, cond_true, cond_false, Nat.reduceAdd, e_]
   have HB3 : Hid (Below w.heap.size w w2) := Lib.hid (HB1.out.trans (Below.mono hX HB1.out.size))
   clear hX e_ b0 b1 b2 b3 b4 b5 b6 b7 b8 b9
   go_wp2_with fail
   go_ret
   exact ⟨ret_bool HN.out, HB3.out⟩
 have E2 : Hid (decide (n = pc) = true) := Lib.hid (decide_eq_true h2)
 have d2 : (n != pc) = false := by simpa using h2
 clear h2
 by_cases h3 : d = df
 rotate_left
 · have E3 : Hid (decide (d = df) = false) := Lib.hid (decide_eq_false h3)
   have d3 : (d != df) = true := by simpa using h3
   have HN : Hid (false = r) := Lib.hid (by rw [HR.out]; rw [E0.out, E2.out, E3.out]; cases inB j 1 lk <;> rfl)
   go_wp2_with fail
   apply wp_region_rg (by kernel_rfl) rl0NodeOk rl1NodeOk rl2NodeOk (StP.is _ :: StP.is _ :: StP.is _ :: StP.is _ :: StP.is _ :: StP.is _ :: StP.is _ :: StP.is _ :: StP.is _ :: StP.is _ :: StP.is _ :: StP.is _ :: StP.is _ :: StP.is _ :: StP.is _ :: StP.is _ :: StP.is _ :: StP.is _ :: StP.is _ :: StP.is _ :: StP.is _ :: StP.is _ :: StP.is _ :: StP.is _ :: []) (rgCheck_of (by kernel_rfl))
   case hobs =>
    iterate 5 (constructor; rotate_left)
    constructor; have ld_ := trivial; rotate_left
    iterate 6 (constructor; rotate_left)
    constructor; have ld_ := trivial; rotate_left
    iterate 5 (constructor; rotate_left)
    iterate 5 (constructor; have skip_ := trivial; rotate_left)
    constructor; rotate_left
    · trivial
    all_goals (
     intro y w' hS hF K hK
     have eF := trivial
     repeat (obtain ⟨f1, hF⟩ := hF; replace eF := And.intro (show y _ = _ from f1) eF; clear f1)
     first
      | simp only [fillL, rl0NodeOk, rl1NodeOk, rl2NodeOk, cond_true, cond_false, zG0, zG1, StP.is, Act.put, zS2, zS0, zS1, Nat.reduceAdd, eF] at hK ⊢
      | simp only [fillL, rl0NodeOk, rl1NodeOk, rl2NodeOk, cond_true, cond_false, zG0, zG1, StP.is, Act.put, zS2, zS0, zS1, Nat.reduceAdd] at hK ⊢
     clear eF hF
     first
      | (clear skip_; refine rg_no (by kernel_rfl) ?_; exact hK _ _ (Ext.refl _) rfl)
      | (refine rg_yes (by kernel_rfl) ?_
         try (clear ld_; have qx0_ := (Below.cell hS l1).trans b0; have qx1_ := (Below.cell hS l1).trans b1; have qx2_ := (Below.cell hS l1).trans b2; have qx3_ := (Below.cell hS l1).trans b3; have qx4_ := (Below.cell hS l1).trans b4; have qx5_ := (Below.cell hS l1).trans b5; have qx6_ := (Below.cell hS l1).trans b6; have qx7_ := (Below.cell hS l1).trans b7; have qx8_ := (Below.cell hS l1).trans b8; have qx9_ := (Below.cell hS l1).trans b9)
         go_simp
         first
          | (go_at_call 55
             refine (l6In_any _ _ _ _).mono ?_
             rw [EL.out]
             rintro e w'' ⟨rfl, rfl⟩
             exact hK _ _ (Ext.refl _) rfl)
          | (go_at_call 74
             refine (l8Depth_any _ _).mono ?_
             rw [EDF.out]
             rintro e w'' ⟨rfl, rfl⟩
             exact hK _ _ (Ext.refl _) rfl)
          | (go_at_call 56
             refine (spPtrOk_any a b s m l _).mono ?_
             rw [EO.out]
             rintro e w'' ⟨rfl, hb⟩
             exact hK _ _ hb rfl)
          | (go_at_call 57
             refine (spPtrHole_any a b s m l _).mono ?_
             rw [EH.out]
             rintro e w'' ⟨rfl, hb⟩
             exact hK _ _ hb rfl)
          | exact hK _ _ (Ext.refl _) rfl))
   intro y w2 hX hF
   have e_ : y 33 = _ := hF.2.2.2.2.2.2.2.2.2.2.2.2.2.2.2.2.2.2.2.2.2.2.2.1
   clear hF
   simp only [fillL, rl0NodeOk, rl1NodeOk, rl2NodeOk, cond_true, cond_false, Nat.reduceAdd, e_]
   have HB3 : Hid (Below w.heap.size w w2) := Lib.hid (HB1.out.trans (Below.mono hX HB1.out.size))
   clear hX e_ b0 b1 b2 b3 b4 b5 b6 b7 b8 b9
   go_wp2_with fail
   go_ret
   exact ⟨ret_bool HN.out, HB3.out⟩
 have E3 : Hid (decide (d = df) = true) := Lib.hid (decide_eq_true h3)
 have d3 : (d != df) = false := by simpa using h3
 clear h3
 cases e4 : ptrOkB a b s m l
 · have EO := Lib.hid e4; clear e4
   have HN : Hid (false = r) := Lib.hid (by rw [HR.out]; rw [E0.out, E2.out, E3.out, EO.out]; cases inB j 1 lk <;> rfl)
   go_wp2_with fail
   apply wp_region_rg (by kernel_rfl) rl0NodeOk rl1NodeOk rl2NodeOk (StP.is _ :: StP.is _ :: StP.is _ :: StP.is _ :: StP.is _ :: StP.is _ :: StP.is _ :: StP.is _ :: StP.is _ :: StP.is _ :: StP.is _ :: StP.is _ :: StP.is _ :: StP.is _ :: StP.is _ :: StP.is _ :: StP.is _ :: StP.is _ :: StP.is _ :: StP.is _ :: StP.is _ :: StP.is _ :: StP.is _ :: StP.is _ :: []) (rgCheck_of (by kernel_rfl))
   case hobs =>
    iterate 5 (constructor; rotate_left)
    constructor; have ld_ := trivial; rotate_left
    iterate 6 (constructor; rotate_left)
    constructor; have ld_ := trivial; rotate_left
    iterate 7 (constructor; rotate_left)
    constructor; have ld_ := trivial; rotate_left
    iterate 3 (constructor; rotate_left)
    · trivial
    all_goals (
     intro y w' hS hF K hK
     have eF := trivial
     repeat (obtain ⟨f1, hF⟩ := hF; replace eF := And.intro (show y _ = _ from f1) eF; clear f1)
     first
      | simp only [fillL, rl0NodeOk, rl1NodeOk, rl2NodeOk, cond_true, cond_false, zG0, zG1, StP.is, Act.put, zS2, zS0, zS1, Nat.reduceAdd, eF] at hK ⊢
      | simp only [fillL, rl0NodeOk, rl1NodeOk, rl2NodeOk, cond_true, cond_false, zG0, zG1, StP.is, Act.put, zS2, zS0, zS1, Nat.reduceAdd] at hK ⊢
     clear eF hF
     first
      | (refine rg_yes (by kernel_rfl) ?_
         try (clear ld_; have qx0_ := (Below.cell hS l1).trans b0; have qx1_ := (Below.cell hS l1).trans b1; have qx2_ := (Below.cell hS l1).trans b2; have qx3_ := (Below.cell hS l1).trans b3; have qx4_ := (Below.cell hS l1).trans b4; have qx5_ := (Below.cell hS l1).trans b5; have qx6_ := (Below.cell hS l1).trans b6; have qx7_ := (Below.cell hS l1).trans b7; have qx8_ := (Below.cell hS l1).trans b8; have qx9_ := (Below.cell hS l1).trans b9)
         go_simp
         first
          | (go_at_call 55
             refine (l6In_any _ _ _ _).mono ?_
             rw [EL.out]
             rintro e w'' ⟨rfl, rfl⟩
             exact hK _ _ (Ext.refl _) rfl)
          | (go_at_call 74
             refine (l8Depth_any _ _).mono ?_
             rw [EDF.out]
             rintro e w'' ⟨rfl, rfl⟩
             exact hK _ _ (Ext.refl _) rfl)
          | (go_at_call 56
             refine (spPtrOk_any a b s m l _).mono ?_
             rw [EO.out]
             rintro e w'' ⟨rfl, hb⟩
             exact hK _ _ hb rfl)
          | (go_at_call 57
             refine (spPtrHole_any a b s m l _).mono ?_
             rw [EH.out]
             rintro e w'' ⟨rfl, hb⟩
             exact hK _ _ hb rfl)
          | exact hK _ _ (Ext.refl _) rfl))
   intro y w2 hX hF
   have e_ : y 33 = _ := hF.2.2.2.2.2.2.2.2.2.2.2.2.2.2.2.2.2.2.2.2.2.2.2.1
   clear hF
   simp only [fillL, rl0NodeOk, rl1NodeOk, rl2NodeOk, cond_true, cond_false, Nat.reduceAdd, e_]
   have HB3 : Hid (Below w.heap.size w w2) := Lib.hid (HB1.out.trans (Below.mono hX HB1.out.size))
   clear hX e_ b0 b1 b2 b3 b4 b5 b6 b7 b8 b9
   go_wp2_with fail
   go_ret
   exact ⟨ret_bool HN.out, HB3.out⟩
 have EO := Lib.hid e4; clear e4
 go_wp2_with fail
 apply wp_region_rg (by kernel_rfl) rl0NodeOk rl1NodeOk rl2NodeOk (StP.is _ :: StP.is _ :: StP.is _ :: StP.is _ :: StP.is _ :: StP.is _ :: StP.is _ :: StP.is _ :: StP.is _ :: StP.is _ :: StP.is _ :: StP.is _ :: StP.is _ :: StP.is _ :: StP.is _ :: StP.is _ :: StP.is _ :: StP.is _ :: StP.is _ :: StP.is _ :: StP.is _ :: StP.is _ :: StP.is _ :: StP.is _ :: []) (rgCheck_of (by kernel_rfl))
 case hobs =>
  iterate 5 (constructor; rotate_left)
  constructor; have ld_ := trivial; rotate_left
  iterate 6 (constructor; rotate_left)
  constructor; have ld_ := trivial; rotate_left
  iterate 7 (constructor; rotate_left)
  constructor; have ld_ := trivial; rotate_left
  iterate 3 (constructor; rotate_left)
  · trivial
  all_goals (
   intro y w' hS hF K hK
   have eF := trivial
   repeat (obtain ⟨f1, hF⟩ := hF; replace eF := And.intro (show y _ = _ from f1) eF; clear f1)
   first
    | simp only [fillL, rl0NodeOk, rl1NodeOk, rl2NodeOk, cond_true, cond_false, zG0, zG1, StP.is, Act.put, zS2, zS0, zS1, Nat.reduceAdd, eF] at hK ⊢
    | simp only [fillL, rl0NodeOk, rl1NodeOk, rl2NodeOk, cond_true, cond_false, zG0, zG1, StP.is, Act.put, zS2, zS0, zS1, Nat.reduceAdd] at hK ⊢
   clear eF hF
   first
    | (refine rg_yes (by kernel_rfl) ?_
       try (clear ld_; have qx0_ := (Below.cell hS l1).trans b0; have qx1_ := (Below.cell hS l1).trans b1; have qx2_ := (Below.cell hS l1).trans b2; have qx3_ := (Below.cell hS l1).trans b3; have qx4_ := (Below.cell hS l1).trans b4; have qx5_ := (Below.cell hS l1).trans b5; have qx6_ := (Below.cell hS l1).trans b6; have qx7_ := (Below.cell hS l1).trans b7; have qx8_ := (Below.cell hS l1).trans b8; have qx9_ := (Below.cell hS l1).trans b9)
       go_simp
       first
        | (go_at_call 55
           refine (l6In_any _ _ _ _).mono ?_
           rw [EL.out]
           rintro e w'' ⟨rfl, rfl⟩
           exact hK _ _ (Ext.refl _) rfl)
        | (go_at_call 74
           refine (l8Depth_any _ _).mono ?_
           rw [EDF.out]
           rintro e w'' ⟨rfl, rfl⟩
           exact hK _ _ (Ext.refl _) rfl)
        | (go_at_call 56
           refine (spPtrOk_any a b s m l _).mono ?_
           rw [EO.out]
           rintro e w'' ⟨rfl, hb⟩
           exact hK _ _ hb rfl)
        | (go_at_call 57
           refine (spPtrHole_any a b s m l _).mono ?_
           rw [EH.out]
           rintro e w'' ⟨rfl, hb⟩
           exact hK _ _ hb rfl)
        | exact hK _ _ (Ext.refl _) rfl))
 intro y w2 hX hF
 have e_ : y 33 = _ := hF.2.2.2.2.2.2.2.2.2.2.2.2.2.2.2.2.2.2.2.2.2.2.2.1
 clear hF
 simp only [fillL, rl0NodeOk, rl1NodeOk, rl2NodeOk, cond_true, cond_false, Nat.reduceAdd, e_]
 have HB3 : Hid (Below w.heap.size w w2) := Lib.hid (HB1.out.trans (Below.mono hX HB1.out.size))
 have HBX3 := Lib.hid ((Below.block hX _ l1).trans HBX.out)
 clear hX e_ b0 b1 b2 b3 b4 b5 b6 b7 b8 b9
 have b0 := celR 0 HBX3.out; have b1 := celR 1 HBX3.out; have b2 := celR 2 HBX3.out; have b3 := celR 3 HBX3.out; have b4 := celR 4 HBX3.out; have b5 := celR 5 HBX3.out; have b6 := celR 6 HBX3.out; have b7 := celR 7 HBX3.out; have b8 := celR 8 HBX3.out; have b9 := celR 9 HBX3.out
 have l2 : w.heap.size < w2.heap.size := (Array.getElem?_eq_some_iff.1 HBX3.out).1
 by_cases hk : i = 2
 · obtain rfl : lk = 1 := by rw [ELK.out]; unfold linkTop; rw [if_pos hk]
   have dk : (i == 2) = true := by simpa using hk
   clear hk ELK
   go_wp2_with fail
   refine (l6In_any j 1 1 _).mono ?_
   rintro e w3 ⟨rfl, rfl⟩
   cases e1 : inB j 1 1
   · have HN : Hid (false = r) := Lib.hid (by rw [HR.out, E0.out, e1]; rfl)
     clear e1
     go_wp2_with fail
     go_ret
     exact ⟨ret_bool HN.out, HB3.out⟩
   have EL := Lib.hid e1; clear e1
   go_wp2_with fail
   refine (spPtrHole_any a b s m l _).mono ?_
   rintro e w4 ⟨rfl, hb4⟩
   have HB4 := Lib.hid (HB3.out.trans (hb4.mono HB3.out.size))
   have q5 := (hb4.cell l2).trans b7; have q6 := (hb4.cell l2).trans b8
   clear hb4 b0 b1 b2 b3 b4 b5 b6 b7 b8 b9
   cases e5 : ptrHole a b s m l
   rotate_left
   · have HN : Hid (true = r) := Lib.hid (by rw [HR.out, E0.out, EL.out, E2.out, E3.out, EO.out, e5]; rfl)
     clear e5
     go_wp2_with fail
     go_ret
     exact ⟨ret_bool HN.out, HB4.out⟩
   have EH := Lib.hid e5; clear e5
   by_cases h6 : l = d
   · have d6 : (l == d) = true := by simpa using h6
     have HN : Hid (true = r) := Lib.hid (by rw [HR.out, E0.out, EL.out, E2.out, E3.out, EO.out, EH.out, decide_eq_true h6]; rfl)
     clear h6
     go_wp2_with fail
     go_ret
     exact ⟨ret_bool HN.out, HB4.out⟩
   have d6 : (l == d) = false := by simpa using h6
   have HN : Hid (false = r) := Lib.hid (by rw [HR.out, E0.out, EL.out, E2.out, E3.out, EO.out, EH.out, decide_eq_false h6]; rfl)
   clear h6
   go_wp2_with fail
   go_ret
   exact ⟨ret_bool HN.out, HB4.out⟩
 obtain rfl : lk = 9 := by rw [ELK.out]; unfold linkTop; rw [if_neg hk]
 have dk : (i == 2) = false := by simpa using hk
 clear hk ELK
 go_wp2_with fail
 refine (l6In_any j 1 9 _).mono ?_
 rintro e w3 ⟨rfl, rfl⟩
 cases e1 : inB j 1 9
 · have HN : Hid (false = r) := Lib.hid (by rw [HR.out, E0.out, e1]; rfl)
   clear e1
   go_wp2_with fail
   go_ret
   exact ⟨ret_bool HN.out, HB3.out⟩
 have EL := Lib.hid e1; clear e1
 go_wp2_with fail
 refine (spPtrHole_any a b s m l _).mono ?_
 rintro e w4 ⟨rfl, hb4⟩
 have HB4 := Lib.hid (HB3.out.trans (hb4.mono HB3.out.size))
 have q5 := (hb4.cell l2).trans b7; have q6 := (hb4.cell l2).trans b8
 clear hb4 b0 b1 b2 b3 b4 b5 b6 b7 b8 b9
 cases e5 : ptrHole a b s m l
 rotate_left
 · have HN : Hid (true = r) := Lib.hid (by rw [HR.out, E0.out, EL.out, E2.out, E3.out, EO.out, e5]; rfl)
   clear e5
   go_wp2_with fail
   go_ret
   exact ⟨ret_bool HN.out, HB4.out⟩
 have EH := Lib.hid e5; clear e5
 by_cases h6 : l = d
 · have d6 : (l == d) = true := by simpa using h6
   have HN : Hid (true = r) := Lib.hid (by rw [HR.out, E0.out, EL.out, E2.out, E3.out, EO.out, EH.out, decide_eq_true h6]; rfl)
   clear h6
   go_wp2_with fail
   go_ret
   exact ⟨ret_bool HN.out, HB4.out⟩
 have d6 : (l == d) = false := by simpa using h6
 have HN : Hid (false = r) := Lib.hid (by rw [HR.out, E0.out, EL.out, E2.out, E3.out, EO.out, EH.out, decide_eq_false h6]; rfl)
 clear h6
 go_wp2_with fail
 go_ret
 exact ⟨ret_bool HN.out, HB4.out⟩
end Go.Proofs.YtjnhiiaejeaikaaGreatDoor
