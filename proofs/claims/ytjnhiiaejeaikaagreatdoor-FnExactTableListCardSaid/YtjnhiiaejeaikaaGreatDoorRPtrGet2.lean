/- PtrGet of the program: the pointer that a text is the text of. Condition: the library's variables lie as the row says; the text is at most a million bytes. -/
import Derived.Test.YtjnhiiaejeaikaaGreatDoorRPtrGet
set_option linter.unnecessarySimpa false
set_option linter.unusedSimpArgs false
set_option linter.unusedVariables false
namespace Go.Proofs.YtjnhiiaejeaikaaGreatDoor
open Go Go.Lib Go.RowKit
def GotPtr (s : Str) (w : World) (e : Ending) (w' : World) : Prop :=
 ∃ (a b c d l : Int) (ok : Bool), e = .returned (.tuple #[.agg #[.int .i64 a, .int .i64 b, .int .i64 c, .int .i64 d, .int .i64 l], .bool ok]) ∧ ptrIs s a b c d l ok ∧ Below w.heap.size w w'
theorem five_set {w : World} {r T : Nat} {v0 v1 v2 v3 v4 x0 x1 x2 x3 x4 : Value} (h : w.heap[r]? = some (.cells #[v0, v1, v2, v3, v4] T (0, 0))) :
 (((((w.setCell ⟨r, 0, none⟩ x0).setCell ⟨r, 1, none⟩ x1).setCell ⟨r, 2, none⟩ x2).setCell ⟨r, 3, none⟩ x3).setCell ⟨r, 4, none⟩ x4).heap[r]? = some (.cells #[x0, x1, x2, x3, x4] T (0, 0)) := by
 have h0 := block_set (o := 0) (v := x0) h
 have h1 := block_set (o := 1) (v := x1) h0
 have h2 := block_set (o := 2) (v := x2) h1
 have h3 := block_set (o := 3) (v := x3) h2
 have h4 := block_set (o := 4) (v := x4) h3
 rw [h4]; rfl
theorem set5 (v : Nat → Nat) (n j : Nat) (hj : j < 5) : (#[Value.int .i64 (v 0 : Int), .int .i64 (v 1 : Int), .int .i64 (v 2 : Int), .int .i64 (v 3 : Int), .int .i64 (v 4 : Int)] : Array Value).setIfInBounds j (.int .i64 (n : Int)) =
 #[.int .i64 ((if 0 = j then n else v 0 : Nat) : Int), .int .i64 ((if 1 = j then n else v 1 : Nat) : Int), .int .i64 ((if 2 = j then n else v 2 : Nat) : Int), .int .i64 ((if 3 = j then n else v 3 : Nat) : Int), .int .i64 ((if 4 = j then n else v 4 : Nat) : Int)] := by
 have hx : j = 0 ∨ j = 1 ∨ j = 2 ∨ j = 3 ∨ j = 4 := by omega
 rcases hx with rfl | rfl | rfl | rfl | rfl <;> rfl
theorem strs5 {xs : List Str} (h : xs.length = 5) : ∃ x1 x2 x3 x4 x5, xs = [x1, x2, x3, x4, x5] := by
 match xs, h with
 | [x1, x2, x3, x4, x5], _ => exact ⟨x1, x2, x3, x4, x5, rfl⟩
theorem piece_le : ∀ (s : Str), ∀ x ∈ splitD s, x.length ≤ s.length
 | [], x, h => by simp [splitD] at h; subst h; simp
 | c :: s, x, h => by
   have ih := piece_le s
   unfold splitD at h
   split at h
   · rcases List.mem_cons.1 h with rfl | h
     · simp
     have := ih x h; simp; omega
   split at h
   · rename_i hc hs; exact absurd hs (splitD_ne s)
   rename_i y ys hs
   rw [hs] at ih
   rcases List.mem_cons.1 h with rfl | h
   · have := ih y (by simp); simp; omega
   have := ih x (by simp [h]); simp; omega
theorem StrsIn.cellB {B : Nat} {w : World} {A : Option Addr} {c : Nat} {fs : List Str} (h : StrsIn B w A c fs) {j : Nat} {f : Str} (hf : fs[j]? = some f) : ∃ g, A = some ⟨g, 0, none⟩ ∧ B ≤ g ∧ g < w.heap.size ∧ w.cell? ⟨g, j, none⟩ = some (.string (strB f)) := by
 have hj : j < fs.length := (List.getElem?_eq_some_iff.1 hf).1
 obtain ⟨S, ⟨h1, _⟩, hS⟩ := h
 rcases h1 with ⟨_, h0, _⟩ | ⟨g, cur, rfl, rfl, _, _, _, hg, _, h5⟩
 · omega
 refine ⟨g, rfl, hS g (by simp), (Array.getElem?_eq_some_iff.1 hg).1, ?_⟩
 rw [cell_of_row _ _ j _ _ (0, 0) hg, h5 j (by omega), List.getElem?_map, hf]
 rfl
set_option maxRecDepth 100000 in
set_option maxHeartbeats 4000000 in
theorem ptrGet_any (s : Str) (w : World) (he : Env w) (hs : s.length ≤ 1000000) : Calls Tryz.prog 105 #[.string (strB s)] w (GotPtr s w) := by
 by_cases h45 : s = [45]
 · subst h45
   have hz : ((strB [45]).toList == [45]) = true := by rw [strB_list]; rfl
   go_enter Tryz.func105, Tryz.ntmps105
   go_wp2_with fail
   exact bodyPost_ret (v := .tuple #[.agg #[.int .i64 0, .int .i64 0, .int .i64 0, .int .i64 0, .int .i64 0], .bool true]) (by simp [results, Tryz.results105, go_sem]) rfl ⟨_, _, _, _, _, _, rfl, ptr_hole_text, bel1⟩
 have hz : ((strB s).toList == [45]) = false := by rw [strB_list]; simpa using h45
 have H45 := Lib.hid h45
 clear h45
 go_enter Tryz.func105, Tryz.ntmps105
 go_wp2_with fail
 obtain ⟨W, hW⟩ : ∃ x, x = (w.alloc (.cells #[.int .i64 0, .int .i64 0, .int .i64 0, .int .i64 0, .int .i64 0] 41)).alloc (.cells #[.int .i64 0, .int .i64 0, .int .i64 0, .int .i64 0, .int .i64 0] 41) := ⟨_, rfl⟩
 have hbW : Below w.heap.size w W := by rw [hW]; exact bel1.trans (bel1.mono (by simp))
 have hsW : W.heap.size = w.heap.size + 2 := by rw [hW]; simp
 have hrW : W.heap[w.heap.size]? = some (.cells #[.int .i64 0, .int .i64 0, .int .i64 0, .int .i64 0, .int .i64 0] 41 (0, 0)) := by rw [hW]; exact (Below.heap_alloc _ _ _ (by simp)).trans (heap_alloc_new _ _)
 have hqW : W.heap[w.heap.size + 1]? = some (.cells #[.int .i64 0, .int .i64 0, .int .i64 0, .int .i64 0, .int .i64 0] 41 (0, 0)) := by
  have := heap_alloc_new (w.alloc (.cells #[.int .i64 0, .int .i64 0, .int .i64 0, .int .i64 0, .int .i64 0] 41)) (.cells #[.int .i64 0, .int .i64 0, .int .i64 0, .int .i64 0, .int .i64 0] 41)
  rw [hW]; simpa using this
 rw [← hW]
 clear hW
 refine (splitS_any s W (he.below hbW) hs).mono ?_
 rintro e w1 ⟨A, c, rfl, hI1, hb1⟩
 have hq1 := (hb1.block _ (by omega)).trans hqW
 have hr1 := (hb1.block _ (by omega)).trans hrW
 have HB1 := hbW.trans (hb1.mono hbW.size)
 have hs1 : w.heap.size + 2 ≤ w1.heap.size := by have := hb1.size; omega
 clear hb1 hqW hrW
 obtain ⟨xs, hxs⟩ : ∃ xs, xs = splitD s := ⟨_, rfl⟩
 rw [← hxs] at hI1
 rw [← hxs]
 have HXS := Lib.hid hxs
 clear hxs
 have HI1 := Lib.hid hI1
 clear hI1
 go_wp2_with fail
 refine (parts_any (w.heap.size + 1) w1 _ _ _ _ _ hq1).mono ?_
 rintro e w2 ⟨g2, rfl, hg2, hgB, hb2⟩
 have hq2 := Lib.hid ((hb2.block _ (by omega)).trans hq1)
 have hr2 := Lib.hid ((hb2.block _ (by omega)).trans hr1)
 have HB2 := Lib.hid (HB1.trans (hb2.mono HB1.size))
 have hs2 : w.heap.size + 2 ≤ w2.heap.size := by have := hb2.size; omega
 have HI2 := Lib.hid (HI1.out.below hb2)
 have HG2 := Lib.hid hg2
 have lg2 : g2 < w2.heap.size := (Array.getElem?_eq_some_iff.1 hg2).1
 have eg2 : w.heap.size + 1 ≠ g2 := by omega
 clear hb2 hq1 hr1 hg2 HI1 HB1
 by_cases hn : xs.length = 5
 · obtain ⟨x1, x2, x3, x4, x5, rfl⟩ := strs5 hn
   have HP0 : Hid (∀ (k : Nat) (x : Str), [x1, x2, x3, x4, x5][k]? = some x → x.length ≤ s.length) := Lib.hid (fun k x hx => piece_le s x (by rw [← HXS.out]; exact List.mem_of_getElem? hx))
   rw [hn]
   clear hn
   go_wp2_with fail
   go_loopw [25] (fun i wr => ∃ (j : Nat) (v : Nat → Nat), i = .int .i64 (j : Int) ∧ j ≤ 5 ∧ Hid (∀ k, k < j → ∃ x, [x1, x2, x3, x4, x5][k]? = some x ∧ numGet x = some (v k)) ∧ Hid (wr.heap[w.heap.size + 1]? = some (.cells #[.int .i64 (v 0 : Int), .int .i64 (v 1 : Int), .int .i64 (v 2 : Int), .int .i64 (v 3 : Int), .int .i64 (v 4 : Int)] 41 (0, 0))) ∧ Hid (Chg (· = w.heap.size + 1) w2 wr)) (fun i _ => 5 - (RowKit.intOf i).toNat)
   case atStart => exact ⟨0, fun _ => 0, rfl, by omega, Lib.hid (fun k hk => absurd hk (by omega)), Lib.hid hq2.out, Lib.hid (Chg.refl _ _)⟩
   obtain ⟨j, v, rfl, hj, HV, HQ, HC⟩ := hrel
   have hsr : w2.heap.size ≤ wr.heap.size := HC.out.size
   have HBr : Hid (Below w.heap.size w wr) := Lib.hid (HB2.out.trans (HC.out.below (fun k _ hk => by omega) HB2.out.size))
   have hrr : wr.heap[w.heap.size]? = some (.cells #[.int .i64 0, .int .i64 0, .int .i64 0, .int .i64 0, .int .i64 0] 41 (0, 0)) := (HC.out.block _ (by omega) (by omega)).trans hr2.out
   by_cases hlt : j < 5
   · have hd : (j : Int) < 5 := by omega
     obtain ⟨x, hx⟩ : ∃ x, [x1, x2, x3, x4, x5][j]? = some x := ⟨_, List.getElem?_eq_getElem hlt⟩
     obtain ⟨g, rfl, hgW, hgl, hcx⟩ := HI2.out.cellB hx
     have hcx : wr.cell? ⟨g, j, none⟩ = some (.string (strB x)) := (World.cell?_of_block (HC.out.block g hgl (by omega))).trans hcx
     have hcp : wr.cell? ⟨g2, j, none⟩ = some (.pointer (some ⟨w.heap.size + 1, j, none⟩)) := by
      refine (World.cell?_of_block (HC.out.block g2 lg2 (fun e => eg2 e.symm))).trans ((cell_of_row _ _ j _ _ (0, 0) HG2.out).trans ?_)
      have hy : j = 0 ∨ j = 1 ∨ j = 2 ∨ j = 3 ∨ j = 4 := by omega
      rcases hy with rfl | rfl | rfl | rfl | rfl <;> rfl
     have hxl := HP0.out j x hx
     have HEr := Lib.hid (he.below HBr.out)
     have HXJ := Lib.hid hx
     clear hx
     go_wp2_with fail
     refine (numGet_any x wr HEr.out (by omega)).mono ?_
     rintro e w3 ⟨rfl, hb3⟩
     have lgr : g2 < wr.heap.size := by omega
     have hcp3 : w3.cell? ⟨g2, j, none⟩ = some (.pointer (some ⟨w.heap.size + 1, j, none⟩)) := (hb3.cell lgr).trans hcp
     have hq3 := (hb3.block _ (by omega)).trans HQ.out
     have hr3 := (hb3.block _ (by omega)).trans hrr
     have HB3 := HBr.out.trans (hb3.mono HBr.out.size)
     have HC3 := Lib.hid (HC.out.trans (Chg.of_below hb3 _))
     have l3 : w.heap.size + 1 < w3.heap.size := by have := hb3.size; omega
     have lg3 : g2 < w3.heap.size := by have := hb3.size; omega
     clear hb3 hcp hcx hrr HQ HC HBr
     cases hg : numGet x with
     | none =>
       have HNO := Lib.hid (ptr_bad (j := j) H45.out (by rw [← HXS.out]; exact HXJ.out) hg)
       clear hg hq3 hcp3
       have HB3 := Lib.hid HB3
       have HR3 := Lib.hid hr3
       simp only [Option.isSome_none, Option.getD_none]
       have fr0 := block_free hr3 0
       have fr1 := block_free hr3 1
       have fr2 := block_free hr3 2
       have fr3 := block_free hr3 3
       have fr4 := block_free hr3 4
       have cr0 := celR 0 hr3
       have cr1 := celR 1 hr3
       have cr2 := celR 2 hr3
       have cr3 := celR 3 hr3
       have cr4 := celR 4 hr3
       clear hr3
       go_wp2_with fail
       have hst := five_set (x0 := (.int .i64 0)) (x1 := (.int .i64 0)) (x2 := (.int .i64 0)) (x3 := (.int .i64 0)) (x4 := (.int .i64 0)) HR3.out
       have r0 := celR 0 hst
       have r1 := celR 1 hst
       have r2 := celR 2 hst
       have r3 := celR 3 hst
       have r4 := celR 4 hst
       clear hst
       exact bodyPost_ret (v := .tuple #[.agg #[.int .i64 0, .int .i64 0, .int .i64 0, .int .i64 0, .int .i64 0], .bool false]) (by simp [results, Tryz.results105, go_sem, r0, r1, r2, r3, r4]) rfl ⟨_, _, _, _, _, _, rfl, HNO.out, by
        have := HB3.out
        exact ((((this.setCell (p := ⟨w.heap.size, 0, none⟩) (Nat.le_refl _) _).setCell (p := ⟨w.heap.size, 1, none⟩) (Nat.le_refl _) _).setCell (p := ⟨w.heap.size, 2, none⟩) (Nat.le_refl _) _).setCell (p := ⟨w.heap.size, 3, none⟩) (Nat.le_refl _) _).setCell (p := ⟨w.heap.size, 4, none⟩) (Nat.le_refl _) _⟩
     | some n =>
       have hf3 : w3.frozen? ⟨w.heap.size + 1, j, none⟩ = false := block_free hq3 _
       have hv3 := cell_of_row _ _ j _ _ (0, 0) hq3
       have hcs : ∃ y, w3.cell? ⟨w.heap.size + 1, j, none⟩ = some y := by
        rw [hv3]
        have hy : j = 0 ∨ j = 1 ∨ j = 2 ∨ j = 3 ∨ j = 4 := by omega
        rcases hy with rfl | rfl | rfl | rfl | rfl <;> exact ⟨_, rfl⟩
       obtain ⟨y, hcy⟩ := hcs
       have hq4 := block_set (o := j) (v := .int .i64 (n : Int)) hq3
       rw [set5 v n j hlt] at hq4
       have HQ4 := Lib.hid hq4
       have HC4 : Hid (Chg (· = w.heap.size + 1) w2 (w3.setCell ⟨w.heap.size + 1, j, none⟩ (.int .i64 (n : Int)))) := Lib.hid (HC3.out.setCell (.inl rfl) _)
       have HV4 : Hid (∀ k, k < j + 1 → ∃ x, [x1, x2, x3, x4, x5][k]? = some x ∧ numGet x = some (if k = j then n else v k)) := Lib.hid (fun k hk => by
        by_cases hkj : k = j
        · subst hkj; rw [if_pos rfl]; exact ⟨x, HXJ.out, hg⟩
        · rw [if_neg hkj]; exact HV.out k (by omega))
       clear hg hq3 hq4 hv3 hr3 HB3 HC3 HV
       simp only [Option.isSome_some, Option.getD_some]
       go_wp2_with fail
       go_roundw
       case rel => exact ⟨j + 1, fun k => if k = j then n else v k, by simp, by omega, HV4, HQ4, HC4⟩
       simp [RowKit.intOf]; omega
   have hd : ¬ (j : Int) < 5 := by omega
   obtain rfl : j = 5 := by omega
   have H5 : Hid (Five s (v 0) (v 1) (v 2) (v 3) (v 4)) := Lib.hid (by
    obtain ⟨y1, e1, n1⟩ := HV.out 0 (by omega)
    obtain ⟨y2, e2, n2⟩ := HV.out 1 (by omega)
    obtain ⟨y3, e3, n3⟩ := HV.out 2 (by omega)
    obtain ⟨y4, e4, n4⟩ := HV.out 3 (by omega)
    obtain ⟨y5, e5, n5⟩ := HV.out 4 (by omega)
    obtain rfl := Option.some.inj e1
    obtain rfl := Option.some.inj e2
    obtain rfl := Option.some.inj e3
    obtain rfl := Option.some.inj e4
    obtain rfl := Option.some.inj e5
    exact ⟨_, _, _, _, _, HXS.out.symm, n1, n2, n3, n4, n5⟩)
   obtain ⟨a, ha⟩ : ∃ a, a = v 0 := ⟨_, rfl⟩
   obtain ⟨b, hb⟩ : ∃ a, a = v 1 := ⟨_, rfl⟩
   obtain ⟨cc, hcc⟩ : ∃ a, a = v 2 := ⟨_, rfl⟩
   obtain ⟨d, hdd⟩ : ∃ a, a = v 3 := ⟨_, rfl⟩
   obtain ⟨l, hll⟩ : ∃ a, a = v 4 := ⟨_, rfl⟩
   rw [← ha, ← hb, ← hcc, ← hdd, ← hll] at HQ H5
   clear ha hb hcc hdd hll HV
   have k0 := celR 0 HQ.out
   have k1 := celR 1 HQ.out
   have k2 := celR 2 HQ.out
   have k3 := celR 3 HQ.out
   have k4 := celR 4 HQ.out
   have HTr := Lib.hid (he.below HBr.out).tab
   go_wp2_with fail
   refine (ptrPut_any (a : Int) b cc d l wr HTr.out).mono ?_
   rintro e w4 ⟨rfl, hb4⟩
   have hq4 := (hb4.block _ (by omega)).trans HQ.out
   have hr4 := (hb4.block _ (by omega)).trans hrr
   have HB4 := Lib.hid (HBr.out.trans (hb4.mono HBr.out.size))
   have HR4 := Lib.hid hr4
   clear hb4 k0 k1 k2 k3 k4 hrr
   by_cases hps : ptrS (a : Int) b cc d l = s
   · have HY := Lib.hid (H5.out.yes_text hps)
     have hps2 : ((strB (ptrS (a : Int) b cc d l)).toList == (strB s).toList) = true := by rw [hps]; simp
     have k0 := celR 0 hq4
     have k1 := celR 1 hq4
     have k2 := celR 2 hq4
     have k3 := celR 3 hq4
     have k4 := celR 4 hq4
     clear hps
     have fr0 := block_free hr4 0
     have fr1 := block_free hr4 1
     have fr2 := block_free hr4 2
     have fr3 := block_free hr4 3
     have fr4 := block_free hr4 4
     have cr0 := celR 0 hr4
     have cr1 := celR 1 hr4
     have cr2 := celR 2 hr4
     have cr3 := celR 3 hr4
     have cr4 := celR 4 hr4
     clear hr4
     go_wp2_with fail
     have hst := five_set (x0 := (.int .i64 (a : Int))) (x1 := (.int .i64 (b : Int))) (x2 := (.int .i64 (cc : Int))) (x3 := (.int .i64 (d : Int))) (x4 := (.int .i64 (l : Int))) HR4.out
     have r0 := celR 0 hst
     have r1 := celR 1 hst
     have r2 := celR 2 hst
     have r3 := celR 3 hst
     have r4 := celR 4 hst
     clear hst
     exact bodyPost_ret (v := .tuple #[.agg #[.int .i64 (a : Int), .int .i64 (b : Int), .int .i64 (cc : Int), .int .i64 (d : Int), .int .i64 (l : Int)], .bool true]) (by simp [results, Tryz.results105, go_sem, r0, r1, r2, r3, r4]) rfl ⟨_, _, _, _, _, _, rfl, HY.out, by
      have := HB4.out
      exact ((((this.setCell (p := ⟨w.heap.size, 0, none⟩) (Nat.le_refl _) _).setCell (p := ⟨w.heap.size, 1, none⟩) (Nat.le_refl _) _).setCell (p := ⟨w.heap.size, 2, none⟩) (Nat.le_refl _) _).setCell (p := ⟨w.heap.size, 3, none⟩) (Nat.le_refl _) _).setCell (p := ⟨w.heap.size, 4, none⟩) (Nat.le_refl _) _⟩
   have HNO := Lib.hid (H5.out.no_text H45.out hps)
   have hps2 : ((strB (ptrS (a : Int) b cc d l)).toList == (strB s).toList) = false := by rw [strB_list, strB_list]; simpa using hps
   clear hps hq4
   have fr0 := block_free hr4 0
   have fr1 := block_free hr4 1
   have fr2 := block_free hr4 2
   have fr3 := block_free hr4 3
   have fr4 := block_free hr4 4
   have cr0 := celR 0 hr4
   have cr1 := celR 1 hr4
   have cr2 := celR 2 hr4
   have cr3 := celR 3 hr4
   have cr4 := celR 4 hr4
   clear hr4
   go_wp2_with fail
   have hst := five_set (x0 := (.int .i64 0)) (x1 := (.int .i64 0)) (x2 := (.int .i64 0)) (x3 := (.int .i64 0)) (x4 := (.int .i64 0)) HR4.out
   have r0 := celR 0 hst
   have r1 := celR 1 hst
   have r2 := celR 2 hst
   have r3 := celR 3 hst
   have r4 := celR 4 hst
   clear hst
   exact bodyPost_ret (v := .tuple #[.agg #[.int .i64 0, .int .i64 0, .int .i64 0, .int .i64 0, .int .i64 0], .bool false]) (by simp [results, Tryz.results105, go_sem, r0, r1, r2, r3, r4]) rfl ⟨_, _, _, _, _, _, rfl, HNO.out, by
    have := HB4.out
    exact ((((this.setCell (p := ⟨w.heap.size, 0, none⟩) (Nat.le_refl _) _).setCell (p := ⟨w.heap.size, 1, none⟩) (Nat.le_refl _) _).setCell (p := ⟨w.heap.size, 2, none⟩) (Nat.le_refl _) _).setCell (p := ⟨w.heap.size, 3, none⟩) (Nat.le_refl _) _).setCell (p := ⟨w.heap.size, 4, none⟩) (Nat.le_refl _) _⟩
 have hnb : ((xs.length : Int) == 5) = false := by simp; omega
 have hnc : ¬ (xs.length : Int) = 5 := by omega
 have HNO := Lib.hid (ptr_len H45.out (by rw [← HXS.out]; exact hn))
 clear hn
 have hr2' := hr2.out
 have fr0 := block_free hr2' 0
 have fr1 := block_free hr2' 1
 have fr2 := block_free hr2' 2
 have fr3 := block_free hr2' 3
 have fr4 := block_free hr2' 4
 have cr0 := celR 0 hr2'
 have cr1 := celR 1 hr2'
 have cr2 := celR 2 hr2'
 have cr3 := celR 3 hr2'
 have cr4 := celR 4 hr2'
 clear hr2'
 go_wp2_with fail
 have hst := five_set (x0 := (.int .i64 0)) (x1 := (.int .i64 0)) (x2 := (.int .i64 0)) (x3 := (.int .i64 0)) (x4 := (.int .i64 0)) hr2.out
 have r0 := celR 0 hst
 have r1 := celR 1 hst
 have r2 := celR 2 hst
 have r3 := celR 3 hst
 have r4 := celR 4 hst
 clear hst
 exact bodyPost_ret (v := .tuple #[.agg #[.int .i64 0, .int .i64 0, .int .i64 0, .int .i64 0, .int .i64 0], .bool false]) (by simp [results, Tryz.results105, go_sem, r0, r1, r2, r3, r4]) rfl ⟨_, _, _, _, _, _, rfl, HNO.out, by
  have := HB2.out
  exact ((((this.setCell (p := ⟨w.heap.size, 0, none⟩) (Nat.le_refl _) _).setCell (p := ⟨w.heap.size, 1, none⟩) (Nat.le_refl _) _).setCell (p := ⟨w.heap.size, 2, none⟩) (Nat.le_refl _) _).setCell (p := ⟨w.heap.size, 3, none⟩) (Nat.le_refl _) _).setCell (p := ⟨w.heap.size, 4, none⟩) (Nat.le_refl _) _⟩
end Go.Proofs.YtjnhiiaejeaikaaGreatDoor
