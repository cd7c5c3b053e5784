/- Marks on slices of texts and of pointers. Condition: the marks are below 2^40. -/
import Derived.Test.YtjnhiiaejeaikaaGreatDoorRFamEq
import Derived.Test.YtjnhiiaejeaikaaGreatDoorRTableOk
import Derived.Test.YtjnhiiaejeaikaaGreatDoorRLib
set_option linter.unnecessarySimpa false
set_option linter.unusedSimpArgs false
set_option linter.unusedVariables false
namespace Go.Proofs.YtjnhiiaejeaikaaGreatDoor
open Go Go.Lib Go.RowKit
def numsO (o : Option (List (Option NodeD))) : List Int := match o with | some L => numsF L | none => []
theorem tableG_len {x : StoreD} {t : TreeD} {L : List (Option NodeD)} (h : tableG x t = some L) : L.length ≤ 16 := by
 unfold tableG at h
 split at h
 · obtain ⟨_, _, _, _, _, h6⟩ := tableF_some h
   exact h6
 cases h
def GotL (o : Option (List (Option NodeD))) (w : World) (e : Ending) (w' : World) : Prop :=
 ∃ (A : Option Addr) (n c : Nat) (S : List Nat), e = .returned (.tuple #[.slice A n c, .bool o.isSome]) ∧ OwnA w' 3 1 S A n c ((numsO o).map (Value.int .i64)) ∧ (numsO o).length = n ∧ (∀ g ∈ S, w.heap.size ≤ g) ∧ Below w.heap.size w w'
set_option maxRecDepth 100000 in
set_option maxHeartbeats 8000000 in
theorem tableList_any (cs : List Value) (x : StoreD) (a b s m l d n : Int) (w : World) (he : Env w) (lo hi : Nat) (h : StoreR w lo hi cs x) (hhi : hi ≤ w.heap.size) (hsz : SmallS x) :
 Calls Tryz.prog 11 #[.agg cs.toArray, .agg #[.int .i64 a, .int .i64 b, .int .i64 s, .int .i64 m, .int .i64 l, .int .i64 d, .int .i64 n]] w (GotL (tableG x ((a, b, s, m, l), d, n)) w) := by
 have HTB0 := Lib.hid (fun (W : World) (hb : Below w.heap.size w W) => table_any cs x a b s m l d n W (he.below hb) lo hi (StoreR.below hb hhi cs x h) (Nat.le_trans hhi hb.size) hsz)
 clear hhi hsz he
 obtain ⟨rows, ⟨refs, last⟩, txg, gone, keep, dead, same⟩ := x
 obtain ⟨A0, n0, c0, A1, n1, c1, A2, n2, c2, A3, n3, c3, A4, n4, c4, rfl, h0, h1, h2, h3, h4⟩ := h
 clear h0 h1 h2 h3 h4
 have HTB : Hid (∀ (W : World), Below w.heap.size w W → Calls Tryz.prog 32 #[.agg #[.slice A0 n0 c0, .slice A1 n1 c1, .slice A2 n2 c2, .int .i64 txg, .slice A3 n3 c3, .int .i64 keep, .slice A4 n4 c4, .bool same], .agg #[.int .i64 a, .int .i64 b, .int .i64 s, .int .i64 m, .int .i64 l, .int .i64 d, .int .i64 n]] W (GotNs (tableG (rows, (refs, last), txg, gone, keep, dead, same) ((a, b, s, m, l), d, n)) W)) := Lib.hid (fun W hb => HTB0.out W hb)
 clear HTB0
 show Calls Tryz.prog 11 #[.agg #[.slice A0 n0 c0, .slice A1 n1 c1, .slice A2 n2 c2, .int .i64 txg, .slice A3 n3 c3, .int .i64 keep, .slice A4 n4 c4, .bool same], .agg #[.int .i64 a, .int .i64 b, .int .i64 s, .int .i64 m, .int .i64 l, .int .i64 d, .int .i64 n]] w _
 generalize hX : ((rows, (refs, last), txg, gone, keep, dead, same) : StoreD) = X at *
 clear hX
 go_enter Tryz.func11, Tryz.ntmps11
 obtain ⟨w2, hw2⟩ : ∃ W, W = (w.alloc (.cells #[.slice A0 n0 c0, .slice A1 n1 c1, .slice A2 n2 c2, .int .i64 txg, .slice A3 n3 c3, .int .i64 keep, .slice A4 n4 c4, .bool same] 39)).alloc (.cells #[.int .i64 a, .int .i64 b, .int .i64 s, .int .i64 m, .int .i64 l, .int .i64 d, .int .i64 n] 43) := ⟨_, rfl⟩
 have HB2 : Hid (Below w.heap.size w w2) := Lib.hid (by rw [hw2]; exact bel2)
 have HSX : Hid (w2.heap[w.heap.size]? = some (.cells #[.slice A0 n0 c0, .slice A1 n1 c1, .slice A2 n2 c2, .int .i64 txg, .slice A3 n3 c3, .int .i64 keep, .slice A4 n4 c4, .bool same] 39 (0, 0))) := Lib.hid (by rw [hw2]; exact (Below.heap_alloc _ _ _ (by simp)).trans (heap_alloc_new _ _))
 have HTR : Hid (w2.heap[w.heap.size + 1]? = some (.cells #[.int .i64 a, .int .i64 b, .int .i64 s, .int .i64 m, .int .i64 l, .int .i64 d, .int .i64 n] 43 (0, 0))) := Lib.hid (by rw [hw2]; have := heap_alloc_new (w.alloc (.cells #[.slice A0 n0 c0, .slice A1 n1 c1, .slice A2 n2 c2, .int .i64 txg, .slice A3 n3 c3, .int .i64 keep, .slice A4 n4 c4, .bool same] 39)) (.cells #[.int .i64 a, .int .i64 b, .int .i64 s, .int .i64 m, .int .i64 l, .int .i64 d, .int .i64 n] 43); simpa using this)
 have l2 : w.heap.size < w2.heap.size := (Array.getElem?_eq_some_iff.1 HSX.out).1
 have l2x : w.heap.size + 1 < w2.heap.size := (Array.getElem?_eq_some_iff.1 HTR.out).1
 go_wp2_with fail
 rw [← hw2]; clear hw2
 have s0 := celR 0 HSX.out; have s1 := celR 1 HSX.out; have s2 := celR 2 HSX.out; have s3 := celR 3 HSX.out; have s4 := celR 4 HSX.out; have s5 := celR 5 HSX.out; have s6 := celR 6 HSX.out; have s7 := celR 7 HSX.out
 have t0 := celR 0 HTR.out; have t1 := celR 1 HTR.out; have t2 := celR 2 HTR.out; have t3 := celR 3 HTR.out; have t4 := celR 4 HTR.out; have t5 := celR 5 HTR.out; have t6 := celR 6 HTR.out
 go_wp2_with fail
 refine (HTB.out w2 HB2.out).mono ?_
 obtain ⟨G, hG⟩ : ∃ G, G = tableG X ((a, b, s, m, l), d, n) := ⟨_, rfl⟩
 rw [← hG]
 have HG := Lib.hid hG.symm; clear hG
 rintro e w4 ⟨A, len, c, Lst, rfl, hM, hsl, hb4⟩
 have HB4 := Lib.hid (HB2.out.trans (hb4.mono HB2.out.size))
 clear s0 s1 s2 s3 s4 s5 s6 s7 t0 t1 t2 t3 t4 t5 t6
 cases G with
 | none =>
   clear hb4
   go_wp2_with fail
   exact bodyPost_ret (v := .tuple #[.slice none 0 0, .bool false]) (by simp [results, Tryz.results11, go_sem]) rfl ⟨none, 0, 0, [], by rw [HG.out]; rfl, by rw [HG.out]; exact OwnA.nil _, by rw [HG.out]; rfl, by simp, HB4.out⟩
 | some L =>
   obtain rfl := hM L rfl
   have HSL := Lib.hid hsl
   have HLN := Lib.hid hsl.len
   have hmx := hsl.max
   have lw4 : w.heap.size ≤ w4.heap.size := HB4.out.size
   clear hb4 hsl hM
   obtain ⟨i0, hi0, hz0, hz1, hz2⟩ := info_parts info_int
   have hmx2 : len ≤ 16 := by rw [← HLN.out]; exact tableG_len HG.out
   go_wp2_with fail
   go_loopw [8, 21] (fun b i wr => ∃ (k : Nat) (C : Option Addr) (nb cb : Nat) (S : List Nat), k ≤ len ∧ i = .int .i64 (k : Int) ∧ b = .slice C nb cb ∧ nb ≤ k ∧ Hid ((numsTo Lst k).length = nb) ∧ Hid (OwnA wr 3 1 S C nb cb ((numsTo Lst k).map (Value.int .i64))) ∧ Hid (∀ g ∈ S, w4.heap.size ≤ g) ∧ Hid (Below w4.heap.size w4 wr)) (fun _ i _ => len - (RowKit.intOf i).toNat)
   case atStart => exact ⟨0, none, 0, 0, [], Nat.zero_le _, rfl, rfl, Nat.le_refl _, Lib.hid rfl, Lib.hid (OwnA.nil _), Lib.hid (by simp), Lib.hid (Below.refl _ _)⟩
   obtain ⟨k, C, nb, cb, S, hk, rfl, rfl, hnb, HY, HO, HS, HB⟩ := hrel
   have k0 : (0 : Int) ≤ (k : Int) := by omega
   by_cases hlt : k < len
   · have k1 : (k : Int) < (len : Int) := by omega
     obtain ⟨o, ho⟩ : ∃ o, Lst[k]? = some o := ⟨Lst[k]'(by rw [HLN.out]; exact hlt), List.getElem?_eq_getElem _⟩
     obtain ⟨b, off, rfl, hb1, hb2, hb3, hc⟩ := HSL.out.at_ (by omega)
     obtain ⟨cs', hcs, hcv, v, rfl, hv⟩ := hc k o ho
     have hcell : wr.cell? ⟨b, off + k, none⟩ = some v := (HB.out.cell hb3).trans (by have := hcv 0 v rfl; simpa using this)
     clear hc hcv hcs
     cases o with
     | none =>
       have hv' : v = .pointer none := hv
       subst hv'
       clear hv
       have HE := Lib.hid (numsTo_none ho)
       go_wp2_with fail
       go_roundw
       case rel => exact ⟨k + 1, C, nb, cb, S, by omega, by go_num, rfl, by omega, Lib.hid (by rw [HE.out]; exact HY.out), Lib.hid (by rw [HE.out]; exact HO.out), HS, HB⟩
       simp [RowKit.intOf]; omega
     | some N =>
       obtain ⟨g, rfl, -, -, -⟩ := hv
       have HE := Lib.hid (numsTo_some ho)
       have HO2 : Hid (OwnA (wr.alloc (.cells #[.int .i64 (k : Int)] 3)) 3 1 S C nb cb ((numsTo Lst k).map (Value.int .i64))) := Lib.hid (HO.out.below bel1)
       have HRL : Hid (RowAt (wr.alloc (.cells #[.int .i64 (k : Int)] 3)) (some ⟨wr.heap.size, 0, none⟩) (1 * 1) [.int .i64 (k : Int)]) := Lib.hid (RowAt.lit rfl)
       clear ho
       go_wp2_with (at_builtin; go_must (refine wpList_append_row rfl _ _ 23 rfl 3 i0 (.int .i64 0) 1 8 Tryz.underlying23 hi0 hz0 hz1 hz2 rfl (by decide) S (C) (some ⟨wr.heap.size, 0, none⟩) nb cb 1 1 ((numsTo Lst k).map (Value.int .i64)) [.int .i64 (k : Int)] rfl rfl HO2.out HRL.out (by intro u hu; simp at hu; subst hu; rfl) (by unfold maxLen; omega) (by omega) ?_))
       intro C' cb' S' w5 hO5 hS5 hC5
       have hB5 : Below w4.heap.size w4 w5 := (HB.out.alloc HB.out.size _).trans (hC5.below (fun g _ hg => HS.out g hg) (by have := HB.out.size; first | omega | (simp; omega)))
       have HO5 : Hid (OwnA w5 3 1 S' C' (nb + 1) cb' ((numsTo Lst (k + 1)).map (Value.int .i64))) := Lib.hid (by rw [HE.out, List.map_append]; simpa using hO5)
       have HS5 : Hid (∀ g ∈ S', w4.heap.size ≤ g) := Lib.hid (fun g hg => (hS5 g hg).elim (HS.out g) (fun h => by have := HB.out.size; first | omega | (simp at h; omega)))
       have HB5 := Lib.hid hB5
       clear hO5 hS5 hC5 hB5
       go_wp2_with fail
       go_roundw
       case rel => exact ⟨k + 1, C', nb + 1, cb', S', by omega, by go_num, rfl, by omega, Lib.hid (by rw [HE.out, List.length_append, HY.out]; rfl), HO5, HS5, HB5⟩
       simp [RowKit.intOf]; omega
   obtain rfl : k = len := by omega
   have HN : Hid (numsO (some Lst) = numsTo Lst k) := Lib.hid (by show numsF Lst = _; rw [numsF_all, HLN.out])
   go_wp2_with fail
   exact bodyPost_ret (v := .tuple #[.slice C nb cb, .bool true]) (by simp [results, Tryz.results11, go_sem]) rfl ⟨C, nb, cb, S, by rw [HG.out]; rfl, by rw [HG.out, HN.out]; exact HO.out, by rw [HG.out, HN.out]; exact HY.out, fun g hg => Nat.le_trans lw4 (HS.out g hg), HB4.out.trans (HB.out.mono HB4.out.size)⟩
end Go.Proofs.YtjnhiiaejeaikaaGreatDoor
namespace Go.Proofs.YtjnhiiaejeaikaaGreatDoor
open Go.RowKit
def KStringS : List Value := [.string ⟨#[]⟩]
set_option maxRecDepth 100000 in
set_option maxHeartbeats 4000000 in
theorem markStringS_any (A : Option Addr) (n c : Nat) (k : Int) (w : World) (lo hi : Nat) (h : Whole w 9 1 lo hi A n c) (h0 : 0 ≤ k) (h1 : k + n ≤ 1099511627776) :
 Calls Tryz.prog 36 #[.slice A n c, .int .i64 k] w fun e w' => e = .returned (.int .i64 (k + n)) ∧ MarkedAt w' KStringS k A (n) ∧ Whole w' 9 1 lo hi A n c ∧ Chg (fun b => 0 < n ∧ blkOf A b) w w' := by
 by_cases hn0 : n = 0
 · subst hn0
   go_enter Tryz.func36, Tryz.ntmps36
   go_wp2_with fail
   go_loop [1, 5] (fun kk i => kk = .int .i64 k ∧ i = .int .i64 ((0 : Nat) : Int)) (fun _ _ => 0)
   case atStart => exact ⟨rfl, rfl⟩
   obtain ⟨rfl, rfl⟩ := hrel
   go_wp2_with fail
   go_ret
   exact ⟨ret_int (by simp), fun h => absurd h (by simp), h, Chg.refl _ _⟩
 obtain ⟨g, cur, rfl, hlo, hhi, hg, hcs, hnc⟩ : ∃ g cur, A = some ⟨g, 0, none⟩ ∧ lo ≤ g ∧ g < hi ∧ w.heap[g]? = some (.cells cur 9 (0, 0)) ∧ cur.size = c * 1 ∧ n ≤ c ∧ c ≤ maxLen := h.resolve_left (fun h => hn0 h.1)
 have hnp : 0 < n := Nat.pos_of_ne_zero hn0
 clear h hn0
 have hgl : g < w.heap.size := (Array.getElem?_eq_some_iff.1 hg).1
 have hn : n ≤ 1099511627776 := by omega
 have HG0 := Lib.hid hg; have HC0 := Lib.hid hcs; clear hg hcs
 go_enter Tryz.func36, Tryz.ntmps36
 go_wp2_with fail
 go_loopw [1, 5] (fun kk i wr => ∃ (j : Nat) (z : Int) (cu : Array Value), j ≤ n ∧ i = .int .i64 j ∧ kk = .int .i64 z ∧ 0 ≤ z ∧ z ≤ 1099511627776 ∧ Hid (z = k + (j : Int)) ∧ Hid (wr.heap[g]? = some (.cells cu 9 (0, 0))) ∧ Hid (cu.size = c * 1) ∧ Hid (HasMarks KStringS k (j) cu) ∧ Hid (Chg (blkOf (some ⟨g, 0, none⟩)) w wr)) (fun _ i _ => n - (intOf i).toNat)
 case atStart => exact ⟨0, k, cur, Nat.zero_le _, rfl, rfl, h0, by omega, Lib.hid (by simp), HG0, HC0, Lib.hid (by first | exact HasMarks.zero _ _ _ | (rw [Nat.zero_mul]; exact HasMarks.zero _ _ _)), Lib.hid (Chg.refl _ _)⟩
 clear HG0 HC0
 obtain ⟨j, z, cu, hj, rfl, rfl, z0, z1, HZ, HG, HC, HM, HX⟩ := hrel
 by_cases hlt : j < n
 · have hgr : g < wr.heap.size := (Array.getElem?_eq_some_iff.1 HG.out).1
   have hzb : z + 1 ≤ 1099511627776 := by have := HZ.out; omega
   have hju : j * 1 + 1 ≤ cu.size := by rw [HC.out]; omega
   have j0 : (0 : Int) ≤ (j : Int) := by omega
   have j1 : (j : Int) < (n : Int) := by omega
   have t0_0 : wr.cell? ⟨g, j, none⟩ = some _ := block_cell HG.out (by omega)
   generalize cu[j]'_ = y0_0 at t0_0
   have f0_0 : wr.frozen? ⟨g, j, none⟩ = false := block_free HG.out _
   go_wp2_with fail
   refine (markText_any (z) _ (by omega)).mono ?_
   rintro e v1 ⟨rfl, hb1⟩
   have hg1 : v1.heap[g]? = some (.cells (cu) 9 (0, 0)) := (hb1.block g (by first | omega | (simp [World.setCell] <;> omega))).trans HG.out
   have HX1 : Hid (Chg (blkOf (some ⟨g, 0, none⟩)) w v1) := Lib.hid (Chg.trans (show Chg _ w (wr) from HX.out) (Chg.of_below hb1 _))
   have hgr1 : g < v1.heap.size := (Array.getElem?_eq_some_iff.1 hg1).1
   clear hb1
   have t1_0 : v1.cell? ⟨g, j, none⟩ = some _ := block_cell hg1 (by omega)
   generalize cu[j]'_ = y1_0 at t1_0
   have f1_0 : v1.frozen? ⟨g, j, none⟩ = false := block_free hg1 _
   have HG1 := Lib.hid hg1; clear hg1
   go_wp2_with fail
   go_roundw
   case rel =>
    have m0 := HM.out
    have kv0 : .string (mtext (z)) = mkv (k + ((j : Nat) : Int)) (KStringS.getD ((j) % KStringS.length) undef) := by
     have e1 : (j) % KStringS.length = 0 := by show (j) % 1 = 0; omega
     have e2 : k + ((j : Nat) : Int) = z := by have := HZ.out; push_cast; omega
     rw [e1, e2]; rfl
    have m1 := HasMarks.step m0 (by have := HC.out; (try simp only [Array.size_setIfInBounds]); omega) kv0
    refine ⟨j + 1, z + 1, (Array.setIfInBounds cu (j) (.string (mtext (z)))), by omega, by go_num, by first | rfl | (congr 1; omega), by omega, by omega, Lib.hid (by have := HZ.out; push_cast; omega), Lib.hid (block_set HG1.out), Lib.hid (by simpa using HC.out), Lib.hid ?_, Lib.hid (Chg.setCell (p := ⟨g, _, none⟩) HX1.out (.inl ⟨0, rfl⟩) _)⟩
    exact m1
   simp [intOf]; omega
 obtain rfl : j = n := by omega
 go_wp2_with fail
 go_ret
 exact ⟨ret_int HZ.out, HM.out.at_ HG.out, .inr ⟨g, cu, rfl, hlo, hhi, HG.out, HC.out, hnc⟩, HX.out.mono fun b _ h => ⟨hnp, h⟩⟩
def KPtrS : List Value := [.int .i64 0, .int .i64 0, .int .i64 0, .int .i64 0, .int .i64 0]
set_option maxRecDepth 100000 in
set_option maxHeartbeats 4000000 in
theorem markPtrS_any (A : Option Addr) (n c : Nat) (k : Int) (w : World) (lo hi : Nat) (h : Whole w 41 5 lo hi A n c) (h0 : 0 ≤ k) (h1 : k + n * 5 ≤ 1099511627776) :
 Calls Tryz.prog 38 #[.slice A n c, .int .i64 k] w fun e w' => e = .returned (.int .i64 (k + n * 5)) ∧ MarkedAt w' KPtrS k A (n * 5) ∧ Whole w' 41 5 lo hi A n c ∧ Chg (fun b => 0 < n ∧ blkOf A b) w w' := by
 by_cases hn0 : n = 0
 · subst hn0
   go_enter Tryz.func38, Tryz.ntmps38
   go_wp2_with fail
   go_loop [1, 5] (fun kk i => kk = .int .i64 k ∧ i = .int .i64 ((0 : Nat) : Int)) (fun _ _ => 0)
   case atStart => exact ⟨rfl, rfl⟩
   obtain ⟨rfl, rfl⟩ := hrel
   go_wp2_with fail
   go_ret
   exact ⟨ret_int (by simp), fun h => absurd h (by simp), h, Chg.refl _ _⟩
 obtain ⟨g, cur, rfl, hlo, hhi, hg, hcs, hnc⟩ : ∃ g cur, A = some ⟨g, 0, none⟩ ∧ lo ≤ g ∧ g < hi ∧ w.heap[g]? = some (.cells cur 41 (0, 0)) ∧ cur.size = c * 5 ∧ n ≤ c ∧ c ≤ maxLen := h.resolve_left (fun h => hn0 h.1)
 have hnp : 0 < n := Nat.pos_of_ne_zero hn0
 clear h hn0
 have hgl : g < w.heap.size := (Array.getElem?_eq_some_iff.1 hg).1
 have hn : n ≤ 1099511627776 := by omega
 have HG0 := Lib.hid hg; have HC0 := Lib.hid hcs; clear hg hcs
 go_enter Tryz.func38, Tryz.ntmps38
 go_wp2_with fail
 go_loopw [1, 5] (fun kk i wr => ∃ (j : Nat) (z : Int) (cu : Array Value), j ≤ n ∧ i = .int .i64 j ∧ kk = .int .i64 z ∧ 0 ≤ z ∧ z ≤ 1099511627776 ∧ Hid (z = k + (j : Int) * 5) ∧ Hid (wr.heap[g]? = some (.cells cu 41 (0, 0))) ∧ Hid (cu.size = c * 5) ∧ Hid (HasMarks KPtrS k (j * 5) cu) ∧ Hid (Chg (blkOf (some ⟨g, 0, none⟩)) w wr)) (fun _ i _ => n - (intOf i).toNat)
 case atStart => exact ⟨0, k, cur, Nat.zero_le _, rfl, rfl, h0, by omega, Lib.hid (by simp), HG0, HC0, Lib.hid (by first | exact HasMarks.zero _ _ _ | (rw [Nat.zero_mul]; exact HasMarks.zero _ _ _)), Lib.hid (Chg.refl _ _)⟩
 clear HG0 HC0
 obtain ⟨j, z, cu, hj, rfl, rfl, z0, z1, HZ, HG, HC, HM, HX⟩ := hrel
 by_cases hlt : j < n
 · have hgr : g < wr.heap.size := (Array.getElem?_eq_some_iff.1 HG.out).1
   have hzb : z + 5 ≤ 1099511627776 := by have := HZ.out; omega
   have hju : j * 5 + 5 ≤ cu.size := by rw [HC.out]; omega
   have j0 : (0 : Int) ≤ (j : Int) := by omega
   have j1 : (j : Int) < (n : Int) := by omega
   have t0_0 : wr.cell? ⟨g, j * 5, none⟩ = some _ := block_cell HG.out (by omega)
   generalize cu[j * 5]'_ = y0_0 at t0_0
   have f0_0 : wr.frozen? ⟨g, j * 5, none⟩ = false := block_free HG.out _
   have t0_1 : wr.cell? ⟨g, j * 5 + 1, none⟩ = some _ := block_cell HG.out (by omega)
   generalize cu[j * 5 + 1]'_ = y0_1 at t0_1
   have f0_1 : wr.frozen? ⟨g, j * 5 + 1, none⟩ = false := block_free HG.out _
   have t0_2 : wr.cell? ⟨g, j * 5 + 2, none⟩ = some _ := block_cell HG.out (by omega)
   generalize cu[j * 5 + 2]'_ = y0_2 at t0_2
   have f0_2 : wr.frozen? ⟨g, j * 5 + 2, none⟩ = false := block_free HG.out _
   have t0_3 : wr.cell? ⟨g, j * 5 + 3, none⟩ = some _ := block_cell HG.out (by omega)
   generalize cu[j * 5 + 3]'_ = y0_3 at t0_3
   have f0_3 : wr.frozen? ⟨g, j * 5 + 3, none⟩ = false := block_free HG.out _
   have t0_4 : wr.cell? ⟨g, j * 5 + 4, none⟩ = some _ := block_cell HG.out (by omega)
   generalize cu[j * 5 + 4]'_ = y0_4 at t0_4
   have f0_4 : wr.frozen? ⟨g, j * 5 + 4, none⟩ = false := block_free HG.out _
   go_wp2_with fail
   go_roundw
   case rel =>
    have m0 := HM.out
    have kv0 : .int .i64 (z) = mkv (k + ((j * 5 : Nat) : Int)) (KPtrS.getD ((j * 5) % KPtrS.length) undef) := by
     have e1 : (j * 5) % KPtrS.length = 0 := by show (j * 5) % 5 = 0; omega
     have e2 : k + ((j * 5 : Nat) : Int) = z := by have := HZ.out; push_cast; omega
     rw [e1, e2]; rfl
    have m1 := HasMarks.step m0 (by have := HC.out; (try simp only [Array.size_setIfInBounds]); omega) kv0
    have kv1 : .int .i64 (z + 1) = mkv (k + ((j * 5 + 1 : Nat) : Int)) (KPtrS.getD ((j * 5 + 1) % KPtrS.length) undef) := by
     have e1 : (j * 5 + 1) % KPtrS.length = 1 := by show (j * 5 + 1) % 5 = 1; omega
     have e2 : k + ((j * 5 + 1 : Nat) : Int) = z + 1 := by have := HZ.out; push_cast; omega
     rw [e1, e2]; rfl
    have m2 := HasMarks.step m1 (by have := HC.out; (try simp only [Array.size_setIfInBounds]); omega) kv1
    have kv2 : .int .i64 (z + 1 + 1) = mkv (k + ((j * 5 + 2 : Nat) : Int)) (KPtrS.getD ((j * 5 + 2) % KPtrS.length) undef) := by
     have e1 : (j * 5 + 2) % KPtrS.length = 2 := by show (j * 5 + 2) % 5 = 2; omega
     have e2 : k + ((j * 5 + 2 : Nat) : Int) = z + 1 + 1 := by have := HZ.out; push_cast; omega
     rw [e1, e2]; rfl
    have m3 := HasMarks.step m2 (by have := HC.out; (try simp only [Array.size_setIfInBounds]); omega) kv2
    have kv3 : .int .i64 (z + 1 + 1 + 1) = mkv (k + ((j * 5 + 3 : Nat) : Int)) (KPtrS.getD ((j * 5 + 3) % KPtrS.length) undef) := by
     have e1 : (j * 5 + 3) % KPtrS.length = 3 := by show (j * 5 + 3) % 5 = 3; omega
     have e2 : k + ((j * 5 + 3 : Nat) : Int) = z + 1 + 1 + 1 := by have := HZ.out; push_cast; omega
     rw [e1, e2]; rfl
    have m4 := HasMarks.step m3 (by have := HC.out; (try simp only [Array.size_setIfInBounds]); omega) kv3
    have kv4 : .int .i64 (z + 1 + 1 + 1 + 1) = mkv (k + ((j * 5 + 4 : Nat) : Int)) (KPtrS.getD ((j * 5 + 4) % KPtrS.length) undef) := by
     have e1 : (j * 5 + 4) % KPtrS.length = 4 := by show (j * 5 + 4) % 5 = 4; omega
     have e2 : k + ((j * 5 + 4 : Nat) : Int) = z + 1 + 1 + 1 + 1 := by have := HZ.out; push_cast; omega
     rw [e1, e2]; rfl
    have m5 := HasMarks.step m4 (by have := HC.out; (try simp only [Array.size_setIfInBounds]); omega) kv4
    refine ⟨j + 1, z + 1 + 1 + 1 + 1 + 1, (Array.setIfInBounds (Array.setIfInBounds (Array.setIfInBounds (Array.setIfInBounds (Array.setIfInBounds cu (j * 5) (.int .i64 (z))) (j * 5 + 1) (.int .i64 (z + 1))) (j * 5 + 2) (.int .i64 (z + 1 + 1))) (j * 5 + 3) (.int .i64 (z + 1 + 1 + 1))) (j * 5 + 4) (.int .i64 (z + 1 + 1 + 1 + 1))), by omega, by go_num, by first | rfl | (congr 1; omega), by omega, by omega, Lib.hid (by have := HZ.out; push_cast; omega), Lib.hid (block_set (block_set (block_set (block_set (block_set HG.out))))), Lib.hid (by simpa using HC.out), Lib.hid ?_, Lib.hid (Chg.setCell (p := ⟨g, _, none⟩) (Chg.setCell (p := ⟨g, _, none⟩) (Chg.setCell (p := ⟨g, _, none⟩) (Chg.setCell (p := ⟨g, _, none⟩) (Chg.setCell (p := ⟨g, _, none⟩) HX.out (.inl ⟨0, rfl⟩) _) (.inl ⟨0, rfl⟩) _) (.inl ⟨0, rfl⟩) _) (.inl ⟨0, rfl⟩) _) (.inl ⟨0, rfl⟩) _)⟩
    rw [show (j + 1) * 5 = j * 5 + 1 + 1 + 1 + 1 + 1 by omega]; exact m5
   simp [intOf]; omega
 obtain rfl : j = n := by omega
 go_wp2_with fail
 go_ret
 exact ⟨ret_int HZ.out, HM.out.at_ HG.out, .inr ⟨g, cu, rfl, hlo, hhi, HG.out, HC.out, hnc⟩, HX.out.mono fun b _ h => ⟨hnp, h⟩⟩
end Go.Proofs.YtjnhiiaejeaikaaGreatDoor
