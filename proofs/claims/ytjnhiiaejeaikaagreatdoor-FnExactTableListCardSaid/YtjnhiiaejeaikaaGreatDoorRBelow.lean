/- The pointers below a pointer: fanOf of the program, l8Below of the reference. Condition: the library's variables lie as the row says; the store has 64 rows of at most 128 bytes; the pointer is formed. -/
import Derived.Test.YtjnhiiaejeaikaaGreatDoorRFanGet
import Derived.Test.YtjnhiiaejeaikaaGreatDoorRReadP
set_option linter.unnecessarySimpa false
set_option linter.unusedSimpArgs false
set_option linter.unusedVariables false
namespace Go.Proofs.YtjnhiiaejeaikaaGreatDoor
open Go Go.Lib Go.RowKit
theorem make_Holes (n : Nat) (hn : n ≤ 16) (w : World) :
 (Instr.makeSlice 37 (.int .i64 (n : Int)) (.int .i64 (n : Int))).run Tryz.prog w = .ok (.slice (some ⟨w.heap.size, 0, none⟩) n n) (w.alloc (.cells (madeCells #[.int .i64 0, .int .i64 0, .int .i64 0, .int .i64 0, .int .i64 0] (n * 5)) 41)) := by
 obtain ⟨i, hi, hz, hs, hb⟩ := info_parts infoPtr
 have hr := run_make (P := Tryz.prog) w 37 41 i (.agg #[.int .i64 0, .int .i64 0, .int .i64 0, .int .i64 0, .int .i64 0]) Tryz.underlying37 hi hz .i64 .i64 n n (by omega) (by omega) (by rw [hb]; omega) (by omega)
 simp only [Int.toNat_natCast, hs] at hr
 exact hr
theorem holes_cells (n : Nat) (hn : n ≤ 16) : (madeCells #[.int .i64 0, .int .i64 0, .int .i64 0, .int .i64 0, .int .i64 0] (n * 5)).toList = (holes n).flatMap pcL := by
 have h1 : (madeCells #[.int .i64 0, .int .i64 0, .int .i64 0, .int .i64 0, .int .i64 0] (n * 5)).toList = List.replicate (n * 5) (.int .i64 0) := by
  rw [List.eq_replicate_iff]
  refine ⟨by rw [Array.length_toList, size_madeCells], fun v hv => ?_⟩
  unfold madeCells at hv
  rw [Array.toList_map, List.mem_map] at hv
  obtain ⟨k, _, rfl⟩ := hv
  have hk : k % 5 = 0 ∨ k % 5 = 1 ∨ k % 5 = 2 ∨ k % 5 = 3 ∨ k % 5 = 4 := by omega
  show (#[.int .i64 0, .int .i64 0, .int .i64 0, .int .i64 0, .int .i64 0] : Array Value)[k % 5]! = _
  rcases hk with h | h | h | h | h <;> (rw [h]; rfl)
 have h2 : (holes n).flatMap pcL = List.replicate (n * 5) (.int .i64 0) := by
  rw [List.eq_replicate_iff]
  refine ⟨by rw [pcL_len]; unfold holes; rw [List.length_replicate], fun v hv => ?_⟩
  obtain ⟨z, hz, hv⟩ := List.mem_flatMap.1 hv
  obtain rfl := List.eq_of_mem_replicate hz
  simp [pcL, zeroP] at hv
  exact hv
 rw [h1, h2]
theorem holes_len (n : Nat) : (holes n).length = n := List.length_replicate
theorem holes_at {n : Nat} (hn : n ≤ 16) (w : World) {B : Nat} (hB : B ≤ w.heap.size) : PtrsAt B (some ⟨w.heap.size, 0, none⟩) n [w.heap.size] (holes n) (w.alloc (.cells (madeCells #[.int .i64 0, .int .i64 0, .int .i64 0, .int .i64 0, .int .i64 0] (n * 5)) 41)) := by
 have := PtrsAt.lit (w := w) (B := B) (ys := holes n) (holes_cells n hn) (by rw [holes_len]; unfold maxLen; omega) hB
 rwa [holes_len] at this
theorem GotPs.bad {o : Option (List PtrD)} {w w' : World} {A : Option Addr} {n c lo : Nat} {ps : List PtrD} (h : o = none) (hs : SliceR PtrR 5 w' lo w'.heap.size A n c ps) (hlo : w.heap.size ≤ lo) (hb : Below w.heap.size w w') : GotPs o w (.returned (.tuple #[.slice A n c, .bool false])) w' :=
 ⟨A, n, c, ps, false, rfl, by rw [h]; rfl, fun qs e => by rw [h] at e; (cases e), hs.wide hlo (Nat.le_refl _) (Nat.le_refl _) (PtrR.wide hlo (Nat.le_refl _) (Nat.le_refl _)), hb⟩
theorem GotPs.got {o : Option (List PtrD)} {w w' : World} {A : Option Addr} {n c lo : Nat} {ps : List PtrD} (h : o = some ps) (hs : SliceR PtrR 5 w' lo w'.heap.size A n c ps) (hlo : w.heap.size ≤ lo) (hb : Below w.heap.size w w') : GotPs o w (.returned (.tuple #[.slice A n c, .bool true])) w' :=
 ⟨A, n, c, ps, true, rfl, by rw [h]; rfl, fun qs e => by rw [h] at e; exact Option.some.inj e, hs.wide hlo (Nat.le_refl _) (Nat.le_refl _) (PtrR.wide hlo (Nat.le_refl _) (Nat.le_refl _)), hb⟩
theorem SliceR.newer {w w' : World} {lo : Nat} {A : Option Addr} {n c : Nat} {ps : List PtrD} (h : SliceR PtrR 5 w lo w.heap.size A n c ps) (hb : Below w.heap.size w w') : SliceR PtrR 5 w' lo w'.heap.size A n c ps :=
 (h.below hb (PtrR.below hb (Nat.le_refl _))).wide (Nat.le_refl _) hb.size (Nat.le_refl _) (PtrR.wide (Nat.le_refl _) hb.size (Nat.le_refl _))
theorem young_all {b0 : Int} {ps : List PtrD} : ps.all (fun q => decide (q.2.1 ≤ b0)) = !ps.any (youngB b0) := by
 rw [List.not_any_eq_all_not]
 congr 1
 funext q
 unfold youngB
 by_cases h : q.2.1 ≤ b0
 · have h2 : ¬ b0 < q.2.1 := by omega
   simp [h2, h]
 have h2 : b0 < q.2.1 := by omega
 simp [h2, h]
theorem strB_toList (l : Str) : (strB l).data.toList = l := by simp [strB]
set_option maxRecDepth 100000 in
set_option maxHeartbeats 8000000 in
theorem fanOf_any (bo : Nat) (cs : List Value) (x : StoreD) (a b s m l lev : Int) (w : World) (he : Env w) (lo hi : Nat) (hbo : w.heap[bo]? = some (.cells cs.toArray 39 (0, 0))) (h : StoreR w lo hi cs x) (hhi : hi ≤ w.heap.size) (h64 : x.1.length = 64) (hz : ∀ r ∈ x.1, r.size ≤ 128) (hok : okP (a, b, s, m, l) = true) :
 Calls Tryz.prog 84 #[.pointer (some ⟨bo, 0, none⟩), .agg #[.int .i64 a, .int .i64 b, .int .i64 s, .int .i64 m, .int .i64 l], .int .i64 lev] w (GotPs (belowF x lev (a, b, s, m, l)) w) := by
 have lbo : bo < w.heap.size := (Array.getElem?_eq_some_iff.1 hbo).1
 have HBO := Lib.hid hbo; have H := Lib.hid h; have HZ := Lib.hid hz; have HOK := Lib.hid hok; have HE := Lib.hid he; have HHI := Lib.hid hhi; have H64 := Lib.hid h64
 clear hbo h hz hok he hhi h64
 have HRD := Lib.hid (fun (W : World) (hb : Below w.heap.size w W) => read_any bo cs x a b s m l W lo hi ((hb.block _ lbo).trans HBO.out) (StoreR.below hb HHI.out cs x H.out) H64.out HZ.out HOK.out)
 clear HBO H
 go_enter Tryz.func84, Tryz.ntmps84
 go_wp2_with fail
 refine (ptrHole_any a b s m l _).mono ?_
 rintro e w1 ⟨rfl, hb1⟩
 have z1 : w.heap.size + 1 ≤ w1.heap.size := by have := hb1.size; simpa using this
 have HB1 : Hid (Below w.heap.size w w1) := Lib.hid (bel1.trans (hb1.mono (by simp)))
 have HBX : Hid (w1.heap[w.heap.size]? = some (.cells #[.int .i64 a, .int .i64 b, .int .i64 s, .int .i64 m, .int .i64 l] 41 (0, 0))) := Lib.hid ((hb1.block _ (by simp)).trans (heap_alloc_new _ _))
 clear hb1
 have l1 : w.heap.size < w1.heap.size := by omega
 cases e2 : ptrHole a b s m l
 rotate_left
 · have HN := Lib.hid (belowF_hole (x := x) (lev := lev) (p := (a, b, s, m, l)) e2)
   clear e2
   have hmk : (Instr.makeSlice 37 (.int .i64 4) (.int .i64 4)).run Tryz.prog w1 = .ok (.slice (some ⟨w1.heap.size, 0, none⟩) 4 4) (w1.alloc (.cells (madeCells #[.int .i64 0, .int .i64 0, .int .i64 0, .int .i64 0, .int .i64 0] (4 * 5)) 41)) := make_Holes 4 (by omega) w1
   obtain ⟨w2, hw2⟩ : ∃ W, W = w1.alloc (.cells (madeCells #[.int .i64 0, .int .i64 0, .int .i64 0, .int .i64 0, .int .i64 0] (4 * 5)) 41) := ⟨_, rfl⟩
   rw [← hw2] at hmk
   have HPS : Hid (PtrsAt w.heap.size (some ⟨w1.heap.size, 0, none⟩) 4 [w1.heap.size] (holes 4) w2) := Lib.hid (by rw [hw2]; exact holes_at (by omega) w1 HB1.out.size)
   have HB2 : Hid (Below w.heap.size w w2) := Lib.hid (by rw [hw2]; exact Below.alloc HB1.out HB1.out.size _)
   clear hw2
   go_wp2_with fail
   exact bodyPost_ret (v := .tuple #[.slice (some ⟨w1.heap.size, 0, none⟩) 4 4, .bool true]) (by simp [results, Tryz.results84, go_sem]) rfl (GotPs.yes HN.out (holes_len 4).symm HPS.out HB2.out)
 have HH := Lib.hid e2; clear e2
 have b0 := celR 0 HBX.out; have b1 := celR 1 HBX.out; have b2 := celR 2 HBX.out; have b3 := celR 3 HBX.out; have b4 := celR 4 HBX.out
 obtain ⟨o, ho⟩ : ∃ o, o = readF x (a, b, s, m, l) := ⟨_, rfl⟩
 have HO := Lib.hid ho.symm
 go_wp2_with fail
 refine (HRD.out w1 HB1.out).mono ?_
 unfold read_any_post
 rw [← ho]
 clear ho
 cases o
 · simp only [Option.getD_none, Option.isSome_none]
   obtain ⟨tx, htx⟩ : ∃ tx, tx = ByteArray.empty := ⟨_, rfl⟩
   rw [← htx]
   rintro e w2 ⟨rfl, hb2⟩
   have HB2 := Lib.hid (HB1.out.trans (hb2.mono HB1.out.size))
   have HN := Lib.hid (belowF_read (x := x) (lev := lev) (p := (a, b, s, m, l)) HH.out HO.out)
   clear hb2 htx b0 b1 b2 b3 b4
   go_wp2_with fail
   exact bodyPost_ret (v := .tuple #[.slice none 0 0, .bool false]) (by simp [results, Tryz.results84, go_sem]) rfl (GotPs.no HN.out HB2.out)
 rename_i t
 have hts := readF_small HO.out
 obtain ⟨ts, rfl⟩ : ∃ ts, t = strB ts := ⟨t.data.toList, (strB_data t).symm⟩
 have htl : ts.length ≤ 128 := hts
 clear hts
 simp only [Option.getD_some, Option.isSome_some]
 rintro e w2 ⟨rfl, hb2⟩
 have HB2 := Lib.hid (HB1.out.trans (hb2.mono HB1.out.size))
 have HBX2 := Lib.hid ((hb2.block _ l1).trans HBX.out)
 have l2 : w.heap.size < w2.heap.size := Nat.lt_of_lt_of_le l1 hb2.size
 clear hb2 b0 b1 b2 b3 b4 HRD
 have b0 := celR 0 HBX2.out; have b1 := celR 1 HBX2.out; have b4 := celR 4 HBX2.out
 by_cases hl : l = lev
 rotate_left
 · have HN := Lib.hid (belowF_level (x := x) (lev := lev) (p := (a, b, s, m, l)) HH.out hl)
   have dl : (l != lev) = true := by simpa using hl
   clear hl
   go_wp2_with fail
   exact bodyPost_ret (v := .tuple #[.slice none 0 0, .bool false]) (by simp [results, Tryz.results84, go_sem]) rfl (GotPs.no HN.out HB2.out)
 have dl : (l != lev) = false := by simpa using hl
 have HL := Lib.hid hl; clear hl
 go_wp2_with fail
 refine (fanGet_any ts _ (HE.out.below HB2.out) (by omega)).mono ?_
 rintro e w3 ⟨A, n, c, ps, ok, rfl, hok, hps, hsl, hb3⟩
 have HB3 := Lib.hid (HB2.out.trans (hb3.mono HB2.out.size))
 have HBX3 := Lib.hid ((hb3.block _ l2).trans HBX2.out)
 have l3 : w.heap.size < w3.heap.size := Nat.lt_of_lt_of_le l2 hb3.size
 have HSL := Lib.hid hsl
 clear hb3 hsl b0 b1 b4
 have HLW : Hid (w.heap.size ≤ w2.heap.size) := Lib.hid HB2.out.size
 cases ok
 · have HN := Lib.hid (belowF_fan (x := x) (lev := lev) (p := (a, b, s, m, l)) HH.out HO.out (by
    rw [strB_toList]
    cases hf : fanGet ts with
    | none => rfl
    | some v => rw [hf] at hok; cases hok))
   clear hok hps
   go_wp2_with fail
   exact bodyPost_ret (v := .tuple #[.slice A n c, .bool false]) (by simp [results, Tryz.results84, go_sem]) rfl (GotPs.bad HN.out HSL.out HLW.out HB3.out)
 obtain ⟨qs, hqs⟩ : ∃ qs, fanGet ts = some qs := by
  cases hf : fanGet ts with
  | none => rw [hf] at hok; cases hok
  | some v => exact ⟨v, rfl⟩
 obtain rfl := hps qs hqs
 have HQ : Hid (fanGet (strB ts).data.toList = some ps) := Lib.hid (by rw [strB_toList]; exact hqs)
 clear hok hps hqs
 have hq1 := celR 1 HBX3.out
 have HC := Lib.hid (containsYoung_any w.heap.size b A n c ps w3 _ _ hq1 HSL.out)
 clear hq1
 go_wp2_with fail
 refine HC.out.mono ?_
 rintro e w4 ⟨rfl, hb4⟩
 have HB4 := Lib.hid (HB3.out.trans (hb4.mono HB3.out.size))
 have HSL4 := Lib.hid (HSL.out.newer hb4)
 clear hb4 HC
 cases hy : ps.any (youngB b)
 · have HN := Lib.hid (belowF_yes (x := x) (lev := lev) (p := (a, b, s, m, l)) HH.out HO.out HL.out HQ.out (by dsimp only; rw [young_all, hy]; rfl))
   clear hy
   go_wp2_with fail
   exact bodyPost_ret (v := .tuple #[.slice A n c, .bool true]) (by simp [results, Tryz.results84, go_sem]) rfl (GotPs.got HN.out HSL4.out HLW.out HB4.out)
 have HN := Lib.hid (belowF_birth (x := x) (lev := lev) (p := (a, b, s, m, l)) HH.out HO.out HQ.out (by dsimp only; rw [young_all, hy]; rfl))
 clear hy
 go_wp2_with fail
 exact bodyPost_ret (v := .tuple #[.slice A n c, .bool false]) (by simp [results, Tryz.results84, go_sem]) rfl (GotPs.bad HN.out HSL4.out HLW.out HB4.out)
theorem l8Holes_any (n : Nat) (hn : n ≤ 16) (w : World) : Calls Tryz.prog 63 #[.int .i64 (n : Int)] w fun e w' => e = .returned (.slice (some ⟨w.heap.size, 0, none⟩) n n) ∧ PtrsAt w.heap.size (some ⟨w.heap.size, 0, none⟩) n [w.heap.size] (holes n) w' ∧ Below w.heap.size w w' := by
 have hmk := make_Holes n hn w
 obtain ⟨w2, hw2⟩ : ∃ W, W = w.alloc (.cells (madeCells #[.int .i64 0, .int .i64 0, .int .i64 0, .int .i64 0, .int .i64 0] (n * 5)) 41) := ⟨_, rfl⟩
 rw [← hw2] at hmk
 have HPS : Hid (PtrsAt w.heap.size (some ⟨w.heap.size, 0, none⟩) n [w.heap.size] (holes n) w2) := Lib.hid (by rw [hw2]; exact holes_at hn w (Nat.le_refl _))
 have HB2 : Hid (Below w.heap.size w w2) := Lib.hid (by rw [hw2]; exact bel1)
 clear hw2
 go_enter Tryz.func63, Tryz.ntmps63
 go_wp2_with fail
 go_ret
 exact ⟨rfl, HPS.out, HB2.out⟩
set_option maxRecDepth 100000 in
set_option maxHeartbeats 8000000 in
theorem l8Below_any (cs : List Value) (x : StoreD) (a b s m l lev : Int) (w : World) (lo hi : Nat) (h : StoreR w lo hi cs x) (hhi : hi ≤ w.heap.size) (h64 : x.1.length = 64) (hz : ∀ r ∈ x.1, r.size ≤ 128) :
 Calls Tryz.prog 80 #[.agg cs.toArray, .agg #[.int .i64 a, .int .i64 b, .int .i64 s, .int .i64 m, .int .i64 l], .int .i64 lev] w (GotPs (belowS x lev (a, b, s, m, l)) w) := by
 have HZ := Lib.hid hz; have HHI := Lib.hid hhi; have H64 := Lib.hid h64
 have HRD := Lib.hid (fun (W : World) (hb : Below w.heap.size w W) => l7Read_any cs x a b s m l W lo hi (StoreR.below hb HHI.out cs x h) H64.out HZ.out)
 clear hz hhi h64
 obtain ⟨rows, ⟨refs, last⟩, txg, gone, keep, dead, same⟩ := x
 obtain ⟨A0, n0, c0, A1, n1, c1, A2, n2, c2, A3, n3, c3, A4, n4, c4, rfl, h0, h1, h2, h3, h4⟩ := h
 obtain rfl : n0 = 64 := by rw [← h0.len]; exact H64.out
 clear h0 h1 h2 h3 h4
 have HRD : Hid (∀ (W : World), Below w.heap.size w W → okP (a, b, s, m, l) = true → Calls Tryz.prog 48 #[.agg #[.slice A0 64 c0, .slice A1 n1 c1, .slice A2 n2 c2, .int .i64 txg, .slice A3 n3 c3, .int .i64 keep, .slice A4 n4 c4, .bool same], .agg #[.int .i64 a, .int .i64 b, .int .i64 s, .int .i64 m, .int .i64 l]] W (l7Read_any_post (rows, (refs, last), txg, gone, keep, dead, same) (a, b, s, m, l) W)) := Lib.hid (fun W hb hok => HRD.out W hb hok)
 show Calls Tryz.prog 80 #[.agg #[.slice A0 64 c0, .slice A1 n1 c1, .slice A2 n2 c2, .int .i64 txg, .slice A3 n3 c3, .int .i64 keep, .slice A4 n4 c4, .bool same], .agg #[.int .i64 a, .int .i64 b, .int .i64 s, .int .i64 m, .int .i64 l], .int .i64 lev] w _
 generalize hX : ((rows, (refs, last), txg, gone, keep, dead, same) : StoreD) = X at *
 have HTX : Hid (X.2.2.1 = txg) := Lib.hid (by rw [← hX])
 clear hX
 go_enter Tryz.func80, Tryz.ntmps80
 go_wp2_with fail
 refine (spPtrHole_any a b s m l _).mono ?_
 rintro e w1 ⟨rfl, hb1⟩
 have z1 : w.heap.size + 1 + 1 ≤ w1.heap.size := by have := hb1.size; simpa using this
 have HB1 : Hid (Below w.heap.size w w1) := Lib.hid ((bel2 (o := .cells #[.slice A0 64 c0, .slice A1 n1 c1, .slice A2 n2 c2, .int .i64 txg, .slice A3 n3 c3, .int .i64 keep, .slice A4 n4 c4, .bool same] 39) (o' := .cells #[.int .i64 a, .int .i64 b, .int .i64 s, .int .i64 m, .int .i64 l] 41)).trans (hb1.mono (by simp <;> omega)))
 have HST : Hid (w1.heap[w.heap.size]? = some (.cells #[.slice A0 64 c0, .slice A1 n1 c1, .slice A2 n2 c2, .int .i64 txg, .slice A3 n3 c3, .int .i64 keep, .slice A4 n4 c4, .bool same] 39 (0, 0))) := Lib.hid ((hb1.block _ (by simp <;> omega)).trans ((Below.heap_alloc _ _ _ (by simp)).trans (heap_alloc_new _ _)))
 have HBX : Hid (w1.heap[w.heap.size + 1]? = some (.cells #[.int .i64 a, .int .i64 b, .int .i64 s, .int .i64 m, .int .i64 l] 41 (0, 0))) := Lib.hid ((hb1.block _ (by simp <;> omega)).trans (by have := heap_alloc_new (w.alloc (.cells #[.slice A0 64 c0, .slice A1 n1 c1, .slice A2 n2 c2, .int .i64 txg, .slice A3 n3 c3, .int .i64 keep, .slice A4 n4 c4, .bool same] 39)) (.cells #[.int .i64 a, .int .i64 b, .int .i64 s, .int .i64 m, .int .i64 l] 41); simpa using this))
 clear hb1
 have l1 : w.heap.size < w1.heap.size := by omega
 have l1x : w.heap.size + 1 < w1.heap.size := by omega
 cases e2 : ptrHole a b s m l
 rotate_left
 · have HN := Lib.hid (belowS_hole (x := X) (lev := lev) (p := (a, b, s, m, l)) e2)
   clear e2
   go_wp2_with fail
   refine (l8Holes_any 4 (by omega) w1).mono ?_
   rintro e w2 ⟨rfl, hp2, hb2⟩
   have HP2 := Lib.hid (hp2.mono HB1.out.size)
   have HB2 := Lib.hid (HB1.out.trans (hb2.mono HB1.out.size))
   clear hp2 hb2
   go_wp2_with fail
   exact bodyPost_ret (v := .tuple #[.slice (some ⟨w1.heap.size, 0, none⟩) 4 4, .bool true]) (by simp [results, Tryz.results80, go_sem]) rfl (GotPs.yes HN.out (holes_len 4).symm HP2.out HB2.out)
 have HH := Lib.hid e2; clear e2
 have s0 := celR 0 HST.out; have s1 := celR 1 HST.out; have s2 := celR 2 HST.out; have s3 := celR 3 HST.out; have s4 := celR 4 HST.out; have s5 := celR 5 HST.out; have s6 := celR 6 HST.out; have s7 := celR 7 HST.out; have b0 := celR 0 HBX.out; have b1 := celR 1 HBX.out; have b2 := celR 2 HBX.out; have b3 := celR 3 HBX.out; have b4 := celR 4 HBX.out
 go_wp2_with fail
 refine (spPtrOk_any a b s m l _).mono ?_
 rintro e w2 ⟨rfl, hb2⟩
 have HB2 := Lib.hid (HB1.out.trans (hb2.mono HB1.out.size))
 have HST2 := Lib.hid ((hb2.block _ l1).trans HST.out)
 have HBX2 := Lib.hid ((hb2.block _ l1x).trans HBX.out)
 have l2 := Nat.lt_of_lt_of_le l1 hb2.size
 have l2x := Nat.lt_of_lt_of_le l1x hb2.size
 clear hb2 s0 s1 s2 s3 s4 s5 s6 s7 b0 b1 b2 b3 b4
 cases e3 : ptrOkB a b s m l
 · have HN := Lib.hid (belowS_ok (x := X) (lev := lev) (p := (a, b, s, m, l)) e3)
   clear e3
   go_wp2_with fail
   exact bodyPost_ret (v := .tuple #[.slice (some ⟨w2.heap.size, 0, none⟩) 0 0, .bool false]) (by simp [results, Tryz.results80, go_sem]) rfl (GotPs.no HN.out (Below.alloc HB2.out HB2.out.size _))
 have HOK : Hid (okP (a, b, s, m, l) = true) := Lib.hid e3
 clear e3
 have s0 := celR 0 HST2.out; have s1 := celR 1 HST2.out; have s2 := celR 2 HST2.out; have s3 := celR 3 HST2.out; have s4 := celR 4 HST2.out; have s5 := celR 5 HST2.out; have s6 := celR 6 HST2.out; have s7 := celR 7 HST2.out; have b0 := celR 0 HBX2.out; have b1 := celR 1 HBX2.out; have b2 := celR 2 HBX2.out; have b3 := celR 3 HBX2.out; have b4 := celR 4 HBX2.out
 by_cases hl : l = lev
 rotate_left
 · have HN : Hid (belowS X lev (a, b, s, m, l) = none) := Lib.hid (by
    unfold belowS
    rw [if_neg (by rw [show holeP (a, b, s, m, l) = false from HH.out]; simp)]
    split
    · exact belowF_level HH.out hl
    · rfl)
   have dl : (l != lev) = true := by simpa using hl
   clear hl
   go_wp2_with fail
   exact bodyPost_ret (v := .tuple #[.slice (some ⟨w2.heap.size, 0, none⟩) 0 0, .bool false]) (by simp [results, Tryz.results80, go_sem]) rfl (GotPs.no HN.out (Below.alloc HB2.out HB2.out.size _))
 have dl : (l != lev) = false := by simpa using hl
 have HL := Lib.hid hl; clear hl
 by_cases hx : txg < b
 · have HN := Lib.hid (belowS_txg (x := X) (lev := lev) (p := (a, b, s, m, l)) HH.out (by rw [HTX.out]; dsimp only; omega))
   go_wp2_with fail
   exact bodyPost_ret (v := .tuple #[.slice (some ⟨w2.heap.size, 0, none⟩) 0 0, .bool false]) (by simp [results, Tryz.results80, go_sem]) rfl (GotPs.no HN.out (Below.alloc HB2.out HB2.out.size _))
 have HSF := Lib.hid (belowS_eq (x := X) (lev := lev) (p := (a, b, s, m, l)) (.inl (by rw [HTX.out]; dsimp only; omega)))
 have dx : decide (txg < b) = false := decide_eq_false hx
 obtain ⟨o, ho⟩ : ∃ o, o = readF X (a, b, s, m, l) := ⟨_, rfl⟩
 have HO := Lib.hid ho.symm
 go_wp2_with fail
 refine (HRD.out w2 HB2.out HOK.out).mono ?_
 unfold l7Read_any_post
 rw [← ho]
 clear ho hx
 cases o
 · simp only [Option.getD_none, Option.isSome_none]
   obtain ⟨tx, htx⟩ : ∃ tx, tx = ByteArray.empty := ⟨_, rfl⟩
   rw [← htx]
   rintro e w3 ⟨rfl, hb3⟩
   have HB3 := Lib.hid (HB2.out.trans (hb3.mono HB2.out.size))
   have HN : Hid (belowS X lev (a, b, s, m, l) = none) := Lib.hid (HSF.out.trans (belowF_read (x := X) (lev := lev) (p := (a, b, s, m, l)) HH.out HO.out))
   clear hb3 htx s0 s1 s2 s3 s4 s5 s6 s7 b0 b1 b2 b3 b4
   go_wp2_with fail
   exact bodyPost_ret (v := .tuple #[.slice (some ⟨w3.heap.size, 0, none⟩) 0 0, .bool false]) (by simp [results, Tryz.results80, go_sem]) rfl (GotPs.no HN.out (Below.alloc HB3.out HB3.out.size _))
 rename_i t
 have hts := readF_small HO.out
 obtain ⟨ts, rfl⟩ : ∃ ts, t = strB ts := ⟨t.data.toList, (strB_data t).symm⟩
 have htl : ts.length ≤ 128 := hts
 clear hts
 simp only [Option.getD_some, Option.isSome_some]
 rintro e w3 ⟨rfl, hb3⟩
 have HB3 := Lib.hid (HB2.out.trans (hb3.mono HB2.out.size))
 have HBX3 := Lib.hid ((hb3.block _ l2x).trans HBX2.out)
 have l3x := Nat.lt_of_lt_of_le l2x hb3.size
 clear hb3 s0 s1 s2 s3 s4 s5 s6 s7 b0 b1 b2 b3 b4 HRD HST2 HST
 go_wp2_with fail
 refine (spFanGet_any ts _ (by omega)).mono ?_
 rintro e w4 ⟨A, n, c, ps, ok, rfl, hok, hps, hsl, hb4⟩
 have HB4 := Lib.hid (HB3.out.trans (hb4.mono HB3.out.size))
 have HBX4 := Lib.hid ((hb4.block _ l3x).trans HBX3.out)
 have l4x := Nat.lt_of_lt_of_le l3x hb4.size
 have HLEN := Lib.hid hsl.len
 have hnm := hsl.max
 have HSL := Lib.hid hsl
 clear hb4 hsl
 have HLW : Hid (w.heap.size ≤ w3.heap.size) := Lib.hid HB3.out.size
 have HF0 : Hid (ok = (fanGet ts).isSome) := Lib.hid hok
 have HF1 : Hid (∀ qs, fanGet ts = some qs → ps = qs) := Lib.hid hps
 clear hok hps
 have HFALL : Hid ((∀ j p, j < n → ps[j]? = some p → youngB b p = false) → (ok = true → belowS X lev (a, b, s, m, l) = some ps) ∧ (ok = false → belowS X lev (a, b, s, m, l) = none)) := Lib.hid (fun hy => by
  have hy2 : ps.any (youngB b) = false := any_uptoP HLEN.out hy
  cases hf : fanGet ts with
  | none =>
    have h0 := HF0.out
    rw [hf] at h0
    exact ⟨fun h => by rw [h] at h0; (cases h0), fun _ => HSF.out.trans (belowF_fan HH.out HO.out (by rw [strB_toList]; exact hf))⟩
  | some v =>
    have h0 := HF0.out
    rw [hf] at h0
    obtain rfl := HF1.out v hf
    exact ⟨fun _ => HSF.out.trans (belowF_yes HH.out HO.out HL.out (by rw [strB_toList]; exact hf) (by dsimp only; rw [young_all, hy2]; rfl)), fun h => by rw [h] at h0; (cases h0)⟩)
 have HFBAD : Hid (∀ j p, ps[j]? = some p → youngB b p = true → belowS X lev (a, b, s, m, l) = none) := Lib.hid (fun j p hp hy => by
  cases hf : fanGet ts with
  | none => exact HSF.out.trans (belowF_fan HH.out HO.out (by rw [strB_toList]; exact hf))
  | some v =>
    obtain rfl := HF1.out v hf
    exact HSF.out.trans (belowF_birth HH.out HO.out (by rw [strB_toList]; exact hf) (by dsimp only; rw [young_all, any_yesP hp hy]; rfl)))
 clear HF0 HF1
 go_wp2_with fail
 go_loopw [12] (fun i wr => ∃ k : Nat, k ≤ n ∧ i = .int .i64 (k : Int) ∧ Hid (∀ j p, j < k → ps[j]? = some p → youngB b p = false) ∧ Hid (Below w4.heap.size w4 wr)) (fun i _ => n - (RowKit.intOf i).toNat)
 case atStart => exact ⟨0, Nat.zero_le _, rfl, Lib.hid (fun j p hj => absurd hj (by omega)), Lib.hid (Below.refl _ _)⟩
 obtain ⟨k, hk, rfl, HP, HBR⟩ := hrel
 have k0 : (0 : Int) ≤ (k : Int) := by omega
 by_cases hlt : k < n
 case pos =>
  have k1 : (k : Int) < (n : Int) := by omega
  obtain ⟨pp, hp⟩ : ∃ x, ps[k]? = some x := ⟨ps[k]'(by rw [HLEN.out]; exact hlt), List.getElem?_eq_getElem _⟩
  obtain ⟨b_, off, rfl, _, _, bl, hc⟩ := (HSL.out.newer HBR.out).at_ (by omega)
  obtain ⟨cs, hcl, hcc, hr⟩ := hc k pp hp
  have HX := Lib.hid hp; clear hp hc
  obtain ⟨a', b', s', m', l'⟩ := pp
  obtain rfl := hr
  have q1 := hcc 1 _ rfl
  clear hcc hcl
  have x1 := celR 1 ((HBR.out.block _ l4x).trans HBX4.out)
  have lrx := Nat.lt_of_lt_of_le l4x HBR.out.size
  obtain ⟨yg, hyg⟩ : ∃ yg, decide (b < b') = yg := ⟨_, rfl⟩
  have HYG := Lib.hid hyg
  go_wp2_with fail
  apply wp_region_rg (by kernel_rfl) (false :: false :: false :: false :: false :: false :: false :: false :: false :: false :: false :: false :: false :: false :: false :: false :: false :: false :: false :: false :: false :: false :: false :: false :: false :: false :: false :: false :: false :: false :: false :: false :: false :: false :: false :: false :: false :: false :: false :: false :: false :: false :: false :: false :: false :: false :: false :: false :: false :: false :: false :: false :: false :: true :: true :: true :: true :: true :: true :: true :: true :: false :: false :: false :: []) [some 53, some 54, some 55, some 56, some 57, some 58, some 59, some 60] [[], [], [0, 1], [2], [3], [], [5], [4, 6]] [StP.is _, StP.is _, StP.is _, StP.is _, StP.is _, StP.is _, StP.is _, StP.is _] (by kernel_rfl)
  case hobs =>
   iterate 4 (constructor; rotate_left)
   constructor; have ld_ := trivial; rotate_left
   constructor; rotate_left
   constructor; have ld_ := trivial; rotate_left
   constructor; rotate_left
   · trivial
   all_goals (
    intro y w' hS hF K hK
    have eF := trivial
    repeat (obtain ⟨f1, hF⟩ := hF; replace eF := And.intro (show y _ = _ from f1) eF; clear f1)
    first
     | simp only [fillL, cond_true, cond_false, zG0, zG1, StP.is, Act.put, zS2, zS0, zS1, Nat.reduceAdd, eF] at hK ⊢
     | simp only [fillL, cond_true, cond_false, zG0, zG1, StP.is, Act.put, zS2, zS0, zS1, Nat.reduceAdd] at hK ⊢
    clear eF hF
    first
     | (refine rg_yes (by kernel_rfl) ?_
        try (clear ld_; have qx0_ := (Below.cell hS bl).trans q1; have qx1_ := (Below.cell hS lrx).trans x1)
        go_simp
        first
         | exact hK _ _ (Ext.refl _) rfl))
  intro y w5 hX5 hF
  have e60 : y 60 = _ := hF.2.2.2.2.2.2.2.1
  clear hF
  simp only [fillL, cond_true, cond_false, Nat.reduceAdd, e60]
  clear e60 q1 x1 hyg
  have HBR5 := Lib.hid (HBR.out.trans (Below.mono hX5 HBR.out.size))
  have HB5 := Lib.hid (HB4.out.trans (HBR5.out.mono HB4.out.size))
  clear hX5
  cases yg
  · have HN := Lib.hid (upto_stepP (Q := fun p => youngB b p = false) HP.out HX.out (by unfold youngB; exact HYG.out))
    go_wp2_with fail
    go_roundw
    case rel => exact ⟨k + 1, by omega, by go_num, HN, HBR5⟩
    simp [RowKit.intOf]; omega
  have HN := Lib.hid (HFBAD.out k _ HX.out (by unfold youngB; exact HYG.out))
  go_wp2_with fail
  exact bodyPost_ret (v := .tuple #[.slice (some ⟨w5.heap.size, 0, none⟩) 0 0, .bool false]) (by simp [results, Tryz.results80, go_sem]) rfl (GotPs.no HN.out (Below.alloc HB5.out HB5.out.size _))
 obtain rfl : k = n := by omega
 have HSLR := Lib.hid (HSL.out.newer HBR.out)
 have HBRR := Lib.hid (HB4.out.trans (HBR.out.mono HB4.out.size))
 obtain ⟨g1, g2⟩ := HFALL.out HP.out
 have HG1 := Lib.hid g1; have HG2 := Lib.hid g2
 clear g1 g2
 cases ok
 · have HN := Lib.hid (HG2.out rfl)
   go_wp2_with fail
   exact bodyPost_ret (v := .tuple #[.slice A k c, .bool false]) (by simp [results, Tryz.results80, go_sem]) rfl (GotPs.bad HN.out HSLR.out HLW.out HBRR.out)
 have HN := Lib.hid (HG1.out rfl)
 go_wp2_with fail
 exact bodyPost_ret (v := .tuple #[.slice A k c, .bool true]) (by simp [results, Tryz.results80, go_sem]) rfl (GotPs.got HN.out HSLR.out HLW.out HBRR.out)
end Go.Proofs.YtjnhiiaejeaikaaGreatDoor
