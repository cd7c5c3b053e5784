/- RootList of the program. Condition: the tables that strconv's functions read lie as their initialisers lay them. -/
import Derived.Test.YtcfgbeajdkbbcaaGreatDoorRootList
import Derived.Test.YtcfgbeajdkbbcaaGreatDoorSorts
namespace Go.Proofs.YtcfgbeajdkbbcaaGreatDoor
set_option linter.unnecessarySimpa false
open Go Go.Lib Go.RowKit Go.Sort
set_option linter.unusedVariables false
set_option linter.unusedSimpArgs false

def cfR (x y : RootD) : Int := Lib.compareInt y.1 x.1
theorem ltR (x y : RootD) : ltOf cfR x y = decide (y.1 < x.1) := by
  unfold ltOf cfR Lib.compareInt
  by_cases h1 : y.1 < x.1
  · simp [h1]
  · by_cases h2 : x.1 < y.1 <;> simp [h1, h2]
theorem swoR : SWO (ltOf cfR) where
  irrefl x := by rw [ltR]; simp
  trans x y z h1 h2 := by rw [ltR] at *; simp at *; omega
  ntrans x y z h1 h2 := by rw [ltR] at *; simp at *; omega
theorem flat_get (ys : List RootD) (j : Nat) (hj : j < ys.length * 8) : (ys.flatMap rcL)[j]? = some ((rcL ys.toArray[j / 8]!)[j % 8]!) := by
  have h8 : j / 8 < ys.length := by omega
  obtain ⟨cs, hl, hc, hr⟩ := row_roots (w := default) (lo := 0) (hi := 0) ys (j / 8) ys[j / 8] (List.getElem?_eq_getElem h8)
  have e : cs = rcL ys[j / 8] := hr
  subst e
  have hm : j % 8 < (rcL ys[j / 8]).length := by show _ < 8; omega
  have h1 := hc (j % 8) (rcL ys[j / 8])[j % 8] (List.getElem?_eq_getElem hm)
  rw [show j / 8 * 8 + j % 8 = j by omega] at h1
  rw [h1]
  have e2 : ys.toArray[j / 8]! = ys[j / 8] := by simp [h8]
  rw [e2]
  simp [hm]
theorem roots_holds {w : World} {g c : Nat} {cur : Array Value} {ys : List RootD} (hg : w.heap[g]? = some (.cells cur 31 (0, 0))) (hcc : ∀ j, j < ys.length * 8 → cur[j]? = (ys.flatMap rcL)[j]?) : HoldsK rcL 8 w g 0 ys.toArray := by
  intro j hj
  have hj' : j < ys.length * 8 := by simpa using hj
  refine ⟨?_, block_free hg _⟩
  rw [Nat.zero_add, cell_of_row _ _ _ _ _ (0, 0) hg, hcc j hj', flat_get ys j hj', get_flatK _ _ _ _ (by simpa using hj')]
  rfl
theorem sort_facts {w : World} {g c n : Nat} {os : Array Obj} {cur : Array Value} {ys zs : List RootD} (hg : w.heap[g]? = some (.cells cur 31 (0, 0))) (hcs : cur.size = c * 8) (hnc : ys.length ≤ c) (hcm : c ≤ maxLen) (hz : zs.length = ys.length) :
    OwnA (sortWorldK rcL 8 w g 0 n zs.toArray os) 31 8 [g] (some ⟨g, 0, none⟩) zs.length c (zs.flatMap rcL) ∧ Chg (· ∈ [g]) w (sortWorldK rcL 8 w g 0 n zs.toArray os) := by
  have hgl := (Array.getElem?_eq_some_iff.1 hg).1
  have hcur : (sortWorldK rcL 8 w g 0 n zs.toArray os).heap[g]? = some (.cells (putCells id 0 (flatK rcL 8 zs.toArray) cur) 31 (0, 0)) := by
    show (w.heap.modify g (onCells (putCells id 0 (flatK rcL 8 zs.toArray))) ++ os)[g]? = _
    rw [Array.getElem?_append_left (by simpa using hgl), Array.getElem?_modify, if_pos rfl, hg]
    rfl
  refine ⟨⟨.inr ⟨g, _, rfl, rfl, rcL_len zs, by omega, hcm, hcur, by unfold putCells; simpa using hcs, fun j hj => ?_⟩, fun h => by simp at h⟩, ⟨rfl, rfl, rfl, ?_, fun k hk hn => ?_⟩⟩
  · have hjc : j < cur.size := by omega
    unfold putCells
    rw [Array.getElem?_mapIdx, Array.getElem?_eq_getElem hjc]
    simp only [Option.map_some]
    rw [if_pos (by simp; omega), Nat.sub_zero, get_flatK _ _ _ _ (by simpa using hj), flat_get zs j hj]
    rfl
  · show _ ≤ (w.heap.modify g (onCells (putCells id 0 (flatK rcL 8 zs.toArray))) ++ os).size
    simp
  · show (w.heap.modify g (onCells (putCells id 0 (flatK rcL 8 zs.toArray))) ++ os)[k]? = _
    rw [Array.getElem?_append_left (by simpa using hk), Array.getElem?_modify, if_neg (fun e => hn (by simp [e]))]
theorem sorted_roots {x : RaidD} {d' : Array RootD} (hok : raidOk x = true) (hp : PermIn 0 (rowsU x 4).toArray.size (rowsU x 4).toArray d') (hs : SortedIn (ltOf cfR) 0 (rowsU x 4).toArray.size d') : RootsAre x d'.toList ∧ d'.toList.length = (rowsU x 4).length := by
  obtain ⟨h1, h2, h3⟩ := hp
  have hl : d'.toList.length = (rowsU x 4).length := by simpa using h1
  have hperm : d'.toList.Perm (rowsU x 4) := by
    have e1 : (d'.extract 0 (rowsU x 4).toArray.size).toList = d'.toList := by rw [← h1]; simp
    have e2 : ((rowsU x 4).toArray.extract 0 (rowsU x 4).toArray.size).toList = rowsU x 4 := by simp
    rwa [e1, e2] at h3
  refine ⟨?_, hl⟩
  unfold RootsAre
  rw [if_pos hok]
  refine ⟨hperm, ?_⟩
  have hap : d'.toList.Pairwise (fun a b => a.1 ≠ b.1) := (List.Perm.pairwise_iff (fun h e => h e.symm) hperm).2 (rowsU_apart x 4)
  rw [List.pairwise_iff_getElem] at hap ⊢
  intro i j hi hj hij
  have h4 := hs i j (Nat.zero_le _) hij (by simpa [← hl] using hj)
  rw [ltR] at h4
  have e1 : d'[j]! = d'.toList[j] := by rw [getElem!_pos d' j (by simpa using hj)]; simp
  have e2 : d'[i]! = d'.toList[i] := by rw [getElem!_pos d' i (by simpa using hi)]; simp
  rw [e1, e2] at h4
  have h5 := hap i j hi hj hij
  have h6 : ¬ d'.toList[i].1 < d'.toList[j].1 := by simpa using h4
  unfold DescR
  omega
set_option maxRecDepth 100000 in
set_option maxHeartbeats 1000000 in
theorem cmpRoot_any (x z : RootD) (W : World) : Calls Tryz.prog 38 #[.agg (rcL x).toArray, .agg (rcL z).toArray] W fun e w' => e = .returned (.int .i64 (cfR x z)) ∧ ∃ q os', w' = grow (W.drewN q) os' := by
  obtain ⟨t, ⟨a, b, s, m, l⟩, d, y⟩ := x
  obtain ⟨t', ⟨a', b', s', m', l'⟩, d', y'⟩ := z
  have hcon := fun W' => Tryz.cmp_Compare_int t' t W'
  change ∀ W', Calls Tryz.prog 39 _ _ _ at hcon
  obtain ⟨r, hr⟩ : ∃ r, r = Lib.compareInt t' t := ⟨_, rfl⟩
  show Calls Tryz.prog 38 #[.agg #[.int .i64 t, .int .i64 a, .int .i64 b, .int .i64 s, .int .i64 m, .int .i64 l, .int .i64 d, .int .i64 y], .agg #[.int .i64 t', .int .i64 a', .int .i64 b', .int .i64 s', .int .i64 m', .int .i64 l', .int .i64 d', .int .i64 y']] W fun e w' => e = .returned (.int .i64 (Lib.compareInt t' t)) ∧ _
  rw [← hr] at hcon ⊢
  clear hr
  go_enter Tryz.func38, Tryz.ntmps38
  go_wp2_with (go_at_call 39; refine (hcon _).mono ?_; rintro e w' ⟨rfl, rfl⟩)
  go_ret
  exact ⟨rfl, 0, _, by rw [alloc_eq_grow, alloc_eq_grow, grow_grow]; rfl⟩
theorem bitsLen_any (n : Nat) (W : World) (h : n ≤ 12) : Calls Tryz.prog 62 #[.int .u64 n] W fun e w' => (∃ l : Int, e = .returned (.int .i64 l)) ∧ w' = W :=
  (Tryz.bits_Len n W (by omega) (by omega)).mono fun _ _ ⟨he, hw⟩ => ⟨⟨_, he⟩, hw⟩
set_option maxRecDepth 100000 in
set_option maxHeartbeats 8000000 in
theorem rootList_any (cs : List Value) (x : RaidD) (w : World) (lo hi : Nat) (he : Env w) (h : RaidR w lo hi cs x) :
    Calls Tryz.prog 16 #[.agg cs.toArray] w (GotRoots x w) := by
  obtain ⟨A0, n0, c0, rfl, h0⟩ := h
  obtain ⟨ok, hok⟩ : ∃ b, b = raidOk x := ⟨_, rfl⟩
  have HOK := Lib.hid hok
  have HLE := Lib.hid h0.lo_le
  have H := Lib.hid h0
  clear h0 hok
  obtain ⟨i0, hi0, hz0, hz1, hz2⟩ := info_parts infoRoot
  show Calls Tryz.prog 16 #[.agg #[.slice A0 n0 c0]] w _
  go_enter Tryz.func16, Tryz.ntmps16
  go_wp2_with fail
  refine (raidOk_any _ x _ lo hi ⟨A0, n0, c0, rfl, SliceR.below H.out bel1 (DiskR.below bel1 HLE.out)⟩).mono ?_
  rw [← HOK.out]
  rintro e w1 ⟨rfl, hb1⟩
  have z1 := hb1.size
  have HX1 : Hid (Below w.heap.size w w1) := Lib.hid (bel1.trans (hb1.mono (by simp)))
  have B0 : Hid (w1.heap[w.heap.size]? = some (.cells #[.slice A0 n0 c0] 36 (0, 0))) := Lib.hid ((hb1.block _ (by simp)).trans (heap_alloc_new _ _))
  have l1 : w.heap.size < w1.heap.size := by simp at z1; omega
  clear hb1 z1
  cases ok
  · go_wp2_with fail
    go_ret
    exact ⟨_, 0, [], [], rfl, by unfold RootsAre; rw [← HOK.out]; rfl, RootsAt.nil, HX1.out⟩
  go_wp2_with fail
  go_loopw [3, 10] (fun a i wr => ∃ (k : Nat) (A' : Option Addr) (c' : Nat) (S : List Nat) (ys : List RootD), k ≤ 4 ∧ i = .int .i64 (k : Int) ∧ a = .slice A' ys.length c' ∧ Hid (ys = rowsU x k) ∧ ys.length ≤ k ∧ Hid (RootsAt (w.heap.size + 1) A' c' S ys wr) ∧ Hid (Below w.heap.size w wr) ∧ Hid (wr.heap[w.heap.size]? = some (.cells #[.slice A0 n0 c0] 36 (0, 0)))) (fun _ i _ => 4 - (RowKit.intOf i).toNat)
  case atStart => exact ⟨0, none, 0, [], [], by omega, rfl, rfl, Lib.hid rfl, by simp, Lib.hid RootsAt.nil, HX1, B0⟩
  case round =>
    clear HX1 B0 l1
    obtain ⟨k, A', c', S, ys, hk, rfl, rfl, HY, hyk, HA, HB, R0⟩ := hrel
    have l0 : w.heap.size < wr.heap.size := (Array.getElem?_eq_some_iff.1 R0.out).1
    have q := cell_of_row _ _ 0 _ _ (0, 0) R0.out
    by_cases hlt : k < 4
    · have k4 : (k : Int) < 4 := by omega
      obtain ⟨rd, hrd⟩ : ∃ d, d = rootAtF x (k : Int) := ⟨_, rfl⟩
      have HRD := Lib.hid hrd; clear hrd
      go_wp2_with fail
      refine (rootAt_any A0 n0 c0 x k _ lo hi (he.below HB.out) (SliceR.below H.out HB.out (DiskR.below HB.out HLE.out)) (raidOk_all HOK.out.symm) hlt).mono ?_
      rw [← HRD.out]
      rintro e w3 ⟨rfl, hb3⟩
      have HA3 := Lib.hid (HA.out.below hb3)
      have HB3 := Lib.hid (HB.out.trans (hb3.mono HB.out.size))
      have R03 := Lib.hid ((hb3.block _ l0).trans R0.out)
      have l03 : w.heap.size < w3.heap.size := by have := hb3.size; omega
      clear hb3 HA HB R0 q
      obtain ⟨t, ⟨a, b, s, m, l⟩, d, y⟩ := rd
      unfold rcA
      by_cases hp : 0 < t
      · have HU : Hid (ys ++ [(t, (a, b, s, m, l), d, y)] = rowsU x (k + 1)) := Lib.hid (by rw [HY.out]; show _ = (if _ then _ else _); rw [← HRD.out, if_pos hp])
        have HOW : Hid (OwnA ((w3.alloc (.cells #[.int .i64 t, .int .i64 a, .int .i64 b, .int .i64 s, .int .i64 m, .int .i64 l, .int .i64 d, .int .i64 y] 31)).alloc (.cells #[.int .i64 t, .int .i64 a, .int .i64 b, .int .i64 s, .int .i64 m, .int .i64 l, .int .i64 d, .int .i64 y] 31)) 31 8 S A' ys.length c' (ys.flatMap rcL)) := Lib.hid ((HA3.out.1.below bel1).below bel1)
        have HLT : Hid (RowAt ((w3.alloc (.cells #[.int .i64 t, .int .i64 a, .int .i64 b, .int .i64 s, .int .i64 m, .int .i64 l, .int .i64 d, .int .i64 y] 31)).alloc (.cells #[.int .i64 t, .int .i64 a, .int .i64 b, .int .i64 s, .int .i64 m, .int .i64 l, .int .i64 d, .int .i64 y] 31)) (some ⟨w3.heap.size + 1, 0, none⟩) (1 * 8) [.int .i64 t, .int .i64 a, .int .i64 b, .int .i64 s, .int .i64 m, .int .i64 l, .int .i64 d, .int .i64 y]) := Lib.hid (by have := RowAt.lit (w := w3.alloc (.cells #[.int .i64 t, .int .i64 a, .int .i64 b, .int .i64 s, .int .i64 m, .int .i64 l, .int .i64 d, .int .i64 y] 31)) (e := 31) (cur := #[.int .i64 t, .int .i64 a, .int .i64 b, .int .i64 s, .int .i64 m, .int .i64 l, .int .i64 d, .int .i64 y]) (m := 8) rfl; simpa using this)
        have HON : Hid (∀ u ∈ ([.int .i64 t, .int .i64 a, .int .i64 b, .int .i64 s, .int .i64 m, .int .i64 l, .int .i64 d, .int .i64 y] : List Value), u.oneCell' = true) := Lib.hid (by intro u hu; simp at hu; rcases hu with rfl | rfl | rfl | rfl | rfl | rfl | rfl | rfl <;> rfl)
        go_wp2_with (at_builtin; go_must (refine wpList_append_row rfl _ _ 46 rfl 31 i0 (.agg #[.int .i64 0, .int .i64 0, .int .i64 0, .int .i64 0, .int .i64 0, .int .i64 0, .int .i64 0, .int .i64 0]) 8 64 Tryz.underlying46 hi0 hz0 hz1 hz2 rfl (by decide) S A' (some ⟨w3.heap.size + 1, 0, none⟩) ys.length c' 1 1 (ys.flatMap rcL) [.int .i64 t, .int .i64 a, .int .i64 b, .int .i64 s, .int .i64 m, .int .i64 l, .int .i64 d, .int .i64 y] rfl rfl HOW.out HLT.out HON.out (by unfold maxLen; omega) (by omega) ?_))
        intro A2 c2 S2 w5 hO2 hS2 hC2
        have hns : ∀ b, b < w.heap.size + 1 → b ∉ S := fun b hb h => by have := HA3.out.2 b h; omega
        have HA5 : Hid (RootsAt (w.heap.size + 1) A2 c2 S2 (ys ++ [(t, (a, b, s, m, l), d, y)]) w5) := Lib.hid ⟨by simpa [rcL] using hO2, fun g hg => (hS2 g hg).elim (HA3.out.2 g) (fun h => by first | omega | (simp at h; omega))⟩
        have HB5 : Hid (Below w.heap.size w w5) := Lib.hid ((Below.alloc (Below.alloc HB3.out (by omega) _) (by simp; omega) _).trans (hC2.below (B := w.heap.size) (fun k' _ h => Nat.le_of_not_lt fun hb => hns k' (by omega) h) (by simp; omega)))
        have R05 := Lib.hid ((hC2.block _ (by simp; omega) (hns _ (by omega))).trans ((Below.heap_alloc _ _ _ (by simp; omega)).trans ((Below.heap_alloc _ _ _ l03).trans R03.out)))
        clear hO2 hS2 hC2 hns
        go_wp2_with fail
        go_roundw
        case rel => exact ⟨k + 1, A2, c2, S2, _, by omega, by go_num, by simp, HU, by simp; omega, HA5, HB5, R05⟩
        case measure => simp [RowKit.intOf]; omega
      · have HU : Hid (ys = rowsU x (k + 1)) := Lib.hid (by rw [HY.out]; show _ = (if _ then _ else _); rw [← HRD.out, if_neg hp])
        go_wp2_with fail
        go_roundw
        case rel => exact ⟨k + 1, A', c', S, ys, by omega, by go_num, rfl, HU, by omega, Lib.hid (HA3.out.below bel1), Lib.hid (Below.alloc HB3.out (by omega) _), Lib.hid ((Below.heap_alloc _ _ _ l03).trans R03.out)⟩
        case measure => simp [RowKit.intOf]; omega
    · have nk4 : ¬ (k : Int) < 4 := by omega
      have HY4 : Hid (ys = rowsU x 4) := Lib.hid (by rw [HY.out, show k = 4 by omega])
      by_cases hn : ys.length = 0
      · obtain rfl : ys = [] := List.eq_nil_of_length_eq_zero hn
        have hcon := Tryz.slices_SortFunc_none (α := Nat) A' c' (.func (.func 38) #[] #[]) wr
        change Calls Tryz.prog 37 _ _ _ at hcon
        simp only [List.length_nil] at *
        go_wp2_with (go_at_call 37; refine hcon.mono ?_; rintro e w' ⟨rfl, rfl⟩)
        go_ret
        exact ⟨A', c', S, [], rfl, by unfold RootsAre; rw [if_pos HOK.out.symm, ← HY4.out]; simp, ⟨HA.out.1, fun g hg => by have := HA.out.2 g hg; omega⟩, HB.out⟩
      · have hO := HA.out.1
        rcases hO.1 with ⟨_, h0, _⟩ | ⟨g, cur, rfl, rfl, hl, hnc, hcm, hg, hcs, hcc⟩
        · omega
        have hgl := (Array.getElem?_eq_some_iff.1 hg).1
        have hH := roots_holds (c := c') hg hcc
        have eg : ∀ args w, (callFunc 38 args).run Tryz.prog w = .ok (.enter 38 args) w := enters_of Tryz.func38 (by kernel_rfl) rfl
        have hcon := Tryz.slices_SortFunc_small_sorted 8 Tryz.isAgg31 Tryz.sizeOf31 rcL (fun _ => rfl) (fun z v hv => rcL_one [z] v (by simpa using hv)) cfR 38 #[] swoR g 0 c' ys.toArray wr eg (fun _ _ _ _ x y => cmpRoot_any x y _) hH hgl (by simp; omega) bitsLen_any
        change Calls Tryz.prog 37 _ _ _ at hcon
        simp only [List.size_toArray] at hcon
        have HF : Hid (∀ (d' : Array RootD) (n : Nat) (os : Array Obj), PermIn 0 ys.length ys.toArray d' → SortedIn (ltOf cfR) 0 ys.length d' → ∃ zs, zs.length = ys.length ∧ RootsAre x zs ∧ RootsAt w.heap.size (some ⟨g, 0, none⟩) c' [g] zs (sortWorldK rcL 8 wr g 0 n d' os) ∧ Below w.heap.size w (sortWorldK rcL 8 wr g 0 n d' os)) := Lib.hid (fun d' n os hp hs => by
          have hp' : PermIn 0 (rowsU x 4).toArray.size (rowsU x 4).toArray d' := by rw [← HY4.out]; simpa using hp
          have hs' : SortedIn (ltOf cfR) 0 (rowsU x 4).toArray.size d' := by rw [← HY4.out]; simpa using hs
          obtain ⟨r1, r2⟩ := sorted_roots HOK.out.symm hp' hs'
          rw [← HY4.out] at r2
          have e : d' = d'.toList.toArray := by simp
          have hf := sort_facts (n := n) (os := os) (zs := d'.toList) hg hcs hnc hcm r2
          rw [← e] at hf
          exact ⟨d'.toList, r2, r1, ⟨hf.1, fun b hb => by have := HA.out.2 b hb; omega⟩, HB.out.trans (hf.2.below (B := w.heap.size) (fun b _ hb => by have := HA.out.2 b hb; omega) HB.out.size)⟩)
        have HCON := Lib.hid hcon
        clear hcon hH hO hg hcs hcc HA HB eg
        go_wp2_with (go_at_call 37; refine HCON.out.mono ?_; rintro e w' ⟨rfl, d', n', os, hp, hs, rfl⟩; obtain ⟨zs, zl, zr, zt, zb⟩ := HF.out d' n' os hp hs)
        go_ret
        exact ⟨some ⟨g, 0, none⟩, c', [g], zs, by rw [zl]; rfl, zr, zt, zb⟩
end Go.Proofs.YtcfgbeajdkbbcaaGreatDoor
