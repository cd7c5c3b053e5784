/- FnDiskTorn: the walk. No condition. -/
import Derived.Test.YtgipchipcoaajaaFnDiskLast
import Derived.Test.YtgipchipcoaajaaTorn
namespace Go.Proofs.Ytgipchipcoaajaa
set_option linter.unusedSimpArgs false
set_option linter.unnecessarySimpa false
open Go.RowKit
set_option linter.unusedVariables false
theorem DiskR.hi_le {w : World} {lo hi : Nat} {cs : List Value} {x : DiskD} (h : DiskR w lo hi cs x) : hi ≤ w.heap.size := by
  obtain ⟨_, _, _, _, _, _, _, h0, _⟩ := h
  exact h0.lo_le
theorem DiskR.cellAt {w : World} {lo hi : Nat} {A0 A1 : Option Addr} {n0 c0 n1 c1 : Nat} {v : Value} {x : DiskD} {k : Nat} {o : ByteArray} (h : DiskR w lo hi [.slice A0 n0 c0, .slice A1 n1 c1, v] x) (hk : x.1[k]? = some o) :
    ∃ b off, A0 = some ⟨b, off, none⟩ ∧ k < n0 ∧ w.cell? ⟨b, off + k, none⟩ = some (.string o) := by
  obtain ⟨_, _, _, _, _, _, e, h0, _⟩ := h
  injection e with e0 e
  injection e0 with a b c
  subst a b c
  have hl := h0.len
  have hlt := (List.getElem?_eq_some_iff.1 hk).1
  obtain ⟨b, off, hA, _, _, _, hc⟩ := h0.at_ (by omega)
  obtain ⟨cs, _, hcs, rfl, _⟩ := hc k o hk
  have := hcs 0 _ rfl
  exact ⟨b, off, hA, by omega, by simpa using this⟩
theorem flush_waits (x : DiskD) : (flushD x).2.1 = [] := by unfold flushD settleD; split <;> rfl
theorem torn_cell {y : DiskD} {k : Nat} {s u : ByteArray} (h : writeOk y (k : Int) s = true) (hw : y.2.1 = []) (hk : y.1[k]? = some u) : (settleD tornF (writeD y (k : Int) s)).1[k]? = some (tornF 0 ((k : Int), s) u) := by
  rw [write_eq h]
  unfold settleD
  have hlt := (List.getElem?_eq_some_iff.1 hk).1
  simp only [hw, List.nil_append, List.length_cons, List.length_nil, Nat.zero_add]
  rw [show (1 : Nat) = 0 + 1 from rfl, settleTo_succ]
  unfold settleStep settleTo
  have e := (List.getElem?_eq_some_iff.1 hk).2
  simp [List.getD, hk, hlt, e]
theorem ext_all (a : ByteArray) (m : Nat) (h : a.size = m) : a.extract 0 m = a := by
  rw [← h]; exact ByteArray.extract_zero_size
set_option maxRecDepth 100000 in
set_option maxHeartbeats 4000000 in
theorem fnDiskTorn_walk (A : Option Addr) (n c : Nat) (zs : List Int) (w : World) (h : BytesIn w A n c zs) :
    Calls Try.prog 7 #[.slice A n c] w fun e w' => e = .returned (.bool true) ∧ Below w.heap.size w w' := by
  go_enter Try.func7, Try.ntmps7
  by_cases hb : 1048576 < n
  · have h0 : (1048576 : Int) < (n : Int) := by omega
    go_wp2_with fail
    go_ret
    exact ⟨rfl, Below.refl _ _⟩
  have h0 : ¬ (1048576 : Int) < (n : Int) := by omega
  have h1 : (n : Int) ≤ 1048576 := by omega
  go_wp2_with fail
  refine (drawDiskWrite_any A n c zs _ h).mono ?_
  rintro e w1 ⟨cs, x, a, s, rfl, hD, hl1, hl2, hs, hb1⟩
  have KD1 := Lib.hid hD
  obtain ⟨A1, n1, c1, B1, m1, d1, rfl, -, -⟩ := hD
  have HB := Lib.hid hb1
  have hms : s.size ≤ maxLen := by unfold maxLen; omega
  clear hb1
  go_wp2_with fail
  obtain ⟨y, hy⟩ : ∃ o, o = flushD x := ⟨_, rfl⟩
  obtain ⟨ok, hok⟩ : ∃ o, o = writeOk y a s := ⟨_, rfl⟩
  obtain ⟨z, hz⟩ : ∃ o, o = writeD y a s := ⟨_, rfl⟩
  have HY := Lib.hid hy; have HOK := Lib.hid hok; have HZ := Lib.hid hz
  clear hy hok hz
  obtain ⟨W1, hW⟩ : ∃ W, W = World.alloc w1 (.cells #[.slice A1 n1 c1, .slice B1 m1 d1, .bool x.2.2] 26) := ⟨_, rfl⟩
  have e1 : Below w1.heap.size w1 W1 := by rw [hW]; exact bel1
  have KB1 : Hid (W1.heap[w1.heap.size]? = some (.cells #[.slice A1 n1 c1, .slice B1 m1 d1, .bool x.2.2] 26 (0, 0))) := Lib.hid (by rw [hW]; exact heap_alloc_new _ _)
  rw [← hW]
  clear hW
  have HB := Lib.hid (HB.out.trans (e1.mono HB.out.size))
  have KD1 := Lib.hid (DiskR.below e1 KD1.out.hi_le _ _ KD1.out)
  clear e1
  refine (diskFlush_both _ x _ _ _ KD1.out).mono ?_
  rw [← HY.out]
  rintro e w2 ⟨cs, rfl, hN, hb2⟩
  have hD := hN.r
  have KD2 := Lib.hid hD
  obtain ⟨A2, n2, c2, B2, m2, d2, rfl, -, -⟩ := hD
  have KB1 := Lib.hid ((hb2.block _ (Array.getElem?_eq_some_iff.1 KB1.out).1).trans KB1.out)
  have KD1 := Lib.hid (DiskR.below hb2 KD1.out.hi_le _ _ KD1.out)
  have HB := Lib.hid (HB.out.trans (hb2.mono HB.out.size))
  clear hb2 hN
  go_wp2_with fail
  obtain ⟨W2, hW⟩ : ∃ W, W = World.alloc w2 (.cells #[.slice A2 n2 c2, .slice B2 m2 d2, .bool y.2.2] 26) := ⟨_, rfl⟩
  have e1 : Below w2.heap.size w2 W2 := by rw [hW]; exact bel1
  have KB2 : Hid (W2.heap[w2.heap.size]? = some (.cells #[.slice A2 n2 c2, .slice B2 m2 d2, .bool y.2.2] 26 (0, 0))) := Lib.hid (by rw [hW]; exact heap_alloc_new _ _)
  rw [← hW]
  clear hW
  have KB1 := Lib.hid ((e1.block _ (Array.getElem?_eq_some_iff.1 KB1.out).1).trans KB1.out)
  have KD1 := Lib.hid (DiskR.below e1 KD1.out.hi_le _ _ KD1.out)
  have HB := Lib.hid (HB.out.trans (e1.mono HB.out.size))
  have KD2 := Lib.hid (DiskR.below e1 KD2.out.hi_le _ _ KD2.out)
  clear e1
  refine (diskWrite_any _ y a s _ _ _ KD2.out hms).mono ?_
  rw [← HOK.out, ← HZ.out]
  rintro e w3 ⟨cs, rfl, hN, hb2⟩
  have hD := hN.r
  have KD3 := Lib.hid hD
  obtain ⟨A3, n3, c3, B3, m3, d3, rfl, -, -⟩ := hD
  have KB1 := Lib.hid ((hb2.block _ (Array.getElem?_eq_some_iff.1 KB1.out).1).trans KB1.out)
  have KD1 := Lib.hid (DiskR.below hb2 KD1.out.hi_le _ _ KD1.out)
  have KB2 := Lib.hid ((hb2.block _ (Array.getElem?_eq_some_iff.1 KB2.out).1).trans KB2.out)
  have KD2 := Lib.hid (DiskR.below hb2 KD2.out.hi_le _ _ KD2.out)
  have HB := Lib.hid (HB.out.trans (hb2.mono HB.out.size))
  clear hb2 hN
  have q0 := cell_of_row _ _ 0 _ _ (0, 0) KB1.out
  have q1 := cell_of_row _ _ 1 _ _ (0, 0) KB1.out
  have q2 := cell_of_row _ _ 2 _ _ (0, 0) KB1.out
  have ql := (Array.getElem?_eq_some_iff.1 KB1.out).1
  go_wp2_with fail
  obtain ⟨W3, hW⟩ : ∃ W, W = World.alloc w3 (.cells #[.slice A3 n3 c3, .slice B3 m3 d3, .bool z.2.2] 26) := ⟨_, rfl⟩
  have e1 : Below w3.heap.size w3 W3 := by rw [hW]; exact bel1
  have KB3 : Hid (W3.heap[w3.heap.size]? = some (.cells #[.slice A3 n3 c3, .slice B3 m3 d3, .bool z.2.2] 26 (0, 0))) := Lib.hid (by rw [hW]; exact heap_alloc_new _ _)
  rw [← hW]
  clear hW
  have KB1 := Lib.hid ((e1.block _ (Array.getElem?_eq_some_iff.1 KB1.out).1).trans KB1.out)
  have KD1 := Lib.hid (DiskR.below e1 KD1.out.hi_le _ _ KD1.out)
  have KB2 := Lib.hid ((e1.block _ (Array.getElem?_eq_some_iff.1 KB2.out).1).trans KB2.out)
  have KD2 := Lib.hid (DiskR.below e1 KD2.out.hi_le _ _ KD2.out)
  have HB := Lib.hid (HB.out.trans (e1.mono HB.out.size))
  have KD3 := Lib.hid (DiskR.below e1 KD3.out.hi_le _ _ KD3.out)
  clear e1
  clear q0 q1 q2 ql
  refine (spDiskFlush_any _ x _ _ _ KD1.out).mono ?_
  rw [← HY.out]
  rintro e w4 ⟨cs, rfl, hN, hb2⟩
  have hD := hN.r
  have KD4 := Lib.hid hD
  obtain ⟨A4, n4, c4, B4, m4, d4, rfl, -, -⟩ := hD
  have KB1 := Lib.hid ((hb2.block _ (Array.getElem?_eq_some_iff.1 KB1.out).1).trans KB1.out)
  have KD1 := Lib.hid (DiskR.below hb2 KD1.out.hi_le _ _ KD1.out)
  have KB2 := Lib.hid ((hb2.block _ (Array.getElem?_eq_some_iff.1 KB2.out).1).trans KB2.out)
  have KD2 := Lib.hid (DiskR.below hb2 KD2.out.hi_le _ _ KD2.out)
  have KB3 := Lib.hid ((hb2.block _ (Array.getElem?_eq_some_iff.1 KB3.out).1).trans KB3.out)
  have KD3 := Lib.hid (DiskR.below hb2 KD3.out.hi_le _ _ KD3.out)
  have HB := Lib.hid (HB.out.trans (hb2.mono HB.out.size))
  clear hb2 hN
  go_wp2_with fail
  refine (spDiskWrite_any _ y a s _ _ _ KD4.out hms).mono ?_
  rw [← HOK.out, ← HZ.out]
  rintro e w5 ⟨cs, rfl, hN, hb2⟩
  have hD := hN.r
  have KD5 := Lib.hid hD
  obtain ⟨A5, n5, c5, B5, m5, d5, rfl, -, -⟩ := hD
  have KB1 := Lib.hid ((hb2.block _ (Array.getElem?_eq_some_iff.1 KB1.out).1).trans KB1.out)
  have KD1 := Lib.hid (DiskR.below hb2 KD1.out.hi_le _ _ KD1.out)
  have KB2 := Lib.hid ((hb2.block _ (Array.getElem?_eq_some_iff.1 KB2.out).1).trans KB2.out)
  have KD2 := Lib.hid (DiskR.below hb2 KD2.out.hi_le _ _ KD2.out)
  have KB3 := Lib.hid ((hb2.block _ (Array.getElem?_eq_some_iff.1 KB3.out).1).trans KB3.out)
  have KD3 := Lib.hid (DiskR.below hb2 KD3.out.hi_le _ _ KD3.out)
  have HB := Lib.hid (HB.out.trans (hb2.mono HB.out.size))
  clear hb2 hN
  clear KD4
  have q0 := cell_of_row _ _ 0 _ _ (0, 0) KB3.out
  have q1 := cell_of_row _ _ 1 _ _ (0, 0) KB3.out
  have q2 := cell_of_row _ _ 2 _ _ (0, 0) KB3.out
  have ql := (Array.getElem?_eq_some_iff.1 KB3.out).1
  have hgg : (ok != ok) = false := by simp
  have hge : (ok == ok) = true := by simp
  go_wp2_with fail
  obtain ⟨W5, hW⟩ : ∃ W, W = World.alloc w5 (.cells #[.slice A5 n5 c5, .slice B5 m5 d5, .bool z.2.2] 26) := ⟨_, rfl⟩
  have e1 : Below w5.heap.size w5 W5 := by rw [hW]; exact bel1
  have KB5 : Hid (W5.heap[w5.heap.size]? = some (.cells #[.slice A5 n5 c5, .slice B5 m5 d5, .bool z.2.2] 26 (0, 0))) := Lib.hid (by rw [hW]; exact heap_alloc_new _ _)
  rw [← hW]
  clear hW
  have KB1 := Lib.hid ((e1.block _ (Array.getElem?_eq_some_iff.1 KB1.out).1).trans KB1.out)
  have KD1 := Lib.hid (DiskR.below e1 KD1.out.hi_le _ _ KD1.out)
  have KB2 := Lib.hid ((e1.block _ (Array.getElem?_eq_some_iff.1 KB2.out).1).trans KB2.out)
  have KD2 := Lib.hid (DiskR.below e1 KD2.out.hi_le _ _ KD2.out)
  have KB3 := Lib.hid ((e1.block _ (Array.getElem?_eq_some_iff.1 KB3.out).1).trans KB3.out)
  have KD3 := Lib.hid (DiskR.below e1 KD3.out.hi_le _ _ KD3.out)
  have HB := Lib.hid (HB.out.trans (e1.mono HB.out.size))
  have KD5 := Lib.hid (DiskR.below e1 KD5.out.hi_le _ _ KD5.out)
  clear e1
  clear q0 q1 q2 ql
  refine (pfDisk_yes _ _ z _ _ _ _ _ KD3.out KD5.out).mono ?_
  rintro e w6 ⟨rfl, hb2⟩
  have KB1 := Lib.hid ((hb2.block _ (Array.getElem?_eq_some_iff.1 KB1.out).1).trans KB1.out)
  have KD1 := Lib.hid (DiskR.below hb2 KD1.out.hi_le _ _ KD1.out)
  have KB2 := Lib.hid ((hb2.block _ (Array.getElem?_eq_some_iff.1 KB2.out).1).trans KB2.out)
  have KD2 := Lib.hid (DiskR.below hb2 KD2.out.hi_le _ _ KD2.out)
  have KB3 := Lib.hid ((hb2.block _ (Array.getElem?_eq_some_iff.1 KB3.out).1).trans KB3.out)
  have KD3 := Lib.hid (DiskR.below hb2 KD3.out.hi_le _ _ KD3.out)
  have KB5 := Lib.hid ((hb2.block _ (Array.getElem?_eq_some_iff.1 KB5.out).1).trans KB5.out)
  have KD5 := Lib.hid (DiskR.below hb2 KD5.out.hi_le _ _ KD5.out)
  have HB := Lib.hid (HB.out.trans (hb2.mono HB.out.size))
  clear hb2
  have q0 := cell_of_row _ _ 0 _ _ (0, 0) KB3.out
  have q1 := cell_of_row _ _ 1 _ _ (0, 0) KB3.out
  have q2 := cell_of_row _ _ 2 _ _ (0, 0) KB3.out
  have ql := (Array.getElem?_eq_some_iff.1 KB3.out).1
  have r0 := cell_of_row _ _ 0 _ _ (0, 0) KB5.out
  have r1 := cell_of_row _ _ 1 _ _ (0, 0) KB5.out
  have r2 := cell_of_row _ _ 2 _ _ (0, 0) KB5.out
  have rl := (Array.getElem?_eq_some_iff.1 KB5.out).1
  cases ok
  · go_wp2_with fail
    refine (pfDisk_yes _ _ z _ _ _ _ _ KD3.out KD5.out).mono ?_
    rintro e w9 ⟨rfl, hb9⟩
    go_wp2_with fail
    go_ret
    exact ⟨rfl, HB.out.trans (hb9.mono HB.out.size)⟩
  obtain ⟨k, hk1, hk1', hyok, -, hzok, -⟩ := write_facts HOK.out.symm
  subst hk1
  rw [← HZ.out] at hzok
  have hyl := (diskOk_len hyok).1
  obtain ⟨u, hu⟩ : ∃ u, y.1[k]? = some u := ⟨y.1[k], List.getElem?_eq_getElem (by omega)⟩
  have htc := torn_cell HOK.out.symm (by rw [HY.out]; exact flush_waits x) hu
  rw [← HZ.out] at htc
  obtain ⟨nw, hnw⟩ : ∃ v, v = tornF 0 ((k : Int), s) u := ⟨_, rfl⟩
  rw [← hnw] at htc
  have hus : u.size ≤ 200 := by
    have h := hyok
    unfold diskOk at h
    simp only [Bool.and_eq_true, List.all_eq_true] at h
    have := h.1.1.2 u (List.mem_of_getElem? hu)
    unfold textOk at this
    simp at this
    exact this.1
  have hss : s.size ≤ 200 := by
    have h := HOK.out.symm
    unfold writeOk writeGo at h
    simp only [Bool.and_eq_true, decide_eq_true_eq] at h
    exact h.2.1.2
  obtain ⟨bf, of, rfl, hkf, hqf⟩ := KD2.out.cellAt hu
  have lbf := World.block_lt_of_cell? _ _ hqf
  have HTC := Lib.hid htc; have HNW := Lib.hid hnw; have HZOK := Lib.hid hzok
  clear hu htc hnw hzok hyok hyl
  have k0 : (0 : Int) ≤ (k : Int) := by omega
  have kf : (k : Int) < (n2 : Int) := by omega
  have hfld := disk_field0
  clear q0 q1 q2 ql
  clear r0 r1 r2 rl
  have q0 := cell_of_row _ _ 0 _ _ (0, 0) KB2.out
  have q1 := cell_of_row _ _ 1 _ _ (0, 0) KB2.out
  have q2 := cell_of_row _ _ 2 _ _ (0, 0) KB2.out
  have ql := (Array.getElem?_eq_some_iff.1 KB2.out).1
  have r0 := cell_of_row _ _ 0 _ _ (0, 0) KB3.out
  have r1 := cell_of_row _ _ 1 _ _ (0, 0) KB3.out
  have r2 := cell_of_row _ _ 2 _ _ (0, 0) KB3.out
  have rl := (Array.getElem?_eq_some_iff.1 KB3.out).1
  go_wp2_with fail
  refine (crashTorn_any _ z _ _ _ KD3.out HZOK.out).mono ?_
  rintro e w7 ⟨cs7, rfl, hN7, hb7⟩
  have hN7' := hN7
  obtain ⟨F0, f0, j0, F1, f1, j1, rfl, -⟩ := hN7'
  obtain ⟨bg, og, rfl, hkg, hqg⟩ := hN7.cellAt HTC.out
  have HB7 := Lib.hid (HB.out.trans (hb7.mono HB.out.size))
  have kg : (k : Int) < (f0 : Int) := by omega
  clear hb7 hN7 HB
  obtain ⟨m, hm⟩ : ∃ m, m = s.size / 2 := ⟨_, rfl⟩
  have hd : (s.size : Int) / 2 = (m : Int) := by omega
  have hmu : (0 : Int) ≤ (u.size : Int) := by omega
  have m0 : (0 : Int) ≤ (m : Int) := by omega
  have hms' : m ≤ s.size := by omega
  have hms2 : (m : Int) ≤ (s.size : Int) := by omega
  have hss2 : s.size ≤ 9223372036854775807 := by omega
  have hus2 : u.size ≤ 9223372036854775807 := by omega
  have HM := Lib.hid hm; clear hm
  clear q0 q1 q2 ql
  clear r0 r1 r2 rl
  have hl0 : (s.extract 0 m).size = m := by rw [ByteArray.size_extract]; omega
  by_cases hle : u.size ≤ m
  · have he : nw = s.extract 0 m := by rw [HNW.out]; unfold tornF; rw [if_pos rfl, ← HM.out, if_neg (by omega)]
    have hns : nw.size = m := by rw [he, hl0]
    have e1 : ((nw.extract 0 m).toList == (s.extract 0 m).toList) = true := by rw [ext_all nw m hns, he]; simp
    have HE1 := Lib.hid e1
    have HNS := Lib.hid hns
    have c1_ : ((nw.size : Int) == (m : Int)) = true := by rw [hns]; simp
    have c2_ : (u.size : Int) ≤ (m : Int) := by omega
    have c3_ : ¬ (m : Int) < (u.size : Int) := by omega
    have c7_ : ¬ m < u.size := by omega
    have c8_ : (nw.size == m) = true := by rw [hns]; simp
    have c4_ : (m : Int) ≤ (nw.size : Int) := by omega
    have c5_ : nw.size ≤ 9223372036854775807 := by omega
    clear he hns e1 HNW
    go_wp2_with fail
    apply wp_region_rg (by kernel_rfl) (false :: false :: true :: false :: false :: false :: false :: false :: false :: false :: false :: false :: false :: false :: false :: false :: false :: false :: false :: false :: false :: false :: false :: false :: false :: false :: false :: false :: false :: false :: false :: false :: false :: false :: false :: false :: false :: false :: false :: false :: false :: false :: false :: false :: false :: false :: false :: false :: false :: false :: false :: false :: false :: false :: false :: false :: false :: false :: false :: false :: false :: false :: false :: false :: false :: false :: false :: false :: false :: false :: false :: false :: false :: false :: false :: true :: true :: true :: true :: true :: true :: true :: true :: true :: true :: true :: true :: true :: true :: true :: true :: true :: true :: true :: true :: true :: true :: true :: true :: true :: true :: true :: true :: true :: true :: true :: []) (some 75 :: some 76 :: some 77 :: some 78 :: some 79 :: some 80 :: some 81 :: some 82 :: some 83 :: some 84 :: some 85 :: some 86 :: some 87 :: some 88 :: some 89 :: some 90 :: some 91 :: some 92 :: some 93 :: some 94 :: some 95 :: some 96 :: some 97 :: some 98 :: some 99 :: some 100 :: some 101 :: some 102 :: some 103 :: some 104 :: some 105 :: some 2 :: []) ([] :: [0] :: [] :: [] :: [3] :: [2, 4] :: [1, 5] :: [6] :: [7] :: [7] :: [7, 8, 9] :: [7] :: [7] :: [7, 11, 12] :: [7, 10, 13] :: [7, 14] :: [15] :: [16] :: [16, 17] :: [16] :: [16, 18, 19] :: [16, 20] :: [21] :: [21] :: [21, 22, 23] :: [21] :: [21] :: [21, 25, 26] :: [21, 24, 27] :: [16, 21, 28] :: [16, 29] :: [30] :: []) (StP.is _ :: StP.is _ :: StP.is _ :: StP.is _ :: StP.is _ :: StP.is _ :: StP.is _ :: StP.is _ :: StP.is _ :: StP.is _ :: StP.is _ :: StP.is _ :: StP.is _ :: StP.is _ :: StP.is _ :: StP.is _ :: StP.is _ :: StP.is _ :: StP.is _ :: StP.is _ :: StP.is _ :: StP.is _ :: StP.is _ :: StP.is _ :: StP.is _ :: StP.is _ :: StP.is _ :: StP.is _ :: StP.is _ :: StP.is _ :: StP.is _ :: StP.is _ :: []) (by kernel_rfl)
    case hobs =>
      refine ⟨fun y w' hS hF K hK => ?_, ?_⟩
      · skip -- 0: move
        simp only [fillL, cond_true, cond_false, List.getD_cons_zero, List.getD_cons_succ, StP.is, Act.put, List.setIfInBounds_toArray, List.set_cons_zero, List.set_cons_succ, Nat.reduceAdd] at hK ⊢
        refine rg_yes (by kernel_rfl) ?_
        clear hF
        go_simp
        exact hK _ _ (Ext.refl _) rfl
      refine ⟨fun y w' hS hF K hK => ?_, ?_⟩
      · skip -- 1: call
        have e75 : y 75 = _ := hF.1
        simp only [fillL, cond_true, cond_false, List.getD_cons_zero, List.getD_cons_succ, StP.is, Act.put, List.setIfInBounds_toArray, List.set_cons_zero, List.set_cons_succ, Nat.reduceAdd, e75] at hK ⊢
        refine rg_yes (by kernel_rfl) ?_
        clear e75
        clear hF
        go_simp
        exact hK _ _ (Ext.refl _) rfl
      refine ⟨fun y w' hS hF K hK => ?_, ?_⟩
      · skip -- 2: move
        simp only [fillL, cond_true, cond_false, List.getD_cons_zero, List.getD_cons_succ, StP.is, Act.put, List.setIfInBounds_toArray, List.set_cons_zero, List.set_cons_succ, Nat.reduceAdd] at hK ⊢
        refine rg_yes (by kernel_rfl) ?_
        clear hF
        go_simp
        exact hK _ _ (Ext.refl _) rfl
      refine ⟨fun y w' hS hF K hK => ?_, ?_⟩
      · skip -- 3: move
        simp only [fillL, cond_true, cond_false, List.getD_cons_zero, List.getD_cons_succ, StP.is, Act.put, List.setIfInBounds_toArray, List.set_cons_zero, List.set_cons_succ, Nat.reduceAdd] at hK ⊢
        refine rg_yes (by kernel_rfl) ?_
        clear hF
        go_simp
        exact hK _ _ (Ext.refl _) rfl
      refine ⟨fun y w' hS hF K hK => ?_, ?_⟩
      · skip -- 4: call
        have e78 : y 78 = _ := hF.1
        simp only [fillL, cond_true, cond_false, List.getD_cons_zero, List.getD_cons_succ, StP.is, Act.put, List.setIfInBounds_toArray, List.set_cons_zero, List.set_cons_succ, Nat.reduceAdd, e78] at hK ⊢
        refine rg_yes (by kernel_rfl) ?_
        clear e78
        clear hF
        go_simp
        exact hK _ _ (Ext.refl _) rfl
      refine ⟨fun y w' hS hF K hK => ?_, ?_⟩
      · skip -- 5: call
        have e77 : y 77 = _ := hF.1
        have e79 : y 79 = _ := hF.2.1
        simp only [fillL, cond_true, cond_false, List.getD_cons_zero, List.getD_cons_succ, StP.is, Act.put, List.setIfInBounds_toArray, List.set_cons_zero, List.set_cons_succ, Nat.reduceAdd, e77, e79] at hK ⊢
        refine rg_yes (by kernel_rfl) ?_
        clear e77 e79
        clear hF
        go_simp
        exact hK _ _ (Ext.refl _) rfl
      refine ⟨fun y w' hS hF K hK => ?_, ?_⟩
      · skip -- 6: binOp
        have e76 : y 76 = _ := hF.1
        have e80 : y 80 = _ := hF.2.1
        simp only [fillL, cond_true, cond_false, List.getD_cons_zero, List.getD_cons_succ, StP.is, Act.put, List.setIfInBounds_toArray, List.set_cons_zero, List.set_cons_succ, Nat.reduceAdd, e76, e80] at hK ⊢
        refine rg_yes (by kernel_rfl) ?_
        clear e76 e80
        clear hF
        go_simp
        exact hK _ _ (Ext.refl _) rfl
      refine ⟨fun y w' hS hF K hK => ?_, ?_⟩
      · skip -- 7: move
        have e81 : y 81 = _ := hF.1
        simp only [fillL, cond_true, cond_false, List.getD_cons_zero, List.getD_cons_succ, StP.is, Act.put, List.setIfInBounds_toArray, List.set_cons_zero, List.set_cons_succ, Nat.reduceAdd, e81] at hK ⊢
        refine rg_yes (by kernel_rfl) ?_
        clear e81
        clear hF
        go_simp
        exact hK _ _ (Ext.refl _) rfl
      refine ⟨fun y w' hS hF K hK => ?_, ?_⟩
      · skip -- 8: move
        have e82 : y 82 = _ := hF.1
        simp only [fillL, cond_true, cond_false, List.getD_cons_zero, List.getD_cons_succ, StP.is, Act.put, List.setIfInBounds_toArray, List.set_cons_zero, List.set_cons_succ, Nat.reduceAdd, e82] at hK ⊢
        refine rg_yes (by kernel_rfl) ?_
        clear e82
        clear hF
        go_simp
        exact hK _ _ (Ext.refl _) rfl
      refine ⟨fun y w' hS hF K hK => ?_, ?_⟩
      · skip -- 9: move
        have e82 : y 82 = _ := hF.1
        simp only [fillL, cond_true, cond_false, List.getD_cons_zero, List.getD_cons_succ, StP.is, Act.put, List.setIfInBounds_toArray, List.set_cons_zero, List.set_cons_succ, Nat.reduceAdd, e82] at hK ⊢
        refine rg_yes (by kernel_rfl) ?_
        clear e82
        clear hF
        go_simp
        exact hK _ _ (Ext.refl _) rfl
      refine ⟨fun y w' hS hF K hK => ?_, ?_⟩
      · skip -- 10: slice
        have e82 : y 82 = _ := hF.1
        have e83 : y 83 = _ := hF.2.1
        have e84 : y 84 = _ := hF.2.2.1
        simp only [fillL, cond_true, cond_false, List.getD_cons_zero, List.getD_cons_succ, StP.is, Act.put, List.setIfInBounds_toArray, List.set_cons_zero, List.set_cons_succ, Nat.reduceAdd, e82, e83, e84] at hK ⊢
        refine rg_yes (by kernel_rfl) ?_
        clear e82 e83 e84
        clear hF
        go_simp
        exact hK _ _ (Ext.refl _) rfl
      refine ⟨fun y w' hS hF K hK => ?_, ?_⟩
      · skip -- 11: move
        have e82 : y 82 = _ := hF.1
        simp only [fillL, cond_true, cond_false, List.getD_cons_zero, List.getD_cons_succ, StP.is, Act.put, List.setIfInBounds_toArray, List.set_cons_zero, List.set_cons_succ, Nat.reduceAdd, e82] at hK ⊢
        refine rg_yes (by kernel_rfl) ?_
        clear e82
        clear hF
        go_simp
        exact hK _ _ (Ext.refl _) rfl
      refine ⟨fun y w' hS hF K hK => ?_, ?_⟩
      · skip -- 12: move
        have e82 : y 82 = _ := hF.1
        simp only [fillL, cond_true, cond_false, List.getD_cons_zero, List.getD_cons_succ, StP.is, Act.put, List.setIfInBounds_toArray, List.set_cons_zero, List.set_cons_succ, Nat.reduceAdd, e82] at hK ⊢
        refine rg_yes (by kernel_rfl) ?_
        clear e82
        clear hF
        go_simp
        exact hK _ _ (Ext.refl _) rfl
      refine ⟨fun y w' hS hF K hK => ?_, ?_⟩
      · skip -- 13: slice
        have e82 : y 82 = _ := hF.1
        have e86 : y 86 = _ := hF.2.1
        have e87 : y 87 = _ := hF.2.2.1
        simp only [fillL, cond_true, cond_false, List.getD_cons_zero, List.getD_cons_succ, StP.is, Act.put, List.setIfInBounds_toArray, List.set_cons_zero, List.set_cons_succ, Nat.reduceAdd, e82, e86, e87] at hK ⊢
        refine rg_yes (by kernel_rfl) ?_
        clear e82 e86 e87
        clear hF
        go_simp
        exact hK _ _ (Ext.refl _) rfl
      refine ⟨fun y w' hS hF K hK => ?_, ?_⟩
      · skip -- 14: binOp
        have e82 : y 82 = _ := hF.1
        have e85 : y 85 = _ := hF.2.1
        have e88 : y 88 = _ := hF.2.2.1
        simp only [fillL, cond_true, cond_false, List.getD_cons_zero, List.getD_cons_succ, StP.is, Act.put, List.setIfInBounds_toArray, List.set_cons_zero, List.set_cons_succ, Nat.reduceAdd, e82, e85, e88] at hK ⊢
        refine rg_yes (by kernel_rfl) ?_
        have e1_ := HE1.out
        clear e82 e85 e88
        clear hF
        go_simp
        exact hK _ _ (Ext.refl _) rfl
      refine ⟨fun y w' hS hF K hK => ?_, ?_⟩
      · skip -- 15: pick
        have e82 : y 82 = _ := hF.1
        have e89 : y 89 = _ := hF.2.1
        simp only [fillL, cond_true, cond_false, List.getD_cons_zero, List.getD_cons_succ, StP.is, Act.put, List.setIfInBounds_toArray, List.set_cons_zero, List.set_cons_succ, Nat.reduceAdd, e82, e89] at hK ⊢
        refine rg_yes (by kernel_rfl) ?_
        clear e82 e89
        clear hF
        go_simp
        exact hK _ _ (Ext.refl _) rfl
      refine ⟨fun y w' hS hF K hK => ?_, ?_⟩
      · skip -- 16: move
        have e90 : y 90 = _ := hF.1
        simp only [fillL, cond_true, cond_false, List.getD_cons_zero, List.getD_cons_succ, StP.is, Act.put, List.setIfInBounds_toArray, List.set_cons_zero, List.set_cons_succ, Nat.reduceAdd, e90] at hK ⊢
        refine rg_yes (by kernel_rfl) ?_
        clear e90
        clear hF
        go_simp
        exact hK _ _ (Ext.refl _) rfl
      refine ⟨fun y w' hS hF K hK => ?_, ?_⟩
      · skip -- 17: move
        have e91 : y 91 = _ := hF.1
        simp only [fillL, cond_true, cond_false, List.getD_cons_zero, List.getD_cons_succ, StP.is, Act.put, List.setIfInBounds_toArray, List.set_cons_zero, List.set_cons_succ, Nat.reduceAdd, e91] at hK ⊢
        refine rg_yes (by kernel_rfl) ?_
        clear e91
        clear hF
        go_simp
        exact hK _ _ (Ext.refl _) rfl
      refine ⟨fun y w' hS hF K hK => ?_, ?_⟩
      · skip -- 18: call
        have e91 : y 91 = _ := hF.1
        have e92 : y 92 = _ := hF.2.1
        simp only [fillL, cond_true, cond_false, List.getD_cons_zero, List.getD_cons_succ, StP.is, Act.put, List.setIfInBounds_toArray, List.set_cons_zero, List.set_cons_succ, Nat.reduceAdd, e91, e92] at hK ⊢
        refine rg_yes (by kernel_rfl) ?_
        clear e91 e92
        clear hF
        go_simp
        exact hK _ _ (Ext.refl _) rfl
      refine ⟨fun y w' hS hF K hK => ?_, ?_⟩
      · skip -- 19: move
        have e91 : y 91 = _ := hF.1
        simp only [fillL, cond_true, cond_false, List.getD_cons_zero, List.getD_cons_succ, StP.is, Act.put, List.setIfInBounds_toArray, List.set_cons_zero, List.set_cons_succ, Nat.reduceAdd, e91] at hK ⊢
        refine rg_yes (by kernel_rfl) ?_
        clear e91
        clear hF
        go_simp
        exact hK _ _ (Ext.refl _) rfl
      refine ⟨fun y w' hS hF K hK => ?_, ?_⟩
      · skip -- 20: binOp
        have e91 : y 91 = _ := hF.1
        have e93 : y 93 = _ := hF.2.1
        have e94 : y 94 = _ := hF.2.2.1
        simp only [fillL, cond_true, cond_false, List.getD_cons_zero, List.getD_cons_succ, StP.is, Act.put, List.setIfInBounds_toArray, List.set_cons_zero, List.set_cons_succ, Nat.reduceAdd, e91, e93, e94] at hK ⊢
        refine rg_yes (by kernel_rfl) ?_
        clear e91 e93 e94
        clear hF
        go_simp
        exact hK _ _ (Ext.refl _) rfl
      refine ⟨fun y w' hS hF K hK => ?_, ?_⟩
      · skip -- 21: move
        have e91 : y 91 = _ := hF.1
        have e95 : y 95 = _ := hF.2.1
        simp only [fillL, cond_true, cond_false, List.getD_cons_zero, List.getD_cons_succ, StP.is, Act.put, List.setIfInBounds_toArray, List.set_cons_zero, List.set_cons_succ, Nat.reduceAdd, e91, e95] at hK ⊢
        refine rg_yes (by kernel_rfl) ?_
        clear e91 e95
        clear hF
        go_simp
        exact hK _ _ (Ext.refl _) rfl
      refine ⟨fun y w' hS hF K hK => ?_, ?_⟩
      · skip -- 22: move
        have e96 : y 96 = _ := hF.1
        simp only [fillL, cond_true, cond_false, List.getD_cons_zero, List.getD_cons_succ, StP.is, Act.put, List.setIfInBounds_toArray, List.set_cons_zero, List.set_cons_succ, Nat.reduceAdd, e96] at hK ⊢
        refine rg_no (by kernel_rfl) ?_
        exact hK _ _ (Ext.refl _) rfl
      refine ⟨fun y w' hS hF K hK => ?_, ?_⟩
      · skip -- 23: move
        have e96 : y 96 = _ := hF.1
        simp only [fillL, cond_true, cond_false, List.getD_cons_zero, List.getD_cons_succ, StP.is, Act.put, List.setIfInBounds_toArray, List.set_cons_zero, List.set_cons_succ, Nat.reduceAdd, e96] at hK ⊢
        refine rg_no (by kernel_rfl) ?_
        exact hK _ _ (Ext.refl _) rfl
      refine ⟨fun y w' hS hF K hK => ?_, ?_⟩
      · skip -- 24: slice
        have e96 : y 96 = _ := hF.1
        have e97 : y 97 = _ := hF.2.1
        have e98 : y 98 = _ := hF.2.2.1
        simp only [fillL, cond_true, cond_false, List.getD_cons_zero, List.getD_cons_succ, StP.is, Act.put, List.setIfInBounds_toArray, List.set_cons_zero, List.set_cons_succ, Nat.reduceAdd, e96, e97, e98] at hK ⊢
        refine rg_no (by kernel_rfl) ?_
        exact hK _ _ (Ext.refl _) rfl
      refine ⟨fun y w' hS hF K hK => ?_, ?_⟩
      · skip -- 25: move
        have e96 : y 96 = _ := hF.1
        simp only [fillL, cond_true, cond_false, List.getD_cons_zero, List.getD_cons_succ, StP.is, Act.put, List.setIfInBounds_toArray, List.set_cons_zero, List.set_cons_succ, Nat.reduceAdd, e96] at hK ⊢
        refine rg_no (by kernel_rfl) ?_
        exact hK _ _ (Ext.refl _) rfl
      refine ⟨fun y w' hS hF K hK => ?_, ?_⟩
      · skip -- 26: move
        have e96 : y 96 = _ := hF.1
        simp only [fillL, cond_true, cond_false, List.getD_cons_zero, List.getD_cons_succ, StP.is, Act.put, List.setIfInBounds_toArray, List.set_cons_zero, List.set_cons_succ, Nat.reduceAdd, e96] at hK ⊢
        refine rg_no (by kernel_rfl) ?_
        exact hK _ _ (Ext.refl _) rfl
      refine ⟨fun y w' hS hF K hK => ?_, ?_⟩
      · skip -- 27: slice
        have e96 : y 96 = _ := hF.1
        have e100 : y 100 = _ := hF.2.1
        have e101 : y 101 = _ := hF.2.2.1
        simp only [fillL, cond_true, cond_false, List.getD_cons_zero, List.getD_cons_succ, StP.is, Act.put, List.setIfInBounds_toArray, List.set_cons_zero, List.set_cons_succ, Nat.reduceAdd, e96, e100, e101] at hK ⊢
        refine rg_no (by kernel_rfl) ?_
        exact hK _ _ (Ext.refl _) rfl
      refine ⟨fun y w' hS hF K hK => ?_, ?_⟩
      · skip -- 28: binOp
        have e96 : y 96 = _ := hF.1
        have e99 : y 99 = _ := hF.2.1
        have e102 : y 102 = _ := hF.2.2.1
        simp only [fillL, cond_true, cond_false, List.getD_cons_zero, List.getD_cons_succ, StP.is, Act.put, List.setIfInBounds_toArray, List.set_cons_zero, List.set_cons_succ, Nat.reduceAdd, e96, e99, e102] at hK ⊢
        refine rg_no (by kernel_rfl) ?_
        exact hK _ _ (Ext.refl _) rfl
      refine ⟨fun y w' hS hF K hK => ?_, ?_⟩
      · skip -- 29: pick
        have e91 : y 91 = _ := hF.1
        have e96 : y 96 = _ := hF.2.1
        have e103 : y 103 = _ := hF.2.2.1
        simp only [fillL, cond_true, cond_false, List.getD_cons_zero, List.getD_cons_succ, StP.is, Act.put, List.setIfInBounds_toArray, List.set_cons_zero, List.set_cons_succ, Nat.reduceAdd, e91, e96, e103] at hK ⊢
        refine rg_yes (by kernel_rfl) ?_
        clear e91 e96 e103
        clear hF
        go_simp
        exact hK _ _ (Ext.refl _) rfl
      refine ⟨fun y w' hS hF K hK => ?_, ?_⟩
      · skip -- 30: pick
        have e91 : y 91 = _ := hF.1
        have e104 : y 104 = _ := hF.2.1
        simp only [fillL, cond_true, cond_false, List.getD_cons_zero, List.getD_cons_succ, StP.is, Act.put, List.setIfInBounds_toArray, List.set_cons_zero, List.set_cons_succ, Nat.reduceAdd, e91, e104] at hK ⊢
        refine rg_yes (by kernel_rfl) ?_
        clear e91 e104
        clear hF
        go_simp
        exact hK _ _ (Ext.refl _) rfl
      refine ⟨fun y w' hS hF K hK => ?_, ?_⟩
      · skip -- 31: assign
        have e105 : y 105 = _ := hF.1
        simp only [fillL, cond_true, cond_false, List.getD_cons_zero, List.getD_cons_succ, StP.is, Act.put, List.setIfInBounds_toArray, List.set_cons_zero, List.set_cons_succ, Nat.reduceAdd, e105] at hK ⊢
        refine rg_yes (by kernel_rfl) ?_
        clear e105
        clear hF
        go_simp
        exact hK _ _ (Ext.refl _) rfl
      trivial
    case hend =>
      intro y w9 hX hF
      have e2 : y 2 = _ := hF.2.2.2.2.2.2.2.2.2.2.2.2.2.2.2.2.2.2.2.2.2.2.2.2.2.2.2.2.2.2.2.1
      clear hF
      simp only [fillL, cond_true, cond_false, Nat.reduceAdd, e2]
      clear e2
      go_wp2_with fail
      go_ret
      exact ⟨rfl, HB7.out.trans (hX.mono HB7.out.size)⟩
  · have he : nw = s.extract 0 m ++ u.extract m u.size := by rw [HNW.out]; unfold tornF; rw [if_pos rfl, ← HM.out, if_pos (by omega)]
    have hl1' : (u.extract m u.size).size = u.size - m := by rw [ByteArray.size_extract]; omega
    have hns : nw.size = u.size := by rw [he, ByteArray.size_append, hl0, hl1']; omega
    have e1 : ((nw.extract 0 m).toList == (s.extract 0 m).toList) = true := by
      have : nw.extract 0 m = s.extract 0 m := by rw [he]; exact ByteArray.extract_append_eq_left hl0.symm
      rw [this]; simp
    have e2 : ((nw.extract m nw.size).toList == (u.extract m u.size).toList) = true := by
      rw [hns]
      have : nw.extract m u.size = u.extract m u.size := by
        rw [he]; exact ByteArray.extract_append_eq_right hl0.symm (by rw [hl0, hl1']; omega)
      rw [this]; simp
    have HE1 := Lib.hid e1; have HE2 := Lib.hid e2
    have HNS := Lib.hid hns
    have c1_ : ((nw.size : Int) == (u.size : Int)) = true := by rw [hns]; simp
    have c2_ : ¬ (u.size : Int) ≤ (m : Int) := by omega
    have c3_ : (m : Int) < (u.size : Int) := by omega
    have c7_ : m < u.size := by omega
    have c8_ : (nw.size == u.size) = true := by rw [hns]; simp
    have c4_ : (m : Int) ≤ (nw.size : Int) := by omega
    have c5_ : nw.size ≤ 9223372036854775807 := by omega
    have c6_ : (m : Int) ≤ (u.size : Int) := by omega
    clear he hns e1 e2 HNW
    go_wp2_with fail
    apply wp_region_rg (by kernel_rfl) (false :: false :: true :: false :: false :: false :: false :: false :: false :: false :: false :: false :: false :: false :: false :: false :: false :: false :: false :: false :: false :: false :: false :: false :: false :: false :: false :: false :: false :: false :: false :: false :: false :: false :: false :: false :: false :: false :: false :: false :: false :: false :: false :: false :: false :: false :: false :: false :: false :: false :: false :: false :: false :: false :: false :: false :: false :: false :: false :: false :: false :: false :: false :: false :: false :: false :: false :: false :: false :: false :: false :: false :: false :: false :: false :: true :: true :: true :: true :: true :: true :: true :: true :: true :: true :: true :: true :: true :: true :: true :: true :: true :: true :: true :: true :: true :: true :: true :: true :: true :: true :: true :: true :: true :: true :: true :: []) (some 75 :: some 76 :: some 77 :: some 78 :: some 79 :: some 80 :: some 81 :: some 82 :: some 83 :: some 84 :: some 85 :: some 86 :: some 87 :: some 88 :: some 89 :: some 90 :: some 91 :: some 92 :: some 93 :: some 94 :: some 95 :: some 96 :: some 97 :: some 98 :: some 99 :: some 100 :: some 101 :: some 102 :: some 103 :: some 104 :: some 105 :: some 2 :: []) ([] :: [0] :: [] :: [] :: [3] :: [2, 4] :: [1, 5] :: [6] :: [7] :: [7] :: [7, 8, 9] :: [7] :: [7] :: [7, 11, 12] :: [7, 10, 13] :: [7, 14] :: [15] :: [16] :: [16, 17] :: [16] :: [16, 18, 19] :: [16, 20] :: [21] :: [21] :: [21, 22, 23] :: [21] :: [21] :: [21, 25, 26] :: [21, 24, 27] :: [16, 21, 28] :: [16, 29] :: [30] :: []) (StP.is _ :: StP.is _ :: StP.is _ :: StP.is _ :: StP.is _ :: StP.is _ :: StP.is _ :: StP.is _ :: StP.is _ :: StP.is _ :: StP.is _ :: StP.is _ :: StP.is _ :: StP.is _ :: StP.is _ :: StP.is _ :: StP.is _ :: StP.is _ :: StP.is _ :: StP.is _ :: StP.is _ :: StP.is _ :: StP.is _ :: StP.is _ :: StP.is _ :: StP.is _ :: StP.is _ :: StP.is _ :: StP.is _ :: StP.is _ :: StP.is _ :: StP.is _ :: []) (by kernel_rfl)
    case hobs =>
      refine ⟨fun y w' hS hF K hK => ?_, ?_⟩
      · skip -- 0: move
        simp only [fillL, cond_true, cond_false, List.getD_cons_zero, List.getD_cons_succ, StP.is, Act.put, List.setIfInBounds_toArray, List.set_cons_zero, List.set_cons_succ, Nat.reduceAdd] at hK ⊢
        refine rg_yes (by kernel_rfl) ?_
        clear hF
        go_simp
        exact hK _ _ (Ext.refl _) rfl
      refine ⟨fun y w' hS hF K hK => ?_, ?_⟩
      · skip -- 1: call
        have e75 : y 75 = _ := hF.1
        simp only [fillL, cond_true, cond_false, List.getD_cons_zero, List.getD_cons_succ, StP.is, Act.put, List.setIfInBounds_toArray, List.set_cons_zero, List.set_cons_succ, Nat.reduceAdd, e75] at hK ⊢
        refine rg_yes (by kernel_rfl) ?_
        clear e75
        clear hF
        go_simp
        exact hK _ _ (Ext.refl _) rfl
      refine ⟨fun y w' hS hF K hK => ?_, ?_⟩
      · skip -- 2: move
        simp only [fillL, cond_true, cond_false, List.getD_cons_zero, List.getD_cons_succ, StP.is, Act.put, List.setIfInBounds_toArray, List.set_cons_zero, List.set_cons_succ, Nat.reduceAdd] at hK ⊢
        refine rg_yes (by kernel_rfl) ?_
        clear hF
        go_simp
        exact hK _ _ (Ext.refl _) rfl
      refine ⟨fun y w' hS hF K hK => ?_, ?_⟩
      · skip -- 3: move
        simp only [fillL, cond_true, cond_false, List.getD_cons_zero, List.getD_cons_succ, StP.is, Act.put, List.setIfInBounds_toArray, List.set_cons_zero, List.set_cons_succ, Nat.reduceAdd] at hK ⊢
        refine rg_yes (by kernel_rfl) ?_
        clear hF
        go_simp
        exact hK _ _ (Ext.refl _) rfl
      refine ⟨fun y w' hS hF K hK => ?_, ?_⟩
      · skip -- 4: call
        have e78 : y 78 = _ := hF.1
        simp only [fillL, cond_true, cond_false, List.getD_cons_zero, List.getD_cons_succ, StP.is, Act.put, List.setIfInBounds_toArray, List.set_cons_zero, List.set_cons_succ, Nat.reduceAdd, e78] at hK ⊢
        refine rg_yes (by kernel_rfl) ?_
        clear e78
        clear hF
        go_simp
        exact hK _ _ (Ext.refl _) rfl
      refine ⟨fun y w' hS hF K hK => ?_, ?_⟩
      · skip -- 5: call
        have e77 : y 77 = _ := hF.1
        have e79 : y 79 = _ := hF.2.1
        simp only [fillL, cond_true, cond_false, List.getD_cons_zero, List.getD_cons_succ, StP.is, Act.put, List.setIfInBounds_toArray, List.set_cons_zero, List.set_cons_succ, Nat.reduceAdd, e77, e79] at hK ⊢
        refine rg_yes (by kernel_rfl) ?_
        clear e77 e79
        clear hF
        go_simp
        exact hK _ _ (Ext.refl _) rfl
      refine ⟨fun y w' hS hF K hK => ?_, ?_⟩
      · skip -- 6: binOp
        have e76 : y 76 = _ := hF.1
        have e80 : y 80 = _ := hF.2.1
        simp only [fillL, cond_true, cond_false, List.getD_cons_zero, List.getD_cons_succ, StP.is, Act.put, List.setIfInBounds_toArray, List.set_cons_zero, List.set_cons_succ, Nat.reduceAdd, e76, e80] at hK ⊢
        refine rg_yes (by kernel_rfl) ?_
        clear e76 e80
        clear hF
        go_simp
        exact hK _ _ (Ext.refl _) rfl
      refine ⟨fun y w' hS hF K hK => ?_, ?_⟩
      · skip -- 7: move
        have e81 : y 81 = _ := hF.1
        simp only [fillL, cond_true, cond_false, List.getD_cons_zero, List.getD_cons_succ, StP.is, Act.put, List.setIfInBounds_toArray, List.set_cons_zero, List.set_cons_succ, Nat.reduceAdd, e81] at hK ⊢
        refine rg_yes (by kernel_rfl) ?_
        clear e81
        clear hF
        go_simp
        exact hK _ _ (Ext.refl _) rfl
      refine ⟨fun y w' hS hF K hK => ?_, ?_⟩
      · skip -- 8: move
        have e82 : y 82 = _ := hF.1
        simp only [fillL, cond_true, cond_false, List.getD_cons_zero, List.getD_cons_succ, StP.is, Act.put, List.setIfInBounds_toArray, List.set_cons_zero, List.set_cons_succ, Nat.reduceAdd, e82] at hK ⊢
        refine rg_yes (by kernel_rfl) ?_
        clear e82
        clear hF
        go_simp
        exact hK _ _ (Ext.refl _) rfl
      refine ⟨fun y w' hS hF K hK => ?_, ?_⟩
      · skip -- 9: move
        have e82 : y 82 = _ := hF.1
        simp only [fillL, cond_true, cond_false, List.getD_cons_zero, List.getD_cons_succ, StP.is, Act.put, List.setIfInBounds_toArray, List.set_cons_zero, List.set_cons_succ, Nat.reduceAdd, e82] at hK ⊢
        refine rg_yes (by kernel_rfl) ?_
        clear e82
        clear hF
        go_simp
        exact hK _ _ (Ext.refl _) rfl
      refine ⟨fun y w' hS hF K hK => ?_, ?_⟩
      · skip -- 10: slice
        have e82 : y 82 = _ := hF.1
        have e83 : y 83 = _ := hF.2.1
        have e84 : y 84 = _ := hF.2.2.1
        simp only [fillL, cond_true, cond_false, List.getD_cons_zero, List.getD_cons_succ, StP.is, Act.put, List.setIfInBounds_toArray, List.set_cons_zero, List.set_cons_succ, Nat.reduceAdd, e82, e83, e84] at hK ⊢
        refine rg_yes (by kernel_rfl) ?_
        clear e82 e83 e84
        clear hF
        go_simp
        exact hK _ _ (Ext.refl _) rfl
      refine ⟨fun y w' hS hF K hK => ?_, ?_⟩
      · skip -- 11: move
        have e82 : y 82 = _ := hF.1
        simp only [fillL, cond_true, cond_false, List.getD_cons_zero, List.getD_cons_succ, StP.is, Act.put, List.setIfInBounds_toArray, List.set_cons_zero, List.set_cons_succ, Nat.reduceAdd, e82] at hK ⊢
        refine rg_yes (by kernel_rfl) ?_
        clear e82
        clear hF
        go_simp
        exact hK _ _ (Ext.refl _) rfl
      refine ⟨fun y w' hS hF K hK => ?_, ?_⟩
      · skip -- 12: move
        have e82 : y 82 = _ := hF.1
        simp only [fillL, cond_true, cond_false, List.getD_cons_zero, List.getD_cons_succ, StP.is, Act.put, List.setIfInBounds_toArray, List.set_cons_zero, List.set_cons_succ, Nat.reduceAdd, e82] at hK ⊢
        refine rg_yes (by kernel_rfl) ?_
        clear e82
        clear hF
        go_simp
        exact hK _ _ (Ext.refl _) rfl
      refine ⟨fun y w' hS hF K hK => ?_, ?_⟩
      · skip -- 13: slice
        have e82 : y 82 = _ := hF.1
        have e86 : y 86 = _ := hF.2.1
        have e87 : y 87 = _ := hF.2.2.1
        simp only [fillL, cond_true, cond_false, List.getD_cons_zero, List.getD_cons_succ, StP.is, Act.put, List.setIfInBounds_toArray, List.set_cons_zero, List.set_cons_succ, Nat.reduceAdd, e82, e86, e87] at hK ⊢
        refine rg_yes (by kernel_rfl) ?_
        clear e82 e86 e87
        clear hF
        go_simp
        exact hK _ _ (Ext.refl _) rfl
      refine ⟨fun y w' hS hF K hK => ?_, ?_⟩
      · skip -- 14: binOp
        have e82 : y 82 = _ := hF.1
        have e85 : y 85 = _ := hF.2.1
        have e88 : y 88 = _ := hF.2.2.1
        simp only [fillL, cond_true, cond_false, List.getD_cons_zero, List.getD_cons_succ, StP.is, Act.put, List.setIfInBounds_toArray, List.set_cons_zero, List.set_cons_succ, Nat.reduceAdd, e82, e85, e88] at hK ⊢
        refine rg_yes (by kernel_rfl) ?_
        have e1_ := HE1.out
        clear e82 e85 e88
        clear hF
        go_simp
        exact hK _ _ (Ext.refl _) rfl
      refine ⟨fun y w' hS hF K hK => ?_, ?_⟩
      · skip -- 15: pick
        have e82 : y 82 = _ := hF.1
        have e89 : y 89 = _ := hF.2.1
        simp only [fillL, cond_true, cond_false, List.getD_cons_zero, List.getD_cons_succ, StP.is, Act.put, List.setIfInBounds_toArray, List.set_cons_zero, List.set_cons_succ, Nat.reduceAdd, e82, e89] at hK ⊢
        refine rg_yes (by kernel_rfl) ?_
        clear e82 e89
        clear hF
        go_simp
        exact hK _ _ (Ext.refl _) rfl
      refine ⟨fun y w' hS hF K hK => ?_, ?_⟩
      · skip -- 16: move
        have e90 : y 90 = _ := hF.1
        simp only [fillL, cond_true, cond_false, List.getD_cons_zero, List.getD_cons_succ, StP.is, Act.put, List.setIfInBounds_toArray, List.set_cons_zero, List.set_cons_succ, Nat.reduceAdd, e90] at hK ⊢
        refine rg_yes (by kernel_rfl) ?_
        clear e90
        clear hF
        go_simp
        exact hK _ _ (Ext.refl _) rfl
      refine ⟨fun y w' hS hF K hK => ?_, ?_⟩
      · skip -- 17: move
        have e91 : y 91 = _ := hF.1
        simp only [fillL, cond_true, cond_false, List.getD_cons_zero, List.getD_cons_succ, StP.is, Act.put, List.setIfInBounds_toArray, List.set_cons_zero, List.set_cons_succ, Nat.reduceAdd, e91] at hK ⊢
        refine rg_yes (by kernel_rfl) ?_
        clear e91
        clear hF
        go_simp
        exact hK _ _ (Ext.refl _) rfl
      refine ⟨fun y w' hS hF K hK => ?_, ?_⟩
      · skip -- 18: call
        have e91 : y 91 = _ := hF.1
        have e92 : y 92 = _ := hF.2.1
        simp only [fillL, cond_true, cond_false, List.getD_cons_zero, List.getD_cons_succ, StP.is, Act.put, List.setIfInBounds_toArray, List.set_cons_zero, List.set_cons_succ, Nat.reduceAdd, e91, e92] at hK ⊢
        refine rg_yes (by kernel_rfl) ?_
        clear e91 e92
        clear hF
        go_simp
        exact hK _ _ (Ext.refl _) rfl
      refine ⟨fun y w' hS hF K hK => ?_, ?_⟩
      · skip -- 19: move
        have e91 : y 91 = _ := hF.1
        simp only [fillL, cond_true, cond_false, List.getD_cons_zero, List.getD_cons_succ, StP.is, Act.put, List.setIfInBounds_toArray, List.set_cons_zero, List.set_cons_succ, Nat.reduceAdd, e91] at hK ⊢
        refine rg_yes (by kernel_rfl) ?_
        clear e91
        clear hF
        go_simp
        exact hK _ _ (Ext.refl _) rfl
      refine ⟨fun y w' hS hF K hK => ?_, ?_⟩
      · skip -- 20: binOp
        have e91 : y 91 = _ := hF.1
        have e93 : y 93 = _ := hF.2.1
        have e94 : y 94 = _ := hF.2.2.1
        simp only [fillL, cond_true, cond_false, List.getD_cons_zero, List.getD_cons_succ, StP.is, Act.put, List.setIfInBounds_toArray, List.set_cons_zero, List.set_cons_succ, Nat.reduceAdd, e91, e93, e94] at hK ⊢
        refine rg_yes (by kernel_rfl) ?_
        clear e91 e93 e94
        clear hF
        go_simp
        exact hK _ _ (Ext.refl _) rfl
      refine ⟨fun y w' hS hF K hK => ?_, ?_⟩
      · skip -- 21: move
        have e91 : y 91 = _ := hF.1
        have e95 : y 95 = _ := hF.2.1
        simp only [fillL, cond_true, cond_false, List.getD_cons_zero, List.getD_cons_succ, StP.is, Act.put, List.setIfInBounds_toArray, List.set_cons_zero, List.set_cons_succ, Nat.reduceAdd, e91, e95] at hK ⊢
        refine rg_yes (by kernel_rfl) ?_
        clear e91 e95
        clear hF
        go_simp
        exact hK _ _ (Ext.refl _) rfl
      refine ⟨fun y w' hS hF K hK => ?_, ?_⟩
      · skip -- 22: move
        have e96 : y 96 = _ := hF.1
        simp only [fillL, cond_true, cond_false, List.getD_cons_zero, List.getD_cons_succ, StP.is, Act.put, List.setIfInBounds_toArray, List.set_cons_zero, List.set_cons_succ, Nat.reduceAdd, e96] at hK ⊢
        refine rg_yes (by kernel_rfl) ?_
        clear e96
        clear hF
        go_simp
        exact hK _ _ (Ext.refl _) rfl
      refine ⟨fun y w' hS hF K hK => ?_, ?_⟩
      · skip -- 23: move
        have e96 : y 96 = _ := hF.1
        simp only [fillL, cond_true, cond_false, List.getD_cons_zero, List.getD_cons_succ, StP.is, Act.put, List.setIfInBounds_toArray, List.set_cons_zero, List.set_cons_succ, Nat.reduceAdd, e96] at hK ⊢
        refine rg_yes (by kernel_rfl) ?_
        clear e96
        clear hF
        go_simp
        exact hK _ _ (Ext.refl _) rfl
      refine ⟨fun y w' hS hF K hK => ?_, ?_⟩
      · skip -- 24: slice
        have e96 : y 96 = _ := hF.1
        have e97 : y 97 = _ := hF.2.1
        have e98 : y 98 = _ := hF.2.2.1
        simp only [fillL, cond_true, cond_false, List.getD_cons_zero, List.getD_cons_succ, StP.is, Act.put, List.setIfInBounds_toArray, List.set_cons_zero, List.set_cons_succ, Nat.reduceAdd, e96, e97, e98] at hK ⊢
        refine rg_yes (by kernel_rfl) ?_
        clear e96 e97 e98
        clear hF
        go_simp
        exact hK _ _ (Ext.refl _) rfl
      refine ⟨fun y w' hS hF K hK => ?_, ?_⟩
      · skip -- 25: move
        have e96 : y 96 = _ := hF.1
        simp only [fillL, cond_true, cond_false, List.getD_cons_zero, List.getD_cons_succ, StP.is, Act.put, List.setIfInBounds_toArray, List.set_cons_zero, List.set_cons_succ, Nat.reduceAdd, e96] at hK ⊢
        refine rg_yes (by kernel_rfl) ?_
        clear e96
        clear hF
        go_simp
        exact hK _ _ (Ext.refl _) rfl
      refine ⟨fun y w' hS hF K hK => ?_, ?_⟩
      · skip -- 26: move
        have e96 : y 96 = _ := hF.1
        simp only [fillL, cond_true, cond_false, List.getD_cons_zero, List.getD_cons_succ, StP.is, Act.put, List.setIfInBounds_toArray, List.set_cons_zero, List.set_cons_succ, Nat.reduceAdd, e96] at hK ⊢
        refine rg_yes (by kernel_rfl) ?_
        clear e96
        clear hF
        go_simp
        exact hK _ _ (Ext.refl _) rfl
      refine ⟨fun y w' hS hF K hK => ?_, ?_⟩
      · skip -- 27: slice
        have e96 : y 96 = _ := hF.1
        have e100 : y 100 = _ := hF.2.1
        have e101 : y 101 = _ := hF.2.2.1
        simp only [fillL, cond_true, cond_false, List.getD_cons_zero, List.getD_cons_succ, StP.is, Act.put, List.setIfInBounds_toArray, List.set_cons_zero, List.set_cons_succ, Nat.reduceAdd, e96, e100, e101] at hK ⊢
        refine rg_yes (by kernel_rfl) ?_
        clear e96 e100 e101
        clear hF
        go_simp
        exact hK _ _ (Ext.refl _) rfl
      refine ⟨fun y w' hS hF K hK => ?_, ?_⟩
      · skip -- 28: binOp
        have e96 : y 96 = _ := hF.1
        have e99 : y 99 = _ := hF.2.1
        have e102 : y 102 = _ := hF.2.2.1
        simp only [fillL, cond_true, cond_false, List.getD_cons_zero, List.getD_cons_succ, StP.is, Act.put, List.setIfInBounds_toArray, List.set_cons_zero, List.set_cons_succ, Nat.reduceAdd, e96, e99, e102] at hK ⊢
        refine rg_yes (by kernel_rfl) ?_
        have e2_ := HE2.out
        clear e96 e99 e102
        clear hF
        go_simp
        exact hK _ _ (Ext.refl _) rfl
      refine ⟨fun y w' hS hF K hK => ?_, ?_⟩
      · skip -- 29: pick
        have e91 : y 91 = _ := hF.1
        have e96 : y 96 = _ := hF.2.1
        have e103 : y 103 = _ := hF.2.2.1
        simp only [fillL, cond_true, cond_false, List.getD_cons_zero, List.getD_cons_succ, StP.is, Act.put, List.setIfInBounds_toArray, List.set_cons_zero, List.set_cons_succ, Nat.reduceAdd, e91, e96, e103] at hK ⊢
        refine rg_yes (by kernel_rfl) ?_
        clear e91 e96 e103
        clear hF
        go_simp
        exact hK _ _ (Ext.refl _) rfl
      refine ⟨fun y w' hS hF K hK => ?_, ?_⟩
      · skip -- 30: pick
        have e91 : y 91 = _ := hF.1
        have e104 : y 104 = _ := hF.2.1
        simp only [fillL, cond_true, cond_false, List.getD_cons_zero, List.getD_cons_succ, StP.is, Act.put, List.setIfInBounds_toArray, List.set_cons_zero, List.set_cons_succ, Nat.reduceAdd, e91, e104] at hK ⊢
        refine rg_yes (by kernel_rfl) ?_
        clear e91 e104
        clear hF
        go_simp
        exact hK _ _ (Ext.refl _) rfl
      refine ⟨fun y w' hS hF K hK => ?_, ?_⟩
      · skip -- 31: assign
        have e105 : y 105 = _ := hF.1
        simp only [fillL, cond_true, cond_false, List.getD_cons_zero, List.getD_cons_succ, StP.is, Act.put, List.setIfInBounds_toArray, List.set_cons_zero, List.set_cons_succ, Nat.reduceAdd, e105] at hK ⊢
        refine rg_yes (by kernel_rfl) ?_
        clear e105
        clear hF
        go_simp
        exact hK _ _ (Ext.refl _) rfl
      trivial
    case hend =>
      intro y w9 hX hF
      have e2 : y 2 = _ := hF.2.2.2.2.2.2.2.2.2.2.2.2.2.2.2.2.2.2.2.2.2.2.2.2.2.2.2.2.2.2.2.1
      clear hF
      simp only [fillL, cond_true, cond_false, Nat.reduceAdd, e2]
      clear e2
      go_wp2_with fail
      go_ret
      exact ⟨rfl, HB7.out.trans (hX.mono HB7.out.size)⟩
end Go.Proofs.Ytgipchipcoaajaa
