/- FnDiskLast: the walk. No condition. -/
import Derived.Test.YtgipchipcoaajaaFnDiskWrite
import Derived.Test.YtgipchipcoaajaaFlush
namespace Go.Proofs.Ytgipchipcoaajaa
set_option linter.unusedSimpArgs false
set_option linter.unnecessarySimpa false
open Go.RowKit
set_option linter.unusedVariables false
theorem write_eq {x : DiskD} {at_ : Int} {s : ByteArray} (h : writeOk x at_ s = true) : writeD x at_ s = (x.1, x.2.1 ++ [(at_, s)], x.2.2) := by
  unfold writeOk at h
  obtain ⟨hd, hg⟩ := (Bool.and_eq_true _ _).mp h
  unfold writeD; rw [if_pos hd, if_pos hg]
theorem settle_last {y : DiskD} {k : Nat} {o : ByteArray} (h : writeOk y (k : Int) o = true) (hk : k < 64) : (settleD flushF (writeD y (k : Int) o)).1[k]? = some o := by
  obtain ⟨_, _, _, hd, _⟩ := write_facts h
  have h64 := (diskOk_len hd).1
  rw [write_eq h]
  unfold settleD
  simp only [List.length_append, List.length_cons, List.length_nil, Nat.zero_add]
  rw [settleTo_succ]
  unfold settleStep
  rw [List.getElem?_append_right (Nat.le_refl _), Nat.sub_self]
  simp only [List.getElem?_cons_zero, Int.toNat_natCast, flushF]
  rw [List.getElem?_set_self (by rw [settleTo_len]; omega)]
theorem DiskN.cellAt {w : World} {lo hi : Nat} {A0 A1 : Option Addr} {n0 c0 n1 c1 : Nat} {v : Value} {x : DiskD} {k : Nat} {o : ByteArray} (h : DiskN w lo hi [.slice A0 n0 c0, .slice A1 n1 c1, v] x) (hk : x.1[k]? = some o) :
    ∃ b off, A0 = some ⟨b, off, none⟩ ∧ k < n0 ∧ w.cell? ⟨b, off + k, none⟩ = some (.string o) := by
  obtain ⟨_, _, _, _, _, _, e, h0, _⟩ := h
  injection e with e0 e
  injection e0 with a b c
  subst a b c
  have hl := h0.len
  have hlt := (List.getElem?_eq_some_iff.1 hk).1
  obtain ⟨b, off, hA, _, _, _, hc⟩ := h0.at_ (by omega)
  obtain ⟨cs, _, hcs, rfl, _⟩ := hc k o hk
  have := hcs 0 _ rfl
  exact ⟨b, off, hA, by omega, by simpa using this⟩
/-- The text of a slice's first bytes. -/
theorem conv_more (A : Option Addr) (n c : Nat) (zs : List Int) (w : World) (h : BytesIn w A n c zs) : ∃ o : ByteArray, o.size ≤ 200 ∧ ∀ W, Below w.heap.size w W → (convert 22 9 (.slice A (n % 201) c)).run Try.prog W = .ok (.string o) W := by
  have hlt := Nat.mod_lt n (show 0 < 201 by omega)
  have hle := Nat.mod_le n 201
  obtain ⟨h1, h2, h3, h4, h5⟩ := h
  by_cases h0 : n % 201 = 0
  · refine ⟨strOfNums [], by decide, fun W _ => ?_⟩
    rw [h0]
    rw [run_convert_bytes_string W 22 9 5 A 0 c Try.underlying22 Try.underlying5 Try.underlying9]
    rcases A with _ | a
    · simp [Conv.bytesToString]; rfl
    · rw [run_bytesToString W _ 0 c [] (by simp [loadCells, go_sem])]
      rfl
  · obtain ⟨b, off, rfl, hc⟩ := h5 (by omega)
    refine ⟨strOfNums (zs.take (n % 201)), ?_, fun W hb => ?_⟩
    · have : (strOfNums (zs.take (n % 201))).size = (zs.take (n % 201)).length := by simp [strOfNums, ByteArray.size]
      rw [this]; simp; omega
    · refine run_convert_bytes_arg (P := Try.prog) _ 22 5 Try.underlying22 Try.underlying5 b off (n % 201) c (zs.take (n % 201)) (by simp; omega) (fun i hi => ?_) 9 Try.underlying9
      have hc' := hc i (by omega)
      rw [(hb.cell (World.block_lt_of_cell? w _ hc')).trans hc']
      simp [List.getD, List.getElem?_take, hi]
theorem disk_field0 (A B : Option Addr) (n c m d : Nat) (g : Bool) (W : World) : (Instr.field 26 (.agg #[.slice A n c, .slice B m d, .bool g]) 0).run Try.prog W = .ok (.slice A n c) W := by
  kernel_rfl
set_option maxRecDepth 100000 in
set_option maxHeartbeats 2000000 in
theorem fnDiskLast_walk (A : Option Addr) (n c : Nat) (zs : List Int) (A' : Option Addr) (n' c' : Nat) (zs' : List Int) (w : World) (h : BytesIn w A n c zs) (h' : BytesIn w A' n' c' zs') :
    Calls Try.prog 9 #[.slice A n c, .slice A' n' c'] w fun e w' => e = .returned (.bool true) ∧ Below w.heap.size w w' := by
  go_enter Try.func9, Try.ntmps9
  by_cases hb : 1048576 < n
  · have h0 : (1048576 : Int) < (n : Int) := by omega
    go_wp2_with fail
    go_ret
    exact ⟨rfl, Below.refl _ _⟩
  have h0 : ¬ (1048576 : Int) < (n : Int) := by omega
  have h1 : (n : Int) ≤ 1048576 := by omega
  by_cases hb' : 1048576 < n'
  · have h0 : (1048576 : Int) < (n' : Int) := by omega
    go_wp2_with fail
    go_ret
    exact ⟨rfl, Below.refl _ _⟩
  have h0' : ¬ (1048576 : Int) < (n' : Int) := by omega
  have h1' : (n' : Int) ≤ 1048576 := by omega
  go_wp2_with fail
  refine (drawDiskWrite_any A n c zs _ h).mono ?_
  rintro e w1 ⟨cs, x, at_, s, rfl, hD, hl1, hl2, hs, hb1⟩
  have HD1 := Lib.hid hD
  obtain ⟨A0, n0, c0, A1, n1, c1, rfl, -, -⟩ := hD
  have HB1 : Below w.heap.size w (World.alloc w1 (.cells #[.slice A0 n0 c0, .slice A1 n1 c1, .bool x.2.2] 26)) := Below.alloc hb1 (by exact hb1.size) _
  have hms : s.size ≤ maxLen := by unfold maxLen; omega
  obtain ⟨o, hos, hcv⟩ := conv_more A' n' c' zs' w h'
  have hcv1 := hcv _ HB1
  obtain ⟨m, hmm⟩ : ∃ m, m = n' % 201 := ⟨_, rfl⟩
  rw [← hmm] at hcv1
  have hrem : Int.tmod (n' : Int) 201 = (m : Int) := by rw [hmm]; rfl
  have hmc : (m : Int) ≤ (c' : Int) := by have := h'.2.1; have := Nat.mod_le n' 201; omega
  have hm0 : (0 : Int) ≤ (m : Int) := by omega
  have hom : o.size ≤ maxLen := by unfold maxLen; omega
  clear hcv hmm
  obtain ⟨ok, hok⟩ : ∃ b, b = writeOk x at_ s := ⟨_, rfl⟩
  obtain ⟨y, hy⟩ : ∃ d, d = writeD x at_ s := ⟨_, rfl⟩
  obtain ⟨ok2, hok2⟩ : ∃ b, b = writeOk y at_ o := ⟨_, rfl⟩
  obtain ⟨z, hz⟩ : ∃ d, d = writeD y at_ o := ⟨_, rfl⟩
  have HOK := Lib.hid hok; have HY := Lib.hid hy; have HOK2 := Lib.hid hok2; have HZ := Lib.hid hz
  clear hok hy hok2 hz
  go_wp2_with fail
  refine (diskWrite_any _ x at_ s _ w.heap.size w1.heap.size (DiskR.below bel1 (Nat.le_refl _) _ _ HD1.out) hms).mono ?_
  rw [← HOK.out, ← HY.out]
  rintro e w2 ⟨cs2, rfl, hN2, hb2⟩
  have HD2 := Lib.hid hN2.r
  have hD2 := hN2.r
  obtain ⟨B0, m0, d0, B1, m1, d1, rfl, -, -⟩ := hD2
  have HB2 := HB1.trans (hb2.mono HB1.size)
  have l1 : w1.heap.size < w2.heap.size := by have := hb2.size; simp at this; omega
  have b2 : w2.heap[w1.heap.size]? = some (.cells #[.slice A0 n0 c0, .slice A1 n1 c1, .bool x.2.2] 26 (0, 0)) := (hb2.block _ (by simp)).trans (heap_alloc_new _ _)
  have HD1b := Lib.hid (DiskR.below (bel1.trans (hb2.mono (by simp))) (Nat.le_refl _) _ _ HD1.out)
  clear hb2 HD1 hN2
  go_wp2_with fail
  refine (diskWrite_any _ y at_ o _ _ _ (DiskR.below bel1 (Nat.le_refl _) _ _ HD2.out) hom).mono ?_
  rw [← HOK2.out, ← HZ.out]
  rintro e w3 ⟨cs3, rfl, hN3, hb3⟩
  have HD3 := Lib.hid hN3.r
  have hD3 := hN3.r
  obtain ⟨C0, p0, e0, C1, p1, e1, rfl, -, -⟩ := hD3
  have HB2' : Below w.heap.size w (World.alloc w2 (.cells #[.slice B0 m0 d0, .slice B1 m1 d1, .bool y.2.2] 26)) := Below.alloc HB2 (by exact HB2.size) _
  have HB3 := HB2'.trans (hb3.mono HB2'.size)
  have l2 : w2.heap.size < w3.heap.size := by have := hb3.size; simp at this; omega
  have X23 : Below w2.heap.size w2 w3 := bel1.trans (hb3.mono (by simp))
  have b3 : w3.heap[w1.heap.size]? = some (.cells #[.slice A0 n0 c0, .slice A1 n1 c1, .bool x.2.2] 26 (0, 0)) := (X23.block _ l1).trans b2
  have b3' : w3.heap[w2.heap.size]? = some (.cells #[.slice B0 m0 d0, .slice B1 m1 d1, .bool y.2.2] 26 (0, 0)) := (hb3.block _ (by simp)).trans (heap_alloc_new _ _)
  have HD1c := Lib.hid (DiskR.below X23 (Nat.le_of_lt l1) _ _ HD1b.out)
  have HD2c := Lib.hid (DiskR.below X23 (Nat.le_refl _) _ _ HD2.out)
  have u0 := cell_of_row _ _ 0 _ _ (0, 0) b3; have u1 := cell_of_row _ _ 1 _ _ (0, 0) b3; have u2 := cell_of_row _ _ 2 _ _ (0, 0) b3
  clear hb3 hN3 b2 HD1b HD2 HB2 HB2' HB1 hb1 hcv1
  have l13 : w1.heap.size < w3.heap.size := by omega
  go_wp2_with fail
  refine (spDiskWrite_any _ x at_ s _ _ _ (DiskR.below bel1 (by omega) _ _ HD1c.out) hms).mono ?_
  rw [← HOK.out, ← HY.out]
  rintro e w4 ⟨cs4, rfl, hN4, hb4⟩
  have HD4 := Lib.hid hN4.r
  have hD4 := hN4.r
  obtain ⟨E0, r0, g0, E1, r1, g1, rfl, -, -⟩ := hD4
  have HB3' : Below w.heap.size w (World.alloc w3 (.cells #[.slice C0 p0 e0, .slice C1 p1 e1, .bool z.2.2] 26)) := Below.alloc HB3 (by exact HB3.size) _
  have HB4 := HB3'.trans (hb4.mono HB3'.size)
  have l3 : w3.heap.size < w4.heap.size := by have := hb4.size; simp at this; omega
  have X34 : Below w3.heap.size w3 w4 := bel1.trans (hb4.mono (by simp))
  have b4' : w4.heap[w2.heap.size]? = some (.cells #[.slice B0 m0 d0, .slice B1 m1 d1, .bool y.2.2] 26 (0, 0)) := (X34.block _ l2).trans b3'
  have b4'' : w4.heap[w3.heap.size]? = some (.cells #[.slice C0 p0 e0, .slice C1 p1 e1, .bool z.2.2] 26 (0, 0)) := (hb4.block _ (by simp)).trans (heap_alloc_new _ _)
  have HD2d := Lib.hid (DiskR.below X34 (Nat.le_of_lt l2) _ _ HD2c.out)
  have HD3d := Lib.hid (DiskR.below X34 (Nat.le_refl _) _ _ HD3.out)
  have v0 := cell_of_row _ _ 0 _ _ (0, 0) b4'; have v1 := cell_of_row _ _ 1 _ _ (0, 0) b4'; have v2 := cell_of_row _ _ 2 _ _ (0, 0) b4'
  have hgg : (ok != ok) = false := by simp
  have hge : (ok == ok) = true := by simp
  clear hb4 hN4 HB3 HB3' HD1c HD2c HD3 u0 u1 u2 b3 b3' X23
  have l24 : w2.heap.size < w4.heap.size := by omega
  go_wp2_with fail
  refine (pfDisk_yes _ _ y _ _ _ _ _ (DiskR.below bel1 (by omega) _ _ HD2d.out) (DiskR.below bel1 (Nat.le_refl _) _ _ HD4.out)).mono ?_
  obtain ⟨W4, hW4⟩ : ∃ W4, W4 = World.alloc w4 (.cells #[.slice E0 r0 g0, .slice E1 r1 g1, .bool y.2.2] 26) := ⟨_, rfl⟩
  have X4 : Below w4.heap.size w4 W4 := by rw [hW4]; exact bel1
  have z4 : W4.heap.size = w4.heap.size + 1 := by rw [hW4]; simp
  have b5 : W4.heap[w4.heap.size]? = some (.cells #[.slice E0 r0 g0, .slice E1 r1 g1, .bool y.2.2] 26 (0, 0)) := by rw [hW4]; exact heap_alloc_new _ _
  rw [← hW4]
  clear hW4
  rintro e w5 ⟨rfl, hb5⟩
  have z5 := hb5.size
  have X45 : Below w4.heap.size w4 w5 := X4.trans (hb5.mono (by omega))
  have HB5 := Lib.hid (HB4.trans (X45.mono HB4.size))
  have c2 := (X45.block _ (by omega)).trans b4'; have c3 := (X45.block _ (by omega)).trans b4''; have c4 := (hb5.block _ (by omega)).trans b5
  have l2' : w2.heap.size < w5.heap.size := by omega
  have l3' : w3.heap.size < w5.heap.size := by omega
  have l4' : w4.heap.size < w5.heap.size := by omega
  have HD2e := Lib.hid (DiskR.below X45 (by omega) _ _ HD2d.out)
  have HD3e := Lib.hid (DiskR.below X45 (by omega) _ _ HD3d.out)
  have HD4e := Lib.hid (DiskR.below X45 (by omega) _ _ HD4.out)
  have z40 : w.heap.size ≤ w5.heap.size := HB5.out.size
  have q0 := cell_of_row _ _ 0 _ _ (0, 0) c2; have q1 := cell_of_row _ _ 1 _ _ (0, 0) c2; have q2 := cell_of_row _ _ 2 _ _ (0, 0) c2
  have r0' := cell_of_row _ _ 0 _ _ (0, 0) c3; have r1' := cell_of_row _ _ 1 _ _ (0, 0) c3; have r2' := cell_of_row _ _ 2 _ _ (0, 0) c3
  have s0 := cell_of_row _ _ 0 _ _ (0, 0) c4; have s1 := cell_of_row _ _ 1 _ _ (0, 0) c4; have s2 := cell_of_row _ _ 2 _ _ (0, 0) c4
  clear hb5 X45 X4 X34 HD2d HD3d HD4 v0 v1 v2 b4' b4'' b5 c2 c3 c4 HB4
  cases ok
  · go_wp2_with fail
    refine (pfDisk_yes _ _ y _ _ _ _ _ HD2e.out HD4e.out).mono ?_
    rintro e w6 ⟨rfl, hb6⟩
    go_wp2_with fail
    go_ret
    exact ⟨rfl, HB5.out.trans (hb6.mono z40)⟩
  cases ok2
  · go_wp2_with fail
    refine (pfDisk_yes _ _ y _ _ _ _ _ HD2e.out HD4e.out).mono ?_
    rintro e w6 ⟨rfl, hb6⟩
    go_wp2_with fail
    go_ret
    exact ⟨rfl, HB5.out.trans (hb6.mono z40)⟩
  obtain ⟨k, hat, hk, -, -, hzok, hzg, -, -, hlk, -⟩ := write_facts HOK2.out.symm
  subst hat
  rw [← HZ.out] at hzok hzg hlk
  have hsl := settle_last HOK2.out.symm hk
  rw [← HZ.out] at hsl
  have HSL := Lib.hid hsl; have HZOK := Lib.hid hzok; have HZG := Lib.hid hzg; have HLK := Lib.hid hlk
  clear hsl hzok hzg hlk q0 q1 q2 s0 s1 s2
  have k0 : (0 : Int) ≤ (k : Int) := by omega
  have hfld := disk_field0
  have hself : ∀ s : ByteArray, (s.toList == s.toList) = true := fun s => by simp
  go_wp2_with fail
  refine (diskRead_yes _ z k _ _ _ HD3e.out HZOK.out HZG.out hk).mono ?_
  rw [HLK.out]
  rintro e w6 ⟨rfl, hb6⟩
  have z6 := hb6.size
  have HB6 := Lib.hid (HB5.out.trans (hb6.mono z40))
  have r0' := (hb6.cell l3').trans r0'; have r1' := (hb6.cell l3').trans r1'; have r2' := (hb6.cell l3').trans r2'
  have HD3f := Lib.hid (DiskR.below hb6 (by omega) _ _ HD3e.out)
  clear hb6
  go_wp2_with fail
  refine (diskFlush_any _ z _ _ _ HD3f.out HZOK.out).mono ?_
  rintro e w7 ⟨cs7, rfl, hN7, hb7⟩
  have hN7' := hN7
  obtain ⟨F0, f0, j0, F1, f1, j1, rfl, -⟩ := hN7'
  obtain ⟨bf, of, rfl, hkf, hqf⟩ := hN7.cellAt HSL.out
  have z7 := hb7.size
  have HB7 := Lib.hid (HB6.out.trans (hb7.mono (by omega)))
  have r0' := (hb7.cell (show w3.heap.size < w6.heap.size by omega)).trans r0'; have r1' := (hb7.cell (show w3.heap.size < w6.heap.size by omega)).trans r1'; have r2' := (hb7.cell (show w3.heap.size < w6.heap.size by omega)).trans r2'
  have HD3g := Lib.hid (DiskR.below hb7 (by omega) _ _ HD3f.out)
  have kf : (k : Int) < (f0 : Int) := by omega
  clear hb7 hN7
  go_wp2_with fail
  refine (crashAll_any _ z _ _ _ HD3g.out HZOK.out).mono ?_
  rintro e w8 ⟨cs8, rfl, hN8, hb8⟩
  have hN8' := hN8
  obtain ⟨G0, gn, gc, G1, gm, gd, rfl, -⟩ := hN8'
  obtain ⟨bg, og, rfl, hkg, hqg⟩ := hN8.cellAt HSL.out
  have HB8 := Lib.hid (HB7.out.trans (hb8.mono (by omega)))
  have kg : (k : Int) < (gn : Int) := by omega
  clear hb8 hN8
  go_wp2_with fail
  go_ret
  exact ⟨rfl, HB8.out⟩
end Go.Proofs.Ytgipchipcoaajaa
