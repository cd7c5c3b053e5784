/- FnDiskWrite: the walk. No condition. -/
import Derived.Test.YtgipchipcoaajaaDrawDisks
import Derived.Test.YtgipchipcoaajaaDiskWrite
import Derived.Test.YtgipchipcoaajaaPfDisk
import Derived.Test.YtgipchipcoaajaaLook
namespace Go.Proofs.Ytgipchipcoaajaa
set_option linter.unusedSimpArgs false
set_option linter.unnecessarySimpa false
open Go.RowKit
set_option linter.unusedVariables false
theorem lookD_same {t : List ByteArray} {ws : List WaitD} {g : Bool} {a : Int} {s : ByteArray} : lookD (t, ws ++ [(a, s)], g) a = s := by simp [lookD]
theorem lookD_other {t : List ByteArray} {ws : List WaitD} {g : Bool} {a b : Int} {s : ByteArray} (h : a ≠ b) : lookD (t, ws ++ [(a, s)], g) b = lookD (t, ws, g) b := by simp [lookD, h]
theorem DiskR.parts {w : World} {lo hi : Nat} {A0 A1 : Option Addr} {n0 c0 n1 c1 : Nat} {g : Bool} {x : DiskD} (h : DiskR w lo hi [.slice A0 n0 c0, .slice A1 n1 c1, .bool g] x) : SliceR StrR 1 w lo hi A0 n0 c0 x.1 ∧ SliceR WaitR 2 w lo hi A1 n1 c1 x.2.1 := by
  obtain ⟨_, _, _, _, _, _, e, h0, h1⟩ := h
  injection e with e0 e; injection e with e1 e
  injection e0 with a b c; injection e1 with a' b' c'
  subst a b c a' b' c'
  exact ⟨h0, h1⟩
theorem write_facts {x : DiskD} {at_ : Int} {s : ByteArray} (h : writeOk x at_ s = true) :
    ∃ k : Nat, at_ = (k : Int) ∧ k < 64 ∧ diskOk x = true ∧ x.2.2 = false ∧ diskOk (writeD x at_ s) = true ∧ (writeD x at_ s).2.2 = false ∧ (writeD x at_ s).1 = x.1 ∧ (writeD x at_ s).2.1.length = x.2.1.length + 1 ∧ lookD (writeD x at_ s) at_ = s ∧ ∀ b : Int, at_ ≠ b → lookD (writeD x at_ s) b = lookD x b := by
  obtain ⟨t, ws, g⟩ := x
  unfold writeOk at h
  obtain ⟨hd, hg⟩ := (Bool.and_eq_true _ _).mp h
  have e : writeD (t, ws, g) at_ s = (t, ws ++ [(at_, s)], g) := by unfold writeD; rw [if_pos hd, if_pos hg]
  rw [e]
  unfold writeGo at hg
  simp only [Bool.and_eq_true, Bool.not_eq_true', decide_eq_true_eq] at hg
  obtain ⟨⟨⟨rfl, hin⟩, hsz⟩, hlt⟩ := hg
  obtain ⟨k, rfl, hk⟩ := inB_nat (m := 63) hin
  refine ⟨k, rfl, by omega, hd, rfl, ?_, rfl, rfl, by simp, lookD_same, fun b hb => lookD_other hb⟩
  unfold diskOk at hd ⊢
  simp only [Bool.and_eq_true, decide_eq_true_eq, Bool.false_and, Bool.not_false, List.all_append, List.all_cons, List.all_nil, Bool.and_true, List.length_append, List.length_cons, List.length_nil] at hd ⊢
  obtain ⟨⟨⟨h1, h2⟩, h3⟩, h4⟩ := hd
  refine ⟨⟨⟨h1, by omega⟩, h3⟩, h4, ?_⟩
  simp [waitOk, hin, hsz]
set_option maxRecDepth 100000 in
set_option maxHeartbeats 2000000 in
theorem diskRead_yes (cs : List Value) (x : DiskD) (k : Nat) (w : World) (lo hi : Nat) (h : DiskR w lo hi cs x) (hok : diskOk x = true) (hg : x.2.2 = false) (hk : k < 64) :
    Calls Try.prog 18 #[.agg cs.toArray, .int .i64 (k : Int)] w fun e w' => e = .returned (.tuple #[.string (lookD x (k : Int)), .bool true]) ∧ Below w.heap.size w w' := by
  have H := Lib.hid h
  have hl : x.1.length = 64 := (diskOk_len hok).1
  have HLEN : Hid (k < x.1.length) := Lib.hid (by omega)
  obtain ⟨x0, x1, gone⟩ := x
  obtain rfl : gone = false := hg
  obtain ⟨A0, n0, c0, A1, n1, c1, rfl, h0, h1⟩ := h
  have HLE := Lib.hid h0.lo_le
  have R1 := isCell_any (k : Int)
  have hin : inB (k : Int) 0 63 = true := by simp [inB]; omega
  rw [hin] at R1
  have HOK := Lib.hid hok
  obtain ⟨sv, hsv⟩ : ∃ v, v = lookD (x0, x1, false) (k : Int) := ⟨_, rfl⟩
  rw [← hsv]
  have HSV := Lib.hid hsv
  show Calls Try.prog 18 #[.agg #[.slice A0 n0 c0, .slice A1 n1 c1, .bool false], .int .i64 (k : Int)] w _
  clear h0 h1 hin hsv hok hl
  go_enter Try.func18, Try.ntmps18
  go_wp2_with fail
  refine (diskOk_any _ (x0, x1, false) _ lo hi (DiskR.below bel1 HLE.out _ _ H.out)).mono ?_
  rw [HOK.out]
  rintro e w1 ⟨rfl, hb1⟩
  have q0 : w1.cell? ⟨w.heap.size, 0, none⟩ = some (.slice A0 n0 c0) := (hb1.cell (by simp)).trans (by simp [go_sem])
  have q1 : w1.cell? ⟨w.heap.size, 1, none⟩ = some (.slice A1 n1 c1) := (hb1.cell (by simp)).trans (by simp [go_sem])
  have q2 : w1.cell? ⟨w.heap.size, 2, none⟩ = some (.bool false) := (hb1.cell (by simp)).trans (by simp [go_sem])
  have X1 : Below w.heap.size w w1 := bel1.trans (hb1.mono (by simp))
  have X1' : Hid (Below w.heap.size w w1) := Lib.hid X1
  clear hb1
  go_wp2_with (go_at_call 54; with_reducible refine (R1 _).mono ?_; rintro e w' ⟨rfl, rfl⟩)
  refine (look_any _ (x0, x1, false) k _ lo hi (DiskR.below X1'.out HLE.out _ _ H.out) HLEN.out).mono ?_
  rw [← HSV.out]
  rintro e w2 ⟨rfl, hb2⟩
  go_wp2_with fail
  go_ret2
  exact ⟨rfl, X1.trans (hb2.mono X1.size)⟩
set_option maxRecDepth 100000 in
set_option maxHeartbeats 2000000 in
theorem fnDiskWrite_walk (A : Option Addr) (n c : Nat) (zs : List Int) (A' : Option Addr) (n' c' : Nat) (zs' : List Int) (w : World) (h : BytesIn w A n c zs) (h' : BytesIn w A' n' c' zs') :
    Calls Try.prog 5 #[.slice A n c, .slice A' n' c'] w fun e w' => e = .returned (.bool true) ∧ Below w.heap.size w w' := by
  go_enter Try.func5, Try.ntmps5
  by_cases hb : 1048576 < n
  · have h0 : (1048576 : Int) < (n : Int) := by omega
    go_wp2_with fail
    go_ret
    exact ⟨rfl, Below.refl _ _⟩
  have h0 : ¬ (1048576 : Int) < (n : Int) := by omega
  have h1 : (n : Int) ≤ 1048576 := by omega
  by_cases hb' : 1048576 < n'
  · have h0 : (1048576 : Int) < (n' : Int) := by omega
    go_wp2_with fail
    go_ret
    exact ⟨rfl, Below.refl _ _⟩
  have h0' : ¬ (1048576 : Int) < (n' : Int) := by omega
  have h1' : (n' : Int) ≤ 1048576 := by omega
  go_wp2_with fail
  refine (drawDiskWrite_any A n c zs _ h).mono ?_
  rintro e w1 ⟨cs, x, at_, s, rfl, hD, hl1, hl2, hs, hb1⟩
  have HD1 := Lib.hid hD
  obtain ⟨A0, n0, c0, A1, n1, c1, rfl, -, -⟩ := hD
  have HB1 : Below w.heap.size w (World.alloc w1 (.cells #[.slice A0 n0 c0, .slice A1 n1 c1, .bool x.2.2] 26)) := Below.alloc hb1 (by exact hb1.size) _
  have hms : s.size ≤ maxLen := by unfold maxLen; omega
  go_wp2_with fail
  refine (diskWrite_any _ x at_ s _ w.heap.size w1.heap.size (DiskR.below bel1 (Nat.le_refl _) _ _ HD1.out) hms).mono ?_
  obtain ⟨ok, hok⟩ : ∃ b, b = writeOk x at_ s := ⟨_, rfl⟩
  rw [← hok]
  have HOK := Lib.hid hok; clear hok
  rintro e w2 ⟨cs2, rfl, hN2, hb2⟩
  have HD2 := Lib.hid hN2.r
  have hD2 := hN2.r
  obtain ⟨B0, m0, d0, B1, m1, d1, rfl, -, -⟩ := hD2
  have HB2 := HB1.trans (hb2.mono HB1.size)
  have l1 : w1.heap.size < w2.heap.size := by have := hb2.size; simp at this; omega
  have b2 : w2.heap[w1.heap.size]? = some (.cells #[.slice A0 n0 c0, .slice A1 n1 c1, .bool x.2.2] 26 (0, 0)) := (hb2.block _ (by simp)).trans (heap_alloc_new _ _)
  have HD1b := Lib.hid (DiskR.below (bel1.trans (hb2.mono (by simp))) (Nat.le_refl _) _ _ HD1.out)
  have u0 := cell_of_row _ _ 0 _ _ (0, 0) b2; have u1 := cell_of_row _ _ 1 _ _ (0, 0) b2; have u2 := cell_of_row _ _ 2 _ _ (0, 0) b2
  clear hb2 HD1 hN2
  go_wp2_with fail
  refine (spDiskWrite_any _ x at_ s _ w.heap.size w1.heap.size (DiskR.below bel1 (Nat.le_of_lt l1) _ _ HD1b.out) hms).mono ?_
  rw [← HOK.out]
  rintro e w3 ⟨cs3, rfl, hN3, hb3⟩
  have HD3 := Lib.hid hN3.r
  have hD3 := hN3.r
  obtain ⟨C0, p0, e0, C1, p1, e1, rfl, -, -⟩ := hD3
  have HB2' : Below w.heap.size w (World.alloc w2 (.cells #[.slice B0 m0 d0, .slice B1 m1 d1, .bool (writeD x at_ s).2.2] 26)) := Below.alloc HB2 (by exact HB2.size) _
  have HB3 := HB2'.trans (hb3.mono HB2'.size)
  have l2 : w2.heap.size < w3.heap.size := by have := hb3.size; simp at this; omega
  have X23 : Below w2.heap.size w2 w3 := bel1.trans (hb3.mono (by simp))
  have b3 : w3.heap[w1.heap.size]? = some (.cells #[.slice A0 n0 c0, .slice A1 n1 c1, .bool x.2.2] 26 (0, 0)) := (X23.block _ l1).trans b2
  have b3' : w3.heap[w2.heap.size]? = some (.cells #[.slice B0 m0 d0, .slice B1 m1 d1, .bool (writeD x at_ s).2.2] 26 (0, 0)) := (hb3.block _ (by simp)).trans (heap_alloc_new _ _)
  have HD1c := Lib.hid (DiskR.below X23 (Nat.le_of_lt l1) _ _ HD1b.out)
  have HD2c := Lib.hid (DiskR.below X23 (Nat.le_refl _) _ _ HD2.out)
  have u0 := cell_of_row _ _ 0 _ _ (0, 0) b3; have u1 := cell_of_row _ _ 1 _ _ (0, 0) b3; have u2 := cell_of_row _ _ 2 _ _ (0, 0) b3
  have v0 := cell_of_row _ _ 0 _ _ (0, 0) b3'; have v1 := cell_of_row _ _ 1 _ _ (0, 0) b3'; have v2 := cell_of_row _ _ 2 _ _ (0, 0) b3'
  clear hb3 hN3 b2 HD1b HD2 HB2 HB2' HB1 hb1
  go_wp2_with fail
  refine (pfDisk_yes _ _ (writeD x at_ s) _ _ _ _ _ (DiskR.below bel1 (Nat.le_of_lt l2) _ _ HD2c.out) (DiskR.below bel1 (Nat.le_refl _) _ _ HD3.out)).mono ?_
  rintro e w4 ⟨rfl, hb4⟩
  have X34 : Below w3.heap.size w3 w4 := bel1.trans (hb4.mono (by simp))
  have HB4 := HB3.trans (X34.mono HB3.size)
  have l3 : w3.heap.size ≤ w4.heap.size := X34.size
  have b4 := (X34.block _ (by omega)).trans b3
  have b4' := (X34.block _ l2).trans b3'
  have HD1d := Lib.hid (DiskR.below X34 (by omega) _ _ HD1c.out)
  have HD2d := Lib.hid (DiskR.below X34 (Nat.le_of_lt l2) _ _ HD2c.out)
  clear hb4 X34 X23 HD3 HD1c HD2c u0 u1 u2 v0 v1 v2 b3 b3' HB3
  cases ok
  · go_wp2_with fail
    go_ret
    exact ⟨rfl, HB4⟩
  · obtain ⟨k, hat, hk, hok1, hg1, hok2, hg2, hf, hlen, hlk, hot⟩ := write_facts HOK.out.symm
    subst hat
    have HOK1 := Lib.hid hok1; have HG1 := Lib.hid hg1; have HOK2 := Lib.hid hok2; have HG2 := Lib.hid hg2; have HLK := Lib.hid hlk; have HOT := Lib.hid hot; have HF := Lib.hid hf
    obtain ⟨hA0, hA1⟩ := DiskR.parts HD1d.out
    obtain ⟨hB0, hB1⟩ := DiskR.parts HD2d.out
    have hm1 : m1 = n1 + 1 := by have := hA1.len; have := hB1.len; omega
    subst hm1
    have hnm := hB1.max
    have HA0 := Lib.hid hA0; have HB0 := Lib.hid hB0
    clear hA0 hA1 hB0 hB1 hok1 hg1 hok2 hg2 hf hlen hlk hot
    obtain ⟨m, hm, hmr⟩ : ∃ m : Nat, m < 64 ∧ Int.tmod (n' : Int) 64 = (m : Int) := ⟨n' % 64, Nat.mod_lt _ (by omega), rfl⟩
    have mm0 : (0 : Int) ≤ (m : Int) := by omega
    have mm1 : (m : Int) < 64 := by omega
    have l1 : w1.heap.size < w4.heap.size := (Array.getElem?_eq_some_iff.1 b4).1
    have l2' : w2.heap.size < w4.heap.size := (Array.getElem?_eq_some_iff.1 b4').1
    have c0 := cell_of_row _ _ 0 _ _ (0, 0) b4; have c1 := cell_of_row _ _ 1 _ _ (0, 0) b4; have c2 := cell_of_row _ _ 2 _ _ (0, 0) b4
    have d0' := cell_of_row _ _ 0 _ _ (0, 0) b4'; have d1' := cell_of_row _ _ 1 _ _ (0, 0) b4'; have d2' := cell_of_row _ _ 2 _ _ (0, 0) b4'
    have HD2w := Lib.hid HD2d.out
    have B4 := Lib.hid b4; have B4' := Lib.hid b4'
    clear b4 b4'
    go_wp2_with fail
    refine (diskRead_yes _ (writeD x (k : Int) s) k _ _ _ HD2w.out HOK2.out HG2.out hk).mono ?_
    rw [HLK.out]
    rintro e w5 ⟨rfl, hb5⟩
    have z4 := HB4.size
    have HB5 := Lib.hid (HB4.trans (hb5.mono HB4.size))
    have l5 := hb5.size
    have c0 := (hb5.cell l1).trans c0; have c1 := (hb5.cell l1).trans c1; have c2 := (hb5.cell l1).trans c2
    have d0' := (hb5.cell l2').trans d0'; have d1' := (hb5.cell l2').trans d1'; have d2' := (hb5.cell l2').trans d2'
    have X45 := Lib.hid hb5
    clear hb5 HB4
    go_wp2_with fail
    refine (diskRead_yes _ (writeD x (k : Int) s) m _ _ _ (DiskR.below X45.out (Nat.le_of_lt l2') _ _ HD2w.out) HOK2.out HG2.out hm).mono ?_
    obtain ⟨lm, hlm⟩ : ∃ v, v = lookD (writeD x (k : Int) s) (m : Int) := ⟨_, rfl⟩
    rw [← hlm]
    have HLM := Lib.hid hlm; clear hlm
    rintro e w6 ⟨rfl, hb6⟩
    have l6 := hb6.size
    have hb6 := hb6.mono l5
    have HB6 := Lib.hid (HB5.out.trans (hb6.mono (by omega)))
    have c0 := (hb6.cell l1).trans c0; have c1 := (hb6.cell l1).trans c1; have c2 := (hb6.cell l1).trans c2
    have d0' := (hb6.cell l2').trans d0'; have d1' := (hb6.cell l2').trans d1'; have d2' := (hb6.cell l2').trans d2'
    have X46 := Lib.hid (X45.out.trans hb6)
    clear hb6
    go_wp2_with fail
    refine (diskRead_yes _ x m _ _ _ (DiskR.below X46.out (by omega) _ _ HD1d.out) HOK1.out HG1.out hm).mono ?_
    obtain ⟨lx, hlx⟩ : ∃ v, v = lookD x (m : Int) := ⟨_, rfl⟩
    rw [← hlx]
    have HLX := Lib.hid hlx; clear hlx
    rintro e w7 ⟨rfl, hb7⟩
    have l7 := hb7.size
    have hb7 := hb7.mono (show w4.heap.size ≤ w6.heap.size by omega)
    have HB7 := Lib.hid (HB6.out.trans (hb7.mono (by omega)))
    have c0 := (hb7.cell l1).trans c0; have c1 := (hb7.cell l1).trans c1; have c2 := (hb7.cell l1).trans c2
    have d0' := (hb7.cell l2').trans d0'; have d1' := (hb7.cell l2').trans d1'; have d2' := (hb7.cell l2').trans d2'
    have X47 := Lib.hid (X46.out.trans hb7)
    clear hb7
    have l1z : w1.heap.size < w7.heap.size := by omega
    have l2z : w2.heap.size < w7.heap.size := by omega
    have hself : ∀ s : ByteArray, (s.toList == s.toList) = true := fun s => by simp
    have hp0 : (0 : Int) ≤ (n1 : Int) := by omega
    have hp1 : (n1 : Int) ≤ 9223372036854775806 := by omega
    have HT0 := Lib.hid (HB0.out.below X47.out (StrR.below X47.out (Nat.le_of_lt l2')))
    have HT1 := Lib.hid (HA0.out.below X47.out (StrR.below X47.out (by omega)))
    rw [HF.out] at HT0
    by_cases hx : (m : Int) = (k : Int)
    · have hxb : ((m : Int) == (k : Int)) = true := by simp [hx]
      have HX := Lib.hid hx; clear hx
      go_wp2_with fail
      refine (pfTexts_yes _ _ _ _ _ _ x.1 _ _ _ _ _ HT0.out HT1.out).mono ?_
      rintro e w8 ⟨rfl, hb8⟩
      have c1 := (hb8.cell l1z).trans c1
      have d1' := (hb8.cell l2z).trans d1'
      have HB8 := HB7.out.trans (hb8.mono (by omega))
      clear hb8
      go_wp2_with fail
      go_ret
      exact ⟨rfl, HB8⟩
    · have hxb : ((m : Int) == (k : Int)) = false := by simp [hx]
      obtain rfl : lm = lx := by rw [HLM.out, HLX.out]; exact HOT.out _ (fun e => hx e.symm)
      go_wp2_with fail
      refine (pfTexts_yes _ _ _ _ _ _ x.1 _ _ _ _ _ HT0.out HT1.out).mono ?_
      rintro e w8 ⟨rfl, hb8⟩
      have c1 := (hb8.cell l1z).trans c1
      have d1' := (hb8.cell l2z).trans d1'
      have HB8 := HB7.out.trans (hb8.mono (by omega))
      clear hb8
      go_wp2_with fail
      go_ret
      exact ⟨rfl, HB8⟩
end Go.Proofs.Ytgipchipcoaajaa
