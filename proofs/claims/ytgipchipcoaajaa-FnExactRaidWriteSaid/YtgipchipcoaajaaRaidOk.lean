/- RaidOk of the program and of the reference. No condition. -/
import Derived.Test.YtgipchipcoaajaaDiskOk
namespace Go.Proofs.Ytgipchipcoaajaa
set_option linter.unusedVariables false
set_option linter.unusedSimpArgs false
set_option linter.unnecessarySimpa false
open Go.RowKit
def raidOk (xs : RaidD) : Bool := decide (xs.length = 3) && xs.all diskOk
set_option maxRecDepth 100000 in
set_option maxHeartbeats 1000000 in
theorem diskBad_any (cs : List Value) (x : DiskD) (w : World) (lo hi : Nat) (h : DiskR w lo hi cs x) :
    Calls Try.prog 101 #[.agg cs.toArray] w fun e w' => e = .returned (.bool (!diskOk x)) ∧ Below w.heap.size w w' := by
  have H := Lib.hid h
  obtain ⟨A0, n0, c0, A1, n1, c1, rfl, h0, h1⟩ := h
  have HLE := Lib.hid h0.lo_le
  obtain ⟨gone, hgone⟩ : ∃ g, g = x.2.2 := ⟨_, rfl⟩
  rw [← hgone] at H ⊢; clear hgone h0 h1
  show Calls Try.prog 101 #[.agg #[.slice A0 n0 c0, .slice A1 n1 c1, .bool gone]] w _
  go_enter Try.func101, Try.ntmps101
  go_wp2_with fail
  refine (diskOk_any _ x _ lo hi (DiskR.below bel1 HLE.out _ _ H.out)).mono ?_
  rintro e w1 ⟨rfl, hb1⟩
  go_wp2_with fail
  go_ret
  exact ⟨rfl, bel1.trans (hb1.mono (by simp))⟩
set_option maxRecDepth 100000 in
set_option maxHeartbeats 2000000 in
theorem indexDisk_any (A : Option Addr) (n c : Nat) (xs : List DiskD) (w : World) (lo hi : Nat) (h : SliceR DiskR 3 w lo hi A n c xs) :
    Calls Try.prog 133 #[.slice A n c, .func (.func 101) #[] #[]] w (IdxB (!xs.all diskOk) w) := by
  have hn := h.max
  have HL := Lib.hid h.len
  have H := Lib.hid h; clear h
  go_enter Try.func133, Try.ntmps133
  go_wp2_with fail
  go_loopw [8] (fun s wr => ∃ k : Nat, k ≤ n ∧ s = .int .i64 k ∧ Hid (∀ j x, j < k → xs[j]? = some x → diskOk x = true) ∧ Hid (Below w.heap.size w wr)) (fun s _ => n - (intOf s).toNat)
  case atStart => exact ⟨0, Nat.zero_le _, rfl, Lib.hid (fun j x hj => absurd hj (by omega)), Lib.hid (Below.refl _ _)⟩
  case round =>
    obtain ⟨k, hk, rfl, HP, HB⟩ := hrel
    by_cases hlt : k < n
    · obtain ⟨x, hx⟩ : ∃ x, xs[k]? = some x := ⟨xs[k]'(by rw [HL.out]; exact hlt), List.getElem?_eq_getElem _⟩
      obtain ⟨b, off, rfl, _, _, bl, hc⟩ := (SliceR.below H.out HB.out (DiskR.below HB.out H.out.lo_le)).at_ (by omega)
      obtain ⟨cs, hcl, hcc, hr⟩ := hc k x hx
      clear hc
      have R := diskBad_any cs x wr _ _ hr
      obtain ⟨gone, hgone⟩ : ∃ g, g = x.2.2 := ⟨_, rfl⟩
      obtain ⟨A0, n0, c0, A1, n1, c1, rfl, h0, h1⟩ := hr
      rw [← hgone] at R hcc
      have q0 := hcc 0 _ rfl
      have q1 := hcc 1 _ rfl
      have q2 := hcc 2 _ rfl
      simp only [Nat.add_zero] at q0
      clear hcc hcl h0 h1 hgone
      have HX := Lib.hid hx; clear hx
      have k0 : (0 : Int) ≤ (k : Int) := by omega
      have k1 : (k : Int) < (n : Int) := by omega
      cases e1 : diskOk x
      · have HF := Lib.hid (show (!xs.all diskOk) = true by rw [all_no HX.out e1]; rfl)
        rw [e1] at R
        have HR := Lib.hid R; clear R e1
        go_wp2_with fail
        refine HR.out.mono ?_
        rintro e w2 ⟨rfl, hb2⟩
        have HB2 : Hid (Below w.heap.size w w2) := Lib.hid (HB.out.trans (hb2.mono HB.out.size))
        clear hb2
        go_wp2_with fail
        go_ret
        exact ⟨k, rfl, by rw [HF.out]; simp, HB2.out⟩
      · have HF := Lib.hid (upto_step HP.out HX.out e1)
        rw [e1] at R
        have HR := Lib.hid R; clear R e1
        go_wp2_with fail
        refine HR.out.mono ?_
        rintro e w2 ⟨rfl, hb2⟩
        have HB2 : Hid (Below w.heap.size w w2) := Lib.hid (HB.out.trans (hb2.mono HB.out.size))
        clear hb2
        go_wp2_with fail
        go_roundw
        case rel => exact ⟨k + 1, by omega, by go_num, HF, HB2⟩
        case measure => simp [intOf]; omega
    · obtain rfl : k = n := by omega
      have HF := Lib.hid (show (!xs.all diskOk) = false by rw [all_upto HL.out HP.out]; rfl)
      go_wp2_with fail
      go_ret
      exact ⟨-1, rfl, by rw [HF.out]; rfl, HB.out⟩
set_option maxRecDepth 100000 in
set_option maxHeartbeats 1000000 in
theorem containsDisk_any (A : Option Addr) (n c : Nat) (xs : List DiskD) (w : World) (lo hi : Nat) (h : SliceR DiskR 3 w lo hi A n c xs) :
    Calls Try.prog 100 #[.slice A n c, .func (.func 101) #[] #[]] w fun e w' => e = .returned (.bool (!xs.all diskOk)) ∧ Below w.heap.size w w' := by
  have R := Lib.hid (indexDisk_any A n c xs w lo hi h)
  clear h
  go_enter Try.func100, Try.ntmps100
  go_wp2_with fail
  refine R.out.mono ?_
  rintro e w1 ⟨r, rfl, hr, hb⟩
  have HR := Lib.hid hr; clear hr
  go_wp2_with fail
  go_ret
  exact ⟨ret_bool HR.out, hb⟩
set_option maxRecDepth 100000 in
set_option maxHeartbeats 2000000 in
theorem raidOk_any (cs : List Value) (x : RaidD) (w : World) (lo hi : Nat) (h : RaidR w lo hi cs x) :
    Calls Try.prog 45 #[.agg cs.toArray] w fun e w' => e = .returned (.bool (raidOk x)) ∧ Below w.heap.size w w' := by
  obtain ⟨A, n, c, rfl, h0⟩ := h
  have HRES : Hid (raidOk x = (decide (n = 3) && x.all diskOk)) := Lib.hid (by unfold raidOk; rw [h0.len])
  generalize raidOk x = res at *
  have hm := h0.max
  have H0 := Lib.hid h0; clear h0
  show Calls Try.prog 45 #[.agg #[.slice A n c]] w _
  by_cases t0 : n = 3
  rotate_left
  · have e1 : ((n : Int) == 3) = false := by rw [beq_eq_false_iff_ne]; omega
    have HF := Lib.hid (show res = false by rw [HRES.out, decide_eq_false t0]; rfl)
    clear t0
    go_enter Try.func45, Try.ntmps45
    go_wp2_with fail
    go_ret
    exact ⟨ret_bool HF.out.symm, bel1⟩
  subst t0
  go_enter Try.func45, Try.ntmps45
  go_wp2_with fail
  refine (containsDisk_any A 3 c x _ lo hi (SliceR.below H0.out bel1 (DiskR.below bel1 H0.out.lo_le))).mono ?_
  rintro e w1 ⟨rfl, hb1⟩
  have X1 : Below w.heap.size w w1 := bel1.trans (hb1.mono (by simp))
  clear hb1
  have HF := Lib.hid (show res = x.all diskOk by rw [HRES.out]; simp)
  generalize x.all diskOk = b at *
  go_wp2_with fail
  go_ret
  exact ⟨ret_bool (by rw [HF.out] <;> simp), X1⟩
set_option maxRecDepth 100000 in
set_option maxHeartbeats 2000000 in
theorem spRaidOk_any (cs : List Value) (x : RaidD) (w : World) (lo hi : Nat) (h : RaidR w lo hi cs x) :
    Calls Try.prog 97 #[.agg cs.toArray] w fun e w' => e = .returned (.bool (raidOk x)) ∧ Below w.heap.size w w' := by
  obtain ⟨A, n, c, rfl, h0⟩ := h
  have HRES : Hid (raidOk x = (decide (n = 3) && x.all diskOk)) := Lib.hid (by unfold raidOk; rw [h0.len])
  generalize raidOk x = res at *
  have hm := h0.max
  have HL := Lib.hid h0.len
  have H := Lib.hid h0; clear h0
  show Calls Try.prog 97 #[.agg #[.slice A n c]] w _
  go_enter Try.func97, Try.ntmps97
  go_wp2_with fail
  obtain ⟨w1, hW⟩ : ∃ w1, w1 = w.alloc (.cells #[.slice A n c] 61) := ⟨_, rfl⟩
  have X1 : Below w.heap.size w w1 := by rw [hW]; exact bel1
  have q : w1.cell? ⟨w.heap.size, 0, none⟩ = some (.slice A n c) := by rw [hW]; simp [go_sem]
  have lq : w.heap.size < w1.heap.size := by rw [hW]; simp
  rw [← hW]; clear hW
  have HX1 := Lib.hid X1; have HQ := Lib.hid q
  clear X1 q
  go_loopw [3] (fun s wr => ∃ k : Nat, k ≤ n ∧ s = .int .i64 k ∧ Hid (∀ j x_1, j < k → x[j]? = some x_1 → diskOk x_1 = true) ∧ Hid (Below w1.heap.size w1 wr)) (fun s _ => n - (intOf s).toNat)
  case atStart => exact ⟨0, Nat.zero_le _, rfl, Lib.hid (fun j x hj => absurd hj (by omega)), Lib.hid (Below.refl _ _)⟩
  case round =>
    obtain ⟨k, hk, rfl, HP, HBr⟩ := hrel
    have HB : Hid (Below w.heap.size w wr) := Lib.hid (HX1.out.trans (HBr.out.mono HX1.out.size))
    have qr : wr.cell? ⟨w.heap.size, 0, none⟩ = some (.slice A n c) := (HBr.out.cell lq).trans HQ.out
    by_cases hlt : k < n
    · obtain ⟨d, hx⟩ : ∃ d, x[k]? = some d := ⟨x[k]'(by rw [HL.out]; exact hlt), List.getElem?_eq_getElem _⟩
      obtain ⟨b, off, rfl, _, _, bl, hc⟩ := (SliceR.below H.out HB.out (DiskR.below HB.out H.out.lo_le)).at_ (by omega)
      obtain ⟨cs, hcl, hcc, hr⟩ := hc k d hx
      clear hc
      have R := spDiskOk_any cs d wr _ _ hr
      obtain ⟨gone, hgone⟩ : ∃ g, g = d.2.2 := ⟨_, rfl⟩
      obtain ⟨A0, n0, c0, A1, n1, c1, rfl, h0, h1⟩ := hr
      rw [← hgone] at R hcc
      have q0 := hcc 0 _ rfl
      have q1 := hcc 1 _ rfl
      have q2 := hcc 2 _ rfl
      simp only [Nat.add_zero] at q0
      clear hcc hcl h0 h1 hgone
      have HX := Lib.hid hx; clear hx
      have k0 : (0 : Int) ≤ (k : Int) := by omega
      have k1 : (k : Int) < (n : Int) := by omega
      cases e1 : diskOk d
      · have HF := Lib.hid (show res = false by rw [HRES.out, all_no HX.out e1]; simp)
        rw [e1] at R
        have HR := Lib.hid R; clear R e1
        go_wp2_with fail
        refine HR.out.mono ?_
        rintro e w2 ⟨rfl, hb2⟩
        have HB2 : Hid (Below w.heap.size w w2) := Lib.hid (HB.out.trans (hb2.mono HB.out.size))
        clear hb2
        go_wp2_with fail
        go_ret
        exact ⟨ret_bool HF.out.symm, HB2.out⟩
      · have HF := Lib.hid (upto_step HP.out HX.out e1)
        rw [e1] at R
        have HR := Lib.hid R; clear R e1
        go_wp2_with fail
        refine HR.out.mono ?_
        rintro e w2 ⟨rfl, hb2⟩
        have HB2 : Hid (Below w1.heap.size w1 w2) := Lib.hid (HBr.out.trans (hb2.mono HBr.out.size))
        clear hb2
        go_wp2_with fail
        go_roundw
        case rel => exact ⟨k + 1, by omega, by go_num, HF, HB2⟩
        case measure => simp [intOf]; omega
    · obtain rfl : k = n := by omega
      have HA := Lib.hid (show x.all diskOk = true from all_upto HL.out HP.out)
      by_cases t0 : k = 3
      · have HF := Lib.hid (show res = true by rw [HRES.out, HA.out, decide_eq_true t0]; rfl)
        have e1 : ((k : Int) == 3) = true := by rw [beq_iff_eq]; omega
        clear t0
        go_wp2_with fail
        go_ret
        exact ⟨ret_bool HF.out.symm, HB.out⟩
      · have HF := Lib.hid (show res = false by rw [HRES.out, decide_eq_false t0]; rfl)
        have e1 : ((k : Int) == 3) = false := by rw [beq_eq_false_iff_ne]; omega
        clear t0
        go_wp2_with fail
        go_ret
        exact ⟨ret_bool HF.out.symm, HB.out⟩
end Go.Proofs.Ytgipchipcoaajaa
