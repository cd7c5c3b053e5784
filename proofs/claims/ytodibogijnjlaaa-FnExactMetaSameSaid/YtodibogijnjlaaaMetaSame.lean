/- MetaSame, the program's. No condition. -/
import Derived.Test.YtodibogijnjlaaaSameFam
namespace Go.Proofs.Ytodibogijnjlaaa
set_option linter.unusedVariables false
set_option linter.unusedSimpArgs false
set_option linter.unnecessarySimpa false
open Go.RowKit

set_option maxRecDepth 100000 in
set_option maxHeartbeats 8000000 in
theorem equalFuncHead_any (A B : Option Addr) (n c m d : Nat) (xs ys : List HeadD) (w : World) (lo hi lo' hi' : Nat) (h : SliceR HeadR 11 w lo hi A n c xs) (h' : SliceR HeadR 11 w lo' hi' B m d ys) :
    Calls Try.prog 77 #[.slice A n c, .slice B m d, .func (.func 78) #[] #[]] w fun e w' => e = .returned (.bool (same xs ys)) ∧ Below w.heap.size w w' := by
  have hn := h.max; have hm := h'.max; have HL := Lib.hid h.len; have HL' := Lib.hid h'.len; have H := Lib.hid h; have H' := Lib.hid h'; clear h h'
  by_cases hnm : n = m
  · subst hnm
    go_enter Try.func77, Try.ntmps77
    go_wp2_with fail
    go_loopw [7, 8, 9, 17] (fun _ _ _ s wr => ∃ k : Nat, k ≤ n ∧ s = .int .i64 k ∧ Hid (∀ j, j < k → xs[j]? = ys[j]?) ∧ Below w.heap.size w wr) (fun _ _ _ s _ => n - (intOf s).toNat)
    case atStart => exact ⟨0, Nat.zero_le _, rfl, Lib.hid (fun j hj => absurd hj (by omega)), Below.refl _ _⟩
    case round =>
      obtain ⟨k, hk, rfl, HP, hB⟩ := hrel
      by_cases hlt : k < n
      · obtain ⟨x, hx⟩ : ∃ x, xs[k]? = some x := ⟨xs[k]'(by rw [HL.out]; exact hlt), List.getElem?_eq_getElem _⟩
        obtain ⟨z, hz⟩ : ∃ z, ys[k]? = some z := ⟨ys[k]'(by rw [HL'.out]; exact hlt), List.getElem?_eq_getElem _⟩
        obtain ⟨b, off, rfl, _, _, bl, hc⟩ := (SliceR.below H.out hB (HeadR.below hB H.out.lo_le)).at_ (by omega)
        obtain ⟨b', off', rfl, _, _, bl', hc'⟩ := (SliceR.below H'.out hB (HeadR.below hB H'.out.lo_le)).at_ (by omega)
        obtain ⟨cs, hcl, hcc, hr⟩ := hc k x hx
        obtain ⟨cs', hcl', hcc', hr'⟩ := hc' k z hz
        clear hc hc'
        have hstep := same_step HP.out hx hz
        have hno := same_no hx hz
        obtain ⟨xname_, xprev_, ⟨⟨xtree_root_at_, xtree_root_birth_, xtree_root_size_, xtree_root_sum_, xtree_root_level_⟩, xtree_depth_, xtree_many_⟩, xdead_, xquota_⟩ := x
        obtain ⟨zname_, zprev_, ⟨⟨ztree_root_at_, ztree_root_birth_, ztree_root_size_, ztree_root_sum_, ztree_root_level_⟩, ztree_depth_, ztree_many_⟩, zdead_, zquota_⟩ := z
        have g1 := hr; have g2 := hr'
        obtain ⟨Aa0, na0, ca0, rfl, ha0, ha1⟩ := g1
        obtain ⟨Ab0, nb0, cb0, rfl, hb0, hb1⟩ := g2
        have G := Lib.hid hr; have G' := Lib.hid hr'
        have q0 := hcc 0 _ rfl
        have r0 := hcc' 0 _ rfl
        have q1 := hcc 1 _ rfl
        have r1 := hcc' 1 _ rfl
        have q2 := hcc 2 _ rfl
        have r2 := hcc' 2 _ rfl
        have q3 := hcc 3 _ rfl
        have r3 := hcc' 3 _ rfl
        have q4 := hcc 4 _ rfl
        have r4 := hcc' 4 _ rfl
        have q5 := hcc 5 _ rfl
        have r5 := hcc' 5 _ rfl
        have q6 := hcc 6 _ rfl
        have r6 := hcc' 6 _ rfl
        have q7 := hcc 7 _ rfl
        have r7 := hcc' 7 _ rfl
        have q8 := hcc 8 _ rfl
        have r8 := hcc' 8 _ rfl
        have q9 := hcc 9 _ rfl
        have r9 := hcc' 9 _ rfl
        have q10 := hcc 10 _ rfl
        have r10 := hcc' 10 _ rfl
        simp only [Nat.add_zero] at q0 r0
        clear hcc hcc' hcl hcl' hx hz HP hr hr' ha0 ha1 hb0 hb1
        have HST := Lib.hid hstep
        have HNO := Lib.hid hno
        clear hstep hno
        have i1 : hi ≤ wr.heap.size := Nat.le_trans H.out.lo_le hB.size
        have i2 : hi' ≤ wr.heap.size := Nat.le_trans H'.out.lo_le hB.size
        have k0 : (0 : Int) ≤ (k : Int) := by omega
        have k1 : (k : Int) < (n : Int) := by omega
        go_wp2_with fail
        refine (sameHead_any _ _ _ _ _ _ _ _ _ (HeadR.below bel2 i1 _ _ G.out) (HeadR.below bel2 i2 _ _ G'.out)).mono ?_
        generalize hq : eqD (xname_, xprev_, ((xtree_root_at_, xtree_root_birth_, xtree_root_size_, xtree_root_sum_, xtree_root_level_), xtree_depth_, xtree_many_), xdead_, xquota_) (zname_, zprev_, ((ztree_root_at_, ztree_root_birth_, ztree_root_size_, ztree_root_sum_, ztree_root_level_), ztree_depth_, ztree_many_), zdead_, zquota_) = bq
        rintro e w2 ⟨rfl, hb2⟩
        have hB2 : Below w.heap.size w w2 := hB.trans ((bel2.trans (hb2.mono (by simp <;> omega))).mono hB.size)
        clear hb2 q0 r0 q1 r1 q2 r2 q3 r3 q4 r4 q5 r5 q6 r6 q7 r7 q8 r8 q9 r9 q10 r10
        cases bq
        · have HF := Lib.hid (HNO.out (by intro hh; rw [eqD_yes hh] at hq; cases hq)); clear hq HST HNO
          go_wp2_with fail
          go_ret
          exact ⟨ret_bool HF.out.symm, hB2⟩
        · have HS2 := Lib.hid (HST.out (eqD_iff.1 hq)); clear hq HST HNO
          go_wp2_with fail
          go_roundw
          case rel => exact ⟨k + 1, by omega, by go_num, HS2, hB2⟩
          case measure => simp [intOf]; omega
      · obtain rfl : k = n := by omega
        have hf := Lib.hid (same_all HP.out HL.out HL'.out)
        go_wp2_with fail
        go_ret
        exact ⟨ret_bool hf.out.symm, hB⟩
  · have e2 : ((n : Int) != m) = true := by simp; omega
    have hf := Lib.hid (same_len (xs := xs) (ys := ys) (by rw [HL.out, HL'.out]; exact hnm))
    clear hnm
    go_enter Try.func77, Try.ntmps77
    go_wp2_with fail
    go_ret
    exact ⟨ret_bool hf.out.symm, Below.refl _ _⟩

set_option maxRecDepth 100000 in
set_option maxHeartbeats 8000000 in
theorem equalFuncSnap_any (A B : Option Addr) (n c m d : Nat) (xs ys : List SnapD) (w : World) (lo hi lo' hi' : Nat) (h : SliceR SnapR 12 w lo hi A n c xs) (h' : SliceR SnapR 12 w lo' hi' B m d ys) :
    Calls Try.prog 79 #[.slice A n c, .slice B m d, .func (.func 80) #[] #[]] w fun e w' => e = .returned (.bool (same xs ys)) ∧ Below w.heap.size w w' := by
  have hn := h.max; have hm := h'.max; have HL := Lib.hid h.len; have HL' := Lib.hid h'.len; have H := Lib.hid h; have H' := Lib.hid h'; clear h h'
  by_cases hnm : n = m
  · subst hnm
    go_enter Try.func79, Try.ntmps79
    go_wp2_with fail
    go_loopw [7, 8, 9, 17] (fun _ _ _ s wr => ∃ k : Nat, k ≤ n ∧ s = .int .i64 k ∧ Hid (∀ j, j < k → xs[j]? = ys[j]?) ∧ Below w.heap.size w wr) (fun _ _ _ s _ => n - (intOf s).toNat)
    case atStart => exact ⟨0, Nat.zero_le _, rfl, Lib.hid (fun j hj => absurd hj (by omega)), Below.refl _ _⟩
    case round =>
      obtain ⟨k, hk, rfl, HP, hB⟩ := hrel
      by_cases hlt : k < n
      · obtain ⟨x, hx⟩ : ∃ x, xs[k]? = some x := ⟨xs[k]'(by rw [HL.out]; exact hlt), List.getElem?_eq_getElem _⟩
        obtain ⟨z, hz⟩ : ∃ z, ys[k]? = some z := ⟨ys[k]'(by rw [HL'.out]; exact hlt), List.getElem?_eq_getElem _⟩
        obtain ⟨b, off, rfl, _, _, bl, hc⟩ := (SliceR.below H.out hB (SnapR.below hB H.out.lo_le)).at_ (by omega)
        obtain ⟨b', off', rfl, _, _, bl', hc'⟩ := (SliceR.below H'.out hB (SnapR.below hB H'.out.lo_le)).at_ (by omega)
        obtain ⟨cs, hcl, hcc, hr⟩ := hc k x hx
        obtain ⟨cs', hcl', hcc', hr'⟩ := hc' k z hz
        clear hc hc'
        have hstep := same_step HP.out hx hz
        have hno := same_no hx hz
        obtain ⟨xid_, xname_, xtxg_, xprev_, ⟨⟨xtree_root_at_, xtree_root_birth_, xtree_root_size_, xtree_root_sum_, xtree_root_level_⟩, xtree_depth_, xtree_many_⟩, xdead_⟩ := x
        obtain ⟨zid_, zname_, ztxg_, zprev_, ⟨⟨ztree_root_at_, ztree_root_birth_, ztree_root_size_, ztree_root_sum_, ztree_root_level_⟩, ztree_depth_, ztree_many_⟩, zdead_⟩ := z
        have g1 := hr; have g2 := hr'
        obtain ⟨Aa0, na0, ca0, rfl, ha0, ha1⟩ := g1
        obtain ⟨Ab0, nb0, cb0, rfl, hb0, hb1⟩ := g2
        have G := Lib.hid hr; have G' := Lib.hid hr'
        have q0 := hcc 0 _ rfl
        have r0 := hcc' 0 _ rfl
        have q1 := hcc 1 _ rfl
        have r1 := hcc' 1 _ rfl
        have q2 := hcc 2 _ rfl
        have r2 := hcc' 2 _ rfl
        have q3 := hcc 3 _ rfl
        have r3 := hcc' 3 _ rfl
        have q4 := hcc 4 _ rfl
        have r4 := hcc' 4 _ rfl
        have q5 := hcc 5 _ rfl
        have r5 := hcc' 5 _ rfl
        have q6 := hcc 6 _ rfl
        have r6 := hcc' 6 _ rfl
        have q7 := hcc 7 _ rfl
        have r7 := hcc' 7 _ rfl
        have q8 := hcc 8 _ rfl
        have r8 := hcc' 8 _ rfl
        have q9 := hcc 9 _ rfl
        have r9 := hcc' 9 _ rfl
        have q10 := hcc 10 _ rfl
        have r10 := hcc' 10 _ rfl
        have q11 := hcc 11 _ rfl
        have r11 := hcc' 11 _ rfl
        simp only [Nat.add_zero] at q0 r0
        clear hcc hcc' hcl hcl' hx hz HP hr hr' ha0 ha1 hb0 hb1
        have HST := Lib.hid hstep
        have HNO := Lib.hid hno
        clear hstep hno
        have i1 : hi ≤ wr.heap.size := Nat.le_trans H.out.lo_le hB.size
        have i2 : hi' ≤ wr.heap.size := Nat.le_trans H'.out.lo_le hB.size
        have k0 : (0 : Int) ≤ (k : Int) := by omega
        have k1 : (k : Int) < (n : Int) := by omega
        go_wp2_with fail
        refine (sameSnap_any _ _ _ _ _ _ _ _ _ (SnapR.below bel2 i1 _ _ G.out) (SnapR.below bel2 i2 _ _ G'.out)).mono ?_
        generalize hq : eqD (xid_, xname_, xtxg_, xprev_, ((xtree_root_at_, xtree_root_birth_, xtree_root_size_, xtree_root_sum_, xtree_root_level_), xtree_depth_, xtree_many_), xdead_) (zid_, zname_, ztxg_, zprev_, ((ztree_root_at_, ztree_root_birth_, ztree_root_size_, ztree_root_sum_, ztree_root_level_), ztree_depth_, ztree_many_), zdead_) = bq
        rintro e w2 ⟨rfl, hb2⟩
        have hB2 : Below w.heap.size w w2 := hB.trans ((bel2.trans (hb2.mono (by simp <;> omega))).mono hB.size)
        clear hb2 q0 r0 q1 r1 q2 r2 q3 r3 q4 r4 q5 r5 q6 r6 q7 r7 q8 r8 q9 r9 q10 r10 q11 r11
        cases bq
        · have HF := Lib.hid (HNO.out (by intro hh; rw [eqD_yes hh] at hq; cases hq)); clear hq HST HNO
          go_wp2_with fail
          go_ret
          exact ⟨ret_bool HF.out.symm, hB2⟩
        · have HS2 := Lib.hid (HST.out (eqD_iff.1 hq)); clear hq HST HNO
          go_wp2_with fail
          go_roundw
          case rel => exact ⟨k + 1, by omega, by go_num, HS2, hB2⟩
          case measure => simp [intOf]; omega
      · obtain rfl : k = n := by omega
        have hf := Lib.hid (same_all HP.out HL.out HL'.out)
        go_wp2_with fail
        go_ret
        exact ⟨ret_bool hf.out.symm, hB⟩
  · have e2 : ((n : Int) != m) = true := by simp; omega
    have hf := Lib.hid (same_len (xs := xs) (ys := ys) (by rw [HL.out, HL'.out]; exact hnm))
    clear hnm
    go_enter Try.func79, Try.ntmps79
    go_wp2_with fail
    go_ret
    exact ⟨ret_bool hf.out.symm, Below.refl _ _⟩

set_option maxRecDepth 100000 in
set_option maxHeartbeats 4000000 in
theorem metaSame_any (cs cs' : List Value) (x y : MetaD) (w : World) (lo hi lo' hi' : Nat) (h : MetaR w lo hi cs x) (h' : MetaR w lo' hi' cs' y) :
    Calls Try.prog 40 #[.agg cs.toArray, .agg cs'.toArray] w fun e w' => e = .returned (.bool (eqD x y)) ∧ Below w.heap.size w w' := by
  have HN := Lib.hid (fun hne : x ≠ y => eqD_no hne)
  obtain ⟨xh, xs, xn, xb⟩ := x; obtain ⟨zh, zs, zn, zb⟩ := y
  obtain ⟨A0, n0, c0, A1, n1, c1, rfl, h0, h1⟩ := h; obtain ⟨B0, m0, d0, B1, m1, d1, rfl, k0, k1⟩ := h'
  have H0 := Lib.hid h0; have H1 := Lib.hid h1; have K0 := Lib.hid k0; have K1 := Lib.hid k1; clear h0 h1 k0 k1
  by_cases e1 : xn = zn
  rotate_left
  · have HF := Lib.hid (HN.out (by simp [e1]))
    have e1_ : (xn == zn) = false := by simpa using e1
    clear HN
    show Calls Try.prog 40 #[.agg #[.slice A0 n0 c0, .slice A1 n1 c1, .int .i64 xn, .bool xb], .agg #[.slice B0 m0 d0, .slice B1 m1 d1, .int .i64 zn, .bool zb]] w _
    go_enter Try.func40, Try.ntmps40
    go_wp2_with fail
    go_ret
    exact ⟨ret_bool HF.out.symm, bel2⟩
  subst e1
  by_cases e2 : xb = zb
  rotate_left
  · have HF := Lib.hid (HN.out (by simp [e2]))
    have e2_ : (xb == zb) = false := by cases xb <;> cases zb <;> simp_all
    clear HN
    show Calls Try.prog 40 #[.agg #[.slice A0 n0 c0, .slice A1 n1 c1, .int .i64 xn, .bool xb], .agg #[.slice B0 m0 d0, .slice B1 m1 d1, .int .i64 xn, .bool zb]] w _
    go_enter Try.func40, Try.ntmps40
    go_wp2_with fail
    go_ret
    exact ⟨ret_bool HF.out.symm, bel2⟩
  subst e2
  have hbb : (xb == xb) = true := by simp
  show Calls Try.prog 40 #[.agg #[.slice A0 n0 c0, .slice A1 n1 c1, .int .i64 xn, .bool xb], .agg #[.slice B0 m0 d0, .slice B1 m1 d1, .int .i64 xn, .bool xb]] w _
  go_enter Try.func40, Try.ntmps40
  go_wp2_with fail
  refine (equalFuncHead_any _ _ _ _ _ _ xh zh _ _ _ _ _ (SliceR.below H0.out bel2 (HeadR.below bel2 H0.out.lo_le)) (SliceR.below K0.out bel2 (HeadR.below bel2 K0.out.lo_le))).mono ?_
  generalize hs : same xh zh = bq
  rintro e w1 ⟨rfl, hb1⟩
  have X1 : Below w.heap.size w w1 := bel2.trans (hb1.mono (by simp <;> omega))
  have g0 : w1.cell? ⟨w.heap.size, 0, none⟩ = some (.slice A0 n0 c0) := (hb1.cell (by simp <;> omega)).trans (by simp [go_sem])
  have g1 : w1.cell? ⟨w.heap.size, 1, none⟩ = some (.slice A1 n1 c1) := (hb1.cell (by simp <;> omega)).trans (by simp [go_sem])
  have g2 : w1.cell? ⟨w.heap.size + 1, 0, none⟩ = some (.slice B0 m0 d0) := (hb1.cell (by simp <;> omega)).trans (by simp [go_sem])
  have g3 : w1.cell? ⟨w.heap.size + 1, 1, none⟩ = some (.slice B1 m1 d1) := (hb1.cell (by simp <;> omega)).trans (by simp [go_sem])
  clear hb1
  cases bq
  · have HF := Lib.hid (HN.out (by intro hh; simp at hh; rw [hh.1, same_iff.2 rfl] at hs; cases hs)); clear hs HN
    go_wp2_with fail
    go_ret
    exact ⟨ret_bool HF.out.symm, X1⟩
  have hs2 := same_iff.1 hs; clear hs; subst hs2
  go_wp2_with fail
  refine (equalFuncSnap_any _ _ _ _ _ _ xs zs _ _ _ _ _ (SliceR.below H1.out X1 (SnapR.below X1 H1.out.lo_le)) (SliceR.below K1.out X1 (SnapR.below X1 K1.out.lo_le))).mono ?_
  generalize hs : same xs zs = bq
  rintro e w2 ⟨rfl, hb2⟩
  have X2 := X1.trans (hb2.mono X1.size)
  clear hb2 g0 g1 g2 g3
  cases bq
  · have HF := Lib.hid (HN.out (by intro hh; simp at hh; rw [hh, same_iff.2 rfl] at hs; cases hs)); clear hs HN
    go_wp2_with fail
    go_ret
    exact ⟨ret_bool HF.out.symm, X2⟩
  have hs2 := same_iff.1 hs; clear hs; subst hs2
  go_wp2_with fail
  go_ret
  exact ⟨ret_bool (eqD_yes rfl).symm, X2⟩

end Go.Proofs.Ytodibogijnjlaaa
