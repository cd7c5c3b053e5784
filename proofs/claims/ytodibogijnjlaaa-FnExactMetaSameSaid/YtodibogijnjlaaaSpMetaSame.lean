/- MetaSame, the reference's. No condition. -/
import Derived.Test.YtodibogijnjlaaaSameFam
namespace Go.Proofs.Ytodibogijnjlaaa
set_option linter.unusedVariables false
set_option linter.unusedSimpArgs false
set_option linter.unnecessarySimpa false
open Go.RowKit

set_option maxRecDepth 100000 in
set_option maxHeartbeats 16000000 in
theorem spMetaSame_any (cs cs' : List Value) (x y : MetaD) (w : World) (lo hi lo' hi' : Nat) (h : MetaR w lo hi cs x) (h' : MetaR w lo' hi' cs' y) :
    Calls Try.prog 38 #[.agg cs.toArray, .agg cs'.toArray] w fun e w' => e = .returned (.bool (eqD x y)) ∧ Below w.heap.size w w' := by
  have HN := Lib.hid (fun hne : x ≠ y => eqD_no hne)
  obtain ⟨xs0, xs1, xn, xb⟩ := x; obtain ⟨ys0, ys1, zn, zb⟩ := y
  obtain ⟨A0, n0, c0, A1, n1, c1, rfl, h0, h1⟩ := h; obtain ⟨B0, m0, d0, B1, m1, d1, rfl, k0, k1⟩ := h'
  have hn0 := h0.max; have hn1 := h1.max; have hm0 := k0.max; have hm1 := k1.max
  have HL0 := Lib.hid h0.len; have HL1 := Lib.hid h1.len; have KL0 := Lib.hid k0.len; have KL1 := Lib.hid k1.len
  have H0 := Lib.hid h0; have H1 := Lib.hid h1; have K0 := Lib.hid k0; have K1 := Lib.hid k1; clear h0 h1 k0 k1
  by_cases e1 : xn = zn
  rotate_left
  · have HF := Lib.hid (HN.out (by simp [e1]))
    have e1_ : (xn == zn) = false := by simpa using e1
    have e1b : (xn != zn) = true := by simpa using e1
    clear HN
    show Calls Try.prog 38 #[.agg #[.slice A0 n0 c0, .slice A1 n1 c1, .int .i64 xn, .bool xb], .agg #[.slice B0 m0 d0, .slice B1 m1 d1, .int .i64 zn, .bool zb]] w _
    go_enter Try.func38, Try.ntmps38
    go_wp2_with fail
    go_ret
    exact ⟨ret_bool HF.out.symm, bel2⟩
  subst e1
  by_cases e2 : xb = zb
  rotate_left
  · have HF := Lib.hid (HN.out (by simp [e2]))
    have e2_ : (xb == zb) = false := by cases xb <;> cases zb <;> simp_all
    have e2b : (xb != zb) = true := by cases xb <;> cases zb <;> simp_all
    clear HN
    show Calls Try.prog 38 #[.agg #[.slice A0 n0 c0, .slice A1 n1 c1, .int .i64 xn, .bool xb], .agg #[.slice B0 m0 d0, .slice B1 m1 d1, .int .i64 xn, .bool zb]] w _
    go_enter Try.func38, Try.ntmps38
    go_wp2_with fail
    go_ret
    exact ⟨ret_bool HF.out.symm, bel2⟩
  subst e2
  have hbb : (xb == xb) = true := by simp
  have hbn : (xb != xb) = false := by simp
  have T0 : Hid (same xs0 ys0 = false → eqD (xs0, xs1, xn, xb) (ys0, ys1, xn, xb) = false) := Lib.hid fun hs => HN.out (by intro hh; simp at hh; rw [hh.1, same_iff.2 rfl] at hs; cases hs)
  have T1 : Hid (same xs1 ys1 = false → eqD (xs0, xs1, xn, xb) (ys0, ys1, xn, xb) = false) := Lib.hid fun hs => HN.out (by intro hh; simp at hh; rw [hh.2, same_iff.2 rfl] at hs; cases hs)
  have TY : Hid (same xs0 ys0 = true → same xs1 ys1 = true → eqD (xs0, xs1, xn, xb) (ys0, ys1, xn, xb) = true) := Lib.hid fun a b => by rw [same_iff.1 a, same_iff.1 b]; exact eqD_yes rfl
  clear HN
  generalize eqD (xs0, xs1, xn, xb) (ys0, ys1, xn, xb) = res at *
  show Calls Try.prog 38 #[.agg #[.slice A0 n0 c0, .slice A1 n1 c1, .int .i64 xn, .bool xb], .agg #[.slice B0 m0 d0, .slice B1 m1 d1, .int .i64 xn, .bool xb]] w _
  by_cases d0 : n0 = m0
  rotate_left
  · have e3 : ((n0 : Int) != m0) = true := by simp; omega
    have hf := Lib.hid (T0.out (same_len (xs := xs0) (ys := ys0) (by rw [HL0.out, KL0.out]; exact d0)))
    clear d0
    go_enter Try.func38, Try.ntmps38
    go_wp2_with fail
    go_ret
    exact ⟨ret_bool hf.out.symm, bel2⟩
  subst d0
  by_cases d1 : n1 = m1
  rotate_left
  · have e4 : ((n1 : Int) != m1) = true := by simp; omega
    have hf := Lib.hid (T1.out (same_len (xs := xs1) (ys := ys1) (by rw [HL1.out, KL1.out]; exact d1)))
    clear d1
    go_enter Try.func38, Try.ntmps38
    go_wp2_with fail
    go_ret
    exact ⟨ret_bool hf.out.symm, bel2⟩
  subst d1
  go_enter Try.func38, Try.ntmps38
  go_wp2_with fail
  go_loopw [5, 6, 7] (fun s _ _ wr => ∃ k : Nat, k ≤ n0 ∧ s = .int .i64 k ∧ Hid (∀ j, j < k → xs0[j]? = ys0[j]?) ∧ Below w.heap.size w wr ∧ wr.cell? ⟨w.heap.size, 0, none⟩ = some (.slice A0 n0 c0) ∧ wr.cell? ⟨w.heap.size, 1, none⟩ = some (.slice A1 n1 c1) ∧ wr.cell? ⟨w.heap.size + 1, 0, none⟩ = some (.slice B0 n0 d0) ∧ wr.cell? ⟨w.heap.size + 1, 1, none⟩ = some (.slice B1 n1 d1)) (fun s _ _ _ => n0 - (intOf s).toNat)
  case atStart => exact ⟨0, Nat.zero_le _, rfl, Lib.hid (fun j hj => absurd hj (by omega)), bel2, by simp [go_sem], by simp [go_sem], by simp [go_sem], by simp [go_sem]⟩
  case round =>
    obtain ⟨k, hk, rfl, HP, hB, g0, g1, g2, g3⟩ := hrel
    by_cases hlt : k < n0
    · obtain ⟨x, hx⟩ : ∃ x, xs0[k]? = some x := ⟨xs0[k]'(by rw [HL0.out]; exact hlt), List.getElem?_eq_getElem _⟩
      obtain ⟨z, hz⟩ : ∃ z, ys0[k]? = some z := ⟨ys0[k]'(by rw [KL0.out]; exact hlt), List.getElem?_eq_getElem _⟩
      obtain ⟨b, off, rfl, _, _, bl, hc⟩ := (SliceR.below H0.out hB (HeadR.below hB H0.out.lo_le)).at_ (by omega)
      obtain ⟨b', off', rfl, _, _, bl', hc'⟩ := (SliceR.below K0.out hB (HeadR.below hB K0.out.lo_le)).at_ (by omega)
      obtain ⟨cs, hcl, hcc, hr⟩ := hc k x hx
      obtain ⟨cs', hcl', hcc', hr'⟩ := hc' k z hz
      clear hc hc'
      have hstep := same_step HP.out hx hz
      have hno := same_no hx hz
      obtain ⟨xname_, xprev_, ⟨⟨xtree_root_at_, xtree_root_birth_, xtree_root_size_, xtree_root_sum_, xtree_root_level_⟩, xtree_depth_, xtree_many_⟩, xdead_, xquota_⟩ := x
      obtain ⟨zname_, zprev_, ⟨⟨ztree_root_at_, ztree_root_birth_, ztree_root_size_, ztree_root_sum_, ztree_root_level_⟩, ztree_depth_, ztree_many_⟩, zdead_, zquota_⟩ := z
      obtain ⟨Aa0, na0, ca0, rfl, ha0, ha1⟩ := hr
      obtain ⟨Ab0, nb0, cb0, rfl, hb0, hb1⟩ := hr'
      have q0 := hcc 0 _ rfl
      have r0 := hcc' 0 _ rfl
      have q1 := hcc 1 _ rfl
      have r1 := hcc' 1 _ rfl
      have q2 := hcc 2 _ rfl
      have r2 := hcc' 2 _ rfl
      have q3 := hcc 3 _ rfl
      have r3 := hcc' 3 _ rfl
      have q4 := hcc 4 _ rfl
      have r4 := hcc' 4 _ rfl
      have q5 := hcc 5 _ rfl
      have r5 := hcc' 5 _ rfl
      have q6 := hcc 6 _ rfl
      have r6 := hcc' 6 _ rfl
      have q7 := hcc 7 _ rfl
      have r7 := hcc' 7 _ rfl
      have q8 := hcc 8 _ rfl
      have r8 := hcc' 8 _ rfl
      have q9 := hcc 9 _ rfl
      have r9 := hcc' 9 _ rfl
      have q10 := hcc 10 _ rfl
      have r10 := hcc' 10 _ rfl
      simp only [Nat.add_zero] at q0 r0
      have G := Lib.hid ha1; have G' := Lib.hid hb1
      clear hcc hcc' hcl hcl' hx hz HP ha0 ha1 hb0 hb1
      have HST := Lib.hid hstep
      have HNO := Lib.hid (fun hne => T0.out (hno hne))
      clear hstep hno
      have k0 : (0 : Int) ≤ (k : Int) := by omega
      have k1 : (k : Int) < (n0 : Int) := by omega
      have u0 := World.block_lt_of_cell? _ _ g0
      have u1 := World.block_lt_of_cell? _ _ g2
      by_cases d0 : xname_ = zname_
      rotate_left
      · have HF := Lib.hid (HNO.out (by simp [d0]))
        have e0_ := str_ne d0
        have hB2 : Below w.heap.size w ((wr.alloc (.cells #[.string xname_, .int .i64 xprev_, .int .i64 xtree_root_at_, .int .i64 xtree_root_birth_, .int .i64 xtree_root_size_, .int .i64 xtree_root_sum_, .int .i64 xtree_root_level_, .int .i64 xtree_depth_, .int .i64 xtree_many_, .slice Aa0 na0 ca0, .int .i64 xquota_] 110)).alloc (.cells #[.string zname_, .int .i64 zprev_, .int .i64 ztree_root_at_, .int .i64 ztree_root_birth_, .int .i64 ztree_root_size_, .int .i64 ztree_root_sum_, .int .i64 ztree_root_level_, .int .i64 ztree_depth_, .int .i64 ztree_many_, .slice Ab0 nb0 cb0, .int .i64 zquota_] 110)) := hB.trans ((bel2 (w := wr)).mono hB.size)
        have HB2 := Lib.hid hB2; clear hB2
        clear HST HNO
        go_wp2_with fail
        go_ret
        exact ⟨ret_bool HF.out.symm, HB2.out⟩
      subst d0
      by_cases d1 : xprev_ = zprev_
      rotate_left
      · have HF := Lib.hid (HNO.out (by simp [d1]))
        have e1_ : (xprev_ == zprev_) = false := by simpa using d1
        have e1b : (xprev_ != zprev_) = true := by simpa using d1
        have hB2 : Below w.heap.size w ((wr.alloc (.cells #[.string xname_, .int .i64 xprev_, .int .i64 xtree_root_at_, .int .i64 xtree_root_birth_, .int .i64 xtree_root_size_, .int .i64 xtree_root_sum_, .int .i64 xtree_root_level_, .int .i64 xtree_depth_, .int .i64 xtree_many_, .slice Aa0 na0 ca0, .int .i64 xquota_] 110)).alloc (.cells #[.string xname_, .int .i64 zprev_, .int .i64 ztree_root_at_, .int .i64 ztree_root_birth_, .int .i64 ztree_root_size_, .int .i64 ztree_root_sum_, .int .i64 ztree_root_level_, .int .i64 ztree_depth_, .int .i64 ztree_many_, .slice Ab0 nb0 cb0, .int .i64 zquota_] 110)) := hB.trans ((bel2 (w := wr)).mono hB.size)
        have HB2 := Lib.hid hB2; clear hB2
        clear HST HNO
        go_wp2_with fail
        go_ret
        exact ⟨ret_bool HF.out.symm, HB2.out⟩
      subst d1
      by_cases d2 : xtree_root_at_ = ztree_root_at_
      rotate_left
      · have HF := Lib.hid (HNO.out (by simp [d2]))
        have e2_ : (xtree_root_at_ == ztree_root_at_) = false := by simpa using d2
        have e2b : (xtree_root_at_ != ztree_root_at_) = true := by simpa using d2
        have hB2 : Below w.heap.size w ((wr.alloc (.cells #[.string xname_, .int .i64 xprev_, .int .i64 xtree_root_at_, .int .i64 xtree_root_birth_, .int .i64 xtree_root_size_, .int .i64 xtree_root_sum_, .int .i64 xtree_root_level_, .int .i64 xtree_depth_, .int .i64 xtree_many_, .slice Aa0 na0 ca0, .int .i64 xquota_] 110)).alloc (.cells #[.string xname_, .int .i64 xprev_, .int .i64 ztree_root_at_, .int .i64 ztree_root_birth_, .int .i64 ztree_root_size_, .int .i64 ztree_root_sum_, .int .i64 ztree_root_level_, .int .i64 ztree_depth_, .int .i64 ztree_many_, .slice Ab0 nb0 cb0, .int .i64 zquota_] 110)) := hB.trans ((bel2 (w := wr)).mono hB.size)
        have HB2 := Lib.hid hB2; clear hB2
        clear HST HNO
        go_wp2_with fail
        go_ret
        exact ⟨ret_bool HF.out.symm, HB2.out⟩
      subst d2
      by_cases d3 : xtree_root_birth_ = ztree_root_birth_
      rotate_left
      · have HF := Lib.hid (HNO.out (by simp [d3]))
        have e3_ : (xtree_root_birth_ == ztree_root_birth_) = false := by simpa using d3
        have e3b : (xtree_root_birth_ != ztree_root_birth_) = true := by simpa using d3
        have hB2 : Below w.heap.size w ((wr.alloc (.cells #[.string xname_, .int .i64 xprev_, .int .i64 xtree_root_at_, .int .i64 xtree_root_birth_, .int .i64 xtree_root_size_, .int .i64 xtree_root_sum_, .int .i64 xtree_root_level_, .int .i64 xtree_depth_, .int .i64 xtree_many_, .slice Aa0 na0 ca0, .int .i64 xquota_] 110)).alloc (.cells #[.string xname_, .int .i64 xprev_, .int .i64 xtree_root_at_, .int .i64 ztree_root_birth_, .int .i64 ztree_root_size_, .int .i64 ztree_root_sum_, .int .i64 ztree_root_level_, .int .i64 ztree_depth_, .int .i64 ztree_many_, .slice Ab0 nb0 cb0, .int .i64 zquota_] 110)) := hB.trans ((bel2 (w := wr)).mono hB.size)
        have HB2 := Lib.hid hB2; clear hB2
        clear HST HNO
        go_wp2_with fail
        go_ret
        exact ⟨ret_bool HF.out.symm, HB2.out⟩
      subst d3
      by_cases d4 : xtree_root_size_ = ztree_root_size_
      rotate_left
      · have HF := Lib.hid (HNO.out (by simp [d4]))
        have e4_ : (xtree_root_size_ == ztree_root_size_) = false := by simpa using d4
        have e4b : (xtree_root_size_ != ztree_root_size_) = true := by simpa using d4
        have hB2 : Below w.heap.size w ((wr.alloc (.cells #[.string xname_, .int .i64 xprev_, .int .i64 xtree_root_at_, .int .i64 xtree_root_birth_, .int .i64 xtree_root_size_, .int .i64 xtree_root_sum_, .int .i64 xtree_root_level_, .int .i64 xtree_depth_, .int .i64 xtree_many_, .slice Aa0 na0 ca0, .int .i64 xquota_] 110)).alloc (.cells #[.string xname_, .int .i64 xprev_, .int .i64 xtree_root_at_, .int .i64 xtree_root_birth_, .int .i64 ztree_root_size_, .int .i64 ztree_root_sum_, .int .i64 ztree_root_level_, .int .i64 ztree_depth_, .int .i64 ztree_many_, .slice Ab0 nb0 cb0, .int .i64 zquota_] 110)) := hB.trans ((bel2 (w := wr)).mono hB.size)
        have HB2 := Lib.hid hB2; clear hB2
        clear HST HNO
        go_wp2_with fail
        go_ret
        exact ⟨ret_bool HF.out.symm, HB2.out⟩
      subst d4
      by_cases d5 : xtree_root_sum_ = ztree_root_sum_
      rotate_left
      · have HF := Lib.hid (HNO.out (by simp [d5]))
        have e5_ : (xtree_root_sum_ == ztree_root_sum_) = false := by simpa using d5
        have e5b : (xtree_root_sum_ != ztree_root_sum_) = true := by simpa using d5
        have hB2 : Below w.heap.size w ((wr.alloc (.cells #[.string xname_, .int .i64 xprev_, .int .i64 xtree_root_at_, .int .i64 xtree_root_birth_, .int .i64 xtree_root_size_, .int .i64 xtree_root_sum_, .int .i64 xtree_root_level_, .int .i64 xtree_depth_, .int .i64 xtree_many_, .slice Aa0 na0 ca0, .int .i64 xquota_] 110)).alloc (.cells #[.string xname_, .int .i64 xprev_, .int .i64 xtree_root_at_, .int .i64 xtree_root_birth_, .int .i64 xtree_root_size_, .int .i64 ztree_root_sum_, .int .i64 ztree_root_level_, .int .i64 ztree_depth_, .int .i64 ztree_many_, .slice Ab0 nb0 cb0, .int .i64 zquota_] 110)) := hB.trans ((bel2 (w := wr)).mono hB.size)
        have HB2 := Lib.hid hB2; clear hB2
        clear HST HNO
        go_wp2_with fail
        go_ret
        exact ⟨ret_bool HF.out.symm, HB2.out⟩
      subst d5
      by_cases d6 : xtree_root_level_ = ztree_root_level_
      rotate_left
      · have HF := Lib.hid (HNO.out (by simp [d6]))
        have e6_ : (xtree_root_level_ == ztree_root_level_) = false := by simpa using d6
        have e6b : (xtree_root_level_ != ztree_root_level_) = true := by simpa using d6
        have hB2 : Below w.heap.size w ((wr.alloc (.cells #[.string xname_, .int .i64 xprev_, .int .i64 xtree_root_at_, .int .i64 xtree_root_birth_, .int .i64 xtree_root_size_, .int .i64 xtree_root_sum_, .int .i64 xtree_root_level_, .int .i64 xtree_depth_, .int .i64 xtree_many_, .slice Aa0 na0 ca0, .int .i64 xquota_] 110)).alloc (.cells #[.string xname_, .int .i64 xprev_, .int .i64 xtree_root_at_, .int .i64 xtree_root_birth_, .int .i64 xtree_root_size_, .int .i64 xtree_root_sum_, .int .i64 ztree_root_level_, .int .i64 ztree_depth_, .int .i64 ztree_many_, .slice Ab0 nb0 cb0, .int .i64 zquota_] 110)) := hB.trans ((bel2 (w := wr)).mono hB.size)
        have HB2 := Lib.hid hB2; clear hB2
        clear HST HNO
        go_wp2_with fail
        go_ret
        exact ⟨ret_bool HF.out.symm, HB2.out⟩
      subst d6
      by_cases d7 : xtree_depth_ = ztree_depth_
      rotate_left
      · have HF := Lib.hid (HNO.out (by simp [d7]))
        have e7_ : (xtree_depth_ == ztree_depth_) = false := by simpa using d7
        have e7b : (xtree_depth_ != ztree_depth_) = true := by simpa using d7
        have hB2 : Below w.heap.size w ((wr.alloc (.cells #[.string xname_, .int .i64 xprev_, .int .i64 xtree_root_at_, .int .i64 xtree_root_birth_, .int .i64 xtree_root_size_, .int .i64 xtree_root_sum_, .int .i64 xtree_root_level_, .int .i64 xtree_depth_, .int .i64 xtree_many_, .slice Aa0 na0 ca0, .int .i64 xquota_] 110)).alloc (.cells #[.string xname_, .int .i64 xprev_, .int .i64 xtree_root_at_, .int .i64 xtree_root_birth_, .int .i64 xtree_root_size_, .int .i64 xtree_root_sum_, .int .i64 xtree_root_level_, .int .i64 ztree_depth_, .int .i64 ztree_many_, .slice Ab0 nb0 cb0, .int .i64 zquota_] 110)) := hB.trans ((bel2 (w := wr)).mono hB.size)
        have HB2 := Lib.hid hB2; clear hB2
        clear HST HNO
        go_wp2_with fail
        go_ret
        exact ⟨ret_bool HF.out.symm, HB2.out⟩
      subst d7
      by_cases d8 : xtree_many_ = ztree_many_
      rotate_left
      · have HF := Lib.hid (HNO.out (by simp [d8]))
        have e8_ : (xtree_many_ == ztree_many_) = false := by simpa using d8
        have e8b : (xtree_many_ != ztree_many_) = true := by simpa using d8
        have hB2 : Below w.heap.size w ((wr.alloc (.cells #[.string xname_, .int .i64 xprev_, .int .i64 xtree_root_at_, .int .i64 xtree_root_birth_, .int .i64 xtree_root_size_, .int .i64 xtree_root_sum_, .int .i64 xtree_root_level_, .int .i64 xtree_depth_, .int .i64 xtree_many_, .slice Aa0 na0 ca0, .int .i64 xquota_] 110)).alloc (.cells #[.string xname_, .int .i64 xprev_, .int .i64 xtree_root_at_, .int .i64 xtree_root_birth_, .int .i64 xtree_root_size_, .int .i64 xtree_root_sum_, .int .i64 xtree_root_level_, .int .i64 xtree_depth_, .int .i64 ztree_many_, .slice Ab0 nb0 cb0, .int .i64 zquota_] 110)) := hB.trans ((bel2 (w := wr)).mono hB.size)
        have HB2 := Lib.hid hB2; clear hB2
        clear HST HNO
        go_wp2_with fail
        go_ret
        exact ⟨ret_bool HF.out.symm, HB2.out⟩
      subst d8
      by_cases d9 : xquota_ = zquota_
      rotate_left
      · have HF := Lib.hid (HNO.out (by simp [d9]))
        have e9_ : (xquota_ == zquota_) = false := by simpa using d9
        have e9b : (xquota_ != zquota_) = true := by simpa using d9
        have hB2 : Below w.heap.size w ((wr.alloc (.cells #[.string xname_, .int .i64 xprev_, .int .i64 xtree_root_at_, .int .i64 xtree_root_birth_, .int .i64 xtree_root_size_, .int .i64 xtree_root_sum_, .int .i64 xtree_root_level_, .int .i64 xtree_depth_, .int .i64 xtree_many_, .slice Aa0 na0 ca0, .int .i64 xquota_] 110)).alloc (.cells #[.string xname_, .int .i64 xprev_, .int .i64 xtree_root_at_, .int .i64 xtree_root_birth_, .int .i64 xtree_root_size_, .int .i64 xtree_root_sum_, .int .i64 xtree_root_level_, .int .i64 xtree_depth_, .int .i64 xtree_many_, .slice Ab0 nb0 cb0, .int .i64 zquota_] 110)) := hB.trans ((bel2 (w := wr)).mono hB.size)
        have HB2 := Lib.hid hB2; clear hB2
        clear HST HNO
        go_wp2_with fail
        go_ret
        exact ⟨ret_bool HF.out.symm, HB2.out⟩
      subst d9
      go_wp2_with fail
      refine (l21Ptrs_any _ _ _ _ _ _ xdead_ zdead_ _ _ _ _ _ (SliceR.below G.out bel2 (PtrR.below bel2 G.out.lo_le)) (SliceR.below G'.out bel2 (PtrR.below bel2 G'.out.lo_le))).mono ?_
      generalize hs : same xdead_ zdead_ = bq
      rintro e w2 ⟨rfl, hb2⟩
      have hS2 : Below wr.heap.size wr w2 := bel2.trans (hb2.mono (by simp <;> omega))
      have hB2 : Below w.heap.size w w2 := hB.trans (hS2.mono hB.size)
      have v0 := (hS2.cell u0).trans g0
      have v1 := (hS2.cell u0).trans g1
      have v2 := (hS2.cell u1).trans g2
      have v3 := (hS2.cell u1).trans g3
      clear hS2 hb2 g0 g1 g2 g3 u0 u1 bl bl' q0 r0 q1 r1 q2 r2 q3 r3 q4 r4 q5 r5 q6 r6 q7 r7 q8 r8 q9 r9 q10 r10
      cases bq
      · have HF := Lib.hid (HNO.out (by intro hh; simp at hh; rw [hh, same_iff.2 rfl] at hs; cases hs)); clear hs HST HNO
        go_wp2_with fail
        go_ret
        exact ⟨ret_bool HF.out.symm, hB2⟩
      · have hs2 := same_iff.1 hs; clear hs; subst hs2
        have HS2 := Lib.hid (HST.out rfl); clear HST HNO
        go_wp2_with fail
        go_roundw
        case rel => exact ⟨k + 1, by omega, by go_num, HS2, hB2, v0, v1, v2, v3⟩
        case measure => simp [intOf]; omega
    · obtain rfl : n0 = k := by omega
      have F0 := Lib.hid (same_all HP.out HL0.out KL0.out); clear HP
      go_wp2_with fail
      go_loopw [8, 9, 10] (fun s _ _ wr => ∃ k : Nat, k ≤ n1 ∧ s = .int .i64 k ∧ Hid (∀ j, j < k → xs1[j]? = ys1[j]?) ∧ Below w.heap.size w wr ∧ wr.cell? ⟨w.heap.size, 0, none⟩ = some (.slice A0 n0 c0) ∧ wr.cell? ⟨w.heap.size, 1, none⟩ = some (.slice A1 n1 c1) ∧ wr.cell? ⟨w.heap.size + 1, 0, none⟩ = some (.slice B0 n0 d0) ∧ wr.cell? ⟨w.heap.size + 1, 1, none⟩ = some (.slice B1 n1 d1)) (fun s _ _ _ => n1 - (intOf s).toNat)
      case atStart => exact ⟨0, Nat.zero_le _, rfl, Lib.hid (fun j hj => absurd hj (by omega)), hB, g0, g1, g2, g3⟩
      case round =>
        clear hB g0 g1 g2 g3
        obtain ⟨k, hk, rfl, HP, hB, g0, g1, g2, g3⟩ := hrel
        by_cases hlt : k < n1
        · obtain ⟨x, hx⟩ : ∃ x, xs1[k]? = some x := ⟨xs1[k]'(by rw [HL1.out]; exact hlt), List.getElem?_eq_getElem _⟩
          obtain ⟨z, hz⟩ : ∃ z, ys1[k]? = some z := ⟨ys1[k]'(by rw [KL1.out]; exact hlt), List.getElem?_eq_getElem _⟩
          obtain ⟨b, off, rfl, _, _, bl, hc⟩ := (SliceR.below H1.out hB (SnapR.below hB H1.out.lo_le)).at_ (by omega)
          obtain ⟨b', off', rfl, _, _, bl', hc'⟩ := (SliceR.below K1.out hB (SnapR.below hB K1.out.lo_le)).at_ (by omega)
          obtain ⟨cs, hcl, hcc, hr⟩ := hc k x hx
          obtain ⟨cs', hcl', hcc', hr'⟩ := hc' k z hz
          clear hc hc'
          have hstep := same_step HP.out hx hz
          have hno := same_no hx hz
          obtain ⟨xid_, xname_, xtxg_, xprev_, ⟨⟨xtree_root_at_, xtree_root_birth_, xtree_root_size_, xtree_root_sum_, xtree_root_level_⟩, xtree_depth_, xtree_many_⟩, xdead_⟩ := x
          obtain ⟨zid_, zname_, ztxg_, zprev_, ⟨⟨ztree_root_at_, ztree_root_birth_, ztree_root_size_, ztree_root_sum_, ztree_root_level_⟩, ztree_depth_, ztree_many_⟩, zdead_⟩ := z
          obtain ⟨Aa0, na0, ca0, rfl, ha0, ha1⟩ := hr
          obtain ⟨Ab0, nb0, cb0, rfl, hb0, hb1⟩ := hr'
          have q0 := hcc 0 _ rfl
          have r0 := hcc' 0 _ rfl
          have q1 := hcc 1 _ rfl
          have r1 := hcc' 1 _ rfl
          have q2 := hcc 2 _ rfl
          have r2 := hcc' 2 _ rfl
          have q3 := hcc 3 _ rfl
          have r3 := hcc' 3 _ rfl
          have q4 := hcc 4 _ rfl
          have r4 := hcc' 4 _ rfl
          have q5 := hcc 5 _ rfl
          have r5 := hcc' 5 _ rfl
          have q6 := hcc 6 _ rfl
          have r6 := hcc' 6 _ rfl
          have q7 := hcc 7 _ rfl
          have r7 := hcc' 7 _ rfl
          have q8 := hcc 8 _ rfl
          have r8 := hcc' 8 _ rfl
          have q9 := hcc 9 _ rfl
          have r9 := hcc' 9 _ rfl
          have q10 := hcc 10 _ rfl
          have r10 := hcc' 10 _ rfl
          have q11 := hcc 11 _ rfl
          have r11 := hcc' 11 _ rfl
          simp only [Nat.add_zero] at q0 r0
          have G := Lib.hid ha1; have G' := Lib.hid hb1
          clear hcc hcc' hcl hcl' hx hz HP ha0 ha1 hb0 hb1
          have HST := Lib.hid hstep
          have HNO := Lib.hid (fun hne => T1.out (hno hne))
          clear hstep hno
          have k0 : (0 : Int) ≤ (k : Int) := by omega
          have k1 : (k : Int) < (n1 : Int) := by omega
          have u0 := World.block_lt_of_cell? _ _ g0
          have u1 := World.block_lt_of_cell? _ _ g2
          by_cases d0 : xid_ = zid_
          rotate_left
          · have HF := Lib.hid (HNO.out (by simp [d0]))
            have e0_ : (xid_ == zid_) = false := by simpa using d0
            have e0b : (xid_ != zid_) = true := by simpa using d0
            have hB2 : Below w.heap.size w ((wr.alloc (.cells #[.int .i64 xid_, .string xname_, .int .i64 xtxg_, .int .i64 xprev_, .int .i64 xtree_root_at_, .int .i64 xtree_root_birth_, .int .i64 xtree_root_size_, .int .i64 xtree_root_sum_, .int .i64 xtree_root_level_, .int .i64 xtree_depth_, .int .i64 xtree_many_, .slice Aa0 na0 ca0] 113)).alloc (.cells #[.int .i64 zid_, .string zname_, .int .i64 ztxg_, .int .i64 zprev_, .int .i64 ztree_root_at_, .int .i64 ztree_root_birth_, .int .i64 ztree_root_size_, .int .i64 ztree_root_sum_, .int .i64 ztree_root_level_, .int .i64 ztree_depth_, .int .i64 ztree_many_, .slice Ab0 nb0 cb0] 113)) := hB.trans ((bel2 (w := wr)).mono hB.size)
            have HB2 := Lib.hid hB2; clear hB2
            clear HST HNO
            go_wp2_with fail
            go_ret
            exact ⟨ret_bool HF.out.symm, HB2.out⟩
          subst d0
          by_cases d1 : xname_ = zname_
          rotate_left
          · have HF := Lib.hid (HNO.out (by simp [d1]))
            have e1_ := str_ne d1
            have hB2 : Below w.heap.size w ((wr.alloc (.cells #[.int .i64 xid_, .string xname_, .int .i64 xtxg_, .int .i64 xprev_, .int .i64 xtree_root_at_, .int .i64 xtree_root_birth_, .int .i64 xtree_root_size_, .int .i64 xtree_root_sum_, .int .i64 xtree_root_level_, .int .i64 xtree_depth_, .int .i64 xtree_many_, .slice Aa0 na0 ca0] 113)).alloc (.cells #[.int .i64 xid_, .string zname_, .int .i64 ztxg_, .int .i64 zprev_, .int .i64 ztree_root_at_, .int .i64 ztree_root_birth_, .int .i64 ztree_root_size_, .int .i64 ztree_root_sum_, .int .i64 ztree_root_level_, .int .i64 ztree_depth_, .int .i64 ztree_many_, .slice Ab0 nb0 cb0] 113)) := hB.trans ((bel2 (w := wr)).mono hB.size)
            have HB2 := Lib.hid hB2; clear hB2
            clear HST HNO
            go_wp2_with fail
            go_ret
            exact ⟨ret_bool HF.out.symm, HB2.out⟩
          subst d1
          by_cases d2 : xtxg_ = ztxg_
          rotate_left
          · have HF := Lib.hid (HNO.out (by simp [d2]))
            have e2_ : (xtxg_ == ztxg_) = false := by simpa using d2
            have e2b : (xtxg_ != ztxg_) = true := by simpa using d2
            have hB2 : Below w.heap.size w ((wr.alloc (.cells #[.int .i64 xid_, .string xname_, .int .i64 xtxg_, .int .i64 xprev_, .int .i64 xtree_root_at_, .int .i64 xtree_root_birth_, .int .i64 xtree_root_size_, .int .i64 xtree_root_sum_, .int .i64 xtree_root_level_, .int .i64 xtree_depth_, .int .i64 xtree_many_, .slice Aa0 na0 ca0] 113)).alloc (.cells #[.int .i64 xid_, .string xname_, .int .i64 ztxg_, .int .i64 zprev_, .int .i64 ztree_root_at_, .int .i64 ztree_root_birth_, .int .i64 ztree_root_size_, .int .i64 ztree_root_sum_, .int .i64 ztree_root_level_, .int .i64 ztree_depth_, .int .i64 ztree_many_, .slice Ab0 nb0 cb0] 113)) := hB.trans ((bel2 (w := wr)).mono hB.size)
            have HB2 := Lib.hid hB2; clear hB2
            clear HST HNO
            go_wp2_with fail
            go_ret
            exact ⟨ret_bool HF.out.symm, HB2.out⟩
          subst d2
          by_cases d3 : xprev_ = zprev_
          rotate_left
          · have HF := Lib.hid (HNO.out (by simp [d3]))
            have e3_ : (xprev_ == zprev_) = false := by simpa using d3
            have e3b : (xprev_ != zprev_) = true := by simpa using d3
            have hB2 : Below w.heap.size w ((wr.alloc (.cells #[.int .i64 xid_, .string xname_, .int .i64 xtxg_, .int .i64 xprev_, .int .i64 xtree_root_at_, .int .i64 xtree_root_birth_, .int .i64 xtree_root_size_, .int .i64 xtree_root_sum_, .int .i64 xtree_root_level_, .int .i64 xtree_depth_, .int .i64 xtree_many_, .slice Aa0 na0 ca0] 113)).alloc (.cells #[.int .i64 xid_, .string xname_, .int .i64 xtxg_, .int .i64 zprev_, .int .i64 ztree_root_at_, .int .i64 ztree_root_birth_, .int .i64 ztree_root_size_, .int .i64 ztree_root_sum_, .int .i64 ztree_root_level_, .int .i64 ztree_depth_, .int .i64 ztree_many_, .slice Ab0 nb0 cb0] 113)) := hB.trans ((bel2 (w := wr)).mono hB.size)
            have HB2 := Lib.hid hB2; clear hB2
            clear HST HNO
            go_wp2_with fail
            go_ret
            exact ⟨ret_bool HF.out.symm, HB2.out⟩
          subst d3
          by_cases d4 : xtree_root_at_ = ztree_root_at_
          rotate_left
          · have HF := Lib.hid (HNO.out (by simp [d4]))
            have e4_ : (xtree_root_at_ == ztree_root_at_) = false := by simpa using d4
            have e4b : (xtree_root_at_ != ztree_root_at_) = true := by simpa using d4
            have hB2 : Below w.heap.size w ((wr.alloc (.cells #[.int .i64 xid_, .string xname_, .int .i64 xtxg_, .int .i64 xprev_, .int .i64 xtree_root_at_, .int .i64 xtree_root_birth_, .int .i64 xtree_root_size_, .int .i64 xtree_root_sum_, .int .i64 xtree_root_level_, .int .i64 xtree_depth_, .int .i64 xtree_many_, .slice Aa0 na0 ca0] 113)).alloc (.cells #[.int .i64 xid_, .string xname_, .int .i64 xtxg_, .int .i64 xprev_, .int .i64 ztree_root_at_, .int .i64 ztree_root_birth_, .int .i64 ztree_root_size_, .int .i64 ztree_root_sum_, .int .i64 ztree_root_level_, .int .i64 ztree_depth_, .int .i64 ztree_many_, .slice Ab0 nb0 cb0] 113)) := hB.trans ((bel2 (w := wr)).mono hB.size)
            have HB2 := Lib.hid hB2; clear hB2
            clear HST HNO
            go_wp2_with fail
            go_ret
            exact ⟨ret_bool HF.out.symm, HB2.out⟩
          subst d4
          by_cases d5 : xtree_root_birth_ = ztree_root_birth_
          rotate_left
          · have HF := Lib.hid (HNO.out (by simp [d5]))
            have e5_ : (xtree_root_birth_ == ztree_root_birth_) = false := by simpa using d5
            have e5b : (xtree_root_birth_ != ztree_root_birth_) = true := by simpa using d5
            have hB2 : Below w.heap.size w ((wr.alloc (.cells #[.int .i64 xid_, .string xname_, .int .i64 xtxg_, .int .i64 xprev_, .int .i64 xtree_root_at_, .int .i64 xtree_root_birth_, .int .i64 xtree_root_size_, .int .i64 xtree_root_sum_, .int .i64 xtree_root_level_, .int .i64 xtree_depth_, .int .i64 xtree_many_, .slice Aa0 na0 ca0] 113)).alloc (.cells #[.int .i64 xid_, .string xname_, .int .i64 xtxg_, .int .i64 xprev_, .int .i64 xtree_root_at_, .int .i64 ztree_root_birth_, .int .i64 ztree_root_size_, .int .i64 ztree_root_sum_, .int .i64 ztree_root_level_, .int .i64 ztree_depth_, .int .i64 ztree_many_, .slice Ab0 nb0 cb0] 113)) := hB.trans ((bel2 (w := wr)).mono hB.size)
            have HB2 := Lib.hid hB2; clear hB2
            clear HST HNO
            go_wp2_with fail
            go_ret
            exact ⟨ret_bool HF.out.symm, HB2.out⟩
          subst d5
          by_cases d6 : xtree_root_size_ = ztree_root_size_
          rotate_left
          · have HF := Lib.hid (HNO.out (by simp [d6]))
            have e6_ : (xtree_root_size_ == ztree_root_size_) = false := by simpa using d6
            have e6b : (xtree_root_size_ != ztree_root_size_) = true := by simpa using d6
            have hB2 : Below w.heap.size w ((wr.alloc (.cells #[.int .i64 xid_, .string xname_, .int .i64 xtxg_, .int .i64 xprev_, .int .i64 xtree_root_at_, .int .i64 xtree_root_birth_, .int .i64 xtree_root_size_, .int .i64 xtree_root_sum_, .int .i64 xtree_root_level_, .int .i64 xtree_depth_, .int .i64 xtree_many_, .slice Aa0 na0 ca0] 113)).alloc (.cells #[.int .i64 xid_, .string xname_, .int .i64 xtxg_, .int .i64 xprev_, .int .i64 xtree_root_at_, .int .i64 xtree_root_birth_, .int .i64 ztree_root_size_, .int .i64 ztree_root_sum_, .int .i64 ztree_root_level_, .int .i64 ztree_depth_, .int .i64 ztree_many_, .slice Ab0 nb0 cb0] 113)) := hB.trans ((bel2 (w := wr)).mono hB.size)
            have HB2 := Lib.hid hB2; clear hB2
            clear HST HNO
            go_wp2_with fail
            go_ret
            exact ⟨ret_bool HF.out.symm, HB2.out⟩
          subst d6
          by_cases d7 : xtree_root_sum_ = ztree_root_sum_
          rotate_left
          · have HF := Lib.hid (HNO.out (by simp [d7]))
            have e7_ : (xtree_root_sum_ == ztree_root_sum_) = false := by simpa using d7
            have e7b : (xtree_root_sum_ != ztree_root_sum_) = true := by simpa using d7
            have hB2 : Below w.heap.size w ((wr.alloc (.cells #[.int .i64 xid_, .string xname_, .int .i64 xtxg_, .int .i64 xprev_, .int .i64 xtree_root_at_, .int .i64 xtree_root_birth_, .int .i64 xtree_root_size_, .int .i64 xtree_root_sum_, .int .i64 xtree_root_level_, .int .i64 xtree_depth_, .int .i64 xtree_many_, .slice Aa0 na0 ca0] 113)).alloc (.cells #[.int .i64 xid_, .string xname_, .int .i64 xtxg_, .int .i64 xprev_, .int .i64 xtree_root_at_, .int .i64 xtree_root_birth_, .int .i64 xtree_root_size_, .int .i64 ztree_root_sum_, .int .i64 ztree_root_level_, .int .i64 ztree_depth_, .int .i64 ztree_many_, .slice Ab0 nb0 cb0] 113)) := hB.trans ((bel2 (w := wr)).mono hB.size)
            have HB2 := Lib.hid hB2; clear hB2
            clear HST HNO
            go_wp2_with fail
            go_ret
            exact ⟨ret_bool HF.out.symm, HB2.out⟩
          subst d7
          by_cases d8 : xtree_root_level_ = ztree_root_level_
          rotate_left
          · have HF := Lib.hid (HNO.out (by simp [d8]))
            have e8_ : (xtree_root_level_ == ztree_root_level_) = false := by simpa using d8
            have e8b : (xtree_root_level_ != ztree_root_level_) = true := by simpa using d8
            have hB2 : Below w.heap.size w ((wr.alloc (.cells #[.int .i64 xid_, .string xname_, .int .i64 xtxg_, .int .i64 xprev_, .int .i64 xtree_root_at_, .int .i64 xtree_root_birth_, .int .i64 xtree_root_size_, .int .i64 xtree_root_sum_, .int .i64 xtree_root_level_, .int .i64 xtree_depth_, .int .i64 xtree_many_, .slice Aa0 na0 ca0] 113)).alloc (.cells #[.int .i64 xid_, .string xname_, .int .i64 xtxg_, .int .i64 xprev_, .int .i64 xtree_root_at_, .int .i64 xtree_root_birth_, .int .i64 xtree_root_size_, .int .i64 xtree_root_sum_, .int .i64 ztree_root_level_, .int .i64 ztree_depth_, .int .i64 ztree_many_, .slice Ab0 nb0 cb0] 113)) := hB.trans ((bel2 (w := wr)).mono hB.size)
            have HB2 := Lib.hid hB2; clear hB2
            clear HST HNO
            go_wp2_with fail
            go_ret
            exact ⟨ret_bool HF.out.symm, HB2.out⟩
          subst d8
          by_cases d9 : xtree_depth_ = ztree_depth_
          rotate_left
          · have HF := Lib.hid (HNO.out (by simp [d9]))
            have e9_ : (xtree_depth_ == ztree_depth_) = false := by simpa using d9
            have e9b : (xtree_depth_ != ztree_depth_) = true := by simpa using d9
            have hB2 : Below w.heap.size w ((wr.alloc (.cells #[.int .i64 xid_, .string xname_, .int .i64 xtxg_, .int .i64 xprev_, .int .i64 xtree_root_at_, .int .i64 xtree_root_birth_, .int .i64 xtree_root_size_, .int .i64 xtree_root_sum_, .int .i64 xtree_root_level_, .int .i64 xtree_depth_, .int .i64 xtree_many_, .slice Aa0 na0 ca0] 113)).alloc (.cells #[.int .i64 xid_, .string xname_, .int .i64 xtxg_, .int .i64 xprev_, .int .i64 xtree_root_at_, .int .i64 xtree_root_birth_, .int .i64 xtree_root_size_, .int .i64 xtree_root_sum_, .int .i64 xtree_root_level_, .int .i64 ztree_depth_, .int .i64 ztree_many_, .slice Ab0 nb0 cb0] 113)) := hB.trans ((bel2 (w := wr)).mono hB.size)
            have HB2 := Lib.hid hB2; clear hB2
            clear HST HNO
            go_wp2_with fail
            go_ret
            exact ⟨ret_bool HF.out.symm, HB2.out⟩
          subst d9
          by_cases d10 : xtree_many_ = ztree_many_
          rotate_left
          · have HF := Lib.hid (HNO.out (by simp [d10]))
            have e10_ : (xtree_many_ == ztree_many_) = false := by simpa using d10
            have e10b : (xtree_many_ != ztree_many_) = true := by simpa using d10
            have hB2 : Below w.heap.size w ((wr.alloc (.cells #[.int .i64 xid_, .string xname_, .int .i64 xtxg_, .int .i64 xprev_, .int .i64 xtree_root_at_, .int .i64 xtree_root_birth_, .int .i64 xtree_root_size_, .int .i64 xtree_root_sum_, .int .i64 xtree_root_level_, .int .i64 xtree_depth_, .int .i64 xtree_many_, .slice Aa0 na0 ca0] 113)).alloc (.cells #[.int .i64 xid_, .string xname_, .int .i64 xtxg_, .int .i64 xprev_, .int .i64 xtree_root_at_, .int .i64 xtree_root_birth_, .int .i64 xtree_root_size_, .int .i64 xtree_root_sum_, .int .i64 xtree_root_level_, .int .i64 xtree_depth_, .int .i64 ztree_many_, .slice Ab0 nb0 cb0] 113)) := hB.trans ((bel2 (w := wr)).mono hB.size)
            have HB2 := Lib.hid hB2; clear hB2
            clear HST HNO
            go_wp2_with fail
            go_ret
            exact ⟨ret_bool HF.out.symm, HB2.out⟩
          subst d10
          go_wp2_with fail
          refine (l21Ptrs_any _ _ _ _ _ _ xdead_ zdead_ _ _ _ _ _ (SliceR.below G.out bel2 (PtrR.below bel2 G.out.lo_le)) (SliceR.below G'.out bel2 (PtrR.below bel2 G'.out.lo_le))).mono ?_
          generalize hs : same xdead_ zdead_ = bq
          rintro e w2 ⟨rfl, hb2⟩
          have hS2 : Below wr.heap.size wr w2 := bel2.trans (hb2.mono (by simp <;> omega))
          have hB2 : Below w.heap.size w w2 := hB.trans (hS2.mono hB.size)
          have v0 := (hS2.cell u0).trans g0
          have v1 := (hS2.cell u0).trans g1
          have v2 := (hS2.cell u1).trans g2
          have v3 := (hS2.cell u1).trans g3
          clear hS2 hb2 g0 g1 g2 g3 u0 u1 bl bl' q0 r0 q1 r1 q2 r2 q3 r3 q4 r4 q5 r5 q6 r6 q7 r7 q8 r8 q9 r9 q10 r10 q11 r11
          cases bq
          · have HF := Lib.hid (HNO.out (by intro hh; simp at hh; rw [hh, same_iff.2 rfl] at hs; cases hs)); clear hs HST HNO
            go_wp2_with fail
            go_ret
            exact ⟨ret_bool HF.out.symm, hB2⟩
          · have hs2 := same_iff.1 hs; clear hs; subst hs2
            have HS2 := Lib.hid (HST.out rfl); clear HST HNO
            go_wp2_with fail
            go_roundw
            case rel => exact ⟨k + 1, by omega, by go_num, HS2, hB2, v0, v1, v2, v3⟩
            case measure => simp [intOf]; omega
        · obtain rfl : n1 = k := by omega
          have F1 := Lib.hid (same_all HP.out HL1.out KL1.out); clear HP
          go_wp2_with fail
          go_ret
          exact ⟨ret_bool (TY.out F0.out F1.out).symm, hB⟩

end Go.Proofs.Ytodibogijnjlaaa
