/- RaidOk of the program and of the reference. No condition. -/
import Derived.Test.YtfokpjoeankobaaTypes
import Derived.Test.YtfokpjoeankobaaChecked
namespace Go.Proofs.Ytfokpjoeankobaa
set_option linter.unusedVariables false
set_option linter.unusedSimpArgs false
set_option linter.unnecessarySimpa false
section
open Go.RowKit

theorem str_ne0 {a : ByteArray} (h : ¬ a.size = 0) : ¬ a.toList = [] := fun e => h (by
  rw [ByteArray.toList_eq] at e
  have := congrArg List.length e
  simpa using this)
theorem str_isE {a : ByteArray} (h : ¬ a.size = 0) : a.toList.isEmpty = false := by
  have := str_ne0 h
  cases hl : a.toList with
  | nil => exact absurd hl this
  | cons _ _ => rfl
theorem str_nil {a : ByteArray} (h : a.size = 0) : a = ⟨#[]⟩ := by
  cases a with
  | mk d => have : d.size = 0 := h; rw [Array.eq_empty_of_size_eq_zero this]
def textOk (gone : Bool) (s : ByteArray) : Bool := decide (s.size ≤ 200) && (!gone || decide (s.size = 0))
def waitOk (x : WaitD) : Bool := inB x.1 0 63 && decide (x.2.size ≤ 200)
def diskOk (d : DiskD) : Bool := decide (d.1.length = 64) && decide (d.2.1.length ≤ 120) && d.1.all (textOk d.2.2) && !(d.2.2 && decide (0 < d.2.1.length)) && d.2.1.all waitOk
theorem all_no {α : Type} {f : α → Bool} {xs : List α} {k : Nat} {x : α} (hx : xs[k]? = some x) (h : f x = false) : xs.all f = false := by
  rw [List.all_eq_false]; exact ⟨x, List.mem_of_getElem? hx, by simp [h]⟩
theorem all_upto {α : Type} {f : α → Bool} {xs : List α} {n : Nat} (hn : xs.length = n) (h : ∀ j x, j < n → xs[j]? = some x → f x = true) : xs.all f = true := by
  rw [List.all_eq_true]; intro x hx
  obtain ⟨j, hj, rfl⟩ := List.mem_iff_getElem.1 hx
  exact h j _ (by omega) (List.getElem?_eq_getElem hj)
theorem upto_step {α : Type} {f : α → Bool} {xs : List α} {k : Nat} {x : α} (hp : ∀ j y, j < k → xs[j]? = some y → f y = true) (hx : xs[k]? = some x) (h : f x = true) : ∀ j y, j < k + 1 → xs[j]? = some y → f y = true := by
  intro j y hj hy
  rcases Nat.lt_or_ge j k with h2 | h2
  · exact hp j y h2 hy
  · obtain rfl : j = k := by omega
    rw [hx] at hy; obtain rfl := Option.some.inj hy; exact h

set_option maxRecDepth 100000 in
set_option maxHeartbeats 1000000 in
theorem waitBad_any (a : Int) (s : ByteArray) (w : World) (hs : s.size ≤ maxLen) : Calls Try.prog 58 #[.agg #[.int .i64 a, .string s]] w fun e w' => e = .returned (.bool (!waitOk (a, s))) ∧ Below w.heap.size w w' := by
  unfold maxLen at hs
  have R1 := isCell_any a
  have HB : Hid ((!waitOk (a, s)) = (!inB a 0 63 || !decide (s.size ≤ 200))) := Lib.hid (by unfold waitOk; simp)
  generalize (!waitOk (a, s)) = res at *
  cases e1 : inB a 0 63
  · rw [e1] at R1
    have HF := Lib.hid (show res = true by rw [HB.out, e1]; rfl)
    clear e1
    go_enter Try.func58, Try.ntmps58
    go_wp2_with (go_at_call 59; with_reducible refine (R1 _).mono ?_; rintro e w' ⟨rfl, rfl⟩)
    go_ret
    exact ⟨ret_bool HF.out.symm, bel1⟩
  · rw [e1] at R1
    have HF := Lib.hid (show res = decide (200 < (s.size : Int)) by rw [HB.out, e1, Bool.eq_iff_iff]; simp; omega)
    clear e1
    go_enter Try.func58, Try.ntmps58
    go_wp2_with (go_at_call 59; with_reducible refine (R1 _).mono ?_; rintro e w' ⟨rfl, rfl⟩)
    go_ret
    exact ⟨ret_bool HF.out.symm, bel1⟩
/-- What slices.IndexFunc returns. -/
def IdxB (b : Bool) (w : World) (e : Ending) (w' : World) : Prop := ∃ r : Int, e = .returned (.int .i64 r) ∧ decide (0 ≤ r) = b ∧ Below w.heap.size w w'
set_option maxRecDepth 100000 in
set_option maxHeartbeats 2000000 in
theorem indexWait_any (A : Option Addr) (n c : Nat) (xs : List WaitD) (w : World) (lo hi : Nat) (h : SliceR WaitR 2 w lo hi A n c xs) :
    Calls Try.prog 73 #[.slice A n c, .func (.func 58) #[] #[]] w (IdxB (!xs.all waitOk) w) := by
  have hn := h.max
  have HL := Lib.hid h.len
  have H := Lib.hid h; clear h
  go_enter Try.func73, Try.ntmps73
  go_wp2_with fail
  go_loopw [8] (fun s wr => ∃ k : Nat, k ≤ n ∧ s = .int .i64 k ∧ Hid (∀ j x, j < k → xs[j]? = some x → waitOk x = true) ∧ Hid (Below w.heap.size w wr)) (fun s _ => n - (intOf s).toNat)
  case atStart => exact ⟨0, Nat.zero_le _, rfl, Lib.hid (fun j x hj => absurd hj (by omega)), Lib.hid (Below.refl _ _)⟩
  case round =>
    obtain ⟨k, hk, rfl, HP, HB⟩ := hrel
    by_cases hlt : k < n
    · obtain ⟨x, hx⟩ : ∃ x, xs[k]? = some x := ⟨xs[k]'(by rw [HL.out]; exact hlt), List.getElem?_eq_getElem _⟩
      obtain ⟨b, off, rfl, _, _, bl, hc⟩ := (SliceR.below H.out HB.out (WaitR.below HB.out H.out.lo_le)).at_ (by omega)
      obtain ⟨cs, hcl, hcc, hr⟩ := hc k x hx
      clear hc
      obtain ⟨a, s⟩ := x
      obtain ⟨rfl, hs⟩ := hr
      have q0 := hcc 0 _ rfl
      have q1 := hcc 1 _ rfl
      simp only [Nat.add_zero] at q0
      clear hcc hcl
      have HX := Lib.hid hx; clear hx
      have R := waitBad_any a s wr hs
      have k0 : (0 : Int) ≤ (k : Int) := by omega
      have k1 : (k : Int) < (n : Int) := by omega
      cases e1 : waitOk (a, s)
      · have HF := Lib.hid (show (!xs.all waitOk) = true by rw [all_no HX.out e1]; rfl)
        rw [e1] at R
        have HR := Lib.hid R; clear R e1
        go_wp2_with fail
        refine HR.out.mono ?_
        rintro e w2 ⟨rfl, hb2⟩
        have HB2 : Hid (Below w.heap.size w w2) := Lib.hid (HB.out.trans (hb2.mono HB.out.size))
        clear hb2
        go_wp2_with fail
        go_ret
        exact ⟨k, rfl, by rw [HF.out]; simp, HB2.out⟩
      · have HF := Lib.hid (upto_step HP.out HX.out e1)
        rw [e1] at R
        have HR := Lib.hid R; clear R e1
        go_wp2_with fail
        refine HR.out.mono ?_
        rintro e w2 ⟨rfl, hb2⟩
        have HB2 : Hid (Below w.heap.size w w2) := Lib.hid (HB.out.trans (hb2.mono HB.out.size))
        clear hb2
        go_wp2_with fail
        go_roundw
        case rel => exact ⟨k + 1, by omega, by go_num, HF, HB2⟩
        case measure => simp [intOf]; omega
    · obtain rfl : k = n := by omega
      have HF := Lib.hid (show (!xs.all waitOk) = false by rw [all_upto HL.out HP.out]; rfl)
      go_wp2_with fail
      go_ret
      exact ⟨-1, rfl, by rw [HF.out]; rfl, HB.out⟩

set_option maxRecDepth 100000 in
set_option maxHeartbeats 1000000 in
theorem containsWait_any (A : Option Addr) (n c : Nat) (xs : List WaitD) (w : World) (lo hi : Nat) (h : SliceR WaitR 2 w lo hi A n c xs) :
    Calls Try.prog 57 #[.slice A n c, .func (.func 58) #[] #[]] w fun e w' => e = .returned (.bool (!xs.all waitOk)) ∧ Below w.heap.size w w' := by
  have R := Lib.hid (indexWait_any A n c xs w lo hi h)
  clear h
  go_enter Try.func57, Try.ntmps57
  go_wp2_with fail
  refine R.out.mono ?_
  rintro e w1 ⟨r, rfl, hr, hb⟩
  have HR := Lib.hid hr; clear hr
  go_wp2_with fail
  go_ret
  exact ⟨ret_bool HR.out, hb⟩
set_option maxRecDepth 100000 in
set_option maxHeartbeats 4000000 in
theorem diskOk_any (cs : List Value) (x : DiskD) (w : World) (lo hi : Nat) (h : DiskR w lo hi cs x) :
    Calls Try.prog 34 #[.agg cs.toArray] w fun e w' => e = .returned (.bool (diskOk x)) ∧ Below w.heap.size w w' := by
  obtain ⟨x0, x1, gone⟩ := x
  obtain ⟨A0, n0, c0, A1, n1, c1, rfl, h0, h1⟩ := h
  show Calls Try.prog 34 #[.agg #[.slice A0 n0 c0, .slice A1 n1 c1, .bool gone]] w _
  have g0 : x0.length = n0 := h0.len
  have g1 : x1.length = n1 := h1.len
  have hm0 := h0.max; have hm1 := h1.max
  have HRES : Hid (diskOk (x0, x1, gone) = (decide (n0 = 64) && decide (n1 ≤ 120) && x0.all (textOk gone) && !(gone && decide (0 < n1)) && x1.all waitOk)) := Lib.hid (by unfold diskOk; simp only; rw [g0, g1])
  generalize diskOk (x0, x1, gone) = res at *
  have G0 := Lib.hid g0; have G1 := Lib.hid g1; clear g0 g1
  have H0 := Lib.hid h0; have H1 := Lib.hid h1; clear h0 h1
  by_cases t0 : n0 = 64
  rotate_left
  · have e0 : ((n0 : Int) != 64) = true := by simp; omega
    have e1 : ((n0 : Int) == 64) = false := by simp; omega
    have HF := Lib.hid (show res = false by rw [HRES.out, decide_eq_false t0]; rfl)
    clear t0
    go_enter Try.func34, Try.ntmps34
    go_wp2_with fail
    go_ret
    exact ⟨ret_bool HF.out.symm, bel1⟩
  subst t0
  by_cases t1 : n1 ≤ 120
  rotate_left
  · have e0 : decide ((120 : Int) < (n1 : Int)) = true := by simp; omega
    have e1 : (120 : Int) < (n1 : Int) := by omega
    have HF := Lib.hid (show res = false by rw [HRES.out, decide_eq_false t1]; simp)
    clear t1
    go_enter Try.func34, Try.ntmps34
    go_wp2_with fail
    go_ret
    exact ⟨ret_bool HF.out.symm, bel1⟩
  have e2 : ¬ (120 : Int) < (n1 : Int) := by omega
  cases gone
  · go_enter Try.func34, Try.ntmps34
    go_wp2_with fail
    go_loop [18] (fun i => ∃ k : Nat, k ≤ 64 ∧ i = .int .i64 k ∧ Hid (∀ j y, j < k → x0[j]? = some y → textOk false y = true)) (fun i => 64 - (intOf i).toNat)
    case atStart => exact ⟨0, Nat.zero_le _, rfl, Lib.hid (fun j y hj => absurd hj (by omega))⟩
    case round =>
      obtain ⟨k, hk, rfl, HP⟩ := hrel
      by_cases hlt : k < 64
      · obtain ⟨s, hx⟩ : ∃ s, x0[k]? = some s := ⟨x0[k]'(by rw [G0.out]; exact hlt), List.getElem?_eq_getElem _⟩
        obtain ⟨b, off, rfl, _, _, bl, hc⟩ := (SliceR.below H0.out (bel1 (o := .cells #[.slice A0 64 c0, .slice A1 n1 c1, .bool false] 45)) (StrR.below bel1 H0.out.lo_le)).at_ (by omega)
        obtain ⟨cs, hcl, hcc, rfl, hs⟩ := hc k s hx
        clear hc
        have q0 := hcc 0 _ rfl
        simp only [Nat.mul_one, Nat.add_zero] at q0
        clear hcc hcl
        unfold maxLen at hs
        have HX := Lib.hid hx; clear hx
        have k0 : (0 : Int) ≤ (k : Int) := by omega
        have k1 : (k : Int) < 64 := by omega
        by_cases s0 : s.size ≤ 200
        rotate_left
        · have b0 : (200 : Int) < (s.size : Int) := by omega
          have HF := Lib.hid (show res = false by rw [HRES.out, all_no HX.out (show textOk false s = false by unfold textOk; rw [decide_eq_false s0]; rfl)]; simp)
          go_wp2_with fail
          go_ret
          exact ⟨ret_bool HF.out.symm, bel1⟩
        have b0 : ¬ (200 : Int) < (s.size : Int) := by omega
        have HN : Hid (∀ j y, j < k + 1 → x0[j]? = some y → textOk false y = true) := Lib.hid (upto_step HP.out HX.out (by unfold textOk; simp [s0]))
        go_wp2_with fail
        go_round
        case rel => exact ⟨k + 1, by omega, by go_num, HN⟩
        case measure => simp [intOf]; omega
      · obtain rfl : k = 64 := by omega
        have HA : Hid (x0.all (textOk false) = true) := Lib.hid (all_upto G0.out HP.out)
        have HF := Lib.hid (show res = x1.all waitOk by rw [HRES.out, HA.out, decide_eq_true t1]; simp)
        have HC := Lib.hid (containsWait_any A1 n1 c1 x1 _ lo hi (SliceR.below H1.out (bel1 (o := .cells #[.slice A0 64 c0, .slice A1 n1 c1, .bool false] 45)) (WaitR.below bel1 H1.out.lo_le)))
        go_wp2_with fail
        refine HC.out.mono ?_
        rintro e w1 ⟨rfl, hb1⟩
        have X1 : Below w.heap.size w w1 := bel1.trans (hb1.mono (by simp))
        clear hb1
        go_wp2_with fail
        go_ret
        exact ⟨ret_bool (by simp [HF.out]), X1⟩
  · go_enter Try.func34, Try.ntmps34
    go_wp2_with fail
    go_loop [18] (fun i => ∃ k : Nat, k ≤ 64 ∧ i = .int .i64 k ∧ Hid (∀ j y, j < k → x0[j]? = some y → textOk true y = true)) (fun i => 64 - (intOf i).toNat)
    case atStart => exact ⟨0, Nat.zero_le _, rfl, Lib.hid (fun j y hj => absurd hj (by omega))⟩
    case round =>
      obtain ⟨k, hk, rfl, HP⟩ := hrel
      by_cases hlt : k < 64
      · obtain ⟨s, hx⟩ : ∃ s, x0[k]? = some s := ⟨x0[k]'(by rw [G0.out]; exact hlt), List.getElem?_eq_getElem _⟩
        obtain ⟨b, off, rfl, _, _, bl, hc⟩ := (SliceR.below H0.out (bel1 (o := .cells #[.slice A0 64 c0, .slice A1 n1 c1, .bool true] 45)) (StrR.below bel1 H0.out.lo_le)).at_ (by omega)
        obtain ⟨cs, hcl, hcc, rfl, hs⟩ := hc k s hx
        clear hc
        have q0 := hcc 0 _ rfl
        simp only [Nat.mul_one, Nat.add_zero] at q0
        clear hcc hcl
        unfold maxLen at hs
        have HX := Lib.hid hx; clear hx
        have k0 : (0 : Int) ≤ (k : Int) := by omega
        have k1 : (k : Int) < 64 := by omega
        by_cases s0 : s.size ≤ 200
        rotate_left
        · have b0 : (200 : Int) < (s.size : Int) := by omega
          have HF := Lib.hid (show res = false by rw [HRES.out, all_no HX.out (show textOk true s = false by unfold textOk; rw [decide_eq_false s0]; rfl)]; simp)
          go_wp2_with fail
          go_ret
          exact ⟨ret_bool HF.out.symm, bel1⟩
        have b0 : ¬ (200 : Int) < (s.size : Int) := by omega
        by_cases z0 : s.size = 0
        rotate_left
        · have f1 := str_ne0 z0
          have f2 := str_isE z0
          have HF := Lib.hid (show res = false by rw [HRES.out, all_no HX.out (show textOk true s = false by unfold textOk; rw [decide_eq_false z0]; simp)]; simp)
          clear z0
          go_wp2_with fail
          go_ret
          exact ⟨ret_bool HF.out.symm, bel1⟩
        obtain rfl := str_nil z0
        have HN : Hid (∀ j y, j < k + 1 → x0[j]? = some y → textOk true y = true) := Lib.hid (upto_step HP.out HX.out rfl)
        go_wp2_with fail
        go_round
        case rel => exact ⟨k + 1, by omega, by go_num, HN⟩
        case measure => simp [intOf]; omega
      · obtain rfl : k = 64 := by omega
        have HA : Hid (x0.all (textOk true) = true) := Lib.hid (all_upto G0.out HP.out)
        by_cases z1 : 0 < n1
        · have d1 : (0 : Int) < (n1 : Int) := by omega
          have HF := Lib.hid (show res = false by rw [HRES.out, decide_eq_true z1]; simp)
          go_wp2_with fail
          go_ret
          exact ⟨ret_bool HF.out.symm, bel1⟩
        have d1 : ¬ (0 : Int) < (n1 : Int) := by omega
        have HF := Lib.hid (show res = x1.all waitOk by rw [HRES.out, HA.out, decide_eq_false z1, decide_eq_true t1]; simp)
        obtain rfl : n1 = 0 := by omega
        clear z1
        have HC := Lib.hid (containsWait_any A1 0 c1 x1 _ lo hi (SliceR.below H1.out (bel1 (o := .cells #[.slice A0 64 c0, .slice A1 0 c1, .bool true] 45)) (WaitR.below bel1 H1.out.lo_le)))
        go_wp2_with fail
        refine HC.out.mono ?_
        rintro e w1 ⟨rfl, hb1⟩
        have X1 : Below w.heap.size w w1 := bel1.trans (hb1.mono (by simp))
        clear hb1
        go_wp2_with fail
        go_ret
        exact ⟨ret_bool (by simp [HF.out]), X1⟩

set_option maxRecDepth 100000 in
set_option maxHeartbeats 4000000 in
theorem spDiskOk_any (cs : List Value) (x : DiskD) (w : World) (lo hi : Nat) (h : DiskR w lo hi cs x) :
    Calls Try.prog 53 #[.agg cs.toArray] w fun e w' => e = .returned (.bool (diskOk x)) ∧ Below w.heap.size w w' := by
  obtain ⟨x0, x1, gone⟩ := x
  obtain ⟨A0, n0, c0, A1, n1, c1, rfl, h0, h1⟩ := h
  show Calls Try.prog 53 #[.agg #[.slice A0 n0 c0, .slice A1 n1 c1, .bool gone]] w _
  have g0 : x0.length = n0 := h0.len
  have g1 : x1.length = n1 := h1.len
  have hm0 := h0.max; have hm1 := h1.max
  have HRES : Hid (diskOk (x0, x1, gone) = (decide (n0 = 64) && decide (n1 ≤ 120) && x0.all (textOk gone) && !(gone && decide (0 < n1)) && x1.all waitOk)) := Lib.hid (by unfold diskOk; simp only; rw [g0, g1])
  generalize diskOk (x0, x1, gone) = res at *
  have G0 := Lib.hid g0; have G1 := Lib.hid g1; clear g0 g1
  have H0 := Lib.hid h0; have H1 := Lib.hid h1; clear h0 h1
  by_cases t0 : n0 = 64
  rotate_left
  · have e0 : ((n0 : Int) != 64) = true := by simp; omega
    have e1 : ((n0 : Int) == 64) = false := by simp; omega
    have HF := Lib.hid (show res = false by rw [HRES.out, decide_eq_false t0]; rfl)
    clear t0
    go_enter Try.func53, Try.ntmps53
    go_wp2_with fail
    go_ret
    exact ⟨ret_bool HF.out.symm, bel1⟩
  subst t0
  by_cases t1 : n1 ≤ 120
  rotate_left
  · have e0 : decide ((120 : Int) < (n1 : Int)) = true := by simp; omega
    have e1 : (120 : Int) < (n1 : Int) := by omega
    have HF := Lib.hid (show res = false by rw [HRES.out, decide_eq_false t1]; simp)
    clear t1
    go_enter Try.func53, Try.ntmps53
    go_wp2_with fail
    go_ret
    exact ⟨ret_bool HF.out.symm, bel1⟩
  have e2 : ¬ (120 : Int) < (n1 : Int) := by omega
  cases gone
  · skip
    go_enter Try.func53, Try.ntmps53
    go_wp2_with fail
    go_loop [3] (fun i => ∃ k : Nat, k ≤ 64 ∧ i = .int .i64 k ∧ Hid (∀ j y, j < k → x0[j]? = some y → textOk false y = true)) (fun i => 64 - (intOf i).toNat)
    case atStart => exact ⟨0, Nat.zero_le _, rfl, Lib.hid (fun j y hj => absurd hj (by omega))⟩
    case round =>
      obtain ⟨k, hk, rfl, HP⟩ := hrel
      by_cases hlt : k < 64
      · obtain ⟨s, hx⟩ : ∃ s, x0[k]? = some s := ⟨x0[k]'(by rw [G0.out]; exact hlt), List.getElem?_eq_getElem _⟩
        obtain ⟨b, off, rfl, _, _, bl, hc⟩ := (SliceR.below H0.out (bel1 (o := .cells #[.slice A0 64 c0, .slice A1 n1 c1, .bool false] 45)) (StrR.below bel1 H0.out.lo_le)).at_ (by omega)
        obtain ⟨cs, hcl, hcc, rfl, hs⟩ := hc k s hx
        clear hc
        have q0 := hcc 0 _ rfl
        simp only [Nat.mul_one, Nat.add_zero] at q0
        clear hcc hcl
        unfold maxLen at hs
        have HX := Lib.hid hx; clear hx
        have k0 : (0 : Int) ≤ (k : Int) := by omega
        have k1 : (k : Int) < 64 := by omega
        by_cases s0 : s.size ≤ 200
        rotate_left
        · have b0 : (200 : Int) < (s.size : Int) := by omega
          have HF := Lib.hid (show res = false by rw [HRES.out, all_no HX.out (show textOk false s = false by unfold textOk; rw [decide_eq_false s0]; rfl)]; simp)
          go_wp2_with fail
          go_ret
          exact ⟨ret_bool HF.out.symm, bel1⟩
        have b0 : ¬ (200 : Int) < (s.size : Int) := by omega
        have HN : Hid (∀ j y, j < k + 1 → x0[j]? = some y → textOk false y = true) := Lib.hid (upto_step HP.out HX.out (by unfold textOk; simp [s0]))
        go_wp2_with fail
        go_round
        case rel => exact ⟨k + 1, by omega, by go_num, HN⟩
        case measure => simp [intOf]; omega
      · obtain rfl : k = 64 := by omega
        have HA : Hid (x0.all (textOk false) = true) := Lib.hid (all_upto G0.out HP.out)
        have HF := Lib.hid (show res = x1.all waitOk by rw [HRES.out, HA.out, decide_eq_true t1]; simp)
        go_wp2_with fail
        go_loop [4] (fun i => ∃ k : Nat, k ≤ n1 ∧ i = .int .i64 k ∧ Hid (∀ j y, j < k → x1[j]? = some y → waitOk y = true)) (fun i => n1 - (intOf i).toNat)
        case atStart => exact ⟨0, Nat.zero_le _, rfl, Lib.hid (fun j y hj => absurd hj (by omega))⟩
        case round =>
          obtain ⟨k, hk, rfl, HP2⟩ := hrel
          by_cases hlt : k < n1
          · obtain ⟨x, hx⟩ : ∃ x, x1[k]? = some x := ⟨x1[k]'(by rw [G1.out]; exact hlt), List.getElem?_eq_getElem _⟩
            obtain ⟨b, off, rfl, _, _, bl, hc⟩ := (SliceR.below H1.out (bel1 (o := .cells #[.slice A0 64 c0, .slice A1 n1 c1, .bool false] 45)) (WaitR.below bel1 H1.out.lo_le)).at_ (by omega)
            obtain ⟨cs, hcl, hcc, hr⟩ := hc k x hx
            clear hc
            obtain ⟨a, s⟩ := x
            obtain ⟨rfl, hs⟩ := hr
            have q0 := hcc 0 _ rfl
            have q1 := hcc 1 _ rfl
            simp only [Nat.add_zero] at q0
            clear hcc hcl
            unfold maxLen at hs
            have HX := Lib.hid hx; clear hx
            have k0 : (0 : Int) ≤ (k : Int) := by omega
            have k1 : (k : Int) < (n1 : Int) := by omega
            have R1 := l3Cell_any a
            have HW : Hid (waitOk (a, s) = (inB a 0 63 && decide (s.size ≤ 200))) := Lib.hid rfl
            cases a1 : inB a 0 63
            · have HF2 := Lib.hid (show res = false by rw [HF.out, all_no HX.out (show waitOk (a, s) = false by rw [HW.out, a1]; rfl)])
              rw [a1] at R1
              clear a1
              go_wp2_with (go_at_call 72; with_reducible refine (R1 _).mono ?_; rintro e w' ⟨rfl, rfl⟩)
              go_ret
              exact ⟨ret_bool HF2.out.symm, bel1⟩
            have HA1 := Lib.hid a1
            rw [a1] at R1
            clear a1
            by_cases s0 : s.size ≤ 200
            · have b0 : ¬ (200 : Int) < (s.size : Int) := by omega
              have HN : Hid (∀ j y, j < k + 1 → x1[j]? = some y → waitOk y = true) := Lib.hid (upto_step HP2.out HX.out (by rw [HW.out, HA1.out, decide_eq_true s0]; rfl))
              go_wp2_with (go_at_call 72; with_reducible refine (R1 _).mono ?_; rintro e w' ⟨rfl, rfl⟩)
              go_round
              case rel => exact ⟨k + 1, by omega, by go_num, HN⟩
              case measure => simp [intOf]; omega
            · have b0 : (200 : Int) < (s.size : Int) := by omega
              have HF2 := Lib.hid (show res = false by rw [HF.out, all_no HX.out (show waitOk (a, s) = false by rw [HW.out, decide_eq_false s0]; simp)])
              go_wp2_with (go_at_call 72; with_reducible refine (R1 _).mono ?_; rintro e w' ⟨rfl, rfl⟩)
              go_ret
              exact ⟨ret_bool HF2.out.symm, bel1⟩
          · obtain rfl : k = n1 := by omega
            have HF2 := Lib.hid (show res = true by rw [HF.out, all_upto G1.out HP2.out])
            go_wp2_with fail
            go_ret
            exact ⟨ret_bool HF2.out.symm, bel1⟩
  · by_cases z1 : 0 < n1
    · have d1 : (0 : Int) < (n1 : Int) := by omega
      have HF := Lib.hid (show res = false by rw [HRES.out, decide_eq_true z1]; simp)
      go_enter Try.func53, Try.ntmps53
      go_wp2_with fail
      go_ret
      exact ⟨ret_bool HF.out.symm, bel1⟩
    obtain rfl : n1 = 0 := by omega
    go_enter Try.func53, Try.ntmps53
    go_wp2_with fail
    go_loop [3] (fun i => ∃ k : Nat, k ≤ 64 ∧ i = .int .i64 k ∧ Hid (∀ j y, j < k → x0[j]? = some y → textOk true y = true)) (fun i => 64 - (intOf i).toNat)
    case atStart => exact ⟨0, Nat.zero_le _, rfl, Lib.hid (fun j y hj => absurd hj (by omega))⟩
    case round =>
      obtain ⟨k, hk, rfl, HP⟩ := hrel
      by_cases hlt : k < 64
      · obtain ⟨s, hx⟩ : ∃ s, x0[k]? = some s := ⟨x0[k]'(by rw [G0.out]; exact hlt), List.getElem?_eq_getElem _⟩
        obtain ⟨b, off, rfl, _, _, bl, hc⟩ := (SliceR.below H0.out (bel1 (o := .cells #[.slice A0 64 c0, .slice A1 0 c1, .bool true] 45)) (StrR.below bel1 H0.out.lo_le)).at_ (by omega)
        obtain ⟨cs, hcl, hcc, rfl, hs⟩ := hc k s hx
        clear hc
        have q0 := hcc 0 _ rfl
        simp only [Nat.mul_one, Nat.add_zero] at q0
        clear hcc hcl
        unfold maxLen at hs
        have HX := Lib.hid hx; clear hx
        have k0 : (0 : Int) ≤ (k : Int) := by omega
        have k1 : (k : Int) < 64 := by omega
        by_cases s0 : s.size ≤ 200
        rotate_left
        · have b0 : (200 : Int) < (s.size : Int) := by omega
          have HF := Lib.hid (show res = false by rw [HRES.out, all_no HX.out (show textOk true s = false by unfold textOk; rw [decide_eq_false s0]; rfl)]; simp)
          go_wp2_with fail
          go_ret
          exact ⟨ret_bool HF.out.symm, bel1⟩
        have b0 : ¬ (200 : Int) < (s.size : Int) := by omega
        by_cases z0 : s.size = 0
        rotate_left
        · have f1 := str_ne0 z0
          have f2 := str_isE z0
          have HF := Lib.hid (show res = false by rw [HRES.out, all_no HX.out (show textOk true s = false by unfold textOk; rw [decide_eq_false z0]; simp)]; simp)
          clear z0
          go_wp2_with fail
          go_ret
          exact ⟨ret_bool HF.out.symm, bel1⟩
        obtain rfl := str_nil z0
        have HN : Hid (∀ j y, j < k + 1 → x0[j]? = some y → textOk true y = true) := Lib.hid (upto_step HP.out HX.out rfl)
        go_wp2_with fail
        go_round
        case rel => exact ⟨k + 1, by omega, by go_num, HN⟩
        case measure => simp [intOf]; omega
      · obtain rfl : k = 64 := by omega
        have HA : Hid (x0.all (textOk true) = true) := Lib.hid (all_upto G0.out HP.out)
        have HF := Lib.hid (show res = x1.all waitOk by rw [HRES.out, HA.out, decide_eq_false z1, decide_eq_true t1]; simp)
        go_wp2_with fail
        go_loop [4] (fun i => i = .int .i64 ((0 : Nat) : Int)) (fun _ => 0)
        case atStart => rfl
        case round =>
          obtain rfl := hrel
          have HF2 := Lib.hid (show res = true by rw [HF.out, List.eq_nil_of_length_eq_zero G1.out]; rfl)
          go_wp2_with fail
          go_ret
          exact ⟨ret_bool HF2.out.symm, bel1⟩
end
section
open Go.RowKit
def raidOk (xs : RaidD) : Bool := decide (xs.length = 3) && xs.all diskOk
set_option maxRecDepth 100000 in
set_option maxHeartbeats 1000000 in
theorem diskBad_any (cs : List Value) (x : DiskD) (w : World) (lo hi : Nat) (h : DiskR w lo hi cs x) :
    Calls Try.prog 33 #[.agg cs.toArray] w fun e w' => e = .returned (.bool (!diskOk x)) ∧ Below w.heap.size w w' := by
  have H := Lib.hid h
  obtain ⟨A0, n0, c0, A1, n1, c1, rfl, h0, h1⟩ := h
  have HLE := Lib.hid h0.lo_le
  obtain ⟨gone, hgone⟩ : ∃ g, g = x.2.2 := ⟨_, rfl⟩
  rw [← hgone] at H ⊢; clear hgone h0 h1
  show Calls Try.prog 33 #[.agg #[.slice A0 n0 c0, .slice A1 n1 c1, .bool gone]] w _
  go_enter Try.func33, Try.ntmps33
  go_wp2_with fail
  refine (diskOk_any _ x _ lo hi (DiskR.below bel1 HLE.out _ _ H.out)).mono ?_
  rintro e w1 ⟨rfl, hb1⟩
  go_wp2_with fail
  go_ret
  exact ⟨rfl, bel1.trans (hb1.mono (by simp))⟩
set_option maxRecDepth 100000 in
set_option maxHeartbeats 2000000 in
theorem indexDisk_any (A : Option Addr) (n c : Nat) (xs : List DiskD) (w : World) (lo hi : Nat) (h : SliceR DiskR 3 w lo hi A n c xs) :
    Calls Try.prog 56 #[.slice A n c, .func (.func 33) #[] #[]] w (IdxB (!xs.all diskOk) w) := by
  have hn := h.max
  have HL := Lib.hid h.len
  have H := Lib.hid h; clear h
  go_enter Try.func56, Try.ntmps56
  go_wp2_with fail
  go_loopw [8] (fun s wr => ∃ k : Nat, k ≤ n ∧ s = .int .i64 k ∧ Hid (∀ j x, j < k → xs[j]? = some x → diskOk x = true) ∧ Hid (Below w.heap.size w wr)) (fun s _ => n - (intOf s).toNat)
  case atStart => exact ⟨0, Nat.zero_le _, rfl, Lib.hid (fun j x hj => absurd hj (by omega)), Lib.hid (Below.refl _ _)⟩
  case round =>
    obtain ⟨k, hk, rfl, HP, HB⟩ := hrel
    by_cases hlt : k < n
    · obtain ⟨x, hx⟩ : ∃ x, xs[k]? = some x := ⟨xs[k]'(by rw [HL.out]; exact hlt), List.getElem?_eq_getElem _⟩
      obtain ⟨b, off, rfl, _, _, bl, hc⟩ := (SliceR.below H.out HB.out (DiskR.below HB.out H.out.lo_le)).at_ (by omega)
      obtain ⟨cs, hcl, hcc, hr⟩ := hc k x hx
      clear hc
      have R := diskBad_any cs x wr _ _ hr
      obtain ⟨gone, hgone⟩ : ∃ g, g = x.2.2 := ⟨_, rfl⟩
      obtain ⟨A0, n0, c0, A1, n1, c1, rfl, h0, h1⟩ := hr
      rw [← hgone] at R hcc
      have q0 := hcc 0 _ rfl
      have q1 := hcc 1 _ rfl
      have q2 := hcc 2 _ rfl
      simp only [Nat.add_zero] at q0
      clear hcc hcl h0 h1 hgone
      have HX := Lib.hid hx; clear hx
      have k0 : (0 : Int) ≤ (k : Int) := by omega
      have k1 : (k : Int) < (n : Int) := by omega
      cases e1 : diskOk x
      · have HF := Lib.hid (show (!xs.all diskOk) = true by rw [all_no HX.out e1]; rfl)
        rw [e1] at R
        have HR := Lib.hid R; clear R e1
        go_wp2_with fail
        refine HR.out.mono ?_
        rintro e w2 ⟨rfl, hb2⟩
        have HB2 : Hid (Below w.heap.size w w2) := Lib.hid (HB.out.trans (hb2.mono HB.out.size))
        clear hb2
        go_wp2_with fail
        go_ret
        exact ⟨k, rfl, by rw [HF.out]; simp, HB2.out⟩
      · have HF := Lib.hid (upto_step HP.out HX.out e1)
        rw [e1] at R
        have HR := Lib.hid R; clear R e1
        go_wp2_with fail
        refine HR.out.mono ?_
        rintro e w2 ⟨rfl, hb2⟩
        have HB2 : Hid (Below w.heap.size w w2) := Lib.hid (HB.out.trans (hb2.mono HB.out.size))
        clear hb2
        go_wp2_with fail
        go_roundw
        case rel => exact ⟨k + 1, by omega, by go_num, HF, HB2⟩
        case measure => simp [intOf]; omega
    · obtain rfl : k = n := by omega
      have HF := Lib.hid (show (!xs.all diskOk) = false by rw [all_upto HL.out HP.out]; rfl)
      go_wp2_with fail
      go_ret
      exact ⟨-1, rfl, by rw [HF.out]; rfl, HB.out⟩
set_option maxRecDepth 100000 in
set_option maxHeartbeats 1000000 in
theorem containsDisk_any (A : Option Addr) (n c : Nat) (xs : List DiskD) (w : World) (lo hi : Nat) (h : SliceR DiskR 3 w lo hi A n c xs) :
    Calls Try.prog 32 #[.slice A n c, .func (.func 33) #[] #[]] w fun e w' => e = .returned (.bool (!xs.all diskOk)) ∧ Below w.heap.size w w' := by
  have R := Lib.hid (indexDisk_any A n c xs w lo hi h)
  clear h
  go_enter Try.func32, Try.ntmps32
  go_wp2_with fail
  refine R.out.mono ?_
  rintro e w1 ⟨r, rfl, hr, hb⟩
  have HR := Lib.hid hr; clear hr
  go_wp2_with fail
  go_ret
  exact ⟨ret_bool HR.out, hb⟩
set_option maxRecDepth 100000 in
set_option maxHeartbeats 2000000 in
theorem raidOk_any (cs : List Value) (x : RaidD) (w : World) (lo hi : Nat) (h : RaidR w lo hi cs x) :
    Calls Try.prog 15 #[.agg cs.toArray] w fun e w' => e = .returned (.bool (raidOk x)) ∧ Below w.heap.size w w' := by
  obtain ⟨A, n, c, rfl, h0⟩ := h
  have HRES : Hid (raidOk x = (decide (n = 3) && x.all diskOk)) := Lib.hid (by unfold raidOk; rw [h0.len])
  generalize raidOk x = res at *
  have hm := h0.max
  have H0 := Lib.hid h0; clear h0
  show Calls Try.prog 15 #[.agg #[.slice A n c]] w _
  by_cases t0 : n = 3
  rotate_left
  · have e1 : ((n : Int) == 3) = false := by rw [beq_eq_false_iff_ne]; omega
    have HF := Lib.hid (show res = false by rw [HRES.out, decide_eq_false t0]; rfl)
    clear t0
    go_enter Try.func15, Try.ntmps15
    go_wp2_with fail
    go_ret
    exact ⟨ret_bool HF.out.symm, bel1⟩
  subst t0
  go_enter Try.func15, Try.ntmps15
  go_wp2_with fail
  refine (containsDisk_any A 3 c x _ lo hi (SliceR.below H0.out bel1 (DiskR.below bel1 H0.out.lo_le))).mono ?_
  rintro e w1 ⟨rfl, hb1⟩
  have X1 : Below w.heap.size w w1 := bel1.trans (hb1.mono (by simp))
  clear hb1
  have HF := Lib.hid (show res = x.all diskOk by rw [HRES.out]; simp)
  generalize x.all diskOk = b at *
  go_wp2_with fail
  go_ret
  exact ⟨ret_bool (by rw [HF.out] <;> simp), X1⟩
set_option maxRecDepth 100000 in
set_option maxHeartbeats 2000000 in
theorem spRaidOk_any (cs : List Value) (x : RaidD) (w : World) (lo hi : Nat) (h : RaidR w lo hi cs x) :
    Calls Try.prog 28 #[.agg cs.toArray] w fun e w' => e = .returned (.bool (raidOk x)) ∧ Below w.heap.size w w' := by
  obtain ⟨A, n, c, rfl, h0⟩ := h
  have HRES : Hid (raidOk x = (decide (n = 3) && x.all diskOk)) := Lib.hid (by unfold raidOk; rw [h0.len])
  generalize raidOk x = res at *
  have hm := h0.max
  have HL := Lib.hid h0.len
  have H := Lib.hid h0; clear h0
  show Calls Try.prog 28 #[.agg #[.slice A n c]] w _
  go_enter Try.func28, Try.ntmps28
  go_wp2_with fail
  obtain ⟨w1, hW⟩ : ∃ w1, w1 = w.alloc (.cells #[.slice A n c] 35) := ⟨_, rfl⟩
  have X1 : Below w.heap.size w w1 := by rw [hW]; exact bel1
  have q : w1.cell? ⟨w.heap.size, 0, none⟩ = some (.slice A n c) := by rw [hW]; simp [go_sem]
  have lq : w.heap.size < w1.heap.size := by rw [hW]; simp
  rw [← hW]; clear hW
  have HX1 := Lib.hid X1; have HQ := Lib.hid q
  clear X1 q
  go_loopw [3] (fun s wr => ∃ k : Nat, k ≤ n ∧ s = .int .i64 k ∧ Hid (∀ j x_1, j < k → x[j]? = some x_1 → diskOk x_1 = true) ∧ Hid (Below w1.heap.size w1 wr)) (fun s _ => n - (intOf s).toNat)
  case atStart => exact ⟨0, Nat.zero_le _, rfl, Lib.hid (fun j x hj => absurd hj (by omega)), Lib.hid (Below.refl _ _)⟩
  case round =>
    obtain ⟨k, hk, rfl, HP, HBr⟩ := hrel
    have HB : Hid (Below w.heap.size w wr) := Lib.hid (HX1.out.trans (HBr.out.mono HX1.out.size))
    have qr : wr.cell? ⟨w.heap.size, 0, none⟩ = some (.slice A n c) := (HBr.out.cell lq).trans HQ.out
    by_cases hlt : k < n
    · obtain ⟨d, hx⟩ : ∃ d, x[k]? = some d := ⟨x[k]'(by rw [HL.out]; exact hlt), List.getElem?_eq_getElem _⟩
      obtain ⟨b, off, rfl, _, _, bl, hc⟩ := (SliceR.below H.out HB.out (DiskR.below HB.out H.out.lo_le)).at_ (by omega)
      obtain ⟨cs, hcl, hcc, hr⟩ := hc k d hx
      clear hc
      have R := spDiskOk_any cs d wr _ _ hr
      obtain ⟨gone, hgone⟩ : ∃ g, g = d.2.2 := ⟨_, rfl⟩
      obtain ⟨A0, n0, c0, A1, n1, c1, rfl, h0, h1⟩ := hr
      rw [← hgone] at R hcc
      have q0 := hcc 0 _ rfl
      have q1 := hcc 1 _ rfl
      have q2 := hcc 2 _ rfl
      simp only [Nat.add_zero] at q0
      clear hcc hcl h0 h1 hgone
      have HX := Lib.hid hx; clear hx
      have k0 : (0 : Int) ≤ (k : Int) := by omega
      have k1 : (k : Int) < (n : Int) := by omega
      cases e1 : diskOk d
      · have HF := Lib.hid (show res = false by rw [HRES.out, all_no HX.out e1]; simp)
        rw [e1] at R
        have HR := Lib.hid R; clear R e1
        go_wp2_with fail
        refine HR.out.mono ?_
        rintro e w2 ⟨rfl, hb2⟩
        have HB2 : Hid (Below w.heap.size w w2) := Lib.hid (HB.out.trans (hb2.mono HB.out.size))
        clear hb2
        go_wp2_with fail
        go_ret
        exact ⟨ret_bool HF.out.symm, HB2.out⟩
      · have HF := Lib.hid (upto_step HP.out HX.out e1)
        rw [e1] at R
        have HR := Lib.hid R; clear R e1
        go_wp2_with fail
        refine HR.out.mono ?_
        rintro e w2 ⟨rfl, hb2⟩
        have HB2 : Hid (Below w1.heap.size w1 w2) := Lib.hid (HBr.out.trans (hb2.mono HBr.out.size))
        clear hb2
        go_wp2_with fail
        go_roundw
        case rel => exact ⟨k + 1, by omega, by go_num, HF, HB2⟩
        case measure => simp [intOf]; omega
    · obtain rfl : k = n := by omega
      have HA := Lib.hid (show x.all diskOk = true from all_upto HL.out HP.out)
      by_cases t0 : k = 3
      · have HF := Lib.hid (show res = true by rw [HRES.out, HA.out, decide_eq_true t0]; rfl)
        have e1 : ((k : Int) == 3) = true := by rw [beq_iff_eq]; omega
        clear t0
        go_wp2_with fail
        go_ret
        exact ⟨ret_bool HF.out.symm, HB.out⟩
      · have HF := Lib.hid (show res = false by rw [HRES.out, decide_eq_false t0]; rfl)
        have e1 : ((k : Int) == 3) = false := by rw [beq_eq_false_iff_ne]; omega
        clear t0
        go_wp2_with fail
        go_ret
        exact ⟨ret_bool HF.out.symm, HB.out⟩
end
end Go.Proofs.Ytfokpjoeankobaa
