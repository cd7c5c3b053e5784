/- CacheOk and CacheHas, the program's and the reference's. Condition: the cache's lists have fewer than 2^30 members together. -/
import Derived.Test.YtfokpjoeankobaaConcat
import Derived.Test.YtfokpjoeankobaaFind
import Derived.Test.YtfokpjoeankobaaTypes
import Derived.Test.YtfokpjoeankobaaLib
import Derived.Test.YtfokpjoeankobaaFamEq
import Derived.Test.YtfokpjoeankobaaFamTo
namespace Go.Proofs.Ytfokpjoeankobaa
set_option linter.unusedVariables false
set_option linter.unusedSimpArgs false
set_option linter.unnecessarySimpa false
open Go.RowKit

def rowGood (xs : List Int) (i : Nat) : Bool := inB (xs.getD i 0) 8 63 && !hasI (xs.take i) (xs.getD i 0)
def rowsOk (xs : List Int) : Bool := decide (∀ i, i < xs.length → rowGood xs i = true)
theorem rowsOk_no {xs : List Int} {i : Nat} (hi : i < xs.length) (h : rowGood xs i = false) : rowsOk xs = false := by
  unfold rowsOk; rw [decide_eq_false_iff_not]; intro h2; rw [h2 i hi] at h; cases h
theorem rowsOk_yes {xs : List Int} (h : ∀ i, i < xs.length → rowGood xs i = true) : rowsOk xs = true := by unfold rowsOk; exact decide_eq_true h
def cacheOkB (x : CacheD) : Bool := inB x.1 1 8 && inB x.2.1 0 x.1 && !decide (x.1 < (x.2.2.1.length : Int) + x.2.2.2.1.length) && !decide (x.1 < (x.2.2.1.length : Int) + x.2.2.2.2.1.length) &&
  !decide (2 * x.1 < ((x.2.2.1 ++ (x.2.2.2.1 ++ (x.2.2.2.2.1 ++ x.2.2.2.2.2))).length : Int)) && rowsOk (x.2.2.1 ++ (x.2.2.2.1 ++ (x.2.2.2.2.1 ++ x.2.2.2.2.2)))
theorem OwnA.ints {w : World} {S : List Nat} {A : Option Addr} {n c : Nat} {xs : List Int} (h : OwnA w 3 1 S A n c (xs.map (Value.int .i64))) (hn : n ≤ 140737488355328) : IntsAt w A n xs := (ownS_of_ownRow h.1 hn).at_
theorem IntsAt.take {w : World} {A : Option Addr} {n : Nat} {xs : List Int} (h : IntsAt w A n xs) {k : Nat} (hk : k ≤ n) : IntsAt w A k (xs.take k) := by
  refine ⟨by have := h.len; simp; omega, Nat.le_trans hk h.2.1, fun hk0 => ?_⟩
  obtain ⟨b, off, hA, _, hc⟩ := h.at_ (k := 0) (by omega)
  refine ⟨b, off, hA, fun j hj => ?_⟩
  rw [hc j (by omega)]
  simp [List.getD, List.getElem?_take, hj]
/-- The four lists' headers in a new block. -/
theorem four_lists {W : World} {b t : Nat} {A0 A1 A2 A3 : Option Addr} {n0 c0 n1 c1 n2 c2 n3 c3 : Nat} {x0 x1 x2 x3 : List Int} (hb : W.heap[b]? = some (.cells #[.slice A0 n0 c0, .slice A1 n1 c1, .slice A2 n2 c2, .slice A3 n3 c3] t (0, 0)))
    (h0 : SliceR IntR 1 W 0 W.heap.size A0 n0 c0 x0) (h1 : SliceR IntR 1 W 0 W.heap.size A1 n1 c1 x1) (h2 : SliceR IntR 1 W 0 W.heap.size A2 n2 c2 x2) (h3 : SliceR IntR 1 W 0 W.heap.size A3 n3 c3 x3) :
    SliceR IntSR 1 W 0 W.heap.size (some ⟨b, 0, none⟩) 4 4 [x0, x1, x2, x3] := by
  refine ⟨rfl, by omega, by decide, Nat.le_refl _, (fun h => by cases h), fun _ => ⟨b, 0, rfl, Nat.zero_le _, (Array.getElem?_eq_some_iff.1 hb).1, fun j x hx => ?_⟩⟩
  have hc : ∀ i, W.cell? ⟨b, i, none⟩ = (#[.slice A0 n0 c0, .slice A1 n1 c1, .slice A2 n2 c2, .slice A3 n3 c3] : Array Value)[i]? := fun i => cell_of_row _ _ i _ _ (0, 0) hb
  match j, hx with
  | 0, hx => simp at hx; subst hx; exact ⟨_, rfl, fun i v hv => by match i, hv with | 0, hv => simp at hv; subst hv; simpa using hc 0, _, _, _, rfl, h0⟩
  | 1, hx => simp at hx; subst hx; exact ⟨_, rfl, fun i v hv => by match i, hv with | 0, hv => simp at hv; subst hv; simpa using hc 1, _, _, _, rfl, h1⟩
  | 2, hx => simp at hx; subst hx; exact ⟨_, rfl, fun i v hv => by match i, hv with | 0, hv => simp at hv; subst hv; simpa using hc 2, _, _, _, rfl, h2⟩
  | 3, hx => simp at hx; subst hx; exact ⟨_, rfl, fun i v hv => by match i, hv with | 0, hv => simp at hv; subst hv; simpa using hc 3, _, _, _, rfl, h3⟩
  | j + 4, hx => simp at hx
/-- Lists of the call's own, above a bound. -/
def softInts (B n : Nat) (xs : List Int) : MStP (Own B) Ext := ⟨fun v w => ∃ A c S, v = .slice A n c ∧ OwnA w 3 1 S A n c (xs.map (Value.int .i64)) ∧ (∀ g ∈ S, B ≤ g), false,
  fun _ _ _ he ⟨A, c, S, e, h, hS⟩ => ⟨A, c, S, e, h.below he, hS⟩, fun h => by cases h⟩
def hardEmpty (B : Nat) : MStP (Own B) Ext := ⟨fun v _ => ∃ X, v = .slice X 0 0, true, fun _ _ _ _ h => h, fun _ _ _ _ _ h => h⟩
theorem SliceR.up {w W : World} {lo hi : Nat} {A : Option Addr} {n c : Nat} {xs : List Int} (h : SliceR IntR 1 w lo hi A n c xs) (hb : Below w.heap.size w W) : SliceR IntR 1 W 0 W.heap.size A n c xs :=
  (h.below hb (IntR.below hb h.lo_le)).wide (Nat.zero_le _) (Nat.le_trans h.lo_le hb.size) (Nat.le_refl _) (fun _ _ h => h)
set_option maxRecDepth 100000 in
set_option maxHeartbeats 4000000 in
theorem cacheOk_any (cs : List Value) (x : CacheD) (w : World) (lo hi : Nat) (h : CacheR w lo hi cs x) (hsz : sizeCache x ≤ 1073741824) :
    Calls Try.prog 21 #[.agg cs.toArray] w fun e w' => e = .returned (.bool (cacheOkB x)) ∧ Below w.heap.size w w' := by
  obtain ⟨ro, go, x0, x1, x2, x3⟩ := x
  obtain ⟨A0, n0, c0, A1, n1, c1, A2, n2, c2, A3, n3, c3, rfl, h0, h1, h2, h3⟩ := h
  show Calls Try.prog 21 #[.agg #[.int .i64 ro, .int .i64 go, .slice A0 n0 c0, .slice A1 n1 c1, .slice A2 n2 c2, .slice A3 n3 c3]] w _
  unfold sizeCache at hsz
  simp only at hsz
  have g0 : x0.length = n0 := h0.len
  have g1 : x1.length = n1 := h1.len
  have g2 : x2.length = n2 := h2.len
  have g3 : x3.length = n3 := h3.len
  obtain ⟨k0, k1, k2, k3⟩ : n0 ≤ 1073741824 ∧ n1 ≤ 1073741824 ∧ n2 ≤ 1073741824 ∧ n3 ≤ 1073741824 := by omega
  have ksum : n0 + n1 + n2 + n3 ≤ 1073741824 := by omega
  have hall : (x0 ++ (x1 ++ (x2 ++ x3))).length = n0 + n1 + n2 + n3 := by simp; omega
  obtain ⟨all, hal⟩ : ∃ all, all = x0 ++ (x1 ++ (x2 ++ x3)) := ⟨_, rfl⟩
  have HRES : Hid (cacheOkB (ro, go, x0, x1, x2, x3) = (inB ro 1 8 && inB go 0 ro && !decide (ro < (n0 : Int) + n1) && !decide (ro < (n0 : Int) + n2) && !decide (2 * ro < ((n0 + n1 + n2 + n3 : Nat) : Int)) && rowsOk all)) := Lib.hid (by unfold cacheOkB; simp only; rw [← hal] at hall ⊢; rw [g0, g1, g2, hall])
  have HAL := Lib.hid hal
  have HALL : Hid (all.length = n0 + n1 + n2 + n3) := Lib.hid (by rw [hal]; exact hall)
  clear hal hall hsz
  have HG4 := Lib.hid (show x0.length + x1.length + x2.length + x3.length = n0 + n1 + n2 + n3 by omega)
  clear g0 g1 g2 g3
  generalize cacheOkB (ro, go, x0, x1, x2, x3) = res at *
  obtain ⟨N, hN⟩ : ∃ N, N = n0 + n1 + n2 + n3 := ⟨_, rfl⟩
  rw [← hN] at HRES HALL ksum
  have HN := Lib.hid hN; clear hN
  have H0 := Lib.hid h0; have H1 := Lib.hid h1; have H2 := Lib.hid h2; have H3 := Lib.hid h3; clear h0 h1 h2 h3
  go_enter Try.func21, Try.ntmps21
  go_wp2_with fail
  obtain ⟨W, hW⟩ : ∃ W, W = (w.alloc (.cells #[.int .i64 ro, .int .i64 go, .slice A0 n0 c0, .slice A1 n1 c1, .slice A2 n2 c2, .slice A3 n3 c3] 26)).alloc (.cells #[.slice A0 n0 c0, .slice A1 n1 c1, .slice A2 n2 c2, .slice A3 n3 c3] 24) := ⟨_, rfl⟩
  have hbW : Below w.heap.size w W := by rw [hW]; exact bel2
  have hbl : W.heap[w.heap.size + 1]? = some (.cells #[.slice A0 n0 c0, .slice A1 n1 c1, .slice A2 n2 c2, .slice A3 n3 c3] 24 (0, 0)) := by rw [hW]; have := heap_alloc_new (w.alloc (.cells #[.int .i64 ro, .int .i64 go, .slice A0 n0 c0, .slice A1 n1 c1, .slice A2 n2 c2, .slice A3 n3 c3] 26)) (.cells #[.slice A0 n0 c0, .slice A1 n1 c1, .slice A2 n2 c2, .slice A3 n3 c3] 24); simpa using this
  have hsum : ([x0, x1, x2, x3].map List.length).sum = N := by have := HG4.out; have := HN.out; simp; omega
  have hfl : [x0, x1, x2, x3].flatten = all := by rw [HAL.out]; simp
  have hcc := concat_any (some ⟨w.heap.size + 1, 0, none⟩) 4 4 [x0, x1, x2, x3] W 0 W.heap.size (four_lists hbl (H0.out.up hbW) (H1.out.up hbW) (H2.out.up hbW) (H3.out.up hbW)) (by rw [hsum]; omega)
  rw [hsum, hfl] at hcc
  have HB : Hid (Below w.heap.size w W) := Lib.hid hbW
  have cW : Hid (∀ i, W.cell? ⟨w.heap.size, i, none⟩ = (#[.int .i64 ro, .int .i64 go, .slice A0 n0 c0, .slice A1 n1 c1, .slice A2 n2 c2, .slice A3 n3 c3] : Array Value)[i]?) := Lib.hid (by intro i; rw [hW]; refine (Below.cell (B := w.heap.size + 1) ((Below.refl _ _).alloc (by simp) _) (by simp)).trans ?_; exact cell_of_row _ _ i _ _ (0, 0) (heap_alloc_new _ _))
  have hzW : w.heap.size < W.heap.size := by rw [hW]; simp <;> omega
  have HCC := Lib.hid hcc
  have HW := Lib.hid hW
  clear hcc hbW hbl hsum hfl
  rw [← HW.out]
  clear hW
  refine HCC.out.mono ?_
  rintro e w1 ⟨Aa, ca, Sa, rfl, hO, hSa, hb1⟩
  have X1 : Below w.heap.size w w1 := HB.out.trans (hb1.mono HB.out.size)
  have c1_0 : w1.cell? ⟨w.heap.size, 0, none⟩ = some (.int .i64 ro) := (hb1.cell hzW).trans (cW.out 0)
  have c1_1 : w1.cell? ⟨w.heap.size, 1, none⟩ = some (.int .i64 go) := (hb1.cell hzW).trans (cW.out 1)
  have c1_2 : w1.cell? ⟨w.heap.size, 2, none⟩ = some (.slice A0 n0 c0) := (hb1.cell hzW).trans (cW.out 2)
  have c1_3 : w1.cell? ⟨w.heap.size, 3, none⟩ = some (.slice A1 n1 c1) := (hb1.cell hzW).trans (cW.out 3)
  have c1_4 : w1.cell? ⟨w.heap.size, 4, none⟩ = some (.slice A2 n2 c2) := (hb1.cell hzW).trans (cW.out 4)
  have c1_5 : w1.cell? ⟨w.heap.size, 5, none⟩ = some (.slice A3 n3 c3) := (hb1.cell hzW).trans (cW.out 5)
  have l1 : w.heap.size < w1.heap.size := Nat.lt_of_lt_of_le hzW hb1.size
  have HI := Lib.hid (hO.ints (by omega))
  have hNc : N ≤ ca := hO.le
  have hcap : ca ≤ 9223372036854775807 := by have := hO.cap; unfold maxLen at this; exact this
  clear hO hSa hb1 HCC HW HB cW hzW
  have W1 := within_any ro 1 8
  have W2 := within_any go 0 ro
  cases e0 : inB ro 1 8
  · have HE0 := Lib.hid e0
    rw [e0] at W1
    clear e0
    have hf : res = false := by rw [HRES.out, HE0.out]; simp
    have HF := Lib.hid hf; clear hf
    go_wp2_with (first | (go_at_call 18; with_reducible refine (W1 _).mono ?_; rintro e w' ⟨rfl, rfl⟩) | (go_at_call 18; with_reducible refine (W2 _).mono ?_; rintro e w' ⟨rfl, rfl⟩))
    go_ret
    exact ⟨ret_bool HF.out.symm, X1⟩
  have HE0 := Lib.hid e0
  rw [e0] at W1
  have hro : 1 ≤ ro ∧ ro ≤ 8 := by have := HE0.out; unfold inB at this; simpa using this
  obtain ⟨hr1, hr8⟩ := hro
  clear e0
  cases e1 : inB go 0 ro
  · have HE1 := Lib.hid e1
    rw [e1] at W2
    clear e1
    have hf : res = false := by rw [HRES.out, HE0.out, HE1.out]; simp
    have HF := Lib.hid hf; clear hf
    go_wp2_with (first | (go_at_call 18; with_reducible refine (W1 _).mono ?_; rintro e w' ⟨rfl, rfl⟩) | (go_at_call 18; with_reducible refine (W2 _).mono ?_; rintro e w' ⟨rfl, rfl⟩))
    go_ret
    exact ⟨ret_bool HF.out.symm, X1⟩
  have HE1 := Lib.hid e1
  rw [e1] at W2
  clear e1
  cases e2 : decide (ro < (n0 : Int) + n1)
  rotate_left
  · have HE2 := Lib.hid e2
    have hf : res = false := by rw [HRES.out, HE0.out, HE1.out, HE2.out]; simp
    have HF := Lib.hid hf; clear hf
    go_wp2_with (first | (go_at_call 18; with_reducible refine (W1 _).mono ?_; rintro e w' ⟨rfl, rfl⟩) | (go_at_call 18; with_reducible refine (W2 _).mono ?_; rintro e w' ⟨rfl, rfl⟩))
    go_ret
    exact ⟨ret_bool HF.out.symm, X1⟩
  have HE2 := Lib.hid e2
  cases e3 : decide (ro < (n0 : Int) + n2)
  rotate_left
  · have HE3 := Lib.hid e3
    have hf : res = false := by rw [HRES.out, HE0.out, HE1.out, HE2.out, HE3.out]; simp
    have HF := Lib.hid hf; clear hf
    go_wp2_with (first | (go_at_call 18; with_reducible refine (W1 _).mono ?_; rintro e w' ⟨rfl, rfl⟩) | (go_at_call 18; with_reducible refine (W2 _).mono ?_; rintro e w' ⟨rfl, rfl⟩))
    go_ret
    exact ⟨ret_bool HF.out.symm, X1⟩
  have HE3 := Lib.hid e3
  cases e4 : decide (2 * ro < (N : Int))
  rotate_left
  · have HE4 := Lib.hid e4
    have hf : res = false := by rw [HRES.out, HE0.out, HE1.out, HE2.out, HE3.out, HE4.out]; simp
    have HF := Lib.hid hf; clear hf
    go_wp2_with (first | (go_at_call 18; with_reducible refine (W1 _).mono ?_; rintro e w' ⟨rfl, rfl⟩) | (go_at_call 18; with_reducible refine (W2 _).mono ?_; rintro e w' ⟨rfl, rfl⟩))
    go_ret
    exact ⟨ret_bool HF.out.symm, X1⟩
  have HE4 := Lib.hid e4
  have hf : res = rowsOk all := by rw [HRES.out, HE0.out, HE1.out, HE2.out, HE3.out, HE4.out]; simp
  have HF := Lib.hid hf; clear hf
  go_wp2_with (first | (go_at_call 18; with_reducible refine (W1 _).mono ?_; rintro e w' ⟨rfl, rfl⟩) | (go_at_call 18; with_reducible refine (W2 _).mono ?_; rintro e w' ⟨rfl, rfl⟩))
  go_loop [62] (fun i => ∃ k : Nat, k ≤ N ∧ i = .int .i64 k ∧ Hid (∀ j, j < k → rowGood all j = true)) (fun i => N - (intOf i).toNat)
  case atStart => exact ⟨0, Nat.zero_le _, rfl, Lib.hid (fun j hj => absurd hj (by omega))⟩
  case round =>
    clear W1 W2 e2 e3 e4
    obtain ⟨k, hk, rfl, HP⟩ := hrel
    by_cases hlt : k < N
    · have HT := Lib.hid (HI.out.take hk)
      obtain ⟨b, off, rfl, hb, hc⟩ := HI.out.at_ hlt
      have h1 := hc k hlt
      clear hc
      have hg : rowGood all k = (inB (all.getD k 0) 8 63 && !hasI (all.take k) (all.getD k 0)) := rfl
      have HG := Lib.hid hg; clear hg
      have hno := fun h => rowsOk_no (xs := all) (i := k) (by rw [HALL.out]; exact hlt) h
      have HNO := Lib.hid hno; clear hno
      have hyes : rowGood all k = true → ∀ j, j < k + 1 → rowGood all j = true := fun h j hj => by
        rcases Nat.lt_or_ge j k with h2 | h2
        · exact HP.out j h2
        · obtain rfl : j = k := by omega
          exact h
      have HY := Lib.hid hyes; clear hyes HP
      generalize all.getD k 0 = v at *
      have kk0 : (0 : Int) ≤ (k : Int) := by omega
      have kk1 : (k : Int) < (N : Int) := by omega
      have kk2 : k ≤ ca := by omega
      have R1 := isRow_any v
      have R2 := contains_any (some ⟨b, off, none⟩) k ca (all.take k) v w1 HT.out
      cases a1 : inB v 8 63
      · have hf2 : res = false := by rw [HF.out]; exact HNO.out (by rw [HG.out, a1]; rfl)
        have HF2 := Lib.hid hf2; clear hf2
        rw [a1] at R1
        clear a1
        go_wp2_with (go_at_call 23; with_reducible refine (R1 _).mono ?_; rintro e w' ⟨rfl, rfl⟩)
        go_ret
        exact ⟨ret_bool HF2.out.symm, X1⟩
      have HA1 := Lib.hid a1
      rw [a1] at R1
      clear a1
      cases a2 : hasI (all.take k) v
      · have HGG : Hid (∀ j, j < k + 1 → rowGood all j = true) := Lib.hid (HY.out (by rw [HG.out, HA1.out, a2]; rfl))
        rw [a2] at R2
        clear a2
        go_wp2_with (first | (go_at_call 23; with_reducible refine (R1 _).mono ?_; rintro e w' ⟨rfl, rfl⟩) | (go_at_call 36; refine R2.mono ?_; rintro e w' ⟨rfl, rfl⟩))
        go_round
        case rel => exact ⟨k + 1, by omega, by go_num, HGG⟩
        case measure => simp [intOf]; omega
      · have hf2 : res = false := by rw [HF.out]; exact HNO.out (by rw [HG.out, HA1.out, a2]; rfl)
        have HF2 := Lib.hid hf2; clear hf2
        rw [a2] at R2
        clear a2
        go_wp2_with (first | (go_at_call 23; with_reducible refine (R1 _).mono ?_; rintro e w' ⟨rfl, rfl⟩) | (go_at_call 36; refine R2.mono ?_; rintro e w' ⟨rfl, rfl⟩))
        go_ret
        exact ⟨ret_bool HF2.out.symm, X1⟩
    · obtain rfl : k = N := by omega
      have hf2 : res = true := by rw [HF.out]; exact rowsOk_yes (fun i hi => HP.out i (by rw [HALL.out] at hi; exact hi))
      have HF2 := Lib.hid hf2; clear hf2
      go_wp2_with fail
      go_ret
      exact ⟨ret_bool HF2.out.symm, X1⟩


end Go.Proofs.Ytfokpjoeankobaa
