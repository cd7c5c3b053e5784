/- CacheOk and CacheHas, the program's and the reference's. Condition: the cache's lists have fewer than 2^30 members together. -/
import Derived.Test.YtffieobjcipeoaaConcat
import Derived.Test.YtffieobjcipeoaaFind
import Derived.Test.YtffieobjcipeoaaTypes
import Derived.Test.YtffieobjcipeoaaLib
import Derived.Test.YtffieobjcipeoaaFamEq
import Derived.Test.YtffieobjcipeoaaFamTo
namespace Go.Proofs.Ytffieobjcipeoaa
set_option linter.unusedVariables false
set_option linter.unusedSimpArgs false
set_option linter.unnecessarySimpa false
open Go.RowKit

def rowGood (xs : List Int) (i : Nat) : Bool := inB (xs.getD i 0) 8 63 && !hasI (xs.take i) (xs.getD i 0)
def rowsOk (xs : List Int) : Bool := decide (∀ i, i < xs.length → rowGood xs i = true)
theorem rowsOk_no {xs : List Int} {i : Nat} (hi : i < xs.length) (h : rowGood xs i = false) : rowsOk xs = false := by
  unfold rowsOk; rw [decide_eq_false_iff_not]; intro h2; rw [h2 i hi] at h; cases h
theorem rowsOk_yes {xs : List Int} (h : ∀ i, i < xs.length → rowGood xs i = true) : rowsOk xs = true := by unfold rowsOk; exact decide_eq_true h
def cacheOkB (x : CacheD) : Bool := inB x.1 1 8 && inB x.2.1 0 x.1 && !decide (x.1 < (x.2.2.1.length : Int) + x.2.2.2.1.length) && !decide (x.1 < (x.2.2.1.length : Int) + x.2.2.2.2.1.length) &&
  !decide (2 * x.1 < ((x.2.2.1 ++ (x.2.2.2.1 ++ (x.2.2.2.2.1 ++ x.2.2.2.2.2))).length : Int)) && rowsOk (x.2.2.1 ++ (x.2.2.2.1 ++ (x.2.2.2.2.1 ++ x.2.2.2.2.2)))
theorem OwnA.ints {w : World} {S : List Nat} {A : Option Addr} {n c : Nat} {xs : List Int} (h : OwnA w 3 1 S A n c (xs.map (Value.int .i64))) (hn : n ≤ 140737488355328) : IntsAt w A n xs := (ownS_of_ownRow h.1 hn).at_
theorem IntsAt.take {w : World} {A : Option Addr} {n : Nat} {xs : List Int} (h : IntsAt w A n xs) {k : Nat} (hk : k ≤ n) : IntsAt w A k (xs.take k) := by
  refine ⟨by have := h.len; simp; omega, Nat.le_trans hk h.2.1, fun hk0 => ?_⟩
  obtain ⟨b, off, hA, _, hc⟩ := h.at_ (k := 0) (by omega)
  refine ⟨b, off, hA, fun j hj => ?_⟩
  rw [hc j (by omega)]
  simp [List.getD, List.getElem?_take, hj]
/-- The four lists' headers in a new block. -/
theorem four_lists {W : World} {b t : Nat} {A0 A1 A2 A3 : Option Addr} {n0 c0 n1 c1 n2 c2 n3 c3 : Nat} {x0 x1 x2 x3 : List Int} (hb : W.heap[b]? = some (.cells #[.slice A0 n0 c0, .slice A1 n1 c1, .slice A2 n2 c2, .slice A3 n3 c3] t (0, 0)))
    (h0 : SliceR IntR 1 W 0 W.heap.size A0 n0 c0 x0) (h1 : SliceR IntR 1 W 0 W.heap.size A1 n1 c1 x1) (h2 : SliceR IntR 1 W 0 W.heap.size A2 n2 c2 x2) (h3 : SliceR IntR 1 W 0 W.heap.size A3 n3 c3 x3) :
    SliceR IntSR 1 W 0 W.heap.size (some ⟨b, 0, none⟩) 4 4 [x0, x1, x2, x3] := by
  refine ⟨rfl, by omega, by decide, Nat.le_refl _, (fun h => by cases h), fun _ => ⟨b, 0, rfl, Nat.zero_le _, (Array.getElem?_eq_some_iff.1 hb).1, fun j x hx => ?_⟩⟩
  have hc : ∀ i, W.cell? ⟨b, i, none⟩ = (#[.slice A0 n0 c0, .slice A1 n1 c1, .slice A2 n2 c2, .slice A3 n3 c3] : Array Value)[i]? := fun i => cell_of_row _ _ i _ _ (0, 0) hb
  match j, hx with
  | 0, hx => simp at hx; subst hx; exact ⟨_, rfl, fun i v hv => by match i, hv with | 0, hv => simp at hv; subst hv; simpa using hc 0, _, _, _, rfl, h0⟩
  | 1, hx => simp at hx; subst hx; exact ⟨_, rfl, fun i v hv => by match i, hv with | 0, hv => simp at hv; subst hv; simpa using hc 1, _, _, _, rfl, h1⟩
  | 2, hx => simp at hx; subst hx; exact ⟨_, rfl, fun i v hv => by match i, hv with | 0, hv => simp at hv; subst hv; simpa using hc 2, _, _, _, rfl, h2⟩
  | 3, hx => simp at hx; subst hx; exact ⟨_, rfl, fun i v hv => by match i, hv with | 0, hv => simp at hv; subst hv; simpa using hc 3, _, _, _, rfl, h3⟩
  | j + 4, hx => simp at hx
/-- Lists of the call's own, above a bound. -/
def softInts (B n : Nat) (xs : List Int) : MStP (Own B) Ext := ⟨fun v w => ∃ A c S, v = .slice A n c ∧ OwnA w 3 1 S A n c (xs.map (Value.int .i64)) ∧ (∀ g ∈ S, B ≤ g), false,
  fun _ _ _ he ⟨A, c, S, e, h, hS⟩ => ⟨A, c, S, e, h.below he, hS⟩, fun h => by cases h⟩
def hardEmpty (B : Nat) : MStP (Own B) Ext := ⟨fun v _ => ∃ X, v = .slice X 0 0, true, fun _ _ _ _ h => h, fun _ _ _ _ _ h => h⟩
theorem SliceR.up {w W : World} {lo hi : Nat} {A : Option Addr} {n c : Nat} {xs : List Int} (h : SliceR IntR 1 w lo hi A n c xs) (hb : Below w.heap.size w W) : SliceR IntR 1 W 0 W.heap.size A n c xs :=
  (h.below hb (IntR.below hb h.lo_le)).wide (Nat.zero_le _) (Nat.le_trans h.lo_le hb.size) (Nat.le_refl _) (fun _ _ h => h)
set_option maxRecDepth 100000 in
set_option maxHeartbeats 4000000 in
theorem cacheOk_any (cs : List Value) (x : CacheD) (w : World) (lo hi : Nat) (h : CacheR w lo hi cs x) (hsz : sizeCache x ≤ 1073741824) :
    Calls Try.prog 28 #[.agg cs.toArray] w fun e w' => e = .returned (.bool (cacheOkB x)) ∧ Below w.heap.size w w' := by
  obtain ⟨ro, go, x0, x1, x2, x3⟩ := x
  obtain ⟨A0, n0, c0, A1, n1, c1, A2, n2, c2, A3, n3, c3, rfl, h0, h1, h2, h3⟩ := h
  show Calls Try.prog 28 #[.agg #[.int .i64 ro, .int .i64 go, .slice A0 n0 c0, .slice A1 n1 c1, .slice A2 n2 c2, .slice A3 n3 c3]] w _
  unfold sizeCache at hsz
  simp only at hsz
  have g0 : x0.length = n0 := h0.len
  have g1 : x1.length = n1 := h1.len
  have g2 : x2.length = n2 := h2.len
  have g3 : x3.length = n3 := h3.len
  obtain ⟨k0, k1, k2, k3⟩ : n0 ≤ 1073741824 ∧ n1 ≤ 1073741824 ∧ n2 ≤ 1073741824 ∧ n3 ≤ 1073741824 := by omega
  have ksum : n0 + n1 + n2 + n3 ≤ 1073741824 := by omega
  have hall : (x0 ++ (x1 ++ (x2 ++ x3))).length = n0 + n1 + n2 + n3 := by simp; omega
  obtain ⟨all, hal⟩ : ∃ all, all = x0 ++ (x1 ++ (x2 ++ x3)) := ⟨_, rfl⟩
  have HRES : Hid (cacheOkB (ro, go, x0, x1, x2, x3) = (inB ro 1 8 && inB go 0 ro && !decide (ro < (n0 : Int) + n1) && !decide (ro < (n0 : Int) + n2) && !decide (2 * ro < ((n0 + n1 + n2 + n3 : Nat) : Int)) && rowsOk all)) := Lib.hid (by unfold cacheOkB; simp only; rw [← hal] at hall ⊢; rw [g0, g1, g2, hall])
  have HAL := Lib.hid hal
  have HALL : Hid (all.length = n0 + n1 + n2 + n3) := Lib.hid (by rw [hal]; exact hall)
  clear hal hall hsz
  have HG4 := Lib.hid (show x0.length + x1.length + x2.length + x3.length = n0 + n1 + n2 + n3 by omega)
  clear g0 g1 g2 g3
  generalize cacheOkB (ro, go, x0, x1, x2, x3) = res at *
  obtain ⟨N, hN⟩ : ∃ N, N = n0 + n1 + n2 + n3 := ⟨_, rfl⟩
  rw [← hN] at HRES HALL ksum
  have HN := Lib.hid hN; clear hN
  have H0 := Lib.hid h0; have H1 := Lib.hid h1; have H2 := Lib.hid h2; have H3 := Lib.hid h3; clear h0 h1 h2 h3
  go_enter Try.func28, Try.ntmps28
  go_wp2_with fail
  obtain ⟨W, hW⟩ : ∃ W, W = (w.alloc (.cells #[.int .i64 ro, .int .i64 go, .slice A0 n0 c0, .slice A1 n1 c1, .slice A2 n2 c2, .slice A3 n3 c3] 57)).alloc (.cells #[.slice A0 n0 c0, .slice A1 n1 c1, .slice A2 n2 c2, .slice A3 n3 c3] 25) := ⟨_, rfl⟩
  have hbW : Below w.heap.size w W := by rw [hW]; exact bel2
  have hbl : W.heap[w.heap.size + 1]? = some (.cells #[.slice A0 n0 c0, .slice A1 n1 c1, .slice A2 n2 c2, .slice A3 n3 c3] 25 (0, 0)) := by rw [hW]; have := heap_alloc_new (w.alloc (.cells #[.int .i64 ro, .int .i64 go, .slice A0 n0 c0, .slice A1 n1 c1, .slice A2 n2 c2, .slice A3 n3 c3] 57)) (.cells #[.slice A0 n0 c0, .slice A1 n1 c1, .slice A2 n2 c2, .slice A3 n3 c3] 25); simpa using this
  have hsum : ([x0, x1, x2, x3].map List.length).sum = N := by have := HG4.out; have := HN.out; simp; omega
  have hfl : [x0, x1, x2, x3].flatten = all := by rw [HAL.out]; simp
  have hcc := concat_any (some ⟨w.heap.size + 1, 0, none⟩) 4 4 [x0, x1, x2, x3] W 0 W.heap.size (four_lists hbl (H0.out.up hbW) (H1.out.up hbW) (H2.out.up hbW) (H3.out.up hbW)) (by rw [hsum]; omega)
  rw [hsum, hfl] at hcc
  have HB : Hid (Below w.heap.size w W) := Lib.hid hbW
  have cW : Hid (∀ i, W.cell? ⟨w.heap.size, i, none⟩ = (#[.int .i64 ro, .int .i64 go, .slice A0 n0 c0, .slice A1 n1 c1, .slice A2 n2 c2, .slice A3 n3 c3] : Array Value)[i]?) := Lib.hid (by intro i; rw [hW]; refine (Below.cell (B := w.heap.size + 1) ((Below.refl _ _).alloc (by simp) _) (by simp)).trans ?_; exact cell_of_row _ _ i _ _ (0, 0) (heap_alloc_new _ _))
  have hzW : w.heap.size < W.heap.size := by rw [hW]; simp <;> omega
  have HCC := Lib.hid hcc
  have HW := Lib.hid hW
  clear hcc hbW hbl hsum hfl
  rw [← HW.out]
  clear hW
  refine HCC.out.mono ?_
  rintro e w1 ⟨Aa, ca, Sa, rfl, hO, hSa, hb1⟩
  have X1 : Below w.heap.size w w1 := HB.out.trans (hb1.mono HB.out.size)
  have c1_0 : w1.cell? ⟨w.heap.size, 0, none⟩ = some (.int .i64 ro) := (hb1.cell hzW).trans (cW.out 0)
  have c1_1 : w1.cell? ⟨w.heap.size, 1, none⟩ = some (.int .i64 go) := (hb1.cell hzW).trans (cW.out 1)
  have c1_2 : w1.cell? ⟨w.heap.size, 2, none⟩ = some (.slice A0 n0 c0) := (hb1.cell hzW).trans (cW.out 2)
  have c1_3 : w1.cell? ⟨w.heap.size, 3, none⟩ = some (.slice A1 n1 c1) := (hb1.cell hzW).trans (cW.out 3)
  have c1_4 : w1.cell? ⟨w.heap.size, 4, none⟩ = some (.slice A2 n2 c2) := (hb1.cell hzW).trans (cW.out 4)
  have c1_5 : w1.cell? ⟨w.heap.size, 5, none⟩ = some (.slice A3 n3 c3) := (hb1.cell hzW).trans (cW.out 5)
  have l1 : w.heap.size < w1.heap.size := Nat.lt_of_lt_of_le hzW hb1.size
  have HI := Lib.hid (hO.ints (by omega))
  have hNc : N ≤ ca := hO.le
  have hcap : ca ≤ 9223372036854775807 := by have := hO.cap; unfold maxLen at this; exact this
  clear hO hSa hb1 HCC HW HB cW hzW
  have W1 := within_any ro 1 8
  have W2 := within_any go 0 ro
  cases e0 : inB ro 1 8
  · have HE0 := Lib.hid e0
    rw [e0] at W1
    clear e0
    have hf : res = false := by rw [HRES.out, HE0.out]; simp
    have HF := Lib.hid hf; clear hf
    go_wp2_with (first | (go_at_call 47; with_reducible refine (W1 _).mono ?_; rintro e w' ⟨rfl, rfl⟩) | (go_at_call 47; with_reducible refine (W2 _).mono ?_; rintro e w' ⟨rfl, rfl⟩))
    go_ret
    exact ⟨ret_bool HF.out.symm, X1⟩
  have HE0 := Lib.hid e0
  rw [e0] at W1
  have hro : 1 ≤ ro ∧ ro ≤ 8 := by have := HE0.out; unfold inB at this; simpa using this
  obtain ⟨hr1, hr8⟩ := hro
  clear e0
  cases e1 : inB go 0 ro
  · have HE1 := Lib.hid e1
    rw [e1] at W2
    clear e1
    have hf : res = false := by rw [HRES.out, HE0.out, HE1.out]; simp
    have HF := Lib.hid hf; clear hf
    go_wp2_with (first | (go_at_call 47; with_reducible refine (W1 _).mono ?_; rintro e w' ⟨rfl, rfl⟩) | (go_at_call 47; with_reducible refine (W2 _).mono ?_; rintro e w' ⟨rfl, rfl⟩))
    go_ret
    exact ⟨ret_bool HF.out.symm, X1⟩
  have HE1 := Lib.hid e1
  rw [e1] at W2
  clear e1
  cases e2 : decide (ro < (n0 : Int) + n1)
  rotate_left
  · have HE2 := Lib.hid e2
    have hf : res = false := by rw [HRES.out, HE0.out, HE1.out, HE2.out]; simp
    have HF := Lib.hid hf; clear hf
    go_wp2_with (first | (go_at_call 47; with_reducible refine (W1 _).mono ?_; rintro e w' ⟨rfl, rfl⟩) | (go_at_call 47; with_reducible refine (W2 _).mono ?_; rintro e w' ⟨rfl, rfl⟩))
    go_ret
    exact ⟨ret_bool HF.out.symm, X1⟩
  have HE2 := Lib.hid e2
  cases e3 : decide (ro < (n0 : Int) + n2)
  rotate_left
  · have HE3 := Lib.hid e3
    have hf : res = false := by rw [HRES.out, HE0.out, HE1.out, HE2.out, HE3.out]; simp
    have HF := Lib.hid hf; clear hf
    go_wp2_with (first | (go_at_call 47; with_reducible refine (W1 _).mono ?_; rintro e w' ⟨rfl, rfl⟩) | (go_at_call 47; with_reducible refine (W2 _).mono ?_; rintro e w' ⟨rfl, rfl⟩))
    go_ret
    exact ⟨ret_bool HF.out.symm, X1⟩
  have HE3 := Lib.hid e3
  cases e4 : decide (2 * ro < (N : Int))
  rotate_left
  · have HE4 := Lib.hid e4
    have hf : res = false := by rw [HRES.out, HE0.out, HE1.out, HE2.out, HE3.out, HE4.out]; simp
    have HF := Lib.hid hf; clear hf
    go_wp2_with (first | (go_at_call 47; with_reducible refine (W1 _).mono ?_; rintro e w' ⟨rfl, rfl⟩) | (go_at_call 47; with_reducible refine (W2 _).mono ?_; rintro e w' ⟨rfl, rfl⟩))
    go_ret
    exact ⟨ret_bool HF.out.symm, X1⟩
  have HE4 := Lib.hid e4
  have hf : res = rowsOk all := by rw [HRES.out, HE0.out, HE1.out, HE2.out, HE3.out, HE4.out]; simp
  have HF := Lib.hid hf; clear hf
  go_wp2_with (first | (go_at_call 47; with_reducible refine (W1 _).mono ?_; rintro e w' ⟨rfl, rfl⟩) | (go_at_call 47; with_reducible refine (W2 _).mono ?_; rintro e w' ⟨rfl, rfl⟩))
  go_loop [62] (fun i => ∃ k : Nat, k ≤ N ∧ i = .int .i64 k ∧ Hid (∀ j, j < k → rowGood all j = true)) (fun i => N - (intOf i).toNat)
  case atStart => exact ⟨0, Nat.zero_le _, rfl, Lib.hid (fun j hj => absurd hj (by omega))⟩
  case round =>
    clear W1 W2 e2 e3 e4
    obtain ⟨k, hk, rfl, HP⟩ := hrel
    by_cases hlt : k < N
    · have HT := Lib.hid (HI.out.take hk)
      obtain ⟨b, off, rfl, hb, hc⟩ := HI.out.at_ hlt
      have h1 := hc k hlt
      clear hc
      have hg : rowGood all k = (inB (all.getD k 0) 8 63 && !hasI (all.take k) (all.getD k 0)) := rfl
      have HG := Lib.hid hg; clear hg
      have hno := fun h => rowsOk_no (xs := all) (i := k) (by rw [HALL.out]; exact hlt) h
      have HNO := Lib.hid hno; clear hno
      have hyes : rowGood all k = true → ∀ j, j < k + 1 → rowGood all j = true := fun h j hj => by
        rcases Nat.lt_or_ge j k with h2 | h2
        · exact HP.out j h2
        · obtain rfl : j = k := by omega
          exact h
      have HY := Lib.hid hyes; clear hyes HP
      generalize all.getD k 0 = v at *
      have kk0 : (0 : Int) ≤ (k : Int) := by omega
      have kk1 : (k : Int) < (N : Int) := by omega
      have kk2 : k ≤ ca := by omega
      have R1 := isRow_any v
      have R2 := contains_any (some ⟨b, off, none⟩) k ca (all.take k) v w1 HT.out
      cases a1 : inB v 8 63
      · have hf2 : res = false := by rw [HF.out]; exact HNO.out (by rw [HG.out, a1]; rfl)
        have HF2 := Lib.hid hf2; clear hf2
        rw [a1] at R1
        clear a1
        go_wp2_with (go_at_call 80; with_reducible refine (R1 _).mono ?_; rintro e w' ⟨rfl, rfl⟩)
        go_ret
        exact ⟨ret_bool HF2.out.symm, X1⟩
      have HA1 := Lib.hid a1
      rw [a1] at R1
      clear a1
      cases a2 : hasI (all.take k) v
      · have HGG : Hid (∀ j, j < k + 1 → rowGood all j = true) := Lib.hid (HY.out (by rw [HG.out, HA1.out, a2]; rfl))
        rw [a2] at R2
        clear a2
        go_wp2_with (first | (go_at_call 80; with_reducible refine (R1 _).mono ?_; rintro e w' ⟨rfl, rfl⟩) | (go_at_call 77; refine R2.mono ?_; rintro e w' ⟨rfl, rfl⟩))
        go_round
        case rel => exact ⟨k + 1, by omega, by go_num, HGG⟩
        case measure => simp [intOf]; omega
      · have hf2 : res = false := by rw [HF.out]; exact HNO.out (by rw [HG.out, HA1.out, a2]; rfl)
        have HF2 := Lib.hid hf2; clear hf2
        rw [a2] at R2
        clear a2
        go_wp2_with (first | (go_at_call 80; with_reducible refine (R1 _).mono ?_; rintro e w' ⟨rfl, rfl⟩) | (go_at_call 77; refine R2.mono ?_; rintro e w' ⟨rfl, rfl⟩))
        go_ret
        exact ⟨ret_bool HF2.out.symm, X1⟩
    · obtain rfl : k = N := by omega
      have hf2 : res = true := by rw [HF.out]; exact rowsOk_yes (fun i hi => HP.out i (by rw [HALL.out] at hi; exact hi))
      have HF2 := Lib.hid hf2; clear hf2
      go_wp2_with fail
      go_ret
      exact ⟨ret_bool HF2.out.symm, X1⟩

set_option maxRecDepth 100000 in
set_option maxHeartbeats 4000000 in
theorem spCacheOk_any (cs : List Value) (x : CacheD) (w : World) (lo hi : Nat) (h : CacheR w lo hi cs x) (hsz : sizeCache x ≤ 1073741824) :
    Calls Try.prog 30 #[.agg cs.toArray] w fun e w' => e = .returned (.bool (cacheOkB x)) ∧ Below w.heap.size w w' := by
  obtain ⟨ro, go, x0, x1, x2, x3⟩ := x
  obtain ⟨A0, n0, c0, A1, n1, c1, A2, n2, c2, A3, n3, c3, rfl, h0, h1, h2, h3⟩ := h
  show Calls Try.prog 30 #[.agg #[.int .i64 ro, .int .i64 go, .slice A0 n0 c0, .slice A1 n1 c1, .slice A2 n2 c2, .slice A3 n3 c3]] w _
  unfold sizeCache at hsz
  simp only at hsz
  have g0 : x0.length = n0 := h0.len
  have g1 : x1.length = n1 := h1.len
  have g2 : x2.length = n2 := h2.len
  have g3 : x3.length = n3 := h3.len
  obtain ⟨k0, k1, k2, k3⟩ : n0 ≤ 1073741824 ∧ n1 ≤ 1073741824 ∧ n2 ≤ 1073741824 ∧ n3 ≤ 1073741824 := by omega
  have ksum : n0 + n1 + n2 + n3 ≤ 1073741824 := by omega
  have hall : (x0 ++ (x1 ++ (x2 ++ x3))).length = n0 + n1 + n2 + n3 := by simp; omega
  obtain ⟨all, hal⟩ : ∃ all, all = x0 ++ (x1 ++ (x2 ++ x3)) := ⟨_, rfl⟩
  have HRES : Hid (cacheOkB (ro, go, x0, x1, x2, x3) = (inB ro 1 8 && inB go 0 ro && !decide (ro < (n0 : Int) + n1) && !decide (ro < (n0 : Int) + n2) && !decide (2 * ro < ((n0 + n1 + n2 + n3 : Nat) : Int)) && rowsOk all)) := Lib.hid (by unfold cacheOkB; simp only; rw [← hal] at hall ⊢; rw [g0, g1, g2, hall])
  have HAL := Lib.hid hal
  have HALL : Hid (all.length = n0 + n1 + n2 + n3) := Lib.hid (by rw [hal]; exact hall)
  clear hal hall hsz
  have HG4 := Lib.hid (show x0.length + x1.length + x2.length + x3.length = n0 + n1 + n2 + n3 by omega)
  clear g0 g1 g2 g3
  generalize cacheOkB (ro, go, x0, x1, x2, x3) = res at *
  obtain ⟨N, hN⟩ : ∃ N, N = n0 + n1 + n2 + n3 := ⟨_, rfl⟩
  rw [← hN] at HRES HALL ksum
  have HN := Lib.hid hN; clear hN
  have H0 := Lib.hid h0; have H1 := Lib.hid h1; have H2 := Lib.hid h2; have H3 := Lib.hid h3; clear h0 h1 h2 h3
  go_enter Try.func30, Try.ntmps30
  go_wp2_with fail
  have hW1 : ∃ w1, w1 = w.alloc (.cells #[.int .i64 ro, .int .i64 go, .slice A0 n0 c0, .slice A1 n1 c1, .slice A2 n2 c2, .slice A3 n3 c3] 57) := ⟨_, rfl⟩
  obtain ⟨w1, hW⟩ := hW1
  have X1 : Below w.heap.size w w1 := by rw [hW]; exact bel1
  have l1 : w.heap.size < w1.heap.size := by rw [hW]; simp
  have c1_0 : w1.cell? ⟨w.heap.size, 0, none⟩ = some (.int .i64 ro) := by rw [hW]; exact cell_of_row _ _ 0 _ _ (0, 0) (heap_alloc_new _ _)
  have c1_1 : w1.cell? ⟨w.heap.size, 1, none⟩ = some (.int .i64 go) := by rw [hW]; exact cell_of_row _ _ 1 _ _ (0, 0) (heap_alloc_new _ _)
  have c1_2 : w1.cell? ⟨w.heap.size, 2, none⟩ = some (.slice A0 n0 c0) := by rw [hW]; exact cell_of_row _ _ 2 _ _ (0, 0) (heap_alloc_new _ _)
  have c1_3 : w1.cell? ⟨w.heap.size, 3, none⟩ = some (.slice A1 n1 c1) := by rw [hW]; exact cell_of_row _ _ 3 _ _ (0, 0) (heap_alloc_new _ _)
  have c1_4 : w1.cell? ⟨w.heap.size, 4, none⟩ = some (.slice A2 n2 c2) := by rw [hW]; exact cell_of_row _ _ 4 _ _ (0, 0) (heap_alloc_new _ _)
  have c1_5 : w1.cell? ⟨w.heap.size, 5, none⟩ = some (.slice A3 n3 c3) := by rw [hW]; exact cell_of_row _ _ 5 _ _ (0, 0) (heap_alloc_new _ _)
  have HW := Lib.hid hW
  rw [← hW]
  clear hW HW
  have W1 := l6In_any ro 1 8
  have W2 := l6In_any go 0 ro
  cases e0 : inB ro 1 8
  · have HE0 := Lib.hid e0
    rw [e0] at W1
    clear e0
    have hf : res = false := by rw [HRES.out, HE0.out]; simp
    have HF := Lib.hid hf; clear hf
    go_wp2_with (first | (go_at_call 56; with_reducible refine (W1 _).mono ?_; rintro e w' ⟨rfl, rfl⟩) | (go_at_call 56; with_reducible refine (W2 _).mono ?_; rintro e w' ⟨rfl, rfl⟩))
    go_ret
    exact ⟨ret_bool HF.out.symm, X1⟩
  have HE0 := Lib.hid e0
  rw [e0] at W1
  have hro : 1 ≤ ro ∧ ro ≤ 8 := by have := HE0.out; unfold inB at this; simpa using this
  obtain ⟨hr1, hr8⟩ := hro
  clear e0
  cases e1 : inB go 0 ro
  · have HE1 := Lib.hid e1
    rw [e1] at W2
    clear e1
    have hf : res = false := by rw [HRES.out, HE0.out, HE1.out]; simp
    have HF := Lib.hid hf; clear hf
    go_wp2_with (first | (go_at_call 56; with_reducible refine (W1 _).mono ?_; rintro e w' ⟨rfl, rfl⟩) | (go_at_call 56; with_reducible refine (W2 _).mono ?_; rintro e w' ⟨rfl, rfl⟩))
    go_ret
    exact ⟨ret_bool HF.out.symm, X1⟩
  have HE1 := Lib.hid e1
  rw [e1] at W2
  clear e1
  cases e2 : decide (ro < (n0 : Int) + n1)
  rotate_left
  · have HE2 := Lib.hid e2
    have hf : res = false := by rw [HRES.out, HE0.out, HE1.out, HE2.out]; simp
    have HF := Lib.hid hf; clear hf
    go_wp2_with (first | (go_at_call 56; with_reducible refine (W1 _).mono ?_; rintro e w' ⟨rfl, rfl⟩) | (go_at_call 56; with_reducible refine (W2 _).mono ?_; rintro e w' ⟨rfl, rfl⟩))
    go_ret
    exact ⟨ret_bool HF.out.symm, X1⟩
  have HE2 := Lib.hid e2
  cases e3 : decide (ro < (n0 : Int) + n2)
  rotate_left
  · have HE3 := Lib.hid e3
    have hf : res = false := by rw [HRES.out, HE0.out, HE1.out, HE2.out, HE3.out]; simp
    have HF := Lib.hid hf; clear hf
    go_wp2_with (first | (go_at_call 56; with_reducible refine (W1 _).mono ?_; rintro e w' ⟨rfl, rfl⟩) | (go_at_call 56; with_reducible refine (W2 _).mono ?_; rintro e w' ⟨rfl, rfl⟩))
    go_ret
    exact ⟨ret_bool HF.out.symm, X1⟩
  have HE3 := Lib.hid e3
  have hf : res = (!decide (2 * ro < (N : Int)) && rowsOk all) := by rw [HRES.out, HE0.out, HE1.out, HE2.out, HE3.out]; simp
  have HF := Lib.hid hf; clear hf
  go_wp2_with (first | (go_at_call 56; with_reducible refine (W1 _).mono ?_; rintro e w' ⟨rfl, rfl⟩) | (go_at_call 56; with_reducible refine (W2 _).mono ?_; rintro e w' ⟨rfl, rfl⟩))
  obtain ⟨i0, hi0, hz0, hz1, hz2⟩ := info_parts info_int
  apply wp_region_rgm (Own (w1.heap.size)) (Ext) (fun _ _ => True) (0 :: 0 :: 0 :: 0 :: 0 :: 0 :: 0 :: 0 :: 0 :: 0 :: 0 :: 0 :: 0 :: 0 :: []) (by kernel_rfl) (false :: false :: false :: true :: false :: false :: false :: false :: false :: false :: false :: false :: false :: false :: false :: false :: false :: false :: false :: false :: false :: false :: false :: false :: false :: false :: false :: false :: false :: false :: false :: false :: false :: false :: false :: false :: false :: false :: false :: false :: false :: true :: true :: true :: true :: true :: true :: true :: true :: true :: true :: true :: true :: true :: false :: false :: false :: false :: false :: false :: false :: false :: false :: false :: false :: false :: false :: false :: false :: false :: false :: false :: false :: false :: false :: false :: false :: false :: false :: false :: false :: false :: []) (some 41 :: some 42 :: some 43 :: some 44 :: some 45 :: some 46 :: some 47 :: some 48 :: some 49 :: some 50 :: some 51 :: some 52 :: some 53 :: some 3 :: []) ([] :: [] :: [1] :: [0, 2] :: [] :: [4] :: [3, 5] :: [] :: [7] :: [6, 8] :: [] :: [10] :: [9, 11] :: [12] :: []) (false :: false :: false :: true :: false :: false :: true :: false :: false :: true :: false :: false :: true :: false :: []) (true :: true :: true :: false :: true :: true :: false :: true :: true :: false :: true :: true :: false :: false :: []) [13] (hardEmpty w1.heap.size :: MStP.is _ :: MStP.is _ :: softInts w1.heap.size (n0) (x0) :: MStP.is _ :: MStP.is _ :: softInts w1.heap.size (n0 + n1) (x0 ++ x1) :: MStP.is _ :: MStP.is _ :: softInts w1.heap.size (n0 + n1 + n2) (x0 ++ x1 ++ x2) :: MStP.is _ :: MStP.is _ :: softInts w1.heap.size (n0 + n1 + n2 + n3) (x0 ++ x1 ++ x2 ++ x3) :: softInts w1.heap.size (n0 + n1 + n2 + n3) (x0 ++ x1 ++ x2 ++ x3) :: []) (by kernel_rfl) (by kernel_rfl) (by kernel_rfl)
  case hobs =>
    refine ⟨fun y w' k hS hj hk hF K hK => ?_, ?_⟩
    · skip -- 0: buildSlice
      simp only [fillL, cond_true, cond_false, List.getD_cons_zero, List.getD_cons_succ, StP.is, Act.put, List.setIfInBounds_toArray, List.set_cons_zero, List.set_cons_succ, Nat.reduceAdd, MStP.is, Option.isSome_some, Option.isSome_none] at hK ⊢
      refine rg_yes (by kernel_rfl) ?_
      have hSb := hS.below
      have q0_ := (hSb.cell l1).trans c1_0
      have q1_ := (hSb.cell l1).trans c1_1
      have q2_ := (hSb.cell l1).trans c1_2
      have q3_ := (hSb.cell l1).trans c1_3
      have q4_ := (hSb.cell l1).trans c1_4
      have q5_ := (hSb.cell l1).trans c1_5
      clear hF
      go_simp
      exact hK _ _ (Ext.alloc _ _) trivial ⟨_, rfl⟩
    refine ⟨fun y w' k hS hj hk hF K hK => ?_, ?_⟩
    · skip -- 1: fieldAddr
      simp only [fillL, cond_true, cond_false, List.getD_cons_zero, List.getD_cons_succ, StP.is, Act.put, List.setIfInBounds_toArray, List.set_cons_zero, List.set_cons_succ, Nat.reduceAdd, MStP.is, Option.isSome_some, Option.isSome_none] at hK ⊢
      refine rg_yes (by kernel_rfl) ?_
      clear hF
      go_simp
      exact hK _ _ (Ext.refl _) trivial rfl
    refine ⟨fun y w' k hS hj hk hF K hK => ?_, ?_⟩
    · skip -- 2: load
      have e42 : y 42 = _ := hF.1
      simp only [fillL, cond_true, cond_false, List.getD_cons_zero, List.getD_cons_succ, StP.is, Act.put, List.setIfInBounds_toArray, List.set_cons_zero, List.set_cons_succ, Nat.reduceAdd, e42, MStP.is, Option.isSome_some, Option.isSome_none] at hK ⊢
      refine rg_yes (by kernel_rfl) ?_
      have hSb := hS.below
      have q0_ := (hSb.cell l1).trans c1_0
      have q1_ := (hSb.cell l1).trans c1_1
      have q2_ := (hSb.cell l1).trans c1_2
      have q3_ := (hSb.cell l1).trans c1_3
      have q4_ := (hSb.cell l1).trans c1_4
      have q5_ := (hSb.cell l1).trans c1_5
      clear e42
      clear hF
      go_simp
      exact hK _ _ (Ext.refl _) trivial rfl
    refine ⟨fun y w' k hS hj hk hF K hK => ?_, ?_⟩
    · skip -- 3: call
      obtain ⟨Xe41, e41⟩ := hF.1
      have e43 : y 43 = _ := hF.2.1
      simp only [fillL, cond_true, cond_false, List.getD_cons_zero, List.getD_cons_succ, StP.is, Act.put, List.setIfInBounds_toArray, List.set_cons_zero, List.set_cons_succ, Nat.reduceAdd, e41, e43, MStP.is, Option.isSome_some, Option.isSome_none] at hK ⊢
      refine rg_yes (by kernel_rfl) ?_
      have hSb := hS.below
      have q0_ := (hSb.cell l1).trans c1_0
      have q1_ := (hSb.cell l1).trans c1_1
      have q2_ := (hSb.cell l1).trans c1_2
      have q3_ := (hSb.cell l1).trans c1_3
      have q4_ := (hSb.cell l1).trans c1_4
      have q5_ := (hSb.cell l1).trans c1_5
      clear e41 e43
      clear hF
      have hI : RowAt w' A0 (n0 * 1) (x0.map (Value.int .i64)) := ((H0.out.ints).below (X1.trans (hSb.mono X1.size))).row
      refine wp_append_row (.tmp 41) (.tmp 43) 25 rfl 3 i0 (.int .i64 0) 1 8 Try.underlying25 hi0 hz0 hz1 hz2 rfl (by decide) [] _ A0 0 _ n0 c0 [] (x0.map (Value.int .i64)) rfl rfl (OwnA.nil _) hI (ints_one _) (by unfold maxLen; omega) (by omega) ?_
      intro A' c' S' w'' hO' hS' hC'
      exact hK _ _ (fun hB => hC'.below (fun g _ hg => (by simp at hg)) hB) trivial ⟨A', c', S', by rw [Nat.zero_add], by simpa using hO', fun g hg => (hS' g hg).elim (fun h => (by simp at h)) (fun h => Nat.le_trans hSb.size h)⟩
    refine ⟨fun y w' k hS hj hk hF K hK => ?_, ?_⟩
    · skip -- 4: fieldAddr
      simp only [fillL, cond_true, cond_false, List.getD_cons_zero, List.getD_cons_succ, StP.is, Act.put, List.setIfInBounds_toArray, List.set_cons_zero, List.set_cons_succ, Nat.reduceAdd, MStP.is, Option.isSome_some, Option.isSome_none] at hK ⊢
      refine rg_yes (by kernel_rfl) ?_
      clear hF
      go_simp
      exact hK _ _ (Ext.refl _) trivial rfl
    refine ⟨fun y w' k hS hj hk hF K hK => ?_, ?_⟩
    · skip -- 5: load
      have e45 : y 45 = _ := hF.1
      simp only [fillL, cond_true, cond_false, List.getD_cons_zero, List.getD_cons_succ, StP.is, Act.put, List.setIfInBounds_toArray, List.set_cons_zero, List.set_cons_succ, Nat.reduceAdd, e45, MStP.is, Option.isSome_some, Option.isSome_none] at hK ⊢
      refine rg_yes (by kernel_rfl) ?_
      have hSb := hS.below
      have q0_ := (hSb.cell l1).trans c1_0
      have q1_ := (hSb.cell l1).trans c1_1
      have q2_ := (hSb.cell l1).trans c1_2
      have q3_ := (hSb.cell l1).trans c1_3
      have q4_ := (hSb.cell l1).trans c1_4
      have q5_ := (hSb.cell l1).trans c1_5
      clear e45
      clear hF
      go_simp
      exact hK _ _ (Ext.refl _) trivial rfl
    refine ⟨fun y w' k hS hj hk hF K hK => ?_, ?_⟩
    · skip -- 6: call
      obtain ⟨Ae44, ce44, Se44, e44, oe44, ge44⟩ := hF.1
      have e46 : y 46 = _ := hF.2.1
      simp only [fillL, cond_true, cond_false, List.getD_cons_zero, List.getD_cons_succ, StP.is, Act.put, List.setIfInBounds_toArray, List.set_cons_zero, List.set_cons_succ, Nat.reduceAdd, e44, e46, MStP.is, Option.isSome_some, Option.isSome_none] at hK ⊢
      refine rg_yes (by kernel_rfl) ?_
      have hSb := hS.below
      have q0_ := (hSb.cell l1).trans c1_0
      have q1_ := (hSb.cell l1).trans c1_1
      have q2_ := (hSb.cell l1).trans c1_2
      have q3_ := (hSb.cell l1).trans c1_3
      have q4_ := (hSb.cell l1).trans c1_4
      have q5_ := (hSb.cell l1).trans c1_5
      clear e44 e46
      clear hF
      have hI : RowAt w' A1 (n1 * 1) (x1.map (Value.int .i64)) := ((H1.out.ints).below (X1.trans (hSb.mono X1.size))).row
      refine wp_append_row (.tmp 44) (.tmp 46) 25 rfl 3 i0 (.int .i64 0) 1 8 Try.underlying25 hi0 hz0 hz1 hz2 rfl (by decide) _ _ A1 (n0) _ n1 c1 _ (x1.map (Value.int .i64)) rfl rfl oe44 hI (ints_one _) (by unfold maxLen; omega) (by omega) ?_
      intro A' c' S' w'' hO' hS' hC'
      exact hK _ _ (fun hB => hC'.below (fun g _ hg => ge44 g hg) hB) trivial ⟨A', c', S', rfl, by simpa using hO', fun g hg => (hS' g hg).elim (fun h => ge44 g h) (fun h => Nat.le_trans hSb.size h)⟩
    refine ⟨fun y w' k hS hj hk hF K hK => ?_, ?_⟩
    · skip -- 7: fieldAddr
      simp only [fillL, cond_true, cond_false, List.getD_cons_zero, List.getD_cons_succ, StP.is, Act.put, List.setIfInBounds_toArray, List.set_cons_zero, List.set_cons_succ, Nat.reduceAdd, MStP.is, Option.isSome_some, Option.isSome_none] at hK ⊢
      refine rg_yes (by kernel_rfl) ?_
      clear hF
      go_simp
      exact hK _ _ (Ext.refl _) trivial rfl
    refine ⟨fun y w' k hS hj hk hF K hK => ?_, ?_⟩
    · skip -- 8: load
      have e48 : y 48 = _ := hF.1
      simp only [fillL, cond_true, cond_false, List.getD_cons_zero, List.getD_cons_succ, StP.is, Act.put, List.setIfInBounds_toArray, List.set_cons_zero, List.set_cons_succ, Nat.reduceAdd, e48, MStP.is, Option.isSome_some, Option.isSome_none] at hK ⊢
      refine rg_yes (by kernel_rfl) ?_
      have hSb := hS.below
      have q0_ := (hSb.cell l1).trans c1_0
      have q1_ := (hSb.cell l1).trans c1_1
      have q2_ := (hSb.cell l1).trans c1_2
      have q3_ := (hSb.cell l1).trans c1_3
      have q4_ := (hSb.cell l1).trans c1_4
      have q5_ := (hSb.cell l1).trans c1_5
      clear e48
      clear hF
      go_simp
      exact hK _ _ (Ext.refl _) trivial rfl
    refine ⟨fun y w' k hS hj hk hF K hK => ?_, ?_⟩
    · skip -- 9: call
      obtain ⟨Ae47, ce47, Se47, e47, oe47, ge47⟩ := hF.1
      have e49 : y 49 = _ := hF.2.1
      simp only [fillL, cond_true, cond_false, List.getD_cons_zero, List.getD_cons_succ, StP.is, Act.put, List.setIfInBounds_toArray, List.set_cons_zero, List.set_cons_succ, Nat.reduceAdd, e47, e49, MStP.is, Option.isSome_some, Option.isSome_none] at hK ⊢
      refine rg_yes (by kernel_rfl) ?_
      have hSb := hS.below
      have q0_ := (hSb.cell l1).trans c1_0
      have q1_ := (hSb.cell l1).trans c1_1
      have q2_ := (hSb.cell l1).trans c1_2
      have q3_ := (hSb.cell l1).trans c1_3
      have q4_ := (hSb.cell l1).trans c1_4
      have q5_ := (hSb.cell l1).trans c1_5
      clear e47 e49
      clear hF
      have hI : RowAt w' A2 (n2 * 1) (x2.map (Value.int .i64)) := ((H2.out.ints).below (X1.trans (hSb.mono X1.size))).row
      refine wp_append_row (.tmp 47) (.tmp 49) 25 rfl 3 i0 (.int .i64 0) 1 8 Try.underlying25 hi0 hz0 hz1 hz2 rfl (by decide) _ _ A2 (n0 + n1) _ n2 c2 _ (x2.map (Value.int .i64)) rfl rfl oe47 hI (ints_one _) (by unfold maxLen; omega) (by omega) ?_
      intro A' c' S' w'' hO' hS' hC'
      exact hK _ _ (fun hB => hC'.below (fun g _ hg => ge47 g hg) hB) trivial ⟨A', c', S', rfl, by simpa using hO', fun g hg => (hS' g hg).elim (fun h => ge47 g h) (fun h => Nat.le_trans hSb.size h)⟩
    refine ⟨fun y w' k hS hj hk hF K hK => ?_, ?_⟩
    · skip -- 10: fieldAddr
      simp only [fillL, cond_true, cond_false, List.getD_cons_zero, List.getD_cons_succ, StP.is, Act.put, List.setIfInBounds_toArray, List.set_cons_zero, List.set_cons_succ, Nat.reduceAdd, MStP.is, Option.isSome_some, Option.isSome_none] at hK ⊢
      refine rg_yes (by kernel_rfl) ?_
      clear hF
      go_simp
      exact hK _ _ (Ext.refl _) trivial rfl
    refine ⟨fun y w' k hS hj hk hF K hK => ?_, ?_⟩
    · skip -- 11: load
      have e51 : y 51 = _ := hF.1
      simp only [fillL, cond_true, cond_false, List.getD_cons_zero, List.getD_cons_succ, StP.is, Act.put, List.setIfInBounds_toArray, List.set_cons_zero, List.set_cons_succ, Nat.reduceAdd, e51, MStP.is, Option.isSome_some, Option.isSome_none] at hK ⊢
      refine rg_yes (by kernel_rfl) ?_
      have hSb := hS.below
      have q0_ := (hSb.cell l1).trans c1_0
      have q1_ := (hSb.cell l1).trans c1_1
      have q2_ := (hSb.cell l1).trans c1_2
      have q3_ := (hSb.cell l1).trans c1_3
      have q4_ := (hSb.cell l1).trans c1_4
      have q5_ := (hSb.cell l1).trans c1_5
      clear e51
      clear hF
      go_simp
      exact hK _ _ (Ext.refl _) trivial rfl
    refine ⟨fun y w' k hS hj hk hF K hK => ?_, ?_⟩
    · skip -- 12: call
      obtain ⟨Ae50, ce50, Se50, e50, oe50, ge50⟩ := hF.1
      have e52 : y 52 = _ := hF.2.1
      simp only [fillL, cond_true, cond_false, List.getD_cons_zero, List.getD_cons_succ, StP.is, Act.put, List.setIfInBounds_toArray, List.set_cons_zero, List.set_cons_succ, Nat.reduceAdd, e50, e52, MStP.is, Option.isSome_some, Option.isSome_none] at hK ⊢
      refine rg_yes (by kernel_rfl) ?_
      have hSb := hS.below
      have q0_ := (hSb.cell l1).trans c1_0
      have q1_ := (hSb.cell l1).trans c1_1
      have q2_ := (hSb.cell l1).trans c1_2
      have q3_ := (hSb.cell l1).trans c1_3
      have q4_ := (hSb.cell l1).trans c1_4
      have q5_ := (hSb.cell l1).trans c1_5
      clear e50 e52
      clear hF
      have hI : RowAt w' A3 (n3 * 1) (x3.map (Value.int .i64)) := ((H3.out.ints).below (X1.trans (hSb.mono X1.size))).row
      refine wp_append_row (.tmp 50) (.tmp 52) 25 rfl 3 i0 (.int .i64 0) 1 8 Try.underlying25 hi0 hz0 hz1 hz2 rfl (by decide) _ _ A3 (n0 + n1 + n2) _ n3 c3 _ (x3.map (Value.int .i64)) rfl rfl oe50 hI (ints_one _) (by unfold maxLen; omega) (by omega) ?_
      intro A' c' S' w'' hO' hS' hC'
      exact hK _ _ (fun hB => hC'.below (fun g _ hg => ge50 g hg) hB) trivial ⟨A', c', S', rfl, by simpa using hO', fun g hg => (hS' g hg).elim (fun h => ge50 g h) (fun h => Nat.le_trans hSb.size h)⟩
    refine ⟨fun y w' k hS hj hk hF K hK => ?_, ?_⟩
    · skip -- 13: assign
      obtain ⟨Ae53, ce53, Se53, e53, oe53, ge53⟩ := hF.1
      simp only [fillL, cond_true, cond_false, List.getD_cons_zero, List.getD_cons_succ, StP.is, Act.put, List.setIfInBounds_toArray, List.set_cons_zero, List.set_cons_succ, Nat.reduceAdd, e53, MStP.is, Option.isSome_some, Option.isSome_none] at hK ⊢
      refine rg_yes (by kernel_rfl) ?_
      have hSb := hS.below
      have q0_ := (hSb.cell l1).trans c1_0
      have q1_ := (hSb.cell l1).trans c1_1
      have q2_ := (hSb.cell l1).trans c1_2
      have q3_ := (hSb.cell l1).trans c1_3
      have q4_ := (hSb.cell l1).trans c1_4
      have q5_ := (hSb.cell l1).trans c1_5
      clear e53
      clear hF
      go_simp
      exact hK _ _ (Ext.refl _) trivial ⟨_, _, _, rfl, oe53, ge53⟩
    trivial
  case hH => rfl
  case hNS => exact Own.of_ext _
  case hSt => exact fun a b => Own.trans a b
  case hJ => exact fun _ _ _ _ h => h
  case hdrew => exact Own.drew _ _
  case hj0 => trivial
  case hend =>
    intro y w2 hS _ hF
    obtain ⟨Aa, ca, Sa, e3, hO, hSa⟩ := hF.1
    clear hF
    simp only [fillL, cond_true, cond_false, Nat.reduceAdd, e3]
    clear e3
    have hn : n0 + n1 + n2 + n3 = N := HN.out.symm
    have hx : x0 ++ x1 ++ x2 ++ x3 = all := by rw [HAL.out]; simp
    rw [hx] at hO
    rw [hn] at hO ⊢
    clear hn hx
    have hSb := hS.below
    have X2 : Below w.heap.size w w2 := X1.trans (hSb.mono X1.size)
    have l2 : w.heap.size < w2.heap.size := Nat.lt_of_lt_of_le l1 hSb.size
    have c2_0 := (hSb.cell l1).trans c1_0
    have HI := Lib.hid (hO.ints (by omega))
    have hNc : N ≤ ca := hO.le
    have hcap : ca ≤ 9223372036854775807 := by have := hO.cap; unfold maxLen at this; exact this
    clear hO hSa hS hSb c1_0 c1_1 c1_2 c1_3 c1_4 c1_5 W1 W2 e2 e3
    go_wp2_with fail
    go_loopw [4] (fun i wr => ∃ k : Nat, k ≤ N ∧ i = .int .i64 k ∧ Hid (∀ j, j < k → rowGood all j = true) ∧ Hid (Ext w2 wr)) (fun i _ => N - (intOf i).toNat)
    case atStart => exact ⟨0, Nat.zero_le _, rfl, Lib.hid (fun j hj => absurd hj (by omega)), Lib.hid (Ext.refl _)⟩
    case round =>
      obtain ⟨k, hk, rfl, HP, HE⟩ := hrel
      by_cases hlt : k < N
      · have HT := Lib.hid ((HI.out.take hk).below HE.out)
        obtain ⟨b, off, rfl, hb, hc⟩ := (HI.out.below HE.out).at_ hlt
        have h1 := hc k hlt
        clear hc
        have hg : rowGood all k = (inB (all.getD k 0) 8 63 && !hasI (all.take k) (all.getD k 0)) := rfl
        have HG := Lib.hid hg; clear hg
        have hno := fun h => rowsOk_no (xs := all) (i := k) (by rw [HALL.out]; exact hlt) h
        have HNO := Lib.hid hno; clear hno
        have hyes : rowGood all k = true → ∀ j, j < k + 1 → rowGood all j = true := fun h j hj => by
          rcases Nat.lt_or_ge j k with h2 | h2
          · exact HP.out j h2
          · obtain rfl : j = k := by omega
            exact h
        have HY := Lib.hid hyes; clear hyes HP
        generalize all.getD k 0 = v at *
        have kk0 : (0 : Int) ≤ (k : Int) := by omega
        have kk1 : (k : Int) < (N : Int) := by omega
        have kk2 : k ≤ ca := by omega
        have R1 := l2Row_any v
        have R2 := fun w' hE => l5In_any (some ⟨b, off, none⟩) k ca (all.take k) v w' (HT.out.below hE)
        have XR : Below w.heap.size w wr := X2.trans (Below.mono HE.out X2.size)
        cases a1 : inB v 8 63
        · have hf2 : res = false := by rw [HF.out, HNO.out (by rw [HG.out, a1]; rfl)]; simp
          have HF2 := Lib.hid hf2; clear hf2
          rw [a1] at R1
          clear a1
          go_wp2_with fail
          apply wp_region_rg (by kernel_rfl) (false :: false :: false :: false :: false :: false :: false :: false :: false :: false :: false :: false :: false :: false :: false :: false :: false :: false :: false :: false :: false :: false :: false :: false :: false :: false :: false :: false :: false :: false :: false :: false :: false :: false :: false :: false :: false :: false :: false :: false :: false :: false :: false :: false :: false :: false :: false :: false :: false :: false :: false :: false :: false :: false :: false :: false :: false :: false :: false :: false :: true :: true :: true :: true :: true :: true :: true :: true :: true :: true :: true :: true :: true :: true :: true :: true :: false :: false :: false :: false :: false :: false :: []) (some 60 :: some 61 :: some 62 :: some 63 :: some 64 :: some 65 :: some 66 :: some 67 :: some 68 :: some 69 :: some 70 :: some 71 :: some 72 :: some 73 :: some 74 :: some 75 :: []) ([] :: [] :: [0, 1] :: [2] :: [3] :: [4] :: [5] :: [6] :: [6] :: [6, 7, 8] :: [6] :: [6] :: [6, 10, 11] :: [6, 12] :: [6, 9, 13] :: [6, 14] :: []) (StP.is _ :: StP.is _ :: StP.is _ :: StP.is _ :: StP.is _ :: StP.is _ :: StP.is _ :: StP.is _ :: StP.is _ :: StP.is _ :: StP.is _ :: StP.is _ :: StP.is _ :: StP.is _ :: StP.is _ :: StP.is _ :: []) (by kernel_rfl)
          case hobs =>
            refine ⟨fun y w' hS hF K hK => ?_, ?_⟩
            · skip -- 0: move
              simp only [fillL, cond_true, cond_false, List.getD_cons_zero, List.getD_cons_succ, StP.is, Act.put, List.setIfInBounds_toArray, List.set_cons_zero, List.set_cons_succ, Nat.reduceAdd] at hK ⊢
              refine rg_yes (by kernel_rfl) ?_
              clear hF
              go_simp
              exact hK _ _ (Ext.refl _) rfl
            refine ⟨fun y w' hS hF K hK => ?_, ?_⟩
            · skip -- 1: move
              simp only [fillL, cond_true, cond_false, List.getD_cons_zero, List.getD_cons_succ, StP.is, Act.put, List.setIfInBounds_toArray, List.set_cons_zero, List.set_cons_succ, Nat.reduceAdd] at hK ⊢
              refine rg_yes (by kernel_rfl) ?_
              clear hF
              go_simp
              exact hK _ _ (Ext.refl _) rfl
            refine ⟨fun y w' hS hF K hK => ?_, ?_⟩
            · skip -- 2: indexAddr
              have e60 : y 60 = _ := hF.1
              have e61 : y 61 = _ := hF.2.1
              simp only [fillL, cond_true, cond_false, List.getD_cons_zero, List.getD_cons_succ, StP.is, Act.put, List.setIfInBounds_toArray, List.set_cons_zero, List.set_cons_succ, Nat.reduceAdd, e60, e61] at hK ⊢
              refine rg_yes (by kernel_rfl) ?_
              clear e60 e61
              clear hF
              go_simp
              exact hK _ _ (Ext.refl _) rfl
            refine ⟨fun y w' hS hF K hK => ?_, ?_⟩
            · skip -- 3: load
              have e62 : y 62 = _ := hF.1
              simp only [fillL, cond_true, cond_false, List.getD_cons_zero, List.getD_cons_succ, StP.is, Act.put, List.setIfInBounds_toArray, List.set_cons_zero, List.set_cons_succ, Nat.reduceAdd, e62] at hK ⊢
              refine rg_yes (by kernel_rfl) ?_
              have qx0_ := (Below.cell hS hb).trans h1
              clear e62
              clear hF
              go_simp
              exact hK _ _ (Ext.refl _) rfl
            refine ⟨fun y w' hS hF K hK => ?_, ?_⟩
            · skip -- 4: call
              have e63 : y 63 = _ := hF.1
              simp only [fillL, cond_true, cond_false, List.getD_cons_zero, List.getD_cons_succ, StP.is, Act.put, List.setIfInBounds_toArray, List.set_cons_zero, List.set_cons_succ, Nat.reduceAdd, e63] at hK ⊢
              refine rg_yes (by kernel_rfl) ?_
              clear e63
              clear hF
              go_simp
              go_at_call 81
              refine (R1 _).mono ?_
              rintro e w'' ⟨rfl, rfl⟩
              exact hK _ _ (Ext.refl _) rfl
            refine ⟨fun y w' hS hF K hK => ?_, ?_⟩
            · skip -- 5: unOp
              have e64 : y 64 = _ := hF.1
              simp only [fillL, cond_true, cond_false, List.getD_cons_zero, List.getD_cons_succ, StP.is, Act.put, List.setIfInBounds_toArray, List.set_cons_zero, List.set_cons_succ, Nat.reduceAdd, e64] at hK ⊢
              refine rg_yes (by kernel_rfl) ?_
              clear e64
              clear hF
              go_simp
              exact hK _ _ (Ext.refl _) rfl
            refine ⟨fun y w' hS hF K hK => ?_, ?_⟩
            · skip -- 6: move
              have e65 : y 65 = _ := hF.1
              simp only [fillL, cond_true, cond_false, List.getD_cons_zero, List.getD_cons_succ, StP.is, Act.put, List.setIfInBounds_toArray, List.set_cons_zero, List.set_cons_succ, Nat.reduceAdd, e65] at hK ⊢
              refine rg_yes (by kernel_rfl) ?_
              clear e65
              clear hF
              go_simp
              exact hK _ _ (Ext.refl _) rfl
            refine ⟨fun y w' hS hF K hK => ?_, ?_⟩
            · skip -- 7: move
              have e66 : y 66 = _ := hF.1
              simp only [fillL, cond_true, cond_false, List.getD_cons_zero, List.getD_cons_succ, StP.is, Act.put, List.setIfInBounds_toArray, List.set_cons_zero, List.set_cons_succ, Nat.reduceAdd, e66] at hK ⊢
              refine rg_no (by kernel_rfl) ?_
              exact hK _ _ (Ext.refl _) rfl
            refine ⟨fun y w' hS hF K hK => ?_, ?_⟩
            · skip -- 8: move
              have e66 : y 66 = _ := hF.1
              simp only [fillL, cond_true, cond_false, List.getD_cons_zero, List.getD_cons_succ, StP.is, Act.put, List.setIfInBounds_toArray, List.set_cons_zero, List.set_cons_succ, Nat.reduceAdd, e66] at hK ⊢
              refine rg_no (by kernel_rfl) ?_
              exact hK _ _ (Ext.refl _) rfl
            refine ⟨fun y w' hS hF K hK => ?_, ?_⟩
            · skip -- 9: slice
              have e66 : y 66 = _ := hF.1
              have e67 : y 67 = _ := hF.2.1
              have e68 : y 68 = _ := hF.2.2.1
              simp only [fillL, cond_true, cond_false, List.getD_cons_zero, List.getD_cons_succ, StP.is, Act.put, List.setIfInBounds_toArray, List.set_cons_zero, List.set_cons_succ, Nat.reduceAdd, e66, e67, e68] at hK ⊢
              refine rg_no (by kernel_rfl) ?_
              exact hK _ _ (Ext.refl _) rfl
            refine ⟨fun y w' hS hF K hK => ?_, ?_⟩
            · skip -- 10: move
              have e66 : y 66 = _ := hF.1
              simp only [fillL, cond_true, cond_false, List.getD_cons_zero, List.getD_cons_succ, StP.is, Act.put, List.setIfInBounds_toArray, List.set_cons_zero, List.set_cons_succ, Nat.reduceAdd, e66] at hK ⊢
              refine rg_no (by kernel_rfl) ?_
              exact hK _ _ (Ext.refl _) rfl
            refine ⟨fun y w' hS hF K hK => ?_, ?_⟩
            · skip -- 11: move
              have e66 : y 66 = _ := hF.1
              simp only [fillL, cond_true, cond_false, List.getD_cons_zero, List.getD_cons_succ, StP.is, Act.put, List.setIfInBounds_toArray, List.set_cons_zero, List.set_cons_succ, Nat.reduceAdd, e66] at hK ⊢
              refine rg_no (by kernel_rfl) ?_
              exact hK _ _ (Ext.refl _) rfl
            refine ⟨fun y w' hS hF K hK => ?_, ?_⟩
            · skip -- 12: indexAddr
              have e66 : y 66 = _ := hF.1
              have e70 : y 70 = _ := hF.2.1
              have e71 : y 71 = _ := hF.2.2.1
              simp only [fillL, cond_true, cond_false, List.getD_cons_zero, List.getD_cons_succ, StP.is, Act.put, List.setIfInBounds_toArray, List.set_cons_zero, List.set_cons_succ, Nat.reduceAdd, e66, e70, e71] at hK ⊢
              refine rg_no (by kernel_rfl) ?_
              exact hK _ _ (Ext.refl _) rfl
            refine ⟨fun y w' hS hF K hK => ?_, ?_⟩
            · skip -- 13: load
              have e66 : y 66 = _ := hF.1
              have e72 : y 72 = _ := hF.2.1
              simp only [fillL, cond_true, cond_false, List.getD_cons_zero, List.getD_cons_succ, StP.is, Act.put, List.setIfInBounds_toArray, List.set_cons_zero, List.set_cons_succ, Nat.reduceAdd, e66, e72] at hK ⊢
              refine rg_no (by kernel_rfl) ?_
              exact hK _ _ (Ext.refl _) rfl
            refine ⟨fun y w' hS hF K hK => ?_, ?_⟩
            · skip -- 14: call
              have e66 : y 66 = _ := hF.1
              have e69 : y 69 = _ := hF.2.1
              have e73 : y 73 = _ := hF.2.2.1
              simp only [fillL, cond_true, cond_false, List.getD_cons_zero, List.getD_cons_succ, StP.is, Act.put, List.setIfInBounds_toArray, List.set_cons_zero, List.set_cons_succ, Nat.reduceAdd, e66, e69, e73] at hK ⊢
              refine rg_no (by kernel_rfl) ?_
              exact hK _ _ (Ext.refl _) rfl
            refine ⟨fun y w' hS hF K hK => ?_, ?_⟩
            · skip -- 15: pick
              have e66 : y 66 = _ := hF.1
              have e74 : y 74 = _ := hF.2.1
              simp only [fillL, cond_true, cond_false, List.getD_cons_zero, List.getD_cons_succ, StP.is, Act.put, List.setIfInBounds_toArray, List.set_cons_zero, List.set_cons_succ, Nat.reduceAdd, e66, e74] at hK ⊢
              refine rg_yes (by kernel_rfl) ?_
              clear e66 e74
              clear hF
              go_simp
              exact hK _ _ (Ext.refl _) rfl
            trivial
          case hend =>
            intro y w3 hX hF
            have e75 : y 75 = _ := hF.2.2.2.2.2.2.2.2.2.2.2.2.2.2.2.1
            clear hF
            simp only [fillL, cond_true, cond_false, Nat.reduceAdd, e75]
            clear e75
            have X3 : Below w.heap.size w w3 := XR.trans (Below.mono hX XR.size)
            have E3 : Hid (Ext w2 w3) := Lib.hid (Ext.trans HE.out hX)
            go_wp2_with fail
            go_ret
            exact ⟨ret_bool HF2.out.symm, X3⟩
        have HA1 := Lib.hid a1
        rw [a1] at R1
        clear a1
        cases a2 : hasI (all.take k) v
        · have HGG : Hid (∀ j, j < k + 1 → rowGood all j = true) := Lib.hid (HY.out (by rw [HG.out, HA1.out, a2]; rfl))
          rw [a2] at R2
          clear a2
          go_wp2_with fail
          apply wp_region_rg (by kernel_rfl) (false :: false :: false :: false :: false :: false :: false :: false :: false :: false :: false :: false :: false :: false :: false :: false :: false :: false :: false :: false :: false :: false :: false :: false :: false :: false :: false :: false :: false :: false :: false :: false :: false :: false :: false :: false :: false :: false :: false :: false :: false :: false :: false :: false :: false :: false :: false :: false :: false :: false :: false :: false :: false :: false :: false :: false :: false :: false :: false :: false :: true :: true :: true :: true :: true :: true :: true :: true :: true :: true :: true :: true :: true :: true :: true :: true :: false :: false :: false :: false :: false :: false :: []) (some 60 :: some 61 :: some 62 :: some 63 :: some 64 :: some 65 :: some 66 :: some 67 :: some 68 :: some 69 :: some 70 :: some 71 :: some 72 :: some 73 :: some 74 :: some 75 :: []) ([] :: [] :: [0, 1] :: [2] :: [3] :: [4] :: [5] :: [6] :: [6] :: [6, 7, 8] :: [6] :: [6] :: [6, 10, 11] :: [6, 12] :: [6, 9, 13] :: [6, 14] :: []) (StP.is _ :: StP.is _ :: StP.is _ :: StP.is _ :: StP.is _ :: StP.is _ :: StP.is _ :: StP.is _ :: StP.is _ :: StP.is _ :: StP.is _ :: StP.is _ :: StP.is _ :: StP.is _ :: StP.is _ :: StP.is _ :: []) (by kernel_rfl)
          case hobs =>
            refine ⟨fun y w' hS hF K hK => ?_, ?_⟩
            · skip -- 0: move
              simp only [fillL, cond_true, cond_false, List.getD_cons_zero, List.getD_cons_succ, StP.is, Act.put, List.setIfInBounds_toArray, List.set_cons_zero, List.set_cons_succ, Nat.reduceAdd] at hK ⊢
              refine rg_yes (by kernel_rfl) ?_
              clear hF
              go_simp
              exact hK _ _ (Ext.refl _) rfl
            refine ⟨fun y w' hS hF K hK => ?_, ?_⟩
            · skip -- 1: move
              simp only [fillL, cond_true, cond_false, List.getD_cons_zero, List.getD_cons_succ, StP.is, Act.put, List.setIfInBounds_toArray, List.set_cons_zero, List.set_cons_succ, Nat.reduceAdd] at hK ⊢
              refine rg_yes (by kernel_rfl) ?_
              clear hF
              go_simp
              exact hK _ _ (Ext.refl _) rfl
            refine ⟨fun y w' hS hF K hK => ?_, ?_⟩
            · skip -- 2: indexAddr
              have e60 : y 60 = _ := hF.1
              have e61 : y 61 = _ := hF.2.1
              simp only [fillL, cond_true, cond_false, List.getD_cons_zero, List.getD_cons_succ, StP.is, Act.put, List.setIfInBounds_toArray, List.set_cons_zero, List.set_cons_succ, Nat.reduceAdd, e60, e61] at hK ⊢
              refine rg_yes (by kernel_rfl) ?_
              clear e60 e61
              clear hF
              go_simp
              exact hK _ _ (Ext.refl _) rfl
            refine ⟨fun y w' hS hF K hK => ?_, ?_⟩
            · skip -- 3: load
              have e62 : y 62 = _ := hF.1
              simp only [fillL, cond_true, cond_false, List.getD_cons_zero, List.getD_cons_succ, StP.is, Act.put, List.setIfInBounds_toArray, List.set_cons_zero, List.set_cons_succ, Nat.reduceAdd, e62] at hK ⊢
              refine rg_yes (by kernel_rfl) ?_
              have qx0_ := (Below.cell hS hb).trans h1
              clear e62
              clear hF
              go_simp
              exact hK _ _ (Ext.refl _) rfl
            refine ⟨fun y w' hS hF K hK => ?_, ?_⟩
            · skip -- 4: call
              have e63 : y 63 = _ := hF.1
              simp only [fillL, cond_true, cond_false, List.getD_cons_zero, List.getD_cons_succ, StP.is, Act.put, List.setIfInBounds_toArray, List.set_cons_zero, List.set_cons_succ, Nat.reduceAdd, e63] at hK ⊢
              refine rg_yes (by kernel_rfl) ?_
              clear e63
              clear hF
              go_simp
              go_at_call 81
              refine (R1 _).mono ?_
              rintro e w'' ⟨rfl, rfl⟩
              exact hK _ _ (Ext.refl _) rfl
            refine ⟨fun y w' hS hF K hK => ?_, ?_⟩
            · skip -- 5: unOp
              have e64 : y 64 = _ := hF.1
              simp only [fillL, cond_true, cond_false, List.getD_cons_zero, List.getD_cons_succ, StP.is, Act.put, List.setIfInBounds_toArray, List.set_cons_zero, List.set_cons_succ, Nat.reduceAdd, e64] at hK ⊢
              refine rg_yes (by kernel_rfl) ?_
              clear e64
              clear hF
              go_simp
              exact hK _ _ (Ext.refl _) rfl
            refine ⟨fun y w' hS hF K hK => ?_, ?_⟩
            · skip -- 6: move
              have e65 : y 65 = _ := hF.1
              simp only [fillL, cond_true, cond_false, List.getD_cons_zero, List.getD_cons_succ, StP.is, Act.put, List.setIfInBounds_toArray, List.set_cons_zero, List.set_cons_succ, Nat.reduceAdd, e65] at hK ⊢
              refine rg_yes (by kernel_rfl) ?_
              clear e65
              clear hF
              go_simp
              exact hK _ _ (Ext.refl _) rfl
            refine ⟨fun y w' hS hF K hK => ?_, ?_⟩
            · skip -- 7: move
              have e66 : y 66 = _ := hF.1
              simp only [fillL, cond_true, cond_false, List.getD_cons_zero, List.getD_cons_succ, StP.is, Act.put, List.setIfInBounds_toArray, List.set_cons_zero, List.set_cons_succ, Nat.reduceAdd, e66] at hK ⊢
              refine rg_yes (by kernel_rfl) ?_
              clear e66
              clear hF
              go_simp
              exact hK _ _ (Ext.refl _) rfl
            refine ⟨fun y w' hS hF K hK => ?_, ?_⟩
            · skip -- 8: move
              have e66 : y 66 = _ := hF.1
              simp only [fillL, cond_true, cond_false, List.getD_cons_zero, List.getD_cons_succ, StP.is, Act.put, List.setIfInBounds_toArray, List.set_cons_zero, List.set_cons_succ, Nat.reduceAdd, e66] at hK ⊢
              refine rg_yes (by kernel_rfl) ?_
              clear e66
              clear hF
              go_simp
              exact hK _ _ (Ext.refl _) rfl
            refine ⟨fun y w' hS hF K hK => ?_, ?_⟩
            · skip -- 9: slice
              have e66 : y 66 = _ := hF.1
              have e67 : y 67 = _ := hF.2.1
              have e68 : y 68 = _ := hF.2.2.1
              simp only [fillL, cond_true, cond_false, List.getD_cons_zero, List.getD_cons_succ, StP.is, Act.put, List.setIfInBounds_toArray, List.set_cons_zero, List.set_cons_succ, Nat.reduceAdd, e66, e67, e68] at hK ⊢
              refine rg_yes (by kernel_rfl) ?_
              clear e66 e67 e68
              clear hF
              go_simp
              exact hK _ _ (Ext.refl _) rfl
            refine ⟨fun y w' hS hF K hK => ?_, ?_⟩
            · skip -- 10: move
              have e66 : y 66 = _ := hF.1
              simp only [fillL, cond_true, cond_false, List.getD_cons_zero, List.getD_cons_succ, StP.is, Act.put, List.setIfInBounds_toArray, List.set_cons_zero, List.set_cons_succ, Nat.reduceAdd, e66] at hK ⊢
              refine rg_yes (by kernel_rfl) ?_
              clear e66
              clear hF
              go_simp
              exact hK _ _ (Ext.refl _) rfl
            refine ⟨fun y w' hS hF K hK => ?_, ?_⟩
            · skip -- 11: move
              have e66 : y 66 = _ := hF.1
              simp only [fillL, cond_true, cond_false, List.getD_cons_zero, List.getD_cons_succ, StP.is, Act.put, List.setIfInBounds_toArray, List.set_cons_zero, List.set_cons_succ, Nat.reduceAdd, e66] at hK ⊢
              refine rg_yes (by kernel_rfl) ?_
              clear e66
              clear hF
              go_simp
              exact hK _ _ (Ext.refl _) rfl
            refine ⟨fun y w' hS hF K hK => ?_, ?_⟩
            · skip -- 12: indexAddr
              have e66 : y 66 = _ := hF.1
              have e70 : y 70 = _ := hF.2.1
              have e71 : y 71 = _ := hF.2.2.1
              simp only [fillL, cond_true, cond_false, List.getD_cons_zero, List.getD_cons_succ, StP.is, Act.put, List.setIfInBounds_toArray, List.set_cons_zero, List.set_cons_succ, Nat.reduceAdd, e66, e70, e71] at hK ⊢
              refine rg_yes (by kernel_rfl) ?_
              clear e66 e70 e71
              clear hF
              go_simp
              exact hK _ _ (Ext.refl _) rfl
            refine ⟨fun y w' hS hF K hK => ?_, ?_⟩
            · skip -- 13: load
              have e66 : y 66 = _ := hF.1
              have e72 : y 72 = _ := hF.2.1
              simp only [fillL, cond_true, cond_false, List.getD_cons_zero, List.getD_cons_succ, StP.is, Act.put, List.setIfInBounds_toArray, List.set_cons_zero, List.set_cons_succ, Nat.reduceAdd, e66, e72] at hK ⊢
              refine rg_yes (by kernel_rfl) ?_
              have qx0_ := (Below.cell hS hb).trans h1
              clear e66 e72
              clear hF
              go_simp
              exact hK _ _ (Ext.refl _) rfl
            refine ⟨fun y w' hS hF K hK => ?_, ?_⟩
            · skip -- 14: call
              have e66 : y 66 = _ := hF.1
              have e69 : y 69 = _ := hF.2.1
              have e73 : y 73 = _ := hF.2.2.1
              simp only [fillL, cond_true, cond_false, List.getD_cons_zero, List.getD_cons_succ, StP.is, Act.put, List.setIfInBounds_toArray, List.set_cons_zero, List.set_cons_succ, Nat.reduceAdd, e66, e69, e73] at hK ⊢
              refine rg_yes (by kernel_rfl) ?_
              clear e66 e69 e73
              clear hF
              go_simp
              go_at_call 78
              refine (R2 _ hS).mono ?_
              rintro e w'' ⟨rfl, hq⟩
              exact hK _ _ (hq.below _) rfl
            refine ⟨fun y w' hS hF K hK => ?_, ?_⟩
            · skip -- 15: pick
              have e66 : y 66 = _ := hF.1
              have e74 : y 74 = _ := hF.2.1
              simp only [fillL, cond_true, cond_false, List.getD_cons_zero, List.getD_cons_succ, StP.is, Act.put, List.setIfInBounds_toArray, List.set_cons_zero, List.set_cons_succ, Nat.reduceAdd, e66, e74] at hK ⊢
              refine rg_yes (by kernel_rfl) ?_
              clear e66 e74
              clear hF
              go_simp
              exact hK _ _ (Ext.refl _) rfl
            trivial
          case hend =>
            intro y w3 hX hF
            have e75 : y 75 = _ := hF.2.2.2.2.2.2.2.2.2.2.2.2.2.2.2.1
            clear hF
            simp only [fillL, cond_true, cond_false, Nat.reduceAdd, e75]
            clear e75
            have X3 : Below w.heap.size w w3 := XR.trans (Below.mono hX XR.size)
            have E3 : Hid (Ext w2 w3) := Lib.hid (Ext.trans HE.out hX)
            go_wp2_with fail
            go_roundw
            case rel => exact ⟨k + 1, by omega, by go_num, HGG, E3⟩
            case measure => simp [intOf]; omega
        · have hf2 : res = false := by rw [HF.out, HNO.out (by rw [HG.out, HA1.out, a2]; rfl)]; simp
          have HF2 := Lib.hid hf2; clear hf2
          rw [a2] at R2
          clear a2
          go_wp2_with fail
          apply wp_region_rg (by kernel_rfl) (false :: false :: false :: false :: false :: false :: false :: false :: false :: false :: false :: false :: false :: false :: false :: false :: false :: false :: false :: false :: false :: false :: false :: false :: false :: false :: false :: false :: false :: false :: false :: false :: false :: false :: false :: false :: false :: false :: false :: false :: false :: false :: false :: false :: false :: false :: false :: false :: false :: false :: false :: false :: false :: false :: false :: false :: false :: false :: false :: false :: true :: true :: true :: true :: true :: true :: true :: true :: true :: true :: true :: true :: true :: true :: true :: true :: false :: false :: false :: false :: false :: false :: []) (some 60 :: some 61 :: some 62 :: some 63 :: some 64 :: some 65 :: some 66 :: some 67 :: some 68 :: some 69 :: some 70 :: some 71 :: some 72 :: some 73 :: some 74 :: some 75 :: []) ([] :: [] :: [0, 1] :: [2] :: [3] :: [4] :: [5] :: [6] :: [6] :: [6, 7, 8] :: [6] :: [6] :: [6, 10, 11] :: [6, 12] :: [6, 9, 13] :: [6, 14] :: []) (StP.is _ :: StP.is _ :: StP.is _ :: StP.is _ :: StP.is _ :: StP.is _ :: StP.is _ :: StP.is _ :: StP.is _ :: StP.is _ :: StP.is _ :: StP.is _ :: StP.is _ :: StP.is _ :: StP.is _ :: StP.is _ :: []) (by kernel_rfl)
          case hobs =>
            refine ⟨fun y w' hS hF K hK => ?_, ?_⟩
            · skip -- 0: move
              simp only [fillL, cond_true, cond_false, List.getD_cons_zero, List.getD_cons_succ, StP.is, Act.put, List.setIfInBounds_toArray, List.set_cons_zero, List.set_cons_succ, Nat.reduceAdd] at hK ⊢
              refine rg_yes (by kernel_rfl) ?_
              clear hF
              go_simp
              exact hK _ _ (Ext.refl _) rfl
            refine ⟨fun y w' hS hF K hK => ?_, ?_⟩
            · skip -- 1: move
              simp only [fillL, cond_true, cond_false, List.getD_cons_zero, List.getD_cons_succ, StP.is, Act.put, List.setIfInBounds_toArray, List.set_cons_zero, List.set_cons_succ, Nat.reduceAdd] at hK ⊢
              refine rg_yes (by kernel_rfl) ?_
              clear hF
              go_simp
              exact hK _ _ (Ext.refl _) rfl
            refine ⟨fun y w' hS hF K hK => ?_, ?_⟩
            · skip -- 2: indexAddr
              have e60 : y 60 = _ := hF.1
              have e61 : y 61 = _ := hF.2.1
              simp only [fillL, cond_true, cond_false, List.getD_cons_zero, List.getD_cons_succ, StP.is, Act.put, List.setIfInBounds_toArray, List.set_cons_zero, List.set_cons_succ, Nat.reduceAdd, e60, e61] at hK ⊢
              refine rg_yes (by kernel_rfl) ?_
              clear e60 e61
              clear hF
              go_simp
              exact hK _ _ (Ext.refl _) rfl
            refine ⟨fun y w' hS hF K hK => ?_, ?_⟩
            · skip -- 3: load
              have e62 : y 62 = _ := hF.1
              simp only [fillL, cond_true, cond_false, List.getD_cons_zero, List.getD_cons_succ, StP.is, Act.put, List.setIfInBounds_toArray, List.set_cons_zero, List.set_cons_succ, Nat.reduceAdd, e62] at hK ⊢
              refine rg_yes (by kernel_rfl) ?_
              have qx0_ := (Below.cell hS hb).trans h1
              clear e62
              clear hF
              go_simp
              exact hK _ _ (Ext.refl _) rfl
            refine ⟨fun y w' hS hF K hK => ?_, ?_⟩
            · skip -- 4: call
              have e63 : y 63 = _ := hF.1
              simp only [fillL, cond_true, cond_false, List.getD_cons_zero, List.getD_cons_succ, StP.is, Act.put, List.setIfInBounds_toArray, List.set_cons_zero, List.set_cons_succ, Nat.reduceAdd, e63] at hK ⊢
              refine rg_yes (by kernel_rfl) ?_
              clear e63
              clear hF
              go_simp
              go_at_call 81
              refine (R1 _).mono ?_
              rintro e w'' ⟨rfl, rfl⟩
              exact hK _ _ (Ext.refl _) rfl
            refine ⟨fun y w' hS hF K hK => ?_, ?_⟩
            · skip -- 5: unOp
              have e64 : y 64 = _ := hF.1
              simp only [fillL, cond_true, cond_false, List.getD_cons_zero, List.getD_cons_succ, StP.is, Act.put, List.setIfInBounds_toArray, List.set_cons_zero, List.set_cons_succ, Nat.reduceAdd, e64] at hK ⊢
              refine rg_yes (by kernel_rfl) ?_
              clear e64
              clear hF
              go_simp
              exact hK _ _ (Ext.refl _) rfl
            refine ⟨fun y w' hS hF K hK => ?_, ?_⟩
            · skip -- 6: move
              have e65 : y 65 = _ := hF.1
              simp only [fillL, cond_true, cond_false, List.getD_cons_zero, List.getD_cons_succ, StP.is, Act.put, List.setIfInBounds_toArray, List.set_cons_zero, List.set_cons_succ, Nat.reduceAdd, e65] at hK ⊢
              refine rg_yes (by kernel_rfl) ?_
              clear e65
              clear hF
              go_simp
              exact hK _ _ (Ext.refl _) rfl
            refine ⟨fun y w' hS hF K hK => ?_, ?_⟩
            · skip -- 7: move
              have e66 : y 66 = _ := hF.1
              simp only [fillL, cond_true, cond_false, List.getD_cons_zero, List.getD_cons_succ, StP.is, Act.put, List.setIfInBounds_toArray, List.set_cons_zero, List.set_cons_succ, Nat.reduceAdd, e66] at hK ⊢
              refine rg_yes (by kernel_rfl) ?_
              clear e66
              clear hF
              go_simp
              exact hK _ _ (Ext.refl _) rfl
            refine ⟨fun y w' hS hF K hK => ?_, ?_⟩
            · skip -- 8: move
              have e66 : y 66 = _ := hF.1
              simp only [fillL, cond_true, cond_false, List.getD_cons_zero, List.getD_cons_succ, StP.is, Act.put, List.setIfInBounds_toArray, List.set_cons_zero, List.set_cons_succ, Nat.reduceAdd, e66] at hK ⊢
              refine rg_yes (by kernel_rfl) ?_
              clear e66
              clear hF
              go_simp
              exact hK _ _ (Ext.refl _) rfl
            refine ⟨fun y w' hS hF K hK => ?_, ?_⟩
            · skip -- 9: slice
              have e66 : y 66 = _ := hF.1
              have e67 : y 67 = _ := hF.2.1
              have e68 : y 68 = _ := hF.2.2.1
              simp only [fillL, cond_true, cond_false, List.getD_cons_zero, List.getD_cons_succ, StP.is, Act.put, List.setIfInBounds_toArray, List.set_cons_zero, List.set_cons_succ, Nat.reduceAdd, e66, e67, e68] at hK ⊢
              refine rg_yes (by kernel_rfl) ?_
              clear e66 e67 e68
              clear hF
              go_simp
              exact hK _ _ (Ext.refl _) rfl
            refine ⟨fun y w' hS hF K hK => ?_, ?_⟩
            · skip -- 10: move
              have e66 : y 66 = _ := hF.1
              simp only [fillL, cond_true, cond_false, List.getD_cons_zero, List.getD_cons_succ, StP.is, Act.put, List.setIfInBounds_toArray, List.set_cons_zero, List.set_cons_succ, Nat.reduceAdd, e66] at hK ⊢
              refine rg_yes (by kernel_rfl) ?_
              clear e66
              clear hF
              go_simp
              exact hK _ _ (Ext.refl _) rfl
            refine ⟨fun y w' hS hF K hK => ?_, ?_⟩
            · skip -- 11: move
              have e66 : y 66 = _ := hF.1
              simp only [fillL, cond_true, cond_false, List.getD_cons_zero, List.getD_cons_succ, StP.is, Act.put, List.setIfInBounds_toArray, List.set_cons_zero, List.set_cons_succ, Nat.reduceAdd, e66] at hK ⊢
              refine rg_yes (by kernel_rfl) ?_
              clear e66
              clear hF
              go_simp
              exact hK _ _ (Ext.refl _) rfl
            refine ⟨fun y w' hS hF K hK => ?_, ?_⟩
            · skip -- 12: indexAddr
              have e66 : y 66 = _ := hF.1
              have e70 : y 70 = _ := hF.2.1
              have e71 : y 71 = _ := hF.2.2.1
              simp only [fillL, cond_true, cond_false, List.getD_cons_zero, List.getD_cons_succ, StP.is, Act.put, List.setIfInBounds_toArray, List.set_cons_zero, List.set_cons_succ, Nat.reduceAdd, e66, e70, e71] at hK ⊢
              refine rg_yes (by kernel_rfl) ?_
              clear e66 e70 e71
              clear hF
              go_simp
              exact hK _ _ (Ext.refl _) rfl
            refine ⟨fun y w' hS hF K hK => ?_, ?_⟩
            · skip -- 13: load
              have e66 : y 66 = _ := hF.1
              have e72 : y 72 = _ := hF.2.1
              simp only [fillL, cond_true, cond_false, List.getD_cons_zero, List.getD_cons_succ, StP.is, Act.put, List.setIfInBounds_toArray, List.set_cons_zero, List.set_cons_succ, Nat.reduceAdd, e66, e72] at hK ⊢
              refine rg_yes (by kernel_rfl) ?_
              have qx0_ := (Below.cell hS hb).trans h1
              clear e66 e72
              clear hF
              go_simp
              exact hK _ _ (Ext.refl _) rfl
            refine ⟨fun y w' hS hF K hK => ?_, ?_⟩
            · skip -- 14: call
              have e66 : y 66 = _ := hF.1
              have e69 : y 69 = _ := hF.2.1
              have e73 : y 73 = _ := hF.2.2.1
              simp only [fillL, cond_true, cond_false, List.getD_cons_zero, List.getD_cons_succ, StP.is, Act.put, List.setIfInBounds_toArray, List.set_cons_zero, List.set_cons_succ, Nat.reduceAdd, e66, e69, e73] at hK ⊢
              refine rg_yes (by kernel_rfl) ?_
              clear e66 e69 e73
              clear hF
              go_simp
              go_at_call 78
              refine (R2 _ hS).mono ?_
              rintro e w'' ⟨rfl, hq⟩
              exact hK _ _ (hq.below _) rfl
            refine ⟨fun y w' hS hF K hK => ?_, ?_⟩
            · skip -- 15: pick
              have e66 : y 66 = _ := hF.1
              have e74 : y 74 = _ := hF.2.1
              simp only [fillL, cond_true, cond_false, List.getD_cons_zero, List.getD_cons_succ, StP.is, Act.put, List.setIfInBounds_toArray, List.set_cons_zero, List.set_cons_succ, Nat.reduceAdd, e66, e74] at hK ⊢
              refine rg_yes (by kernel_rfl) ?_
              clear e66 e74
              clear hF
              go_simp
              exact hK _ _ (Ext.refl _) rfl
            trivial
          case hend =>
            intro y w3 hX hF
            have e75 : y 75 = _ := hF.2.2.2.2.2.2.2.2.2.2.2.2.2.2.2.1
            clear hF
            simp only [fillL, cond_true, cond_false, Nat.reduceAdd, e75]
            clear e75
            have X3 : Below w.heap.size w w3 := XR.trans (Below.mono hX XR.size)
            have E3 : Hid (Ext w2 w3) := Lib.hid (Ext.trans HE.out hX)
            go_wp2_with fail
            go_ret
            exact ⟨ret_bool HF2.out.symm, X3⟩
      · obtain rfl : k = N := by omega
        have hf2 : res = !decide (2 * ro < (k : Int)) := by rw [HF.out, rowsOk_yes (fun i hi => HP.out i (by rw [HALL.out] at hi; exact hi))]; simp
        have HF2 := Lib.hid hf2; clear hf2
        have c3_0 := (Below.cell HE.out l2).trans c2_0
        have XR : Below w.heap.size w wr := X2.trans (Below.mono HE.out X2.size)
        go_wp2_with fail
        go_ret
        exact ⟨ret_bool (by rw [HF2.out, Bool.eq_iff_iff]; simp), XR⟩

end Go.Proofs.Ytffieobjcipeoaa
