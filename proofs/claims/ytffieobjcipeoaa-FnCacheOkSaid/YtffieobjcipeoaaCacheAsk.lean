/- The reference's caches, asked: how long the lists become. No condition. -/
import Derived.Test.YtffieobjcipeoaaCacheOk
import Derived.Test.YtffieobjcipeoaaCacheNew
namespace Go.Proofs.Ytffieobjcipeoaa
set_option linter.unnecessarySimpa false
open Go.RowKit
set_option linter.unusedVariables false
set_option linter.unusedSimpArgs false

/-- A list of ints, wherever it lies. -/
def IL (w : World) (A : Option Addr) (n c : Nat) (xs : List Int) : Prop := SliceR IntR 1 w 0 w.heap.size A n c xs
theorem IL.below {w w' : World} {A : Option Addr} {n c : Nat} {xs : List Int} (h : IL w A n c xs) (hb : Below w.heap.size w w') : IL w' A n c xs := SliceR.up h hb
theorem IL.ints {w : World} {A : Option Addr} {n c : Nat} {xs : List Int} (h : IL w A n c xs) : IntsAt w A n xs := SliceR.ints h
theorem IL.len {w : World} {A : Option Addr} {n c : Nat} {xs : List Int} (h : IL w A n c xs) : xs.length = n := h.1
theorem IL.cap {w : World} {A : Option Addr} {n c : Nat} {xs : List Int} (h : IL w A n c xs) : n ≤ c := h.2.1
/-- The first of a list. -/
theorem IL.take {w : World} {A : Option Addr} {n c : Nat} {xs : List Int} (h : IL w A n c xs) {m : Nat} (hm : m ≤ n) : IL w A m c (xs.take m) := by
  obtain ⟨h1, h2, h3, h4, h5, h6⟩ := h
  refine ⟨by rw [List.length_take]; omega, by omega, by omega, h4, h5, fun hp => ?_⟩
  obtain ⟨b, off, hA, b1, b2, hc⟩ := h6 (by omega)
  refine ⟨b, off, hA, b1, b2, fun j x hx => hc j x ?_⟩
  rw [List.getElem?_take] at hx
  split at hx
  · exact hx
  · cases hx
theorem RowV_ints {w : World} {lo hi : Nat} : ∀ xs : List Int, RowV (IntR w lo hi) 1 (xs.map (Value.int .i64)) xs
  | [] => RowV.nil _ _
  | x :: xs => by
    have h1 : RowV (IntR w lo hi) 1 [.int .i64 x] [x] := RowV.one rfl rfl
    have := RowV.append h1 (RowV_ints xs) rfl
    simpa using this
theorem IL.own {w : World} {S : List Nat} {A : Option Addr} {n c lo : Nat} {xs : List Int} (h : OwnA w 3 1 S A n c (xs.map (Value.int .i64))) (hn : xs.length = n) (hS : ∀ g ∈ S, lo ≤ g) : SliceR IntR 1 w lo w.heap.size A n c xs := by
  have hv : RowV (IntR w lo w.heap.size) 1 (xs.map (Value.int .i64)) xs := RowV_ints xs
  exact (OwnA.slice h hn hv (fun g hg => ⟨hS g hg, h.lt g hg⟩) (Nat.le_refl _)).1
def LessP (n : Nat) (is : Bool) (w : World) (e : Ending) (w' : World) : Prop := ∃ A' n' c' xs', e = .returned (.slice A' n' c') ∧ SliceR IntR 1 w' w.heap.size w'.heap.size A' n' c' xs' ∧ n' ≤ n ∧ (is = true → n' < n) ∧ Below w.heap.size w w'
theorem hasI_take {xs : List Int} {k : Nat} (hk : k < xs.length) (v : Int) : hasI (xs.take (k + 1)) v = (hasI (xs.take k) v || decide (xs.getD k 0 = v)) := by
  have e : xs.take (k + 1) = xs.take k ++ [xs.getD k 0] := by rw [List.take_succ_eq_append_getElem hk, List.getD_eq_getElem?_getD, List.getElem?_eq_getElem hk]; rfl
  rw [e]
  unfold hasI
  generalize xs.getD k 0 = x
  rw [Bool.eq_iff_iff]
  simp only [decide_eq_true_eq, Bool.or_eq_true, List.mem_append, List.mem_singleton]
  exact or_congr Iff.rfl eq_comm
set_option maxRecDepth 100000 in
set_option maxHeartbeats 2000000 in
theorem l27Less_any (A : Option Addr) (n c : Nat) (xs : List Int) (row : Int) (w : World) (h : IL w A n c xs) (hn : n ≤ 1000) : Calls Try.prog 135 #[.slice A n c, .int .i64 row] w (LessP n (hasI xs row) w) := by
  obtain ⟨i0, hi, hz0, hz1, hz2⟩ := info_parts info_int
  have HL := Lib.hid h.len
  have H := Lib.hid h; clear h
  go_enter Try.func135, Try.ntmps135
  go_wp2_with fail
  go_loopw [5, 6] (fun b i wr => ∃ (k : Nat) (C : Option Addr) (nb cb : Nat) (S : List Nat) (ys : List Int), k ≤ n ∧ i = .int .i64 (k : Int) ∧ b = .slice C nb cb ∧ nb ≤ k ∧ Hid (ys.length = nb) ∧ Hid (hasI (xs.take k) row = true → nb < k) ∧ Hid (OwnA wr 3 1 S C nb cb (ys.map (Value.int .i64))) ∧ Hid (∀ g ∈ S, w.heap.size ≤ g) ∧ Hid (Below w.heap.size w wr)) (fun _ i _ => n - (intOf i).toNat)
  case atStart => exact ⟨0, _, 0, 0, [], [], Nat.zero_le _, rfl, rfl, Nat.le_refl _, Lib.hid rfl, Lib.hid (fun h => by unfold hasI at h; simp at h), Lib.hid (OwnA.nil _), Lib.hid (by simp), Lib.hid bel1⟩
  case round =>
    obtain ⟨k, C, nb, cb, S, ys, hk, rfl, rfl, hnb, HY, HI, HO, HS, HB⟩ := hrel
    by_cases hlt : k < n
    · obtain ⟨b, off, rfl, hb, hc⟩ := (H.out.below HB.out).ints.at_ hlt
      have q0 := hc k hlt
      have HT := Lib.hid (hasI_take (xs := xs) (k := k) (by rw [HL.out]; exact hlt) row)
      obtain ⟨x, hx⟩ : ∃ x, x = xs.getD k 0 := ⟨_, rfl⟩
      rw [← hx] at q0
      have HX := Lib.hid hx
      clear hx hc
      have k0 : (0 : Int) ≤ (k : Int) := by omega
      have k1 : (k : Int) < (n : Int) := by omega
      by_cases hxr : x = row
      · have d0 : (x != row) = false := by simp [hxr]
        go_wp2_with fail
        go_roundw
        case rel => exact ⟨k + 1, C, nb, cb, S, ys, by omega, by go_num, rfl, by omega, HY, Lib.hid (fun _ => by omega), HO, HS, HB⟩
        case measure => simp [intOf]; omega
      · have d0 : (x != row) = true := by simpa using hxr
        have HO2 : Hid (OwnA (wr.alloc (.cells #[.int .i64 x] 3)) 3 1 S C nb cb (ys.map (Value.int .i64))) := Lib.hid (HO.out.below bel1)
        have HRL : Hid (RowAt (wr.alloc (.cells #[.int .i64 x] 3)) (some ⟨wr.heap.size, 0, none⟩) (1 * 1) [.int .i64 x]) := Lib.hid (RowAt.lit rfl)
        go_wp2_with (at_builtin; go_must (refine wpList_append_row rfl _ _ 25 rfl 3 i0 (.int .i64 0) 1 8 Try.underlying25 hi hz0 hz1 hz2 rfl (by decide) S (C) (some ⟨wr.heap.size, 0, none⟩) nb cb 1 1 (ys.map (Value.int .i64)) [.int .i64 x] rfl rfl HO2.out HRL.out (by intro u hu; simp at hu; subst hu; rfl) (by unfold maxLen; omega) (by omega) ?_))
        intro C' cb' S' w5 hO5 hS5 hC5
        have hB5 : Below w.heap.size w w5 := (HB.out.alloc HB.out.size _).trans (hC5.below (fun g _ hg => HS.out g hg) (by have := HB.out.size; first | omega | (simp; omega)))
        have HO5 : Hid (OwnA w5 3 1 S' C' (nb + 1) cb' ((ys ++ [x]).map (Value.int .i64))) := Lib.hid (by simpa using hO5)
        have HS5 : Hid (∀ g ∈ S', w.heap.size ≤ g) := Lib.hid (fun g hg => (hS5 g hg).elim (HS.out g) (fun h => by have := HB.out.size; first | omega | (simp at h; omega)))
        have HB5 := Lib.hid hB5
        clear hO5 hS5 hC5 hB5
        go_wp2_with fail
        go_roundw
        case rel => exact ⟨k + 1, C', nb + 1, cb', S', ys ++ [x], by omega, by go_num, rfl, by omega, Lib.hid (by rw [List.length_append, HY.out]; rfl), Lib.hid (fun hh => by rw [HT.out, ← HX.out] at hh; simp [hxr] at hh; have := HI.out hh; omega), HO5, HS5, HB5⟩
        case measure => simp [intOf]; omega
    · obtain rfl : k = n := by omega
      have HI2 : Hid (hasI xs row = true → nb < k) := Lib.hid (by have := HI.out; rwa [List.take_of_length_le (by rw [HL.out]; exact Nat.le_refl _)] at this)
      go_wp2_with fail
      go_ret
      exact ⟨C, nb, cb, ys, rfl, IL.own HO.out HY.out HS.out, hnb, HI2.out, HB.out⟩
def FrontP (row : Int) (n : Nat) (xs : List Int) (w : World) (e : Ending) (w' : World) : Prop := ∃ A' c', e = .returned (.slice A' (n + 1) c') ∧ SliceR IntR 1 w' w.heap.size w'.heap.size A' (n + 1) c' (row :: xs) ∧ Below w.heap.size w w'
set_option maxRecDepth 100000 in
set_option maxHeartbeats 2000000 in
theorem l27Front_any (A : Option Addr) (n c : Nat) (xs : List Int) (row : Int) (w : World) (h : IL w A n c xs) (hn : n ≤ 1000) : Calls Try.prog 136 #[.slice A n c, .int .i64 row] w (FrontP row n xs w) := by
  obtain ⟨i0, hi, hz0, hz1, hz2⟩ := info_parts info_int
  have HL := Lib.hid h.len
  have HO : Hid (OwnA (w.alloc (.cells #[.int .i64 row] 3)) 3 1 [w.heap.size] (some ⟨w.heap.size, 0, none⟩) 1 1 [.int .i64 row]) := Lib.hid (OwnA.lit (by simp) (by decide))
  have HR : Hid (RowAt (w.alloc (.cells #[.int .i64 row] 3)) A (n * 1) (xs.map (Value.int .i64))) := Lib.hid (h.below bel1).ints.row
  have HE : Hid (∀ u ∈ xs.map (Value.int .i64), u.oneCell' = true) := Lib.hid (by intro u hu; obtain ⟨x, _, rfl⟩ := List.mem_map.1 hu; rfl)
  clear h
  go_enter Try.func136, Try.ntmps136
  go_wp2_with (at_builtin; go_must (refine wpList_append_row rfl _ _ 25 rfl 3 i0 (.int .i64 0) 1 8 Try.underlying25 hi hz0 hz1 hz2 rfl (by decide) [w.heap.size] (some ⟨w.heap.size, 0, none⟩) (A) 1 1 n c [.int .i64 row] (xs.map (Value.int .i64)) rfl rfl HO.out HR.out HE.out (by unfold maxLen; omega) (by omega) ?_))
  intro C' cb' S' w5 hO5 hS5 hC5
  have hB5 : Below w.heap.size w w5 := bel1.trans (hC5.below (fun g _ hg => by first | omega | (simp at hg; omega) | (have := List.mem_singleton.1 hg; omega)) (by first | omega | simp))
  have HI : Hid (SliceR IntR 1 w5 w.heap.size w5.heap.size C' (n + 1) cb' (row :: xs)) := Lib.hid (by rw [Nat.add_comm 1 n] at hO5; exact IL.own (by simpa using hO5) (by simp [HL.out]) (fun g hg => (hS5 g hg).elim (fun h => by first | omega | (simp at h; omega) | (have := List.mem_singleton.1 h; omega)) (fun h => by first | omega | (simp at h; omega) | (have := List.mem_singleton.1 h; omega))))
  have HB5 := Lib.hid hB5
  rw [Nat.add_comm 1 n]
  clear hO5 hS5 hC5 hB5
  go_wp2_with fail
  go_ret
  exact ⟨C', cb', rfl, HI.out, HB5.out⟩
end Go.Proofs.Ytffieobjcipeoaa
