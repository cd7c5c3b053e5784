/- SpaceFind, the program's and the reference's: the first free row, round about. No condition. -/
import Derived.Test.YtbfdbkidmakapaaFind
import Derived.Test.YtbfdbkidmakapaaSpaceRoom
import Derived.Test.YtbfdbkidmakapaaSpaceOkS
namespace Go.Proofs.Ytbfdbkidmakapaa
set_option linter.unusedVariables false
set_option linter.unusedSimpArgs false
set_option linter.unnecessarySimpa false
open Go.RowKit

def rowAt (f : Int) (i : Nat) : Nat := (8 + (f - 8 + i) % 56).toNat
def goodB (xs but : List Int) (a : Nat) : Bool := decide (xs.getD a 0 = 0) && !hasI but a
def findFrom (xs but : List Int) (f : Int) : Int := match (List.range 56).find? (fun i => goodB xs but (rowAt f i)) with
  | some i => rowAt f i
  | none => -1
def fromOf (f : Int) : Int := if inB f 8 63 = true then f else 8
def spFind (xs ys : List Int) (f : Int) (but : List Int) : Int := if spOk xs ys = true then findFrom xs but (fromOf f) else -1
theorem find_hit {xs but : List Int} {f : Int} {k : Nat} (hk : k < 56) (hp : ∀ j, j < k → goodB xs but (rowAt f j) = false) (h : goodB xs but (rowAt f k) = true) : findFrom xs but f = rowAt f k := by
  have : (List.range 56).find? (fun i => goodB xs but (rowAt f i)) = some k := by
    rw [List.find?_range_eq_some]
    exact ⟨h, by simpa using hk, fun j hj => by simp [hp j hj]⟩
  unfold findFrom
  rw [this]
theorem find_miss {xs but : List Int} {f : Int} (hp : ∀ j, j < 56 → goodB xs but (rowAt f j) = false) : findFrom xs but f = -1 := by
  have : (List.range 56).find? (fun i => goodB xs but (rowAt f i)) = none := by
    rw [List.find?_range_eq_none]
    exact fun j hj => by simp [hp j hj]
  unfold findFrom
  rw [this]
theorem row_step {xs but : List Int} {f : Int} {k : Nat} (hp : ∀ j, j < k → goodB xs but (rowAt f j) = false) (h : goodB xs but (rowAt f k) = false) : ∀ j, j < k + 1 → goodB xs but (rowAt f j) = false := by
  intro j hj
  rcases Nat.lt_or_ge j k with h2 | h2
  · exact hp j h2
  · obtain rfl : j = k := by omega
    exact h
theorem row_bd {f : Int} (k : Nat) (h0 : 8 ≤ f) : 8 ≤ rowAt f k ∧ rowAt f k < 64 ∧ 8 + (f - 8 + (k : Int)) % 56 = (rowAt f k : Int) := by
  unfold rowAt
  omega

set_option maxRecDepth 100000 in
set_option maxHeartbeats 4000000 in
theorem spaceFind_any (A B C : Option Addr) (n c m d nb e : Nat) (xs ys but : List Int) (f : Int) (w : World) (hA : IntsAt w A n xs) (hB0 : IntsAt w B m ys) (hC : IntsAt w C nb but) :
    Calls Try.prog 28 #[.agg #[.slice A n c, .slice B m d], .int .i64 f, .slice C nb e] w fun e w' => e = .returned (.int .i64 (spFind xs ys f but)) ∧ Below w.heap.size w w' := by
  cases hok : spOk xs ys
  · have HF := Lib.hid (show spFind xs ys f but = -1 by unfold spFind; rw [hok]; rfl)
    have HOK := Lib.hid hok; clear hok
    go_enter Try.func28, Try.ntmps28
    go_wp2_with fail
    refine (spaceOk_any _ _ _ _ _ _ xs ys _ (hA.below ((Below.refl _ _).alloc (Nat.le_refl _) _)) (hB0.below ((Below.refl _ _).alloc (Nat.le_refl _) _))).mono ?_
    rw [HOK.out]
    rintro e w1 ⟨rfl, hb1⟩
    have X1 : Below w.heap.size w w1 := ((Below.refl _ _).alloc (Nat.le_refl _) _).trans (hb1.mono (by simp))
    clear hb1
    go_wp2_with fail
    go_ret
    exact ⟨ret_int HF.out.symm, X1⟩
  have hn64 : n = 64 := by have := (spOk_iff.1 hok).1; have := hA.len; omega
  subst hn64
  have HFIN := Lib.hid (show spFind xs ys f but = findFrom xs but (fromOf f) by unfold spFind; rw [if_pos hok])
  have HOK := Lib.hid hok; clear hok
  by_cases hf : 8 ≤ f ∧ f ≤ 63
  · have hin := inB_yes hf
    have hfo : fromOf f = f := by unfold fromOf; rw [hin]; rfl
    rw [hfo] at HFIN
    clear hfo
    obtain ⟨f8, f63⟩ := hf
    go_enter Try.func28, Try.ntmps28
    go_wp2_with fail
    refine (spaceOk_any _ _ _ _ _ _ xs ys _ (hA.below ((Below.refl _ _).alloc (Nat.le_refl _) _)) (hB0.below ((Below.refl _ _).alloc (Nat.le_refl _) _))).mono ?_
    rw [HOK.out]
    rintro e w1 ⟨rfl, hb1⟩
    have X1 : Below w.heap.size w w1 := ((Below.refl _ _).alloc (Nat.le_refl _) _).trans (hb1.mono (by simp))
    have g0 : w1.cell? ⟨w.heap.size, 0, none⟩ = some (.slice A 64 c) := (hb1.cell (by simp)).trans (by simp [go_sem])
    have g1 : w1.cell? ⟨w.heap.size, 1, none⟩ = some (.slice B m d) := (hb1.cell (by simp)).trans (by simp [go_sem])
    clear hb1
    go_wp2_with (go_at_call 49; refine (isRow_any _ _).mono ?_; rintro e w' ⟨rfl, rfl⟩)
    go_loopw [7, 8, 15] (fun _ _ s wr => ∃ k : Nat, k ≤ 56 ∧ s = .int .i64 k ∧ Hid (∀ j, j < k → goodB xs but (rowAt f j) = false) ∧ Below w.heap.size w wr ∧ wr.cell? ⟨w.heap.size, 0, none⟩ = some (.slice A 64 c) ∧ wr.cell? ⟨w.heap.size, 1, none⟩ = some (.slice B m d)) (fun _ _ s _ => 56 - (intOf s).toNat)
    case atStart => exact ⟨0, Nat.zero_le _, rfl, Lib.hid (fun j hj => absurd hj (by omega)), X1, g0, g1⟩
    case round =>
      clear g0 g1
      obtain ⟨k, hk, rfl, HP, hB, g0, g1⟩ := hrel
      by_cases hlt : k < 56
      · obtain ⟨r8, r64, hrow⟩ := row_bd (f := f) k (by omega)
        have hhit := find_hit (xs := xs) (but := but) (f := f) hlt HP.out; have hstep := row_step (xs := xs) (but := but) (f := f) HP.out
        have HH := Lib.hid hhit; have HS := Lib.hid hstep; clear hhit hstep HP
        obtain ⟨a, ha⟩ : ∃ a, a = rowAt f k := ⟨_, rfl⟩
        rw [← ha] at r8 r64 hrow
        have HA := Lib.hid ha; clear ha
        obtain ⟨b, off, rfl, _, hcc⟩ := (hA.below hB).at_ (k := a) r64
        have h1 := hcc a r64; clear hcc
        have a0 : (0 : Int) ≤ (a : Int) := by omega
        have a1 : (a : Int) < 64 := by omega
        by_cases hz : xs.getD a 0 = 0
        rotate_left
        · have hn : goodB xs but (rowAt f k) = false := by rw [← HA.out]; unfold goodB; rw [decide_eq_false hz]; rfl
          have HN := Lib.hid (HS.out hn); clear hn HH HS
          have e0 : (xs.getD a 0 == 0) = false := by simpa using hz
          generalize xs.getD a 0 = v at *
          go_wp2_with fail
          go_roundw
          case rel => exact ⟨k + 1, by omega, by go_num, HN, hB, g0, g1⟩
          case measure => simp [intOf]; omega
        have HZ := Lib.hid hz
        rw [hz] at h1; clear hz
        go_wp2_with fail
        refine (contains_any C nb e but (a : Int) _ (hC.below hB)).mono ?_
        generalize hh : hasI but a = hb
        rintro e w2 ⟨rfl, hq⟩
        subst hq
        have hB2 := hB; have g0' := g0; have g1' := g1; clear g0 g1 h1 hB
        cases hb
        · have hn : goodB xs but (rowAt f k) = true := by rw [← HA.out]; unfold goodB; rw [decide_eq_true HZ.out, hh]; rfl
          have HF := Lib.hid ((HH.out hn).trans (by rw [← HA.out])); clear hn HH HS hh
          go_wp2_with fail
          go_ret
          exact ⟨ret_int (by rw [HFIN.out, HF.out]), hB2⟩
        · have hn : goodB xs but (rowAt f k) = false := by rw [← HA.out]; unfold goodB; rw [hh]; simp
          have HN := Lib.hid (HS.out hn); clear hn HH HS hh
          go_wp2_with fail
          go_roundw
          case rel => exact ⟨k + 1, by omega, by go_num, HN, hB2, g0', g1'⟩
          case measure => simp [intOf]; omega
      · obtain rfl : k = 56 := by omega
        have HF := Lib.hid (find_miss HP.out)
        go_wp2_with fail
        go_ret
        exact ⟨ret_int (by rw [HFIN.out, HF.out]), hB⟩
  · have hin := inB_no hf
    have hfo : fromOf f = 8 := by unfold fromOf; rw [hin]; rfl
    rw [hfo] at HFIN
    clear hfo
    clear hf
    go_enter Try.func28, Try.ntmps28
    go_wp2_with fail
    refine (spaceOk_any _ _ _ _ _ _ xs ys _ (hA.below ((Below.refl _ _).alloc (Nat.le_refl _) _)) (hB0.below ((Below.refl _ _).alloc (Nat.le_refl _) _))).mono ?_
    rw [HOK.out]
    rintro e w1 ⟨rfl, hb1⟩
    have X1 : Below w.heap.size w w1 := ((Below.refl _ _).alloc (Nat.le_refl _) _).trans (hb1.mono (by simp))
    have g0 : w1.cell? ⟨w.heap.size, 0, none⟩ = some (.slice A 64 c) := (hb1.cell (by simp)).trans (by simp [go_sem])
    have g1 : w1.cell? ⟨w.heap.size, 1, none⟩ = some (.slice B m d) := (hb1.cell (by simp)).trans (by simp [go_sem])
    clear hb1
    go_wp2_with (go_at_call 49; refine (isRow_any _ _).mono ?_; rintro e w' ⟨rfl, rfl⟩)
    go_loopw [7, 8, 15] (fun _ _ s wr => ∃ k : Nat, k ≤ 56 ∧ s = .int .i64 k ∧ Hid (∀ j, j < k → goodB xs but (rowAt 8 j) = false) ∧ Below w.heap.size w wr ∧ wr.cell? ⟨w.heap.size, 0, none⟩ = some (.slice A 64 c) ∧ wr.cell? ⟨w.heap.size, 1, none⟩ = some (.slice B m d)) (fun _ _ s _ => 56 - (intOf s).toNat)
    case atStart => exact ⟨0, Nat.zero_le _, rfl, Lib.hid (fun j hj => absurd hj (by omega)), X1, g0, g1⟩
    case round =>
      clear g0 g1
      obtain ⟨k, hk, rfl, HP, hB, g0, g1⟩ := hrel
      by_cases hlt : k < 56
      · obtain ⟨r8, r64, hrow⟩ := row_bd (f := 8) k (by omega)
        have hhit := find_hit (xs := xs) (but := but) (f := 8) hlt HP.out; have hstep := row_step (xs := xs) (but := but) (f := 8) HP.out
        have HH := Lib.hid hhit; have HS := Lib.hid hstep; clear hhit hstep HP
        obtain ⟨a, ha⟩ : ∃ a, a = rowAt 8 k := ⟨_, rfl⟩
        rw [← ha] at r8 r64 hrow
        have HA := Lib.hid ha; clear ha
        have hrow2 : 8 + (k : Int) % 56 = (a : Int) := by omega
        have hrow3 : 8 + k % 56 = a := by omega
        clear hrow
        obtain ⟨b, off, rfl, _, hcc⟩ := (hA.below hB).at_ (k := a) r64
        have h1 := hcc a r64; clear hcc
        have a0 : (0 : Int) ≤ (a : Int) := by omega
        have a1 : (a : Int) < 64 := by omega
        by_cases hz : xs.getD a 0 = 0
        rotate_left
        · have hn : goodB xs but (rowAt 8 k) = false := by rw [← HA.out]; unfold goodB; rw [decide_eq_false hz]; rfl
          have HN := Lib.hid (HS.out hn); clear hn HH HS
          have e0 : (xs.getD a 0 == 0) = false := by simpa using hz
          generalize xs.getD a 0 = v at *
          go_wp2_with fail
          go_roundw
          case rel => exact ⟨k + 1, by omega, by go_num, HN, hB, g0, g1⟩
          case measure => simp [intOf]; omega
        have HZ := Lib.hid hz
        rw [hz] at h1; clear hz
        go_wp2_with fail
        refine (contains_any C nb e but (a : Int) _ (hC.below hB)).mono ?_
        generalize hh : hasI but a = hb
        rintro e w2 ⟨rfl, hq⟩
        subst hq
        have hB2 := hB; have g0' := g0; have g1' := g1; clear g0 g1 h1 hB
        cases hb
        · have hn : goodB xs but (rowAt 8 k) = true := by rw [← HA.out]; unfold goodB; rw [decide_eq_true HZ.out, hh]; rfl
          have HF := Lib.hid ((HH.out hn).trans (by rw [← HA.out])); clear hn HH HS hh
          go_wp2_with fail
          go_ret
          exact ⟨ret_int (by rw [HFIN.out, HF.out]), hB2⟩
        · have hn : goodB xs but (rowAt 8 k) = false := by rw [← HA.out]; unfold goodB; rw [hh]; simp
          have HN := Lib.hid (HS.out hn); clear hn HH HS hh
          go_wp2_with fail
          go_roundw
          case rel => exact ⟨k + 1, by omega, by go_num, HN, hB2, g0', g1'⟩
          case measure => simp [intOf]; omega
      · obtain rfl : k = 56 := by omega
        have HF := Lib.hid (find_miss HP.out)
        go_wp2_with fail
        go_ret
        exact ⟨ret_int (by rw [HFIN.out, HF.out]), hB⟩

set_option maxRecDepth 100000 in
set_option maxHeartbeats 4000000 in
theorem l5Find_any (A B C : Option Addr) (n c m d nb e : Nat) (xs ys but : List Int) (f : Int) (w : World) (hA : IntsAt w A n xs) (hn64 : n = 64) (hB0 : IntsAt w B m ys) (hC : IntsAt w C nb but) :
    Calls Try.prog 58 #[.agg #[.slice A n c, .slice B m d], .int .i64 f, .slice C nb e] w fun e w' => e = .returned (.int .i64 (findFrom xs but (fromOf f))) ∧ Below w.heap.size w w' := by
  subst hn64
  by_cases hf : 8 ≤ f ∧ f ≤ 63
  · have hin := inB_yes hf
    have hfo : fromOf f = f := by unfold fromOf; rw [hin]; rfl
    have HFIN : Hid (findFrom xs but (fromOf f) = findFrom xs but f) := Lib.hid (by rw [hfo])
    clear hfo
    obtain ⟨f8, f63⟩ := hf
    go_enter Try.func58, Try.ntmps58
    go_wp2_with (go_at_call 43; refine (l2Row_any _ _).mono ?_; rintro e w' ⟨rfl, rfl⟩)
    have hw1 : ∃ w1, w1 = w.alloc (.cells #[.slice A 64 c, .slice B m d] 25) := ⟨_, rfl⟩
    obtain ⟨w1, hw1⟩ := hw1
    rw [← hw1]
    have X1 : Below w.heap.size w w1 := by rw [hw1]; exact (Below.refl _ _).alloc (Nat.le_refl _) _
    have g0 : w1.cell? ⟨w.heap.size, 0, none⟩ = some (.slice A 64 c) := by rw [hw1]; simp [go_sem]
    have g1 : w1.cell? ⟨w.heap.size, 1, none⟩ = some (.slice B m d) := by rw [hw1]; simp [go_sem]
    clear hw1
    go_loopw [8, 9] (fun s _ wr => ∃ k : Nat, k ≤ 56 ∧ s = .int .i64 k ∧ Hid (∀ j, j < k → goodB xs but (rowAt f j) = false) ∧ Below w.heap.size w wr ∧ wr.cell? ⟨w.heap.size, 0, none⟩ = some (.slice A 64 c) ∧ wr.cell? ⟨w.heap.size, 1, none⟩ = some (.slice B m d)) (fun s _ _ => 56 - (intOf s).toNat)
    case atStart => exact ⟨0, Nat.zero_le _, rfl, Lib.hid (fun j hj => absurd hj (by omega)), X1, g0, g1⟩
    case round =>
      clear g0 g1
      obtain ⟨k, hk, rfl, HP, hB, g0, g1⟩ := hrel
      by_cases hlt : k < 56
      · obtain ⟨r8, r64, hrow⟩ := row_bd (f := f) k (by omega)
        have hhit := find_hit (xs := xs) (but := but) (f := f) hlt HP.out; have hstep := row_step (xs := xs) (but := but) (f := f) HP.out
        have HH := Lib.hid hhit; have HS := Lib.hid hstep; clear hhit hstep HP
        obtain ⟨a, ha⟩ : ∃ a, a = rowAt f k := ⟨_, rfl⟩
        rw [← ha] at r8 r64 hrow
        have HA := Lib.hid ha; clear ha
        obtain ⟨b, off, rfl, _, hcc⟩ := (hA.below hB).at_ (k := a) r64
        have h1 := hcc a r64; clear hcc
        have a0 : (0 : Int) ≤ (a : Int) := by omega
        have a1 : (a : Int) < 64 := by omega
        by_cases hz : xs.getD a 0 = 0
        rotate_left
        · have hn : goodB xs but (rowAt f k) = false := by rw [← HA.out]; unfold goodB; rw [decide_eq_false hz]; rfl
          have HN := Lib.hid (HS.out hn); clear hn HH HS
          have e0 : (xs.getD a 0 == 0) = false := by simpa using hz
          generalize xs.getD a 0 = v at *
          go_wp2_with fail
          go_roundw
          case rel => exact ⟨k + 1, by omega, by go_num, HN, hB, g0, g1⟩
          case measure => simp [intOf]; omega
        have HZ := Lib.hid hz
        rw [hz] at h1; clear hz
        go_wp2_with fail
        refine (l5In_any C nb e but (a : Int) _ (hC.below hB)).mono ?_
        generalize hh : hasI but a = hb
        rintro e w2 ⟨rfl, hq⟩
        have hB2 : Below w.heap.size w w2 := hB.trans (hq.below _)
        have g0' := ((hq.below wr.heap.size).cell (p := ⟨w.heap.size, 0, none⟩) (World.block_lt_of_cell? _ _ g0)).trans g0; have g1' := ((hq.below wr.heap.size).cell (p := ⟨w.heap.size, 1, none⟩) (World.block_lt_of_cell? _ _ g1)).trans g1
        clear hq g0 g1 h1
        cases hb
        · have hn : goodB xs but (rowAt f k) = true := by rw [← HA.out]; unfold goodB; rw [decide_eq_true HZ.out, hh]; rfl
          have HF := Lib.hid ((HH.out hn).trans (by rw [← HA.out])); clear hn HH HS hh
          go_wp2_with fail
          go_ret
          exact ⟨ret_int (by rw [HFIN.out, HF.out]), hB2⟩
        · have hn : goodB xs but (rowAt f k) = false := by rw [← HA.out]; unfold goodB; rw [hh]; simp
          have HN := Lib.hid (HS.out hn); clear hn HH HS hh
          go_wp2_with fail
          go_roundw
          case rel => exact ⟨k + 1, by omega, by go_num, HN, hB2, g0', g1'⟩
          case measure => simp [intOf]; omega
      · obtain rfl : k = 56 := by omega
        have HF := Lib.hid (find_miss HP.out)
        go_wp2_with fail
        go_ret
        exact ⟨ret_int (by rw [HFIN.out, HF.out]), hB⟩
  · have hin := inB_no hf
    have hfo : fromOf f = 8 := by unfold fromOf; rw [hin]; rfl
    have HFIN : Hid (findFrom xs but (fromOf f) = findFrom xs but 8) := Lib.hid (by rw [hfo])
    clear hfo
    clear hf
    go_enter Try.func58, Try.ntmps58
    go_wp2_with (go_at_call 43; refine (l2Row_any _ _).mono ?_; rintro e w' ⟨rfl, rfl⟩)
    have hw1 : ∃ w1, w1 = w.alloc (.cells #[.slice A 64 c, .slice B m d] 25) := ⟨_, rfl⟩
    obtain ⟨w1, hw1⟩ := hw1
    rw [← hw1]
    have X1 : Below w.heap.size w w1 := by rw [hw1]; exact (Below.refl _ _).alloc (Nat.le_refl _) _
    have g0 : w1.cell? ⟨w.heap.size, 0, none⟩ = some (.slice A 64 c) := by rw [hw1]; simp [go_sem]
    have g1 : w1.cell? ⟨w.heap.size, 1, none⟩ = some (.slice B m d) := by rw [hw1]; simp [go_sem]
    clear hw1
    go_loopw [8, 9] (fun s _ wr => ∃ k : Nat, k ≤ 56 ∧ s = .int .i64 k ∧ Hid (∀ j, j < k → goodB xs but (rowAt 8 j) = false) ∧ Below w.heap.size w wr ∧ wr.cell? ⟨w.heap.size, 0, none⟩ = some (.slice A 64 c) ∧ wr.cell? ⟨w.heap.size, 1, none⟩ = some (.slice B m d)) (fun s _ _ => 56 - (intOf s).toNat)
    case atStart => exact ⟨0, Nat.zero_le _, rfl, Lib.hid (fun j hj => absurd hj (by omega)), X1, g0, g1⟩
    case round =>
      clear g0 g1
      obtain ⟨k, hk, rfl, HP, hB, g0, g1⟩ := hrel
      by_cases hlt : k < 56
      · obtain ⟨r8, r64, hrow⟩ := row_bd (f := 8) k (by omega)
        have hhit := find_hit (xs := xs) (but := but) (f := 8) hlt HP.out; have hstep := row_step (xs := xs) (but := but) (f := 8) HP.out
        have HH := Lib.hid hhit; have HS := Lib.hid hstep; clear hhit hstep HP
        obtain ⟨a, ha⟩ : ∃ a, a = rowAt 8 k := ⟨_, rfl⟩
        rw [← ha] at r8 r64 hrow
        have HA := Lib.hid ha; clear ha
        have hrow2 : 8 + (k : Int) % 56 = (a : Int) := by omega
        have hrow3 : 8 + k % 56 = a := by omega
        clear hrow
        obtain ⟨b, off, rfl, _, hcc⟩ := (hA.below hB).at_ (k := a) r64
        have h1 := hcc a r64; clear hcc
        have a0 : (0 : Int) ≤ (a : Int) := by omega
        have a1 : (a : Int) < 64 := by omega
        by_cases hz : xs.getD a 0 = 0
        rotate_left
        · have hn : goodB xs but (rowAt 8 k) = false := by rw [← HA.out]; unfold goodB; rw [decide_eq_false hz]; rfl
          have HN := Lib.hid (HS.out hn); clear hn HH HS
          have e0 : (xs.getD a 0 == 0) = false := by simpa using hz
          generalize xs.getD a 0 = v at *
          go_wp2_with fail
          go_roundw
          case rel => exact ⟨k + 1, by omega, by go_num, HN, hB, g0, g1⟩
          case measure => simp [intOf]; omega
        have HZ := Lib.hid hz
        rw [hz] at h1; clear hz
        go_wp2_with fail
        refine (l5In_any C nb e but (a : Int) _ (hC.below hB)).mono ?_
        generalize hh : hasI but a = hb
        rintro e w2 ⟨rfl, hq⟩
        have hB2 : Below w.heap.size w w2 := hB.trans (hq.below _)
        have g0' := ((hq.below wr.heap.size).cell (p := ⟨w.heap.size, 0, none⟩) (World.block_lt_of_cell? _ _ g0)).trans g0; have g1' := ((hq.below wr.heap.size).cell (p := ⟨w.heap.size, 1, none⟩) (World.block_lt_of_cell? _ _ g1)).trans g1
        clear hq g0 g1 h1
        cases hb
        · have hn : goodB xs but (rowAt 8 k) = true := by rw [← HA.out]; unfold goodB; rw [decide_eq_true HZ.out, hh]; rfl
          have HF := Lib.hid ((HH.out hn).trans (by rw [← HA.out])); clear hn HH HS hh
          go_wp2_with fail
          go_ret
          exact ⟨ret_int (by rw [HFIN.out, HF.out]), hB2⟩
        · have hn : goodB xs but (rowAt 8 k) = false := by rw [← HA.out]; unfold goodB; rw [hh]; simp
          have HN := Lib.hid (HS.out hn); clear hn HH HS hh
          go_wp2_with fail
          go_roundw
          case rel => exact ⟨k + 1, by omega, by go_num, HN, hB2, g0', g1'⟩
          case measure => simp [intOf]; omega
      · obtain rfl : k = 56 := by omega
        have HF := Lib.hid (find_miss HP.out)
        go_wp2_with fail
        go_ret
        exact ⟨ret_int (by rw [HFIN.out, HF.out]), hB⟩

set_option maxRecDepth 100000 in
set_option maxHeartbeats 4000000 in
theorem spSpaceFind_any (A B C : Option Addr) (n c m d nb e : Nat) (xs ys but : List Int) (f : Int) (w : World) (hA : IntsAt w A n xs) (hB0 : IntsAt w B m ys) (hC : IntsAt w C nb but) :
    Calls Try.prog 37 #[.agg #[.slice A n c, .slice B m d], .int .i64 f, .slice C nb e] w fun e w' => e = .returned (.int .i64 (spFind xs ys f but)) ∧ Below w.heap.size w w' := by
  cases hok : spOk xs ys
  · have HF := Lib.hid (show spFind xs ys f but = -1 by unfold spFind; rw [hok]; rfl)
    have HOK := Lib.hid hok; clear hok
    go_enter Try.func37, Try.ntmps37
    go_wp2_with fail
    refine (spSpaceOk_any _ _ _ _ _ _ xs ys _ (hA.below ((Below.refl _ _).alloc (Nat.le_refl _) _)) (hB0.below ((Below.refl _ _).alloc (Nat.le_refl _) _))).mono ?_
    rw [HOK.out]
    rintro e w1 ⟨rfl, hb1⟩
    have X1 : Below w.heap.size w w1 := ((Below.refl _ _).alloc (Nat.le_refl _) _).trans (hb1.mono (by simp))
    clear hb1
    go_wp2_with fail
    go_ret
    exact ⟨ret_int HF.out.symm, X1⟩
  have hn64 : n = 64 := by have := (spOk_iff.1 hok).1; have := hA.len; omega
  have HFIN := Lib.hid (show spFind xs ys f but = findFrom xs but (fromOf f) by unfold spFind; rw [if_pos hok])
  have HOK := Lib.hid hok; clear hok
  have HN64 := Lib.hid hn64; clear hn64
  go_enter Try.func37, Try.ntmps37
  go_wp2_with fail
  refine (spSpaceOk_any _ _ _ _ _ _ xs ys _ (hA.below ((Below.refl _ _).alloc (Nat.le_refl _) _)) (hB0.below ((Below.refl _ _).alloc (Nat.le_refl _) _))).mono ?_
  rw [HOK.out]
  rintro e w1 ⟨rfl, hb1⟩
  have X1 : Below w.heap.size w w1 := ((Below.refl _ _).alloc (Nat.le_refl _) _).trans (hb1.mono (by simp))
  have g0 : w1.cell? ⟨w.heap.size, 0, none⟩ = some (.slice A n c) := (hb1.cell (by simp)).trans (by simp [go_sem])
  have g1 : w1.cell? ⟨w.heap.size, 1, none⟩ = some (.slice B m d) := (hb1.cell (by simp)).trans (by simp [go_sem])
  clear hb1
  go_wp2_with fail
  refine (l5Find_any _ _ _ _ _ _ _ _ _ xs ys but f _ (hA.below X1) HN64.out (hB0.below X1) (hC.below X1)).mono ?_
  rintro e w2 ⟨rfl, hb2⟩
  have X2 := X1.trans (hb2.mono X1.size)
  clear hb2
  go_wp2_with fail
  go_ret
  exact ⟨ret_int HFIN.out.symm, X2⟩
end Go.Proofs.Ytbfdbkidmakapaa
