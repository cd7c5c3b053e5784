/- SpaceTake, of the program and of the reference. No condition. -/
import Derived.Test.YtbfdbkidmakapaaCopy
import Derived.Test.YtbfdbkidmakapaaSpaceRoom
namespace Go.Proofs.Ytbfdbkidmakapaa
set_option linter.unusedVariables false
set_option linter.unusedSimpArgs false
set_option linter.unnecessarySimpa false
open Go.RowKit

/-- A call that returns a space of its own and a bool. -/
def SpRes (w : World) (xs ys : List Int) (b : Bool) (e : Ending) (w' : World) : Prop :=
  ∃ A n c B m d S, e = .returned (.tuple #[.agg #[.slice A n c, .slice B m d], .bool b]) ∧ SpOwn w' S A n c B m d xs ys ∧ (∀ k ∈ S, w.heap.size ≤ k) ∧ Below w.heap.size w w'

def takeOk (xs ys : List Int) (at_ txg : Int) : Bool := spOk xs ys && inB at_ 8 63 && inB txg 1 900 && decide (ys.getD at_.toNat 0 < txg)
def takeX (xs ys : List Int) (at_ txg : Int) : List Int := if takeOk xs ys at_ txg then xs.set at_.toNat (xs.getD at_.toNat 0 + 1) else []
def takeY (xs ys : List Int) (at_ txg : Int) : List Int := if takeOk xs ys at_ txg then ys.set at_.toNat txg else []
theorem inB_at {at_ : Int} (h : inB at_ 8 63 = true) : ∃ a : Nat, at_ = (a : Int) ∧ 8 ≤ a ∧ a ≤ 63 := by
  unfold inB at h
  have h := of_decide_eq_true h
  exact ⟨at_.toNat, by omega, by omega, by omega⟩

set_option maxHeartbeats 2000000 in
theorem take_any (A B : Option Addr) (n c m d : Nat) (xs ys : List Int) (at_ txg : Int) (w : World) (hA : IntsAt w A n xs) (hB : IntsAt w B m ys)
    (hA0 : A = none → n = 0 ∧ c = 0) (hB0 : B = none → m = 0 ∧ d = 0) :
    Calls Try.prog 25 #[.agg #[.slice A n c, .slice B m d], .int .i64 at_, .int .i64 txg] w (SpRes w (takeX xs ys at_ txg) (takeY xs ys at_ txg) (takeOk xs ys at_ txg)) := by
  have hb0 : Below w.heap.size w ((w.alloc (.cells #[.slice A n c, .slice B m d] 25)).alloc (.cells #[.slice none 0 0, .slice none 0 0] 25)) := ((Below.refl _ _).alloc (Nat.le_refl _) _).alloc (by simp) _
  cases h1 : spOk xs ys
  · have hno : takeOk xs ys at_ txg = false := by unfold takeOk; simp [h1]
    have HX := Lib.hid (show takeX xs ys at_ txg = [] by unfold takeX; rw [if_neg (by rw [hno]; simp)])
    have HY := Lib.hid (show takeY xs ys at_ txg = [] by unfold takeY; rw [if_neg (by rw [hno]; simp)])
    have HN := Lib.hid hno
    clear hno
    go_enter Try.func25, Try.ntmps25
    go_wp2_with fail
    refine (spaceOk_any _ _ _ _ _ _ xs ys _ (hA.below hb0) (hB.below hb0)).mono ?_
    rintro e w1 ⟨rfl, hb1⟩
    have s1 := hb1.size
    simp at s1
    have c0 : w1.cell? ⟨w.heap.size, 0, none⟩ = some (.slice A n c) := (hb1.cell (by simp <;> omega)).trans (by simp [go_sem])
    have c1 : w1.cell? ⟨w.heap.size, 1, none⟩ = some (.slice B m d) := (hb1.cell (by simp <;> omega)).trans (by simp [go_sem])
    have r0 : w1.cell? ⟨w.heap.size + 1, 0, none⟩ = some (.slice none 0 0) := (hb1.cell (by simp)).trans (by simp [go_sem])
    have r1 : w1.cell? ⟨w.heap.size + 1, 1, none⟩ = some (.slice none 0 0) := (hb1.cell (by simp)).trans (by simp [go_sem])
    have f0 : w1.frozen? ⟨w.heap.size + 1, 0, none⟩ = false := (hb1.frozen (by simp)).trans (by simp [go_sem])
    have f1 : w1.frozen? ⟨w.heap.size + 1, 1, none⟩ = false := (hb1.frozen (by simp)).trans (by simp [go_sem])
    have hb2 : Below w.heap.size w w1 := hb0.trans (hb1.mono (by simp <;> omega))
    go_wp2_with fail
    refine bodyPost_ret (v := .tuple #[.agg #[.slice none 0 0, .slice none 0 0], .bool false]) (by simp [results, Try.results25, go_sem, r0, r1, f0, f1]) rfl ?_
    rw [HX.out, HY.out, HN.out]
    exact ⟨_, _, _, _, _, _, [], rfl, SpOwn.none_, by simp, (hb2.setCell (by simp <;> omega) _).setCell (by simp <;> omega) _⟩
  cases h2 : inB at_ 8 63
  · have hno : takeOk xs ys at_ txg = false := by unfold takeOk; simp [h2]
    have HX := Lib.hid (show takeX xs ys at_ txg = [] by unfold takeX; rw [if_neg (by rw [hno]; simp)])
    have HY := Lib.hid (show takeY xs ys at_ txg = [] by unfold takeY; rw [if_neg (by rw [hno]; simp)])
    have HN := Lib.hid hno
    clear hno
    go_enter Try.func25, Try.ntmps25
    go_wp2_with fail
    refine (spaceOk_any _ _ _ _ _ _ xs ys _ (hA.below hb0) (hB.below hb0)).mono ?_
    rintro e w1 ⟨rfl, hb1⟩
    have s1 := hb1.size
    simp at s1
    have c0 : w1.cell? ⟨w.heap.size, 0, none⟩ = some (.slice A n c) := (hb1.cell (by simp <;> omega)).trans (by simp [go_sem])
    have c1 : w1.cell? ⟨w.heap.size, 1, none⟩ = some (.slice B m d) := (hb1.cell (by simp <;> omega)).trans (by simp [go_sem])
    have r0 : w1.cell? ⟨w.heap.size + 1, 0, none⟩ = some (.slice none 0 0) := (hb1.cell (by simp)).trans (by simp [go_sem])
    have r1 : w1.cell? ⟨w.heap.size + 1, 1, none⟩ = some (.slice none 0 0) := (hb1.cell (by simp)).trans (by simp [go_sem])
    have f0 : w1.frozen? ⟨w.heap.size + 1, 0, none⟩ = false := (hb1.frozen (by simp)).trans (by simp [go_sem])
    have f1 : w1.frozen? ⟨w.heap.size + 1, 1, none⟩ = false := (hb1.frozen (by simp)).trans (by simp [go_sem])
    have hb2 : Below w.heap.size w w1 := hb0.trans (hb1.mono (by simp <;> omega))
    go_wp2_with (first | (go_at_call 49; refine (isRow_any _ _).mono ?_; rintro e w' ⟨rfl, rfl⟩) | (go_at_call 38; refine (within_any _ _ _ _).mono ?_; rintro e w' ⟨rfl, rfl⟩))
    refine bodyPost_ret (v := .tuple #[.agg #[.slice none 0 0, .slice none 0 0], .bool false]) (by simp [results, Try.results25, go_sem, r0, r1, f0, f1]) rfl ?_
    rw [HX.out, HY.out, HN.out]
    exact ⟨_, _, _, _, _, _, [], rfl, SpOwn.none_, by simp, (hb2.setCell (by simp <;> omega) _).setCell (by simp <;> omega) _⟩
  cases h3 : inB txg 1 900
  · have hno : takeOk xs ys at_ txg = false := by unfold takeOk; simp [h3]
    have HX := Lib.hid (show takeX xs ys at_ txg = [] by unfold takeX; rw [if_neg (by rw [hno]; simp)])
    have HY := Lib.hid (show takeY xs ys at_ txg = [] by unfold takeY; rw [if_neg (by rw [hno]; simp)])
    have HN := Lib.hid hno
    clear hno
    go_enter Try.func25, Try.ntmps25
    go_wp2_with fail
    refine (spaceOk_any _ _ _ _ _ _ xs ys _ (hA.below hb0) (hB.below hb0)).mono ?_
    rintro e w1 ⟨rfl, hb1⟩
    have s1 := hb1.size
    simp at s1
    have c0 : w1.cell? ⟨w.heap.size, 0, none⟩ = some (.slice A n c) := (hb1.cell (by simp <;> omega)).trans (by simp [go_sem])
    have c1 : w1.cell? ⟨w.heap.size, 1, none⟩ = some (.slice B m d) := (hb1.cell (by simp <;> omega)).trans (by simp [go_sem])
    have r0 : w1.cell? ⟨w.heap.size + 1, 0, none⟩ = some (.slice none 0 0) := (hb1.cell (by simp)).trans (by simp [go_sem])
    have r1 : w1.cell? ⟨w.heap.size + 1, 1, none⟩ = some (.slice none 0 0) := (hb1.cell (by simp)).trans (by simp [go_sem])
    have f0 : w1.frozen? ⟨w.heap.size + 1, 0, none⟩ = false := (hb1.frozen (by simp)).trans (by simp [go_sem])
    have f1 : w1.frozen? ⟨w.heap.size + 1, 1, none⟩ = false := (hb1.frozen (by simp)).trans (by simp [go_sem])
    have hb2 : Below w.heap.size w w1 := hb0.trans (hb1.mono (by simp <;> omega))
    go_wp2_with (first | (go_at_call 49; refine (isRow_any _ _).mono ?_; rintro e w' ⟨rfl, rfl⟩) | (go_at_call 38; refine (within_any _ _ _ _).mono ?_; rintro e w' ⟨rfl, rfl⟩))
    refine bodyPost_ret (v := .tuple #[.agg #[.slice none 0 0, .slice none 0 0], .bool false]) (by simp [results, Try.results25, go_sem, r0, r1, f0, f1]) rfl ?_
    rw [HX.out, HY.out, HN.out]
    exact ⟨_, _, _, _, _, _, [], rfl, SpOwn.none_, by simp, (hb2.setCell (by simp <;> omega) _).setCell (by simp <;> omega) _⟩
  obtain ⟨a, rfl, ha1, ha2⟩ := inB_at h2
  have hlx := (spOk_iff.1 h1).1
  have hly := (spOk_iff.1 h1).2.1
  have hrow := (spOk_iff.1 h1).2.2 a (by omega)
  obtain rfl : n = 64 := by rw [← hA.len]; exact hlx
  obtain rfl : m = 64 := by rw [← hB.len]; exact hly
  obtain ⟨bb, bo, hBe, hBl, hBc⟩ := hB.at_ (k := a) (by omega)
  subst hBe
  have hcell := hBc a (by omega)
  have HR := Lib.hid hrow
  have HLX := Lib.hid hlx
  have HLY := Lib.hid hly
  clear hBc hrow hlx hly
  by_cases h4 : ys.getD a 0 < txg
  · have hyes : takeOk xs ys a txg = true := by unfold takeOk; rw [h1, h2, h3]; simpa using h4
    have HX := Lib.hid (show takeX xs ys a txg = xs.set a (xs.getD a 0 + 1) by unfold takeX; rw [if_pos hyes]; simp)
    have HY := Lib.hid (show takeY xs ys a txg = ys.set a txg by unfold takeY; rw [if_pos hyes]; simp)
    have HN := Lib.hid hyes
    clear hyes
    obtain ⟨y, hy⟩ : ∃ y, y = ys.getD a 0 := ⟨_, rfl⟩
    rw [← hy] at hcell h4
    go_enter Try.func25, Try.ntmps25
    go_wp2_with fail
    refine (spaceOk_any _ _ _ _ _ _ xs ys _ (hA.below hb0) (hB.below hb0)).mono ?_
    rintro e w1 ⟨rfl, hb1⟩
    have s1 := hb1.size
    simp at s1
    have c0 : w1.cell? ⟨w.heap.size, 0, none⟩ = some (.slice A 64 c) := (hb1.cell (by simp <;> omega)).trans (by simp [go_sem])
    have c1 : w1.cell? ⟨w.heap.size, 1, none⟩ = some (.slice (some ⟨bb, bo, none⟩) 64 d) := (hb1.cell (by simp <;> omega)).trans (by simp [go_sem])
    have r0 : w1.cell? ⟨w.heap.size + 1, 0, none⟩ = some (.slice none 0 0) := (hb1.cell (by simp)).trans (by simp [go_sem])
    have r1 : w1.cell? ⟨w.heap.size + 1, 1, none⟩ = some (.slice none 0 0) := (hb1.cell (by simp)).trans (by simp [go_sem])
    have f0 : w1.frozen? ⟨w.heap.size + 1, 0, none⟩ = false := (hb1.frozen (by simp)).trans (by simp [go_sem])
    have f1 : w1.frozen? ⟨w.heap.size + 1, 1, none⟩ = false := (hb1.frozen (by simp)).trans (by simp [go_sem])
    have hb2 : Below w.heap.size w w1 := hb0.trans (hb1.mono (by simp <;> omega))
    have hcell1 : w1.cell? ⟨bb, bo + a, none⟩ = some (.int .i64 y) := (hb2.cell hBl).trans hcell
    have hle : ¬ txg ≤ y := by omega
    clear hy hcell
    go_wp2_with (first | (go_at_call 49; refine (isRow_any _ _).mono ?_; rintro e w' ⟨rfl, rfl⟩) | (go_at_call 38; refine (within_any _ _ _ _).mono ?_; rintro e w' ⟨rfl, rfl⟩))
    refine (spClone_any _ _ _ _ _ _ xs ys _ (hA.below hb2) (hB.below hb2) (by omega) (by omega) hA0 hB0).mono ?_
    rintro e w2 ⟨A2, n2, c2, B2, m2, d2, S2, rfl, ho, hS2, hb3⟩
    obtain rfl : n2 = 64 := by rw [← ho.one.len]; exact HLX.out
    obtain rfl : m2 = 64 := by rw [← ho.two.len]; exact HLY.out
    obtain ⟨g, k, rfl, rfl, rfl, hgk, og, ok⟩ := ho.both (by omega) (by omega)
    have s2 := hb3.size
    have lg := og.lt
    have lk := ok.lt
    have gg : w1.heap.size ≤ g := hS2 g (by simp)
    have gk : w1.heap.size ≤ k := hS2 k (by simp)
    have xg := og.cell (j := a) (by omega)
    have xk := ok.cell (j := a) (by omega)
    have fg := og.frozen a
    have fk := ok.frozen a
    have r0b := (hb3.cell (p := ⟨w.heap.size + 1, 0, none⟩) (by simp <;> omega)).trans r0
    have r1b := (hb3.cell (p := ⟨w.heap.size + 1, 1, none⟩) (by simp <;> omega)).trans r1
    have f0b := (hb3.frozen (p := ⟨w.heap.size + 1, 0, none⟩) (by simp <;> omega)).trans f0
    have f1b := (hb3.frozen (p := ⟨w.heap.size + 1, 1, none⟩) (by simp <;> omega)).trans f1
    obtain ⟨x, hx⟩ : ∃ x, x = xs.getD a 0 := ⟨_, rfl⟩
    obtain ⟨y2, hy2⟩ : ∃ y2, y2 = ys.getD a 0 := ⟨_, rfl⟩
    have hxb : 0 ≤ x ∧ x ≤ 900 := by rw [hx]; exact ⟨HR.out.1, HR.out.2.1⟩
    rw [← hx] at xg
    rw [← hy2] at xk
    obtain ⟨hx0, hx9⟩ := hxb
    have n1 : g ≠ w2.heap.size := by omega
    have n2 : k ≠ w2.heap.size := by omega
    have n3 : g ≠ w.heap.size + 1 := by omega
    have n4 : k ≠ w.heap.size + 1 := by omega
    have n5 := hgk.symm
    have n6 := n1.symm
    have n7 := n2.symm
    have n8 := n3.symm
    have n9 := n4.symm
    have n10 : w.heap.size + 1 < w2.heap.size := by omega
    have HXX := Lib.hid hx
    have hb4 := hb2.trans (hb3.mono hb2.size)
    clear hx hy2 c0 c1 r0 r1 f0 f1 hb1 hb3
    go_wp2_with fail
    all_goals
      refine bodyPost_ret (v := .tuple #[.agg #[.slice (some ⟨g, 0, none⟩) 64 c2, .slice (some ⟨k, 0, none⟩) 64 d2], .bool true]) (by simp [results, Try.results25, go_sem, *]) rfl ?_
      rw [HX.out, HY.out, HN.out, ← HXX.out]
      have og3 := (((og.set_ (j := a) (by omega) (x + 1)).setOther (p := ⟨k, a, none⟩) hgk (.int .i64 txg)).setOther (p := ⟨w.heap.size + 1, 0, none⟩) n3 (.slice (some ⟨g, 0, none⟩) 64 c2)).setOther (p := ⟨w.heap.size + 1, 1, none⟩) n3 (.slice (some ⟨k, 0, none⟩) 64 d2)
      have ok3 := (((ok.setOther (p := ⟨g, a, none⟩) n5 (.int .i64 (x + 1))).set_ (j := a) (by omega) txg).setOther (p := ⟨w.heap.size + 1, 0, none⟩) n4 (.slice (some ⟨g, 0, none⟩) 64 c2)).setOther (p := ⟨w.heap.size + 1, 1, none⟩) n4 (.slice (some ⟨k, 0, none⟩) 64 d2)
      have hb5 := (((hb4.setCell (p := ⟨g, a, none⟩) (by simp <;> omega) (.int .i64 (x + 1))).setCell (p := ⟨k, a, none⟩) (by simp <;> omega) (.int .i64 txg)).setCell (p := ⟨w.heap.size + 1, 0, none⟩) (by simp <;> omega) (.slice (some ⟨g, 0, none⟩) 64 c2)).setCell (p := ⟨w.heap.size + 1, 1, none⟩) (by simp <;> omega) (.slice (some ⟨k, 0, none⟩) 64 d2)
      have hgj : ∀ j ∈ [g, k], w.heap.size ≤ j := by intro j hj; simp at hj; omega
      exact ⟨_, _, _, _, _, _, _, rfl, SpOwn.mk2 (og3.alloc _) (ok3.alloc _) hgk, hgj, hb5.alloc hb5.size _⟩
  · have hno : takeOk xs ys a txg = false := by unfold takeOk; rw [h1, h2, h3]; simpa using h4
    have HX := Lib.hid (show takeX xs ys a txg = [] by unfold takeX; rw [if_neg (by rw [hno]; simp)])
    have HY := Lib.hid (show takeY xs ys a txg = [] by unfold takeY; rw [if_neg (by rw [hno]; simp)])
    have HN := Lib.hid hno
    clear hno
    obtain ⟨y, hy⟩ : ∃ y, y = ys.getD a 0 := ⟨_, rfl⟩
    rw [← hy] at hcell h4
    go_enter Try.func25, Try.ntmps25
    go_wp2_with fail
    refine (spaceOk_any _ _ _ _ _ _ xs ys _ (hA.below hb0) (hB.below hb0)).mono ?_
    rintro e w1 ⟨rfl, hb1⟩
    have s1 := hb1.size
    simp at s1
    have c0 : w1.cell? ⟨w.heap.size, 0, none⟩ = some (.slice A 64 c) := (hb1.cell (by simp <;> omega)).trans (by simp [go_sem])
    have c1 : w1.cell? ⟨w.heap.size, 1, none⟩ = some (.slice (some ⟨bb, bo, none⟩) 64 d) := (hb1.cell (by simp <;> omega)).trans (by simp [go_sem])
    have r0 : w1.cell? ⟨w.heap.size + 1, 0, none⟩ = some (.slice none 0 0) := (hb1.cell (by simp)).trans (by simp [go_sem])
    have r1 : w1.cell? ⟨w.heap.size + 1, 1, none⟩ = some (.slice none 0 0) := (hb1.cell (by simp)).trans (by simp [go_sem])
    have f0 : w1.frozen? ⟨w.heap.size + 1, 0, none⟩ = false := (hb1.frozen (by simp)).trans (by simp [go_sem])
    have f1 : w1.frozen? ⟨w.heap.size + 1, 1, none⟩ = false := (hb1.frozen (by simp)).trans (by simp [go_sem])
    have hb2 : Below w.heap.size w w1 := hb0.trans (hb1.mono (by simp <;> omega))
    have hcell1 : w1.cell? ⟨bb, bo + a, none⟩ = some (.int .i64 y) := (hb2.cell hBl).trans hcell
    have hle : txg ≤ y := by omega
    clear hy hcell
    go_wp2_with (first | (go_at_call 49; refine (isRow_any _ _).mono ?_; rintro e w' ⟨rfl, rfl⟩) | (go_at_call 38; refine (within_any _ _ _ _).mono ?_; rintro e w' ⟨rfl, rfl⟩))
    refine bodyPost_ret (v := .tuple #[.agg #[.slice none 0 0, .slice none 0 0], .bool false]) (by simp [results, Try.results25, go_sem, r0, r1, f0, f1]) rfl ?_
    rw [HX.out, HY.out, HN.out]
    exact ⟨_, _, _, _, _, _, [], rfl, SpOwn.none_, by simp, (hb2.setCell (by simp <;> omega) _).setCell (by simp <;> omega) _⟩

set_option maxHeartbeats 2000000 in
theorem spTake_any (A B : Option Addr) (n c m d : Nat) (xs ys : List Int) (at_ txg : Int) (w : World) (hA : IntsAt w A n xs) (hB : IntsAt w B m ys)
    (hA0 : A = none → n = 0 ∧ c = 0) (hB0 : B = none → m = 0 ∧ d = 0) :
    Calls Try.prog 26 #[.agg #[.slice A n c, .slice B m d], .int .i64 at_, .int .i64 txg] w (SpRes w (takeX xs ys at_ txg) (takeY xs ys at_ txg) (takeOk xs ys at_ txg)) := by
  have hb0 : Below w.heap.size w ((w.alloc (.cells #[.slice A n c, .slice B m d] 25)).alloc (.cells #[.slice none 0 0, .slice none 0 0] 25)) := ((Below.refl _ _).alloc (Nat.le_refl _) _).alloc (by simp) _
  cases h1 : spOk xs ys
  · have hno : takeOk xs ys at_ txg = false := by unfold takeOk; simp [h1]
    have HX := Lib.hid (show takeX xs ys at_ txg = [] by unfold takeX; rw [if_neg (by rw [hno]; simp)])
    have HY := Lib.hid (show takeY xs ys at_ txg = [] by unfold takeY; rw [if_neg (by rw [hno]; simp)])
    have HN := Lib.hid hno
    clear hno
    go_enter Try.func26, Try.ntmps26
    go_wp2_with fail
    refine (spSpaceOk_any _ _ _ _ _ _ xs ys _ (hA.below hb0) (hB.below hb0)).mono ?_
    rintro e w1 ⟨rfl, hb1⟩
    have s1 := hb1.size
    simp at s1
    have c0 : w1.cell? ⟨w.heap.size, 0, none⟩ = some (.slice A n c) := (hb1.cell (by simp <;> omega)).trans (by simp [go_sem])
    have c1 : w1.cell? ⟨w.heap.size, 1, none⟩ = some (.slice B m d) := (hb1.cell (by simp <;> omega)).trans (by simp [go_sem])
    have r0 : w1.cell? ⟨w.heap.size + 1, 0, none⟩ = some (.slice none 0 0) := (hb1.cell (by simp)).trans (by simp [go_sem])
    have r1 : w1.cell? ⟨w.heap.size + 1, 1, none⟩ = some (.slice none 0 0) := (hb1.cell (by simp)).trans (by simp [go_sem])
    have f0 : w1.frozen? ⟨w.heap.size + 1, 0, none⟩ = false := (hb1.frozen (by simp)).trans (by simp [go_sem])
    have f1 : w1.frozen? ⟨w.heap.size + 1, 1, none⟩ = false := (hb1.frozen (by simp)).trans (by simp [go_sem])
    have hb2 : Below w.heap.size w w1 := hb0.trans (hb1.mono (by simp <;> omega))
    go_wp2_with fail
    refine bodyPost_ret (v := .tuple #[.agg #[.slice none 0 0, .slice none 0 0], .bool false]) (by simp [results, Try.results26, go_sem, r0, r1, f0, f1]) rfl ?_
    rw [HX.out, HY.out, HN.out]
    exact ⟨_, _, _, _, _, _, [], rfl, SpOwn.none_, by simp, (hb2.setCell (by simp <;> omega) _).setCell (by simp <;> omega) _⟩
  cases h2 : inB at_ 8 63
  · have hno : takeOk xs ys at_ txg = false := by unfold takeOk; simp [h2]
    have HX := Lib.hid (show takeX xs ys at_ txg = [] by unfold takeX; rw [if_neg (by rw [hno]; simp)])
    have HY := Lib.hid (show takeY xs ys at_ txg = [] by unfold takeY; rw [if_neg (by rw [hno]; simp)])
    have HN := Lib.hid hno
    clear hno
    go_enter Try.func26, Try.ntmps26
    go_wp2_with fail
    refine (spSpaceOk_any _ _ _ _ _ _ xs ys _ (hA.below hb0) (hB.below hb0)).mono ?_
    rintro e w1 ⟨rfl, hb1⟩
    have s1 := hb1.size
    simp at s1
    have c0 : w1.cell? ⟨w.heap.size, 0, none⟩ = some (.slice A n c) := (hb1.cell (by simp <;> omega)).trans (by simp [go_sem])
    have c1 : w1.cell? ⟨w.heap.size, 1, none⟩ = some (.slice B m d) := (hb1.cell (by simp <;> omega)).trans (by simp [go_sem])
    have r0 : w1.cell? ⟨w.heap.size + 1, 0, none⟩ = some (.slice none 0 0) := (hb1.cell (by simp)).trans (by simp [go_sem])
    have r1 : w1.cell? ⟨w.heap.size + 1, 1, none⟩ = some (.slice none 0 0) := (hb1.cell (by simp)).trans (by simp [go_sem])
    have f0 : w1.frozen? ⟨w.heap.size + 1, 0, none⟩ = false := (hb1.frozen (by simp)).trans (by simp [go_sem])
    have f1 : w1.frozen? ⟨w.heap.size + 1, 1, none⟩ = false := (hb1.frozen (by simp)).trans (by simp [go_sem])
    have hb2 : Below w.heap.size w w1 := hb0.trans (hb1.mono (by simp <;> omega))
    go_wp2_with (first | (go_at_call 43; refine (l2Row_any _ _).mono ?_; rintro e w' ⟨rfl, rfl⟩) | (go_at_call 42; refine (l6In_any _ _ _ _).mono ?_; rintro e w' ⟨rfl, rfl⟩))
    refine bodyPost_ret (v := .tuple #[.agg #[.slice none 0 0, .slice none 0 0], .bool false]) (by simp [results, Try.results26, go_sem, r0, r1, f0, f1]) rfl ?_
    rw [HX.out, HY.out, HN.out]
    exact ⟨_, _, _, _, _, _, [], rfl, SpOwn.none_, by simp, (hb2.setCell (by simp <;> omega) _).setCell (by simp <;> omega) _⟩
  cases h3 : inB txg 1 900
  · have hno : takeOk xs ys at_ txg = false := by unfold takeOk; simp [h3]
    have HX := Lib.hid (show takeX xs ys at_ txg = [] by unfold takeX; rw [if_neg (by rw [hno]; simp)])
    have HY := Lib.hid (show takeY xs ys at_ txg = [] by unfold takeY; rw [if_neg (by rw [hno]; simp)])
    have HN := Lib.hid hno
    clear hno
    go_enter Try.func26, Try.ntmps26
    go_wp2_with fail
    refine (spSpaceOk_any _ _ _ _ _ _ xs ys _ (hA.below hb0) (hB.below hb0)).mono ?_
    rintro e w1 ⟨rfl, hb1⟩
    have s1 := hb1.size
    simp at s1
    have c0 : w1.cell? ⟨w.heap.size, 0, none⟩ = some (.slice A n c) := (hb1.cell (by simp <;> omega)).trans (by simp [go_sem])
    have c1 : w1.cell? ⟨w.heap.size, 1, none⟩ = some (.slice B m d) := (hb1.cell (by simp <;> omega)).trans (by simp [go_sem])
    have r0 : w1.cell? ⟨w.heap.size + 1, 0, none⟩ = some (.slice none 0 0) := (hb1.cell (by simp)).trans (by simp [go_sem])
    have r1 : w1.cell? ⟨w.heap.size + 1, 1, none⟩ = some (.slice none 0 0) := (hb1.cell (by simp)).trans (by simp [go_sem])
    have f0 : w1.frozen? ⟨w.heap.size + 1, 0, none⟩ = false := (hb1.frozen (by simp)).trans (by simp [go_sem])
    have f1 : w1.frozen? ⟨w.heap.size + 1, 1, none⟩ = false := (hb1.frozen (by simp)).trans (by simp [go_sem])
    have hb2 : Below w.heap.size w w1 := hb0.trans (hb1.mono (by simp <;> omega))
    go_wp2_with (first | (go_at_call 43; refine (l2Row_any _ _).mono ?_; rintro e w' ⟨rfl, rfl⟩) | (go_at_call 42; refine (l6In_any _ _ _ _).mono ?_; rintro e w' ⟨rfl, rfl⟩))
    refine bodyPost_ret (v := .tuple #[.agg #[.slice none 0 0, .slice none 0 0], .bool false]) (by simp [results, Try.results26, go_sem, r0, r1, f0, f1]) rfl ?_
    rw [HX.out, HY.out, HN.out]
    exact ⟨_, _, _, _, _, _, [], rfl, SpOwn.none_, by simp, (hb2.setCell (by simp <;> omega) _).setCell (by simp <;> omega) _⟩
  obtain ⟨a, rfl, ha1, ha2⟩ := inB_at h2
  have hlx := (spOk_iff.1 h1).1
  have hly := (spOk_iff.1 h1).2.1
  have hrow := (spOk_iff.1 h1).2.2 a (by omega)
  obtain rfl : n = 64 := by rw [← hA.len]; exact hlx
  obtain rfl : m = 64 := by rw [← hB.len]; exact hly
  obtain ⟨bb, bo, hBe, hBl, hBc⟩ := hB.at_ (k := a) (by omega)
  subst hBe
  have hcell := hBc a (by omega)
  have HR := Lib.hid hrow
  have HLX := Lib.hid hlx
  have HLY := Lib.hid hly
  clear hBc hrow hlx hly
  by_cases h4 : ys.getD a 0 < txg
  · have hyes : takeOk xs ys a txg = true := by unfold takeOk; rw [h1, h2, h3]; simpa using h4
    have HX := Lib.hid (show takeX xs ys a txg = xs.set a (xs.getD a 0 + 1) by unfold takeX; rw [if_pos hyes]; simp)
    have HY := Lib.hid (show takeY xs ys a txg = ys.set a txg by unfold takeY; rw [if_pos hyes]; simp)
    have HN := Lib.hid hyes
    clear hyes
    obtain ⟨y, hy⟩ : ∃ y, y = ys.getD a 0 := ⟨_, rfl⟩
    rw [← hy] at hcell h4
    go_enter Try.func26, Try.ntmps26
    go_wp2_with fail
    refine (spSpaceOk_any _ _ _ _ _ _ xs ys _ (hA.below hb0) (hB.below hb0)).mono ?_
    rintro e w1 ⟨rfl, hb1⟩
    have s1 := hb1.size
    simp at s1
    have c0 : w1.cell? ⟨w.heap.size, 0, none⟩ = some (.slice A 64 c) := (hb1.cell (by simp <;> omega)).trans (by simp [go_sem])
    have c1 : w1.cell? ⟨w.heap.size, 1, none⟩ = some (.slice (some ⟨bb, bo, none⟩) 64 d) := (hb1.cell (by simp <;> omega)).trans (by simp [go_sem])
    have r0 : w1.cell? ⟨w.heap.size + 1, 0, none⟩ = some (.slice none 0 0) := (hb1.cell (by simp)).trans (by simp [go_sem])
    have r1 : w1.cell? ⟨w.heap.size + 1, 1, none⟩ = some (.slice none 0 0) := (hb1.cell (by simp)).trans (by simp [go_sem])
    have f0 : w1.frozen? ⟨w.heap.size + 1, 0, none⟩ = false := (hb1.frozen (by simp)).trans (by simp [go_sem])
    have f1 : w1.frozen? ⟨w.heap.size + 1, 1, none⟩ = false := (hb1.frozen (by simp)).trans (by simp [go_sem])
    have hb2 : Below w.heap.size w w1 := hb0.trans (hb1.mono (by simp <;> omega))
    have hcell1 : w1.cell? ⟨bb, bo + a, none⟩ = some (.int .i64 y) := (hb2.cell hBl).trans hcell
    have hle : ¬ txg ≤ y := by omega
    clear hy hcell
    go_wp2_with (first | (go_at_call 43; refine (l2Row_any _ _).mono ?_; rintro e w' ⟨rfl, rfl⟩) | (go_at_call 42; refine (l6In_any _ _ _ _).mono ?_; rintro e w' ⟨rfl, rfl⟩))
    refine (l5Copy_any _ _ _ _ _ _ xs ys _ (hA.below hb2) (hB.below hb2) (by omega) (by omega)).mono ?_
    rintro e w2 ⟨A2, n2, c2, B2, m2, d2, S2, rfl, ho, hS2, hb3⟩
    obtain rfl : n2 = 64 := by rw [← ho.one.len]; exact HLX.out
    obtain rfl : m2 = 64 := by rw [← ho.two.len]; exact HLY.out
    obtain ⟨g, k, rfl, rfl, rfl, hgk, og, ok⟩ := ho.both (by omega) (by omega)
    have s2 := hb3.size
    have lg := og.lt
    have lk := ok.lt
    have gg : w1.heap.size ≤ g := hS2 g (by simp)
    have gk : w1.heap.size ≤ k := hS2 k (by simp)
    have xg := og.cell (j := a) (by omega)
    have xk := ok.cell (j := a) (by omega)
    have fg := og.frozen a
    have fk := ok.frozen a
    have r0b := (hb3.cell (p := ⟨w.heap.size + 1, 0, none⟩) (by simp <;> omega)).trans r0
    have r1b := (hb3.cell (p := ⟨w.heap.size + 1, 1, none⟩) (by simp <;> omega)).trans r1
    have f0b := (hb3.frozen (p := ⟨w.heap.size + 1, 0, none⟩) (by simp <;> omega)).trans f0
    have f1b := (hb3.frozen (p := ⟨w.heap.size + 1, 1, none⟩) (by simp <;> omega)).trans f1
    obtain ⟨x, hx⟩ : ∃ x, x = xs.getD a 0 := ⟨_, rfl⟩
    obtain ⟨y2, hy2⟩ : ∃ y2, y2 = ys.getD a 0 := ⟨_, rfl⟩
    have hxb : 0 ≤ x ∧ x ≤ 900 := by rw [hx]; exact ⟨HR.out.1, HR.out.2.1⟩
    rw [← hx] at xg
    rw [← hy2] at xk
    obtain ⟨hx0, hx9⟩ := hxb
    have n1 : g ≠ w2.heap.size := by omega
    have n2 : k ≠ w2.heap.size := by omega
    have n3 : g ≠ w.heap.size + 1 := by omega
    have n4 : k ≠ w.heap.size + 1 := by omega
    have n5 := hgk.symm
    have n6 := n1.symm
    have n7 := n2.symm
    have n8 := n3.symm
    have n9 := n4.symm
    have n10 : w.heap.size + 1 < w2.heap.size := by omega
    have HXX := Lib.hid hx
    have hb4 := hb2.trans (hb3.mono hb2.size)
    clear hx hy2 c0 c1 r0 r1 f0 f1 hb1 hb3
    go_wp2_with fail
    go_region
    all_goals go_wp2_with fail
    all_goals
      refine bodyPost_ret (v := .tuple #[.agg #[.slice (some ⟨g, 0, none⟩) 64 c2, .slice (some ⟨k, 0, none⟩) 64 d2], .bool true]) (by simp [results, Try.results26, go_sem, *]) rfl ?_
      rw [HX.out, HY.out, HN.out, ← HXX.out]
      have og3 := (((og.set_ (j := a) (by omega) (x + 1)).setOther (p := ⟨k, a, none⟩) hgk (.int .i64 txg)).setOther (p := ⟨w.heap.size + 1, 0, none⟩) n3 (.slice (some ⟨g, 0, none⟩) 64 c2)).setOther (p := ⟨w.heap.size + 1, 1, none⟩) n3 (.slice (some ⟨k, 0, none⟩) 64 d2)
      have ok3 := (((ok.setOther (p := ⟨g, a, none⟩) n5 (.int .i64 (x + 1))).set_ (j := a) (by omega) txg).setOther (p := ⟨w.heap.size + 1, 0, none⟩) n4 (.slice (some ⟨g, 0, none⟩) 64 c2)).setOther (p := ⟨w.heap.size + 1, 1, none⟩) n4 (.slice (some ⟨k, 0, none⟩) 64 d2)
      have hb5 := (((hb4.setCell (p := ⟨g, a, none⟩) (by simp <;> omega) (.int .i64 (x + 1))).setCell (p := ⟨k, a, none⟩) (by simp <;> omega) (.int .i64 txg)).setCell (p := ⟨w.heap.size + 1, 0, none⟩) (by simp <;> omega) (.slice (some ⟨g, 0, none⟩) 64 c2)).setCell (p := ⟨w.heap.size + 1, 1, none⟩) (by simp <;> omega) (.slice (some ⟨k, 0, none⟩) 64 d2)
      have hgj : ∀ j ∈ [g, k], w.heap.size ≤ j := by intro j hj; simp at hj; omega
      exact ⟨_, _, _, _, _, _, _, rfl, SpOwn.mk2 ((og3.alloc _).drewN 1) ((ok3.alloc _).drewN 1) hgk, hgj, (hb5.alloc hb5.size _).drew⟩
  · have hno : takeOk xs ys a txg = false := by unfold takeOk; rw [h1, h2, h3]; simpa using h4
    have HX := Lib.hid (show takeX xs ys a txg = [] by unfold takeX; rw [if_neg (by rw [hno]; simp)])
    have HY := Lib.hid (show takeY xs ys a txg = [] by unfold takeY; rw [if_neg (by rw [hno]; simp)])
    have HN := Lib.hid hno
    clear hno
    obtain ⟨y, hy⟩ : ∃ y, y = ys.getD a 0 := ⟨_, rfl⟩
    rw [← hy] at hcell h4
    go_enter Try.func26, Try.ntmps26
    go_wp2_with fail
    refine (spSpaceOk_any _ _ _ _ _ _ xs ys _ (hA.below hb0) (hB.below hb0)).mono ?_
    rintro e w1 ⟨rfl, hb1⟩
    have s1 := hb1.size
    simp at s1
    have c0 : w1.cell? ⟨w.heap.size, 0, none⟩ = some (.slice A 64 c) := (hb1.cell (by simp <;> omega)).trans (by simp [go_sem])
    have c1 : w1.cell? ⟨w.heap.size, 1, none⟩ = some (.slice (some ⟨bb, bo, none⟩) 64 d) := (hb1.cell (by simp <;> omega)).trans (by simp [go_sem])
    have r0 : w1.cell? ⟨w.heap.size + 1, 0, none⟩ = some (.slice none 0 0) := (hb1.cell (by simp)).trans (by simp [go_sem])
    have r1 : w1.cell? ⟨w.heap.size + 1, 1, none⟩ = some (.slice none 0 0) := (hb1.cell (by simp)).trans (by simp [go_sem])
    have f0 : w1.frozen? ⟨w.heap.size + 1, 0, none⟩ = false := (hb1.frozen (by simp)).trans (by simp [go_sem])
    have f1 : w1.frozen? ⟨w.heap.size + 1, 1, none⟩ = false := (hb1.frozen (by simp)).trans (by simp [go_sem])
    have hb2 : Below w.heap.size w w1 := hb0.trans (hb1.mono (by simp <;> omega))
    have hcell1 : w1.cell? ⟨bb, bo + a, none⟩ = some (.int .i64 y) := (hb2.cell hBl).trans hcell
    have hle : txg ≤ y := by omega
    clear hy hcell
    go_wp2_with (first | (go_at_call 43; refine (l2Row_any _ _).mono ?_; rintro e w' ⟨rfl, rfl⟩) | (go_at_call 42; refine (l6In_any _ _ _ _).mono ?_; rintro e w' ⟨rfl, rfl⟩))
    refine bodyPost_ret (v := .tuple #[.agg #[.slice none 0 0, .slice none 0 0], .bool false]) (by simp [results, Try.results26, go_sem, r0, r1, f0, f1]) rfl ?_
    rw [HX.out, HY.out, HN.out]
    exact ⟨_, _, _, _, _, _, [], rfl, SpOwn.none_, by simp, (hb2.setCell (by simp <;> omega) _).setCell (by simp <;> omega) _⟩
end Go.Proofs.Ytbfdbkidmakapaa
