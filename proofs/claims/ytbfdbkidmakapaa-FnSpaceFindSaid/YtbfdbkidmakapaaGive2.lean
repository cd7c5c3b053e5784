/- SpaceGive, of the program and of the reference, whole. No condition. -/
import Derived.Test.YtbfdbkidmakapaaGive
namespace Go.Proofs.Ytbfdbkidmakapaa
set_option linter.unusedVariables false
set_option linter.unusedSimpArgs false
set_option linter.unnecessarySimpa false
open Go.RowKit

set_option maxHeartbeats 2000000 in
theorem spaceGive_any (A B : Option Addr) (n c m d : Nat) (xs ys : List Int) (at_ : Int) (w : World) (hA : IntsAt w A n xs) (hB : IntsAt w B m ys)
    (hA0 : A = none → n = 0 ∧ c = 0) (hB0 : B = none → m = 0 ∧ d = 0) :
    Calls Try.prog 32 #[.agg #[.slice A n c, .slice B m d], .int .i64 at_] w (SpRes w (giveX xs ys at_) (giveY xs ys at_) (giveOk xs ys at_)) := by
  have hb0 : Below w.heap.size w ((w.alloc (.cells #[.slice A n c, .slice B m d] 25)).alloc (.cells #[.slice none 0 0, .slice none 0 0] 25)) := ((Below.refl _ _).alloc (Nat.le_refl _) _).alloc (by simp) _
  cases h1 : spOk xs ys
  · have hno : giveOk xs ys at_ = false := by unfold giveOk; simp [h1]
    have HX := Lib.hid (show giveX xs ys at_ = [] by unfold giveX; rw [if_neg (by rw [hno]; simp)])
    have HY := Lib.hid (show giveY xs ys at_ = [] by unfold giveY; rw [if_neg (by rw [hno]; simp)])
    have HN := Lib.hid hno
    clear hno
    go_enter Try.func32, Try.ntmps32
    go_wp2_with fail
    refine (spaceOk_any _ _ _ _ _ _ xs ys _ (hA.below hb0) (hB.below hb0)).mono ?_
    rintro e w1 ⟨rfl, hb1⟩
    have s1 := hb1.size
    simp at s1
    have c0 : w1.cell? ⟨w.heap.size, 0, none⟩ = some (.slice A n c) := (hb1.cell (by simp <;> omega)).trans (by simp [go_sem])
    have c1 : w1.cell? ⟨w.heap.size, 1, none⟩ = some (.slice B m d) := (hb1.cell (by simp <;> omega)).trans (by simp [go_sem])
    have r0 : w1.cell? ⟨w.heap.size + 1, 0, none⟩ = some (.slice none 0 0) := (hb1.cell (by simp)).trans (by simp [go_sem])
    have r1 : w1.cell? ⟨w.heap.size + 1, 1, none⟩ = some (.slice none 0 0) := (hb1.cell (by simp)).trans (by simp [go_sem])
    have f0 : w1.frozen? ⟨w.heap.size + 1, 0, none⟩ = false := (hb1.frozen (by simp)).trans (by simp [go_sem])
    have f1 : w1.frozen? ⟨w.heap.size + 1, 1, none⟩ = false := (hb1.frozen (by simp)).trans (by simp [go_sem])
    have hb2 : Below w.heap.size w w1 := hb0.trans (hb1.mono (by simp <;> omega))
    go_wp2_with fail
    refine bodyPost_ret (v := .tuple #[.agg #[.slice none 0 0, .slice none 0 0], .bool false]) (by simp [results, Try.results32, go_sem, r0, r1, f0, f1]) rfl ?_
    rw [HX.out, HY.out, HN.out]
    exact ⟨_, _, _, _, _, _, [], rfl, SpOwn.none_, by simp, (hb2.setCell (by simp <;> omega) _).setCell (by simp <;> omega) _⟩
  cases h2 : inB at_ 0 63
  · have hno : giveOk xs ys at_ = false := by
      have : inB at_ 8 63 = false := by unfold inB at h2 ⊢; have := of_decide_eq_false h2; exact decide_eq_false (by omega)
      unfold giveOk; simp [this]
    have HX := Lib.hid (show giveX xs ys at_ = [] by unfold giveX; rw [if_neg (by rw [hno]; simp)])
    have HY := Lib.hid (show giveY xs ys at_ = [] by unfold giveY; rw [if_neg (by rw [hno]; simp)])
    have HN := Lib.hid hno
    clear hno
    go_enter Try.func32, Try.ntmps32
    go_wp2_with fail
    refine (spaceOk_any _ _ _ _ _ _ xs ys _ (hA.below hb0) (hB.below hb0)).mono ?_
    rintro e w1 ⟨rfl, hb1⟩
    have s1 := hb1.size
    simp at s1
    have c0 : w1.cell? ⟨w.heap.size, 0, none⟩ = some (.slice A n c) := (hb1.cell (by simp <;> omega)).trans (by simp [go_sem])
    have c1 : w1.cell? ⟨w.heap.size, 1, none⟩ = some (.slice B m d) := (hb1.cell (by simp <;> omega)).trans (by simp [go_sem])
    have r0 : w1.cell? ⟨w.heap.size + 1, 0, none⟩ = some (.slice none 0 0) := (hb1.cell (by simp)).trans (by simp [go_sem])
    have r1 : w1.cell? ⟨w.heap.size + 1, 1, none⟩ = some (.slice none 0 0) := (hb1.cell (by simp)).trans (by simp [go_sem])
    have f0 : w1.frozen? ⟨w.heap.size + 1, 0, none⟩ = false := (hb1.frozen (by simp)).trans (by simp [go_sem])
    have f1 : w1.frozen? ⟨w.heap.size + 1, 1, none⟩ = false := (hb1.frozen (by simp)).trans (by simp [go_sem])
    have hb2 : Below w.heap.size w w1 := hb0.trans (hb1.mono (by simp <;> omega))
    go_wp2_with (go_at_call 56; refine (isCell_any _ _).mono ?_; rintro e w' ⟨rfl, rfl⟩)
    refine bodyPost_ret (v := .tuple #[.agg #[.slice none 0 0, .slice none 0 0], .bool false]) (by simp [results, Try.results32, go_sem, r0, r1, f0, f1]) rfl ?_
    rw [HX.out, HY.out, HN.out]
    exact ⟨_, _, _, _, _, _, [], rfl, SpOwn.none_, by simp, (hb2.setCell (by simp <;> omega) _).setCell (by simp <;> omega) _⟩
  obtain ⟨a, rfl, ha2⟩ : ∃ a : Nat, at_ = (a : Int) ∧ a ≤ 63 := by unfold inB at h2; have := of_decide_eq_true h2; exact ⟨at_.toNat, by omega, by omega⟩
  have hlx := (spOk_iff.1 h1).1
  have hly := (spOk_iff.1 h1).2.1
  have hrow := (spOk_iff.1 h1).2.2 a (by omega)
  obtain rfl : n = 64 := by rw [← hA.len]; exact hlx
  obtain rfl : m = 64 := by rw [← hB.len]; exact hly
  obtain ⟨bb, bo, hBe, hBl, hBc⟩ := hA.at_ (k := a) (by omega)
  subst hBe
  have hcell := hBc a (by omega)
  have HR := Lib.hid hrow
  have HLX := Lib.hid hlx
  have HLY := Lib.hid hly
  clear hBc hrow hlx hly
  by_cases h4 : xs.getD a 0 = 0
  · have hno : giveOk xs ys a = false := by unfold giveOk; simp [List.getD] at h4 ⊢; simp [h4]
    have HX := Lib.hid (show giveX xs ys a = [] by unfold giveX; rw [if_neg (by rw [hno]; simp)])
    have HY := Lib.hid (show giveY xs ys a = [] by unfold giveY; rw [if_neg (by rw [hno]; simp)])
    have HN := Lib.hid hno
    clear hno
    rw [h4] at hcell
    have H4 := Lib.hid h4
    clear h4
    go_enter Try.func32, Try.ntmps32
    go_wp2_with fail
    refine (spaceOk_any _ _ _ _ _ _ xs ys _ (hA.below hb0) (hB.below hb0)).mono ?_
    rintro e w1 ⟨rfl, hb1⟩
    have s1 := hb1.size
    simp at s1
    have c0 : w1.cell? ⟨w.heap.size, 0, none⟩ = some (.slice (some ⟨bb, bo, none⟩) 64 c) := (hb1.cell (by simp <;> omega)).trans (by simp [go_sem])
    have c1 : w1.cell? ⟨w.heap.size, 1, none⟩ = some (.slice B 64 d) := (hb1.cell (by simp <;> omega)).trans (by simp [go_sem])
    have r0 : w1.cell? ⟨w.heap.size + 1, 0, none⟩ = some (.slice none 0 0) := (hb1.cell (by simp)).trans (by simp [go_sem])
    have r1 : w1.cell? ⟨w.heap.size + 1, 1, none⟩ = some (.slice none 0 0) := (hb1.cell (by simp)).trans (by simp [go_sem])
    have f0 : w1.frozen? ⟨w.heap.size + 1, 0, none⟩ = false := (hb1.frozen (by simp)).trans (by simp [go_sem])
    have f1 : w1.frozen? ⟨w.heap.size + 1, 1, none⟩ = false := (hb1.frozen (by simp)).trans (by simp [go_sem])
    have hb2 : Below w.heap.size w w1 := hb0.trans (hb1.mono (by simp <;> omega))
    have hcell1 : w1.cell? ⟨bb, bo + a, none⟩ = some (.int .i64 0) := (hb2.cell hBl).trans hcell
    clear hcell
    go_wp2_with (go_at_call 56; refine (isCell_any _ _).mono ?_; rintro e w' ⟨rfl, rfl⟩)
    refine bodyPost_ret (v := .tuple #[.agg #[.slice none 0 0, .slice none 0 0], .bool false]) (by simp [results, Try.results32, go_sem, r0, r1, f0, f1]) rfl ?_
    rw [HX.out, HY.out, HN.out]
    exact ⟨_, _, _, _, _, _, [], rfl, SpOwn.none_, by simp, (hb2.setCell (by simp <;> omega) _).setCell (by simp <;> omega) _⟩
  · have h8 : 8 ≤ a := HR.out.2.2.2.2.2 (by have := HR.out.1; omega)
    have hyes : giveOk xs ys a = true := by unfold giveOk; rw [h1, inB_yes (n := (a : Int)) (lo := 8) (hi := 63) ⟨by omega, by omega⟩]; simpa using h4
    have HX := Lib.hid (show giveX xs ys a = xs.set a (xs.getD a 0 - 1) by unfold giveX; rw [if_pos hyes]; simp)
    have HY := Lib.hid (show giveY xs ys a = lastOf (xs.getD a 0) ys a by unfold giveY; rw [if_pos hyes]; simp)
    have HN := Lib.hid hyes
    clear hyes
    have hbd : 1 ≤ xs.getD a 0 ∧ xs.getD a 0 ≤ 900 := by have h1 := HR.out.1; have h2 := HR.out.2.1; omega
    have HBD := Lib.hid hbd
    obtain ⟨x, hx⟩ : ∃ x, x = xs.getD a 0 := ⟨_, rfl⟩
    rw [← hx] at hcell h4
    have h5 : (x == 0) = false := by simpa using h4
    clear hx hbd h4
    go_enter Try.func32, Try.ntmps32
    go_wp2_with fail
    refine (spaceOk_any _ _ _ _ _ _ xs ys _ (hA.below hb0) (hB.below hb0)).mono ?_
    rintro e w1 ⟨rfl, hb1⟩
    have s1 := hb1.size
    simp at s1
    have c0 : w1.cell? ⟨w.heap.size, 0, none⟩ = some (.slice (some ⟨bb, bo, none⟩) 64 c) := (hb1.cell (by simp <;> omega)).trans (by simp [go_sem])
    have c1 : w1.cell? ⟨w.heap.size, 1, none⟩ = some (.slice B 64 d) := (hb1.cell (by simp <;> omega)).trans (by simp [go_sem])
    have r0 : w1.cell? ⟨w.heap.size + 1, 0, none⟩ = some (.slice none 0 0) := (hb1.cell (by simp)).trans (by simp [go_sem])
    have r1 : w1.cell? ⟨w.heap.size + 1, 1, none⟩ = some (.slice none 0 0) := (hb1.cell (by simp)).trans (by simp [go_sem])
    have f0 : w1.frozen? ⟨w.heap.size + 1, 0, none⟩ = false := (hb1.frozen (by simp)).trans (by simp [go_sem])
    have f1 : w1.frozen? ⟨w.heap.size + 1, 1, none⟩ = false := (hb1.frozen (by simp)).trans (by simp [go_sem])
    have hb2 : Below w.heap.size w w1 := hb0.trans (hb1.mono (by simp <;> omega))
    have hcell1 : w1.cell? ⟨bb, bo + a, none⟩ = some (.int .i64 x) := (hb2.cell hBl).trans hcell
    clear hcell
    go_wp2_with (go_at_call 56; refine (isCell_any _ _).mono ?_; rintro e w' ⟨rfl, rfl⟩)
    refine (spClone_any _ _ _ _ _ _ xs ys _ (hA.below hb2) (hB.below hb2) (by omega) (by omega) hA0 hB0).mono ?_
    rintro e w2 ⟨A2, n2, c2, B2, m2, d2, S2, rfl, ho, hS2, hb3⟩
    obtain rfl : n2 = 64 := by rw [← ho.one.len]; exact HLX.out
    obtain rfl : m2 = 64 := by rw [← ho.two.len]; exact HLY.out
    obtain ⟨g, k, rfl, rfl, rfl, hgk, og, ok⟩ := ho.both (by omega) (by omega)
    have s2 := hb3.size
    have lg := og.lt
    have lk := ok.lt
    have gg : w1.heap.size ≤ g := hS2 g (by simp)
    have gk : w1.heap.size ≤ k := hS2 k (by simp)
    have r0b := (hb3.cell (p := ⟨w.heap.size + 1, 0, none⟩) (by simp <;> omega)).trans r0
    have r1b := (hb3.cell (p := ⟨w.heap.size + 1, 1, none⟩) (by simp <;> omega)).trans r1
    have f0b := (hb3.frozen (p := ⟨w.heap.size + 1, 0, none⟩) (by simp <;> omega)).trans f0
    have f1b := (hb3.frozen (p := ⟨w.heap.size + 1, 1, none⟩) (by simp <;> omega)).trans f1
    have hb4 := hb2.trans (hb3.mono hb2.size)
    clear c0 c1 r0 r1 f0 f1 hb1 hb3
    go_wp2_with fail
    refine (give_any _ g k c2 d2 a xs ys _ (by omega) (by simp [go_sem]) (by simp [go_sem]) (og.alloc _) (ok.alloc _) hgk (by omega) (by omega) HBD.out).mono ?_
    rintro e w3 ⟨rfl, og3, ok3, hc3⟩
    have s3 := hc3.size
    simp at s3
    have hch : Chg (· ∈ [g, k]) w2 w3 := ((Chg.refl _ _).alloc _).trans hc3
    have kp : ∀ b, b < w2.heap.size → b ≠ g → b ≠ k → w3.heap[b]? = w2.heap[b]? := fun b h1 h2 h3 => hch.block b h1 (by simp; omega)
    have r0c : w3.cell? ⟨w.heap.size + 1, 0, none⟩ = some (.slice none 0 0) := (World.cell?_of_block (kp (w.heap.size + 1) (by omega) (by omega) (by omega))).trans r0b
    have r1c : w3.cell? ⟨w.heap.size + 1, 1, none⟩ = some (.slice none 0 0) := (World.cell?_of_block (kp (w.heap.size + 1) (by omega) (by omega) (by omega))).trans r1b
    have f0c : w3.frozen? ⟨w.heap.size + 1, 0, none⟩ = false := (World.frozen?_of_block (kp (w.heap.size + 1) (by omega) (by omega) (by omega))).trans f0b
    have f1c : w3.frozen? ⟨w.heap.size + 1, 1, none⟩ = false := (World.frozen?_of_block (kp (w.heap.size + 1) (by omega) (by omega) (by omega))).trans f1b
    have b0 : w3.cell? ⟨w2.heap.size, 0, none⟩ = some (.slice (some ⟨g, 0, none⟩) 64 c2) := (World.cell?_of_block (hc3.block w2.heap.size (by simp) (by simp; omega))).trans (by simp [go_sem])
    have b1 : w3.cell? ⟨w2.heap.size, 1, none⟩ = some (.slice (some ⟨k, 0, none⟩) 64 d2) := (World.cell?_of_block (hc3.block w2.heap.size (by simp) (by simp; omega))).trans (by simp [go_sem])
    have n2 : w2.heap.size ≠ w.heap.size + 1 := by omega
    have n1 := n2.symm
    have hb5 : Below w.heap.size w w3 := hb4.trans (hch.below (fun j hj hs => by simp at hs; omega) hb4.size)
    clear r0b r1b f0b f1b kp hc3
    go_wp2_with fail
    refine bodyPost_ret (v := .tuple #[.agg #[.slice (some ⟨g, 0, none⟩) 64 c2, .slice (some ⟨k, 0, none⟩) 64 d2], .bool true]) (by simp [results, Try.results32, go_sem, *]) rfl ?_
    rw [HX.out, HY.out, HN.out]
    have hgj : ∀ j ∈ [g, k], w.heap.size ≤ j := by intro j hj; simp at hj; omega
    exact ⟨_, _, _, _, _, _, _, rfl, SpOwn.mk2 ((og3.setOther (by simp; omega) _).setOther (by simp; omega) _) ((ok3.setOther (by simp; omega) _).setOther (by simp; omega) _) hgk, hgj, (hb5.setCell (by simp <;> omega) _).setCell (by simp <;> omega) _⟩

set_option maxHeartbeats 2000000 in
theorem spSpaceGive_any (A B : Option Addr) (n c m d : Nat) (xs ys : List Int) (at_ : Int) (w : World) (hA : IntsAt w A n xs) (hB : IntsAt w B m ys)
    (hA0 : A = none → n = 0 ∧ c = 0) (hB0 : B = none → m = 0 ∧ d = 0) :
    Calls Try.prog 31 #[.agg #[.slice A n c, .slice B m d], .int .i64 at_] w (SpRes w (giveX xs ys at_) (giveY xs ys at_) (giveOk xs ys at_)) := by
  have hb0 : Below w.heap.size w ((w.alloc (.cells #[.slice A n c, .slice B m d] 25)).alloc (.cells #[.slice none 0 0, .slice none 0 0] 25)) := ((Below.refl _ _).alloc (Nat.le_refl _) _).alloc (by simp) _
  cases h1 : spOk xs ys
  · have hno : giveOk xs ys at_ = false := by unfold giveOk; simp [h1]
    have HX := Lib.hid (show giveX xs ys at_ = [] by unfold giveX; rw [if_neg (by rw [hno]; simp)])
    have HY := Lib.hid (show giveY xs ys at_ = [] by unfold giveY; rw [if_neg (by rw [hno]; simp)])
    have HN := Lib.hid hno
    clear hno
    go_enter Try.func31, Try.ntmps31
    go_wp2_with fail
    refine (spSpaceOk_any _ _ _ _ _ _ xs ys _ (hA.below hb0) (hB.below hb0)).mono ?_
    rintro e w1 ⟨rfl, hb1⟩
    have s1 := hb1.size
    simp at s1
    have c0 : w1.cell? ⟨w.heap.size, 0, none⟩ = some (.slice A n c) := (hb1.cell (by simp <;> omega)).trans (by simp [go_sem])
    have c1 : w1.cell? ⟨w.heap.size, 1, none⟩ = some (.slice B m d) := (hb1.cell (by simp <;> omega)).trans (by simp [go_sem])
    have r0 : w1.cell? ⟨w.heap.size + 1, 0, none⟩ = some (.slice none 0 0) := (hb1.cell (by simp)).trans (by simp [go_sem])
    have r1 : w1.cell? ⟨w.heap.size + 1, 1, none⟩ = some (.slice none 0 0) := (hb1.cell (by simp)).trans (by simp [go_sem])
    have f0 : w1.frozen? ⟨w.heap.size + 1, 0, none⟩ = false := (hb1.frozen (by simp)).trans (by simp [go_sem])
    have f1 : w1.frozen? ⟨w.heap.size + 1, 1, none⟩ = false := (hb1.frozen (by simp)).trans (by simp [go_sem])
    have hb2 : Below w.heap.size w w1 := hb0.trans (hb1.mono (by simp <;> omega))
    go_wp2_with fail
    refine bodyPost_ret (v := .tuple #[.agg #[.slice none 0 0, .slice none 0 0], .bool false]) (by simp [results, Try.results31, go_sem, r0, r1, f0, f1]) rfl ?_
    rw [HX.out, HY.out, HN.out]
    exact ⟨_, _, _, _, _, _, [], rfl, SpOwn.none_, by simp, (hb2.setCell (by simp <;> omega) _).setCell (by simp <;> omega) _⟩
  cases h2 : inB at_ 8 63
  · have hno : giveOk xs ys at_ = false := by
      have : inB at_ 8 63 = false := by unfold inB at h2 ⊢; have := of_decide_eq_false h2; exact decide_eq_false (by omega)
      unfold giveOk; simp [this]
    have HX := Lib.hid (show giveX xs ys at_ = [] by unfold giveX; rw [if_neg (by rw [hno]; simp)])
    have HY := Lib.hid (show giveY xs ys at_ = [] by unfold giveY; rw [if_neg (by rw [hno]; simp)])
    have HN := Lib.hid hno
    clear hno
    go_enter Try.func31, Try.ntmps31
    go_wp2_with fail
    refine (spSpaceOk_any _ _ _ _ _ _ xs ys _ (hA.below hb0) (hB.below hb0)).mono ?_
    rintro e w1 ⟨rfl, hb1⟩
    have s1 := hb1.size
    simp at s1
    have c0 : w1.cell? ⟨w.heap.size, 0, none⟩ = some (.slice A n c) := (hb1.cell (by simp <;> omega)).trans (by simp [go_sem])
    have c1 : w1.cell? ⟨w.heap.size, 1, none⟩ = some (.slice B m d) := (hb1.cell (by simp <;> omega)).trans (by simp [go_sem])
    have r0 : w1.cell? ⟨w.heap.size + 1, 0, none⟩ = some (.slice none 0 0) := (hb1.cell (by simp)).trans (by simp [go_sem])
    have r1 : w1.cell? ⟨w.heap.size + 1, 1, none⟩ = some (.slice none 0 0) := (hb1.cell (by simp)).trans (by simp [go_sem])
    have f0 : w1.frozen? ⟨w.heap.size + 1, 0, none⟩ = false := (hb1.frozen (by simp)).trans (by simp [go_sem])
    have f1 : w1.frozen? ⟨w.heap.size + 1, 1, none⟩ = false := (hb1.frozen (by simp)).trans (by simp [go_sem])
    have hb2 : Below w.heap.size w w1 := hb0.trans (hb1.mono (by simp <;> omega))
    go_wp2_with (go_at_call 43; refine (l2Row_any _ _).mono ?_; rintro e w' ⟨rfl, rfl⟩)
    refine bodyPost_ret (v := .tuple #[.agg #[.slice none 0 0, .slice none 0 0], .bool false]) (by simp [results, Try.results31, go_sem, r0, r1, f0, f1]) rfl ?_
    rw [HX.out, HY.out, HN.out]
    exact ⟨_, _, _, _, _, _, [], rfl, SpOwn.none_, by simp, (hb2.setCell (by simp <;> omega) _).setCell (by simp <;> omega) _⟩
  obtain ⟨a, rfl, ha2⟩ : ∃ a : Nat, at_ = (a : Int) ∧ a ≤ 63 := by unfold inB at h2; have := of_decide_eq_true h2; exact ⟨at_.toNat, by omega, by omega⟩
  have hlx := (spOk_iff.1 h1).1
  have hly := (spOk_iff.1 h1).2.1
  have hrow := (spOk_iff.1 h1).2.2 a (by omega)
  obtain rfl : n = 64 := by rw [← hA.len]; exact hlx
  obtain rfl : m = 64 := by rw [← hB.len]; exact hly
  obtain ⟨bb, bo, hBe, hBl, hBc⟩ := hA.at_ (k := a) (by omega)
  subst hBe
  have hcell := hBc a (by omega)
  have HR := Lib.hid hrow
  have HLX := Lib.hid hlx
  have HLY := Lib.hid hly
  clear hBc hrow hlx hly
  by_cases h4 : xs.getD a 0 = 0
  · have hno : giveOk xs ys a = false := by unfold giveOk; simp [List.getD] at h4 ⊢; simp [h4]
    have HX := Lib.hid (show giveX xs ys a = [] by unfold giveX; rw [if_neg (by rw [hno]; simp)])
    have HY := Lib.hid (show giveY xs ys a = [] by unfold giveY; rw [if_neg (by rw [hno]; simp)])
    have HN := Lib.hid hno
    clear hno
    rw [h4] at hcell
    have H4 := Lib.hid h4
    clear h4
    go_enter Try.func31, Try.ntmps31
    go_wp2_with fail
    refine (spSpaceOk_any _ _ _ _ _ _ xs ys _ (hA.below hb0) (hB.below hb0)).mono ?_
    rintro e w1 ⟨rfl, hb1⟩
    have s1 := hb1.size
    simp at s1
    have c0 : w1.cell? ⟨w.heap.size, 0, none⟩ = some (.slice (some ⟨bb, bo, none⟩) 64 c) := (hb1.cell (by simp <;> omega)).trans (by simp [go_sem])
    have c1 : w1.cell? ⟨w.heap.size, 1, none⟩ = some (.slice B 64 d) := (hb1.cell (by simp <;> omega)).trans (by simp [go_sem])
    have r0 : w1.cell? ⟨w.heap.size + 1, 0, none⟩ = some (.slice none 0 0) := (hb1.cell (by simp)).trans (by simp [go_sem])
    have r1 : w1.cell? ⟨w.heap.size + 1, 1, none⟩ = some (.slice none 0 0) := (hb1.cell (by simp)).trans (by simp [go_sem])
    have f0 : w1.frozen? ⟨w.heap.size + 1, 0, none⟩ = false := (hb1.frozen (by simp)).trans (by simp [go_sem])
    have f1 : w1.frozen? ⟨w.heap.size + 1, 1, none⟩ = false := (hb1.frozen (by simp)).trans (by simp [go_sem])
    have hb2 : Below w.heap.size w w1 := hb0.trans (hb1.mono (by simp <;> omega))
    have hcell1 : w1.cell? ⟨bb, bo + a, none⟩ = some (.int .i64 0) := (hb2.cell hBl).trans hcell
    clear hcell
    go_wp2_with (go_at_call 43; refine (l2Row_any _ _).mono ?_; rintro e w' ⟨rfl, rfl⟩)
    refine bodyPost_ret (v := .tuple #[.agg #[.slice none 0 0, .slice none 0 0], .bool false]) (by simp [results, Try.results31, go_sem, r0, r1, f0, f1]) rfl ?_
    rw [HX.out, HY.out, HN.out]
    exact ⟨_, _, _, _, _, _, [], rfl, SpOwn.none_, by simp, (hb2.setCell (by simp <;> omega) _).setCell (by simp <;> omega) _⟩
  · have h8 : 8 ≤ a := HR.out.2.2.2.2.2 (by have := HR.out.1; omega)
    have hyes : giveOk xs ys a = true := by unfold giveOk; rw [h1, inB_yes (n := (a : Int)) (lo := 8) (hi := 63) ⟨by omega, by omega⟩]; simpa using h4
    have HX := Lib.hid (show giveX xs ys a = xs.set a (xs.getD a 0 - 1) by unfold giveX; rw [if_pos hyes]; simp)
    have HY := Lib.hid (show giveY xs ys a = lastOf (xs.getD a 0) ys a by unfold giveY; rw [if_pos hyes]; simp)
    have HN := Lib.hid hyes
    clear hyes
    have hbd : 1 ≤ xs.getD a 0 ∧ xs.getD a 0 ≤ 900 := by have h1 := HR.out.1; have h2 := HR.out.2.1; omega
    have HBD := Lib.hid hbd
    obtain ⟨x, hx⟩ : ∃ x, x = xs.getD a 0 := ⟨_, rfl⟩
    rw [← hx] at hcell h4
    have h5 : (x == 0) = false := by simpa using h4
    clear hx hbd h4
    go_enter Try.func31, Try.ntmps31
    go_wp2_with fail
    refine (spSpaceOk_any _ _ _ _ _ _ xs ys _ (hA.below hb0) (hB.below hb0)).mono ?_
    rintro e w1 ⟨rfl, hb1⟩
    have s1 := hb1.size
    simp at s1
    have c0 : w1.cell? ⟨w.heap.size, 0, none⟩ = some (.slice (some ⟨bb, bo, none⟩) 64 c) := (hb1.cell (by simp <;> omega)).trans (by simp [go_sem])
    have c1 : w1.cell? ⟨w.heap.size, 1, none⟩ = some (.slice B 64 d) := (hb1.cell (by simp <;> omega)).trans (by simp [go_sem])
    have r0 : w1.cell? ⟨w.heap.size + 1, 0, none⟩ = some (.slice none 0 0) := (hb1.cell (by simp)).trans (by simp [go_sem])
    have r1 : w1.cell? ⟨w.heap.size + 1, 1, none⟩ = some (.slice none 0 0) := (hb1.cell (by simp)).trans (by simp [go_sem])
    have f0 : w1.frozen? ⟨w.heap.size + 1, 0, none⟩ = false := (hb1.frozen (by simp)).trans (by simp [go_sem])
    have f1 : w1.frozen? ⟨w.heap.size + 1, 1, none⟩ = false := (hb1.frozen (by simp)).trans (by simp [go_sem])
    have hb2 : Below w.heap.size w w1 := hb0.trans (hb1.mono (by simp <;> omega))
    have hcell1 : w1.cell? ⟨bb, bo + a, none⟩ = some (.int .i64 x) := (hb2.cell hBl).trans hcell
    clear hcell
    go_wp2_with (go_at_call 43; refine (l2Row_any _ _).mono ?_; rintro e w' ⟨rfl, rfl⟩)
    refine (l5Copy_any _ _ _ _ _ _ xs ys _ (hA.below hb2) (hB.below hb2) (by omega) (by omega)).mono ?_
    rintro e w2 ⟨A2, n2, c2, B2, m2, d2, S2, rfl, ho, hS2, hb3⟩
    obtain rfl : n2 = 64 := by rw [← ho.one.len]; exact HLX.out
    obtain rfl : m2 = 64 := by rw [← ho.two.len]; exact HLY.out
    obtain ⟨g, k, rfl, rfl, rfl, hgk, og, ok⟩ := ho.both (by omega) (by omega)
    have s2 := hb3.size
    have lg := og.lt
    have lk := ok.lt
    have gg : w1.heap.size ≤ g := hS2 g (by simp)
    have gk : w1.heap.size ≤ k := hS2 k (by simp)
    have r0b := (hb3.cell (p := ⟨w.heap.size + 1, 0, none⟩) (by simp <;> omega)).trans r0
    have r1b := (hb3.cell (p := ⟨w.heap.size + 1, 1, none⟩) (by simp <;> omega)).trans r1
    have f0b := (hb3.frozen (p := ⟨w.heap.size + 1, 0, none⟩) (by simp <;> omega)).trans f0
    have f1b := (hb3.frozen (p := ⟨w.heap.size + 1, 1, none⟩) (by simp <;> omega)).trans f1
    have hb4 := hb2.trans (hb3.mono hb2.size)
    clear c0 c1 r0 r1 f0 f1 hb1 hb3
    go_wp2_with fail
    refine (l5Give_any g k c2 d2 a xs ys _ (by omega) og ok hgk HBD.out).mono ?_
    rintro e w3 ⟨rfl, og3, ok3, hc3⟩
    have s3 := hc3.size
    have hch : Chg (· ∈ [g, k]) w2 w3 := hc3
    have kp : ∀ b, b < w2.heap.size → b ≠ g → b ≠ k → w3.heap[b]? = w2.heap[b]? := fun b h1 h2 h3 => hch.block b h1 (by simp; omega)
    have r0c : w3.cell? ⟨w.heap.size + 1, 0, none⟩ = some (.slice none 0 0) := (World.cell?_of_block (kp (w.heap.size + 1) (by omega) (by omega) (by omega))).trans r0b
    have r1c : w3.cell? ⟨w.heap.size + 1, 1, none⟩ = some (.slice none 0 0) := (World.cell?_of_block (kp (w.heap.size + 1) (by omega) (by omega) (by omega))).trans r1b
    have f0c : w3.frozen? ⟨w.heap.size + 1, 0, none⟩ = false := (World.frozen?_of_block (kp (w.heap.size + 1) (by omega) (by omega) (by omega))).trans f0b
    have f1c : w3.frozen? ⟨w.heap.size + 1, 1, none⟩ = false := (World.frozen?_of_block (kp (w.heap.size + 1) (by omega) (by omega) (by omega))).trans f1b
    have hb5 : Below w.heap.size w w3 := hb4.trans (hch.below (fun j hj hs => by simp at hs; omega) hb4.size)
    clear r0b r1b f0b f1b kp hc3
    go_wp2_with fail
    refine bodyPost_ret (v := .tuple #[.agg #[.slice (some ⟨g, 0, none⟩) 64 c2, .slice (some ⟨k, 0, none⟩) 64 d2], .bool true]) (by simp [results, Try.results31, go_sem, *]) rfl ?_
    rw [HX.out, HY.out, HN.out]
    have hgj : ∀ j ∈ [g, k], w.heap.size ≤ j := by intro j hj; simp at hj; omega
    exact ⟨_, _, _, _, _, _, _, rfl, SpOwn.mk2 ((og3.setOther (by simp; omega) _).setOther (by simp; omega) _) ((ok3.setOther (by simp; omega) _).setOther (by simp; omega) _) hgk, hgj, (hb5.setCell (by simp <;> omega) _).setCell (by simp <;> omega) _⟩
end Go.Proofs.Ytbfdbkidmakapaa
