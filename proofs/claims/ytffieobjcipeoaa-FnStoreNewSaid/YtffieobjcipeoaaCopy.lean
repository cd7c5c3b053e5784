/- The reference's copy of a space. No condition. -/
import Derived.Test.YtffieobjcipeoaaClone
import Derived.Test.YtffieobjcipeoaaLib
namespace Go.Proofs.Ytffieobjcipeoaa
set_option linter.unusedVariables false
set_option linter.unusedSimpArgs false
set_option linter.unnecessarySimpa false
open Go.RowKit

set_option maxHeartbeats 2000000 in
theorem l5Copy_any (A B : Option Addr) (n c m d : Nat) (xs ys : List Int) (w : World) (hA : IntsAt w A n xs) (hB : IntsAt w B m ys) (hn : n ≤ 17592186044416) (hm : m ≤ 17592186044416) :
    Calls Try.prog 111 #[.agg #[.slice A n c, .slice B m d]] w (NewSpO w xs ys) := by
  obtain ⟨i0, hi, hz0, hz1, hz2⟩ := info_parts info_int
  obtain ⟨W0, hW⟩ : ∃ W0, W0 = (w.alloc (.cells #[.slice A n c, .slice B m d] 27)).alloc (.cells #[.slice none 0 0, .slice none 0 0] 27) := ⟨_, rfl⟩
  have hb0 : Below w.heap.size w W0 := by rw [hW]; exact ((Below.refl _ _).alloc (Nat.le_refl _) _).alloc (by simp) _
  have z0 : W0.heap.size = w.heap.size + 1 + 1 := by rw [hW]; simp
  have c0 : W0.cell? ⟨w.heap.size, 0, none⟩ = some (.slice A n c) := by rw [hW]; simp [go_sem]
  have c1 : W0.cell? ⟨w.heap.size, 1, none⟩ = some (.slice B m d) := by rw [hW]; simp [go_sem]
  have r0 : W0.cell? ⟨w.heap.size + 1, 0, none⟩ = some (.slice none 0 0) := by rw [hW]; simp [go_sem]
  have r1 : W0.cell? ⟨w.heap.size + 1, 1, none⟩ = some (.slice none 0 0) := by rw [hW]; simp [go_sem]
  have f0 : W0.frozen? ⟨w.heap.size + 1, 0, none⟩ = false := by rw [hW]; simp [go_sem]
  have f1 : W0.frozen? ⟨w.heap.size + 1, 1, none⟩ = false := by rw [hW]; simp [go_sem]
  have HW := Lib.hid hW
  have hA1 := Lib.hid (hA.below hb0)
  have hB1 := Lib.hid (hB.below hb0)
  have z1 : w.heap.size < W0.heap.size := by omega
  have z2 : w.heap.size + 1 < W0.heap.size := by omega
  have HZ := Lib.hid z0
  clear z0 hA hB
  go_enter Try.func111, Try.ntmps111
  clear hW
  go_wp2_with fail
  rw [← HW.out]
  have hk0 : Below W0.heap.size W0 W0 := Below.refl _ _
  go_region_law (first
    | (refine step_append_fresh rfl (.tmp 3) (.tmp 5) 25 rfl 3 i0 (.int .i64 0) 1 8 Try.underlying25 hi hz0 hz1 hz2 rfl (by decide) _ A n c (xs.map (Value.int .i64)) (by simp [Act.eval, Act.put]; rfl) (by simp [Act.eval, Act.put]) ?_ (ints_one xs) (by unfold maxLen; omega) (by omega) ?_; (exact (hA1.out.below (by repeat (first | exact Below.refl _ _ | assumption | refine Below.drew ?_ | refine Below.alloc ?_ (by first | omega | (simp; done) | (simp; omega)) _))).row); intro A1 d1 S1 w1 o1 hS1 hb1 hc1; have hk1 : Below W0.heap.size W0 w1 := Below.trans (by repeat (first | exact Below.refl _ _ | assumption | refine Below.drew ?_ | refine Below.alloc ?_ (by first | omega | (simp; done) | (simp; omega)) _)) (hb1.mono (by first | omega | (simp; done) | (simp; omega))); (try (have he1 : Below w2.heap.size w2 w1 := Below.trans (by repeat (first | exact Below.refl _ _ | assumption | refine Below.drew ?_ | refine Below.alloc ?_ (by first | omega | (simp; done) | (simp; omega)) _)) (hb1.mono (by first | omega | (simp; done) | (simp; omega))))); have sz1 := hk1.size; have lt1 : w.heap.size < w1.heap.size := (by have := hk1.size; omega); have lu1 : w.heap.size + 1 < w1.heap.size := (by have := hk1.size; omega); have ca1 := (hk1.cell (p := ⟨w.heap.size, 0, none⟩) z1).trans c0; have cb1 := (hk1.cell (p := ⟨w.heap.size, 1, none⟩) z1).trans c1; have ra1 := (hk1.cell (p := ⟨w.heap.size + 1, 0, none⟩) z2).trans r0; have rb1 := (hk1.cell (p := ⟨w.heap.size + 1, 1, none⟩) z2).trans r1; have fa1 := (hk1.frozen (p := ⟨w.heap.size + 1, 0, none⟩) z2).trans f0; have fb1 := (hk1.frozen (p := ⟨w.heap.size + 1, 1, none⟩) z2).trans f1)
    | (refine step_append_fresh rfl (.tmp 7) (.tmp 9) 25 rfl 3 i0 (.int .i64 0) 1 8 Try.underlying25 hi hz0 hz1 hz2 rfl (by decide) _ B m d (ys.map (Value.int .i64)) (by simp [Act.eval, Act.put]; rfl) (by simp [Act.eval, Act.put]) ?_ (ints_one ys) (by unfold maxLen; omega) (by omega) ?_; (exact (hB1.out.below (by repeat (first | exact Below.refl _ _ | assumption | refine Below.drew ?_ | refine Below.alloc ?_ (by first | omega | (simp; done) | (simp; omega)) _))).row); intro A2 d2 S2 w2 o2 hS2 hb2 hc2; have hk2 : Below W0.heap.size W0 w2 := Below.trans (by repeat (first | exact Below.refl _ _ | assumption | refine Below.drew ?_ | refine Below.alloc ?_ (by first | omega | (simp; done) | (simp; omega)) _)) (hb2.mono (by first | omega | (simp; done) | (simp; omega))); (try (have he2 : Below w1.heap.size w1 w2 := Below.trans (by repeat (first | exact Below.refl _ _ | assumption | refine Below.drew ?_ | refine Below.alloc ?_ (by first | omega | (simp; done) | (simp; omega)) _)) (hb2.mono (by first | omega | (simp; done) | (simp; omega))))); have sz2 := hk2.size; have lt2 : w.heap.size < w2.heap.size := (by have := hk2.size; omega); have lu2 : w.heap.size + 1 < w2.heap.size := (by have := hk2.size; omega); have ca2 := (hk2.cell (p := ⟨w.heap.size, 0, none⟩) z1).trans c0; have cb2 := (hk2.cell (p := ⟨w.heap.size, 1, none⟩) z1).trans c1; have ra2 := (hk2.cell (p := ⟨w.heap.size + 1, 0, none⟩) z2).trans r0; have rb2 := (hk2.cell (p := ⟨w.heap.size + 1, 1, none⟩) z2).trans r1; have fa2 := (hk2.frozen (p := ⟨w.heap.size + 1, 0, none⟩) z2).trans f0; have fb2 := (hk2.frozen (p := ⟨w.heap.size + 1, 1, none⟩) z2).trans f1))
  all_goals
    go_wp2_with fail
    have l1 := o1.lt
    have l2 := o2.lt
    have z3 := HZ.out
    have hs : ∀ k ∈ S1 ++ S2, w.heap.size + 1 < k := fun k hk => by
      rcases List.mem_append.1 hk with h | h
      · have := hS1 k h
        try simp at this
        omega
      · have := hS2 k h
        try simp at this
        omega
    have hdis : ∀ k ∈ S1, k ∉ S2 := fun k h1 h2 => by
      have a1 := l1 k h1
      have a2 := l2 k h2
      have b1 := hS1 k h1
      have b2 := hS2 k h2
      try simp at b1
      try simp at b2
      omega
    first
      | (have o1b := o1.below he2
         refine bodyPost_ret (v := .agg #[.slice A1 n d1, .slice A2 m d2]) (by simp [results, Try.results111, go_sem, ra2, rb2, fa2, fb2]) rfl ?_
         refine ⟨_, _, _, _, _, _, S1 ++ S2, rfl, SpOwn.keep ⟨S1, S2, rfl, ownS_of_ownRow o1b (by omega), ownS_of_ownRow o2 (by omega), hdis⟩ fun k hk => ?_, fun k hk => ?_, ?_⟩
         · have := hs k hk
           simp [World.setCell, Array.getElem?_modify]
           repeat rw [if_neg (by omega)]
         · have := hs k hk
           omega
         · exact ((hb0.trans (hk2.mono hb0.size)).setCell (by simp <;> omega) _).setCell (by simp <;> omega) _)
      | (have o2b := o2.below he1
         refine bodyPost_ret (v := .agg #[.slice A1 n d1, .slice A2 m d2]) (by simp [results, Try.results111, go_sem, ra1, rb1, fa1, fb1]) rfl ?_
         refine ⟨_, _, _, _, _, _, S1 ++ S2, rfl, SpOwn.keep ⟨S1, S2, rfl, ownS_of_ownRow o1 (by omega), ownS_of_ownRow o2b (by omega), hdis⟩ fun k hk => ?_, fun k hk => ?_, ?_⟩
         · have := hs k hk
           simp [World.setCell, Array.getElem?_modify]
           repeat rw [if_neg (by omega)]
         · have := hs k hk
           omega
         · exact ((hb0.trans (hk1.mono hb0.size)).setCell (by simp <;> omega) _).setCell (by simp <;> omega) _)
end Go.Proofs.Ytffieobjcipeoaa
