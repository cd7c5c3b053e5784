/- FnIntentGet: the walk. Condition: the variables that the library reads lie as the row says. -/
import Derived.Test.YtkmkmndcgemnlaaGreatDoorIntGet
import Derived.Test.YtkmkmndcgemnlaaGreatDoorDrawIntGet
namespace Go.Proofs.YtkmkmndcgemnlaaGreatDoor
set_option linter.unusedSimpArgs false
set_option linter.unnecessarySimpa false
open Go Go.Lib Go.RowKit
set_option linter.unusedVariables false

set_option maxRecDepth 100000 in
set_option maxHeartbeats 4000000 in
theorem fnIntentGet_walk (A : Option Addr) (n c : Nat) (zs : List Int) (w : World) (he : Env w) (hB : BytesIn w A n c zs) :
    Calls Tryz.prog 5 #[.slice A n c] w fun e w' => e = .returned (.bool true) ∧ Below w.heap.size w w' := by
  have hself : ∀ s : ByteArray, (s.toList == s.toList) = true := fun s => by simp
  go_enter Tryz.func5, Tryz.ntmps5
  by_cases hb : 1048576 < n
  · have h0 : (1048576 : Int) < (n : Int) := by omega
    go_wp2_with fail
    go_ret
    exact ⟨rfl, Below.refl _ _⟩
  have h0 : ¬ (1048576 : Int) < (n : Int) := by omega
  have h1 : (n : Int) ≤ 1048576 := by omega
  go_wp2_with fail
  refine (drawIntentGet_any A n c zs _ hB).mono ?_
  rintro e w1 ⟨z, rfl, hz, hb1⟩
  go_wp2_with fail
  refine (intGet_any z _ (he.below hb1) (by omega)).mono ?_
  rintro e w2 ⟨g, q, h, k, p, t, a, x, ok, rfl, R1, hb2⟩
  have H1 := Lib.hid R1; clear R1
  have HB2 := hb1.trans (hb2.mono hb1.size)
  clear hb2
  go_wp2_with fail
  refine (spIntGet_any z _ (by omega)).mono ?_
  rintro e w3 ⟨g', q', h', k', p', t', a', x', ok', rfl, R2, hb3⟩
  obtain ⟨ho, rfl⟩ := intIs_one H1.out R2
  obtain ⟨rfl, rfl, rfl, rfl, rfl, rfl, rfl, rfl⟩ : g = g' ∧ q = q' ∧ h = h' ∧ k = k' ∧ p = p' ∧ t = t' ∧ a = a' ∧ x = x' := by simpa only [Prod.mk.injEq] using ho
  clear R2 ho
  have l1 : w2.heap.size < w3.heap.size := by have := hb3.size; simp at this; omega
  have qq0 : w3.cell? ⟨w2.heap.size, 0, none⟩ = some (.int .i64 g) := (hb3.cell (by simp)).trans (by simp [go_sem])
  have qq1 : w3.cell? ⟨w2.heap.size, 1, none⟩ = some (.int .i64 q) := (hb3.cell (by simp)).trans (by simp [go_sem])
  have qq2 : w3.cell? ⟨w2.heap.size, 2, none⟩ = some (.string (strB h)) := (hb3.cell (by simp)).trans (by simp [go_sem])
  have qq3 : w3.cell? ⟨w2.heap.size, 3, none⟩ = some (.int .i64 k) := (hb3.cell (by simp)).trans (by simp [go_sem])
  have qq4 : w3.cell? ⟨w2.heap.size, 4, none⟩ = some (.string (strB p)) := (hb3.cell (by simp)).trans (by simp [go_sem])
  have qq5 : w3.cell? ⟨w2.heap.size, 5, none⟩ = some (.string (strB t)) := (hb3.cell (by simp)).trans (by simp [go_sem])
  have qq6 : w3.cell? ⟨w2.heap.size, 6, none⟩ = some (.int .i64 a) := (hb3.cell (by simp)).trans (by simp [go_sem])
  have qq7 : w3.cell? ⟨w2.heap.size, 7, none⟩ = some (.string (strB x)) := (hb3.cell (by simp)).trans (by simp [go_sem])
  have HB3 : Below w.heap.size w w3 := (Below.alloc HB2 (by exact HB2.size) _).trans (hb3.mono (by have := HB2.size; simp; omega))
  clear hb3 HB2 hb1
  cases ok
  · go_wp2_with fail
    go_ret
    exact ⟨rfl, Below.alloc HB3 (by exact HB3.size) _⟩
  · obtain ⟨hok, hsx⟩ : intB (g, q, h, k, p, t, a, x) = true ∧ intS (g, q, h, k, p, t, a, x) = z := by
      rcases H1.out with ⟨_, h1, h2⟩ | ⟨h0, _⟩
      · exact ⟨h1, h2⟩
      · cases h0
    obtain ⟨hlh, hlp, hlt, hlx⟩ := intIs_len H1.out
    have HOK := Lib.hid hok; have HSX := Lib.hid hsx; clear hok hsx H1
    have HB4 : Below w.heap.size w (World.alloc w3 (.cells #[.int .i64 g, .int .i64 q, .string (strB h), .int .i64 k, .string (strB p), .string (strB t), .int .i64 a, .string (strB x)] 26)) := Below.alloc HB3 (by exact HB3.size) _
    go_wp2_with fail
    refine (intPut_any g q h k p t a x _ (he.below HB4).tab (he.below HB4).mlen hlh hlp hlt hlx).mono ?_
    unfold TextR
    rw [HSX.out]
    rintro e w4 ⟨rfl, hb4⟩
    have HB5 := HB4.trans (hb4.mono HB4.size)
    have rr0 : w4.cell? ⟨w2.heap.size, 0, none⟩ = some (.int .i64 g) := (hb4.cell (by simp; omega)).trans (((bel1 (w := w3)).cell l1).trans qq0)
    have rr1 : w4.cell? ⟨w2.heap.size, 1, none⟩ = some (.int .i64 q) := (hb4.cell (by simp; omega)).trans (((bel1 (w := w3)).cell l1).trans qq1)
    have rr2 : w4.cell? ⟨w2.heap.size, 2, none⟩ = some (.string (strB h)) := (hb4.cell (by simp; omega)).trans (((bel1 (w := w3)).cell l1).trans qq2)
    have rr3 : w4.cell? ⟨w2.heap.size, 3, none⟩ = some (.int .i64 k) := (hb4.cell (by simp; omega)).trans (((bel1 (w := w3)).cell l1).trans qq3)
    have rr4 : w4.cell? ⟨w2.heap.size, 4, none⟩ = some (.string (strB p)) := (hb4.cell (by simp; omega)).trans (((bel1 (w := w3)).cell l1).trans qq4)
    have rr5 : w4.cell? ⟨w2.heap.size, 5, none⟩ = some (.string (strB t)) := (hb4.cell (by simp; omega)).trans (((bel1 (w := w3)).cell l1).trans qq5)
    have rr6 : w4.cell? ⟨w2.heap.size, 6, none⟩ = some (.int .i64 a) := (hb4.cell (by simp; omega)).trans (((bel1 (w := w3)).cell l1).trans qq6)
    have rr7 : w4.cell? ⟨w2.heap.size, 7, none⟩ = some (.string (strB x)) := (hb4.cell (by simp; omega)).trans (((bel1 (w := w3)).cell l1).trans qq7)
    clear hb4 HB4 qq0 qq1 qq2 qq3 qq4 qq5 qq6 qq7
    go_wp2_with fail
    refine (intOk_any g q h k p t a x _ (he.below HB5).mlen hlh hlp hlt hlx).mono ?_
    rw [HOK.out]
    rintro e w5 ⟨rfl, hb5⟩
    go_wp2_with fail
    go_ret
    exact ⟨rfl, HB5.trans (hb5.mono HB5.size)⟩
end Go.Proofs.YtkmkmndcgemnlaaGreatDoor
