/- FnIntentPut: the walk. Condition: the variables that the library reads lie as the row says. -/
import Derived.Test.YtkmkmndcgemnlaaGreatDoorIntGet
import Derived.Test.YtkmkmndcgemnlaaGreatDoorDrawInt
namespace Go.Proofs.YtkmkmndcgemnlaaGreatDoor
set_option linter.unusedSimpArgs false
set_option linter.unnecessarySimpa false
open Go Go.Lib Go.RowKit
set_option linter.unusedVariables false

theorem take_strI (x : Str) (k : Nat) (h : k ≤ x.length) : (strB x).extract 0 k = strB (x.take k) := by
  apply ByteArray.ext
  simp [strB]
set_option maxRecDepth 100000 in
set_option maxHeartbeats 2000000 in
theorem fnIntentPut_walk (A : Option Addr) (n c : Nat) (zs : List Int) (w : World) (he : Env w) (h : BytesIn w A n c zs) :
    Calls Tryz.prog 3 #[.slice A n c] w fun e w' => e = .returned (.bool true) ∧ Below w.heap.size w w' := by
  have hself : ∀ s : ByteArray, (s.toList == s.toList) = true := fun s => by simp
  go_enter Tryz.func3, Tryz.ntmps3
  by_cases hb : 1048576 < n
  · have h0 : (1048576 : Int) < (n : Int) := by omega
    go_wp2_with fail
    go_ret
    exact ⟨rfl, Below.refl _ _⟩
  have h0 : ¬ (1048576 : Int) < (n : Int) := by omega
  have h1 : (n : Int) ≤ 1048576 := by omega
  go_wp2_with fail
  refine (drawIntentPut_any A n c zs _ h).mono ?_
  rintro e w1 ⟨g, q, h', k, p, t, a, x, rfl, hh, hp, ht, hx_, hb1⟩
  have HB1 : Below w.heap.size w (World.alloc w1 (.cells #[.int .i64 g, .int .i64 q, .string (strB h'), .int .i64 k, .string (strB p), .string (strB t), .int .i64 a, .string (strB x)] 26)) := Below.alloc hb1 (by exact hb1.size) _
  go_wp2_with fail
  refine (intPut_any g q h' k p t a x _ (he.below HB1).tab (he.below HB1).mlen hh hp ht hx_).mono ?_
  unfold TextR
  obtain ⟨z, hx⟩ : ∃ z, z = intS (g, q, h', k, p, t, a, x) := ⟨_, rfl⟩
  rw [← hx]
  rintro e w2 ⟨rfl, hb2⟩
  have HX := Lib.hid hx; clear hx
  have l1 : w1.heap.size < w2.heap.size := by have := hb2.size; simp at this; omega
  have q0 : w2.cell? ⟨w1.heap.size, 0, none⟩ = some (.int .i64 g) := (hb2.cell (by simp)).trans (by simp [go_sem])
  have q1 : w2.cell? ⟨w1.heap.size, 1, none⟩ = some (.int .i64 q) := (hb2.cell (by simp)).trans (by simp [go_sem])
  have q2 : w2.cell? ⟨w1.heap.size, 2, none⟩ = some (.string (strB h')) := (hb2.cell (by simp)).trans (by simp [go_sem])
  have q3 : w2.cell? ⟨w1.heap.size, 3, none⟩ = some (.int .i64 k) := (hb2.cell (by simp)).trans (by simp [go_sem])
  have q4 : w2.cell? ⟨w1.heap.size, 4, none⟩ = some (.string (strB p)) := (hb2.cell (by simp)).trans (by simp [go_sem])
  have q5 : w2.cell? ⟨w1.heap.size, 5, none⟩ = some (.string (strB t)) := (hb2.cell (by simp)).trans (by simp [go_sem])
  have q6 : w2.cell? ⟨w1.heap.size, 6, none⟩ = some (.int .i64 a) := (hb2.cell (by simp)).trans (by simp [go_sem])
  have q7 : w2.cell? ⟨w1.heap.size, 7, none⟩ = some (.string (strB x)) := (hb2.cell (by simp)).trans (by simp [go_sem])
  have HB2 := HB1.trans (hb2.mono HB1.size)
  clear hb2 HB1
  go_wp2_with fail
  refine (spIntPut_any g q h' k p t a x _ hh hp ht hx_).mono ?_
  unfold TextR
  rw [← HX.out]
  rintro e w3 ⟨rfl, hb3⟩
  have l2 : w1.heap.size < w3.heap.size := by have := hb3.size; omega
  have r0 : w3.cell? ⟨w1.heap.size, 0, none⟩ = some (.int .i64 g) := (hb3.cell l1).trans q0
  have r1 : w3.cell? ⟨w1.heap.size, 1, none⟩ = some (.int .i64 q) := (hb3.cell l1).trans q1
  have r2 : w3.cell? ⟨w1.heap.size, 2, none⟩ = some (.string (strB h')) := (hb3.cell l1).trans q2
  have r3 : w3.cell? ⟨w1.heap.size, 3, none⟩ = some (.int .i64 k) := (hb3.cell l1).trans q3
  have r4 : w3.cell? ⟨w1.heap.size, 4, none⟩ = some (.string (strB p)) := (hb3.cell l1).trans q4
  have r5 : w3.cell? ⟨w1.heap.size, 5, none⟩ = some (.string (strB t)) := (hb3.cell l1).trans q5
  have r6 : w3.cell? ⟨w1.heap.size, 6, none⟩ = some (.int .i64 a) := (hb3.cell l1).trans q6
  have r7 : w3.cell? ⟨w1.heap.size, 7, none⟩ = some (.string (strB x)) := (hb3.cell l1).trans q7
  have HB3 := HB2.trans (hb3.mono HB2.size)
  clear hb3 HB2 l1
  clear q0 q1 q2 q3 q4 q5 q6 q7
  by_cases hx0 : z = []
  · subst hx0
    have hemp : (strB []).toList.isEmpty = true := by rw [strB_list]; rfl
    go_wp2_with fail
    go_ret
    exact ⟨rfl, HB3⟩
  have hxe : (strB z).toList = z := strB_list z
  have e0 : (strB z).toList.isEmpty = false := by rw [strB_list]; simpa using hx0
  have hok : intB (g, q, h', k, p, t, a, x) = true := by
    cases ho : intB (g, q, h', k, p, t, a, x)
    · exact absurd (HX.out.trans (intS_no ho)) hx0
    · rfl
  have HOK := Lib.hid hok; clear hok
  have hlen : Hid (z.length ≤ 200) := Lib.hid (by rw [HX.out]; exact intS_len _)
  have hpos : Hid (0 < z.length) := Lib.hid (List.length_pos_iff.2 hx0)
  have hsz : Hid ((strB z).size = z.length) := Lib.hid rfl
  clear hx0 hxe
  go_wp2_with fail
  refine (intGet_any z _ (he.below HB3) (by have := hlen.out; omega)).mono ?_
  rintro e w4 ⟨g1, q1, h1', k1, p1, t1, a1, x1, ok', rfl, R1, hb4⟩
  have R2 : intIs z (g, q, h', k, p, t, a, x) true := .inl ⟨rfl, HOK.out, HX.out.symm⟩
  obtain ⟨ho, rfl⟩ := intIs_one R2 R1
  obtain ⟨rfl, rfl, rfl, rfl, rfl, rfl, rfl, rfl⟩ : g = g1 ∧ q = q1 ∧ h' = h1' ∧ k = k1 ∧ p = p1 ∧ t = t1 ∧ a = a1 ∧ x = x1 := by simpa only [Prod.mk.injEq] using ho
  clear ho
  clear R1 R2
  have l3 : w1.heap.size < w4.heap.size := by have := hb4.size; omega
  have s0 : w4.cell? ⟨w1.heap.size, 0, none⟩ = some (.int .i64 g) := (hb4.cell l2).trans r0
  have s1 : w4.cell? ⟨w1.heap.size, 1, none⟩ = some (.int .i64 q) := (hb4.cell l2).trans r1
  have s2 : w4.cell? ⟨w1.heap.size, 2, none⟩ = some (.string (strB h')) := (hb4.cell l2).trans r2
  have s3 : w4.cell? ⟨w1.heap.size, 3, none⟩ = some (.int .i64 k) := (hb4.cell l2).trans r3
  have s4 : w4.cell? ⟨w1.heap.size, 4, none⟩ = some (.string (strB p)) := (hb4.cell l2).trans r4
  have s5 : w4.cell? ⟨w1.heap.size, 5, none⟩ = some (.string (strB t)) := (hb4.cell l2).trans r5
  have s6 : w4.cell? ⟨w1.heap.size, 6, none⟩ = some (.int .i64 a) := (hb4.cell l2).trans r6
  have s7 : w4.cell? ⟨w1.heap.size, 7, none⟩ = some (.string (strB x)) := (hb4.cell l2).trans r7
  have HB4 := HB3.trans (hb4.mono HB3.size)
  clear hb4 HB3 l2 r0 r1 r2 r3 r4 r5 r6 r7
  obtain ⟨kk, hk⟩ : ∃ kk : Nat, kk = n % z.length := ⟨_, rfl⟩
  have hkl : kk < z.length := by rw [hk]; exact Nat.mod_lt _ hpos.out
  have hrem : (n : Int) % ((strB z).size : Int) = (kk : Int) := by rw [hsz.out, hk]; rfl
  have hrem2 : (n : Int).tmod ((strB z).size : Int) = (kk : Int) := by rw [Int.tmod_eq_emod_of_nonneg (by omega)]; exact hrem
  have hz : ¬ ((strB z).size : Int) = 0 := by rw [hsz.out]; omega
  have hz' : (((strB z).size : Int) == 0) = false := by simpa using hz
  have hk0 : (0 : Int) ≤ (kk : Int) := by omega
  have hk1 : (kk : Int) ≤ ((strB z).size : Int) := by rw [hsz.out]; omega
  have htk := take_strI z kk (by omega)
  have h200 : ((strB z).size : Int) ≤ 200 := by rw [hsz.out]; have := hlen.out; omega
  have HKL := Lib.hid hkl; clear hkl hk
  have HB5 : Below w.heap.size w (World.alloc w4 (.cells #[.int .i64 g, .int .i64 q, .string (strB h'), .int .i64 k, .string (strB p), .string (strB t), .int .i64 a, .string (strB x)] 26)) := Below.alloc HB4 (by exact HB4.size) _
  go_wp2_with fail
  refine (intGet_any (z.take kk) _ (he.below HB5) (by have := hlen.out; simp; omega)).mono ?_
  rintro e w5 ⟨tt5, aa5, bb5, ss5, mm5, ll5, dd5, yy5, ok5, rfl, R5, hb5⟩
  have hok5 := int_torn HOK.out (k := kk) (by rw [← HX.out]; exact HKL.out) (by rw [← HX.out]; exact R5)
  subst hok5
  clear R5
  have u0 : w5.cell? ⟨w1.heap.size, 0, none⟩ = some (.int .i64 g) := (hb5.cell (by simp; omega)).trans (((bel1 (w := w4)).cell l3).trans s0)
  have u1 : w5.cell? ⟨w1.heap.size, 1, none⟩ = some (.int .i64 q) := (hb5.cell (by simp; omega)).trans (((bel1 (w := w4)).cell l3).trans s1)
  have u2 : w5.cell? ⟨w1.heap.size, 2, none⟩ = some (.string (strB h')) := (hb5.cell (by simp; omega)).trans (((bel1 (w := w4)).cell l3).trans s2)
  have u3 : w5.cell? ⟨w1.heap.size, 3, none⟩ = some (.int .i64 k) := (hb5.cell (by simp; omega)).trans (((bel1 (w := w4)).cell l3).trans s3)
  have u4 : w5.cell? ⟨w1.heap.size, 4, none⟩ = some (.string (strB p)) := (hb5.cell (by simp; omega)).trans (((bel1 (w := w4)).cell l3).trans s4)
  have u5 : w5.cell? ⟨w1.heap.size, 5, none⟩ = some (.string (strB t)) := (hb5.cell (by simp; omega)).trans (((bel1 (w := w4)).cell l3).trans s5)
  have u6 : w5.cell? ⟨w1.heap.size, 6, none⟩ = some (.int .i64 a) := (hb5.cell (by simp; omega)).trans (((bel1 (w := w4)).cell l3).trans s6)
  have u7 : w5.cell? ⟨w1.heap.size, 7, none⟩ = some (.string (strB x)) := (hb5.cell (by simp; omega)).trans (((bel1 (w := w4)).cell l3).trans s7)
  have v0 : w5.cell? ⟨w4.heap.size, 0, none⟩ = some (.int .i64 g) := (hb5.cell (by simp)).trans (by simp [go_sem])
  have v1 : w5.cell? ⟨w4.heap.size, 1, none⟩ = some (.int .i64 q) := (hb5.cell (by simp)).trans (by simp [go_sem])
  have v2 : w5.cell? ⟨w4.heap.size, 2, none⟩ = some (.string (strB h')) := (hb5.cell (by simp)).trans (by simp [go_sem])
  have v3 : w5.cell? ⟨w4.heap.size, 3, none⟩ = some (.int .i64 k) := (hb5.cell (by simp)).trans (by simp [go_sem])
  have v4 : w5.cell? ⟨w4.heap.size, 4, none⟩ = some (.string (strB p)) := (hb5.cell (by simp)).trans (by simp [go_sem])
  have v5 : w5.cell? ⟨w4.heap.size, 5, none⟩ = some (.string (strB t)) := (hb5.cell (by simp)).trans (by simp [go_sem])
  have v6 : w5.cell? ⟨w4.heap.size, 6, none⟩ = some (.int .i64 a) := (hb5.cell (by simp)).trans (by simp [go_sem])
  have v7 : w5.cell? ⟨w4.heap.size, 7, none⟩ = some (.string (strB x)) := (hb5.cell (by simp)).trans (by simp [go_sem])
  have l5 : w4.heap.size < w5.heap.size := World.block_lt_of_cell? _ _ v0
  have l6 : w1.heap.size < w5.heap.size := World.block_lt_of_cell? _ _ u0
  have HB6 := HB5.trans (hb5.mono HB5.size)
  clear hb5 HB5 HB4 s0 s1 s2 s3 s4 s5 s6 s7
  go_wp2_with fail
  go_ret
  exact ⟨rfl, Below.alloc HB6 (by exact HB6.size) _⟩
end Go.Proofs.YtkmkmndcgemnlaaGreatDoor
