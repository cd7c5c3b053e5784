/- FnRootPut: the walk. Condition: the table of powers of ten and strconv's error value lie as their initialisers lay them. -/
import Derived.Test.YtkaonhjfgnibeaaGreatDoorRootGet
import Derived.Test.YtkaonhjfgnibeaaGreatDoorDrawRoots
namespace Go.Proofs.YtkaonhjfgnibeaaGreatDoor
set_option linter.unusedSimpArgs false
set_option linter.unnecessarySimpa false
open Go Go.Lib Go.RowKit
set_option linter.unusedVariables false

theorem enc1_len9 {f : Str} (h : f.length ≤ 99) : (enc1 f).length ≤ f.length + 3 := by
  unfold enc1
  have := dec_len_le 1 f.length (by omega)
  simp
  omega
theorem ptrS_49 (a b s m l : Int) : (ptrS a b s m l).length ≤ 49 := by
  cases ho : ptrOkB a b s m l
  · rw [ptrS_no ho]; simp
  cases hh : ptrHole a b s m l
  · obtain ⟨h1, h2, h3, h4, h5⟩ := ptr_bounds ho hh
    rw [ptrS_yes ho hh]
    have e1 := dec_len9 (n := a.toNat) (by omega); have e2 := dec_len9 (n := b.toNat) (by omega); have e3 := dec_len9 (n := s.toNat) (by omega); have e4 := dec_len9 (n := m.toNat) (by omega); have e5 := dec_len9 (n := l.toNat) (by omega)
    rw [join5]
    simp only [List.length_append, List.length_cons, List.length_nil]
    omega
  · rw [ptrS_hole ho hh]; simp
theorem rootS_200 {t a b s m l d y : Int} : (rootS t a b s m l d y).length ≤ 200 := by
  cases h : rootOkB t a b s m l d y
  · rw [rootS_no h]; simp
  have e := (root_rec h).1
  rw [← e]
  unfold rootL rootF treeS
  have e1 := numS_len t; have e2 := ptrS_49 a b s m l; have e3 := numS_len d; have e4 := numS_len y
  generalize hx : numS (sumL (fieldsF ([114, 111, 111, 116] :: numS t :: [ptrS a b s m l, numS d, numS y])).1 : Nat) = x
  have e5 : x.length ≤ 9 := hx ▸ numS_len _
  have k0 := enc1_len9 (f := [114, 111, 111, 116]) (by simp)
  have k1 := enc1_len9 (f := numS t) (by omega); have k2 := enc1_len9 (f := ptrS a b s m l) (by omega); have k3 := enc1_len9 (f := numS d) (by omega); have k4 := enc1_len9 (f := numS y) (by omega); have k5 := enc1_len9 (f := x) (by omega)
  simp only [List.cons_append, List.nil_append, encs_cons, encs_nil, List.length_append, List.length_nil]
  simp only [List.length_cons, List.length_nil] at k0
  omega
/-- A root's text that is cut is no root's text. -/
theorem root_torn {t a b s m l d y : Int} (h : rootOkB t a b s m l d y = true) {k : Nat} (hk : k < (rootS t a b s m l d y).length) {t' a' b' s' m' l' d' y' : Int} {ok : Bool}
    (hr : rootIs ((rootS t a b s m l d y).take k) t' a' b' s' m' l' d' y' ok) : ok = false := by
  rcases hr with ⟨rfl, h1, h2⟩ | ⟨rfl, _⟩
  · exfalso
    have r1 := root_rec h1
    have r2 := root_rec h
    have e : encs (rootL t' a' b' s' m' l' d' y') ++ (rootS t a b s m l d y).drop k = rootS t a b s m l d y := by
      rw [r1.1, h2, List.take_append_drop]
    have hd : (rootS t a b s m l d y).drop k ≠ [] := by
      intro he
      have := congrArg List.length he
      simp at this
      omega
    have := rec_more e (fun f hf => by have := rootL_le t' a' b' s' m' l' d' y' f hf; omega) hd r2
    rw [rootL_len, rootL_len] at this
    omega
  · rfl
theorem take_str (x : Str) (k : Nat) (h : k ≤ x.length) : (strB x).extract 0 k = strB (x.take k) := by
  apply ByteArray.ext
  simp [strB]
set_option maxRecDepth 100000 in
set_option maxHeartbeats 2000000 in
theorem fnRootPut_walk (A : Option Addr) (n c : Nat) (zs : List Int) (w : World) (he : Env w) (h : BytesIn w A n c zs) :
    Calls Tryz.prog 3 #[.slice A n c] w fun e w' => e = .returned (.bool true) ∧ Below w.heap.size w w' := by
  have hself : ∀ s : ByteArray, (s.toList == s.toList) = true := fun s => by simp
  go_enter Tryz.func3, Tryz.ntmps3
  by_cases hb : 1048576 < n
  · have h0 : (1048576 : Int) < (n : Int) := by omega
    go_wp2_with fail
    go_ret
    exact ⟨rfl, Below.refl _ _⟩
  have h0 : ¬ (1048576 : Int) < (n : Int) := by omega
  have h1 : (n : Int) ≤ 1048576 := by omega
  go_wp2_with fail
  refine (drawRootPut_any A n c zs _ h).mono ?_
  rintro e w1 ⟨t, a, b, s, m, l, dd, y, rfl, hb1⟩
  have HB1 : Below w.heap.size w (World.alloc w1 (.cells #[.int .i64 t, .int .i64 a, .int .i64 b, .int .i64 s, .int .i64 m, .int .i64 l, .int .i64 dd, .int .i64 y] 28)) := Below.alloc hb1 (by exact hb1.size) _
  go_wp2_with fail
  refine (rootPut_any t a b s m l dd y _ (he.below HB1).tab).mono ?_
  unfold TextR
  obtain ⟨x, hx⟩ : ∃ x, x = rootS t a b s m l dd y := ⟨_, rfl⟩
  rw [← hx]
  rintro e w2 ⟨rfl, hb2⟩
  have HX := Lib.hid hx; clear hx
  have l1 : w1.heap.size < w2.heap.size := by have := hb2.size; simp at this; omega
  have q0 : w2.cell? ⟨w1.heap.size, 0, none⟩ = some (.int .i64 t) := (hb2.cell (by simp)).trans (by simp [go_sem])
  have q1 : w2.cell? ⟨w1.heap.size, 1, none⟩ = some (.int .i64 a) := (hb2.cell (by simp)).trans (by simp [go_sem])
  have q2 : w2.cell? ⟨w1.heap.size, 2, none⟩ = some (.int .i64 b) := (hb2.cell (by simp)).trans (by simp [go_sem])
  have q3 : w2.cell? ⟨w1.heap.size, 3, none⟩ = some (.int .i64 s) := (hb2.cell (by simp)).trans (by simp [go_sem])
  have q4 : w2.cell? ⟨w1.heap.size, 4, none⟩ = some (.int .i64 m) := (hb2.cell (by simp)).trans (by simp [go_sem])
  have q5 : w2.cell? ⟨w1.heap.size, 5, none⟩ = some (.int .i64 l) := (hb2.cell (by simp)).trans (by simp [go_sem])
  have q6 : w2.cell? ⟨w1.heap.size, 6, none⟩ = some (.int .i64 dd) := (hb2.cell (by simp)).trans (by simp [go_sem])
  have q7 : w2.cell? ⟨w1.heap.size, 7, none⟩ = some (.int .i64 y) := (hb2.cell (by simp)).trans (by simp [go_sem])
  have HB2 := HB1.trans (hb2.mono HB1.size)
  clear hb2 HB1
  go_wp2_with fail
  refine (spRootPut_any t a b s m l dd y _).mono ?_
  unfold TextR
  rw [← HX.out]
  rintro e w3 ⟨rfl, hb3⟩
  have l2 : w1.heap.size < w3.heap.size := by have := hb3.size; omega
  have r0 : w3.cell? ⟨w1.heap.size, 0, none⟩ = some (.int .i64 t) := (hb3.cell l1).trans q0
  have r1 : w3.cell? ⟨w1.heap.size, 1, none⟩ = some (.int .i64 a) := (hb3.cell l1).trans q1
  have r2 : w3.cell? ⟨w1.heap.size, 2, none⟩ = some (.int .i64 b) := (hb3.cell l1).trans q2
  have r3 : w3.cell? ⟨w1.heap.size, 3, none⟩ = some (.int .i64 s) := (hb3.cell l1).trans q3
  have r4 : w3.cell? ⟨w1.heap.size, 4, none⟩ = some (.int .i64 m) := (hb3.cell l1).trans q4
  have r5 : w3.cell? ⟨w1.heap.size, 5, none⟩ = some (.int .i64 l) := (hb3.cell l1).trans q5
  have r6 : w3.cell? ⟨w1.heap.size, 6, none⟩ = some (.int .i64 dd) := (hb3.cell l1).trans q6
  have r7 : w3.cell? ⟨w1.heap.size, 7, none⟩ = some (.int .i64 y) := (hb3.cell l1).trans q7
  have HB3 := HB2.trans (hb3.mono HB2.size)
  clear hb3 HB2 l1
  clear q0 q1 q2 q3 q4 q5 q6 q7
  by_cases hx0 : x = []
  · subst hx0
    have hemp : (strB []).toList.isEmpty = true := by rw [strB_list]; rfl
    go_wp2_with fail
    go_ret
    exact ⟨rfl, HB3⟩
  have hxe : (strB x).toList = x := strB_list x
  have e0 : (strB x).toList.isEmpty = false := by rw [strB_list]; simpa using hx0
  have hok : rootOkB t a b s m l dd y = true := by
    cases ho : rootOkB t a b s m l dd y
    · exact absurd (HX.out.trans (rootS_no ho)) hx0
    · rfl
  have HOK := Lib.hid hok; clear hok
  have hlen : Hid (x.length ≤ 200) := Lib.hid (by rw [HX.out]; exact rootS_200)
  have hpos : Hid (0 < x.length) := Lib.hid (List.length_pos_iff.2 hx0)
  have hsz : Hid ((strB x).size = x.length) := Lib.hid rfl
  clear hx0 hxe
  go_wp2_with fail
  refine (rootGet_any x _ (he.below HB3) (by have := hlen.out; omega)).mono ?_
  rintro e w4 ⟨t', a', b', s', m', l', dd', y', ok', rfl, R1, hb4⟩
  have R2 : rootIs x t a b s m l dd y true := .inl ⟨rfl, HOK.out, HX.out.symm⟩
  obtain ⟨rfl, rfl, rfl, rfl, rfl, rfl, rfl, rfl, rfl⟩ := rootIs_one R2 R1
  clear R1 R2
  have l3 : w1.heap.size < w4.heap.size := by have := hb4.size; omega
  have s0 : w4.cell? ⟨w1.heap.size, 0, none⟩ = some (.int .i64 t) := (hb4.cell l2).trans r0
  have s1 : w4.cell? ⟨w1.heap.size, 1, none⟩ = some (.int .i64 a) := (hb4.cell l2).trans r1
  have s2 : w4.cell? ⟨w1.heap.size, 2, none⟩ = some (.int .i64 b) := (hb4.cell l2).trans r2
  have s3 : w4.cell? ⟨w1.heap.size, 3, none⟩ = some (.int .i64 s) := (hb4.cell l2).trans r3
  have s4 : w4.cell? ⟨w1.heap.size, 4, none⟩ = some (.int .i64 m) := (hb4.cell l2).trans r4
  have s5 : w4.cell? ⟨w1.heap.size, 5, none⟩ = some (.int .i64 l) := (hb4.cell l2).trans r5
  have s6 : w4.cell? ⟨w1.heap.size, 6, none⟩ = some (.int .i64 dd) := (hb4.cell l2).trans r6
  have s7 : w4.cell? ⟨w1.heap.size, 7, none⟩ = some (.int .i64 y) := (hb4.cell l2).trans r7
  have HB4 := HB3.trans (hb4.mono HB3.size)
  clear hb4 HB3 l2 r0 r1 r2 r3 r4 r5 r6 r7
  obtain ⟨k, hk⟩ : ∃ k : Nat, k = n % x.length := ⟨_, rfl⟩
  have hkl : k < x.length := by rw [hk]; exact Nat.mod_lt _ hpos.out
  have hrem : (n : Int) % ((strB x).size : Int) = (k : Int) := by rw [hsz.out, hk]; rfl
  have hrem2 : (n : Int).tmod ((strB x).size : Int) = (k : Int) := by rw [Int.tmod_eq_emod_of_nonneg (by omega)]; exact hrem
  have hz : ¬ ((strB x).size : Int) = 0 := by rw [hsz.out]; omega
  have hz' : (((strB x).size : Int) == 0) = false := by simpa using hz
  have hk0 : (0 : Int) ≤ (k : Int) := by omega
  have hk1 : (k : Int) ≤ ((strB x).size : Int) := by rw [hsz.out]; omega
  have htk := take_str x k (by omega)
  have h200 : ((strB x).size : Int) ≤ 200 := by rw [hsz.out]; have := hlen.out; omega
  have HKL := Lib.hid hkl; clear hkl hk
  have HB5 : Below w.heap.size w (World.alloc w4 (.cells #[.int .i64 t, .int .i64 a, .int .i64 b, .int .i64 s, .int .i64 m, .int .i64 l, .int .i64 dd, .int .i64 y] 28)) := Below.alloc HB4 (by exact HB4.size) _
  go_wp2_with fail
  refine (rootGet_any (x.take k) _ (he.below HB5) (by have := hlen.out; simp; omega)).mono ?_
  rintro e w5 ⟨tt5, aa5, bb5, ss5, mm5, ll5, dd5, yy5, ok5, rfl, R5, hb5⟩
  have hok5 := root_torn HOK.out (k := k) (by rw [← HX.out]; exact HKL.out) (by rw [← HX.out]; exact R5)
  subst hok5
  clear R5
  have u0 : w5.cell? ⟨w1.heap.size, 0, none⟩ = some (.int .i64 t) := (hb5.cell (by simp; omega)).trans (((bel1 (w := w4)).cell l3).trans s0)
  have u1 : w5.cell? ⟨w1.heap.size, 1, none⟩ = some (.int .i64 a) := (hb5.cell (by simp; omega)).trans (((bel1 (w := w4)).cell l3).trans s1)
  have u2 : w5.cell? ⟨w1.heap.size, 2, none⟩ = some (.int .i64 b) := (hb5.cell (by simp; omega)).trans (((bel1 (w := w4)).cell l3).trans s2)
  have u3 : w5.cell? ⟨w1.heap.size, 3, none⟩ = some (.int .i64 s) := (hb5.cell (by simp; omega)).trans (((bel1 (w := w4)).cell l3).trans s3)
  have u4 : w5.cell? ⟨w1.heap.size, 4, none⟩ = some (.int .i64 m) := (hb5.cell (by simp; omega)).trans (((bel1 (w := w4)).cell l3).trans s4)
  have u5 : w5.cell? ⟨w1.heap.size, 5, none⟩ = some (.int .i64 l) := (hb5.cell (by simp; omega)).trans (((bel1 (w := w4)).cell l3).trans s5)
  have u6 : w5.cell? ⟨w1.heap.size, 6, none⟩ = some (.int .i64 dd) := (hb5.cell (by simp; omega)).trans (((bel1 (w := w4)).cell l3).trans s6)
  have u7 : w5.cell? ⟨w1.heap.size, 7, none⟩ = some (.int .i64 y) := (hb5.cell (by simp; omega)).trans (((bel1 (w := w4)).cell l3).trans s7)
  have v0 : w5.cell? ⟨w4.heap.size, 0, none⟩ = some (.int .i64 t) := (hb5.cell (by simp)).trans (by simp [go_sem])
  have v1 : w5.cell? ⟨w4.heap.size, 1, none⟩ = some (.int .i64 a) := (hb5.cell (by simp)).trans (by simp [go_sem])
  have v2 : w5.cell? ⟨w4.heap.size, 2, none⟩ = some (.int .i64 b) := (hb5.cell (by simp)).trans (by simp [go_sem])
  have v3 : w5.cell? ⟨w4.heap.size, 3, none⟩ = some (.int .i64 s) := (hb5.cell (by simp)).trans (by simp [go_sem])
  have v4 : w5.cell? ⟨w4.heap.size, 4, none⟩ = some (.int .i64 m) := (hb5.cell (by simp)).trans (by simp [go_sem])
  have v5 : w5.cell? ⟨w4.heap.size, 5, none⟩ = some (.int .i64 l) := (hb5.cell (by simp)).trans (by simp [go_sem])
  have v6 : w5.cell? ⟨w4.heap.size, 6, none⟩ = some (.int .i64 dd) := (hb5.cell (by simp)).trans (by simp [go_sem])
  have v7 : w5.cell? ⟨w4.heap.size, 7, none⟩ = some (.int .i64 y) := (hb5.cell (by simp)).trans (by simp [go_sem])
  have l5 : w4.heap.size < w5.heap.size := World.block_lt_of_cell? _ _ v0
  have l6 : w1.heap.size < w5.heap.size := World.block_lt_of_cell? _ _ u0
  have HB6 := HB5.trans (hb5.mono HB5.size)
  clear hb5 HB5 HB4 s0 s1 s2 s3 s4 s5 s6 s7
  go_wp2_with fail
  go_ret
  exact ⟨rfl, Below.alloc HB6 (by exact HB6.size) _⟩
end Go.Proofs.YtkaonhjfgnibeaaGreatDoor
