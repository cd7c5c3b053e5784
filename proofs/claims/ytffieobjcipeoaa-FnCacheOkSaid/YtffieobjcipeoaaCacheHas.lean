/- CacheHas, the program's and the reference's. Condition: the cache's lists have fewer than 2^30 members together. -/
import Derived.Test.YtffieobjcipeoaaCacheOk
namespace Go.Proofs.Ytffieobjcipeoaa
set_option linter.unusedVariables false
set_option linter.unusedSimpArgs false
set_option linter.unnecessarySimpa false
open Go.RowKit

def cacheHasB (x : CacheD) (row : Int) : Bool := cacheOkB x && (hasI x.2.2.1 row || hasI x.2.2.2.1 row)
set_option maxRecDepth 100000 in
set_option maxHeartbeats 2000000 in
theorem cacheHas_any (cs : List Value) (x : CacheD) (row : Int) (w : World) (lo hi : Nat) (h : CacheR w lo hi cs x) (hsz : sizeCache x ≤ 1073741824) :
    Calls Try.prog 26 #[.agg cs.toArray, .int .i64 row] w fun e w' => e = .returned (.bool (cacheHasB x row)) ∧ Below w.heap.size w w' := by
  have R0 := cacheOk_any cs x (w.alloc (.cells cs.toArray 57)) lo hi (CacheR.below bel1 (by obtain ⟨A0, n0, c0, A1, n1, c1, A2, n2, c2, A3, n3, c3, rfl, h0, h1, h2, h3⟩ := h; exact h0.lo_le) _ _ h) hsz
  obtain ⟨ro, go, x0, x1, x2, x3⟩ := x
  obtain ⟨A0, n0, c0, A1, n1, c1, A2, n2, c2, A3, n3, c3, rfl, h0, h1, h2, h3⟩ := h
  have HB : Hid (cacheHasB (ro, go, x0, x1, x2, x3) row = (cacheOkB (ro, go, x0, x1, x2, x3) && (hasI x0 row || hasI x1 row))) := Lib.hid rfl
  generalize cacheHasB (ro, go, x0, x1, x2, x3) row = res at *
  generalize cacheOkB (ro, go, x0, x1, x2, x3) = ok at *
  show Calls Try.prog 26 #[.agg #[.int .i64 ro, .int .i64 go, .slice A0 n0 c0, .slice A1 n1 c1, .slice A2 n2 c2, .slice A3 n3 c3], .int .i64 row] w _
  have hi0 := h0.ints; have hi1 := h1.ints
  have HI0 := Lib.hid hi0; have HI1 := Lib.hid hi1
  have HR0 := Lib.hid R0
  clear h0 h1 h2 h3 hi0 hi1 hsz R0
  go_enter Try.func26, Try.ntmps26
  go_wp2_with fail
  refine HR0.out.mono ?_
  rintro e w1 ⟨rfl, hb1⟩
  have X1 : Below w.heap.size w w1 := bel1.trans (hb1.mono (by simp))
  have c1_0 : w1.cell? ⟨w.heap.size, 0, none⟩ = some (.int .i64 ro) := (hb1.cell (by simp)).trans (by simp [go_sem])
  have c1_1 : w1.cell? ⟨w.heap.size, 1, none⟩ = some (.int .i64 go) := (hb1.cell (by simp)).trans (by simp [go_sem])
  have c1_2 : w1.cell? ⟨w.heap.size, 2, none⟩ = some (.slice A0 n0 c0) := (hb1.cell (by simp)).trans (by simp [go_sem])
  have c1_3 : w1.cell? ⟨w.heap.size, 3, none⟩ = some (.slice A1 n1 c1) := (hb1.cell (by simp)).trans (by simp [go_sem])
  have c1_4 : w1.cell? ⟨w.heap.size, 4, none⟩ = some (.slice A2 n2 c2) := (hb1.cell (by simp)).trans (by simp [go_sem])
  have c1_5 : w1.cell? ⟨w.heap.size, 5, none⟩ = some (.slice A3 n3 c3) := (hb1.cell (by simp)).trans (by simp [go_sem])
  have l1 : w.heap.size < w1.heap.size := World.block_lt_of_cell? _ _ c1_0
  clear hb1 HR0
  cases ok
  · have hf : res = false := by rw [HB.out]; rfl
    have HF := Lib.hid hf; clear hf
    go_wp2_with fail
    go_ret
    exact ⟨ret_bool HF.out.symm, X1⟩
  have R1 := contains_any A0 n0 c0 x0 row w1 (HI0.out.below X1)
  cases a1 : hasI x0 row
  rotate_left
  · have hf : res = true := by rw [HB.out, a1]; rfl
    have HF := Lib.hid hf; clear hf
    rw [a1] at R1
    have HR1 := Lib.hid R1; clear a1 R1
    go_wp2_with fail
    refine HR1.out.mono ?_
    rintro e w' ⟨rfl, rfl⟩
    go_wp2_with fail
    go_ret
    exact ⟨ret_bool HF.out.symm, X1⟩
  have HA1 := Lib.hid a1
  rw [a1] at R1
  have HR1 := Lib.hid R1; clear a1 R1
  have HR2 := Lib.hid (contains_any A1 n1 c1 x1 row w1 (HI1.out.below X1))
  go_wp2_with fail
  refine HR1.out.mono ?_
  rintro e w' ⟨rfl, rfl⟩
  go_wp2_with fail
  refine HR2.out.mono ?_
  rintro e w' ⟨rfl, rfl⟩
  have hf : res = hasI x1 row := by rw [HB.out, HA1.out]; simp
  have HF := Lib.hid hf; clear hf
  go_wp2_with fail
  go_ret
  exact ⟨ret_bool HF.out.symm, X1⟩

set_option maxRecDepth 100000 in
set_option maxHeartbeats 2000000 in
theorem spCacheHas_any (cs : List Value) (x : CacheD) (row : Int) (w : World) (lo hi : Nat) (h : CacheR w lo hi cs x) (hsz : sizeCache x ≤ 1073741824) :
    Calls Try.prog 27 #[.agg cs.toArray, .int .i64 row] w fun e w' => e = .returned (.bool (cacheHasB x row)) ∧ Below w.heap.size w w' := by
  have R0 := spCacheOk_any cs x (w.alloc (.cells cs.toArray 57)) lo hi (CacheR.below bel1 (by obtain ⟨A0, n0, c0, A1, n1, c1, A2, n2, c2, A3, n3, c3, rfl, h0, h1, h2, h3⟩ := h; exact h0.lo_le) _ _ h) hsz
  obtain ⟨ro, go, x0, x1, x2, x3⟩ := x
  obtain ⟨A0, n0, c0, A1, n1, c1, A2, n2, c2, A3, n3, c3, rfl, h0, h1, h2, h3⟩ := h
  have HB : Hid (cacheHasB (ro, go, x0, x1, x2, x3) row = (cacheOkB (ro, go, x0, x1, x2, x3) && (hasI x0 row || hasI x1 row))) := Lib.hid rfl
  generalize cacheHasB (ro, go, x0, x1, x2, x3) row = res at *
  generalize cacheOkB (ro, go, x0, x1, x2, x3) = ok at *
  show Calls Try.prog 27 #[.agg #[.int .i64 ro, .int .i64 go, .slice A0 n0 c0, .slice A1 n1 c1, .slice A2 n2 c2, .slice A3 n3 c3], .int .i64 row] w _
  have hi0 := h0.ints; have hi1 := h1.ints
  have HI0 := Lib.hid hi0; have HI1 := Lib.hid hi1
  have HR0 := Lib.hid R0
  clear h0 h1 h2 h3 hi0 hi1 hsz R0
  go_enter Try.func27, Try.ntmps27
  go_wp2_with fail
  refine HR0.out.mono ?_
  rintro e w1 ⟨rfl, hb1⟩
  have X1 : Below w.heap.size w w1 := bel1.trans (hb1.mono (by simp))
  have c1_0 : w1.cell? ⟨w.heap.size, 0, none⟩ = some (.int .i64 ro) := (hb1.cell (by simp)).trans (by simp [go_sem])
  have c1_1 : w1.cell? ⟨w.heap.size, 1, none⟩ = some (.int .i64 go) := (hb1.cell (by simp)).trans (by simp [go_sem])
  have c1_2 : w1.cell? ⟨w.heap.size, 2, none⟩ = some (.slice A0 n0 c0) := (hb1.cell (by simp)).trans (by simp [go_sem])
  have c1_3 : w1.cell? ⟨w.heap.size, 3, none⟩ = some (.slice A1 n1 c1) := (hb1.cell (by simp)).trans (by simp [go_sem])
  have c1_4 : w1.cell? ⟨w.heap.size, 4, none⟩ = some (.slice A2 n2 c2) := (hb1.cell (by simp)).trans (by simp [go_sem])
  have c1_5 : w1.cell? ⟨w.heap.size, 5, none⟩ = some (.slice A3 n3 c3) := (hb1.cell (by simp)).trans (by simp [go_sem])
  have l1 : w.heap.size < w1.heap.size := World.block_lt_of_cell? _ _ c1_0
  clear hb1 HR0
  cases ok
  · have hf : res = false := by rw [HB.out]; rfl
    have HF := Lib.hid hf; clear hf
    go_wp2_with fail
    go_ret
    exact ⟨ret_bool HF.out.symm, X1⟩
  have R1 := l5In_any A0 n0 c0 x0 row w1 (HI0.out.below X1)
  cases a1 : hasI x0 row
  rotate_left
  · have hf : res = true := by rw [HB.out, a1]; rfl
    have HF := Lib.hid hf; clear hf
    rw [a1] at R1
    have HR1 := Lib.hid R1; clear a1 R1
    go_wp2_with fail
    refine HR1.out.mono ?_
    rintro e w2 ⟨rfl, hq2⟩
    have X2 : Below w.heap.size w w2 := X1.trans (hq2.below _)
    clear hq2
    go_wp2_with fail
    go_ret
    exact ⟨ret_bool HF.out.symm, X2⟩
  have HA1 := Lib.hid a1
  rw [a1] at R1
  have HR1 := Lib.hid R1; clear a1 R1
  go_wp2_with fail
  refine HR1.out.mono ?_
  rintro e w2 ⟨rfl, hq2⟩
  have hb2 : Below w1.heap.size w1 w2 := hq2.below _
  have X2 : Below w.heap.size w w2 := X1.trans (hb2.mono X1.size)
  have c2_3 := (hb2.cell l1).trans c1_3
  have HR2 := Lib.hid (l5In_any A1 n1 c1 x1 row w2 (HI1.out.below X2))
  clear hq2 hb2
  go_wp2_with fail
  refine HR2.out.mono ?_
  rintro e w3 ⟨rfl, hq3⟩
  have X3 : Below w.heap.size w w3 := X2.trans (hq3.below _)
  have hf : res = hasI x1 row := by rw [HB.out, HA1.out]; simp
  have HF := Lib.hid hf; clear hf hq3
  go_wp2_with fail
  go_ret
  exact ⟨ret_bool HF.out.symm, X3⟩

end Go.Proofs.Ytffieobjcipeoaa
