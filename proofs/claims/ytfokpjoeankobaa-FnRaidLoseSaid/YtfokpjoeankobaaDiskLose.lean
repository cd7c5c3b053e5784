/- DiskLose both, DiskRead of a lost disk, pfDisk at equal disks without waits. No condition. -/
import Derived.Test.YtfokpjoeankobaaDiskWrite
import Derived.Test.YtfokpjoeankobaaFamDTo
import Derived.Test.YtfokpjoeankobaaFamREq
namespace Go.Proofs.Ytfokpjoeankobaa
set_option linter.unusedVariables false
set_option linter.unusedSimpArgs false
set_option linter.unnecessarySimpa false
open Go.RowKit

def loseD : DiskD := (List.replicate 64 ByteArray.empty, [], true)
theorem made_get {v : Value} {n j : Nat} (hj : j < n) : (madeCells #[v] n)[j]? = some v := by
  unfold madeCells
  simp [hj, Nat.mod_one]
theorem SliceR.made {w : World} {lo hi g t : Nat} (hg : w.heap[g]? = some (.cells (madeCells #[.string ByteArray.empty] 64) t (0, 0))) (h1 : lo ≤ g) (h2 : g < hi) (h3 : hi ≤ w.heap.size) :
    SliceR StrR 1 w lo hi (some ⟨g, 0, none⟩) 64 64 (List.replicate 64 ByteArray.empty) := by
  refine ⟨by simp, Nat.le_refl _, by unfold maxLen; omega, h3, (fun h => by cases h), fun _ => ⟨g, 0, rfl, h1, h2, fun j x hx => ?_⟩⟩
  rw [List.getElem?_replicate] at hx
  split at hx
  · rename_i hj
    obtain rfl := (Option.some.inj hx).symm
    refine ⟨[.string ByteArray.empty], rfl, fun i u hu => ?_, rfl, by unfold maxLen; decide⟩
    match i, hu with
    | 0, hu =>
      simp at hu; subst hu
      rw [Nat.zero_add, Nat.mul_one, Nat.add_zero, cell_of_row _ _ _ _ _ (0, 0) hg, made_get hj]
    | i + 1, hu => simp at hu
  · cases hx
theorem loseN {w : World} {lo hi g : Nat} {B : Option Addr} (hB : ∃ b, B = b) (hg : w.heap[g]? = some (.cells (madeCells #[.string ByteArray.empty] 64) 9 (0, 0))) (h1 : lo ≤ g) (h2 : g < hi) (h3 : hi ≤ w.heap.size) :
    DiskN w lo hi [.slice (some ⟨g, 0, none⟩) 64 64, .slice B 0 0, .bool true] loseD :=
  ⟨_, _, _, _, _, _, rfl, SliceR.made hg h1 h2 h3, .inr ⟨g, _, rfl, h1, h2, hg, by rw [size_madeCells], Nat.le_refl _, by unfold maxLen; omega⟩, ⟨rfl, Nat.le_refl _, Nat.zero_le _, h3, fun _ => rfl, fun h => absurd h (Nat.lt_irrefl _)⟩, .inl ⟨rfl, rfl⟩⟩
set_option maxRecDepth 100000 in
set_option maxHeartbeats 2000000 in
theorem diskLose_any (w : World) : Calls Try.prog 27 #[] w (NewR DiskN w loseD) := by
  have hmk : (Instr.makeSlice 42 (.int .i64 64) (.int .i64 64)).run Try.prog (w.alloc (.cells #[.slice none 0 0, .slice none 0 0, .bool false] 45)) = _ := make_StringS 64 (by omega) _
  go_enter Try.func27, Try.ntmps27
  go_wp2_with fail
  refine bodyPost_ret (v := .agg #[.slice (some ⟨w.heap.size + 1, 0, none⟩) 64 64, .slice none 0 0, .bool true]) (by simp [results, Try.results27, go_sem, *]) rfl ⟨_, rfl, loseN ⟨_, rfl⟩ ?_ (by omega) (by simp [World.setCell]) (Nat.le_refl _), ?_⟩
  · have := heap_alloc_new (w.alloc (.cells #[.slice (some ⟨w.heap.size + 1, 0, none⟩) 64 64, .slice none 0 0, .bool true] 45)) (.cells (madeCells #[.string ByteArray.empty] 64) 9)
    simpa using this
  · repeat (first | exact Below.refl _ _ | refine Below.setCell ?_ (by exact Nat.le_refl _) _ | refine Below.alloc ?_ (by first | exact Nat.le_refl _ | (simp [World.setCell] <;> omega)) _)
def newD : DiskD := (List.replicate 64 ByteArray.empty, [], false)
theorem newN {w : World} {lo hi g : Nat} {B : Option Addr} (hg : w.heap[g]? = some (.cells (madeCells #[.string ByteArray.empty] 64) 9 (0, 0))) (h1 : lo ≤ g) (h2 : g < hi) (h3 : hi ≤ w.heap.size) :
    DiskN w lo hi [.slice (some ⟨g, 0, none⟩) 64 64, .slice B 0 0, .bool false] newD :=
  ⟨_, _, _, _, _, _, rfl, SliceR.made hg h1 h2 h3, .inr ⟨g, _, rfl, h1, h2, hg, by rw [size_madeCells], Nat.le_refl _, by unfold maxLen; omega⟩, ⟨rfl, Nat.le_refl _, Nat.zero_le _, h3, fun _ => rfl, fun h => absurd h (Nat.lt_irrefl _)⟩, .inl ⟨rfl, rfl⟩⟩
set_option maxRecDepth 100000 in
set_option maxHeartbeats 2000000 in
theorem spDiskNew_any (w : World) : Calls Try.prog 55 #[] w (NewR DiskN w newD) := by
  have hmk : ∀ w : World, (Instr.makeSlice 42 (.int .i64 64) (.int .i64 64)).run Try.prog w = _ := fun w => make_StringS 64 (by omega) w
  go_enter Try.func55, Try.ntmps55
  go_wp2_with fail
  refine bodyPost_ret (v := .agg #[.slice (some ⟨w.heap.size + 1, 0, none⟩) 64 64, .slice (some ⟨w.heap.size + 2, 0, none⟩) 0 0, .bool false]) (by simp [results, Try.results55, go_sem, *]) rfl ⟨_, rfl, newN ?_ (by omega) (by simp [World.setCell]) (Nat.le_refl _), ?_⟩
  · refine (Below.heap_alloc _ _ _ (by simp)).trans ?_
    have := heap_alloc_new (w.alloc (.cells #[.slice (some ⟨w.heap.size + 1, 0, none⟩) 64 64, .slice (some ⟨w.heap.size + 1 + 1, 0, none⟩) 0 0, .bool false] 45)) (.cells (madeCells #[.string ByteArray.empty] 64) 9)
    simpa using this
  · repeat (first | exact Below.refl _ _ | refine Below.setCell ?_ (by exact Nat.le_refl _) _ | refine Below.alloc ?_ (by first | exact Nat.le_refl _ | (simp [World.setCell] <;> omega)) _)
set_option maxRecDepth 100000 in
set_option maxHeartbeats 2000000 in
theorem spDiskLose_any (w : World) : Calls Try.prog 30 #[] w (NewR DiskN w loseD) := by
  go_enter Try.func30, Try.ntmps30
  go_wp2_with fail
  refine (spDiskNew_any _).mono ?_
  rintro e w1 ⟨cs, rfl, hr, hb1⟩
  obtain ⟨lo1, hlo1⟩ : ∃ x, x = (w.alloc (.cells #[.slice none 0 0, .slice none 0 0, .bool false] 45)).heap.size := ⟨_, rfl⟩
  rw [← hlo1] at hr
  have hlo1 : lo1 = w.heap.size + 1 := by rw [hlo1]; simp
  obtain ⟨A0, n0, c0, A1, n1, c1, rfl, h0, k0, h1, k1⟩ := hr
  have H0 := Lib.hid h0; have K0 := Lib.hid k0; have H1 := Lib.hid h1; have K1 := Lib.hid k1; clear h0 k0 h1 k1
  have z1 : w.heap.size + 1 ≤ w1.heap.size := by have := hb1.size; simpa using this
  have X1 : Below w.heap.size w w1 := bel1.trans (hb1.mono (by simp))
  have hq : w1.heap[w.heap.size]? = some (.cells #[.slice none 0 0, .slice none 0 0, .bool false] 45 (0, 0)) := (hb1.block _ (by simp)).trans (heap_alloc_new _ _)
  have a0 : w1.cell? ⟨w.heap.size, 0, none⟩ = some (.slice none 0 0) := cell_of_row _ _ 0 _ _ (0, 0) hq
  have a1 : w1.cell? ⟨w.heap.size, 1, none⟩ = some (.slice none 0 0) := cell_of_row _ _ 1 _ _ (0, 0) hq
  have a2 : w1.cell? ⟨w.heap.size, 2, none⟩ = some (.bool false) := cell_of_row _ _ 2 _ _ (0, 0) hq
  have f0 : w1.frozen? ⟨w.heap.size, 0, none⟩ = false := block_free hq _
  have f1 : w1.frozen? ⟨w.heap.size, 1, none⟩ = false := block_free hq _
  have f2 : w1.frozen? ⟨w.heap.size, 2, none⟩ = false := block_free hq _
  have l0 : w.heap.size < w1.heap.size := by omega
  clear hb1
  go_wp2_with fail
  have hfin : ∀ F : World, Same lo1 w1.heap.size w1 F → w1.heap.size ≤ F.heap.size → DiskN F w.heap.size F.heap.size [.slice A0 n0 c0, .slice A1 n1 c1, .bool true] loseD := fun F h1 h2 =>
    DiskN.wide (by omega) h2 (Nat.le_refl _) _ _ (DiskN.keep h1 h2 _ _ ⟨_, _, _, _, _, _, rfl, H0.out, K0.out, H1.out, K1.out⟩)
  exact bodyPost_ret (v := .agg #[.slice A0 n0 c0, .slice A1 n1 c1, .bool true]) (by simp [results, Try.results30, go_sem, *]) rfl ⟨_, rfl, hfin _ (by repeat (first | exact Same.refl _ _ _ | refine Same.setCell ?_ (by first | exact .inl (by simp <;> omega) | exact .inr (by simp <;> omega)) _ | refine Same.alloc ?_ _ (by simp [World.setCell] <;> omega))) (by simp [World.setCell]), by repeat (first | exact X1 | refine Below.setCell ?_ (by simp <;> omega) _ | refine Below.alloc ?_ (by simp <;> omega) _)⟩
set_option maxRecDepth 100000 in
set_option maxHeartbeats 2000000 in
theorem pfDisk_bare (cs cs' : List Value) (x : DiskD) (w : World) (lo hi lo' hi' : Nat) (h : DiskR w lo hi cs x) (h' : DiskR w lo' hi' cs' x) (hx : x.2.1 = []) :
    Calls Try.prog 14 #[.agg cs.toArray, .agg cs'.toArray] w fun e w' => e = .returned (.bool true) ∧ Below w.heap.size w w' := by
  obtain ⟨x0, x1, gone⟩ := x
  obtain rfl : x1 = [] := hx
  obtain ⟨A0, n0, c0, A1, n1, c1, rfl, h0, h1⟩ := h
  obtain ⟨B0, m0, d0, B1, m1, d1, rfl, g0, g1⟩ := h'
  obtain rfl : 0 = n1 := h1.len
  obtain rfl : 0 = m1 := g1.len
  have H0 := Lib.hid h0; have G0 := Lib.hid g0; have HLE := Lib.hid h0.lo_le; have GLE := Lib.hid g0.lo_le
  show Calls Try.prog 14 #[.agg #[.slice A0 n0 c0, .slice A1 0 c1, .bool gone], .agg #[.slice B0 m0 d0, .slice B1 0 d1, .bool gone]] w _
  clear h0 h1 g0 g1
  go_enter Try.func14, Try.ntmps14
  go_wp2_with fail
  refine (pfTexts_yes _ _ _ _ _ _ x0 _ lo hi lo' hi' (H0.out.below bel2 (StrR.below bel2 HLE.out)) (G0.out.below bel2 (StrR.below bel2 GLE.out))).mono ?_
  rintro e w1 ⟨rfl, hb1⟩
  have a1 : w1.cell? ⟨w.heap.size, 1, none⟩ = some (.slice A1 0 c1) := (hb1.cell (by simp <;> omega)).trans (by simp [go_sem])
  have a2 : w1.cell? ⟨w.heap.size, 2, none⟩ = some (.bool gone) := (hb1.cell (by simp <;> omega)).trans (by simp [go_sem])
  have b1 : w1.cell? ⟨w.heap.size + 1, 1, none⟩ = some (.slice B1 0 d1) := (hb1.cell (by simp <;> omega)).trans (by simp [go_sem])
  have b2 : w1.cell? ⟨w.heap.size + 1, 2, none⟩ = some (.bool gone) := (hb1.cell (by simp <;> omega)).trans (by simp [go_sem])
  have X1 : Below w.heap.size w w1 := bel2.trans (hb1.mono (by simp <;> omega))
  have hgg : (gone != gone) = false := by simp
  clear hb1
  go_wp2_with fail
  go_loop [5] (fun i => i = .int .i64 0) (fun _ => 0)
  case atStart => rfl
  case round =>
    obtain rfl := hrel
    go_wp2_with fail
    go_ret
    exact ⟨rfl, X1⟩
end Go.Proofs.Ytfokpjoeankobaa
