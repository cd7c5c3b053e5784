/- DiskSpoil, the program's and the reference's. Condition: fewer than 2^40 members a slice. -/
import Derived.Test.YtgipchipcoaajaaDiskOk
import Derived.Test.YtgipchipcoaajaaDiskCopy
namespace Go.Proofs.Ytgipchipcoaajaa
set_option linter.unusedVariables false
set_option linter.unusedSimpArgs false
set_option linter.unnecessarySimpa false
open Go.RowKit

def spoilOk (d : DiskD) (at_ : Int) (s : ByteArray) : Bool := diskOk d && !d.2.2 && inB at_ 0 63 && decide (s.size ≤ 200)
def spoilD (d : DiskD) (at_ : Int) (s : ByteArray) : DiskD := if spoilOk d at_ s = true then (d.1.set at_.toNat s, d.2.1, d.2.2) else ([], [], false)
/-- A new struct and a truth. -/
def NewR2 {α : Type} (R : Reads α) (w : World) (x : α) (b : Bool) (e : Ending) (w' : World) : Prop :=
  ∃ cs, e = .returned (.tuple #[.agg (List.toArray cs), .bool b]) ∧ R w' w.heap.size w'.heap.size cs x ∧ Below w.heap.size w w'
theorem noDisk {w : World} {lo hi : Nat} (h : hi ≤ w.heap.size) : DiskN w lo hi [.slice none 0 0, .slice none 0 0, .bool false] ([], [], false) :=
  ⟨none, 0, 0, none, 0, 0, rfl, ⟨rfl, Nat.le_refl _, Nat.zero_le _, h, fun _ => rfl, fun h => absurd h (Nat.lt_irrefl _)⟩, .inl ⟨rfl, rfl⟩, ⟨rfl, Nat.le_refl _, Nat.zero_le _, h, fun _ => rfl, fun h => absurd h (Nat.lt_irrefl _)⟩, .inl ⟨rfl, rfl⟩⟩
theorem inB_nat {x : Int} {m : Nat} (h : inB x 0 m = true) : ∃ a : Nat, x = (a : Int) ∧ a ≤ m := by
  have hx : 0 ≤ x ∧ x ≤ (m : Int) := by unfold inB at h; simpa using h
  exact ⟨x.toNat, by omega, by omega⟩
theorem diskOk_len {d : DiskD} (h : diskOk d = true) : d.1.length = 64 ∧ d.2.1.length ≤ 120 := by
  unfold diskOk at h
  simp only [Bool.and_eq_true, decide_eq_true_eq] at h
  exact ⟨h.1.1.1.1, h.1.1.1.2⟩
/-- A store into an array that lies whole. -/
theorem SliceR.set1 {α : Type} {R : Reads α} {w : World} {lo hi g t n c a : Nat} {xs : List α} {y : α} {v : Value} {cur : Array Value} (h : SliceR R 1 w lo hi (some ⟨g, 0, none⟩) n c xs) (hg : w.heap[g]? = some (.cells cur t (0, 0))) (ha : a < n) (hc : cur.size = c)
    (hflat : ∀ cs x, R w lo hi cs x → R (w.setCell ⟨g, a, none⟩ v) lo hi cs x) (hv : R (w.setCell ⟨g, a, none⟩ v) lo hi [v] y) : SliceR R 1 (w.setCell ⟨g, a, none⟩ v) lo hi (some ⟨g, 0, none⟩) n c (xs.set a y) := by
  have hnc := h.2.1
  obtain ⟨b, off, hA, h1, h2, _, hcc⟩ := h.at_ (by omega)
  injection hA with e; injection e with e1 e2; subst e1 e2
  refine ⟨by simpa using h.len, h.2.1, h.2.2.1, by simpa [World.setCell] using h.lo_le, (fun h => by cases h), fun _ => ⟨g, 0, rfl, h1, h2, fun j x hx => ?_⟩⟩
  rw [List.getElem?_set] at hx
  by_cases hj : a = j
  · subst hj
    rw [if_pos rfl, if_pos (by have := h.len; omega)] at hx
    obtain rfl := Option.some.inj hx
    refine ⟨[v], rfl, fun i u hu => ?_, hv⟩
    match i, hu with
    | 0, hu =>
      simp at hu; subst hu
      rw [Nat.zero_add, Nat.mul_one, Nat.add_zero, cell_of_row _ _ _ _ _ (0, 0) (block_set hg), Array.getElem?_setIfInBounds, if_pos rfl, if_pos (by omega)]
    | i + 1, hu => simp at hu
  · rw [if_neg hj] at hx
    obtain ⟨cs, hl, hcs, hr⟩ := hcc j x hx
    refine ⟨cs, hl, fun i u hu => ?_, hflat _ _ hr⟩
    have hi0 : i = 0 := by have := (List.getElem?_eq_some_iff.1 hu).1; omega
    subst hi0
    have := hcs 0 u hu
    rw [Nat.zero_add, Nat.mul_one, Nat.add_zero] at this ⊢
    rw [cell_of_row _ _ _ _ _ (0, 0) (block_set hg), Array.getElem?_setIfInBounds, if_neg hj, ← cell_of_row _ _ _ _ _ (0, 0) hg, this]
set_option maxRecDepth 100000 in
set_option maxHeartbeats 4000000 in
theorem diskSpoil_any (cs : List Value) (x : DiskD) (at_ : Int) (s : ByteArray) (w : World) (lo hi : Nat) (h : DiskR w lo hi cs x) (hs : s.size ≤ maxLen) :
    Calls Try.prog 22 #[.agg cs.toArray, .int .i64 at_, .string s] w (NewR2 DiskN w (spoilD x at_ s) (spoilOk x at_ s)) := by
  unfold maxLen at hs
  have H := Lib.hid h
  obtain ⟨x0, x1, gone⟩ := x
  obtain ⟨A0, n0, c0, A1, n1, c1, rfl, h0, h1⟩ := h
  have HLE := Lib.hid h0.lo_le
  show Calls Try.prog 22 #[.agg #[.slice A0 n0 c0, .slice A1 n1 c1, .bool gone], .int .i64 at_, .string s] w _
  obtain ⟨ok, hok⟩ : ∃ ok, ok = diskOk (x0, x1, gone) := ⟨_, rfl⟩
  have HOK := Lib.hid hok; clear hok
  have HNO : Hid (spoilOk (x0, x1, gone) at_ s = false → spoilD (x0, x1, gone) at_ s = ([], [], false)) := Lib.hid (fun h => by unfold spoilD; rw [h]; rfl)
  have HSO : Hid (spoilOk (x0, x1, gone) at_ s = (ok && !gone && inB at_ 0 63 && decide (s.size ≤ 200))) := Lib.hid (by rw [HOK.out]; rfl)
  have HYES : Hid (spoilOk (x0, x1, gone) at_ s = true → spoilD (x0, x1, gone) at_ s = (x0.set at_.toNat s, x1, gone)) := Lib.hid (fun h => by unfold spoilD; rw [h]; rfl)
  generalize spoilD (x0, x1, gone) at_ s = sd at *
  generalize spoilOk (x0, x1, gone) at_ s = so at *
  clear h0 h1
  have R1 := isCell_any at_
  go_enter Try.func22, Try.ntmps22
  go_wp2_with fail
  refine (diskOk_any _ (x0, x1, gone) _ lo hi (DiskR.below (Below.alloc (Below.alloc (Below.refl _ _) (by first | exact Nat.le_refl _ | (simp [World.setCell] <;> omega)) _) (by first | exact Nat.le_refl _ | (simp [World.setCell] <;> omega)) _) HLE.out _ _ H.out)).mono ?_
  rw [← HOK.out]
  rintro e w1 ⟨rfl, hb1⟩
  have zz1 : w.heap.size + 2 ≤ w1.heap.size := by have := hb1.size; simp [World.setCell] at this; omega
  have YY1 : Below w.heap.size w (World.alloc (World.alloc w (.cells #[.slice A0 n0 c0, .slice A1 n1 c1, .bool gone] 26)) (.cells #[.slice none 0 0, .slice none 0 0, .bool false] 26)) := (Below.alloc (Below.alloc (Below.refl _ _) (by first | exact Nat.le_refl _ | (simp [World.setCell] <;> omega)) _) (by first | exact Nat.le_refl _ | (simp [World.setCell] <;> omega)) _)
  have X1 : Below w.heap.size w w1 := YY1.trans (hb1.mono YY1.size)
  clear YY1
  have b1_0 : Hid (w1.heap[w.heap.size]? = some (.cells #[.slice A0 n0 c0, .slice A1 n1 c1, .bool gone] 26 (0, 0))) := Lib.hid ((hb1.block _ (by first | omega | (simp [World.setCell] <;> omega))).trans ((Below.heap_alloc _ _ _ (by first | omega | (simp [World.setCell] <;> omega))).trans (show _ from by have := heap_alloc_new w (.cells #[.slice A0 n0 c0, .slice A1 n1 c1, .bool gone] 26); simpa [World.setCell] using this)))
  have b1_1 : Hid (w1.heap[w.heap.size + 1]? = some (.cells #[.slice none 0 0, .slice none 0 0, .bool false] 26 (0, 0))) := Lib.hid ((hb1.block _ (by first | omega | (simp [World.setCell] <;> omega))).trans (show _ from by have := heap_alloc_new (World.alloc w (.cells #[.slice A0 n0 c0, .slice A1 n1 c1, .bool gone] 26)) (.cells #[.slice none 0 0, .slice none 0 0, .bool false] 26); simpa [World.setCell] using this))
  clear hb1
  have l1_0 : w.heap.size < w1.heap.size := (Array.getElem?_eq_some_iff.1 b1_0.out).1
  have c1_0_0 : w1.cell? ⟨w.heap.size, 0, none⟩ = some (.slice A0 n0 c0) := cell_of_row _ _ 0 _ _ (0, 0) b1_0.out
  have f1_0_0 : w1.frozen? ⟨w.heap.size, 0, none⟩ = false := block_free b1_0.out _
  have c1_0_1 : w1.cell? ⟨w.heap.size, 1, none⟩ = some (.slice A1 n1 c1) := cell_of_row _ _ 1 _ _ (0, 0) b1_0.out
  have f1_0_1 : w1.frozen? ⟨w.heap.size, 1, none⟩ = false := block_free b1_0.out _
  have c1_0_2 : w1.cell? ⟨w.heap.size, 2, none⟩ = some (.bool gone) := cell_of_row _ _ 2 _ _ (0, 0) b1_0.out
  have f1_0_2 : w1.frozen? ⟨w.heap.size, 2, none⟩ = false := block_free b1_0.out _
  have l1_1 : w.heap.size + 1 < w1.heap.size := (Array.getElem?_eq_some_iff.1 b1_1.out).1
  have c1_1_0 : w1.cell? ⟨w.heap.size + 1, 0, none⟩ = some (.slice none 0 0) := cell_of_row _ _ 0 _ _ (0, 0) b1_1.out
  have f1_1_0 : w1.frozen? ⟨w.heap.size + 1, 0, none⟩ = false := block_free b1_1.out _
  have c1_1_1 : w1.cell? ⟨w.heap.size + 1, 1, none⟩ = some (.slice none 0 0) := cell_of_row _ _ 1 _ _ (0, 0) b1_1.out
  have f1_1_1 : w1.frozen? ⟨w.heap.size + 1, 1, none⟩ = false := block_free b1_1.out _
  have c1_1_2 : w1.cell? ⟨w.heap.size + 1, 2, none⟩ = some (.bool false) := cell_of_row _ _ 2 _ _ (0, 0) b1_1.out
  have f1_1_2 : w1.frozen? ⟨w.heap.size + 1, 2, none⟩ = false := block_free b1_1.out _
  cases ok
  · skip
    have HF : Hid (so = false) := Lib.hid (by rw [HSO.out]; simp [])
    go_wp2_with fail
    exact bodyPost_ret (v := .tuple #[.agg #[.slice none 0 0, .slice none 0 0, .bool false], .bool false]) (by simp [results, Try.results22, go_sem, *]) rfl ⟨_, by rw [HF.out], by rw [HNO.out HF.out]; exact noDisk (Nat.le_refl _), by repeat (first | exact X1 | refine Below.setCell ?_ (by simp <;> omega) _ | refine Below.alloc ?_ (by simp <;> omega) _)⟩
  cases gone
  rotate_left
  · skip
    have HF : Hid (so = false) := Lib.hid (by rw [HSO.out]; simp [])
    go_wp2_with fail
    exact bodyPost_ret (v := .tuple #[.agg #[.slice none 0 0, .slice none 0 0, .bool false], .bool false]) (by simp [results, Try.results22, go_sem, *]) rfl ⟨_, by rw [HF.out], by rw [HNO.out HF.out]; exact noDisk (Nat.le_refl _), by repeat (first | exact X1 | refine Below.setCell ?_ (by simp <;> omega) _ | refine Below.alloc ?_ (by simp <;> omega) _)⟩
  cases a1 : inB at_ 0 63
  · have HA := Lib.hid a1; rw [a1] at R1; clear a1
    have HF : Hid (so = false) := Lib.hid (by rw [HSO.out]; simp [HA.out])
    go_wp2_with (go_at_call 54; with_reducible refine (R1 _).mono ?_; rintro e w' ⟨rfl, rfl⟩)
    exact bodyPost_ret (v := .tuple #[.agg #[.slice none 0 0, .slice none 0 0, .bool false], .bool false]) (by simp [results, Try.results22, go_sem, *]) rfl ⟨_, by rw [HF.out], by rw [HNO.out HF.out]; exact noDisk (Nat.le_refl _), by repeat (first | exact X1 | refine Below.setCell ?_ (by simp <;> omega) _ | refine Below.alloc ?_ (by simp <;> omega) _)⟩
  have HA := Lib.hid a1; rw [a1] at R1
  obtain ⟨a, rfl, ha⟩ := inB_nat (m := 63) a1
  clear a1
  by_cases s2 : s.size ≤ 200
  rotate_left
  · have d0 : (200 : Int) < (s.size : Int) := by omega
    have HF : Hid (so = false) := Lib.hid (by rw [HSO.out]; simp [show ¬ s.size ≤ 200 from s2])
    go_wp2_with (go_at_call 54; with_reducible refine (R1 _).mono ?_; rintro e w' ⟨rfl, rfl⟩)
    exact bodyPost_ret (v := .tuple #[.agg #[.slice none 0 0, .slice none 0 0, .bool false], .bool false]) (by simp [results, Try.results22, go_sem, *]) rfl ⟨_, by rw [HF.out], by rw [HNO.out HF.out]; exact noDisk (Nat.le_refl _), by repeat (first | exact X1 | refine Below.setCell ?_ (by simp <;> omega) _ | refine Below.alloc ?_ (by simp <;> omega) _)⟩
  have d0 : ¬ (200 : Int) < (s.size : Int) := by omega
  have HF : Hid (so = true) := Lib.hid (by rw [HSO.out, HA.out, decide_eq_true s2]; rfl)
  have HD : Hid (sd = (x0.set a s, x1, false)) := Lib.hid (by rw [HYES.out HF.out]; simp)
  have hlen : x0.length = 64 ∧ x1.length ≤ 120 := diskOk_len HOK.out.symm
  have HLEN := Lib.hid hlen; clear hlen
  go_wp2_with (go_at_call 54; with_reducible refine (R1 _).mono ?_; rintro e w' ⟨rfl, rfl⟩)
  refine (cloneDisk_any _ (x0, x1, false) _ lo hi (DiskR.below X1 HLE.out _ _ H.out) (by have := HLEN.out.1; simp only; omega) (by have := HLEN.out.2; simp only; omega)).mono ?_
  rintro e w2 ⟨cs2, rfl, hn, hb2⟩
  obtain ⟨B0, m0, d1, B1, m1, d2, rfl, g0, k0, g1, k1⟩ := hn
  have e0 : x0.length = m0 := g0.len
  have hm0 : m0 = 64 := by have := HLEN.out.1; omega
  clear e0
  subst hm0
  rcases k0 with k0 | ⟨g, cur, rfl, gl, gh, hg, hcs, hnc⟩
  · omega
  have HG0 := Lib.hid g0; have HG1 := Lib.hid g1; have HK1 := Lib.hid k1; have HG := Lib.hid hg; have HCS := Lib.hid hcs; clear g0 g1 k1 hg hcs
  obtain ⟨lo2, hlo2⟩ : ∃ l, l = w1.heap.size := ⟨_, rfl⟩
  rw [← hlo2] at gl
  have HG0' := HG0.out; have HG1' := HG1.out; have HK1' := HK1.out; rw [← hlo2] at HG0' HG1' HK1'
  have KG0 := Lib.hid HG0'; have KG1 := Lib.hid HG1'; have KK1 := Lib.hid HK1'; clear HG0 HG1 HK1 HG0' HG1' HK1'
  have hlq : w.heap.size + 2 ≤ lo2 := by omega
  have zz2 : w1.heap.size ≤ w2.heap.size := by have := hb2.size; simpa [World.setCell] using this
  have YY2 : Below w.heap.size w w1 := X1
  have X2 : Below w.heap.size w w2 := YY2.trans (hb2.mono YY2.size)
  clear YY2
  have b2_0 : Hid (w2.heap[w.heap.size]? = some (.cells #[.slice A0 n0 c0, .slice A1 n1 c1, .bool false] 26 (0, 0))) := Lib.hid ((hb2.block _ (by first | omega | (simp [World.setCell] <;> omega))).trans b1_0.out)
  have b2_1 : Hid (w2.heap[w.heap.size + 1]? = some (.cells #[.slice none 0 0, .slice none 0 0, .bool false] 26 (0, 0))) := Lib.hid ((hb2.block _ (by first | omega | (simp [World.setCell] <;> omega))).trans b1_1.out)
  clear b1_0 b1_1 X1 zz1 l1_0 c1_0_0 f1_0_0 c1_0_1 f1_0_1 c1_0_2 f1_0_2 l1_1 c1_1_0 f1_1_0 c1_1_1 f1_1_1 c1_1_2 f1_1_2 hb2
  have l2_0 : w.heap.size < w2.heap.size := (Array.getElem?_eq_some_iff.1 b2_0.out).1
  have c2_0_0 : w2.cell? ⟨w.heap.size, 0, none⟩ = some (.slice A0 n0 c0) := cell_of_row _ _ 0 _ _ (0, 0) b2_0.out
  have f2_0_0 : w2.frozen? ⟨w.heap.size, 0, none⟩ = false := block_free b2_0.out _
  have c2_0_1 : w2.cell? ⟨w.heap.size, 1, none⟩ = some (.slice A1 n1 c1) := cell_of_row _ _ 1 _ _ (0, 0) b2_0.out
  have f2_0_1 : w2.frozen? ⟨w.heap.size, 1, none⟩ = false := block_free b2_0.out _
  have c2_0_2 : w2.cell? ⟨w.heap.size, 2, none⟩ = some (.bool false) := cell_of_row _ _ 2 _ _ (0, 0) b2_0.out
  have f2_0_2 : w2.frozen? ⟨w.heap.size, 2, none⟩ = false := block_free b2_0.out _
  have l2_1 : w.heap.size + 1 < w2.heap.size := (Array.getElem?_eq_some_iff.1 b2_1.out).1
  have c2_1_0 : w2.cell? ⟨w.heap.size + 1, 0, none⟩ = some (.slice none 0 0) := cell_of_row _ _ 0 _ _ (0, 0) b2_1.out
  have f2_1_0 : w2.frozen? ⟨w.heap.size + 1, 0, none⟩ = false := block_free b2_1.out _
  have c2_1_1 : w2.cell? ⟨w.heap.size + 1, 1, none⟩ = some (.slice none 0 0) := cell_of_row _ _ 1 _ _ (0, 0) b2_1.out
  have f2_1_1 : w2.frozen? ⟨w.heap.size + 1, 1, none⟩ = false := block_free b2_1.out _
  have c2_1_2 : w2.cell? ⟨w.heap.size + 1, 2, none⟩ = some (.bool false) := cell_of_row _ _ 2 _ _ (0, 0) b2_1.out
  have f2_1_2 : w2.frozen? ⟨w.heap.size + 1, 2, none⟩ = false := block_free b2_1.out _
  have k1' : (a : Int) < 64 := by omega
  have k0' : (0 : Int) ≤ (a : Int) := by omega
  have t0 : w2.cell? ⟨g, a, none⟩ = some _ := block_cell HG.out (by rw [HCS.out]; omega)
  generalize cur[a]'_ = z0 at t0
  have t1 : w2.frozen? ⟨g, a, none⟩ = false := block_free HG.out _
  have hgq : g ≠ w.heap.size + 1 := by omega
  have hgb : g ≠ w.heap.size := by omega
  go_wp2_with fail
  refine bodyPost_ret (v := .tuple #[.agg #[.slice (some ⟨g, 0, none⟩) 64 d1, .slice B1 m1 d2, .bool false], .bool true]) (by simp [results, Try.results22, go_sem, *]) rfl ⟨[.slice (some ⟨g, 0, none⟩) 64 d1, .slice B1 m1 d2, .bool false], by rw [HF.out], ?_, ?_⟩
  · rw [HD.out]
    have e0 := SliceR.set1 (a := a) (v := .string s) (y := s) KG0.out HG.out (by omega) (by rw [HCS.out]; omega) (fun _ _ h => h) ⟨rfl, by unfold maxLen; omega⟩
    obtain ⟨W1, hW1⟩ : ∃ W1, W1 = w2.setCell ⟨g, a, none⟩ (.string s) := ⟨_, rfl⟩
    have eA : W1.heap[g]? = some (.cells (cur.setIfInBounds a (.string s)) 9 (0, 0)) := by rw [hW1]; exact block_set HG.out
    have eS : w2.heap.size = W1.heap.size := by rw [hW1]; simp [World.setCell]
    have eF : ∀ b, b < w2.heap.size → b ≠ g → W1.heap[b]? = w2.heap[b]? := fun b hb hbg => by rw [hW1]; exact heap_far hbg
    rw [← hW1] at e0 ⊢
    clear hW1
    obtain ⟨W2, hW2⟩ : ∃ W2, W2 = (((W1.setCell ⟨w.heap.size + 1, 0, none⟩ (.slice (some ⟨g, 0, none⟩) 64 d1)).setCell ⟨w.heap.size + 1, 1, none⟩ (.slice B1 m1 d2)).setCell ⟨w.heap.size + 1, 2, none⟩ (.bool false)).alloc (.cells #[.slice (some ⟨g, 0, none⟩) 64 d1, .slice B1 m1 d2, .bool false] 26) := ⟨_, rfl⟩
    have eS2 : W1.heap.size + 1 = W2.heap.size := by rw [hW2]; simp [World.setCell]
    have eQ : ∀ b, b < w2.heap.size → b ≠ w.heap.size + 1 → W2.heap[b]? = W1.heap[b]? := fun b hlt hb => by rw [hW2]; exact (Below.heap_alloc _ _ _ (by simp [World.setCell]; omega)).trans ((heap_far hb).trans ((heap_far hb).trans (heap_far hb)))
    rw [← hW2]
    clear hW2
    have hws : w2.heap.size ≤ W2.heap.size := by omega
    have hwl : w.heap.size ≤ lo2 := by omega
    have hk1 : 0 < d2 → ∀ b, blkOf B1 b → lo2 ≤ b → b < w2.heap.size → W2.heap[b]? = w2.heap[b]? := fun hm b hb h1 h2 => by
      have hbg : b ≠ g := fun e => by
        subst e
        rcases KK1.out with h0 | ⟨g', cur', hB, _, _, h4, _⟩
        · omega
        · obtain ⟨o, hbo⟩ := hb
          rw [hB] at hbo
          injection hbo with e; injection e with e1
          subst e1
          rw [HG.out] at h4
          injection h4 with e; injection e with _ e2
          exact absurd e2 (by decide)
      exact (eQ b h2 (by omega)).trans (eF b h2 hbg)
    refine ⟨_, _, _, _, _, _, rfl, ?_, ?_, ?_, ?_⟩
    · exact (e0.keepB (w' := W2) (by omega) (fun _ b _ h1 h2 => eQ b h2 (by omega)) (fun _ _ h => h)).wide hwl hws (Nat.le_refl _) (fun _ _ h => h)
    · exact .inr ⟨g, _, rfl, by omega, by omega, (eQ g gh hgq).trans eA, by simpa using HCS.out, hnc⟩
    · exact (KG1.out.keepB (w' := W2) hws (fun hm => hk1 (KK1.out.pos hm)) (fun _ _ h => h)).wide hwl hws (Nat.le_refl _) (fun _ _ h => h)
    · exact (KK1.out.keepB (w' := W2) hk1).wide hwl hws
  · repeat (first | exact X2 | refine Below.setCell ?_ (by simp <;> omega) _ | refine Below.alloc ?_ (by simp <;> omega) _)

set_option maxRecDepth 100000 in
set_option maxHeartbeats 4000000 in
theorem spDiskSpoil_any (cs : List Value) (x : DiskD) (at_ : Int) (s : ByteArray) (w : World) (lo hi : Nat) (h : DiskR w lo hi cs x) (hs : s.size ≤ maxLen) :
    Calls Try.prog 23 #[.agg cs.toArray, .int .i64 at_, .string s] w (NewR2 DiskN w (spoilD x at_ s) (spoilOk x at_ s)) := by
  unfold maxLen at hs
  have H := Lib.hid h
  obtain ⟨x0, x1, gone⟩ := x
  obtain ⟨A0, n0, c0, A1, n1, c1, rfl, h0, h1⟩ := h
  have HLE := Lib.hid h0.lo_le
  show Calls Try.prog 23 #[.agg #[.slice A0 n0 c0, .slice A1 n1 c1, .bool gone], .int .i64 at_, .string s] w _
  obtain ⟨ok, hok⟩ : ∃ ok, ok = diskOk (x0, x1, gone) := ⟨_, rfl⟩
  have HOK := Lib.hid hok; clear hok
  have HNO : Hid (spoilOk (x0, x1, gone) at_ s = false → spoilD (x0, x1, gone) at_ s = ([], [], false)) := Lib.hid (fun h => by unfold spoilD; rw [h]; rfl)
  have HSO : Hid (spoilOk (x0, x1, gone) at_ s = (ok && !gone && inB at_ 0 63 && decide (s.size ≤ 200))) := Lib.hid (by rw [HOK.out]; rfl)
  have HYES : Hid (spoilOk (x0, x1, gone) at_ s = true → spoilD (x0, x1, gone) at_ s = (x0.set at_.toNat s, x1, gone)) := Lib.hid (fun h => by unfold spoilD; rw [h]; rfl)
  generalize spoilD (x0, x1, gone) at_ s = sd at *
  generalize spoilOk (x0, x1, gone) at_ s = so at *
  clear h0 h1
  have R1 := l3Cell_any at_
  go_enter Try.func23, Try.ntmps23
  go_wp2_with fail
  refine (spDiskOk_any _ (x0, x1, gone) _ lo hi (DiskR.below (Below.alloc (Below.alloc (Below.refl _ _) (by first | exact Nat.le_refl _ | (simp [World.setCell] <;> omega)) _) (by first | exact Nat.le_refl _ | (simp [World.setCell] <;> omega)) _) HLE.out _ _ H.out)).mono ?_
  rw [← HOK.out]
  rintro e w1 ⟨rfl, hb1⟩
  have zz1 : w.heap.size + 2 ≤ w1.heap.size := by have := hb1.size; simp [World.setCell] at this; omega
  have YY1 : Below w.heap.size w (World.alloc (World.alloc w (.cells #[.slice A0 n0 c0, .slice A1 n1 c1, .bool gone] 26)) (.cells #[.slice none 0 0, .slice none 0 0, .bool false] 26)) := (Below.alloc (Below.alloc (Below.refl _ _) (by first | exact Nat.le_refl _ | (simp [World.setCell] <;> omega)) _) (by first | exact Nat.le_refl _ | (simp [World.setCell] <;> omega)) _)
  have X1 : Below w.heap.size w w1 := YY1.trans (hb1.mono YY1.size)
  clear YY1
  have b1_0 : Hid (w1.heap[w.heap.size]? = some (.cells #[.slice A0 n0 c0, .slice A1 n1 c1, .bool gone] 26 (0, 0))) := Lib.hid ((hb1.block _ (by first | omega | (simp [World.setCell] <;> omega))).trans ((Below.heap_alloc _ _ _ (by first | omega | (simp [World.setCell] <;> omega))).trans (show _ from by have := heap_alloc_new w (.cells #[.slice A0 n0 c0, .slice A1 n1 c1, .bool gone] 26); simpa [World.setCell] using this)))
  have b1_1 : Hid (w1.heap[w.heap.size + 1]? = some (.cells #[.slice none 0 0, .slice none 0 0, .bool false] 26 (0, 0))) := Lib.hid ((hb1.block _ (by first | omega | (simp [World.setCell] <;> omega))).trans (show _ from by have := heap_alloc_new (World.alloc w (.cells #[.slice A0 n0 c0, .slice A1 n1 c1, .bool gone] 26)) (.cells #[.slice none 0 0, .slice none 0 0, .bool false] 26); simpa [World.setCell] using this))
  clear hb1
  have l1_0 : w.heap.size < w1.heap.size := (Array.getElem?_eq_some_iff.1 b1_0.out).1
  have c1_0_0 : w1.cell? ⟨w.heap.size, 0, none⟩ = some (.slice A0 n0 c0) := cell_of_row _ _ 0 _ _ (0, 0) b1_0.out
  have f1_0_0 : w1.frozen? ⟨w.heap.size, 0, none⟩ = false := block_free b1_0.out _
  have c1_0_1 : w1.cell? ⟨w.heap.size, 1, none⟩ = some (.slice A1 n1 c1) := cell_of_row _ _ 1 _ _ (0, 0) b1_0.out
  have f1_0_1 : w1.frozen? ⟨w.heap.size, 1, none⟩ = false := block_free b1_0.out _
  have c1_0_2 : w1.cell? ⟨w.heap.size, 2, none⟩ = some (.bool gone) := cell_of_row _ _ 2 _ _ (0, 0) b1_0.out
  have f1_0_2 : w1.frozen? ⟨w.heap.size, 2, none⟩ = false := block_free b1_0.out _
  have l1_1 : w.heap.size + 1 < w1.heap.size := (Array.getElem?_eq_some_iff.1 b1_1.out).1
  have c1_1_0 : w1.cell? ⟨w.heap.size + 1, 0, none⟩ = some (.slice none 0 0) := cell_of_row _ _ 0 _ _ (0, 0) b1_1.out
  have f1_1_0 : w1.frozen? ⟨w.heap.size + 1, 0, none⟩ = false := block_free b1_1.out _
  have c1_1_1 : w1.cell? ⟨w.heap.size + 1, 1, none⟩ = some (.slice none 0 0) := cell_of_row _ _ 1 _ _ (0, 0) b1_1.out
  have f1_1_1 : w1.frozen? ⟨w.heap.size + 1, 1, none⟩ = false := block_free b1_1.out _
  have c1_1_2 : w1.cell? ⟨w.heap.size + 1, 2, none⟩ = some (.bool false) := cell_of_row _ _ 2 _ _ (0, 0) b1_1.out
  have f1_1_2 : w1.frozen? ⟨w.heap.size + 1, 2, none⟩ = false := block_free b1_1.out _
  cases ok
  · skip
    have HF : Hid (so = false) := Lib.hid (by rw [HSO.out]; simp [])
    go_wp2_with fail
    exact bodyPost_ret (v := .tuple #[.agg #[.slice none 0 0, .slice none 0 0, .bool false], .bool false]) (by simp [results, Try.results23, go_sem, *]) rfl ⟨_, by rw [HF.out], by rw [HNO.out HF.out]; exact noDisk (Nat.le_refl _), by repeat (first | exact X1 | refine Below.setCell ?_ (by simp <;> omega) _ | refine Below.alloc ?_ (by simp <;> omega) _)⟩
  cases gone
  rotate_left
  · skip
    have HF : Hid (so = false) := Lib.hid (by rw [HSO.out]; simp [])
    go_wp2_with fail
    exact bodyPost_ret (v := .tuple #[.agg #[.slice none 0 0, .slice none 0 0, .bool false], .bool false]) (by simp [results, Try.results23, go_sem, *]) rfl ⟨_, by rw [HF.out], by rw [HNO.out HF.out]; exact noDisk (Nat.le_refl _), by repeat (first | exact X1 | refine Below.setCell ?_ (by simp <;> omega) _ | refine Below.alloc ?_ (by simp <;> omega) _)⟩
  cases a1 : inB at_ 0 63
  · have HA := Lib.hid a1; rw [a1] at R1; clear a1
    have HF : Hid (so = false) := Lib.hid (by rw [HSO.out]; simp [HA.out])
    go_wp2_with (go_at_call 64; with_reducible refine (R1 _).mono ?_; rintro e w' ⟨rfl, rfl⟩)
    exact bodyPost_ret (v := .tuple #[.agg #[.slice none 0 0, .slice none 0 0, .bool false], .bool false]) (by simp [results, Try.results23, go_sem, *]) rfl ⟨_, by rw [HF.out], by rw [HNO.out HF.out]; exact noDisk (Nat.le_refl _), by repeat (first | exact X1 | refine Below.setCell ?_ (by simp <;> omega) _ | refine Below.alloc ?_ (by simp <;> omega) _)⟩
  have HA := Lib.hid a1; rw [a1] at R1
  obtain ⟨a, rfl, ha⟩ := inB_nat (m := 63) a1
  clear a1
  by_cases s2 : s.size ≤ 200
  rotate_left
  · have d0 : (200 : Int) < (s.size : Int) := by omega
    have HF : Hid (so = false) := Lib.hid (by rw [HSO.out]; simp [show ¬ s.size ≤ 200 from s2])
    go_wp2_with (go_at_call 64; with_reducible refine (R1 _).mono ?_; rintro e w' ⟨rfl, rfl⟩)
    exact bodyPost_ret (v := .tuple #[.agg #[.slice none 0 0, .slice none 0 0, .bool false], .bool false]) (by simp [results, Try.results23, go_sem, *]) rfl ⟨_, by rw [HF.out], by rw [HNO.out HF.out]; exact noDisk (Nat.le_refl _), by repeat (first | exact X1 | refine Below.setCell ?_ (by simp <;> omega) _ | refine Below.alloc ?_ (by simp <;> omega) _)⟩
  have d0 : ¬ (200 : Int) < (s.size : Int) := by omega
  have HF : Hid (so = true) := Lib.hid (by rw [HSO.out, HA.out, decide_eq_true s2]; rfl)
  have HD : Hid (sd = (x0.set a s, x1, false)) := Lib.hid (by rw [HYES.out HF.out]; simp)
  have hlen : x0.length = 64 ∧ x1.length ≤ 120 := diskOk_len HOK.out.symm
  have HLEN := Lib.hid hlen; clear hlen
  go_wp2_with (go_at_call 64; with_reducible refine (R1 _).mono ?_; rintro e w' ⟨rfl, rfl⟩)
  refine (l3Copy_any _ (x0, x1, false) _ lo hi (DiskR.below X1 HLE.out _ _ H.out) (by have := HLEN.out.1; simp only; omega) (by have := HLEN.out.2; simp only; omega)).mono ?_
  rintro e w2 ⟨cs2, rfl, hn, hb2⟩
  obtain ⟨B0, m0, d1, B1, m1, d2, rfl, g0, k0, g1, k1⟩ := hn
  have e0 : x0.length = m0 := g0.len
  have hm0 : m0 = 64 := by have := HLEN.out.1; omega
  clear e0
  subst hm0
  rcases k0 with k0 | ⟨g, cur, rfl, gl, gh, hg, hcs, hnc⟩
  · omega
  have HG0 := Lib.hid g0; have HG1 := Lib.hid g1; have HK1 := Lib.hid k1; have HG := Lib.hid hg; have HCS := Lib.hid hcs; clear g0 g1 k1 hg hcs
  obtain ⟨lo2, hlo2⟩ : ∃ l, l = w1.heap.size := ⟨_, rfl⟩
  rw [← hlo2] at gl
  have HG0' := HG0.out; have HG1' := HG1.out; have HK1' := HK1.out; rw [← hlo2] at HG0' HG1' HK1'
  have KG0 := Lib.hid HG0'; have KG1 := Lib.hid HG1'; have KK1 := Lib.hid HK1'; clear HG0 HG1 HK1 HG0' HG1' HK1'
  have hlq : w.heap.size + 2 ≤ lo2 := by omega
  have zz2 : w1.heap.size ≤ w2.heap.size := by have := hb2.size; simpa [World.setCell] using this
  have YY2 : Below w.heap.size w w1 := X1
  have X2 : Below w.heap.size w w2 := YY2.trans (hb2.mono YY2.size)
  clear YY2
  have b2_0 : Hid (w2.heap[w.heap.size]? = some (.cells #[.slice A0 n0 c0, .slice A1 n1 c1, .bool false] 26 (0, 0))) := Lib.hid ((hb2.block _ (by first | omega | (simp [World.setCell] <;> omega))).trans b1_0.out)
  have b2_1 : Hid (w2.heap[w.heap.size + 1]? = some (.cells #[.slice none 0 0, .slice none 0 0, .bool false] 26 (0, 0))) := Lib.hid ((hb2.block _ (by first | omega | (simp [World.setCell] <;> omega))).trans b1_1.out)
  clear b1_0 b1_1 X1 zz1 l1_0 c1_0_0 f1_0_0 c1_0_1 f1_0_1 c1_0_2 f1_0_2 l1_1 c1_1_0 f1_1_0 c1_1_1 f1_1_1 c1_1_2 f1_1_2 hb2
  have l2_0 : w.heap.size < w2.heap.size := (Array.getElem?_eq_some_iff.1 b2_0.out).1
  have c2_0_0 : w2.cell? ⟨w.heap.size, 0, none⟩ = some (.slice A0 n0 c0) := cell_of_row _ _ 0 _ _ (0, 0) b2_0.out
  have f2_0_0 : w2.frozen? ⟨w.heap.size, 0, none⟩ = false := block_free b2_0.out _
  have c2_0_1 : w2.cell? ⟨w.heap.size, 1, none⟩ = some (.slice A1 n1 c1) := cell_of_row _ _ 1 _ _ (0, 0) b2_0.out
  have f2_0_1 : w2.frozen? ⟨w.heap.size, 1, none⟩ = false := block_free b2_0.out _
  have c2_0_2 : w2.cell? ⟨w.heap.size, 2, none⟩ = some (.bool false) := cell_of_row _ _ 2 _ _ (0, 0) b2_0.out
  have f2_0_2 : w2.frozen? ⟨w.heap.size, 2, none⟩ = false := block_free b2_0.out _
  have l2_1 : w.heap.size + 1 < w2.heap.size := (Array.getElem?_eq_some_iff.1 b2_1.out).1
  have c2_1_0 : w2.cell? ⟨w.heap.size + 1, 0, none⟩ = some (.slice none 0 0) := cell_of_row _ _ 0 _ _ (0, 0) b2_1.out
  have f2_1_0 : w2.frozen? ⟨w.heap.size + 1, 0, none⟩ = false := block_free b2_1.out _
  have c2_1_1 : w2.cell? ⟨w.heap.size + 1, 1, none⟩ = some (.slice none 0 0) := cell_of_row _ _ 1 _ _ (0, 0) b2_1.out
  have f2_1_1 : w2.frozen? ⟨w.heap.size + 1, 1, none⟩ = false := block_free b2_1.out _
  have c2_1_2 : w2.cell? ⟨w.heap.size + 1, 2, none⟩ = some (.bool false) := cell_of_row _ _ 2 _ _ (0, 0) b2_1.out
  have f2_1_2 : w2.frozen? ⟨w.heap.size + 1, 2, none⟩ = false := block_free b2_1.out _
  have k1' : (a : Int) < 64 := by omega
  have k0' : (0 : Int) ≤ (a : Int) := by omega
  have t0 : w2.cell? ⟨g, a, none⟩ = some _ := block_cell HG.out (by rw [HCS.out]; omega)
  generalize cur[a]'_ = z0 at t0
  have t1 : w2.frozen? ⟨g, a, none⟩ = false := block_free HG.out _
  have hgq : g ≠ w.heap.size + 1 := by omega
  have hgb : g ≠ w.heap.size := by omega
  go_wp2_with fail
  refine bodyPost_ret (v := .tuple #[.agg #[.slice (some ⟨g, 0, none⟩) 64 d1, .slice B1 m1 d2, .bool false], .bool true]) (by simp [results, Try.results23, go_sem, *]) rfl ⟨[.slice (some ⟨g, 0, none⟩) 64 d1, .slice B1 m1 d2, .bool false], by rw [HF.out], ?_, ?_⟩
  · rw [HD.out]
    have e0 := SliceR.set1 (a := a) (v := .string s) (y := s) KG0.out HG.out (by omega) (by rw [HCS.out]; omega) (fun _ _ h => h) ⟨rfl, by unfold maxLen; omega⟩
    obtain ⟨W1, hW1⟩ : ∃ W1, W1 = w2.setCell ⟨g, a, none⟩ (.string s) := ⟨_, rfl⟩
    have eA : W1.heap[g]? = some (.cells (cur.setIfInBounds a (.string s)) 9 (0, 0)) := by rw [hW1]; exact block_set HG.out
    have eS : w2.heap.size = W1.heap.size := by rw [hW1]; simp [World.setCell]
    have eF : ∀ b, b < w2.heap.size → b ≠ g → W1.heap[b]? = w2.heap[b]? := fun b hb hbg => by rw [hW1]; exact heap_far hbg
    rw [← hW1] at e0 ⊢
    clear hW1
    obtain ⟨W2, hW2⟩ : ∃ W2, W2 = (((W1.setCell ⟨w.heap.size + 1, 0, none⟩ (.slice (some ⟨g, 0, none⟩) 64 d1)).setCell ⟨w.heap.size + 1, 1, none⟩ (.slice B1 m1 d2)).setCell ⟨w.heap.size + 1, 2, none⟩ (.bool false)).alloc (.cells #[.slice (some ⟨g, 0, none⟩) 64 d1, .slice B1 m1 d2, .bool false] 26) := ⟨_, rfl⟩
    have eS2 : W1.heap.size + 1 = W2.heap.size := by rw [hW2]; simp [World.setCell]
    have eQ : ∀ b, b < w2.heap.size → b ≠ w.heap.size + 1 → W2.heap[b]? = W1.heap[b]? := fun b hlt hb => by rw [hW2]; exact (Below.heap_alloc _ _ _ (by simp [World.setCell]; omega)).trans ((heap_far hb).trans ((heap_far hb).trans (heap_far hb)))
    rw [← hW2]
    clear hW2
    have hws : w2.heap.size ≤ W2.heap.size := by omega
    have hwl : w.heap.size ≤ lo2 := by omega
    have hk1 : 0 < d2 → ∀ b, blkOf B1 b → lo2 ≤ b → b < w2.heap.size → W2.heap[b]? = w2.heap[b]? := fun hm b hb h1 h2 => by
      have hbg : b ≠ g := fun e => by
        subst e
        rcases KK1.out with h0 | ⟨g', cur', hB, _, _, h4, _⟩
        · omega
        · obtain ⟨o, hbo⟩ := hb
          rw [hB] at hbo
          injection hbo with e; injection e with e1
          subst e1
          rw [HG.out] at h4
          injection h4 with e; injection e with _ e2
          exact absurd e2 (by decide)
      exact (eQ b h2 (by omega)).trans (eF b h2 hbg)
    refine ⟨_, _, _, _, _, _, rfl, ?_, ?_, ?_, ?_⟩
    · exact (e0.keepB (w' := W2) (by omega) (fun _ b _ h1 h2 => eQ b h2 (by omega)) (fun _ _ h => h)).wide hwl hws (Nat.le_refl _) (fun _ _ h => h)
    · exact .inr ⟨g, _, rfl, by omega, by omega, (eQ g gh hgq).trans eA, by simpa using HCS.out, hnc⟩
    · exact (KG1.out.keepB (w' := W2) hws (fun hm => hk1 (KK1.out.pos hm)) (fun _ _ h => h)).wide hwl hws (Nat.le_refl _) (fun _ _ h => h)
    · exact (KK1.out.keepB (w' := W2) hk1).wide hwl hws
  · repeat (first | exact X2 | refine Below.setCell ?_ (by simp <;> omega) _ | refine Below.alloc ?_ (by simp <;> omega) _)

end Go.Proofs.Ytgipchipcoaajaa
