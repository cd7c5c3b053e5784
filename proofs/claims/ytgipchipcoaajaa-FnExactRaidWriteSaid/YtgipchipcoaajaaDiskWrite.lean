/- DiskWrite, the program's and the reference's. Condition: fewer than 2^40 members a slice. -/
import Derived.Test.YtgipchipcoaajaaDiskSpoil
namespace Go.Proofs.Ytgipchipcoaajaa
set_option linter.unusedVariables false
set_option linter.unusedSimpArgs false
set_option linter.unnecessarySimpa false
open Go.RowKit

def writeGo (d : DiskD) (at_ : Int) (s : ByteArray) : Bool := !d.2.2 && inB at_ 0 63 && decide (s.size ≤ 200) && decide (d.2.1.length < 120)
def writeOk (d : DiskD) (at_ : Int) (s : ByteArray) : Bool := diskOk d && writeGo d at_ s
def writeD (d : DiskD) (at_ : Int) (s : ByteArray) : DiskD := if diskOk d = true then (if writeGo d at_ s = true then (d.1, d.2.1 ++ [(at_, s)], d.2.2) else d) else ([], [], false)
theorem OwnA.blk {w : World} {e : TypeId} {k : Nat} {S : List Nat} {A : Option Addr} {n c : Nat} {vs : List Value} (h : OwnA w e k S A n c vs) (hc : 0 < c) {b : Nat} (hb : blkOf A b) : b ∈ S := by
  rcases h.1 with ⟨h0, _⟩ | ⟨g, cur, rfl, rfl, _⟩
  · rw [h.2 h0] at hc; omega
  · rw [blkOf_iff] at hb; simp [hb]
theorem RowAt.pair {w : World} {b : Nat} {x y : Value} {t : TypeId} (h : w.heap[b]? = some (.cells #[x, y] t (0, 0))) : RowAt w (some ⟨b, 0, none⟩) 2 [x, y] :=
  ⟨rfl, fun _ => ⟨b, 0, rfl, fun j hj => by
    rw [Nat.zero_add, cell_of_row _ _ _ _ _ (0, 0) h]
    match j, hj with
    | 0, _ => rfl
    | 1, _ => rfl⟩⟩
theorem WaitR.row1 {w : World} {lo hi : Nat} (at_ : Int) (s : ByteArray) (hs : s.size ≤ maxLen) : RowV (WaitR w lo hi) 2 [.int .i64 at_, .string s] [(at_, s)] := RowV.one rfl ⟨rfl, hs⟩
theorem wait_one {w : World} {lo hi : Nat} {vs : List Value} (r4 : ∀ u ∈ vs, ∃ cs x, u ∈ cs ∧ WaitR w lo hi cs x) : ∀ u ∈ vs, u.oneCell' = true := fun u hu => by obtain ⟨cs, x, hm, hr⟩ := r4 u hu; obtain ⟨at_, text_⟩ := x; obtain ⟨rfl, ho0⟩ := hr; simp at hm; rcases hm with rfl | rfl <;> rfl
set_option maxRecDepth 100000 in
set_option maxHeartbeats 4000000 in
theorem diskWrite_any (cs : List Value) (x : DiskD) (at_ : Int) (s : ByteArray) (w : World) (lo hi : Nat) (h : DiskR w lo hi cs x) (hs : s.size ≤ maxLen) :
    Calls Try.prog 19 #[.agg cs.toArray, .int .i64 at_, .string s] w (NewR2 DiskN w (writeD x at_ s) (writeOk x at_ s)) := by
  unfold maxLen at hs
  have H := Lib.hid h
  obtain ⟨x0, x1, gone⟩ := x
  obtain ⟨A0, n0, c0, A1, n1, c1, rfl, h0, h1⟩ := h
  have HLE := Lib.hid h0.lo_le
  have HN1 : Hid (x1.length = n1) := Lib.hid h1.len
  show Calls Try.prog 19 #[.agg #[.slice A0 n0 c0, .slice A1 n1 c1, .bool gone], .int .i64 at_, .string s] w _
  obtain ⟨ok, hok⟩ : ∃ ok, ok = diskOk (x0, x1, gone) := ⟨_, rfl⟩
  have HOK := Lib.hid hok; clear hok
  have HSO : Hid (writeOk (x0, x1, gone) at_ s = (ok && (!gone && inB at_ 0 63 && decide (s.size ≤ 200) && decide (x1.length < 120)))) := Lib.hid (by rw [HOK.out]; rfl)
  have HSD : Hid (writeD (x0, x1, gone) at_ s = if ok = true then (if (!gone && inB at_ 0 63 && decide (s.size ≤ 200) && decide (x1.length < 120)) = true then (x0, x1 ++ [(at_, s)], gone) else (x0, x1, gone)) else ([], [], false)) := Lib.hid (by rw [HOK.out]; rfl)
  generalize writeD (x0, x1, gone) at_ s = sd at *
  generalize writeOk (x0, x1, gone) at_ s = so at *
  clear h0 h1
  obtain ⟨i0, hi0, hz0, hz1, hz2⟩ := info_parts infoE_WaitS
  have R1 := isCell_any at_
  go_enter Try.func19, Try.ntmps19
  go_wp2_with fail
  refine (diskOk_any _ (x0, x1, gone) _ lo hi (DiskR.below (Below.alloc (Below.alloc (Below.refl _ _) (by first | exact Nat.le_refl _ | (simp [World.setCell] <;> omega)) _) (by first | exact Nat.le_refl _ | (simp [World.setCell] <;> omega)) _) HLE.out _ _ H.out)).mono ?_
  rw [← HOK.out]
  rintro e w1 ⟨rfl, hb1⟩
  have zz1 : w.heap.size + 2 ≤ w1.heap.size := by have := hb1.size; simp [World.setCell] at this; omega
  have YY1 : Below w.heap.size w (World.alloc (World.alloc w (.cells #[.slice A0 n0 c0, .slice A1 n1 c1, .bool gone] 26)) (.cells #[.slice none 0 0, .slice none 0 0, .bool false] 26)) := (Below.alloc (Below.alloc (Below.refl _ _) (by first | exact Nat.le_refl _ | (simp [World.setCell] <;> omega)) _) (by first | exact Nat.le_refl _ | (simp [World.setCell] <;> omega)) _)
  have X1 : Below w.heap.size w w1 := YY1.trans (hb1.mono YY1.size)
  clear YY1
  have b1_0 : Hid (w1.heap[w.heap.size]? = some (.cells #[.slice A0 n0 c0, .slice A1 n1 c1, .bool gone] 26 (0, 0))) := Lib.hid ((hb1.block _ (by first | omega | (simp [World.setCell] <;> omega))).trans ((Below.heap_alloc _ _ _ (by first | omega | (simp [World.setCell] <;> omega))).trans (show _ from by have := heap_alloc_new w (.cells #[.slice A0 n0 c0, .slice A1 n1 c1, .bool gone] 26); simpa [World.setCell] using this)))
  have b1_1 : Hid (w1.heap[w.heap.size + 1]? = some (.cells #[.slice none 0 0, .slice none 0 0, .bool false] 26 (0, 0))) := Lib.hid ((hb1.block _ (by first | omega | (simp [World.setCell] <;> omega))).trans (show _ from by have := heap_alloc_new (World.alloc w (.cells #[.slice A0 n0 c0, .slice A1 n1 c1, .bool gone] 26)) (.cells #[.slice none 0 0, .slice none 0 0, .bool false] 26); simpa [World.setCell] using this))
  clear hb1
  have l1_0 : w.heap.size < w1.heap.size := (Array.getElem?_eq_some_iff.1 b1_0.out).1
  have c1_0_0 : w1.cell? ⟨w.heap.size, 0, none⟩ = some (.slice A0 n0 c0) := cell_of_row _ _ 0 _ _ (0, 0) b1_0.out
  have f1_0_0 : w1.frozen? ⟨w.heap.size, 0, none⟩ = false := block_free b1_0.out _
  have c1_0_1 : w1.cell? ⟨w.heap.size, 1, none⟩ = some (.slice A1 n1 c1) := cell_of_row _ _ 1 _ _ (0, 0) b1_0.out
  have f1_0_1 : w1.frozen? ⟨w.heap.size, 1, none⟩ = false := block_free b1_0.out _
  have c1_0_2 : w1.cell? ⟨w.heap.size, 2, none⟩ = some (.bool gone) := cell_of_row _ _ 2 _ _ (0, 0) b1_0.out
  have f1_0_2 : w1.frozen? ⟨w.heap.size, 2, none⟩ = false := block_free b1_0.out _
  have l1_1 : w.heap.size + 1 < w1.heap.size := (Array.getElem?_eq_some_iff.1 b1_1.out).1
  have c1_1_0 : w1.cell? ⟨w.heap.size + 1, 0, none⟩ = some (.slice none 0 0) := cell_of_row _ _ 0 _ _ (0, 0) b1_1.out
  have f1_1_0 : w1.frozen? ⟨w.heap.size + 1, 0, none⟩ = false := block_free b1_1.out _
  have c1_1_1 : w1.cell? ⟨w.heap.size + 1, 1, none⟩ = some (.slice none 0 0) := cell_of_row _ _ 1 _ _ (0, 0) b1_1.out
  have f1_1_1 : w1.frozen? ⟨w.heap.size + 1, 1, none⟩ = false := block_free b1_1.out _
  have c1_1_2 : w1.cell? ⟨w.heap.size + 1, 2, none⟩ = some (.bool false) := cell_of_row _ _ 2 _ _ (0, 0) b1_1.out
  have f1_1_2 : w1.frozen? ⟨w.heap.size + 1, 2, none⟩ = false := block_free b1_1.out _
  cases ok
  · skip
    have HF : Hid (so = false) := Lib.hid (by rw [HSO.out]; rfl)
    have HD : Hid (sd = ([], [], false)) := Lib.hid (by rw [HSD.out]; rfl)
    go_wp2_with fail
    exact bodyPost_ret (v := .tuple #[.agg #[.slice none 0 0, .slice none 0 0, .bool false], .bool false]) (by simp [results, Try.results19, go_sem, *]) rfl ⟨_, by rw [HF.out], by rw [HD.out]; exact noDisk (Nat.le_refl _), by repeat (first | exact X1 | refine Below.setCell ?_ (by simp <;> omega) _ | refine Below.alloc ?_ (by simp <;> omega) _)⟩
  have hlen : x0.length = 64 ∧ x1.length ≤ 120 := diskOk_len HOK.out.symm
  have HLEN := Lib.hid hlen; clear hlen
  go_wp2_with fail
  refine (cloneDisk_any _ (x0, x1, gone) _ lo hi (DiskR.below X1 HLE.out _ _ H.out) (by have := HLEN.out.1; simp only; omega) (by have := HLEN.out.2; simp only; omega)).mono ?_
  rintro e w2 ⟨cs2, rfl, hn, hb2⟩
  have hn2 := hn
  obtain ⟨B0, m0, d0, B1, m1, d1, rfl, g0, k0, g1, k1⟩ := hn2
  have e1 : x1.length = m1 := g1.len
  have HM1 : Hid (m1 = n1) := Lib.hid (e1.symm.trans HN1.out)
  have hm1 : m1 ≤ 120 := by have := HLEN.out.2; omega
  clear e1
  obtain ⟨lo2, hlo2⟩ : ∃ l, l = w1.heap.size := ⟨_, rfl⟩
  rw [← hlo2] at hn g0 k0 g1 k1
  have HN := Lib.hid hn; have G0 := Lib.hid g0; have K0 := Lib.hid k0; have G1 := Lib.hid g1; have K1 := Lib.hid k1; clear hn g0 k0 g1 k1
  have hlq : w.heap.size + 2 ≤ lo2 := by omega
  have zz2 : w1.heap.size ≤ w2.heap.size := by have := hb2.size; simpa [World.setCell] using this
  have YY2 : Below w.heap.size w w1 := X1
  have X2 : Below w.heap.size w w2 := YY2.trans (hb2.mono YY2.size)
  clear YY2
  have b2_0 : Hid (w2.heap[w.heap.size]? = some (.cells #[.slice A0 n0 c0, .slice A1 n1 c1, .bool gone] 26 (0, 0))) := Lib.hid ((hb2.block _ (by first | omega | (simp [World.setCell] <;> omega))).trans b1_0.out)
  have b2_1 : Hid (w2.heap[w.heap.size + 1]? = some (.cells #[.slice none 0 0, .slice none 0 0, .bool false] 26 (0, 0))) := Lib.hid ((hb2.block _ (by first | omega | (simp [World.setCell] <;> omega))).trans b1_1.out)
  clear b1_0 b1_1 X1 zz1 l1_0 c1_0_0 f1_0_0 c1_0_1 f1_0_1 c1_0_2 f1_0_2 l1_1 c1_1_0 f1_1_0 c1_1_1 f1_1_1 c1_1_2 f1_1_2 hb2
  have l2_0 : w.heap.size < w2.heap.size := (Array.getElem?_eq_some_iff.1 b2_0.out).1
  have c2_0_0 : w2.cell? ⟨w.heap.size, 0, none⟩ = some (.slice A0 n0 c0) := cell_of_row _ _ 0 _ _ (0, 0) b2_0.out
  have f2_0_0 : w2.frozen? ⟨w.heap.size, 0, none⟩ = false := block_free b2_0.out _
  have c2_0_1 : w2.cell? ⟨w.heap.size, 1, none⟩ = some (.slice A1 n1 c1) := cell_of_row _ _ 1 _ _ (0, 0) b2_0.out
  have f2_0_1 : w2.frozen? ⟨w.heap.size, 1, none⟩ = false := block_free b2_0.out _
  have c2_0_2 : w2.cell? ⟨w.heap.size, 2, none⟩ = some (.bool gone) := cell_of_row _ _ 2 _ _ (0, 0) b2_0.out
  have f2_0_2 : w2.frozen? ⟨w.heap.size, 2, none⟩ = false := block_free b2_0.out _
  have l2_1 : w.heap.size + 1 < w2.heap.size := (Array.getElem?_eq_some_iff.1 b2_1.out).1
  have c2_1_0 : w2.cell? ⟨w.heap.size + 1, 0, none⟩ = some (.slice none 0 0) := cell_of_row _ _ 0 _ _ (0, 0) b2_1.out
  have f2_1_0 : w2.frozen? ⟨w.heap.size + 1, 0, none⟩ = false := block_free b2_1.out _
  have c2_1_1 : w2.cell? ⟨w.heap.size + 1, 1, none⟩ = some (.slice none 0 0) := cell_of_row _ _ 1 _ _ (0, 0) b2_1.out
  have f2_1_1 : w2.frozen? ⟨w.heap.size + 1, 1, none⟩ = false := block_free b2_1.out _
  have c2_1_2 : w2.cell? ⟨w.heap.size + 1, 2, none⟩ = some (.bool false) := cell_of_row _ _ 2 _ _ (0, 0) b2_1.out
  have f2_1_2 : w2.frozen? ⟨w.heap.size + 1, 2, none⟩ = false := block_free b2_1.out _
  have hl2 : lo2 ≤ w2.heap.size := by omega
  cases gone
  rotate_left
  · skip
    have HF : Hid (so = false) := Lib.hid (by rw [HSO.out]; simp [])
    have HD : Hid (sd = (x0, x1, true)) := Lib.hid (by rw [HSD.out]; simp [])
    go_wp2_with fail
    refine bodyPost_ret (v := .tuple #[.agg #[.slice B0 m0 d0, .slice B1 m1 d1, .bool true], .bool false]) (by simp [results, Try.results19, go_sem, *]) rfl ⟨[.slice B0 m0 d0, .slice B1 m1 d1, .bool true], by rw [HF.out], ?_, by repeat (first | exact X2 | refine Below.setCell ?_ (by simp <;> omega) _ | refine Below.alloc ?_ (by simp <;> omega) _)⟩
    rw [HD.out]; exact DiskN.wide (by omega) (by simp [World.setCell]) (Nat.le_refl _) _ _ (DiskN.keep (by repeat (first | exact Same.refl _ _ _ | refine Same.setCell ?_ (by first | exact .inl (by simp <;> omega) | exact .inr (by simp <;> omega)) _ | refine Same.alloc ?_ _ (by simp [World.setCell] <;> omega))) (by simp [World.setCell]) _ _ HN.out)
  cases a1 : inB at_ 0 63
  · have HA := Lib.hid a1; rw [a1] at R1; clear a1
    have HF : Hid (so = false) := Lib.hid (by rw [HSO.out]; simp [HA.out])
    have HD : Hid (sd = (x0, x1, false)) := Lib.hid (by rw [HSD.out]; simp [HA.out])
    go_wp2_with (go_at_call 54; with_reducible refine (R1 _).mono ?_; rintro e w' ⟨rfl, rfl⟩)
    refine bodyPost_ret (v := .tuple #[.agg #[.slice B0 m0 d0, .slice B1 m1 d1, .bool false], .bool false]) (by simp [results, Try.results19, go_sem, *]) rfl ⟨[.slice B0 m0 d0, .slice B1 m1 d1, .bool false], by rw [HF.out], ?_, by repeat (first | exact X2 | refine Below.setCell ?_ (by simp <;> omega) _ | refine Below.alloc ?_ (by simp <;> omega) _)⟩
    rw [HD.out]; exact DiskN.wide (by omega) (by simp [World.setCell]) (Nat.le_refl _) _ _ (DiskN.keep (by repeat (first | exact Same.refl _ _ _ | refine Same.setCell ?_ (by first | exact .inl (by simp <;> omega) | exact .inr (by simp <;> omega)) _ | refine Same.alloc ?_ _ (by simp [World.setCell] <;> omega))) (by simp [World.setCell]) _ _ HN.out)
  have HA := Lib.hid a1; rw [a1] at R1; clear a1
  by_cases s2 : s.size ≤ 200
  rotate_left
  · have d9 : (200 : Int) < (s.size : Int) := by omega
    have HF : Hid (so = false) := Lib.hid (by rw [HSO.out]; simp [show ¬ s.size ≤ 200 from s2])
    have HD : Hid (sd = (x0, x1, false)) := Lib.hid (by rw [HSD.out]; simp [show ¬ s.size ≤ 200 from s2])
    go_wp2_with (go_at_call 54; with_reducible refine (R1 _).mono ?_; rintro e w' ⟨rfl, rfl⟩)
    refine bodyPost_ret (v := .tuple #[.agg #[.slice B0 m0 d0, .slice B1 m1 d1, .bool false], .bool false]) (by simp [results, Try.results19, go_sem, *]) rfl ⟨[.slice B0 m0 d0, .slice B1 m1 d1, .bool false], by rw [HF.out], ?_, by repeat (first | exact X2 | refine Below.setCell ?_ (by simp <;> omega) _ | refine Below.alloc ?_ (by simp <;> omega) _)⟩
    rw [HD.out]; exact DiskN.wide (by omega) (by simp [World.setCell]) (Nat.le_refl _) _ _ (DiskN.keep (by repeat (first | exact Same.refl _ _ _ | refine Same.setCell ?_ (by first | exact .inl (by simp <;> omega) | exact .inr (by simp <;> omega)) _ | refine Same.alloc ?_ _ (by simp [World.setCell] <;> omega))) (by simp [World.setCell]) _ _ HN.out)
  have d9 : ¬ (200 : Int) < (s.size : Int) := by omega
  by_cases s3 : n1 = 120
  · have hx : ¬ x1.length < 120 := by have := HN1.out; omega
    have d8 : (n1 : Int) = 120 := by omega
    have HF : Hid (so = false) := Lib.hid (by rw [HSO.out]; simp [hx])
    have HD : Hid (sd = (x0, x1, false)) := Lib.hid (by rw [HSD.out]; simp [hx])
    go_wp2_with (go_at_call 54; with_reducible refine (R1 _).mono ?_; rintro e w' ⟨rfl, rfl⟩)
    refine bodyPost_ret (v := .tuple #[.agg #[.slice B0 m0 d0, .slice B1 m1 d1, .bool false], .bool false]) (by simp [results, Try.results19, go_sem, *]) rfl ⟨[.slice B0 m0 d0, .slice B1 m1 d1, .bool false], by rw [HF.out], ?_, by repeat (first | exact X2 | refine Below.setCell ?_ (by simp <;> omega) _ | refine Below.alloc ?_ (by simp <;> omega) _)⟩
    rw [HD.out]; exact DiskN.wide (by omega) (by simp [World.setCell]) (Nat.le_refl _) _ _ (DiskN.keep (by repeat (first | exact Same.refl _ _ _ | refine Same.setCell ?_ (by first | exact .inl (by simp <;> omega) | exact .inr (by simp <;> omega)) _ | refine Same.alloc ?_ _ (by simp [World.setCell] <;> omega))) (by simp [World.setCell]) _ _ HN.out)
  have hx : x1.length < 120 := by have := HLEN.out.2; have := HN1.out; omega
  have d8 : ¬ (n1 : Int) = 120 := by omega
  have d7 : ((n1 : Int) == 120) = false := by simpa using d8
  have HF : Hid (so = true) := Lib.hid (by rw [HSO.out, HA.out, decide_eq_true s2, decide_eq_true hx]; rfl)
  have HD : Hid (sd = (x0, x1 ++ [(at_, s)], false)) := Lib.hid (by rw [HSD.out, HA.out, decide_eq_true s2, decide_eq_true hx]; rfl)
  obtain ⟨S, vs, hOA, hvl, hrv, hvx, hSb⟩ := G1.out.ownA K1.out (by decide)
  have HV := Lib.hid (And.intro hvl hrv); have HSB := Lib.hid hSb; clear hvl hrv hSb
  have HOA : Hid (OwnA (World.alloc (World.alloc w2 (.cells #[.slice B0 m0 d0, .slice B1 m1 d1, .bool false] 26)) (.cells #[.int .i64 at_, .string s] 78)) 78 2 S B1 m1 d1 vs) := Lib.hid ((hOA.below (Below.alloc (Below.alloc (Below.refl _ _) (by simp [World.setCell] <;> omega) _) (by simp [World.setCell] <;> omega) _))); clear hOA
  have HLIT : Hid (RowAt (World.alloc (World.alloc w2 (.cells #[.slice B0 m0 d0, .slice B1 m1 d1, .bool false] 26)) (.cells #[.int .i64 at_, .string s] 78)) (some ⟨w2.heap.size + 1, 0, none⟩) (1 * 2) [.int .i64 at_, .string s]) := Lib.hid (RowAt.pair (t := 78) (show _ from by have := heap_alloc_new (World.alloc w2 (.cells #[.slice B0 m0 d0, .slice B1 m1 d1, .bool false] 26)) (.cells #[.int .i64 at_, .string s] 78); simpa [World.setCell] using this))
  have HONE : Hid (∀ u ∈ [Value.int .i64 at_, .string s], u.oneCell' = true) := Lib.hid (by intro u hu; simp at hu; rcases hu with rfl | rfl <;> rfl)
  clear hvx
  go_wp2_with (first | (go_at_call 54; with_reducible refine (R1 _).mono ?_; rintro e w' ⟨rfl, rfl⟩) | (at_builtin; go_must (refine wpList_append_row rfl _ _ 24 rfl 78 i0 (.agg #[.int .i64 0, .string ⟨#[]⟩]) 2 24 Try.underlying24 hi0 hz0 hz1 hz2 rfl (by decide) S (B1) (some ⟨w2.heap.size + 1, 0, none⟩) (m1) (d1) (1) _ vs [.int .i64 at_, .string s] rfl rfl HOA.out HLIT.out HONE.out (by unfold maxLen; omega) (by omega) ?_)))
  intro A' c' S' w9 hO' hS' hC'
  have HC : Hid (Chg (· ∈ S) (World.alloc (World.alloc w2 (.cells #[.slice B0 m0 d0, .slice B1 m1 d1, .bool false] 26)) (.cells #[.int .i64 at_, .string s] 78)) w9) := Lib.hid hC'
  have HO := Lib.hid hO'; have HS := Lib.hid hS'; clear hO' hS' hC'
  have z9 : w2.heap.size + 2 ≤ w9.heap.size := by have := HC.out.size; simp at this; omega
  have hns : ∀ b, (b < lo2 ∨ w2.heap.size ≤ b) → ¬ b ∈ S := fun b hb hbs => by have := HSB.out b hbs; omega
  have X9 : Below w.heap.size w w9 := (Below.trans (show Below w.heap.size w (World.alloc (World.alloc w2 (.cells #[.slice B0 m0 d0, .slice B1 m1 d1, .bool false] 26)) (.cells #[.int .i64 at_, .string s] 78)) from (Below.alloc (Below.alloc X2 (by have := X2.size; simp [World.setCell] <;> omega) _) (by have := X2.size; simp [World.setCell] <;> omega) _)) (HC.out.below (B := w.heap.size) (fun k _ hk => by have := HSB.out k hk; omega) (by simp <;> omega)))
  have b9_0 : Hid (w9.heap[w.heap.size + 1]? = some (.cells #[.slice none 0 0, .slice none 0 0, .bool false] 26 (0, 0))) := Lib.hid ((HC.out.block _ (by simp <;> omega) (hns _ (by omega))).trans ((Below.heap_alloc _ _ _ (by first | omega | (simp [World.setCell] <;> omega))).trans ((Below.heap_alloc _ _ _ (by first | omega | (simp [World.setCell] <;> omega))).trans b2_1.out)))
  have b9_1 : Hid (w9.heap[w2.heap.size]? = some (.cells #[.slice B0 m0 d0, .slice B1 m1 d1, .bool false] 26 (0, 0))) := Lib.hid ((HC.out.block _ (by simp <;> omega) (hns _ (by omega))).trans ((Below.heap_alloc _ _ _ (by first | omega | (simp [World.setCell] <;> omega))).trans (show _ from by have := heap_alloc_new w2 (.cells #[.slice B0 m0 d0, .slice B1 m1 d1, .bool false] 26); simpa [World.setCell] using this)))
  have HT : Hid (∀ b, lo2 ≤ b → b < w2.heap.size → ¬ b ∈ S → w9.heap[b]? = w2.heap[b]?) := Lib.hid (fun b h1 h2 h3 => (HC.out.block _ (by simp <;> omega) h3).trans ((Below.heap_alloc _ _ _ (by simp <;> omega)).trans (Below.heap_alloc _ _ _ (by omega))))
  clear b2_0 b2_1 zz2 X2 HC HOA HLIT HONE l2_0 c2_0_0 f2_0_0 c2_0_1 f2_0_1 c2_0_2 f2_0_2 l2_1 c2_1_0 f2_1_0 c2_1_1 f2_1_1 c2_1_2 f2_1_2
  have l9_0 : w.heap.size + 1 < w9.heap.size := (Array.getElem?_eq_some_iff.1 b9_0.out).1
  have c9_0_0 : w9.cell? ⟨w.heap.size + 1, 0, none⟩ = some (.slice none 0 0) := cell_of_row _ _ 0 _ _ (0, 0) b9_0.out
  have f9_0_0 : w9.frozen? ⟨w.heap.size + 1, 0, none⟩ = false := block_free b9_0.out _
  have c9_0_1 : w9.cell? ⟨w.heap.size + 1, 1, none⟩ = some (.slice none 0 0) := cell_of_row _ _ 1 _ _ (0, 0) b9_0.out
  have f9_0_1 : w9.frozen? ⟨w.heap.size + 1, 1, none⟩ = false := block_free b9_0.out _
  have c9_0_2 : w9.cell? ⟨w.heap.size + 1, 2, none⟩ = some (.bool false) := cell_of_row _ _ 2 _ _ (0, 0) b9_0.out
  have f9_0_2 : w9.frozen? ⟨w.heap.size + 1, 2, none⟩ = false := block_free b9_0.out _
  have l9_1 : w2.heap.size < w9.heap.size := (Array.getElem?_eq_some_iff.1 b9_1.out).1
  have c9_1_0 : w9.cell? ⟨w2.heap.size, 0, none⟩ = some (.slice B0 m0 d0) := cell_of_row _ _ 0 _ _ (0, 0) b9_1.out
  have f9_1_0 : w9.frozen? ⟨w2.heap.size, 0, none⟩ = false := block_free b9_1.out _
  have c9_1_1 : w9.cell? ⟨w2.heap.size, 1, none⟩ = some (.slice B1 m1 d1) := cell_of_row _ _ 1 _ _ (0, 0) b9_1.out
  have f9_1_1 : w9.frozen? ⟨w2.heap.size, 1, none⟩ = false := block_free b9_1.out _
  have c9_1_2 : w9.cell? ⟨w2.heap.size, 2, none⟩ = some (.bool false) := cell_of_row _ _ 2 _ _ (0, 0) b9_1.out
  have f9_1_2 : w9.frozen? ⟨w2.heap.size, 2, none⟩ = false := block_free b9_1.out _
  go_wp2_with fail
  refine bodyPost_ret (v := .tuple #[.agg #[.slice B0 m0 d0, .slice A' (m1 + 1) c', .bool false], .bool true]) (by simp [results, Try.results19, go_sem, *]) rfl ⟨[.slice B0 m0 d0, .slice A' (m1 + 1) c', .bool false], by rw [HF.out], ?_, by repeat (first | exact X9 | refine Below.setCell ?_ (by simp <;> omega) _ | refine Below.alloc ?_ (by simp <;> omega) _)⟩
  rw [HD.out]
  have hk : ∀ b, blkOf B0 b → lo2 ≤ b → b < w2.heap.size → 0 < d0 → ¬ b ∈ S := fun b hb _ _ hd hbs => by
    obtain ⟨h1, h2, _⟩ := HSB.out b hbs
    exact Whole.ne K0.out K1.out (by decide) hd h2 b hb h1
  have hz9 : w2.heap.size ≤ w9.heap.size := by omega
  have t0 : SliceR StrR 1 w9 lo2 w2.heap.size B0 m0 d0 x0 := G0.out.keepB hz9 (fun hm b hb h1 h2 => HT.out b h1 h2 (hk b hb h1 h2 (K0.out.pos hm))) (fun _ _ h => h)
  have t1 : Whole w9 9 1 lo2 w2.heap.size B0 m0 d0 := K0.out.keepB (fun hm b hb h1 h2 => HT.out b h1 h2 (hk b hb h1 h2 hm))
  have hvv : RowV (WaitR w9 lo2 w9.heap.size) 2 (vs ++ [.int .i64 at_, .string s]) (x1 ++ [(at_, s)]) := RowV.append (show RowV (WaitR w9 lo2 w9.heap.size) 2 vs x1 from HV.out.2) (WaitR.row1 at_ s (by unfold maxLen; omega)) HV.out.1
  obtain ⟨t2, t3⟩ := OwnA.slice (R := WaitR) (lo := lo2) (hi := w9.heap.size) HO.out (by have := HN1.out; have := HM1.out; simp; omega) hvv (fun g hg => ⟨(HS.out g hg).elim (fun h => (HSB.out g h).2.2.1) (fun h => by first | (simp at h; omega) | omega), HO.out.lt g hg⟩) (Nat.le_refl _)
  have hq : ∀ b, blkOf A' b → 0 < c' → b ≠ w2.heap.size := fun b hb hc e => (HS.out b (HO.out.blk hc hb)).elim (fun h => by have := HSB.out b h; omega) (fun h => by first | (simp at h; omega) | omega)
  have hfin : ∀ F : World, (∀ b, lo2 ≤ b → b < w9.heap.size → b ≠ w2.heap.size → F.heap[b]? = w9.heap[b]?) → w9.heap.size ≤ F.heap.size → DiskN F w.heap.size F.heap.size [.slice B0 m0 d0, .slice A' (m1 + 1) c', .bool false] (x0, x1 ++ [(at_, s)], false) := by
    intro F h1 h2
    exact ⟨_, _, _, _, _, _, rfl, (t0.keepB (by omega) (fun _ b _ h3 h4 => h1 b h3 (by omega) (by omega)) (fun _ _ h => h)).wide (by omega) (by omega) (Nat.le_refl _) (fun _ _ h => h), (t1.keepB (fun _ b _ h3 h4 => h1 b h3 (by omega) (by omega))).wide (by omega) (by omega), (t2.keepB h2 (fun hm b hb h3 h4 => h1 b h3 h4 (hq b hb (t3.pos hm))) (fun _ _ h => h)).wide (by omega) h2 (Nat.le_refl _) (fun _ _ h => h), (t3.keepB (fun hm b hb h3 h4 => h1 b h3 h4 (hq b hb hm))).wide (by omega) h2⟩
  exact hfin _ (fun b h1 h2 h3 => by repeat (first | exact rfl | refine (heap_far (by simp <;> omega)).trans ?_)) (by simp [World.setCell])

set_option maxRecDepth 100000 in
set_option maxHeartbeats 4000000 in
theorem l3Write_any (A0 : Option Addr) (n0 c0 : Nat) (A1 : Option Addr) (n1 c1 : Nat) (x0 : List ByteArray) (x1 : List WaitD) (gone : Bool) (at_ : Int) (s : ByteArray) (w : World) (lo hi : Nat) (h1 : SliceR WaitR 2 w lo hi A1 n1 c1 x1) (hs : s.size ≤ maxLen) (hm : n1 ≤ 120) :
    Calls Try.prog 66 #[.agg #[.slice A0 n0 c0, .slice A1 n1 c1, .bool gone], .int .i64 at_, .string s] w fun e w' => ∃ A n c, e = .returned (.tuple #[.agg #[.slice A0 n0 c0, .slice A n c, .bool gone], .bool (writeGo (x0, x1, gone) at_ s)]) ∧ Below w.heap.size w w' ∧
      (writeGo (x0, x1, gone) at_ s = false → A = A1 ∧ n = n1 ∧ c = c1) ∧ (writeGo (x0, x1, gone) at_ s = true → SliceR WaitR 2 w' w.heap.size w'.heap.size A n c (x1 ++ [(at_, s)]) ∧ Whole w' 78 2 w.heap.size w'.heap.size A n c) := by
  unfold maxLen at hs
  have H1 := Lib.hid h1
  have HN1 : Hid (x1.length = n1) := Lib.hid h1.len
  have HLE := Lib.hid h1.lo_le
  have HWG : Hid (writeGo (x0, x1, gone) at_ s = (!gone && inB at_ 0 63 && decide (s.size ≤ 200) && decide (x1.length < 120))) := Lib.hid rfl
  generalize writeGo (x0, x1, gone) at_ s = wg at *
  clear h1
  obtain ⟨i0, hi0, hz0, hz1, hz2⟩ := info_parts infoE_WaitS
  have R1 := l3Cell_any at_
  go_enter Try.func66, Try.ntmps66
  cases gone
  rotate_left
  · skip
    have HF : Hid (wg = false) := Lib.hid (by rw [HWG.out]; simp [])
    go_wp2_with fail
    exact bodyPost_ret (v := .tuple #[.agg #[.slice A0 n0 c0, .slice A1 n1 c1, .bool true], .bool false]) (by simp [results, Try.results66, go_sem, *]) rfl ⟨A1, n1, c1, by rw [HF.out], by repeat (first | exact Below.refl _ _ | refine Below.setCell ?_ (by first | exact Nat.le_refl _ | (simp <;> omega)) _ | refine Below.alloc ?_ (by first | exact Nat.le_refl _ | (simp <;> omega)) _), fun _ => ⟨rfl, rfl, rfl⟩, fun h => by rw [HF.out] at h; cases h⟩
  cases a1 : inB at_ 0 63
  · have HA := Lib.hid a1; rw [a1] at R1; clear a1
    have HF : Hid (wg = false) := Lib.hid (by rw [HWG.out]; simp [HA.out])
    go_wp2_with (go_at_call 64; with_reducible refine (R1 _).mono ?_; rintro e w' ⟨rfl, rfl⟩)
    exact bodyPost_ret (v := .tuple #[.agg #[.slice A0 n0 c0, .slice A1 n1 c1, .bool false], .bool false]) (by simp [results, Try.results66, go_sem, *]) rfl ⟨A1, n1, c1, by rw [HF.out], by repeat (first | exact Below.refl _ _ | refine Below.setCell ?_ (by first | exact Nat.le_refl _ | (simp <;> omega)) _ | refine Below.alloc ?_ (by first | exact Nat.le_refl _ | (simp <;> omega)) _), fun _ => ⟨rfl, rfl, rfl⟩, fun h => by rw [HF.out] at h; cases h⟩
  have HA := Lib.hid a1; rw [a1] at R1; clear a1
  by_cases s2 : s.size ≤ 200
  rotate_left
  · have d9 : (200 : Int) < (s.size : Int) := by omega
    have HF : Hid (wg = false) := Lib.hid (by rw [HWG.out]; simp [show ¬ s.size ≤ 200 from s2])
    go_wp2_with (go_at_call 64; with_reducible refine (R1 _).mono ?_; rintro e w' ⟨rfl, rfl⟩)
    exact bodyPost_ret (v := .tuple #[.agg #[.slice A0 n0 c0, .slice A1 n1 c1, .bool false], .bool false]) (by simp [results, Try.results66, go_sem, *]) rfl ⟨A1, n1, c1, by rw [HF.out], by repeat (first | exact Below.refl _ _ | refine Below.setCell ?_ (by first | exact Nat.le_refl _ | (simp <;> omega)) _ | refine Below.alloc ?_ (by first | exact Nat.le_refl _ | (simp <;> omega)) _), fun _ => ⟨rfl, rfl, rfl⟩, fun h => by rw [HF.out] at h; cases h⟩
  have d9 : ¬ (200 : Int) < (s.size : Int) := by omega
  by_cases s3 : n1 = 120
  · have hx : ¬ x1.length < 120 := by have := HN1.out; omega
    have d8 : (120 : Int) ≤ (n1 : Int) := by omega
    have HF : Hid (wg = false) := Lib.hid (by rw [HWG.out]; simp [hx])
    go_wp2_with (go_at_call 64; with_reducible refine (R1 _).mono ?_; rintro e w' ⟨rfl, rfl⟩)
    exact bodyPost_ret (v := .tuple #[.agg #[.slice A0 n0 c0, .slice A1 n1 c1, .bool false], .bool false]) (by simp [results, Try.results66, go_sem, *]) rfl ⟨A1, n1, c1, by rw [HF.out], by repeat (first | exact Below.refl _ _ | refine Below.setCell ?_ (by first | exact Nat.le_refl _ | (simp <;> omega)) _ | refine Below.alloc ?_ (by first | exact Nat.le_refl _ | (simp <;> omega)) _), fun _ => ⟨rfl, rfl, rfl⟩, fun h => by rw [HF.out] at h; cases h⟩
  have hx : x1.length < 120 := by have := HN1.out; omega
  have d8 : ¬ (120 : Int) ≤ (n1 : Int) := by omega
  have HF : Hid (wg = true) := Lib.hid (by rw [HWG.out, HA.out, decide_eq_true s2, decide_eq_true hx]; rfl)
  obtain ⟨vs, r1, r2, r3, r4⟩ := H1.out.row (by decide)
  have HR : Hid (RowAt (World.alloc (World.alloc (World.alloc w (.cells #[.slice A0 n0 c0, .slice A1 n1 c1, .bool false] 26)) (.cells #[.slice none 0 0, .slice none 0 0, .bool false] 26)) (.cells #[] 78)) A1 (n1 * 2) vs) := Lib.hid (r1.below (Below.alloc (Below.alloc (Below.alloc (Below.refl _ _) (by simp [World.setCell] <;> omega) _) (by simp [World.setCell] <;> omega) _) (by simp [World.setCell] <;> omega) _))
  have HV := Lib.hid (And.intro r2 r3); have HO4 := Lib.hid (wait_one r4); clear r1 r2 r3 r4
  have HE : Hid (OwnA (World.alloc (World.alloc (World.alloc w (.cells #[.slice A0 n0 c0, .slice A1 n1 c1, .bool false] 26)) (.cells #[.slice none 0 0, .slice none 0 0, .bool false] 26)) (.cells #[] 78)) 78 2 [] (some ⟨w.heap.size + 2, 0, none⟩) 0 0 []) := Lib.hid (OwnA.nil _)
  go_wp2_with (first | (go_at_call 64; with_reducible refine (R1 _).mono ?_; rintro e w' ⟨rfl, rfl⟩) | (at_builtin; go_must (refine wpList_append_row rfl _ _ 24 rfl 78 i0 (.agg #[.int .i64 0, .string ⟨#[]⟩]) 2 24 Try.underlying24 hi0 hz0 hz1 hz2 rfl (by decide) [] (some ⟨w.heap.size + 2, 0, none⟩) (A1) (0) (0) (n1) _ [] vs rfl rfl HE.out HR.out HO4.out (by unfold maxLen; omega) (by omega) ?_)))
  intro A' c' S' w1 hO' hS' hC'
  try simp only [Nat.zero_add, List.nil_append] at hO'
  have HO := Lib.hid hO'; have HS := Lib.hid hS'; clear hO' hS'
  have hb1 : Below ((World.alloc (World.alloc (World.alloc w (.cells #[.slice A0 n0 c0, .slice A1 n1 c1, .bool false] 26)) (.cells #[.slice none 0 0, .slice none 0 0, .bool false] 26)) (.cells #[] 78))).heap.size ((World.alloc (World.alloc (World.alloc w (.cells #[.slice A0 n0 c0, .slice A1 n1 c1, .bool false] 26)) (.cells #[.slice none 0 0, .slice none 0 0, .bool false] 26)) (.cells #[] 78))) w1 := hC'.below (fun k _ hk => by simp at hk) (Nat.le_refl _)
  clear hC' HE HR
  have zz1 : w.heap.size + 3 ≤ w1.heap.size := by have := hb1.size; simp [World.setCell] at this; omega
  have YY1 : Below w.heap.size w (World.alloc (World.alloc (World.alloc w (.cells #[.slice A0 n0 c0, .slice A1 n1 c1, .bool false] 26)) (.cells #[.slice none 0 0, .slice none 0 0, .bool false] 26)) (.cells #[] 78)) := (Below.alloc (Below.alloc (Below.alloc (Below.refl _ _) (by first | exact Nat.le_refl _ | (simp [World.setCell] <;> omega)) _) (by first | exact Nat.le_refl _ | (simp [World.setCell] <;> omega)) _) (by first | exact Nat.le_refl _ | (simp [World.setCell] <;> omega)) _)
  have X1 : Below w.heap.size w w1 := YY1.trans (hb1.mono YY1.size)
  clear YY1
  have b1_0 : Hid (w1.heap[w.heap.size]? = some (.cells #[.slice A0 n0 c0, .slice A1 n1 c1, .bool false] 26 (0, 0))) := Lib.hid ((hb1.block _ (by first | omega | (simp [World.setCell] <;> omega))).trans ((Below.heap_alloc _ _ _ (by first | omega | (simp [World.setCell] <;> omega))).trans ((Below.heap_alloc _ _ _ (by first | omega | (simp [World.setCell] <;> omega))).trans (show _ from by have := heap_alloc_new w (.cells #[.slice A0 n0 c0, .slice A1 n1 c1, .bool false] 26); simpa [World.setCell] using this))))
  have b1_1 : Hid (w1.heap[w.heap.size + 1]? = some (.cells #[.slice none 0 0, .slice none 0 0, .bool false] 26 (0, 0))) := Lib.hid ((hb1.block _ (by first | omega | (simp [World.setCell] <;> omega))).trans ((Below.heap_alloc _ _ _ (by first | omega | (simp [World.setCell] <;> omega))).trans (show _ from by have := heap_alloc_new (World.alloc w (.cells #[.slice A0 n0 c0, .slice A1 n1 c1, .bool false] 26)) (.cells #[.slice none 0 0, .slice none 0 0, .bool false] 26); simpa [World.setCell] using this)))
  clear hb1
  have l1_0 : w.heap.size < w1.heap.size := (Array.getElem?_eq_some_iff.1 b1_0.out).1
  have c1_0_0 : w1.cell? ⟨w.heap.size, 0, none⟩ = some (.slice A0 n0 c0) := cell_of_row _ _ 0 _ _ (0, 0) b1_0.out
  have f1_0_0 : w1.frozen? ⟨w.heap.size, 0, none⟩ = false := block_free b1_0.out _
  have c1_0_1 : w1.cell? ⟨w.heap.size, 1, none⟩ = some (.slice A1 n1 c1) := cell_of_row _ _ 1 _ _ (0, 0) b1_0.out
  have f1_0_1 : w1.frozen? ⟨w.heap.size, 1, none⟩ = false := block_free b1_0.out _
  have c1_0_2 : w1.cell? ⟨w.heap.size, 2, none⟩ = some (.bool false) := cell_of_row _ _ 2 _ _ (0, 0) b1_0.out
  have f1_0_2 : w1.frozen? ⟨w.heap.size, 2, none⟩ = false := block_free b1_0.out _
  have l1_1 : w.heap.size + 1 < w1.heap.size := (Array.getElem?_eq_some_iff.1 b1_1.out).1
  have c1_1_0 : w1.cell? ⟨w.heap.size + 1, 0, none⟩ = some (.slice none 0 0) := cell_of_row _ _ 0 _ _ (0, 0) b1_1.out
  have f1_1_0 : w1.frozen? ⟨w.heap.size + 1, 0, none⟩ = false := block_free b1_1.out _
  have c1_1_1 : w1.cell? ⟨w.heap.size + 1, 1, none⟩ = some (.slice none 0 0) := cell_of_row _ _ 1 _ _ (0, 0) b1_1.out
  have f1_1_1 : w1.frozen? ⟨w.heap.size + 1, 1, none⟩ = false := block_free b1_1.out _
  have c1_1_2 : w1.cell? ⟨w.heap.size + 1, 2, none⟩ = some (.bool false) := cell_of_row _ _ 2 _ _ (0, 0) b1_1.out
  have f1_1_2 : w1.frozen? ⟨w.heap.size + 1, 2, none⟩ = false := block_free b1_1.out _
  have hgs : ∀ g ∈ S', w.heap.size + 3 ≤ g := fun g hg => by have h := HS.out g hg; first | omega | (simp at h; omega)
  have HGS := Lib.hid hgs; clear hgs HS
  have HOA : Hid (OwnA (World.alloc w1 (.cells #[.int .i64 at_, .string s] 78)) 78 2 S' A' n1 c' vs) := Lib.hid (HO.out.below (Below.alloc (Below.refl _ _) (by simp [World.setCell] <;> omega) _))
  have HLIT : Hid (RowAt (World.alloc w1 (.cells #[.int .i64 at_, .string s] 78)) (some ⟨w1.heap.size, 0, none⟩) (1 * 2) [.int .i64 at_, .string s]) := Lib.hid (RowAt.pair (t := 78) (show _ from by have := heap_alloc_new w1 (.cells #[.int .i64 at_, .string s] 78); simpa [World.setCell] using this))
  have HONE : Hid (∀ u ∈ [Value.int .i64 at_, .string s], u.oneCell' = true) := Lib.hid (by intro u hu; simp at hu; rcases hu with rfl | rfl <;> rfl)
  go_wp2_with (at_builtin; go_must (refine wpList_append_row rfl _ _ 24 rfl 78 i0 (.agg #[.int .i64 0, .string ⟨#[]⟩]) 2 24 Try.underlying24 hi0 hz0 hz1 hz2 rfl (by decide) S' (A') (some ⟨w1.heap.size, 0, none⟩) (n1) (c') (1) _ vs [.int .i64 at_, .string s] rfl rfl HOA.out HLIT.out HONE.out (by unfold maxLen; omega) (by omega) ?_))
  intro B' d' T' w9 hO' hS' hC'
  have HC : Hid (Chg (· ∈ S') (World.alloc w1 (.cells #[.int .i64 at_, .string s] 78)) w9) := Lib.hid hC'
  have HP := Lib.hid hO'; have HT := Lib.hid hS'; clear hO' hS' hC'
  have z9 : w1.heap.size + 1 ≤ w9.heap.size := by have := HC.out.size; simp at this; omega
  have hns : ∀ b, b < w.heap.size + 2 → ¬ b ∈ S' := fun b hb hbs => by have := HGS.out b hbs; omega
  have X9 : Below w.heap.size w w9 := (Below.trans (show Below w.heap.size w (World.alloc w1 (.cells #[.int .i64 at_, .string s] 78)) from (Below.alloc X1 (by have := X1.size; simp [World.setCell] <;> omega) _)) (HC.out.below (B := w.heap.size) (fun k _ hk => by have := HGS.out k hk; omega) (by simp <;> omega)))
  have b9_0 : Hid (w9.heap[w.heap.size]? = some (.cells #[.slice A0 n0 c0, .slice A1 n1 c1, .bool false] 26 (0, 0))) := Lib.hid ((HC.out.block _ (by simp <;> omega) (hns _ (by omega))).trans ((Below.heap_alloc _ _ _ (by first | omega | (simp [World.setCell] <;> omega))).trans b1_0.out))
  have b9_1 : Hid (w9.heap[w.heap.size + 1]? = some (.cells #[.slice none 0 0, .slice none 0 0, .bool false] 26 (0, 0))) := Lib.hid ((HC.out.block _ (by simp <;> omega) (hns _ (by omega))).trans ((Below.heap_alloc _ _ _ (by first | omega | (simp [World.setCell] <;> omega))).trans b1_1.out))
  clear b1_0 b1_1 X1 HC HOA HLIT HONE l1_0 c1_0_0 f1_0_0 c1_0_1 f1_0_1 c1_0_2 f1_0_2 l1_1 c1_1_0 f1_1_0 c1_1_1 f1_1_1 c1_1_2 f1_1_2
  have l9_0 : w.heap.size < w9.heap.size := (Array.getElem?_eq_some_iff.1 b9_0.out).1
  have c9_0_0 : w9.cell? ⟨w.heap.size, 0, none⟩ = some (.slice A0 n0 c0) := cell_of_row _ _ 0 _ _ (0, 0) b9_0.out
  have f9_0_0 : w9.frozen? ⟨w.heap.size, 0, none⟩ = false := block_free b9_0.out _
  have c9_0_1 : w9.cell? ⟨w.heap.size, 1, none⟩ = some (.slice A1 n1 c1) := cell_of_row _ _ 1 _ _ (0, 0) b9_0.out
  have f9_0_1 : w9.frozen? ⟨w.heap.size, 1, none⟩ = false := block_free b9_0.out _
  have c9_0_2 : w9.cell? ⟨w.heap.size, 2, none⟩ = some (.bool false) := cell_of_row _ _ 2 _ _ (0, 0) b9_0.out
  have f9_0_2 : w9.frozen? ⟨w.heap.size, 2, none⟩ = false := block_free b9_0.out _
  have l9_1 : w.heap.size + 1 < w9.heap.size := (Array.getElem?_eq_some_iff.1 b9_1.out).1
  have c9_1_0 : w9.cell? ⟨w.heap.size + 1, 0, none⟩ = some (.slice none 0 0) := cell_of_row _ _ 0 _ _ (0, 0) b9_1.out
  have f9_1_0 : w9.frozen? ⟨w.heap.size + 1, 0, none⟩ = false := block_free b9_1.out _
  have c9_1_1 : w9.cell? ⟨w.heap.size + 1, 1, none⟩ = some (.slice none 0 0) := cell_of_row _ _ 1 _ _ (0, 0) b9_1.out
  have f9_1_1 : w9.frozen? ⟨w.heap.size + 1, 1, none⟩ = false := block_free b9_1.out _
  have c9_1_2 : w9.cell? ⟨w.heap.size + 1, 2, none⟩ = some (.bool false) := cell_of_row _ _ 2 _ _ (0, 0) b9_1.out
  have f9_1_2 : w9.frozen? ⟨w.heap.size + 1, 2, none⟩ = false := block_free b9_1.out _
  go_wp2_with fail
  have hvv : RowV (WaitR w9 w.heap.size w9.heap.size) 2 (vs ++ [.int .i64 at_, .string s]) (x1 ++ [(at_, s)]) := RowV.append (show RowV (WaitR w9 w.heap.size w9.heap.size) 2 vs x1 from HV.out.2) (WaitR.row1 at_ s (by unfold maxLen; omega)) HV.out.1
  have hT : ∀ g ∈ T', w.heap.size + 3 ≤ g := fun g hg => (HT.out g hg).elim (fun h => HGS.out g h) (fun h => by first | (simp at h; omega) | omega)
  obtain ⟨t2, t3⟩ := OwnA.slice (R := WaitR) (lo := w.heap.size + 3) (hi := w9.heap.size) HP.out (by have := HN1.out; simp; omega) hvv (fun g hg => ⟨hT g hg, HP.out.lt g hg⟩) (Nat.le_refl _)
  have hfin : ∀ F : World, Same (w.heap.size + 3) w9.heap.size w9 F → w9.heap.size ≤ F.heap.size → SliceR WaitR 2 F w.heap.size F.heap.size B' (n1 + 1) d' (x1 ++ [(at_, s)]) ∧ Whole F 78 2 w.heap.size F.heap.size B' (n1 + 1) d' := fun F h1 h2 =>
    ⟨(t2.keep h1 h2 (fun _ _ h => h)).wide (by omega) h2 (Nat.le_refl _) (fun _ _ h => h), (t3.keep h1).wide (by omega) h2⟩
  exact bodyPost_ret (v := .tuple #[.agg #[.slice A0 n0 c0, .slice B' (n1 + 1) d', .bool false], .bool true]) (by simp [results, Try.results66, go_sem, *]) rfl ⟨B', n1 + 1, d', by rw [HF.out], by repeat (first | exact X9 | refine Below.setCell ?_ (by simp <;> omega) _ | refine Below.alloc ?_ (by simp <;> omega) _), (fun h => by rw [HF.out] at h; cases h), fun _ => hfin _ (by repeat (first | exact Same.refl _ _ _ | refine Same.setCell ?_ (by first | exact .inl (by simp <;> omega) | exact .inr (by simp <;> omega)) _ | refine Same.alloc ?_ _ (by simp [World.setCell] <;> omega))) (by simp [World.setCell])⟩

set_option maxRecDepth 100000 in
set_option maxHeartbeats 4000000 in
theorem spDiskWrite_any (cs : List Value) (x : DiskD) (at_ : Int) (s : ByteArray) (w : World) (lo hi : Nat) (h : DiskR w lo hi cs x) (hs : s.size ≤ maxLen) :
    Calls Try.prog 25 #[.agg cs.toArray, .int .i64 at_, .string s] w (NewR2 DiskN w (writeD x at_ s) (writeOk x at_ s)) := by
  have HSZ := Lib.hid hs
  have H := Lib.hid h
  obtain ⟨x0, x1, gone⟩ := x
  obtain ⟨A0, n0, c0, A1, n1, c1, rfl, h0, h1⟩ := h
  have HLE := Lib.hid h0.lo_le
  show Calls Try.prog 25 #[.agg #[.slice A0 n0 c0, .slice A1 n1 c1, .bool gone], .int .i64 at_, .string s] w _
  obtain ⟨ok, hok⟩ : ∃ ok, ok = diskOk (x0, x1, gone) := ⟨_, rfl⟩
  have HOK := Lib.hid hok; clear hok
  obtain ⟨wg, hwg⟩ : ∃ g, g = writeGo (x0, x1, gone) at_ s := ⟨_, rfl⟩
  have HWG := Lib.hid hwg; clear hwg
  have HSO : Hid (writeOk (x0, x1, gone) at_ s = (ok && wg)) := Lib.hid (by rw [HOK.out, HWG.out]; rfl)
  have HSD : Hid (writeD (x0, x1, gone) at_ s = if ok = true then (if wg = true then (x0, x1 ++ [(at_, s)], gone) else (x0, x1, gone)) else ([], [], false)) := Lib.hid (by rw [HOK.out, HWG.out]; rfl)
  generalize writeD (x0, x1, gone) at_ s = sd at *
  generalize writeOk (x0, x1, gone) at_ s = so at *
  clear h0 h1 hs
  go_enter Try.func25, Try.ntmps25
  go_wp2_with fail
  refine (spDiskOk_any _ (x0, x1, gone) _ lo hi (DiskR.below (Below.alloc (Below.alloc (Below.refl _ _) (by first | exact Nat.le_refl _ | (simp [World.setCell] <;> omega)) _) (by first | exact Nat.le_refl _ | (simp [World.setCell] <;> omega)) _) HLE.out _ _ H.out)).mono ?_
  rw [← HOK.out]
  rintro e w1 ⟨rfl, hb1⟩
  have zz1 : w.heap.size + 2 ≤ w1.heap.size := by have := hb1.size; simp [World.setCell] at this; omega
  have YY1 : Below w.heap.size w (World.alloc (World.alloc w (.cells #[.slice A0 n0 c0, .slice A1 n1 c1, .bool gone] 26)) (.cells #[.slice none 0 0, .slice none 0 0, .bool false] 26)) := (Below.alloc (Below.alloc (Below.refl _ _) (by first | exact Nat.le_refl _ | (simp [World.setCell] <;> omega)) _) (by first | exact Nat.le_refl _ | (simp [World.setCell] <;> omega)) _)
  have X1 : Below w.heap.size w w1 := YY1.trans (hb1.mono YY1.size)
  clear YY1
  have b1_0 : Hid (w1.heap[w.heap.size]? = some (.cells #[.slice A0 n0 c0, .slice A1 n1 c1, .bool gone] 26 (0, 0))) := Lib.hid ((hb1.block _ (by first | omega | (simp [World.setCell] <;> omega))).trans ((Below.heap_alloc _ _ _ (by first | omega | (simp [World.setCell] <;> omega))).trans (show _ from by have := heap_alloc_new w (.cells #[.slice A0 n0 c0, .slice A1 n1 c1, .bool gone] 26); simpa [World.setCell] using this)))
  have b1_1 : Hid (w1.heap[w.heap.size + 1]? = some (.cells #[.slice none 0 0, .slice none 0 0, .bool false] 26 (0, 0))) := Lib.hid ((hb1.block _ (by first | omega | (simp [World.setCell] <;> omega))).trans (show _ from by have := heap_alloc_new (World.alloc w (.cells #[.slice A0 n0 c0, .slice A1 n1 c1, .bool gone] 26)) (.cells #[.slice none 0 0, .slice none 0 0, .bool false] 26); simpa [World.setCell] using this))
  clear hb1
  have l1_0 : w.heap.size < w1.heap.size := (Array.getElem?_eq_some_iff.1 b1_0.out).1
  have c1_0_0 : w1.cell? ⟨w.heap.size, 0, none⟩ = some (.slice A0 n0 c0) := cell_of_row _ _ 0 _ _ (0, 0) b1_0.out
  have f1_0_0 : w1.frozen? ⟨w.heap.size, 0, none⟩ = false := block_free b1_0.out _
  have c1_0_1 : w1.cell? ⟨w.heap.size, 1, none⟩ = some (.slice A1 n1 c1) := cell_of_row _ _ 1 _ _ (0, 0) b1_0.out
  have f1_0_1 : w1.frozen? ⟨w.heap.size, 1, none⟩ = false := block_free b1_0.out _
  have c1_0_2 : w1.cell? ⟨w.heap.size, 2, none⟩ = some (.bool gone) := cell_of_row _ _ 2 _ _ (0, 0) b1_0.out
  have f1_0_2 : w1.frozen? ⟨w.heap.size, 2, none⟩ = false := block_free b1_0.out _
  have l1_1 : w.heap.size + 1 < w1.heap.size := (Array.getElem?_eq_some_iff.1 b1_1.out).1
  have c1_1_0 : w1.cell? ⟨w.heap.size + 1, 0, none⟩ = some (.slice none 0 0) := cell_of_row _ _ 0 _ _ (0, 0) b1_1.out
  have f1_1_0 : w1.frozen? ⟨w.heap.size + 1, 0, none⟩ = false := block_free b1_1.out _
  have c1_1_1 : w1.cell? ⟨w.heap.size + 1, 1, none⟩ = some (.slice none 0 0) := cell_of_row _ _ 1 _ _ (0, 0) b1_1.out
  have f1_1_1 : w1.frozen? ⟨w.heap.size + 1, 1, none⟩ = false := block_free b1_1.out _
  have c1_1_2 : w1.cell? ⟨w.heap.size + 1, 2, none⟩ = some (.bool false) := cell_of_row _ _ 2 _ _ (0, 0) b1_1.out
  have f1_1_2 : w1.frozen? ⟨w.heap.size + 1, 2, none⟩ = false := block_free b1_1.out _
  cases ok
  · skip
    have HF : Hid (so = false) := Lib.hid (by rw [HSO.out]; rfl)
    have HD : Hid (sd = ([], [], false)) := Lib.hid (by rw [HSD.out]; rfl)
    go_wp2_with fail
    exact bodyPost_ret (v := .tuple #[.agg #[.slice none 0 0, .slice none 0 0, .bool false], .bool false]) (by simp [results, Try.results25, go_sem, *]) rfl ⟨_, by rw [HF.out], by rw [HD.out]; exact noDisk (Nat.le_refl _), by repeat (first | exact X1 | refine Below.setCell ?_ (by simp <;> omega) _ | refine Below.alloc ?_ (by simp <;> omega) _)⟩
  have hlen : x0.length = 64 ∧ x1.length ≤ 120 := diskOk_len HOK.out.symm
  have HLEN := Lib.hid hlen; clear hlen
  go_wp2_with fail
  refine (l3Copy_any _ (x0, x1, gone) _ lo hi (DiskR.below X1 HLE.out _ _ H.out) (by have := HLEN.out.1; simp only; omega) (by have := HLEN.out.2; simp only; omega)).mono ?_
  rintro e w2 ⟨cs2, rfl, hn, hb2⟩
  obtain ⟨B0, m0, d0, B1, m1, d1, rfl, g0, k0, g1, k1⟩ := hn
  have e1 : x1.length = m1 := g1.len
  have hm1 : m1 ≤ 120 := by have := HLEN.out.2; omega
  clear e1
  obtain ⟨lo2, hlo2⟩ : ∃ l, l = w1.heap.size := ⟨_, rfl⟩
  rw [← hlo2] at g0 k0 g1 k1
  have G0 := Lib.hid g0; have K0 := Lib.hid k0; have G1 := Lib.hid g1; have K1 := Lib.hid k1; clear g0 k0 g1 k1
  have hlq : w.heap.size + 2 ≤ lo2 := by omega
  have zz2 : w1.heap.size ≤ w2.heap.size := by have := hb2.size; simpa [World.setCell] using this
  have YY2 : Below w.heap.size w w1 := X1
  have X2 : Below w.heap.size w w2 := YY2.trans (hb2.mono YY2.size)
  clear YY2
  have b2_0 : Hid (w2.heap[w.heap.size]? = some (.cells #[.slice A0 n0 c0, .slice A1 n1 c1, .bool gone] 26 (0, 0))) := Lib.hid ((hb2.block _ (by first | omega | (simp [World.setCell] <;> omega))).trans b1_0.out)
  have b2_1 : Hid (w2.heap[w.heap.size + 1]? = some (.cells #[.slice none 0 0, .slice none 0 0, .bool false] 26 (0, 0))) := Lib.hid ((hb2.block _ (by first | omega | (simp [World.setCell] <;> omega))).trans b1_1.out)
  clear b1_0 b1_1 X1 zz1 l1_0 c1_0_0 f1_0_0 c1_0_1 f1_0_1 c1_0_2 f1_0_2 l1_1 c1_1_0 f1_1_0 c1_1_1 f1_1_1 c1_1_2 f1_1_2 hb2
  have l2_0 : w.heap.size < w2.heap.size := (Array.getElem?_eq_some_iff.1 b2_0.out).1
  have c2_0_0 : w2.cell? ⟨w.heap.size, 0, none⟩ = some (.slice A0 n0 c0) := cell_of_row _ _ 0 _ _ (0, 0) b2_0.out
  have f2_0_0 : w2.frozen? ⟨w.heap.size, 0, none⟩ = false := block_free b2_0.out _
  have c2_0_1 : w2.cell? ⟨w.heap.size, 1, none⟩ = some (.slice A1 n1 c1) := cell_of_row _ _ 1 _ _ (0, 0) b2_0.out
  have f2_0_1 : w2.frozen? ⟨w.heap.size, 1, none⟩ = false := block_free b2_0.out _
  have c2_0_2 : w2.cell? ⟨w.heap.size, 2, none⟩ = some (.bool gone) := cell_of_row _ _ 2 _ _ (0, 0) b2_0.out
  have f2_0_2 : w2.frozen? ⟨w.heap.size, 2, none⟩ = false := block_free b2_0.out _
  have l2_1 : w.heap.size + 1 < w2.heap.size := (Array.getElem?_eq_some_iff.1 b2_1.out).1
  have c2_1_0 : w2.cell? ⟨w.heap.size + 1, 0, none⟩ = some (.slice none 0 0) := cell_of_row _ _ 0 _ _ (0, 0) b2_1.out
  have f2_1_0 : w2.frozen? ⟨w.heap.size + 1, 0, none⟩ = false := block_free b2_1.out _
  have c2_1_1 : w2.cell? ⟨w.heap.size + 1, 1, none⟩ = some (.slice none 0 0) := cell_of_row _ _ 1 _ _ (0, 0) b2_1.out
  have f2_1_1 : w2.frozen? ⟨w.heap.size + 1, 1, none⟩ = false := block_free b2_1.out _
  have c2_1_2 : w2.cell? ⟨w.heap.size + 1, 2, none⟩ = some (.bool false) := cell_of_row _ _ 2 _ _ (0, 0) b2_1.out
  have f2_1_2 : w2.frozen? ⟨w.heap.size + 1, 2, none⟩ = false := block_free b2_1.out _
  have hl2 : lo2 ≤ w2.heap.size := by omega
  go_wp2_with fail
  refine (l3Write_any B0 m0 d0 B1 m1 d1 x0 x1 gone at_ s _ lo2 _ G1.out HSZ.out hm1).mono ?_
  rw [← HWG.out]
  rintro e w3 ⟨D1, j1, f1, rfl, hb3, hno, hyes⟩
  have HNO := Lib.hid hno; have HYES := Lib.hid hyes; have HB3 := Lib.hid hb3; clear hno hyes
  have hz3 : w2.heap.size ≤ w3.heap.size := hb3.size
  have zz3 : w2.heap.size ≤ w3.heap.size := by have := hb3.size; simpa [World.setCell] using this
  have YY3 : Below w.heap.size w w2 := X2
  have X3 : Below w.heap.size w w3 := YY3.trans (hb3.mono YY3.size)
  clear YY3
  have b3_0 : Hid (w3.heap[w.heap.size]? = some (.cells #[.slice A0 n0 c0, .slice A1 n1 c1, .bool gone] 26 (0, 0))) := Lib.hid ((hb3.block _ (by first | omega | (simp [World.setCell] <;> omega))).trans b2_0.out)
  have b3_1 : Hid (w3.heap[w.heap.size + 1]? = some (.cells #[.slice none 0 0, .slice none 0 0, .bool false] 26 (0, 0))) := Lib.hid ((hb3.block _ (by first | omega | (simp [World.setCell] <;> omega))).trans b2_1.out)
  clear b2_0 b2_1 X2 zz2 l2_0 c2_0_0 f2_0_0 c2_0_1 f2_0_1 c2_0_2 f2_0_2 l2_1 c2_1_0 f2_1_0 c2_1_1 f2_1_1 c2_1_2 f2_1_2 hb3
  have l3_0 : w.heap.size < w3.heap.size := (Array.getElem?_eq_some_iff.1 b3_0.out).1
  have c3_0_0 : w3.cell? ⟨w.heap.size, 0, none⟩ = some (.slice A0 n0 c0) := cell_of_row _ _ 0 _ _ (0, 0) b3_0.out
  have f3_0_0 : w3.frozen? ⟨w.heap.size, 0, none⟩ = false := block_free b3_0.out _
  have c3_0_1 : w3.cell? ⟨w.heap.size, 1, none⟩ = some (.slice A1 n1 c1) := cell_of_row _ _ 1 _ _ (0, 0) b3_0.out
  have f3_0_1 : w3.frozen? ⟨w.heap.size, 1, none⟩ = false := block_free b3_0.out _
  have c3_0_2 : w3.cell? ⟨w.heap.size, 2, none⟩ = some (.bool gone) := cell_of_row _ _ 2 _ _ (0, 0) b3_0.out
  have f3_0_2 : w3.frozen? ⟨w.heap.size, 2, none⟩ = false := block_free b3_0.out _
  have l3_1 : w.heap.size + 1 < w3.heap.size := (Array.getElem?_eq_some_iff.1 b3_1.out).1
  have c3_1_0 : w3.cell? ⟨w.heap.size + 1, 0, none⟩ = some (.slice none 0 0) := cell_of_row _ _ 0 _ _ (0, 0) b3_1.out
  have f3_1_0 : w3.frozen? ⟨w.heap.size + 1, 0, none⟩ = false := block_free b3_1.out _
  have c3_1_1 : w3.cell? ⟨w.heap.size + 1, 1, none⟩ = some (.slice none 0 0) := cell_of_row _ _ 1 _ _ (0, 0) b3_1.out
  have f3_1_1 : w3.frozen? ⟨w.heap.size + 1, 1, none⟩ = false := block_free b3_1.out _
  have c3_1_2 : w3.cell? ⟨w.heap.size + 1, 2, none⟩ = some (.bool false) := cell_of_row _ _ 2 _ _ (0, 0) b3_1.out
  have f3_1_2 : w3.frozen? ⟨w.heap.size + 1, 2, none⟩ = false := block_free b3_1.out _
  have HSO2 : Hid (so = wg) := Lib.hid (by rw [HSO.out]; rfl)
  go_wp2_with fail
  have hfin : ∀ F : World, Same lo2 w3.heap.size w3 F → w3.heap.size ≤ F.heap.size → DiskN F w.heap.size F.heap.size [.slice B0 m0 d0, .slice D1 j1 f1, .bool gone] sd := by
    intro F h1 h2
    have t0 := (((G0.out.below HB3.out (fun _ _ h => h)).keep (Same.mono h1 (Nat.le_refl _) hz3) h2 (fun _ _ h => h)).wide (lo' := w.heap.size) (hi' := F.heap.size) (by omega) (by omega) (Nat.le_refl _) (fun _ _ h => h) : SliceR StrR 1 F w.heap.size F.heap.size B0 m0 d0 x0)
    have t1 := ((K0.out.below HB3.out (Nat.le_refl _)).keep (Same.mono h1 (Nat.le_refl _) hz3)).wide (lo' := w.heap.size) (hi' := F.heap.size) (by omega) (by omega)
    cases wg
    · obtain ⟨rfl, rfl, rfl⟩ := HNO.out rfl
      rw [show sd = (x0, x1, gone) from HSD.out]
      exact ⟨_, _, _, _, _, _, rfl, t0, t1, ((G1.out.below HB3.out (fun _ _ h => h)).keep (Same.mono h1 (Nat.le_refl _) hz3) h2 (fun _ _ h => h)).wide (by omega) (by omega) (Nat.le_refl _) (fun _ _ h => h), ((K1.out.below HB3.out (Nat.le_refl _)).keep (Same.mono h1 (Nat.le_refl _) hz3)).wide (by omega) (by omega)⟩
    · obtain ⟨t2, t3⟩ := HYES.out rfl
      rw [show sd = (x0, x1 ++ [(at_, s)], gone) from HSD.out]
      exact ⟨_, _, _, _, _, _, rfl, t0, t1, (t2.keep (Same.mono h1 hl2 (Nat.le_refl _)) h2 (fun _ _ h => h)).wide (by omega) h2 (Nat.le_refl _) (fun _ _ h => h), (t3.keep (Same.mono h1 hl2 (Nat.le_refl _))).wide (by omega) h2⟩
  exact bodyPost_ret (v := .tuple #[.agg #[.slice B0 m0 d0, .slice D1 j1 f1, .bool gone], .bool wg]) (by simp [results, Try.results25, go_sem, *]) rfl ⟨_, by rw [HSO2.out], hfin _ (by repeat (first | exact Same.refl _ _ _ | refine Same.setCell ?_ (by first | exact .inl (by simp <;> omega) | exact .inr (by simp <;> omega)) _ | refine Same.alloc ?_ _ (by simp [World.setCell] <;> omega))) (by simp [World.setCell]), by repeat (first | exact X3 | refine Below.setCell ?_ (by simp <;> omega) _ | refine Below.alloc ?_ (by simp <;> omega) _)⟩

end Go.Proofs.Ytgipchipcoaajaa
