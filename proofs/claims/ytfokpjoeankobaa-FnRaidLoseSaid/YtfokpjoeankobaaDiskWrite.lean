/- DiskWrite, the program's and the reference's. Condition: fewer than 2^40 members a slice. -/
import Derived.Test.YtfokpjoeankobaaDiskOk
import Derived.Test.YtfokpjoeankobaaDiskCopy
namespace Go.Proofs.Ytfokpjoeankobaa
set_option linter.unusedVariables false
set_option linter.unusedSimpArgs false
set_option linter.unnecessarySimpa false
section
open Go.RowKit

def spoilOk (d : DiskD) (at_ : Int) (s : ByteArray) : Bool := diskOk d && !d.2.2 && inB at_ 0 63 && decide (s.size ≤ 200)
def spoilD (d : DiskD) (at_ : Int) (s : ByteArray) : DiskD := if spoilOk d at_ s = true then (d.1.set at_.toNat s, d.2.1, d.2.2) else ([], [], false)
/-- A new struct and a truth. -/
def NewR2 {α : Type} (R : Reads α) (w : World) (x : α) (b : Bool) (e : Ending) (w' : World) : Prop :=
  ∃ cs, e = .returned (.tuple #[.agg (List.toArray cs), .bool b]) ∧ R w' w.heap.size w'.heap.size cs x ∧ Below w.heap.size w w'
theorem noDisk {w : World} {lo hi : Nat} (h : hi ≤ w.heap.size) : DiskN w lo hi [.slice none 0 0, .slice none 0 0, .bool false] ([], [], false) :=
  ⟨none, 0, 0, none, 0, 0, rfl, ⟨rfl, Nat.le_refl _, Nat.zero_le _, h, fun _ => rfl, fun h => absurd h (Nat.lt_irrefl _)⟩, .inl ⟨rfl, rfl⟩, ⟨rfl, Nat.le_refl _, Nat.zero_le _, h, fun _ => rfl, fun h => absurd h (Nat.lt_irrefl _)⟩, .inl ⟨rfl, rfl⟩⟩
theorem inB_nat {x : Int} {m : Nat} (h : inB x 0 m = true) : ∃ a : Nat, x = (a : Int) ∧ a ≤ m := by
  have hx : 0 ≤ x ∧ x ≤ (m : Int) := by unfold inB at h; simpa using h
  exact ⟨x.toNat, by omega, by omega⟩
theorem diskOk_len {d : DiskD} (h : diskOk d = true) : d.1.length = 64 ∧ d.2.1.length ≤ 120 := by
  unfold diskOk at h
  simp only [Bool.and_eq_true, decide_eq_true_eq] at h
  exact ⟨h.1.1.1.1, h.1.1.1.2⟩
/-- A store into an array that lies whole. -/
theorem SliceR.set1 {α : Type} {R : Reads α} {w : World} {lo hi g t n c a : Nat} {xs : List α} {y : α} {v : Value} {cur : Array Value} (h : SliceR R 1 w lo hi (some ⟨g, 0, none⟩) n c xs) (hg : w.heap[g]? = some (.cells cur t (0, 0))) (ha : a < n) (hc : cur.size = c)
    (hflat : ∀ cs x, R w lo hi cs x → R (w.setCell ⟨g, a, none⟩ v) lo hi cs x) (hv : R (w.setCell ⟨g, a, none⟩ v) lo hi [v] y) : SliceR R 1 (w.setCell ⟨g, a, none⟩ v) lo hi (some ⟨g, 0, none⟩) n c (xs.set a y) := by
  have hnc := h.2.1
  obtain ⟨b, off, hA, h1, h2, _, hcc⟩ := h.at_ (by omega)
  injection hA with e; injection e with e1 e2; subst e1 e2
  refine ⟨by simpa using h.len, h.2.1, h.2.2.1, by simpa [World.setCell] using h.lo_le, (fun h => by cases h), fun _ => ⟨g, 0, rfl, h1, h2, fun j x hx => ?_⟩⟩
  rw [List.getElem?_set] at hx
  by_cases hj : a = j
  · subst hj
    rw [if_pos rfl, if_pos (by have := h.len; omega)] at hx
    obtain rfl := Option.some.inj hx
    refine ⟨[v], rfl, fun i u hu => ?_, hv⟩
    match i, hu with
    | 0, hu =>
      simp at hu; subst hu
      rw [Nat.zero_add, Nat.mul_one, Nat.add_zero, cell_of_row _ _ _ _ _ (0, 0) (block_set hg), Array.getElem?_setIfInBounds, if_pos rfl, if_pos (by omega)]
    | i + 1, hu => simp at hu
  · rw [if_neg hj] at hx
    obtain ⟨cs, hl, hcs, hr⟩ := hcc j x hx
    refine ⟨cs, hl, fun i u hu => ?_, hflat _ _ hr⟩
    have hi0 : i = 0 := by have := (List.getElem?_eq_some_iff.1 hu).1; omega
    subst hi0
    have := hcs 0 u hu
    rw [Nat.zero_add, Nat.mul_one, Nat.add_zero] at this ⊢
    rw [cell_of_row _ _ _ _ _ (0, 0) (block_set hg), Array.getElem?_setIfInBounds, if_neg hj, ← cell_of_row _ _ _ _ _ (0, 0) hg, this]

end
section
open Go.RowKit

def writeGo (d : DiskD) (at_ : Int) (s : ByteArray) : Bool := !d.2.2 && inB at_ 0 63 && decide (s.size ≤ 200) && decide (d.2.1.length < 120)
def writeOk (d : DiskD) (at_ : Int) (s : ByteArray) : Bool := diskOk d && writeGo d at_ s
def writeD (d : DiskD) (at_ : Int) (s : ByteArray) : DiskD := if diskOk d = true then (if writeGo d at_ s = true then (d.1, d.2.1 ++ [(at_, s)], d.2.2) else d) else ([], [], false)
theorem OwnA.blk {w : World} {e : TypeId} {k : Nat} {S : List Nat} {A : Option Addr} {n c : Nat} {vs : List Value} (h : OwnA w e k S A n c vs) (hc : 0 < c) {b : Nat} (hb : blkOf A b) : b ∈ S := by
  rcases h.1 with ⟨h0, _⟩ | ⟨g, cur, rfl, rfl, _⟩
  · rw [h.2 h0] at hc; omega
  · rw [blkOf_iff] at hb; simp [hb]
theorem RowAt.pair {w : World} {b : Nat} {x y : Value} {t : TypeId} (h : w.heap[b]? = some (.cells #[x, y] t (0, 0))) : RowAt w (some ⟨b, 0, none⟩) 2 [x, y] :=
  ⟨rfl, fun _ => ⟨b, 0, rfl, fun j hj => by
    rw [Nat.zero_add, cell_of_row _ _ _ _ _ (0, 0) h]
    match j, hj with
    | 0, _ => rfl
    | 1, _ => rfl⟩⟩
theorem WaitR.row1 {w : World} {lo hi : Nat} (at_ : Int) (s : ByteArray) (hs : s.size ≤ maxLen) : RowV (WaitR w lo hi) 2 [.int .i64 at_, .string s] [(at_, s)] := RowV.one rfl ⟨rfl, hs⟩
theorem wait_one {w : World} {lo hi : Nat} {vs : List Value} (r4 : ∀ u ∈ vs, ∃ cs x, u ∈ cs ∧ WaitR w lo hi cs x) : ∀ u ∈ vs, u.oneCell' = true := fun u hu => by obtain ⟨cs, x, hm, hr⟩ := r4 u hu; obtain ⟨at_, text_⟩ := x; obtain ⟨rfl, ho0⟩ := hr; simp at hm; rcases hm with rfl | rfl <;> rfl

set_option maxRecDepth 100000 in
set_option maxHeartbeats 4000000 in
theorem l3Write_any (A0 : Option Addr) (n0 c0 : Nat) (A1 : Option Addr) (n1 c1 : Nat) (x0 : List ByteArray) (x1 : List WaitD) (gone : Bool) (at_ : Int) (s : ByteArray) (w : World) (lo hi : Nat) (h1 : SliceR WaitR 2 w lo hi A1 n1 c1 x1) (hs : s.size ≤ maxLen) (hm : n1 ≤ 120) :
    Calls Try.prog 67 #[.agg #[.slice A0 n0 c0, .slice A1 n1 c1, .bool gone], .int .i64 at_, .string s] w fun e w' => ∃ A n c, e = .returned (.tuple #[.agg #[.slice A0 n0 c0, .slice A n c, .bool gone], .bool (writeGo (x0, x1, gone) at_ s)]) ∧ Below w.heap.size w w' ∧
      (writeGo (x0, x1, gone) at_ s = false → A = A1 ∧ n = n1 ∧ c = c1) ∧ (writeGo (x0, x1, gone) at_ s = true → SliceR WaitR 2 w' w.heap.size w'.heap.size A n c (x1 ++ [(at_, s)]) ∧ Whole w' 63 2 w.heap.size w'.heap.size A n c) := by
  unfold maxLen at hs
  have H1 := Lib.hid h1
  have HN1 : Hid (x1.length = n1) := Lib.hid h1.len
  have HLE := Lib.hid h1.lo_le
  have HWG : Hid (writeGo (x0, x1, gone) at_ s = (!gone && inB at_ 0 63 && decide (s.size ≤ 200) && decide (x1.length < 120))) := Lib.hid rfl
  generalize writeGo (x0, x1, gone) at_ s = wg at *
  clear h1
  obtain ⟨i0, hi0, hz0, hz1, hz2⟩ := info_parts infoE_WaitS
  have R1 := l3Cell_any at_
  go_enter Try.func67, Try.ntmps67
  cases gone
  rotate_left
  · skip
    have HF : Hid (wg = false) := Lib.hid (by rw [HWG.out]; simp [])
    go_wp2_with fail
    exact bodyPost_ret (v := .tuple #[.agg #[.slice A0 n0 c0, .slice A1 n1 c1, .bool true], .bool false]) (by simp [results, Try.results67, go_sem, *]) rfl ⟨A1, n1, c1, by rw [HF.out], by repeat (first | exact Below.refl _ _ | refine Below.setCell ?_ (by first | exact Nat.le_refl _ | (simp <;> omega)) _ | refine Below.alloc ?_ (by first | exact Nat.le_refl _ | (simp <;> omega)) _), fun _ => ⟨rfl, rfl, rfl⟩, fun h => by rw [HF.out] at h; cases h⟩
  cases a1 : inB at_ 0 63
  · have HA := Lib.hid a1; rw [a1] at R1; clear a1
    have HF : Hid (wg = false) := Lib.hid (by rw [HWG.out]; simp [HA.out])
    go_wp2_with (go_at_call 72; with_reducible refine (R1 _).mono ?_; rintro e w' ⟨rfl, rfl⟩)
    exact bodyPost_ret (v := .tuple #[.agg #[.slice A0 n0 c0, .slice A1 n1 c1, .bool false], .bool false]) (by simp [results, Try.results67, go_sem, *]) rfl ⟨A1, n1, c1, by rw [HF.out], by repeat (first | exact Below.refl _ _ | refine Below.setCell ?_ (by first | exact Nat.le_refl _ | (simp <;> omega)) _ | refine Below.alloc ?_ (by first | exact Nat.le_refl _ | (simp <;> omega)) _), fun _ => ⟨rfl, rfl, rfl⟩, fun h => by rw [HF.out] at h; cases h⟩
  have HA := Lib.hid a1; rw [a1] at R1; clear a1
  by_cases s2 : s.size ≤ 200
  rotate_left
  · have d9 : (200 : Int) < (s.size : Int) := by omega
    have HF : Hid (wg = false) := Lib.hid (by rw [HWG.out]; simp [show ¬ s.size ≤ 200 from s2])
    go_wp2_with (go_at_call 72; with_reducible refine (R1 _).mono ?_; rintro e w' ⟨rfl, rfl⟩)
    exact bodyPost_ret (v := .tuple #[.agg #[.slice A0 n0 c0, .slice A1 n1 c1, .bool false], .bool false]) (by simp [results, Try.results67, go_sem, *]) rfl ⟨A1, n1, c1, by rw [HF.out], by repeat (first | exact Below.refl _ _ | refine Below.setCell ?_ (by first | exact Nat.le_refl _ | (simp <;> omega)) _ | refine Below.alloc ?_ (by first | exact Nat.le_refl _ | (simp <;> omega)) _), fun _ => ⟨rfl, rfl, rfl⟩, fun h => by rw [HF.out] at h; cases h⟩
  have d9 : ¬ (200 : Int) < (s.size : Int) := by omega
  by_cases s3 : n1 = 120
  · have hx : ¬ x1.length < 120 := by have := HN1.out; omega
    have d8 : (120 : Int) ≤ (n1 : Int) := by omega
    have HF : Hid (wg = false) := Lib.hid (by rw [HWG.out]; simp [hx])
    go_wp2_with (go_at_call 72; with_reducible refine (R1 _).mono ?_; rintro e w' ⟨rfl, rfl⟩)
    exact bodyPost_ret (v := .tuple #[.agg #[.slice A0 n0 c0, .slice A1 n1 c1, .bool false], .bool false]) (by simp [results, Try.results67, go_sem, *]) rfl ⟨A1, n1, c1, by rw [HF.out], by repeat (first | exact Below.refl _ _ | refine Below.setCell ?_ (by first | exact Nat.le_refl _ | (simp <;> omega)) _ | refine Below.alloc ?_ (by first | exact Nat.le_refl _ | (simp <;> omega)) _), fun _ => ⟨rfl, rfl, rfl⟩, fun h => by rw [HF.out] at h; cases h⟩
  have hx : x1.length < 120 := by have := HN1.out; omega
  have d8 : ¬ (120 : Int) ≤ (n1 : Int) := by omega
  have HF : Hid (wg = true) := Lib.hid (by rw [HWG.out, HA.out, decide_eq_true s2, decide_eq_true hx]; rfl)
  obtain ⟨vs, r1, r2, r3, r4⟩ := H1.out.row (by decide)
  have HR : Hid (RowAt (World.alloc (World.alloc (World.alloc w (.cells #[.slice A0 n0 c0, .slice A1 n1 c1, .bool false] 45)) (.cells #[.slice none 0 0, .slice none 0 0, .bool false] 45)) (.cells #[] 63)) A1 (n1 * 2) vs) := Lib.hid (r1.below (Below.alloc (Below.alloc (Below.alloc (Below.refl _ _) (by simp [World.setCell] <;> omega) _) (by simp [World.setCell] <;> omega) _) (by simp [World.setCell] <;> omega) _))
  have HV := Lib.hid (And.intro r2 r3); have HO4 := Lib.hid (wait_one r4); clear r1 r2 r3 r4
  have HE : Hid (OwnA (World.alloc (World.alloc (World.alloc w (.cells #[.slice A0 n0 c0, .slice A1 n1 c1, .bool false] 45)) (.cells #[.slice none 0 0, .slice none 0 0, .bool false] 45)) (.cells #[] 63)) 63 2 [] (some ⟨w.heap.size + 2, 0, none⟩) 0 0 []) := Lib.hid (OwnA.nil _)
  go_wp2_with (first | (go_at_call 72; with_reducible refine (R1 _).mono ?_; rintro e w' ⟨rfl, rfl⟩) | (at_builtin; go_must (refine wpList_append_row rfl _ _ 43 rfl 63 i0 (.agg #[.int .i64 0, .string ⟨#[]⟩]) 2 24 Try.underlying43 hi0 hz0 hz1 hz2 rfl (by decide) [] (some ⟨w.heap.size + 2, 0, none⟩) (A1) (0) (0) (n1) _ [] vs rfl rfl HE.out HR.out HO4.out (by unfold maxLen; omega) (by omega) ?_)))
  intro A' c' S' w1 hO' hS' hC'
  try simp only [Nat.zero_add, List.nil_append] at hO'
  have HO := Lib.hid hO'; have HS := Lib.hid hS'; clear hO' hS'
  have hb1 : Below ((World.alloc (World.alloc (World.alloc w (.cells #[.slice A0 n0 c0, .slice A1 n1 c1, .bool false] 45)) (.cells #[.slice none 0 0, .slice none 0 0, .bool false] 45)) (.cells #[] 63))).heap.size ((World.alloc (World.alloc (World.alloc w (.cells #[.slice A0 n0 c0, .slice A1 n1 c1, .bool false] 45)) (.cells #[.slice none 0 0, .slice none 0 0, .bool false] 45)) (.cells #[] 63))) w1 := hC'.below (fun k _ hk => by simp at hk) (Nat.le_refl _)
  clear hC' HE HR
  have zz1 : w.heap.size + 3 ≤ w1.heap.size := by have := hb1.size; simp [World.setCell] at this; omega
  have YY1 : Below w.heap.size w (World.alloc (World.alloc (World.alloc w (.cells #[.slice A0 n0 c0, .slice A1 n1 c1, .bool false] 45)) (.cells #[.slice none 0 0, .slice none 0 0, .bool false] 45)) (.cells #[] 63)) := (Below.alloc (Below.alloc (Below.alloc (Below.refl _ _) (by first | exact Nat.le_refl _ | (simp [World.setCell] <;> omega)) _) (by first | exact Nat.le_refl _ | (simp [World.setCell] <;> omega)) _) (by first | exact Nat.le_refl _ | (simp [World.setCell] <;> omega)) _)
  have X1 : Below w.heap.size w w1 := YY1.trans (hb1.mono YY1.size)
  clear YY1
  have b1_0 : Hid (w1.heap[w.heap.size]? = some (.cells #[.slice A0 n0 c0, .slice A1 n1 c1, .bool false] 45 (0, 0))) := Lib.hid ((hb1.block _ (by first | omega | (simp [World.setCell] <;> omega))).trans ((Below.heap_alloc _ _ _ (by first | omega | (simp [World.setCell] <;> omega))).trans ((Below.heap_alloc _ _ _ (by first | omega | (simp [World.setCell] <;> omega))).trans (show _ from by have := heap_alloc_new w (.cells #[.slice A0 n0 c0, .slice A1 n1 c1, .bool false] 45); simpa [World.setCell] using this))))
  have b1_1 : Hid (w1.heap[w.heap.size + 1]? = some (.cells #[.slice none 0 0, .slice none 0 0, .bool false] 45 (0, 0))) := Lib.hid ((hb1.block _ (by first | omega | (simp [World.setCell] <;> omega))).trans ((Below.heap_alloc _ _ _ (by first | omega | (simp [World.setCell] <;> omega))).trans (show _ from by have := heap_alloc_new (World.alloc w (.cells #[.slice A0 n0 c0, .slice A1 n1 c1, .bool false] 45)) (.cells #[.slice none 0 0, .slice none 0 0, .bool false] 45); simpa [World.setCell] using this)))
  clear hb1
  have l1_0 : w.heap.size < w1.heap.size := (Array.getElem?_eq_some_iff.1 b1_0.out).1
  have c1_0_0 : w1.cell? ⟨w.heap.size, 0, none⟩ = some (.slice A0 n0 c0) := cell_of_row _ _ 0 _ _ (0, 0) b1_0.out
  have f1_0_0 : w1.frozen? ⟨w.heap.size, 0, none⟩ = false := block_free b1_0.out _
  have c1_0_1 : w1.cell? ⟨w.heap.size, 1, none⟩ = some (.slice A1 n1 c1) := cell_of_row _ _ 1 _ _ (0, 0) b1_0.out
  have f1_0_1 : w1.frozen? ⟨w.heap.size, 1, none⟩ = false := block_free b1_0.out _
  have c1_0_2 : w1.cell? ⟨w.heap.size, 2, none⟩ = some (.bool false) := cell_of_row _ _ 2 _ _ (0, 0) b1_0.out
  have f1_0_2 : w1.frozen? ⟨w.heap.size, 2, none⟩ = false := block_free b1_0.out _
  have l1_1 : w.heap.size + 1 < w1.heap.size := (Array.getElem?_eq_some_iff.1 b1_1.out).1
  have c1_1_0 : w1.cell? ⟨w.heap.size + 1, 0, none⟩ = some (.slice none 0 0) := cell_of_row _ _ 0 _ _ (0, 0) b1_1.out
  have f1_1_0 : w1.frozen? ⟨w.heap.size + 1, 0, none⟩ = false := block_free b1_1.out _
  have c1_1_1 : w1.cell? ⟨w.heap.size + 1, 1, none⟩ = some (.slice none 0 0) := cell_of_row _ _ 1 _ _ (0, 0) b1_1.out
  have f1_1_1 : w1.frozen? ⟨w.heap.size + 1, 1, none⟩ = false := block_free b1_1.out _
  have c1_1_2 : w1.cell? ⟨w.heap.size + 1, 2, none⟩ = some (.bool false) := cell_of_row _ _ 2 _ _ (0, 0) b1_1.out
  have f1_1_2 : w1.frozen? ⟨w.heap.size + 1, 2, none⟩ = false := block_free b1_1.out _
  have hgs : ∀ g ∈ S', w.heap.size + 3 ≤ g := fun g hg => by have h := HS.out g hg; first | omega | (simp at h; omega)
  have HGS := Lib.hid hgs; clear hgs HS
  have HOA : Hid (OwnA (World.alloc w1 (.cells #[.int .i64 at_, .string s] 63)) 63 2 S' A' n1 c' vs) := Lib.hid (HO.out.below (Below.alloc (Below.refl _ _) (by simp [World.setCell] <;> omega) _))
  have HLIT : Hid (RowAt (World.alloc w1 (.cells #[.int .i64 at_, .string s] 63)) (some ⟨w1.heap.size, 0, none⟩) (1 * 2) [.int .i64 at_, .string s]) := Lib.hid (RowAt.pair (t := 63) (show _ from by have := heap_alloc_new w1 (.cells #[.int .i64 at_, .string s] 63); simpa [World.setCell] using this))
  have HONE : Hid (∀ u ∈ [Value.int .i64 at_, .string s], u.oneCell' = true) := Lib.hid (by intro u hu; simp at hu; rcases hu with rfl | rfl <;> rfl)
  go_wp2_with (at_builtin; go_must (refine wpList_append_row rfl _ _ 43 rfl 63 i0 (.agg #[.int .i64 0, .string ⟨#[]⟩]) 2 24 Try.underlying43 hi0 hz0 hz1 hz2 rfl (by decide) S' (A') (some ⟨w1.heap.size, 0, none⟩) (n1) (c') (1) _ vs [.int .i64 at_, .string s] rfl rfl HOA.out HLIT.out HONE.out (by unfold maxLen; omega) (by omega) ?_))
  intro B' d' T' w9 hO' hS' hC'
  have HC : Hid (Chg (· ∈ S') (World.alloc w1 (.cells #[.int .i64 at_, .string s] 63)) w9) := Lib.hid hC'
  have HP := Lib.hid hO'; have HT := Lib.hid hS'; clear hO' hS' hC'
  have z9 : w1.heap.size + 1 ≤ w9.heap.size := by have := HC.out.size; simp at this; omega
  have hns : ∀ b, b < w.heap.size + 2 → ¬ b ∈ S' := fun b hb hbs => by have := HGS.out b hbs; omega
  have X9 : Below w.heap.size w w9 := (Below.trans (show Below w.heap.size w (World.alloc w1 (.cells #[.int .i64 at_, .string s] 63)) from (Below.alloc X1 (by have := X1.size; simp [World.setCell] <;> omega) _)) (HC.out.below (B := w.heap.size) (fun k _ hk => by have := HGS.out k hk; omega) (by simp <;> omega)))
  have b9_0 : Hid (w9.heap[w.heap.size]? = some (.cells #[.slice A0 n0 c0, .slice A1 n1 c1, .bool false] 45 (0, 0))) := Lib.hid ((HC.out.block _ (by simp <;> omega) (hns _ (by omega))).trans ((Below.heap_alloc _ _ _ (by first | omega | (simp [World.setCell] <;> omega))).trans b1_0.out))
  have b9_1 : Hid (w9.heap[w.heap.size + 1]? = some (.cells #[.slice none 0 0, .slice none 0 0, .bool false] 45 (0, 0))) := Lib.hid ((HC.out.block _ (by simp <;> omega) (hns _ (by omega))).trans ((Below.heap_alloc _ _ _ (by first | omega | (simp [World.setCell] <;> omega))).trans b1_1.out))
  clear b1_0 b1_1 X1 HC HOA HLIT HONE l1_0 c1_0_0 f1_0_0 c1_0_1 f1_0_1 c1_0_2 f1_0_2 l1_1 c1_1_0 f1_1_0 c1_1_1 f1_1_1 c1_1_2 f1_1_2
  have l9_0 : w.heap.size < w9.heap.size := (Array.getElem?_eq_some_iff.1 b9_0.out).1
  have c9_0_0 : w9.cell? ⟨w.heap.size, 0, none⟩ = some (.slice A0 n0 c0) := cell_of_row _ _ 0 _ _ (0, 0) b9_0.out
  have f9_0_0 : w9.frozen? ⟨w.heap.size, 0, none⟩ = false := block_free b9_0.out _
  have c9_0_1 : w9.cell? ⟨w.heap.size, 1, none⟩ = some (.slice A1 n1 c1) := cell_of_row _ _ 1 _ _ (0, 0) b9_0.out
  have f9_0_1 : w9.frozen? ⟨w.heap.size, 1, none⟩ = false := block_free b9_0.out _
  have c9_0_2 : w9.cell? ⟨w.heap.size, 2, none⟩ = some (.bool false) := cell_of_row _ _ 2 _ _ (0, 0) b9_0.out
  have f9_0_2 : w9.frozen? ⟨w.heap.size, 2, none⟩ = false := block_free b9_0.out _
  have l9_1 : w.heap.size + 1 < w9.heap.size := (Array.getElem?_eq_some_iff.1 b9_1.out).1
  have c9_1_0 : w9.cell? ⟨w.heap.size + 1, 0, none⟩ = some (.slice none 0 0) := cell_of_row _ _ 0 _ _ (0, 0) b9_1.out
  have f9_1_0 : w9.frozen? ⟨w.heap.size + 1, 0, none⟩ = false := block_free b9_1.out _
  have c9_1_1 : w9.cell? ⟨w.heap.size + 1, 1, none⟩ = some (.slice none 0 0) := cell_of_row _ _ 1 _ _ (0, 0) b9_1.out
  have f9_1_1 : w9.frozen? ⟨w.heap.size + 1, 1, none⟩ = false := block_free b9_1.out _
  have c9_1_2 : w9.cell? ⟨w.heap.size + 1, 2, none⟩ = some (.bool false) := cell_of_row _ _ 2 _ _ (0, 0) b9_1.out
  have f9_1_2 : w9.frozen? ⟨w.heap.size + 1, 2, none⟩ = false := block_free b9_1.out _
  go_wp2_with fail
  have hvv : RowV (WaitR w9 w.heap.size w9.heap.size) 2 (vs ++ [.int .i64 at_, .string s]) (x1 ++ [(at_, s)]) := RowV.append (show RowV (WaitR w9 w.heap.size w9.heap.size) 2 vs x1 from HV.out.2) (WaitR.row1 at_ s (by unfold maxLen; omega)) HV.out.1
  have hT : ∀ g ∈ T', w.heap.size + 3 ≤ g := fun g hg => (HT.out g hg).elim (fun h => HGS.out g h) (fun h => by first | (simp at h; omega) | omega)
  obtain ⟨t2, t3⟩ := OwnA.slice (R := WaitR) (lo := w.heap.size + 3) (hi := w9.heap.size) HP.out (by have := HN1.out; simp; omega) hvv (fun g hg => ⟨hT g hg, HP.out.lt g hg⟩) (Nat.le_refl _)
  have hfin : ∀ F : World, Same (w.heap.size + 3) w9.heap.size w9 F → w9.heap.size ≤ F.heap.size → SliceR WaitR 2 F w.heap.size F.heap.size B' (n1 + 1) d' (x1 ++ [(at_, s)]) ∧ Whole F 63 2 w.heap.size F.heap.size B' (n1 + 1) d' := fun F h1 h2 =>
    ⟨(t2.keep h1 h2 (fun _ _ h => h)).wide (by omega) h2 (Nat.le_refl _) (fun _ _ h => h), (t3.keep h1).wide (by omega) h2⟩
  exact bodyPost_ret (v := .tuple #[.agg #[.slice A0 n0 c0, .slice B' (n1 + 1) d', .bool false], .bool true]) (by simp [results, Try.results67, go_sem, *]) rfl ⟨B', n1 + 1, d', by rw [HF.out], by repeat (first | exact X9 | refine Below.setCell ?_ (by simp <;> omega) _ | refine Below.alloc ?_ (by simp <;> omega) _), (fun h => by rw [HF.out] at h; cases h), fun _ => hfin _ (by repeat (first | exact Same.refl _ _ _ | refine Same.setCell ?_ (by first | exact .inl (by simp <;> omega) | exact .inr (by simp <;> omega)) _ | refine Same.alloc ?_ _ (by simp [World.setCell] <;> omega))) (by simp [World.setCell])⟩

end
end Go.Proofs.Ytfokpjoeankobaa
