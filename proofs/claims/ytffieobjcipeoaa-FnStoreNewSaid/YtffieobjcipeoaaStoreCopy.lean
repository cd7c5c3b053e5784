/- Copies of stores: clone of the program, l7Copy of the reference. Condition: 64 rows, fewer than 2^20 pointers given up. -/
import Derived.Test.YtffieobjcipeoaaStorePlain
import Derived.Test.YtffieobjcipeoaaDiskCopy
import Derived.Test.YtffieobjcipeoaaCopy
namespace Go.Proofs.Ytffieobjcipeoaa
set_option linter.unnecessarySimpa false
open Go.RowKit
set_option linter.unusedVariables false
set_option linter.unusedSimpArgs false

/-- Block r has 64 texts. -/
def RowsB (r : Nat) (w : World) : Prop := ∃ cur, w.heap[r]? = some (.cells cur 9 (0, 0)) ∧ 64 ≤ cur.size
theorem RowsB.keep {r : Nat} {w w' : World} (h : RowsB r w) (hk : w'.heap[r]? = w.heap[r]?) : RowsB r w' := by
  obtain ⟨cur, h1, h2⟩ := h
  exact ⟨cur, hk.trans h1, h2⟩
theorem RowsB.lt {r : Nat} {w : World} (h : RowsB r w) : r < w.heap.size := by obtain ⟨cur, h1, _⟩ := h; exact (Array.getElem?_eq_some_iff.1 h1).1
theorem RowsB.set {r a : Nat} {w : World} (h : RowsB r w) (v : Value) : RowsB r (w.setCell ⟨r, a, none⟩ v) := by
  obtain ⟨cur, h1, h2⟩ := h
  exact ⟨cur.setIfInBounds a v, block_set h1, by simpa using h2⟩
theorem RowsB.of {w : World} {lo hi : Nat} {A : Option Addr} {c : Nat} (h : Whole w 9 1 lo hi A 64 c) : ∃ r, A = some ⟨r, 0, none⟩ ∧ lo ≤ r ∧ r < hi ∧ RowsB r w := by
  rcases h with ⟨h, _⟩ | ⟨g, cur, rfl, h1, h2, h3, h4, h5, _⟩
  · omega
  · exact ⟨g, rfl, h1, h2, cur, h3, by omega⟩
/-- A store in memory of the call's own: rows in block r, the space in g and k; what is given up lies above B. -/
structure StC (x : StoreD) (B r g k d1 d2 : Nat) (A3 : Option Addr) (n3 c3 : Nat) (w : World) : Prop where
  rows : RowsB r w
  refs : OwnI w g 64 d1 x.2.1.1
  last : OwnI w k 64 d2 x.2.1.2
  gone : SliceR PtrR 5 w B w.heap.size A3 n3 c3 x.2.2.2.1
  ltr : r < B
  ltg : g < B
  ltk : k < B
  gk : g ≠ k
  rg : r ≠ g
  rk : r ≠ k
  hiB : B ≤ w.heap.size
theorem StC.below {x : StoreD} {B r g k d1 d2 : Nat} {A3 : Option Addr} {n3 c3 : Nat} {w w' : World} (h : StC x B r g k d1 d2 A3 n3 c3 w) (hb : Below w.heap.size w w') : StC x B r g k d1 d2 A3 n3 c3 w' :=
  ⟨h.rows.keep (hb.block r h.rows.lt), h.refs.below hb, h.last.below hb, (h.gone.below hb (fun _ _ h => h)).wide (Nat.le_refl _) hb.size (Nat.le_refl _) (fun _ _ h => h), h.ltr, h.ltg, h.ltk, h.gk, h.rg, h.rk, Nat.le_trans h.hiB hb.size⟩
def NewStC (x : StoreD) (w : World) (e : Ending) (w' : World) : Prop :=
  ∃ (B r g k c0 d1 d2 : Nat) (A3 : Option Addr) (n3 c3 : Nat) (A4 : Option Addr) (n4 c4 : Nat), e = .returned (.agg #[.slice (some ⟨r, 0, none⟩) 64 c0, .slice (some ⟨g, 0, none⟩) 64 d1, .slice (some ⟨k, 0, none⟩) 64 d2, .int .i64 x.2.2.1, .slice A3 n3 c3, .int .i64 x.2.2.2.2.1, .slice A4 n4 c4, .bool x.2.2.2.2.2.2]) ∧
    64 ≤ c0 ∧ 64 ≤ d1 ∧ w.heap.size ≤ r ∧ w.heap.size ≤ g ∧ w.heap.size ≤ k ∧ StC x B r g k d1 d2 A3 n3 c3 w' ∧ Below w.heap.size w w'
set_option maxRecDepth 100000 in
set_option maxHeartbeats 4000000 in
theorem cloneSt_any (cs : List Value) (x : StoreD) (w : World) (lo hi : Nat) (h : StoreR w lo hi cs x) (hl : x.1.length = 64 ∧ x.2.1.1.length = 64 ∧ x.2.1.2.length = 64) (hsz : x.2.2.2.1.length ≤ 2000000 ∧ x.2.2.2.2.2.1.length ≤ 2000000) :
    Calls Try.prog 43 #[.agg cs.toArray] w (NewStC x w) := by
  obtain ⟨rows, ⟨refs, last⟩, txg, gone, keep, dead, same⟩ := x
  obtain ⟨A0, n0, c0, A1, n1, c1, A2, n2, c2, A3, n3, c3, A4, n4, c4, rfl, h0, h1, h2, h3, h4⟩ := h
  obtain rfl : n0 = 64 := by rw [← h0.len]; exact hl.1
  obtain rfl : n1 = 64 := by rw [← h1.len]; exact hl.2.1
  obtain rfl : n2 = 64 := by rw [← h2.len]; exact hl.2.2
  have s3 : n3 ≤ 2000000 := by have := h3.len; have := hsz.1; simp at this; omega
  have s4 : n4 ≤ 2000000 := by have := h4.len; have := hsz.2; simp at this; omega
  have L3 := Lib.hid h3.len
  have H0 := Lib.hid h0; have H1 := Lib.hid h1; have H2 := Lib.hid h2; have H3 := Lib.hid h3; have H4 := Lib.hid h4
  have HN1 : Hid (A1 = none → 64 = 0 ∧ c1 = 0) := Lib.hid (fun e => by have a := h1.2.2.2.2.1 e; have b := h1.2.1; omega)
  have HN2 : Hid (A2 = none → 64 = 0 ∧ c2 = 0) := Lib.hid (fun e => by have a := h2.2.2.2.2.1 e; have b := h2.2.1; omega)
  clear h0 h1 h2 h3 h4 hl hsz
  show Calls Try.prog 43 #[.agg #[.slice A0 64 c0, .slice A1 64 c1, .slice A2 64 c2, .int .i64 txg, .slice A3 n3 c3, .int .i64 keep, .slice A4 n4 c4, .bool same]] w _
  go_enter Try.func43, Try.ntmps43
  go_wp2_with fail
  refine (cloneStringS_any A0 64 c0 rows _ lo hi (SliceR.below H0.out (Below.alloc (Below.alloc (Below.refl _ _) (by first | exact Nat.le_refl _ | (simp [World.setCell] <;> omega)) _) (by first | exact Nat.le_refl _ | (simp [World.setCell] <;> omega)) _) (StrR.below (Below.alloc (Below.alloc (Below.refl _ _) (by first | exact Nat.le_refl _ | (simp [World.setCell] <;> omega)) _) (by first | exact Nat.le_refl _ | (simp [World.setCell] <;> omega)) _) H0.out.lo_le)) (by omega)).mono ?_
  rintro e w1 ⟨A_1, c_1, rfl, S1, K1, hb1⟩
  obtain ⟨r, rfl, hr1, hr2, hR⟩ := RowsB.of K1
  have hc64 : 64 ≤ c_1 := S1.2.1
  have F_rows1 := Lib.hid hR
  clear K1 S1 hR
  simp [World.setCell] at hr1
  have zz1 : w.heap.size + 2 ≤ w1.heap.size := by have := hb1.size; simp [World.setCell] at this; omega
  have YY1 : Below w.heap.size w (World.alloc (World.alloc w (.cells #[.slice A0 64 c0, .slice A1 64 c1, .slice A2 64 c2, .int .i64 txg, .slice A3 n3 c3, .int .i64 keep, .slice A4 n4 c4, .bool same] 30)) (.cells #[.slice none 0 0, .slice none 0 0, .slice none 0 0, .int .i64 0, .slice none 0 0, .int .i64 0, .slice none 0 0, .bool false] 30)) := (Below.alloc (Below.alloc (Below.refl _ _) (by first | exact Nat.le_refl _ | (simp [World.setCell] <;> omega)) _) (by first | exact Nat.le_refl _ | (simp [World.setCell] <;> omega)) _)
  have X1 : Below w.heap.size w w1 := YY1.trans (hb1.mono YY1.size)
  clear YY1
  have b1_0 : Hid (w1.heap[w.heap.size]? = some (.cells #[.slice A0 64 c0, .slice A1 64 c1, .slice A2 64 c2, .int .i64 txg, .slice A3 n3 c3, .int .i64 keep, .slice A4 n4 c4, .bool same] 30 (0, 0))) := Lib.hid ((hb1.block _ (by first | omega | (simp [World.setCell] <;> omega))).trans ((Below.heap_alloc _ _ _ (by first | omega | (simp [World.setCell] <;> omega))).trans (show _ from by have := heap_alloc_new w (.cells #[.slice A0 64 c0, .slice A1 64 c1, .slice A2 64 c2, .int .i64 txg, .slice A3 n3 c3, .int .i64 keep, .slice A4 n4 c4, .bool same] 30); simpa [World.setCell] using this)))
  have b1_1 : Hid (w1.heap[w.heap.size + 1]? = some (.cells #[.slice none 0 0, .slice none 0 0, .slice none 0 0, .int .i64 0, .slice none 0 0, .int .i64 0, .slice none 0 0, .bool false] 30 (0, 0))) := Lib.hid ((hb1.block _ (by first | omega | (simp [World.setCell] <;> omega))).trans (show _ from by have := heap_alloc_new (World.alloc w (.cells #[.slice A0 64 c0, .slice A1 64 c1, .slice A2 64 c2, .int .i64 txg, .slice A3 n3 c3, .int .i64 keep, .slice A4 n4 c4, .bool same] 30)) (.cells #[.slice none 0 0, .slice none 0 0, .slice none 0 0, .int .i64 0, .slice none 0 0, .int .i64 0, .slice none 0 0, .bool false] 30); simpa [World.setCell] using this))
  clear hb1
  have l1_0 : w.heap.size < w1.heap.size := (Array.getElem?_eq_some_iff.1 b1_0.out).1
  have c1_0_0 : w1.cell? ⟨w.heap.size, 0, none⟩ = some (.slice A0 64 c0) := cell_of_row _ _ 0 _ _ (0, 0) b1_0.out
  have f1_0_0 : w1.frozen? ⟨w.heap.size, 0, none⟩ = false := block_free b1_0.out _
  have c1_0_1 : w1.cell? ⟨w.heap.size, 1, none⟩ = some (.slice A1 64 c1) := cell_of_row _ _ 1 _ _ (0, 0) b1_0.out
  have f1_0_1 : w1.frozen? ⟨w.heap.size, 1, none⟩ = false := block_free b1_0.out _
  have c1_0_2 : w1.cell? ⟨w.heap.size, 2, none⟩ = some (.slice A2 64 c2) := cell_of_row _ _ 2 _ _ (0, 0) b1_0.out
  have f1_0_2 : w1.frozen? ⟨w.heap.size, 2, none⟩ = false := block_free b1_0.out _
  have c1_0_3 : w1.cell? ⟨w.heap.size, 3, none⟩ = some (.int .i64 txg) := cell_of_row _ _ 3 _ _ (0, 0) b1_0.out
  have f1_0_3 : w1.frozen? ⟨w.heap.size, 3, none⟩ = false := block_free b1_0.out _
  have c1_0_4 : w1.cell? ⟨w.heap.size, 4, none⟩ = some (.slice A3 n3 c3) := cell_of_row _ _ 4 _ _ (0, 0) b1_0.out
  have f1_0_4 : w1.frozen? ⟨w.heap.size, 4, none⟩ = false := block_free b1_0.out _
  have c1_0_5 : w1.cell? ⟨w.heap.size, 5, none⟩ = some (.int .i64 keep) := cell_of_row _ _ 5 _ _ (0, 0) b1_0.out
  have f1_0_5 : w1.frozen? ⟨w.heap.size, 5, none⟩ = false := block_free b1_0.out _
  have c1_0_6 : w1.cell? ⟨w.heap.size, 6, none⟩ = some (.slice A4 n4 c4) := cell_of_row _ _ 6 _ _ (0, 0) b1_0.out
  have f1_0_6 : w1.frozen? ⟨w.heap.size, 6, none⟩ = false := block_free b1_0.out _
  have c1_0_7 : w1.cell? ⟨w.heap.size, 7, none⟩ = some (.bool same) := cell_of_row _ _ 7 _ _ (0, 0) b1_0.out
  have f1_0_7 : w1.frozen? ⟨w.heap.size, 7, none⟩ = false := block_free b1_0.out _
  have l1_1 : w.heap.size + 1 < w1.heap.size := (Array.getElem?_eq_some_iff.1 b1_1.out).1
  have c1_1_0 : w1.cell? ⟨w.heap.size + 1, 0, none⟩ = some (.slice none 0 0) := cell_of_row _ _ 0 _ _ (0, 0) b1_1.out
  have f1_1_0 : w1.frozen? ⟨w.heap.size + 1, 0, none⟩ = false := block_free b1_1.out _
  have c1_1_1 : w1.cell? ⟨w.heap.size + 1, 1, none⟩ = some (.slice none 0 0) := cell_of_row _ _ 1 _ _ (0, 0) b1_1.out
  have f1_1_1 : w1.frozen? ⟨w.heap.size + 1, 1, none⟩ = false := block_free b1_1.out _
  have c1_1_2 : w1.cell? ⟨w.heap.size + 1, 2, none⟩ = some (.slice none 0 0) := cell_of_row _ _ 2 _ _ (0, 0) b1_1.out
  have f1_1_2 : w1.frozen? ⟨w.heap.size + 1, 2, none⟩ = false := block_free b1_1.out _
  have c1_1_3 : w1.cell? ⟨w.heap.size + 1, 3, none⟩ = some (.int .i64 0) := cell_of_row _ _ 3 _ _ (0, 0) b1_1.out
  have f1_1_3 : w1.frozen? ⟨w.heap.size + 1, 3, none⟩ = false := block_free b1_1.out _
  have c1_1_4 : w1.cell? ⟨w.heap.size + 1, 4, none⟩ = some (.slice none 0 0) := cell_of_row _ _ 4 _ _ (0, 0) b1_1.out
  have f1_1_4 : w1.frozen? ⟨w.heap.size + 1, 4, none⟩ = false := block_free b1_1.out _
  have c1_1_5 : w1.cell? ⟨w.heap.size + 1, 5, none⟩ = some (.int .i64 0) := cell_of_row _ _ 5 _ _ (0, 0) b1_1.out
  have f1_1_5 : w1.frozen? ⟨w.heap.size + 1, 5, none⟩ = false := block_free b1_1.out _
  have c1_1_6 : w1.cell? ⟨w.heap.size + 1, 6, none⟩ = some (.slice none 0 0) := cell_of_row _ _ 6 _ _ (0, 0) b1_1.out
  have f1_1_6 : w1.frozen? ⟨w.heap.size + 1, 6, none⟩ = false := block_free b1_1.out _
  have c1_1_7 : w1.cell? ⟨w.heap.size + 1, 7, none⟩ = some (.bool false) := cell_of_row _ _ 7 _ _ (0, 0) b1_1.out
  have f1_1_7 : w1.frozen? ⟨w.heap.size + 1, 7, none⟩ = false := block_free b1_1.out _
  have hr3 : w.heap.size + 2 ≤ r := by omega
  have hrz : r < w1.heap.size := hr2
  clear hr1 hr2
  go_wp2_with fail
  refine (spClone_any A1 A2 64 c1 64 c2 refs last _ ((SliceR.below H1.out (Below.setCell (p := ⟨w.heap.size, 0, none⟩) X1 (by have := X1.size; simp <;> omega) _) (IntR.below (Below.setCell (p := ⟨w.heap.size, 0, none⟩) X1 (by have := X1.size; simp <;> omega) _) H1.out.lo_le))).ints ((SliceR.below H2.out (Below.setCell (p := ⟨w.heap.size, 0, none⟩) X1 (by have := X1.size; simp <;> omega) _) (IntR.below (Below.setCell (p := ⟨w.heap.size, 0, none⟩) X1 (by have := X1.size; simp <;> omega) _) H2.out.lo_le))).ints (by omega) (by omega) HN1.out HN2.out).mono ?_
  rintro e w2 ⟨A_2, n_2, c_2, B_2, m_2, d_2, S_, rfl, hO, hS, hb2⟩
  obtain rfl : n_2 = 64 := by have := hO.one.len; have := H1.out.len; omega
  obtain rfl : m_2 = 64 := by have := hO.two.len; have := H2.out.len; omega
  obtain ⟨g, k, rfl, rfl, rfl, hgk, og, ok⟩ := hO.both (by omega) (by omega)
  have hd64 : 64 ≤ c_2 := hO.nils.2.2.1
  have hg1 := hS g (by simp); have hk1 := hS k (by simp)
  simp [World.setCell] at hg1 hk1
  have F_refs2 := Lib.hid og; have F_last2 := Lib.hid ok
  clear hO hS og ok
  have F_rows2 := Lib.hid (F_rows1.out.keep ((hb2.block _ (by have := F_rows1.out.lt; first | omega | (simp [World.setCell] <;> omega))).trans ((heap_far (by first | omega | (simp <;> omega))).trans (rfl))))
  clear F_rows1
  have zz2 : w1.heap.size ≤ w2.heap.size := by have := hb2.size; simpa [World.setCell] using this
  have YY2 : Below w.heap.size w (World.setCell w1 ⟨w.heap.size, 0, none⟩ (.slice (some ⟨r, 0, none⟩) 64 c_1)) := (Below.setCell (p := ⟨w.heap.size, 0, none⟩) X1 (by have := X1.size; simp <;> omega) _)
  have X2 : Below w.heap.size w w2 := YY2.trans (hb2.mono YY2.size)
  clear YY2
  have b2_0 : Hid (w2.heap[w.heap.size]? = some (.cells #[.slice (some ⟨r, 0, none⟩) 64 c_1, .slice A1 64 c1, .slice A2 64 c2, .int .i64 txg, .slice A3 n3 c3, .int .i64 keep, .slice A4 n4 c4, .bool same] 30 (0, 0))) := Lib.hid ((hb2.block _ (by first | omega | (simp [World.setCell] <;> omega))).trans (block_set b1_0.out))
  have b2_1 : Hid (w2.heap[w.heap.size + 1]? = some (.cells #[.slice none 0 0, .slice none 0 0, .slice none 0 0, .int .i64 0, .slice none 0 0, .int .i64 0, .slice none 0 0, .bool false] 30 (0, 0))) := Lib.hid ((hb2.block _ (by first | omega | (simp [World.setCell] <;> omega))).trans ((heap_far (by first | omega | (simp <;> omega))).trans b1_1.out))
  clear b1_0 b1_1 X1 zz1 l1_0 c1_0_0 f1_0_0 c1_0_1 f1_0_1 c1_0_2 f1_0_2 c1_0_3 f1_0_3 c1_0_4 f1_0_4 c1_0_5 f1_0_5 c1_0_6 f1_0_6 c1_0_7 f1_0_7 l1_1 c1_1_0 f1_1_0 c1_1_1 f1_1_1 c1_1_2 f1_1_2 c1_1_3 f1_1_3 c1_1_4 f1_1_4 c1_1_5 f1_1_5 c1_1_6 f1_1_6 c1_1_7 f1_1_7 hb2
  have l2_0 : w.heap.size < w2.heap.size := (Array.getElem?_eq_some_iff.1 b2_0.out).1
  have c2_0_0 : w2.cell? ⟨w.heap.size, 0, none⟩ = some (.slice (some ⟨r, 0, none⟩) 64 c_1) := cell_of_row _ _ 0 _ _ (0, 0) b2_0.out
  have f2_0_0 : w2.frozen? ⟨w.heap.size, 0, none⟩ = false := block_free b2_0.out _
  have c2_0_1 : w2.cell? ⟨w.heap.size, 1, none⟩ = some (.slice A1 64 c1) := cell_of_row _ _ 1 _ _ (0, 0) b2_0.out
  have f2_0_1 : w2.frozen? ⟨w.heap.size, 1, none⟩ = false := block_free b2_0.out _
  have c2_0_2 : w2.cell? ⟨w.heap.size, 2, none⟩ = some (.slice A2 64 c2) := cell_of_row _ _ 2 _ _ (0, 0) b2_0.out
  have f2_0_2 : w2.frozen? ⟨w.heap.size, 2, none⟩ = false := block_free b2_0.out _
  have c2_0_3 : w2.cell? ⟨w.heap.size, 3, none⟩ = some (.int .i64 txg) := cell_of_row _ _ 3 _ _ (0, 0) b2_0.out
  have f2_0_3 : w2.frozen? ⟨w.heap.size, 3, none⟩ = false := block_free b2_0.out _
  have c2_0_4 : w2.cell? ⟨w.heap.size, 4, none⟩ = some (.slice A3 n3 c3) := cell_of_row _ _ 4 _ _ (0, 0) b2_0.out
  have f2_0_4 : w2.frozen? ⟨w.heap.size, 4, none⟩ = false := block_free b2_0.out _
  have c2_0_5 : w2.cell? ⟨w.heap.size, 5, none⟩ = some (.int .i64 keep) := cell_of_row _ _ 5 _ _ (0, 0) b2_0.out
  have f2_0_5 : w2.frozen? ⟨w.heap.size, 5, none⟩ = false := block_free b2_0.out _
  have c2_0_6 : w2.cell? ⟨w.heap.size, 6, none⟩ = some (.slice A4 n4 c4) := cell_of_row _ _ 6 _ _ (0, 0) b2_0.out
  have f2_0_6 : w2.frozen? ⟨w.heap.size, 6, none⟩ = false := block_free b2_0.out _
  have c2_0_7 : w2.cell? ⟨w.heap.size, 7, none⟩ = some (.bool same) := cell_of_row _ _ 7 _ _ (0, 0) b2_0.out
  have f2_0_7 : w2.frozen? ⟨w.heap.size, 7, none⟩ = false := block_free b2_0.out _
  have l2_1 : w.heap.size + 1 < w2.heap.size := (Array.getElem?_eq_some_iff.1 b2_1.out).1
  have c2_1_0 : w2.cell? ⟨w.heap.size + 1, 0, none⟩ = some (.slice none 0 0) := cell_of_row _ _ 0 _ _ (0, 0) b2_1.out
  have f2_1_0 : w2.frozen? ⟨w.heap.size + 1, 0, none⟩ = false := block_free b2_1.out _
  have c2_1_1 : w2.cell? ⟨w.heap.size + 1, 1, none⟩ = some (.slice none 0 0) := cell_of_row _ _ 1 _ _ (0, 0) b2_1.out
  have f2_1_1 : w2.frozen? ⟨w.heap.size + 1, 1, none⟩ = false := block_free b2_1.out _
  have c2_1_2 : w2.cell? ⟨w.heap.size + 1, 2, none⟩ = some (.slice none 0 0) := cell_of_row _ _ 2 _ _ (0, 0) b2_1.out
  have f2_1_2 : w2.frozen? ⟨w.heap.size + 1, 2, none⟩ = false := block_free b2_1.out _
  have c2_1_3 : w2.cell? ⟨w.heap.size + 1, 3, none⟩ = some (.int .i64 0) := cell_of_row _ _ 3 _ _ (0, 0) b2_1.out
  have f2_1_3 : w2.frozen? ⟨w.heap.size + 1, 3, none⟩ = false := block_free b2_1.out _
  have c2_1_4 : w2.cell? ⟨w.heap.size + 1, 4, none⟩ = some (.slice none 0 0) := cell_of_row _ _ 4 _ _ (0, 0) b2_1.out
  have f2_1_4 : w2.frozen? ⟨w.heap.size + 1, 4, none⟩ = false := block_free b2_1.out _
  have c2_1_5 : w2.cell? ⟨w.heap.size + 1, 5, none⟩ = some (.int .i64 0) := cell_of_row _ _ 5 _ _ (0, 0) b2_1.out
  have f2_1_5 : w2.frozen? ⟨w.heap.size + 1, 5, none⟩ = false := block_free b2_1.out _
  have c2_1_6 : w2.cell? ⟨w.heap.size + 1, 6, none⟩ = some (.slice none 0 0) := cell_of_row _ _ 6 _ _ (0, 0) b2_1.out
  have f2_1_6 : w2.frozen? ⟨w.heap.size + 1, 6, none⟩ = false := block_free b2_1.out _
  have c2_1_7 : w2.cell? ⟨w.heap.size + 1, 7, none⟩ = some (.bool false) := cell_of_row _ _ 7 _ _ (0, 0) b2_1.out
  have f2_1_7 : w2.frozen? ⟨w.heap.size + 1, 7, none⟩ = false := block_free b2_1.out _
  obtain ⟨B, hB⟩ : ∃ B, B = w2.heap.size := ⟨_, rfl⟩
  have hBr : r < B := by omega
  have hBg : g < B := by rw [hB]; exact F_refs2.out.lt
  have hBk : k < B := by rw [hB]; exact F_last2.out.lt
  have hrg : r ≠ g := by omega
  have hrk : r ≠ k := by omega
  have hbxg : w.heap.size + 2 ≤ g := by omega
  have hbxk : w.heap.size + 2 ≤ k := by omega
  have hB2 : w.heap.size + 2 ≤ B := by omega
  have HB := Lib.hid hB; clear hB hg1 hk1 hrz
  go_wp2_with fail
  refine (clonePtrS_any A3 n3 c3 gone _ lo hi (SliceR.below H3.out (Below.setCell (p := ⟨w.heap.size, 2, none⟩) (Below.setCell (p := ⟨w.heap.size, 1, none⟩) X2 (by have := X2.size; simp <;> omega) _) (by have := X2.size; simp <;> omega) _) (PtrR.below (Below.setCell (p := ⟨w.heap.size, 2, none⟩) (Below.setCell (p := ⟨w.heap.size, 1, none⟩) X2 (by have := X2.size; simp <;> omega) _) (by have := X2.size; simp <;> omega) _) H3.out.lo_le)) (by omega)).mono ?_
  rintro e w3 ⟨A_3, c_3, rfl, S3, K3, hb3⟩
  have hS3 : SliceR PtrR 5 w3 B w3.heap.size A_3 n3 c_3 gone := by rw [HB.out]; exact S3.wide (by simp [World.setCell]) (Nat.le_refl _) (Nat.le_refl _) (fun _ _ h => h)
  have hBw : B ≤ w2.heap.size := by rw [HB.out]; exact Nat.le_refl _
  have F_rows3 := Lib.hid (F_rows2.out.keep ((hb3.block _ (by have := F_rows2.out.lt; first | omega | (simp [World.setCell] <;> omega))).trans ((heap_far (by first | omega | (simp <;> omega))).trans ((heap_far (by first | omega | (simp <;> omega))).trans (rfl)))))
  have F_refs3 := Lib.hid (F_refs2.out.keep ((hb3.block _ (by have := F_refs2.out.lt; first | omega | (simp [World.setCell] <;> omega))).trans ((heap_far (by first | omega | (simp <;> omega))).trans ((heap_far (by first | omega | (simp <;> omega))).trans (rfl)))))
  have F_last3 := Lib.hid (F_last2.out.keep ((hb3.block _ (by have := F_last2.out.lt; first | omega | (simp [World.setCell] <;> omega))).trans ((heap_far (by first | omega | (simp <;> omega))).trans ((heap_far (by first | omega | (simp <;> omega))).trans (rfl)))))
  clear F_rows2 F_refs2 F_last2
  have F_gone3 := Lib.hid hS3; clear S3 K3 hS3
  have zz3 : w2.heap.size ≤ w3.heap.size := by have := hb3.size; simpa [World.setCell] using this
  have YY3 : Below w.heap.size w (World.setCell (World.setCell w2 ⟨w.heap.size, 1, none⟩ (.slice (some ⟨g, 0, none⟩) 64 c_2)) ⟨w.heap.size, 2, none⟩ (.slice (some ⟨k, 0, none⟩) 64 d_2)) := (Below.setCell (p := ⟨w.heap.size, 2, none⟩) (Below.setCell (p := ⟨w.heap.size, 1, none⟩) X2 (by have := X2.size; simp <;> omega) _) (by have := X2.size; simp <;> omega) _)
  have X3 : Below w.heap.size w w3 := YY3.trans (hb3.mono YY3.size)
  clear YY3
  have b3_0 : Hid (w3.heap[w.heap.size]? = some (.cells #[.slice (some ⟨r, 0, none⟩) 64 c_1, .slice (some ⟨g, 0, none⟩) 64 c_2, .slice (some ⟨k, 0, none⟩) 64 d_2, .int .i64 txg, .slice A3 n3 c3, .int .i64 keep, .slice A4 n4 c4, .bool same] 30 (0, 0))) := Lib.hid ((hb3.block _ (by first | omega | (simp [World.setCell] <;> omega))).trans (block_set (block_set b2_0.out)))
  have b3_1 : Hid (w3.heap[w.heap.size + 1]? = some (.cells #[.slice none 0 0, .slice none 0 0, .slice none 0 0, .int .i64 0, .slice none 0 0, .int .i64 0, .slice none 0 0, .bool false] 30 (0, 0))) := Lib.hid ((hb3.block _ (by first | omega | (simp [World.setCell] <;> omega))).trans ((heap_far (by first | omega | (simp <;> omega))).trans ((heap_far (by first | omega | (simp <;> omega))).trans b2_1.out)))
  clear b2_0 b2_1 X2 zz2 l2_0 c2_0_0 f2_0_0 c2_0_1 f2_0_1 c2_0_2 f2_0_2 c2_0_3 f2_0_3 c2_0_4 f2_0_4 c2_0_5 f2_0_5 c2_0_6 f2_0_6 c2_0_7 f2_0_7 l2_1 c2_1_0 f2_1_0 c2_1_1 f2_1_1 c2_1_2 f2_1_2 c2_1_3 f2_1_3 c2_1_4 f2_1_4 c2_1_5 f2_1_5 c2_1_6 f2_1_6 c2_1_7 f2_1_7 hb3
  have l3_0 : w.heap.size < w3.heap.size := (Array.getElem?_eq_some_iff.1 b3_0.out).1
  have c3_0_0 : w3.cell? ⟨w.heap.size, 0, none⟩ = some (.slice (some ⟨r, 0, none⟩) 64 c_1) := cell_of_row _ _ 0 _ _ (0, 0) b3_0.out
  have f3_0_0 : w3.frozen? ⟨w.heap.size, 0, none⟩ = false := block_free b3_0.out _
  have c3_0_1 : w3.cell? ⟨w.heap.size, 1, none⟩ = some (.slice (some ⟨g, 0, none⟩) 64 c_2) := cell_of_row _ _ 1 _ _ (0, 0) b3_0.out
  have f3_0_1 : w3.frozen? ⟨w.heap.size, 1, none⟩ = false := block_free b3_0.out _
  have c3_0_2 : w3.cell? ⟨w.heap.size, 2, none⟩ = some (.slice (some ⟨k, 0, none⟩) 64 d_2) := cell_of_row _ _ 2 _ _ (0, 0) b3_0.out
  have f3_0_2 : w3.frozen? ⟨w.heap.size, 2, none⟩ = false := block_free b3_0.out _
  have c3_0_3 : w3.cell? ⟨w.heap.size, 3, none⟩ = some (.int .i64 txg) := cell_of_row _ _ 3 _ _ (0, 0) b3_0.out
  have f3_0_3 : w3.frozen? ⟨w.heap.size, 3, none⟩ = false := block_free b3_0.out _
  have c3_0_4 : w3.cell? ⟨w.heap.size, 4, none⟩ = some (.slice A3 n3 c3) := cell_of_row _ _ 4 _ _ (0, 0) b3_0.out
  have f3_0_4 : w3.frozen? ⟨w.heap.size, 4, none⟩ = false := block_free b3_0.out _
  have c3_0_5 : w3.cell? ⟨w.heap.size, 5, none⟩ = some (.int .i64 keep) := cell_of_row _ _ 5 _ _ (0, 0) b3_0.out
  have f3_0_5 : w3.frozen? ⟨w.heap.size, 5, none⟩ = false := block_free b3_0.out _
  have c3_0_6 : w3.cell? ⟨w.heap.size, 6, none⟩ = some (.slice A4 n4 c4) := cell_of_row _ _ 6 _ _ (0, 0) b3_0.out
  have f3_0_6 : w3.frozen? ⟨w.heap.size, 6, none⟩ = false := block_free b3_0.out _
  have c3_0_7 : w3.cell? ⟨w.heap.size, 7, none⟩ = some (.bool same) := cell_of_row _ _ 7 _ _ (0, 0) b3_0.out
  have f3_0_7 : w3.frozen? ⟨w.heap.size, 7, none⟩ = false := block_free b3_0.out _
  have l3_1 : w.heap.size + 1 < w3.heap.size := (Array.getElem?_eq_some_iff.1 b3_1.out).1
  have c3_1_0 : w3.cell? ⟨w.heap.size + 1, 0, none⟩ = some (.slice none 0 0) := cell_of_row _ _ 0 _ _ (0, 0) b3_1.out
  have f3_1_0 : w3.frozen? ⟨w.heap.size + 1, 0, none⟩ = false := block_free b3_1.out _
  have c3_1_1 : w3.cell? ⟨w.heap.size + 1, 1, none⟩ = some (.slice none 0 0) := cell_of_row _ _ 1 _ _ (0, 0) b3_1.out
  have f3_1_1 : w3.frozen? ⟨w.heap.size + 1, 1, none⟩ = false := block_free b3_1.out _
  have c3_1_2 : w3.cell? ⟨w.heap.size + 1, 2, none⟩ = some (.slice none 0 0) := cell_of_row _ _ 2 _ _ (0, 0) b3_1.out
  have f3_1_2 : w3.frozen? ⟨w.heap.size + 1, 2, none⟩ = false := block_free b3_1.out _
  have c3_1_3 : w3.cell? ⟨w.heap.size + 1, 3, none⟩ = some (.int .i64 0) := cell_of_row _ _ 3 _ _ (0, 0) b3_1.out
  have f3_1_3 : w3.frozen? ⟨w.heap.size + 1, 3, none⟩ = false := block_free b3_1.out _
  have c3_1_4 : w3.cell? ⟨w.heap.size + 1, 4, none⟩ = some (.slice none 0 0) := cell_of_row _ _ 4 _ _ (0, 0) b3_1.out
  have f3_1_4 : w3.frozen? ⟨w.heap.size + 1, 4, none⟩ = false := block_free b3_1.out _
  have c3_1_5 : w3.cell? ⟨w.heap.size + 1, 5, none⟩ = some (.int .i64 0) := cell_of_row _ _ 5 _ _ (0, 0) b3_1.out
  have f3_1_5 : w3.frozen? ⟨w.heap.size + 1, 5, none⟩ = false := block_free b3_1.out _
  have c3_1_6 : w3.cell? ⟨w.heap.size + 1, 6, none⟩ = some (.slice none 0 0) := cell_of_row _ _ 6 _ _ (0, 0) b3_1.out
  have f3_1_6 : w3.frozen? ⟨w.heap.size + 1, 6, none⟩ = false := block_free b3_1.out _
  have c3_1_7 : w3.cell? ⟨w.heap.size + 1, 7, none⟩ = some (.bool false) := cell_of_row _ _ 7 _ _ (0, 0) b3_1.out
  have f3_1_7 : w3.frozen? ⟨w.heap.size + 1, 7, none⟩ = false := block_free b3_1.out _
  have hBw3 : B ≤ w3.heap.size := by omega
  go_wp2_with fail
  refine (clonePtrS_any A4 n4 c4 dead _ lo hi (SliceR.below H4.out (Below.setCell (p := ⟨w.heap.size, 4, none⟩) X3 (by have := X3.size; simp <;> omega) _) (PtrR.below (Below.setCell (p := ⟨w.heap.size, 4, none⟩) X3 (by have := X3.size; simp <;> omega) _) H4.out.lo_le)) (by omega)).mono ?_
  rintro e w4 ⟨A_4, c_4, rfl, S4, K4, hb4⟩
  have F_rows4 := Lib.hid (F_rows3.out.keep ((hb4.block _ (by have := F_rows3.out.lt; first | omega | (simp [World.setCell] <;> omega))).trans ((heap_far (by first | omega | (simp <;> omega))).trans (rfl))))
  have F_refs4 := Lib.hid (F_refs3.out.keep ((hb4.block _ (by have := F_refs3.out.lt; first | omega | (simp [World.setCell] <;> omega))).trans ((heap_far (by first | omega | (simp <;> omega))).trans (rfl))))
  have F_last4 := Lib.hid (F_last3.out.keep ((hb4.block _ (by have := F_last3.out.lt; first | omega | (simp [World.setCell] <;> omega))).trans ((heap_far (by first | omega | (simp <;> omega))).trans (rfl))))
  have F_gone4 := Lib.hid ((F_gone3.out.keep (w' := w4) (fun b b1 b2 => (hb4.block _ (by first | omega | (simp [World.setCell] <;> omega))).trans ((heap_far (by first | omega | (simp <;> omega))).trans (rfl))) (by have := hb4.size; simp [World.setCell] at this; omega) (fun _ _ h => h)))
  clear F_rows3 F_refs3 F_last3 F_gone3
  clear S4 K4
  have zz4 : w3.heap.size ≤ w4.heap.size := by have := hb4.size; simpa [World.setCell] using this
  have YY4 : Below w.heap.size w (World.setCell w3 ⟨w.heap.size, 4, none⟩ (.slice A_3 n3 c_3)) := (Below.setCell (p := ⟨w.heap.size, 4, none⟩) X3 (by have := X3.size; simp <;> omega) _)
  have X4 : Below w.heap.size w w4 := YY4.trans (hb4.mono YY4.size)
  clear YY4
  have b4_0 : Hid (w4.heap[w.heap.size]? = some (.cells #[.slice (some ⟨r, 0, none⟩) 64 c_1, .slice (some ⟨g, 0, none⟩) 64 c_2, .slice (some ⟨k, 0, none⟩) 64 d_2, .int .i64 txg, .slice A_3 n3 c_3, .int .i64 keep, .slice A4 n4 c4, .bool same] 30 (0, 0))) := Lib.hid ((hb4.block _ (by first | omega | (simp [World.setCell] <;> omega))).trans (block_set b3_0.out))
  have b4_1 : Hid (w4.heap[w.heap.size + 1]? = some (.cells #[.slice none 0 0, .slice none 0 0, .slice none 0 0, .int .i64 0, .slice none 0 0, .int .i64 0, .slice none 0 0, .bool false] 30 (0, 0))) := Lib.hid ((hb4.block _ (by first | omega | (simp [World.setCell] <;> omega))).trans ((heap_far (by first | omega | (simp <;> omega))).trans b3_1.out))
  clear b3_0 b3_1 X3 zz3 l3_0 c3_0_0 f3_0_0 c3_0_1 f3_0_1 c3_0_2 f3_0_2 c3_0_3 f3_0_3 c3_0_4 f3_0_4 c3_0_5 f3_0_5 c3_0_6 f3_0_6 c3_0_7 f3_0_7 l3_1 c3_1_0 f3_1_0 c3_1_1 f3_1_1 c3_1_2 f3_1_2 c3_1_3 f3_1_3 c3_1_4 f3_1_4 c3_1_5 f3_1_5 c3_1_6 f3_1_6 c3_1_7 f3_1_7 hb4
  have l4_0 : w.heap.size < w4.heap.size := (Array.getElem?_eq_some_iff.1 b4_0.out).1
  have c4_0_0 : w4.cell? ⟨w.heap.size, 0, none⟩ = some (.slice (some ⟨r, 0, none⟩) 64 c_1) := cell_of_row _ _ 0 _ _ (0, 0) b4_0.out
  have f4_0_0 : w4.frozen? ⟨w.heap.size, 0, none⟩ = false := block_free b4_0.out _
  have c4_0_1 : w4.cell? ⟨w.heap.size, 1, none⟩ = some (.slice (some ⟨g, 0, none⟩) 64 c_2) := cell_of_row _ _ 1 _ _ (0, 0) b4_0.out
  have f4_0_1 : w4.frozen? ⟨w.heap.size, 1, none⟩ = false := block_free b4_0.out _
  have c4_0_2 : w4.cell? ⟨w.heap.size, 2, none⟩ = some (.slice (some ⟨k, 0, none⟩) 64 d_2) := cell_of_row _ _ 2 _ _ (0, 0) b4_0.out
  have f4_0_2 : w4.frozen? ⟨w.heap.size, 2, none⟩ = false := block_free b4_0.out _
  have c4_0_3 : w4.cell? ⟨w.heap.size, 3, none⟩ = some (.int .i64 txg) := cell_of_row _ _ 3 _ _ (0, 0) b4_0.out
  have f4_0_3 : w4.frozen? ⟨w.heap.size, 3, none⟩ = false := block_free b4_0.out _
  have c4_0_4 : w4.cell? ⟨w.heap.size, 4, none⟩ = some (.slice A_3 n3 c_3) := cell_of_row _ _ 4 _ _ (0, 0) b4_0.out
  have f4_0_4 : w4.frozen? ⟨w.heap.size, 4, none⟩ = false := block_free b4_0.out _
  have c4_0_5 : w4.cell? ⟨w.heap.size, 5, none⟩ = some (.int .i64 keep) := cell_of_row _ _ 5 _ _ (0, 0) b4_0.out
  have f4_0_5 : w4.frozen? ⟨w.heap.size, 5, none⟩ = false := block_free b4_0.out _
  have c4_0_6 : w4.cell? ⟨w.heap.size, 6, none⟩ = some (.slice A4 n4 c4) := cell_of_row _ _ 6 _ _ (0, 0) b4_0.out
  have f4_0_6 : w4.frozen? ⟨w.heap.size, 6, none⟩ = false := block_free b4_0.out _
  have c4_0_7 : w4.cell? ⟨w.heap.size, 7, none⟩ = some (.bool same) := cell_of_row _ _ 7 _ _ (0, 0) b4_0.out
  have f4_0_7 : w4.frozen? ⟨w.heap.size, 7, none⟩ = false := block_free b4_0.out _
  have l4_1 : w.heap.size + 1 < w4.heap.size := (Array.getElem?_eq_some_iff.1 b4_1.out).1
  have c4_1_0 : w4.cell? ⟨w.heap.size + 1, 0, none⟩ = some (.slice none 0 0) := cell_of_row _ _ 0 _ _ (0, 0) b4_1.out
  have f4_1_0 : w4.frozen? ⟨w.heap.size + 1, 0, none⟩ = false := block_free b4_1.out _
  have c4_1_1 : w4.cell? ⟨w.heap.size + 1, 1, none⟩ = some (.slice none 0 0) := cell_of_row _ _ 1 _ _ (0, 0) b4_1.out
  have f4_1_1 : w4.frozen? ⟨w.heap.size + 1, 1, none⟩ = false := block_free b4_1.out _
  have c4_1_2 : w4.cell? ⟨w.heap.size + 1, 2, none⟩ = some (.slice none 0 0) := cell_of_row _ _ 2 _ _ (0, 0) b4_1.out
  have f4_1_2 : w4.frozen? ⟨w.heap.size + 1, 2, none⟩ = false := block_free b4_1.out _
  have c4_1_3 : w4.cell? ⟨w.heap.size + 1, 3, none⟩ = some (.int .i64 0) := cell_of_row _ _ 3 _ _ (0, 0) b4_1.out
  have f4_1_3 : w4.frozen? ⟨w.heap.size + 1, 3, none⟩ = false := block_free b4_1.out _
  have c4_1_4 : w4.cell? ⟨w.heap.size + 1, 4, none⟩ = some (.slice none 0 0) := cell_of_row _ _ 4 _ _ (0, 0) b4_1.out
  have f4_1_4 : w4.frozen? ⟨w.heap.size + 1, 4, none⟩ = false := block_free b4_1.out _
  have c4_1_5 : w4.cell? ⟨w.heap.size + 1, 5, none⟩ = some (.int .i64 0) := cell_of_row _ _ 5 _ _ (0, 0) b4_1.out
  have f4_1_5 : w4.frozen? ⟨w.heap.size + 1, 5, none⟩ = false := block_free b4_1.out _
  have c4_1_6 : w4.cell? ⟨w.heap.size + 1, 6, none⟩ = some (.slice none 0 0) := cell_of_row _ _ 6 _ _ (0, 0) b4_1.out
  have f4_1_6 : w4.frozen? ⟨w.heap.size + 1, 6, none⟩ = false := block_free b4_1.out _
  have c4_1_7 : w4.cell? ⟨w.heap.size + 1, 7, none⟩ = some (.bool false) := cell_of_row _ _ 7 _ _ (0, 0) b4_1.out
  have f4_1_7 : w4.frozen? ⟨w.heap.size + 1, 7, none⟩ = false := block_free b4_1.out _
  have hBz : B ≤ w4.heap.size := by omega
  obtain ⟨wF, hwF⟩ : ∃ W, W = (World.setCell (World.setCell (World.setCell (World.setCell (World.setCell (World.setCell (World.setCell (World.setCell (World.setCell w4 ⟨w.heap.size, 6, none⟩ (.slice A_4 n4 c_4)) ⟨w.heap.size + 1, 0, none⟩ (.slice (some ⟨r, 0, none⟩) 64 c_1)) ⟨w.heap.size + 1, 1, none⟩ (.slice (some ⟨g, 0, none⟩) 64 c_2)) ⟨w.heap.size + 1, 2, none⟩ (.slice (some ⟨k, 0, none⟩) 64 d_2)) ⟨w.heap.size + 1, 3, none⟩ (.int .i64 txg)) ⟨w.heap.size + 1, 4, none⟩ (.slice A_3 n3 c_3)) ⟨w.heap.size + 1, 5, none⟩ (.int .i64 keep)) ⟨w.heap.size + 1, 6, none⟩ (.slice A_4 n4 c_4)) ⟨w.heap.size + 1, 7, none⟩ (.bool same)) := ⟨_, rfl⟩
  have hfar : ∀ b, b ≠ w.heap.size → b ≠ w.heap.size + 1 → wF.heap[b]? = w4.heap[b]? := by
    intro b h1 h2
    rw [hwF]
    exact (heap_far (by simp; omega)).trans ((heap_far (by simp; omega)).trans ((heap_far (by simp; omega)).trans ((heap_far (by simp; omega)).trans ((heap_far (by simp; omega)).trans ((heap_far (by simp; omega)).trans ((heap_far (by simp; omega)).trans ((heap_far (by simp; omega)).trans ((heap_far (by simp; omega)).trans (rfl)))))))))
  have hszF : wF.heap.size = w4.heap.size := by rw [hwF]; simp [World.setCell]
  have hbF : Below w.heap.size w wF := by rw [hwF]; exact (Below.setCell (p := ⟨w.heap.size + 1, 7, none⟩) (Below.setCell (p := ⟨w.heap.size + 1, 6, none⟩) (Below.setCell (p := ⟨w.heap.size + 1, 5, none⟩) (Below.setCell (p := ⟨w.heap.size + 1, 4, none⟩) (Below.setCell (p := ⟨w.heap.size + 1, 3, none⟩) (Below.setCell (p := ⟨w.heap.size + 1, 2, none⟩) (Below.setCell (p := ⟨w.heap.size + 1, 1, none⟩) (Below.setCell (p := ⟨w.heap.size + 1, 0, none⟩) (Below.setCell (p := ⟨w.heap.size, 6, none⟩) X4 (by have := X4.size; simp <;> omega) _) (by have := X4.size; simp <;> omega) _) (by have := X4.size; simp <;> omega) _) (by have := X4.size; simp <;> omega) _) (by have := X4.size; simp <;> omega) _) (by have := X4.size; simp <;> omega) _) (by have := X4.size; simp <;> omega) _) (by have := X4.size; simp <;> omega) _) (by have := X4.size; simp <;> omega) _)
  have hgF : SliceR PtrR 5 wF B wF.heap.size A_3 n3 c_3 gone := (F_gone4.out.keep (w' := wF) (fun b b1 b2 => hfar b (by omega) (by omega)) (by omega) (fun _ _ h => h)).wide (Nat.le_refl _) (by omega) (Nat.le_refl _) (fun _ _ h => h)
  have hP : NewStC (rows, (refs, last), txg, gone, keep, dead, same) w (.returned (.agg #[.slice (some ⟨r, 0, none⟩) 64 c_1, .slice (some ⟨g, 0, none⟩) 64 c_2, .slice (some ⟨k, 0, none⟩) 64 d_2, .int .i64 txg, .slice A_3 n3 c_3, .int .i64 keep, .slice A_4 n4 c_4, .bool same])) wF :=
    ⟨B, r, g, k, c_1, c_2, d_2, A_3, n3, c_3, A_4, n4, c_4, rfl, hc64, hd64, by omega, by omega, by omega, ⟨F_rows4.out.keep (hfar r (by omega) (by omega)), F_refs4.out.keep (hfar g (by omega) (by omega)), F_last4.out.keep (hfar k (by omega) (by omega)), hgF, hBr, hBg, hBk, hgk, hrg, hrk, by omega⟩, hbF⟩
  rw [hwF] at hP
  have HP := Lib.hid hP
  clear hP hwF hfar hszF hbF hgF
  go_wp2_with fail
  exact bodyPost_ret (v := .agg #[.slice (some ⟨r, 0, none⟩) 64 c_1, .slice (some ⟨g, 0, none⟩) 64 c_2, .slice (some ⟨k, 0, none⟩) 64 d_2, .int .i64 txg, .slice A_3 n3 c_3, .int .i64 keep, .slice A_4 n4 c_4, .bool same]) (by simp [results, Try.results43, go_sem, *]) rfl HP.out
set_option maxRecDepth 100000 in
set_option maxHeartbeats 4000000 in
theorem l7Copy_any (cs : List Value) (x : StoreD) (w : World) (lo hi : Nat) (h : StoreR w lo hi cs x) (hl : x.1.length = 64 ∧ x.2.1.1.length = 64 ∧ x.2.1.2.length = 64) (hsz : x.2.2.2.1.length ≤ 2000000 ∧ x.2.2.2.2.2.1.length ≤ 2000000) :
    Calls Try.prog 66 #[.agg cs.toArray] w (NewStC x w) := by
  obtain ⟨rows, ⟨refs, last⟩, txg, gone, keep, dead, same⟩ := x
  obtain ⟨A0, n0, c0, A1, n1, c1, A2, n2, c2, A3, n3, c3, A4, n4, c4, rfl, h0, h1, h2, h3, h4⟩ := h
  obtain rfl : n0 = 64 := by rw [← h0.len]; exact hl.1
  obtain rfl : n1 = 64 := by rw [← h1.len]; exact hl.2.1
  obtain rfl : n2 = 64 := by rw [← h2.len]; exact hl.2.2
  have s3 : n3 ≤ 2000000 := by have := h3.len; have := hsz.1; simp at this; omega
  have s4 : n4 ≤ 2000000 := by have := h4.len; have := hsz.2; simp at this; omega
  have L3 := Lib.hid h3.len
  have H0 := Lib.hid h0; have H1 := Lib.hid h1; have H2 := Lib.hid h2; have H3 := Lib.hid h3; have H4 := Lib.hid h4
  have HN1 : Hid (A1 = none → 64 = 0 ∧ c1 = 0) := Lib.hid (fun e => by have a := h1.2.2.2.2.1 e; have b := h1.2.1; omega)
  have HN2 : Hid (A2 = none → 64 = 0 ∧ c2 = 0) := Lib.hid (fun e => by have a := h2.2.2.2.2.1 e; have b := h2.2.1; omega)
  clear h0 h1 h2 h3 h4 hl hsz
  show Calls Try.prog 66 #[.agg #[.slice A0 64 c0, .slice A1 64 c1, .slice A2 64 c2, .int .i64 txg, .slice A3 n3 c3, .int .i64 keep, .slice A4 n4 c4, .bool same]] w _
  obtain ⟨iS, hiS, hzS0, hzS1, hzS2⟩ := info_parts infoE_StringS
  obtain ⟨iP, hiP, hzP0, hzP1, hzP2⟩ := info_parts infoE_PtrS
  go_enter Try.func66, Try.ntmps66
  obtain ⟨vs1, r1, r2, r3, r4⟩ := ((SliceR.below H0.out (Below.alloc (Below.alloc (Below.alloc (Below.refl _ _) (by first | exact Nat.le_refl _ | (simp [World.setCell] <;> omega)) _) (by first | exact Nat.le_refl _ | (simp [World.setCell] <;> omega)) _) (by first | exact Nat.le_refl _ | (simp [World.setCell] <;> omega)) _) (StrR.below (Below.alloc (Below.alloc (Below.alloc (Below.refl _ _) (by first | exact Nat.le_refl _ | (simp [World.setCell] <;> omega)) _) (by first | exact Nat.le_refl _ | (simp [World.setCell] <;> omega)) _) (by first | exact Nat.le_refl _ | (simp [World.setCell] <;> omega)) _) H0.out.lo_le))).row (by decide)
  have HR := Lib.hid r1; have HL := Lib.hid H0.out.len; have HV := Lib.hid r3; have HO : Hid (∀ u ∈ vs1, u.oneCell' = true) := Lib.hid (fun u hu => by obtain ⟨cs, x, hm, hr⟩ := r4 u hu; obtain ⟨rfl, _⟩ := hr; simp at hm; subst hm; rfl); clear r1 r2 r3 r4
  go_wp2_with (at_builtin; go_must (refine wpList_append_row rfl _ _ 24 rfl 9 iS (.string ByteArray.empty) 1 16 Try.underlying24 hiS hzS0 hzS1 hzS2 rfl (by decide) [] (some ⟨w.heap.size + 1 + 1, 0, none⟩) A0 0 0 64 c0 [] vs1 rfl rfl (OwnA.nil _) HR.out HO.out (by unfold maxLen; omega) (by omega) ?_))
  intro A_1 c_1 S_ w1 hO' hS' hC'
  have hb1 : Below ((World.alloc (World.alloc (World.alloc w (.cells #[.slice A0 64 c0, .slice A1 64 c1, .slice A2 64 c2, .int .i64 txg, .slice A3 n3 c3, .int .i64 keep, .slice A4 n4 c4, .bool same] 30)) (.cells #[.slice none 0 0, .slice none 0 0, .slice none 0 0, .int .i64 0, .slice none 0 0, .int .i64 0, .slice none 0 0, .bool false] 30)) (.cells #[] 9))).heap.size ((World.alloc (World.alloc (World.alloc w (.cells #[.slice A0 64 c0, .slice A1 64 c1, .slice A2 64 c2, .int .i64 txg, .slice A3 n3 c3, .int .i64 keep, .slice A4 n4 c4, .bool same] 30)) (.cells #[.slice none 0 0, .slice none 0 0, .slice none 0 0, .int .i64 0, .slice none 0 0, .int .i64 0, .slice none 0 0, .bool false] 30)) (.cells #[] 9))) w1 := hC'.below (fun k _ hk => by simp at hk) (Nat.le_refl _)
  try simp only [Nat.zero_add, List.nil_append] at hO'
  obtain ⟨S1, K1⟩ := OwnA.slice (R := StrR) (lo := w.heap.size + 2) (hi := w1.heap.size) hO' HL.out HV.out (fun g hg => ⟨by have h_ := hS' g hg; first | omega | (simp [World.setCell] at h_; omega), hO'.lt g hg⟩) (Nat.le_refl _)
  clear hO' hS' hC' HR HL HV HO
  obtain ⟨r, rfl, hr1, hr2, hR⟩ := RowsB.of K1
  have hc64 : 64 ≤ c_1 := S1.2.1
  have F_rows1 := Lib.hid hR
  clear K1 S1 hR
  have zz1 : w.heap.size + 3 ≤ w1.heap.size := by have := hb1.size; simp [World.setCell] at this; omega
  have YY1 : Below w.heap.size w (World.alloc (World.alloc (World.alloc w (.cells #[.slice A0 64 c0, .slice A1 64 c1, .slice A2 64 c2, .int .i64 txg, .slice A3 n3 c3, .int .i64 keep, .slice A4 n4 c4, .bool same] 30)) (.cells #[.slice none 0 0, .slice none 0 0, .slice none 0 0, .int .i64 0, .slice none 0 0, .int .i64 0, .slice none 0 0, .bool false] 30)) (.cells #[] 9)) := (Below.alloc (Below.alloc (Below.alloc (Below.refl _ _) (by first | exact Nat.le_refl _ | (simp [World.setCell] <;> omega)) _) (by first | exact Nat.le_refl _ | (simp [World.setCell] <;> omega)) _) (by first | exact Nat.le_refl _ | (simp [World.setCell] <;> omega)) _)
  have X1 : Below w.heap.size w w1 := YY1.trans (hb1.mono YY1.size)
  clear YY1
  have b1_0 : Hid (w1.heap[w.heap.size]? = some (.cells #[.slice A0 64 c0, .slice A1 64 c1, .slice A2 64 c2, .int .i64 txg, .slice A3 n3 c3, .int .i64 keep, .slice A4 n4 c4, .bool same] 30 (0, 0))) := Lib.hid ((hb1.block _ (by first | omega | (simp [World.setCell] <;> omega))).trans ((Below.heap_alloc _ _ _ (by first | omega | (simp [World.setCell] <;> omega))).trans ((Below.heap_alloc _ _ _ (by first | omega | (simp [World.setCell] <;> omega))).trans (show _ from by have := heap_alloc_new w (.cells #[.slice A0 64 c0, .slice A1 64 c1, .slice A2 64 c2, .int .i64 txg, .slice A3 n3 c3, .int .i64 keep, .slice A4 n4 c4, .bool same] 30); simpa [World.setCell] using this))))
  have b1_1 : Hid (w1.heap[w.heap.size + 1]? = some (.cells #[.slice none 0 0, .slice none 0 0, .slice none 0 0, .int .i64 0, .slice none 0 0, .int .i64 0, .slice none 0 0, .bool false] 30 (0, 0))) := Lib.hid ((hb1.block _ (by first | omega | (simp [World.setCell] <;> omega))).trans ((Below.heap_alloc _ _ _ (by first | omega | (simp [World.setCell] <;> omega))).trans (show _ from by have := heap_alloc_new (World.alloc w (.cells #[.slice A0 64 c0, .slice A1 64 c1, .slice A2 64 c2, .int .i64 txg, .slice A3 n3 c3, .int .i64 keep, .slice A4 n4 c4, .bool same] 30)) (.cells #[.slice none 0 0, .slice none 0 0, .slice none 0 0, .int .i64 0, .slice none 0 0, .int .i64 0, .slice none 0 0, .bool false] 30); simpa [World.setCell] using this)))
  have b1_2 : Hid (w1.heap[w.heap.size + 1 + 1]? = some (.cells #[] 9 (0, 0))) := Lib.hid ((hb1.block _ (by first | omega | (simp [World.setCell] <;> omega))).trans (show _ from by have := heap_alloc_new (World.alloc (World.alloc w (.cells #[.slice A0 64 c0, .slice A1 64 c1, .slice A2 64 c2, .int .i64 txg, .slice A3 n3 c3, .int .i64 keep, .slice A4 n4 c4, .bool same] 30)) (.cells #[.slice none 0 0, .slice none 0 0, .slice none 0 0, .int .i64 0, .slice none 0 0, .int .i64 0, .slice none 0 0, .bool false] 30)) (.cells #[] 9); simpa [World.setCell] using this))
  clear hb1
  have l1_0 : w.heap.size < w1.heap.size := (Array.getElem?_eq_some_iff.1 b1_0.out).1
  have c1_0_0 : w1.cell? ⟨w.heap.size, 0, none⟩ = some (.slice A0 64 c0) := cell_of_row _ _ 0 _ _ (0, 0) b1_0.out
  have f1_0_0 : w1.frozen? ⟨w.heap.size, 0, none⟩ = false := block_free b1_0.out _
  have c1_0_1 : w1.cell? ⟨w.heap.size, 1, none⟩ = some (.slice A1 64 c1) := cell_of_row _ _ 1 _ _ (0, 0) b1_0.out
  have f1_0_1 : w1.frozen? ⟨w.heap.size, 1, none⟩ = false := block_free b1_0.out _
  have c1_0_2 : w1.cell? ⟨w.heap.size, 2, none⟩ = some (.slice A2 64 c2) := cell_of_row _ _ 2 _ _ (0, 0) b1_0.out
  have f1_0_2 : w1.frozen? ⟨w.heap.size, 2, none⟩ = false := block_free b1_0.out _
  have c1_0_3 : w1.cell? ⟨w.heap.size, 3, none⟩ = some (.int .i64 txg) := cell_of_row _ _ 3 _ _ (0, 0) b1_0.out
  have f1_0_3 : w1.frozen? ⟨w.heap.size, 3, none⟩ = false := block_free b1_0.out _
  have c1_0_4 : w1.cell? ⟨w.heap.size, 4, none⟩ = some (.slice A3 n3 c3) := cell_of_row _ _ 4 _ _ (0, 0) b1_0.out
  have f1_0_4 : w1.frozen? ⟨w.heap.size, 4, none⟩ = false := block_free b1_0.out _
  have c1_0_5 : w1.cell? ⟨w.heap.size, 5, none⟩ = some (.int .i64 keep) := cell_of_row _ _ 5 _ _ (0, 0) b1_0.out
  have f1_0_5 : w1.frozen? ⟨w.heap.size, 5, none⟩ = false := block_free b1_0.out _
  have c1_0_6 : w1.cell? ⟨w.heap.size, 6, none⟩ = some (.slice A4 n4 c4) := cell_of_row _ _ 6 _ _ (0, 0) b1_0.out
  have f1_0_6 : w1.frozen? ⟨w.heap.size, 6, none⟩ = false := block_free b1_0.out _
  have c1_0_7 : w1.cell? ⟨w.heap.size, 7, none⟩ = some (.bool same) := cell_of_row _ _ 7 _ _ (0, 0) b1_0.out
  have f1_0_7 : w1.frozen? ⟨w.heap.size, 7, none⟩ = false := block_free b1_0.out _
  have l1_1 : w.heap.size + 1 < w1.heap.size := (Array.getElem?_eq_some_iff.1 b1_1.out).1
  have c1_1_0 : w1.cell? ⟨w.heap.size + 1, 0, none⟩ = some (.slice none 0 0) := cell_of_row _ _ 0 _ _ (0, 0) b1_1.out
  have f1_1_0 : w1.frozen? ⟨w.heap.size + 1, 0, none⟩ = false := block_free b1_1.out _
  have c1_1_1 : w1.cell? ⟨w.heap.size + 1, 1, none⟩ = some (.slice none 0 0) := cell_of_row _ _ 1 _ _ (0, 0) b1_1.out
  have f1_1_1 : w1.frozen? ⟨w.heap.size + 1, 1, none⟩ = false := block_free b1_1.out _
  have c1_1_2 : w1.cell? ⟨w.heap.size + 1, 2, none⟩ = some (.slice none 0 0) := cell_of_row _ _ 2 _ _ (0, 0) b1_1.out
  have f1_1_2 : w1.frozen? ⟨w.heap.size + 1, 2, none⟩ = false := block_free b1_1.out _
  have c1_1_3 : w1.cell? ⟨w.heap.size + 1, 3, none⟩ = some (.int .i64 0) := cell_of_row _ _ 3 _ _ (0, 0) b1_1.out
  have f1_1_3 : w1.frozen? ⟨w.heap.size + 1, 3, none⟩ = false := block_free b1_1.out _
  have c1_1_4 : w1.cell? ⟨w.heap.size + 1, 4, none⟩ = some (.slice none 0 0) := cell_of_row _ _ 4 _ _ (0, 0) b1_1.out
  have f1_1_4 : w1.frozen? ⟨w.heap.size + 1, 4, none⟩ = false := block_free b1_1.out _
  have c1_1_5 : w1.cell? ⟨w.heap.size + 1, 5, none⟩ = some (.int .i64 0) := cell_of_row _ _ 5 _ _ (0, 0) b1_1.out
  have f1_1_5 : w1.frozen? ⟨w.heap.size + 1, 5, none⟩ = false := block_free b1_1.out _
  have c1_1_6 : w1.cell? ⟨w.heap.size + 1, 6, none⟩ = some (.slice none 0 0) := cell_of_row _ _ 6 _ _ (0, 0) b1_1.out
  have f1_1_6 : w1.frozen? ⟨w.heap.size + 1, 6, none⟩ = false := block_free b1_1.out _
  have c1_1_7 : w1.cell? ⟨w.heap.size + 1, 7, none⟩ = some (.bool false) := cell_of_row _ _ 7 _ _ (0, 0) b1_1.out
  have f1_1_7 : w1.frozen? ⟨w.heap.size + 1, 7, none⟩ = false := block_free b1_1.out _
  have l1_2 : w.heap.size + 1 + 1 < w1.heap.size := (Array.getElem?_eq_some_iff.1 b1_2.out).1
  have hr3 : w.heap.size + 2 ≤ r := by omega
  have hrz : r < w1.heap.size := hr2
  clear hr1 hr2
  go_wp2_with fail
  refine (l5Copy_any A1 A2 64 c1 64 c2 refs last _ ((SliceR.below H1.out (Below.setCell (p := ⟨w.heap.size, 0, none⟩) X1 (by have := X1.size; simp <;> omega) _) (IntR.below (Below.setCell (p := ⟨w.heap.size, 0, none⟩) X1 (by have := X1.size; simp <;> omega) _) H1.out.lo_le))).ints ((SliceR.below H2.out (Below.setCell (p := ⟨w.heap.size, 0, none⟩) X1 (by have := X1.size; simp <;> omega) _) (IntR.below (Below.setCell (p := ⟨w.heap.size, 0, none⟩) X1 (by have := X1.size; simp <;> omega) _) H2.out.lo_le))).ints (by omega) (by omega)).mono ?_
  rintro e w2 ⟨A_2, n_2, c_2, B_2, m_2, d_2, S_, rfl, hO, hS, hb2⟩
  obtain rfl : n_2 = 64 := by have := hO.one.len; have := H1.out.len; omega
  obtain rfl : m_2 = 64 := by have := hO.two.len; have := H2.out.len; omega
  obtain ⟨g, k, rfl, rfl, rfl, hgk, og, ok⟩ := hO.both (by omega) (by omega)
  have hd64 : 64 ≤ c_2 := hO.nils.2.2.1
  have hg1 := hS g (by simp); have hk1 := hS k (by simp)
  simp [World.setCell] at hg1 hk1
  have F_refs2 := Lib.hid og; have F_last2 := Lib.hid ok
  clear hO hS og ok
  have F_rows2 := Lib.hid (F_rows1.out.keep ((hb2.block _ (by have := F_rows1.out.lt; first | omega | (simp [World.setCell] <;> omega))).trans ((heap_far (by first | omega | (simp <;> omega))).trans (rfl))))
  clear F_rows1
  have zz2 : w1.heap.size ≤ w2.heap.size := by have := hb2.size; simpa [World.setCell] using this
  have YY2 : Below w.heap.size w (World.setCell w1 ⟨w.heap.size, 0, none⟩ (.slice (some ⟨r, 0, none⟩) 64 c_1)) := (Below.setCell (p := ⟨w.heap.size, 0, none⟩) X1 (by have := X1.size; simp <;> omega) _)
  have X2 : Below w.heap.size w w2 := YY2.trans (hb2.mono YY2.size)
  clear YY2
  have b2_0 : Hid (w2.heap[w.heap.size]? = some (.cells #[.slice (some ⟨r, 0, none⟩) 64 c_1, .slice A1 64 c1, .slice A2 64 c2, .int .i64 txg, .slice A3 n3 c3, .int .i64 keep, .slice A4 n4 c4, .bool same] 30 (0, 0))) := Lib.hid ((hb2.block _ (by first | omega | (simp [World.setCell] <;> omega))).trans (block_set b1_0.out))
  have b2_1 : Hid (w2.heap[w.heap.size + 1]? = some (.cells #[.slice none 0 0, .slice none 0 0, .slice none 0 0, .int .i64 0, .slice none 0 0, .int .i64 0, .slice none 0 0, .bool false] 30 (0, 0))) := Lib.hid ((hb2.block _ (by first | omega | (simp [World.setCell] <;> omega))).trans ((heap_far (by first | omega | (simp <;> omega))).trans b1_1.out))
  have b2_2 : Hid (w2.heap[w.heap.size + 1 + 1]? = some (.cells #[] 9 (0, 0))) := Lib.hid ((hb2.block _ (by first | omega | (simp [World.setCell] <;> omega))).trans ((heap_far (by first | omega | (simp <;> omega))).trans b1_2.out))
  clear b1_0 b1_1 b1_2 X1 zz1 l1_0 c1_0_0 f1_0_0 c1_0_1 f1_0_1 c1_0_2 f1_0_2 c1_0_3 f1_0_3 c1_0_4 f1_0_4 c1_0_5 f1_0_5 c1_0_6 f1_0_6 c1_0_7 f1_0_7 l1_1 c1_1_0 f1_1_0 c1_1_1 f1_1_1 c1_1_2 f1_1_2 c1_1_3 f1_1_3 c1_1_4 f1_1_4 c1_1_5 f1_1_5 c1_1_6 f1_1_6 c1_1_7 f1_1_7 l1_2 hb2
  have l2_0 : w.heap.size < w2.heap.size := (Array.getElem?_eq_some_iff.1 b2_0.out).1
  have c2_0_0 : w2.cell? ⟨w.heap.size, 0, none⟩ = some (.slice (some ⟨r, 0, none⟩) 64 c_1) := cell_of_row _ _ 0 _ _ (0, 0) b2_0.out
  have f2_0_0 : w2.frozen? ⟨w.heap.size, 0, none⟩ = false := block_free b2_0.out _
  have c2_0_1 : w2.cell? ⟨w.heap.size, 1, none⟩ = some (.slice A1 64 c1) := cell_of_row _ _ 1 _ _ (0, 0) b2_0.out
  have f2_0_1 : w2.frozen? ⟨w.heap.size, 1, none⟩ = false := block_free b2_0.out _
  have c2_0_2 : w2.cell? ⟨w.heap.size, 2, none⟩ = some (.slice A2 64 c2) := cell_of_row _ _ 2 _ _ (0, 0) b2_0.out
  have f2_0_2 : w2.frozen? ⟨w.heap.size, 2, none⟩ = false := block_free b2_0.out _
  have c2_0_3 : w2.cell? ⟨w.heap.size, 3, none⟩ = some (.int .i64 txg) := cell_of_row _ _ 3 _ _ (0, 0) b2_0.out
  have f2_0_3 : w2.frozen? ⟨w.heap.size, 3, none⟩ = false := block_free b2_0.out _
  have c2_0_4 : w2.cell? ⟨w.heap.size, 4, none⟩ = some (.slice A3 n3 c3) := cell_of_row _ _ 4 _ _ (0, 0) b2_0.out
  have f2_0_4 : w2.frozen? ⟨w.heap.size, 4, none⟩ = false := block_free b2_0.out _
  have c2_0_5 : w2.cell? ⟨w.heap.size, 5, none⟩ = some (.int .i64 keep) := cell_of_row _ _ 5 _ _ (0, 0) b2_0.out
  have f2_0_5 : w2.frozen? ⟨w.heap.size, 5, none⟩ = false := block_free b2_0.out _
  have c2_0_6 : w2.cell? ⟨w.heap.size, 6, none⟩ = some (.slice A4 n4 c4) := cell_of_row _ _ 6 _ _ (0, 0) b2_0.out
  have f2_0_6 : w2.frozen? ⟨w.heap.size, 6, none⟩ = false := block_free b2_0.out _
  have c2_0_7 : w2.cell? ⟨w.heap.size, 7, none⟩ = some (.bool same) := cell_of_row _ _ 7 _ _ (0, 0) b2_0.out
  have f2_0_7 : w2.frozen? ⟨w.heap.size, 7, none⟩ = false := block_free b2_0.out _
  have l2_1 : w.heap.size + 1 < w2.heap.size := (Array.getElem?_eq_some_iff.1 b2_1.out).1
  have c2_1_0 : w2.cell? ⟨w.heap.size + 1, 0, none⟩ = some (.slice none 0 0) := cell_of_row _ _ 0 _ _ (0, 0) b2_1.out
  have f2_1_0 : w2.frozen? ⟨w.heap.size + 1, 0, none⟩ = false := block_free b2_1.out _
  have c2_1_1 : w2.cell? ⟨w.heap.size + 1, 1, none⟩ = some (.slice none 0 0) := cell_of_row _ _ 1 _ _ (0, 0) b2_1.out
  have f2_1_1 : w2.frozen? ⟨w.heap.size + 1, 1, none⟩ = false := block_free b2_1.out _
  have c2_1_2 : w2.cell? ⟨w.heap.size + 1, 2, none⟩ = some (.slice none 0 0) := cell_of_row _ _ 2 _ _ (0, 0) b2_1.out
  have f2_1_2 : w2.frozen? ⟨w.heap.size + 1, 2, none⟩ = false := block_free b2_1.out _
  have c2_1_3 : w2.cell? ⟨w.heap.size + 1, 3, none⟩ = some (.int .i64 0) := cell_of_row _ _ 3 _ _ (0, 0) b2_1.out
  have f2_1_3 : w2.frozen? ⟨w.heap.size + 1, 3, none⟩ = false := block_free b2_1.out _
  have c2_1_4 : w2.cell? ⟨w.heap.size + 1, 4, none⟩ = some (.slice none 0 0) := cell_of_row _ _ 4 _ _ (0, 0) b2_1.out
  have f2_1_4 : w2.frozen? ⟨w.heap.size + 1, 4, none⟩ = false := block_free b2_1.out _
  have c2_1_5 : w2.cell? ⟨w.heap.size + 1, 5, none⟩ = some (.int .i64 0) := cell_of_row _ _ 5 _ _ (0, 0) b2_1.out
  have f2_1_5 : w2.frozen? ⟨w.heap.size + 1, 5, none⟩ = false := block_free b2_1.out _
  have c2_1_6 : w2.cell? ⟨w.heap.size + 1, 6, none⟩ = some (.slice none 0 0) := cell_of_row _ _ 6 _ _ (0, 0) b2_1.out
  have f2_1_6 : w2.frozen? ⟨w.heap.size + 1, 6, none⟩ = false := block_free b2_1.out _
  have c2_1_7 : w2.cell? ⟨w.heap.size + 1, 7, none⟩ = some (.bool false) := cell_of_row _ _ 7 _ _ (0, 0) b2_1.out
  have f2_1_7 : w2.frozen? ⟨w.heap.size + 1, 7, none⟩ = false := block_free b2_1.out _
  have l2_2 : w.heap.size + 1 + 1 < w2.heap.size := (Array.getElem?_eq_some_iff.1 b2_2.out).1
  obtain ⟨B, hB⟩ : ∃ B, B = w2.heap.size := ⟨_, rfl⟩
  have hBr : r < B := by omega
  have hBg : g < B := by rw [hB]; exact F_refs2.out.lt
  have hBk : k < B := by rw [hB]; exact F_last2.out.lt
  have hrg : r ≠ g := by omega
  have hrk : r ≠ k := by omega
  have hbxg : w.heap.size + 2 ≤ g := by omega
  have hbxk : w.heap.size + 2 ≤ k := by omega
  have hB2 : w.heap.size + 2 ≤ B := by omega
  have HB := Lib.hid hB; clear hB hg1 hk1 hrz
  obtain ⟨vs3, r1, r2, r3, r4⟩ := ((SliceR.below H3.out (Below.alloc (Below.setCell (p := ⟨w.heap.size, 2, none⟩) (Below.setCell (p := ⟨w.heap.size, 1, none⟩) X2 (by have := X2.size; simp <;> omega) _) (by have := X2.size; simp <;> omega) _) (by have := X2.size; simp [World.setCell] <;> omega) _) (PtrR.below (Below.alloc (Below.setCell (p := ⟨w.heap.size, 2, none⟩) (Below.setCell (p := ⟨w.heap.size, 1, none⟩) X2 (by have := X2.size; simp <;> omega) _) (by have := X2.size; simp <;> omega) _) (by have := X2.size; simp [World.setCell] <;> omega) _) H3.out.lo_le))).row (by decide)
  have HR := Lib.hid r1; have HL := Lib.hid H3.out.len; have HV := Lib.hid r3; have HO : Hid (∀ u ∈ vs3, u.oneCell' = true) := Lib.hid (fun u hu => by obtain ⟨cs, x, hm, hr⟩ := r4 u hu; obtain ⟨at_, birth_, size_, sum_, level_⟩ := x; obtain rfl := hr; simp at hm; rcases hm with rfl | rfl | rfl | rfl | rfl <;> rfl); clear r1 r2 r3 r4
  go_wp2_with (at_builtin; go_must (refine wpList_append_row rfl _ _ 28 rfl 81 iP (.agg #[.int .i64 0, .int .i64 0, .int .i64 0, .int .i64 0, .int .i64 0]) 5 40 Try.underlying28 hiP hzP0 hzP1 hzP2 rfl (by decide) [] (some ⟨w2.heap.size, 0, none⟩) A3 0 0 n3 c3 [] vs3 rfl rfl (OwnA.nil _) HR.out HO.out (by unfold maxLen; omega) (by omega) ?_))
  intro A_3 c_3 S_ w3 hO' hS' hC'
  have hb3 : Below ((World.alloc (World.setCell (World.setCell w2 ⟨w.heap.size, 1, none⟩ (.slice (some ⟨g, 0, none⟩) 64 c_2)) ⟨w.heap.size, 2, none⟩ (.slice (some ⟨k, 0, none⟩) 64 d_2)) (.cells #[] 81))).heap.size ((World.alloc (World.setCell (World.setCell w2 ⟨w.heap.size, 1, none⟩ (.slice (some ⟨g, 0, none⟩) 64 c_2)) ⟨w.heap.size, 2, none⟩ (.slice (some ⟨k, 0, none⟩) 64 d_2)) (.cells #[] 81))) w3 := hC'.below (fun k _ hk => by simp at hk) (Nat.le_refl _)
  try simp only [Nat.zero_add, List.nil_append] at hO'
  obtain ⟨S3, K3⟩ := OwnA.slice (R := PtrR) (lo := w2.heap.size) (hi := w3.heap.size) hO' HL.out HV.out (fun g hg => ⟨by have h_ := hS' g hg; first | omega | (simp [World.setCell] at h_; omega), hO'.lt g hg⟩) (Nat.le_refl _)
  clear hO' hS' hC' HR HL HV HO
  have hS3 : SliceR PtrR 5 w3 B w3.heap.size A_3 n3 c_3 gone := by rw [HB.out]; exact S3.wide (by simp [World.setCell]) (Nat.le_refl _) (Nat.le_refl _) (fun _ _ h => h)
  have hBw : B ≤ w2.heap.size := by rw [HB.out]; exact Nat.le_refl _
  have F_rows3 := Lib.hid (F_rows2.out.keep ((hb3.block _ (by have := F_rows2.out.lt; first | omega | (simp [World.setCell] <;> omega))).trans ((Below.heap_alloc _ _ _ (by first | omega | (simp [World.setCell] <;> omega))).trans ((heap_far (by first | omega | (simp <;> omega))).trans ((heap_far (by first | omega | (simp <;> omega))).trans (rfl))))))
  have F_refs3 := Lib.hid (F_refs2.out.keep ((hb3.block _ (by have := F_refs2.out.lt; first | omega | (simp [World.setCell] <;> omega))).trans ((Below.heap_alloc _ _ _ (by first | omega | (simp [World.setCell] <;> omega))).trans ((heap_far (by first | omega | (simp <;> omega))).trans ((heap_far (by first | omega | (simp <;> omega))).trans (rfl))))))
  have F_last3 := Lib.hid (F_last2.out.keep ((hb3.block _ (by have := F_last2.out.lt; first | omega | (simp [World.setCell] <;> omega))).trans ((Below.heap_alloc _ _ _ (by first | omega | (simp [World.setCell] <;> omega))).trans ((heap_far (by first | omega | (simp <;> omega))).trans ((heap_far (by first | omega | (simp <;> omega))).trans (rfl))))))
  clear F_rows2 F_refs2 F_last2
  have F_gone3 := Lib.hid hS3; clear S3 K3 hS3
  have zz3 : w2.heap.size + 1 ≤ w3.heap.size := by have := hb3.size; simp [World.setCell] at this; omega
  have YY3 : Below w.heap.size w (World.alloc (World.setCell (World.setCell w2 ⟨w.heap.size, 1, none⟩ (.slice (some ⟨g, 0, none⟩) 64 c_2)) ⟨w.heap.size, 2, none⟩ (.slice (some ⟨k, 0, none⟩) 64 d_2)) (.cells #[] 81)) := (Below.alloc (Below.setCell (p := ⟨w.heap.size, 2, none⟩) (Below.setCell (p := ⟨w.heap.size, 1, none⟩) X2 (by have := X2.size; simp <;> omega) _) (by have := X2.size; simp <;> omega) _) (by have := X2.size; simp [World.setCell] <;> omega) _)
  have X3 : Below w.heap.size w w3 := YY3.trans (hb3.mono YY3.size)
  clear YY3
  have b3_0 : Hid (w3.heap[w.heap.size]? = some (.cells #[.slice (some ⟨r, 0, none⟩) 64 c_1, .slice (some ⟨g, 0, none⟩) 64 c_2, .slice (some ⟨k, 0, none⟩) 64 d_2, .int .i64 txg, .slice A3 n3 c3, .int .i64 keep, .slice A4 n4 c4, .bool same] 30 (0, 0))) := Lib.hid ((hb3.block _ (by first | omega | (simp [World.setCell] <;> omega))).trans ((Below.heap_alloc _ _ _ (by first | omega | (simp [World.setCell] <;> omega))).trans (block_set (block_set b2_0.out))))
  have b3_1 : Hid (w3.heap[w.heap.size + 1]? = some (.cells #[.slice none 0 0, .slice none 0 0, .slice none 0 0, .int .i64 0, .slice none 0 0, .int .i64 0, .slice none 0 0, .bool false] 30 (0, 0))) := Lib.hid ((hb3.block _ (by first | omega | (simp [World.setCell] <;> omega))).trans ((Below.heap_alloc _ _ _ (by first | omega | (simp [World.setCell] <;> omega))).trans ((heap_far (by first | omega | (simp <;> omega))).trans ((heap_far (by first | omega | (simp <;> omega))).trans b2_1.out))))
  have b3_2 : Hid (w3.heap[w.heap.size + 1 + 1]? = some (.cells #[] 9 (0, 0))) := Lib.hid ((hb3.block _ (by first | omega | (simp [World.setCell] <;> omega))).trans ((Below.heap_alloc _ _ _ (by first | omega | (simp [World.setCell] <;> omega))).trans ((heap_far (by first | omega | (simp <;> omega))).trans ((heap_far (by first | omega | (simp <;> omega))).trans b2_2.out))))
  have b3_3 : Hid (w3.heap[w2.heap.size]? = some (.cells #[] 81 (0, 0))) := Lib.hid ((hb3.block _ (by first | omega | (simp [World.setCell] <;> omega))).trans (show _ from by have := heap_alloc_new (World.setCell (World.setCell w2 ⟨w.heap.size, 1, none⟩ (.slice (some ⟨g, 0, none⟩) 64 c_2)) ⟨w.heap.size, 2, none⟩ (.slice (some ⟨k, 0, none⟩) 64 d_2)) (.cells #[] 81); simpa [World.setCell] using this))
  clear b2_0 b2_1 b2_2 X2 zz2 l2_0 c2_0_0 f2_0_0 c2_0_1 f2_0_1 c2_0_2 f2_0_2 c2_0_3 f2_0_3 c2_0_4 f2_0_4 c2_0_5 f2_0_5 c2_0_6 f2_0_6 c2_0_7 f2_0_7 l2_1 c2_1_0 f2_1_0 c2_1_1 f2_1_1 c2_1_2 f2_1_2 c2_1_3 f2_1_3 c2_1_4 f2_1_4 c2_1_5 f2_1_5 c2_1_6 f2_1_6 c2_1_7 f2_1_7 l2_2 hb3
  have l3_0 : w.heap.size < w3.heap.size := (Array.getElem?_eq_some_iff.1 b3_0.out).1
  have c3_0_0 : w3.cell? ⟨w.heap.size, 0, none⟩ = some (.slice (some ⟨r, 0, none⟩) 64 c_1) := cell_of_row _ _ 0 _ _ (0, 0) b3_0.out
  have f3_0_0 : w3.frozen? ⟨w.heap.size, 0, none⟩ = false := block_free b3_0.out _
  have c3_0_1 : w3.cell? ⟨w.heap.size, 1, none⟩ = some (.slice (some ⟨g, 0, none⟩) 64 c_2) := cell_of_row _ _ 1 _ _ (0, 0) b3_0.out
  have f3_0_1 : w3.frozen? ⟨w.heap.size, 1, none⟩ = false := block_free b3_0.out _
  have c3_0_2 : w3.cell? ⟨w.heap.size, 2, none⟩ = some (.slice (some ⟨k, 0, none⟩) 64 d_2) := cell_of_row _ _ 2 _ _ (0, 0) b3_0.out
  have f3_0_2 : w3.frozen? ⟨w.heap.size, 2, none⟩ = false := block_free b3_0.out _
  have c3_0_3 : w3.cell? ⟨w.heap.size, 3, none⟩ = some (.int .i64 txg) := cell_of_row _ _ 3 _ _ (0, 0) b3_0.out
  have f3_0_3 : w3.frozen? ⟨w.heap.size, 3, none⟩ = false := block_free b3_0.out _
  have c3_0_4 : w3.cell? ⟨w.heap.size, 4, none⟩ = some (.slice A3 n3 c3) := cell_of_row _ _ 4 _ _ (0, 0) b3_0.out
  have f3_0_4 : w3.frozen? ⟨w.heap.size, 4, none⟩ = false := block_free b3_0.out _
  have c3_0_5 : w3.cell? ⟨w.heap.size, 5, none⟩ = some (.int .i64 keep) := cell_of_row _ _ 5 _ _ (0, 0) b3_0.out
  have f3_0_5 : w3.frozen? ⟨w.heap.size, 5, none⟩ = false := block_free b3_0.out _
  have c3_0_6 : w3.cell? ⟨w.heap.size, 6, none⟩ = some (.slice A4 n4 c4) := cell_of_row _ _ 6 _ _ (0, 0) b3_0.out
  have f3_0_6 : w3.frozen? ⟨w.heap.size, 6, none⟩ = false := block_free b3_0.out _
  have c3_0_7 : w3.cell? ⟨w.heap.size, 7, none⟩ = some (.bool same) := cell_of_row _ _ 7 _ _ (0, 0) b3_0.out
  have f3_0_7 : w3.frozen? ⟨w.heap.size, 7, none⟩ = false := block_free b3_0.out _
  have l3_1 : w.heap.size + 1 < w3.heap.size := (Array.getElem?_eq_some_iff.1 b3_1.out).1
  have c3_1_0 : w3.cell? ⟨w.heap.size + 1, 0, none⟩ = some (.slice none 0 0) := cell_of_row _ _ 0 _ _ (0, 0) b3_1.out
  have f3_1_0 : w3.frozen? ⟨w.heap.size + 1, 0, none⟩ = false := block_free b3_1.out _
  have c3_1_1 : w3.cell? ⟨w.heap.size + 1, 1, none⟩ = some (.slice none 0 0) := cell_of_row _ _ 1 _ _ (0, 0) b3_1.out
  have f3_1_1 : w3.frozen? ⟨w.heap.size + 1, 1, none⟩ = false := block_free b3_1.out _
  have c3_1_2 : w3.cell? ⟨w.heap.size + 1, 2, none⟩ = some (.slice none 0 0) := cell_of_row _ _ 2 _ _ (0, 0) b3_1.out
  have f3_1_2 : w3.frozen? ⟨w.heap.size + 1, 2, none⟩ = false := block_free b3_1.out _
  have c3_1_3 : w3.cell? ⟨w.heap.size + 1, 3, none⟩ = some (.int .i64 0) := cell_of_row _ _ 3 _ _ (0, 0) b3_1.out
  have f3_1_3 : w3.frozen? ⟨w.heap.size + 1, 3, none⟩ = false := block_free b3_1.out _
  have c3_1_4 : w3.cell? ⟨w.heap.size + 1, 4, none⟩ = some (.slice none 0 0) := cell_of_row _ _ 4 _ _ (0, 0) b3_1.out
  have f3_1_4 : w3.frozen? ⟨w.heap.size + 1, 4, none⟩ = false := block_free b3_1.out _
  have c3_1_5 : w3.cell? ⟨w.heap.size + 1, 5, none⟩ = some (.int .i64 0) := cell_of_row _ _ 5 _ _ (0, 0) b3_1.out
  have f3_1_5 : w3.frozen? ⟨w.heap.size + 1, 5, none⟩ = false := block_free b3_1.out _
  have c3_1_6 : w3.cell? ⟨w.heap.size + 1, 6, none⟩ = some (.slice none 0 0) := cell_of_row _ _ 6 _ _ (0, 0) b3_1.out
  have f3_1_6 : w3.frozen? ⟨w.heap.size + 1, 6, none⟩ = false := block_free b3_1.out _
  have c3_1_7 : w3.cell? ⟨w.heap.size + 1, 7, none⟩ = some (.bool false) := cell_of_row _ _ 7 _ _ (0, 0) b3_1.out
  have f3_1_7 : w3.frozen? ⟨w.heap.size + 1, 7, none⟩ = false := block_free b3_1.out _
  have l3_2 : w.heap.size + 1 + 1 < w3.heap.size := (Array.getElem?_eq_some_iff.1 b3_2.out).1
  have l3_3 : w2.heap.size < w3.heap.size := (Array.getElem?_eq_some_iff.1 b3_3.out).1
  have hBw3 : B ≤ w3.heap.size := by omega
  obtain ⟨vs4, r1, r2, r3, r4⟩ := ((SliceR.below H4.out (Below.alloc (Below.setCell (p := ⟨w.heap.size, 4, none⟩) X3 (by have := X3.size; simp <;> omega) _) (by have := X3.size; simp [World.setCell] <;> omega) _) (PtrR.below (Below.alloc (Below.setCell (p := ⟨w.heap.size, 4, none⟩) X3 (by have := X3.size; simp <;> omega) _) (by have := X3.size; simp [World.setCell] <;> omega) _) H4.out.lo_le))).row (by decide)
  have HR := Lib.hid r1; have HL := Lib.hid H4.out.len; have HV := Lib.hid r3; have HO : Hid (∀ u ∈ vs4, u.oneCell' = true) := Lib.hid (fun u hu => by obtain ⟨cs, x, hm, hr⟩ := r4 u hu; obtain ⟨at_, birth_, size_, sum_, level_⟩ := x; obtain rfl := hr; simp at hm; rcases hm with rfl | rfl | rfl | rfl | rfl <;> rfl); clear r1 r2 r3 r4
  go_wp2_with (at_builtin; go_must (refine wpList_append_row rfl _ _ 28 rfl 81 iP (.agg #[.int .i64 0, .int .i64 0, .int .i64 0, .int .i64 0, .int .i64 0]) 5 40 Try.underlying28 hiP hzP0 hzP1 hzP2 rfl (by decide) [] (some ⟨w3.heap.size, 0, none⟩) A4 0 0 n4 c4 [] vs4 rfl rfl (OwnA.nil _) HR.out HO.out (by unfold maxLen; omega) (by omega) ?_))
  intro A_4 c_4 S_ w4 hO' hS' hC'
  have hb4 : Below ((World.alloc (World.setCell w3 ⟨w.heap.size, 4, none⟩ (.slice A_3 n3 c_3)) (.cells #[] 81))).heap.size ((World.alloc (World.setCell w3 ⟨w.heap.size, 4, none⟩ (.slice A_3 n3 c_3)) (.cells #[] 81))) w4 := hC'.below (fun k _ hk => by simp at hk) (Nat.le_refl _)
  try simp only [Nat.zero_add, List.nil_append] at hO'
  obtain ⟨S4, K4⟩ := OwnA.slice (R := PtrR) (lo := w3.heap.size) (hi := w4.heap.size) hO' HL.out HV.out (fun g hg => ⟨by have h_ := hS' g hg; first | omega | (simp [World.setCell] at h_; omega), hO'.lt g hg⟩) (Nat.le_refl _)
  clear hO' hS' hC' HR HL HV HO
  have F_rows4 := Lib.hid (F_rows3.out.keep ((hb4.block _ (by have := F_rows3.out.lt; first | omega | (simp [World.setCell] <;> omega))).trans ((Below.heap_alloc _ _ _ (by first | omega | (simp [World.setCell] <;> omega))).trans ((heap_far (by first | omega | (simp <;> omega))).trans (rfl)))))
  have F_refs4 := Lib.hid (F_refs3.out.keep ((hb4.block _ (by have := F_refs3.out.lt; first | omega | (simp [World.setCell] <;> omega))).trans ((Below.heap_alloc _ _ _ (by first | omega | (simp [World.setCell] <;> omega))).trans ((heap_far (by first | omega | (simp <;> omega))).trans (rfl)))))
  have F_last4 := Lib.hid (F_last3.out.keep ((hb4.block _ (by have := F_last3.out.lt; first | omega | (simp [World.setCell] <;> omega))).trans ((Below.heap_alloc _ _ _ (by first | omega | (simp [World.setCell] <;> omega))).trans ((heap_far (by first | omega | (simp <;> omega))).trans (rfl)))))
  have F_gone4 := Lib.hid ((F_gone3.out.keep (w' := w4) (fun b b1 b2 => (hb4.block _ (by first | omega | (simp [World.setCell] <;> omega))).trans ((Below.heap_alloc _ _ _ (by first | omega | (simp [World.setCell] <;> omega))).trans ((heap_far (by first | omega | (simp <;> omega))).trans (rfl)))) (by have := hb4.size; simp [World.setCell] at this; omega) (fun _ _ h => h)))
  clear F_rows3 F_refs3 F_last3 F_gone3
  clear S4 K4
  have zz4 : w3.heap.size + 1 ≤ w4.heap.size := by have := hb4.size; simp [World.setCell] at this; omega
  have YY4 : Below w.heap.size w (World.alloc (World.setCell w3 ⟨w.heap.size, 4, none⟩ (.slice A_3 n3 c_3)) (.cells #[] 81)) := (Below.alloc (Below.setCell (p := ⟨w.heap.size, 4, none⟩) X3 (by have := X3.size; simp <;> omega) _) (by have := X3.size; simp [World.setCell] <;> omega) _)
  have X4 : Below w.heap.size w w4 := YY4.trans (hb4.mono YY4.size)
  clear YY4
  have b4_0 : Hid (w4.heap[w.heap.size]? = some (.cells #[.slice (some ⟨r, 0, none⟩) 64 c_1, .slice (some ⟨g, 0, none⟩) 64 c_2, .slice (some ⟨k, 0, none⟩) 64 d_2, .int .i64 txg, .slice A_3 n3 c_3, .int .i64 keep, .slice A4 n4 c4, .bool same] 30 (0, 0))) := Lib.hid ((hb4.block _ (by first | omega | (simp [World.setCell] <;> omega))).trans ((Below.heap_alloc _ _ _ (by first | omega | (simp [World.setCell] <;> omega))).trans (block_set b3_0.out)))
  have b4_1 : Hid (w4.heap[w.heap.size + 1]? = some (.cells #[.slice none 0 0, .slice none 0 0, .slice none 0 0, .int .i64 0, .slice none 0 0, .int .i64 0, .slice none 0 0, .bool false] 30 (0, 0))) := Lib.hid ((hb4.block _ (by first | omega | (simp [World.setCell] <;> omega))).trans ((Below.heap_alloc _ _ _ (by first | omega | (simp [World.setCell] <;> omega))).trans ((heap_far (by first | omega | (simp <;> omega))).trans b3_1.out)))
  have b4_2 : Hid (w4.heap[w.heap.size + 1 + 1]? = some (.cells #[] 9 (0, 0))) := Lib.hid ((hb4.block _ (by first | omega | (simp [World.setCell] <;> omega))).trans ((Below.heap_alloc _ _ _ (by first | omega | (simp [World.setCell] <;> omega))).trans ((heap_far (by first | omega | (simp <;> omega))).trans b3_2.out)))
  have b4_3 : Hid (w4.heap[w2.heap.size]? = some (.cells #[] 81 (0, 0))) := Lib.hid ((hb4.block _ (by first | omega | (simp [World.setCell] <;> omega))).trans ((Below.heap_alloc _ _ _ (by first | omega | (simp [World.setCell] <;> omega))).trans ((heap_far (by first | omega | (simp <;> omega))).trans b3_3.out)))
  have b4_4 : Hid (w4.heap[w3.heap.size]? = some (.cells #[] 81 (0, 0))) := Lib.hid ((hb4.block _ (by first | omega | (simp [World.setCell] <;> omega))).trans (show _ from by have := heap_alloc_new (World.setCell w3 ⟨w.heap.size, 4, none⟩ (.slice A_3 n3 c_3)) (.cells #[] 81); simpa [World.setCell] using this))
  clear b3_0 b3_1 b3_2 b3_3 X3 zz3 l3_0 c3_0_0 f3_0_0 c3_0_1 f3_0_1 c3_0_2 f3_0_2 c3_0_3 f3_0_3 c3_0_4 f3_0_4 c3_0_5 f3_0_5 c3_0_6 f3_0_6 c3_0_7 f3_0_7 l3_1 c3_1_0 f3_1_0 c3_1_1 f3_1_1 c3_1_2 f3_1_2 c3_1_3 f3_1_3 c3_1_4 f3_1_4 c3_1_5 f3_1_5 c3_1_6 f3_1_6 c3_1_7 f3_1_7 l3_2 l3_3 hb4
  have l4_0 : w.heap.size < w4.heap.size := (Array.getElem?_eq_some_iff.1 b4_0.out).1
  have c4_0_0 : w4.cell? ⟨w.heap.size, 0, none⟩ = some (.slice (some ⟨r, 0, none⟩) 64 c_1) := cell_of_row _ _ 0 _ _ (0, 0) b4_0.out
  have f4_0_0 : w4.frozen? ⟨w.heap.size, 0, none⟩ = false := block_free b4_0.out _
  have c4_0_1 : w4.cell? ⟨w.heap.size, 1, none⟩ = some (.slice (some ⟨g, 0, none⟩) 64 c_2) := cell_of_row _ _ 1 _ _ (0, 0) b4_0.out
  have f4_0_1 : w4.frozen? ⟨w.heap.size, 1, none⟩ = false := block_free b4_0.out _
  have c4_0_2 : w4.cell? ⟨w.heap.size, 2, none⟩ = some (.slice (some ⟨k, 0, none⟩) 64 d_2) := cell_of_row _ _ 2 _ _ (0, 0) b4_0.out
  have f4_0_2 : w4.frozen? ⟨w.heap.size, 2, none⟩ = false := block_free b4_0.out _
  have c4_0_3 : w4.cell? ⟨w.heap.size, 3, none⟩ = some (.int .i64 txg) := cell_of_row _ _ 3 _ _ (0, 0) b4_0.out
  have f4_0_3 : w4.frozen? ⟨w.heap.size, 3, none⟩ = false := block_free b4_0.out _
  have c4_0_4 : w4.cell? ⟨w.heap.size, 4, none⟩ = some (.slice A_3 n3 c_3) := cell_of_row _ _ 4 _ _ (0, 0) b4_0.out
  have f4_0_4 : w4.frozen? ⟨w.heap.size, 4, none⟩ = false := block_free b4_0.out _
  have c4_0_5 : w4.cell? ⟨w.heap.size, 5, none⟩ = some (.int .i64 keep) := cell_of_row _ _ 5 _ _ (0, 0) b4_0.out
  have f4_0_5 : w4.frozen? ⟨w.heap.size, 5, none⟩ = false := block_free b4_0.out _
  have c4_0_6 : w4.cell? ⟨w.heap.size, 6, none⟩ = some (.slice A4 n4 c4) := cell_of_row _ _ 6 _ _ (0, 0) b4_0.out
  have f4_0_6 : w4.frozen? ⟨w.heap.size, 6, none⟩ = false := block_free b4_0.out _
  have c4_0_7 : w4.cell? ⟨w.heap.size, 7, none⟩ = some (.bool same) := cell_of_row _ _ 7 _ _ (0, 0) b4_0.out
  have f4_0_7 : w4.frozen? ⟨w.heap.size, 7, none⟩ = false := block_free b4_0.out _
  have l4_1 : w.heap.size + 1 < w4.heap.size := (Array.getElem?_eq_some_iff.1 b4_1.out).1
  have c4_1_0 : w4.cell? ⟨w.heap.size + 1, 0, none⟩ = some (.slice none 0 0) := cell_of_row _ _ 0 _ _ (0, 0) b4_1.out
  have f4_1_0 : w4.frozen? ⟨w.heap.size + 1, 0, none⟩ = false := block_free b4_1.out _
  have c4_1_1 : w4.cell? ⟨w.heap.size + 1, 1, none⟩ = some (.slice none 0 0) := cell_of_row _ _ 1 _ _ (0, 0) b4_1.out
  have f4_1_1 : w4.frozen? ⟨w.heap.size + 1, 1, none⟩ = false := block_free b4_1.out _
  have c4_1_2 : w4.cell? ⟨w.heap.size + 1, 2, none⟩ = some (.slice none 0 0) := cell_of_row _ _ 2 _ _ (0, 0) b4_1.out
  have f4_1_2 : w4.frozen? ⟨w.heap.size + 1, 2, none⟩ = false := block_free b4_1.out _
  have c4_1_3 : w4.cell? ⟨w.heap.size + 1, 3, none⟩ = some (.int .i64 0) := cell_of_row _ _ 3 _ _ (0, 0) b4_1.out
  have f4_1_3 : w4.frozen? ⟨w.heap.size + 1, 3, none⟩ = false := block_free b4_1.out _
  have c4_1_4 : w4.cell? ⟨w.heap.size + 1, 4, none⟩ = some (.slice none 0 0) := cell_of_row _ _ 4 _ _ (0, 0) b4_1.out
  have f4_1_4 : w4.frozen? ⟨w.heap.size + 1, 4, none⟩ = false := block_free b4_1.out _
  have c4_1_5 : w4.cell? ⟨w.heap.size + 1, 5, none⟩ = some (.int .i64 0) := cell_of_row _ _ 5 _ _ (0, 0) b4_1.out
  have f4_1_5 : w4.frozen? ⟨w.heap.size + 1, 5, none⟩ = false := block_free b4_1.out _
  have c4_1_6 : w4.cell? ⟨w.heap.size + 1, 6, none⟩ = some (.slice none 0 0) := cell_of_row _ _ 6 _ _ (0, 0) b4_1.out
  have f4_1_6 : w4.frozen? ⟨w.heap.size + 1, 6, none⟩ = false := block_free b4_1.out _
  have c4_1_7 : w4.cell? ⟨w.heap.size + 1, 7, none⟩ = some (.bool false) := cell_of_row _ _ 7 _ _ (0, 0) b4_1.out
  have f4_1_7 : w4.frozen? ⟨w.heap.size + 1, 7, none⟩ = false := block_free b4_1.out _
  have l4_2 : w.heap.size + 1 + 1 < w4.heap.size := (Array.getElem?_eq_some_iff.1 b4_2.out).1
  have l4_3 : w2.heap.size < w4.heap.size := (Array.getElem?_eq_some_iff.1 b4_3.out).1
  have l4_4 : w3.heap.size < w4.heap.size := (Array.getElem?_eq_some_iff.1 b4_4.out).1
  have hBz : B ≤ w4.heap.size := by omega
  obtain ⟨wF, hwF⟩ : ∃ W, W = (World.setCell (World.setCell (World.setCell (World.setCell (World.setCell (World.setCell (World.setCell (World.setCell (World.setCell w4 ⟨w.heap.size, 6, none⟩ (.slice A_4 n4 c_4)) ⟨w.heap.size + 1, 0, none⟩ (.slice (some ⟨r, 0, none⟩) 64 c_1)) ⟨w.heap.size + 1, 1, none⟩ (.slice (some ⟨g, 0, none⟩) 64 c_2)) ⟨w.heap.size + 1, 2, none⟩ (.slice (some ⟨k, 0, none⟩) 64 d_2)) ⟨w.heap.size + 1, 3, none⟩ (.int .i64 txg)) ⟨w.heap.size + 1, 4, none⟩ (.slice A_3 n3 c_3)) ⟨w.heap.size + 1, 5, none⟩ (.int .i64 keep)) ⟨w.heap.size + 1, 6, none⟩ (.slice A_4 n4 c_4)) ⟨w.heap.size + 1, 7, none⟩ (.bool same)) := ⟨_, rfl⟩
  have hfar : ∀ b, b ≠ w.heap.size → b ≠ w.heap.size + 1 → wF.heap[b]? = w4.heap[b]? := by
    intro b h1 h2
    rw [hwF]
    exact (heap_far (by simp; omega)).trans ((heap_far (by simp; omega)).trans ((heap_far (by simp; omega)).trans ((heap_far (by simp; omega)).trans ((heap_far (by simp; omega)).trans ((heap_far (by simp; omega)).trans ((heap_far (by simp; omega)).trans ((heap_far (by simp; omega)).trans ((heap_far (by simp; omega)).trans (rfl)))))))))
  have hszF : wF.heap.size = w4.heap.size := by rw [hwF]; simp [World.setCell]
  have hbF : Below w.heap.size w wF := by rw [hwF]; exact (Below.setCell (p := ⟨w.heap.size + 1, 7, none⟩) (Below.setCell (p := ⟨w.heap.size + 1, 6, none⟩) (Below.setCell (p := ⟨w.heap.size + 1, 5, none⟩) (Below.setCell (p := ⟨w.heap.size + 1, 4, none⟩) (Below.setCell (p := ⟨w.heap.size + 1, 3, none⟩) (Below.setCell (p := ⟨w.heap.size + 1, 2, none⟩) (Below.setCell (p := ⟨w.heap.size + 1, 1, none⟩) (Below.setCell (p := ⟨w.heap.size + 1, 0, none⟩) (Below.setCell (p := ⟨w.heap.size, 6, none⟩) X4 (by have := X4.size; simp <;> omega) _) (by have := X4.size; simp <;> omega) _) (by have := X4.size; simp <;> omega) _) (by have := X4.size; simp <;> omega) _) (by have := X4.size; simp <;> omega) _) (by have := X4.size; simp <;> omega) _) (by have := X4.size; simp <;> omega) _) (by have := X4.size; simp <;> omega) _) (by have := X4.size; simp <;> omega) _)
  have hgF : SliceR PtrR 5 wF B wF.heap.size A_3 n3 c_3 gone := (F_gone4.out.keep (w' := wF) (fun b b1 b2 => hfar b (by omega) (by omega)) (by omega) (fun _ _ h => h)).wide (Nat.le_refl _) (by omega) (Nat.le_refl _) (fun _ _ h => h)
  have hP : NewStC (rows, (refs, last), txg, gone, keep, dead, same) w (.returned (.agg #[.slice (some ⟨r, 0, none⟩) 64 c_1, .slice (some ⟨g, 0, none⟩) 64 c_2, .slice (some ⟨k, 0, none⟩) 64 d_2, .int .i64 txg, .slice A_3 n3 c_3, .int .i64 keep, .slice A_4 n4 c_4, .bool same])) wF :=
    ⟨B, r, g, k, c_1, c_2, d_2, A_3, n3, c_3, A_4, n4, c_4, rfl, hc64, hd64, by omega, by omega, by omega, ⟨F_rows4.out.keep (hfar r (by omega) (by omega)), F_refs4.out.keep (hfar g (by omega) (by omega)), F_last4.out.keep (hfar k (by omega) (by omega)), hgF, hBr, hBg, hBk, hgk, hrg, hrk, by omega⟩, hbF⟩
  rw [hwF] at hP
  have HP := Lib.hid hP
  clear hP hwF hfar hszF hbF hgF
  go_wp2_with fail
  exact bodyPost_ret (v := .agg #[.slice (some ⟨r, 0, none⟩) 64 c_1, .slice (some ⟨g, 0, none⟩) 64 c_2, .slice (some ⟨k, 0, none⟩) 64 d_2, .int .i64 txg, .slice A_3 n3 c_3, .int .i64 keep, .slice A_4 n4 c_4, .bool same]) (by simp [results, Try.results66, go_sem, *]) rfl HP.out
end Go.Proofs.Ytffieobjcipeoaa
