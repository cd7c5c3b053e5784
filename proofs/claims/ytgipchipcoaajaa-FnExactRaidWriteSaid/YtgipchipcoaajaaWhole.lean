/- Slices whose array lies whole in a block; marks on their cells. No condition. -/
import Derived.Test.YtgipchipcoaajaaRep
namespace Go.Proofs.Ytgipchipcoaajaa
set_option linter.unusedVariables false
set_option linter.unusedSimpArgs false
set_option linter.unnecessarySimpa false
open Go.RowKit

/-- The slice has no element, or its array lies whole in a block of its own. -/
def Whole (w : World) (t : TypeId) (sz lo hi : Nat) (A : Option Addr) (n c : Nat) : Prop :=
  (n = 0 ∧ c = 0) ∨ ∃ g cur, A = some ⟨g, 0, none⟩ ∧ lo ≤ g ∧ g < hi ∧ w.heap[g]? = some (.cells cur t (0, 0)) ∧ cur.size = c * sz ∧ n ≤ c ∧ c ≤ maxLen
theorem Whole.pos {w : World} {t : TypeId} {sz lo hi : Nat} {A : Option Addr} {n c : Nat} (h : Whole w t sz lo hi A n c) (hn : 0 < n) : 0 < c := by
  rcases h with h | ⟨_, _, _, _, _, _, _, h, _⟩ <;> omega
theorem Whole.keep {w w' : World} {t : TypeId} {sz lo hi : Nat} {A : Option Addr} {n c : Nat} (h : Whole w t sz lo hi A n c) (hs : Same lo hi w w') : Whole w' t sz lo hi A n c := by
  rcases h with h | ⟨g, cur, h1, h2, h3, h4, h5⟩
  · exact .inl h
  · exact .inr ⟨g, cur, h1, h2, h3, (hs g h2 h3).trans h4, h5⟩
theorem Whole.below {w w' : World} {t : TypeId} {sz lo hi : Nat} {A : Option Addr} {n c : Nat} (h : Whole w t sz lo hi A n c) (hb : Below w.heap.size w w') (hhi : hi ≤ w.heap.size) : Whole w' t sz lo hi A n c :=
  h.keep (Same.of_below hb hhi)
theorem Whole.wide {w : World} {t : TypeId} {sz lo hi lo' hi' : Nat} {A : Option Addr} {n c : Nat} (h : Whole w t sz lo hi A n c) (h1 : lo' ≤ lo) (h2 : hi ≤ hi') : Whole w t sz lo' hi' A n c := by
  rcases h with h | ⟨g, cur, a1, a2, a3, a4⟩
  · exact .inl h
  · exact .inr ⟨g, cur, a1, by omega, by omega, a4⟩
theorem Whole.far {w W w' : World} {B t sz : Nat} {A : Option Addr} {n c : Nat} (h : Whole w t sz B w.heap.size A n c) (hs : Step B w W) (hb : Below W.heap.size W w') : Whole w' t sz B w'.heap.size A n c := by
  have hz : w.heap.size ≤ w'.heap.size := by have := hb.size; have := hs.1; omega
  have hsame : Same B w.heap.size w w' := fun k h1 h2 => (hb.block k (by have := hs.1; omega)).trans (hs.2 k h1 h2)
  exact (h.keep hsame).wide (Nat.le_refl _) hz
/-- Block b holds the slice's cells. -/
def blkOf (A : Option Addr) (b : Nat) : Prop := ∃ off, A = some ⟨b, off, none⟩
theorem blkOf_iff {g off b : Nat} : blkOf (some ⟨g, off, none⟩) b ↔ b = g := by
  constructor
  · rintro ⟨o, h⟩; injection h with e; injection e with e1; exact e1.symm
  · rintro rfl; exact ⟨_, rfl⟩
/-- Two whole slices of unlike element types lie in unlike blocks. -/
theorem Whole.ne {w : World} {t t' : TypeId} {sz sz' lo hi lo' hi' : Nat} {A B : Option Addr} {n c m d : Nat} (h : Whole w t sz lo hi A n c) (h' : Whole w t' sz' lo' hi' B m d) (ht : t ≠ t') (hn : 0 < c) (hm : 0 < d) : ∀ b, blkOf A b → ¬ blkOf B b := by
  rcases h with h | ⟨g, cur, rfl, _, _, h4, _⟩
  · omega
  rcases h' with h | ⟨g', cur', rfl, _, _, h4', _⟩
  · omega
  intro b hb hb'
  rw [blkOf_iff] at hb hb'
  subst hb hb'
  rw [h4] at h4'
  injection h4' with e; injection e with _ e2
  exact ht e2

theorem SliceR.keepB {α : Type} {R : Reads α} {sz : Nat} {w w' : World} {lo hi : Nat} {A : Option Addr} {n c : Nat} {xs : List α} (h : SliceR R sz w lo hi A n c xs) (hz : w.heap.size ≤ w'.heap.size)
    (hk : 0 < n → ∀ b, blkOf A b → lo ≤ b → b < hi → w'.heap[b]? = w.heap[b]?) (hR : ∀ cs x, R w lo hi cs x → R w' lo hi cs x) : SliceR R sz w' lo hi A n c xs := by
  obtain ⟨h1, h2, h3, h4, h5, h6⟩ := h
  refine ⟨h1, h2, h3, by omega, h5, fun hn => ?_⟩
  obtain ⟨b, off, hA, hlo, hhi, hc⟩ := h6 hn
  refine ⟨b, off, hA, hlo, hhi, fun j x hx => ?_⟩
  obtain ⟨cs, hl, hcs, hr⟩ := hc j x hx
  exact ⟨cs, hl, fun i v hv => (World.cell?_of_block (a := ⟨b, _, none⟩) (hk hn b ⟨off, hA⟩ hlo hhi)).trans (hcs i v hv), hR cs x hr⟩
theorem Whole.keepB {w w' : World} {t : TypeId} {sz lo hi : Nat} {A : Option Addr} {n c : Nat} (h : Whole w t sz lo hi A n c) (hk : 0 < c → ∀ b, blkOf A b → lo ≤ b → b < hi → w'.heap[b]? = w.heap[b]?) : Whole w' t sz lo hi A n c := by
  rcases h with h | ⟨g, cur, rfl, h2, h3, h4, h5⟩
  · exact .inl h
  · rcases Nat.eq_zero_or_pos c with h0 | h0
    · exact .inl ⟨by have := h5.2.1; omega, h0⟩
    · exact .inr ⟨g, cur, rfl, h2, h3, (hk h0 g ⟨0, rfl⟩ h2 h3).trans h4, h5⟩
/-- The text of a mark. -/
def mdig : Nat → Nat → List UInt8 → List UInt8
  | 0, _, out => out
  | f + 1, k, out => if k = 0 then out else mdig f (k / 10) (UInt8.ofNat (48 + k % 10) :: out)
def mtext (k : Int) : ByteArray := if k ≤ 0 then ⟨#[109, 48]⟩ else ⟨(109 :: mdig k.toNat k.toNat []).toArray⟩
/-- A cell's mark. -/
def mkv (k : Int) : Value → Value
  | .int kd _ => .int kd k
  | .string _ => .string (mtext k)
  | .bool _ => .bool (k.tmod 3 == 0)
  | v => v
/-- The first m cells bear marks from k on; K: an element's kinds. -/
def HasMarks (K : List Value) (k : Int) (m : Nat) (cur : Array Value) : Prop := ∀ j, j < m → cur[j]? = some (mkv (k + j) (K.getD (j % K.length) undef))
theorem HasMarks.zero (K : List Value) (k : Int) (cur : Array Value) : HasMarks K k 0 cur := fun j hj => absurd hj (by omega)
theorem HasMarks.step {K : List Value} {k : Int} {m : Nat} {cur : Array Value} {v : Value} (h : HasMarks K k m cur) (hm : m < cur.size) (hv : v = mkv (k + m) (K.getD (m % K.length) undef)) : HasMarks K k (m + 1) (cur.setIfInBounds m v) := by
  intro j hj
  rw [Array.getElem?_setIfInBounds]
  by_cases hjm : m = j
  · subst hjm; rw [if_pos rfl, if_pos hm, hv]
  · rw [if_neg hjm]; exact h j (by omega)
theorem HasMarks.mono {K : List Value} {k : Int} {m m' : Nat} {cur : Array Value} (h : HasMarks K k m cur) (hm : m' ≤ m) : HasMarks K k m' cur := fun j hj => h j (by omega)
/-- The slice's cells bear marks. -/
def MarkedAt (w : World) (K : List Value) (k : Int) (A : Option Addr) (m : Nat) : Prop := 0 < m → ∃ b off, A = some ⟨b, off, none⟩ ∧ b < w.heap.size ∧ ∀ j, j < m → w.cell? ⟨b, off + j, none⟩ = some (mkv (k + j) (K.getD (j % K.length) undef))
theorem MarkedAt.keep {w w' : World} {K : List Value} {k : Int} {A : Option Addr} {m : Nat} (h : MarkedAt w K k A m) (hz : w.heap.size ≤ w'.heap.size) (hk : ∀ b, blkOf A b → b < w.heap.size → w'.heap[b]? = w.heap[b]?) : MarkedAt w' K k A m := by
  intro hm
  obtain ⟨b, off, hA, hb, hc⟩ := h hm
  exact ⟨b, off, hA, by omega, fun j hj => (World.cell?_of_block (hk b ⟨off, hA⟩ hb)).trans (hc j hj)⟩
theorem MarkedAt.below {w w' : World} {K : List Value} {k : Int} {A : Option Addr} {m : Nat} (h : MarkedAt w K k A m) (hb : Below w.heap.size w w') : MarkedAt w' K k A m := h.keep hb.size fun b _ hlt => hb.block b hlt
theorem HasMarks.at_ {w : World} {K : List Value} {k : Int} {m g t : Nat} {cur : Array Value} (h : HasMarks K k m cur) (hg : w.heap[g]? = some (.cells cur t (0, 0))) : MarkedAt w K k (some ⟨g, 0, none⟩) m :=
  fun _ => ⟨g, 0, rfl, (Array.getElem?_eq_some_iff.1 hg).1, fun j hj => by rw [Nat.zero_add, cell_of_row _ _ j _ _ (0, 0) hg]; exact h j hj⟩
end Go.Proofs.Ytgipchipcoaajaa
