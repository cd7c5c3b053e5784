/- How Go's data lie in memory: slices of anything, the blocks between two bounds. No condition. -/
import Derived.Test.YtodibogijnjlaaaLib
import Derived.Test.YtodibogijnjlaaaRg
import Derived.OpenShut
import Derived.Lib.SmallJoins
import Derived.Deep.Slices
namespace Go.Proofs.Ytodibogijnjlaaa
set_option linter.unusedVariables false
set_option linter.unusedSimpArgs false
set_option linter.unnecessarySimpa false
open Go.RowKit

/-- The blocks from lo on and below hi are as they were. -/
def Same (lo hi : Nat) (w w' : World) : Prop := ∀ k, lo ≤ k → k < hi → w'.heap[k]? = w.heap[k]?
theorem Same.refl (lo hi : Nat) (w : World) : Same lo hi w w := fun _ _ _ => rfl
theorem Same.trans {lo hi : Nat} {a b c : World} (h : Same lo hi a b) (k : Same lo hi b c) : Same lo hi a c := fun i h1 h2 => (k i h1 h2).trans (h i h1 h2)
theorem Same.of_below {lo hi B : Nat} {w w' : World} (h : Below B w w') (hB : hi ≤ B) : Same lo hi w w' := fun k _ h2 => h.block k (by omega)
theorem Same.alloc {lo hi : Nat} {w w' : World} (h : Same lo hi w w') (o : Obj) (hs : hi ≤ w'.heap.size) : Same lo hi w (w'.alloc o) :=
  h.trans fun k _ h2 => Below.heap_alloc w' o k (by omega)
theorem Same.setCell {lo hi : Nat} {w w' : World} (h : Same lo hi w w') {p : Addr} (hp : p.block < lo ∨ hi ≤ p.block) (v : Value) : Same lo hi w (w'.setCell p v) :=
  h.trans fun k h1 h2 => Below.heap_setCell w' p v k (by omega)
theorem Same.cell {lo hi : Nat} {w w' : World} (h : Same lo hi w w') {p : Addr} (h1 : lo ≤ p.block) (h2 : p.block < hi) : w'.cell? p = w.cell? p :=
  World.cell?_of_block (h _ h1 h2)
theorem Same.mono {lo hi lo' hi' : Nat} {w w' : World} (h : Same lo hi w w') (h1 : lo ≤ lo') (h2 : hi' ≤ hi) : Same lo' hi' w w' := fun k a b => h k (by omega) (by omega)

/-- What cells read as: a relation between a world, bounds of blocks, cells and a datum. -/
abbrev Reads (α : Type) := World → Nat → Nat → List Value → α → Prop

/-- The slice value reads as the list xs: each element takes sz cells. -/
def SliceR {α : Type} (R : Reads α) (sz : Nat) (w : World) (lo hi : Nat) (A : Option Addr) (n c : Nat) (xs : List α) : Prop :=
  xs.length = n ∧ n ≤ c ∧ c ≤ maxLen ∧ hi ≤ w.heap.size ∧ (A = none → c = 0) ∧
  (0 < n → ∃ b off, A = some ⟨b, off, none⟩ ∧ lo ≤ b ∧ b < hi ∧
    ∀ j x, xs[j]? = some x → ∃ cs, cs.length = sz ∧ (∀ i v, cs[i]? = some v → w.cell? ⟨b, off + j * sz + i, none⟩ = some v) ∧ R w lo hi cs x)

theorem SliceR.keep {α : Type} {R : Reads α} {sz : Nat} {w w' : World} {lo hi : Nat} {A : Option Addr} {n c : Nat} {xs : List α}
    (h : SliceR R sz w lo hi A n c xs) (hs : Same lo hi w w') (hz : w.heap.size ≤ w'.heap.size) (hR : ∀ cs x, R w lo hi cs x → R w' lo hi cs x) : SliceR R sz w' lo hi A n c xs := by
  obtain ⟨h1, h2, h3, h4, h5, h6⟩ := h
  refine ⟨h1, h2, h3, by omega, h5, fun hn => ?_⟩
  obtain ⟨b, off, hA, hlo, hhi, hc⟩ := h6 hn
  refine ⟨b, off, hA, hlo, hhi, fun j x hx => ?_⟩
  obtain ⟨cs, hl, hcs, hr⟩ := hc j x hx
  exact ⟨cs, hl, fun i v hv => (hs.cell (p := ⟨b, _, none⟩) hlo hhi).trans (hcs i v hv), hR cs x hr⟩

theorem SliceR.len {α : Type} {R : Reads α} {sz : Nat} {w : World} {lo hi : Nat} {A : Option Addr} {n c : Nat} {xs : List α} (h : SliceR R sz w lo hi A n c xs) : xs.length = n := h.1
theorem SliceR.max {α : Type} {R : Reads α} {sz : Nat} {w : World} {lo hi : Nat} {A : Option Addr} {n c : Nat} {xs : List α} (h : SliceR R sz w lo hi A n c xs) : n ≤ 9223372036854775807 := by
  have := h.2.1; have := h.2.2.1; unfold maxLen at this; omega
theorem SliceR.lo_le {α : Type} {R : Reads α} {sz : Nat} {w : World} {lo hi : Nat} {A : Option Addr} {n c : Nat} {xs : List α} (h : SliceR R sz w lo hi A n c xs) : hi ≤ w.heap.size := h.2.2.2.1
theorem SliceR.at_ {α : Type} {R : Reads α} {sz : Nat} {w : World} {lo hi : Nat} {A : Option Addr} {n c : Nat} {xs : List α} (h : SliceR R sz w lo hi A n c xs) (hn : 0 < n) :
    ∃ b off, A = some ⟨b, off, none⟩ ∧ lo ≤ b ∧ b < hi ∧ b < w.heap.size ∧
      ∀ j x, xs[j]? = some x → ∃ cs, cs.length = sz ∧ (∀ i v, cs[i]? = some v → w.cell? ⟨b, off + j * sz + i, none⟩ = some v) ∧ R w lo hi cs x := by
  obtain ⟨b, off, h1, h2, h3, h4⟩ := h.2.2.2.2.2 hn
  exact ⟨b, off, h1, h2, h3, by have := h.2.2.2.1; omega, h4⟩

/-- The scalars. -/
def IntR : Reads Int := fun _ _ _ cs x => cs = [.int .i64 x]
def StrR : Reads ByteArray := fun _ _ _ cs s => cs = [.string s] ∧ s.size ≤ maxLen

section open_
variable {H : Type} {enc : TypeId × Value → H} {P : Program} {w : World} {base : Nat} {spare : Nat → Bool} {held : Bool}

theorem choose_list {α : Type} {Q : Nat → α → Prop} : ∀ (n : Nat), (∀ i, i < n → ∃ x, Q i x) → ∃ xs : List α, xs.length = n ∧ ∀ i x, xs[i]? = some x → Q i x
  | 0, _ => ⟨[], rfl, fun i x h => by simp at h⟩
  | n + 1, h => by
    obtain ⟨xs, hl, hx⟩ := choose_list n fun i hi => h i (by omega)
    obtain ⟨x, hq⟩ := h n (by omega)
    refine ⟨xs ++ [x], by simp [hl], fun i y hy => ?_⟩
    rcases Nat.lt_trichotomy i n with hi | rfl | hi
    · rw [List.getElem?_append_left (by omega)] at hy; exact hx i y hy
    · rw [List.getElem?_append_right (by omega)] at hy
      simp [hl] at hy; subst hy; exact hq
    · rw [List.getElem?_append_right (by omega), List.getElem?_eq_none (by simp; omega)] at hy; simp at hy

theorem addr_add (b o n : Nat) : (⟨b, o, none⟩ : Addr).add n = ⟨b, o + n, none⟩ := by
  unfold Addr.add
  split
  · rename_i h; subst h; rfl
  · rfl

/-- A slice that came in, element by element. -/
theorem open_sliceR {α : Type} {R : Reads α} {sz : Nat} {t e : TypeId} {fuel : Nat} {cs : List Value} {x : DataW H × List MemPlace} (ht : P.underlying t = some (.slice e)) (hC : P.cellsOf e = sz) (hpos : 0 < sz)
    (hR : ∀ n cs y, DataW.trod enc P w base spare held n e cs = some y → ∃ d, R w 0 w.heap.size cs d ∧ cs.length = sz)
    (h : DataW.trod enc P w base spare held fuel t cs = some x) : ∃ A n c xs, cs = [.slice A n c] ∧ SliceR R sz w 0 w.heap.size A n c xs := by
  rcases Go.Deep.open_slice ht h with ⟨rfl, _⟩ | ⟨a, len, cap, m, n, D, Pl, rfl, hb, hl, hm, hmm, _, hi⟩
  · exact ⟨none, 0, 0, [], rfl, rfl, Nat.le_refl _, by unfold maxLen; omega, Nat.le_refl _, fun _ => rfl, fun h => absurd h (by omega)⟩
  · have hlm : len ≤ m := by rw [hmm]; split <;> omega
    obtain ⟨xs, hxl, hxs⟩ := choose_list (Q := fun i x => ∃ cs', w.cells? base (a.add (i * sz)) sz = some cs' ∧ R w 0 w.heap.size cs' x ∧ cs'.length = sz) len fun i hil => by
      obtain ⟨cs', hc, htr⟩ := hi i (by omega)
      rw [hC] at hc
      obtain ⟨d, hd, hdl⟩ := hR _ _ _ htr
      exact ⟨d, cs', hc, hd, hdl⟩
    refine ⟨some a, len, cap, xs, rfl, hxl, hl, hm, Nat.le_refl _, (fun h => by cases h), fun hn => ?_⟩
    have hcell : ∀ j x, xs[j]? = some x → ∃ cs', cs'.length = sz ∧ (∀ i v, cs'[i]? = some v → w.cell? ((a.add (j * sz)).add i) = some v) ∧ R w 0 w.heap.size cs' x := by
      intro j x hj
      obtain ⟨cs', hc, hd, hdl⟩ := hxs j x hj
      obtain ⟨_, hcl, hat⟩ := World.cells?_some hc
      exact ⟨cs', hdl, fun i v hv => by
        have hlt : i < sz := by rw [← hdl]; exact (List.getElem?_eq_some_iff.1 hv).1
        rw [hat i hlt]; exact hv, hd⟩
    obtain ⟨ab, ao, as⟩ := a
    have hs : as = none := by
      obtain ⟨x, hx⟩ : ∃ x, xs[0]? = some x := ⟨xs[0], by rw [List.getElem?_eq_getElem]⟩
      obtain ⟨cs', hcl, hcc, _⟩ := hcell 0 x hx
      have := hcc 0 _ (List.getElem?_eq_getElem (by omega))
      cases as with
      | none => rfl
      | some s => simp [World.cell?, Addr.add] at this; split at this <;> simp at this
    subst hs
    simp only [addr_add] at hcell
    have hlt : ab < w.heap.size := by
      obtain ⟨x, hx⟩ : ∃ x, xs[0]? = some x := ⟨xs[0], by rw [List.getElem?_eq_getElem]⟩
      obtain ⟨cs', hcl, hcc, _⟩ := hcell 0 x hx
      exact World.block_lt_of_cell? w _ (hcc 0 _ (List.getElem?_eq_getElem (by omega)))
    refine ⟨ab, ao, rfl, Nat.zero_le _, hlt, fun j x hj => ?_⟩
    obtain ⟨cs', hcl, hcc, hr⟩ := hcell j x hj
    exact ⟨cs', hcl, fun i v hv => hcc i v hv, hr⟩

theorem open_intR {fuel : Nat} {t : TypeId} {cs : List Value} {x : DataW H × List MemPlace} (ht : P.underlying t = some (.int .i64)) (h : DataW.trod enc P w base spare held fuel t cs = some x) : ∃ d, IntR w 0 w.heap.size cs d ∧ cs.length = 1 := by
  obtain ⟨n, rfl, _⟩ := DataW.trod_int ht h
  exact ⟨n, rfl, rfl⟩
theorem open_strR {fuel : Nat} {t : TypeId} {cs : List Value} {x : DataW H × List MemPlace} (ht : P.underlying t = some .string) (h : DataW.trod enc P w base spare held fuel t cs = some x) : ∃ d, StrR w 0 w.heap.size cs d ∧ cs.length = 1 := by
  obtain ⟨s, rfl, _, hs⟩ := DataW.trod_string ht h
  exact ⟨s, ⟨rfl, hs⟩, rfl⟩
end open_
end Go.Proofs.Ytodibogijnjlaaa
