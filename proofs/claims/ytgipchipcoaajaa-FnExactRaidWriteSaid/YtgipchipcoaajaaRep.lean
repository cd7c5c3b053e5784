/- How Go's data lie in memory: slices of anything, the blocks between two bounds. No condition. -/
import Derived.Test.YtgipchipcoaajaaLib
import Derived.Test.YtgipchipcoaajaaRg
import Derived.OpenShut
import Derived.Lib.SmallJoins
import Derived.Deep.Slices
import Derived.Laws.MakeOwn
namespace Go.Proofs.Ytgipchipcoaajaa
set_option linter.unusedVariables false
set_option linter.unusedSimpArgs false
set_option linter.unnecessarySimpa false
open Go.RowKit

/-- The blocks from lo on and below hi are as they were. -/
def Same (lo hi : Nat) (w w' : World) : Prop := ∀ k, lo ≤ k → k < hi → w'.heap[k]? = w.heap[k]?
theorem Same.refl (lo hi : Nat) (w : World) : Same lo hi w w := fun _ _ _ => rfl
theorem Same.trans {lo hi : Nat} {a b c : World} (h : Same lo hi a b) (k : Same lo hi b c) : Same lo hi a c := fun i h1 h2 => (k i h1 h2).trans (h i h1 h2)
theorem Same.of_below {lo hi B : Nat} {w w' : World} (h : Below B w w') (hB : hi ≤ B) : Same lo hi w w' := fun k _ h2 => h.block k (by omega)
theorem Same.alloc {lo hi : Nat} {w w' : World} (h : Same lo hi w w') (o : Obj) (hs : hi ≤ w'.heap.size) : Same lo hi w (w'.alloc o) :=
  h.trans fun k _ h2 => Below.heap_alloc w' o k (by omega)
theorem Same.setCell {lo hi : Nat} {w w' : World} (h : Same lo hi w w') {p : Addr} (hp : p.block < lo ∨ hi ≤ p.block) (v : Value) : Same lo hi w (w'.setCell p v) :=
  h.trans fun k h1 h2 => Below.heap_setCell w' p v k (by omega)
theorem Same.cell {lo hi : Nat} {w w' : World} (h : Same lo hi w w') {p : Addr} (h1 : lo ≤ p.block) (h2 : p.block < hi) : w'.cell? p = w.cell? p :=
  World.cell?_of_block (h _ h1 h2)
theorem Same.mono {lo hi lo' hi' : Nat} {w w' : World} (h : Same lo hi w w') (h1 : lo ≤ lo') (h2 : hi' ≤ hi) : Same lo' hi' w w' := fun k a b => h k (by omega) (by omega)

/-- What cells read as: a relation between a world, bounds of blocks, cells and a datum. -/
abbrev Reads (α : Type) := World → Nat → Nat → List Value → α → Prop

/-- The slice value reads as the list xs: each element takes sz cells. -/
def SliceR {α : Type} (R : Reads α) (sz : Nat) (w : World) (lo hi : Nat) (A : Option Addr) (n c : Nat) (xs : List α) : Prop :=
  xs.length = n ∧ n ≤ c ∧ n ≤ maxLen ∧ hi ≤ w.heap.size ∧ (A = none → c = 0) ∧
  (0 < n → ∃ b off, A = some ⟨b, off, none⟩ ∧ lo ≤ b ∧ b < hi ∧
    ∀ j x, xs[j]? = some x → ∃ cs, cs.length = sz ∧ (∀ i v, cs[i]? = some v → w.cell? ⟨b, off + j * sz + i, none⟩ = some v) ∧ R w lo hi cs x)

theorem SliceR.keep {α : Type} {R : Reads α} {sz : Nat} {w w' : World} {lo hi : Nat} {A : Option Addr} {n c : Nat} {xs : List α}
    (h : SliceR R sz w lo hi A n c xs) (hs : Same lo hi w w') (hz : w.heap.size ≤ w'.heap.size) (hR : ∀ cs x, R w lo hi cs x → R w' lo hi cs x) : SliceR R sz w' lo hi A n c xs := by
  obtain ⟨h1, h2, h3, h4, h5, h6⟩ := h
  refine ⟨h1, h2, h3, by omega, h5, fun hn => ?_⟩
  obtain ⟨b, off, hA, hlo, hhi, hc⟩ := h6 hn
  refine ⟨b, off, hA, hlo, hhi, fun j x hx => ?_⟩
  obtain ⟨cs, hl, hcs, hr⟩ := hc j x hx
  exact ⟨cs, hl, fun i v hv => (hs.cell (p := ⟨b, _, none⟩) hlo hhi).trans (hcs i v hv), hR cs x hr⟩

theorem SliceR.len {α : Type} {R : Reads α} {sz : Nat} {w : World} {lo hi : Nat} {A : Option Addr} {n c : Nat} {xs : List α} (h : SliceR R sz w lo hi A n c xs) : xs.length = n := h.1
theorem SliceR.max {α : Type} {R : Reads α} {sz : Nat} {w : World} {lo hi : Nat} {A : Option Addr} {n c : Nat} {xs : List α} (h : SliceR R sz w lo hi A n c xs) : n ≤ 9223372036854775807 := by
  have := h.2.2.1; unfold maxLen at this; omega
theorem SliceR.lo_le {α : Type} {R : Reads α} {sz : Nat} {w : World} {lo hi : Nat} {A : Option Addr} {n c : Nat} {xs : List α} (h : SliceR R sz w lo hi A n c xs) : hi ≤ w.heap.size := h.2.2.2.1
theorem SliceR.at_ {α : Type} {R : Reads α} {sz : Nat} {w : World} {lo hi : Nat} {A : Option Addr} {n c : Nat} {xs : List α} (h : SliceR R sz w lo hi A n c xs) (hn : 0 < n) :
    ∃ b off, A = some ⟨b, off, none⟩ ∧ lo ≤ b ∧ b < hi ∧ b < w.heap.size ∧
      ∀ j x, xs[j]? = some x → ∃ cs, cs.length = sz ∧ (∀ i v, cs[i]? = some v → w.cell? ⟨b, off + j * sz + i, none⟩ = some v) ∧ R w lo hi cs x := by
  obtain ⟨b, off, h1, h2, h3, h4⟩ := h.2.2.2.2.2 hn
  exact ⟨b, off, h1, h2, h3, by have := h.2.2.2.1; omega, h4⟩

theorem SliceR.below {α : Type} {R : Reads α} {sz : Nat} {w w' : World} {lo hi : Nat} {A : Option Addr} {n c : Nat} {xs : List α}
    (h : SliceR R sz w lo hi A n c xs) (hb : Below w.heap.size w w') (hR : ∀ cs x, R w lo hi cs x → R w' lo hi cs x) : SliceR R sz w' lo hi A n c xs :=
  h.keep (Same.of_below hb h.lo_le) hb.size hR

/-- The scalars. -/
def IntR : Reads Int := fun _ _ _ cs x => cs = [.int .i64 x]
def StrR : Reads ByteArray := fun _ _ _ cs s => cs = [.string s] ∧ s.size ≤ maxLen

theorem SliceR.wide {α : Type} {R : Reads α} {sz : Nat} {w : World} {lo hi lo' hi' : Nat} {A : Option Addr} {n c : Nat} {xs : List α}
    (h : SliceR R sz w lo hi A n c xs) (h1 : lo' ≤ lo) (h2 : hi ≤ hi') (h3 : hi' ≤ w.heap.size) (hR : ∀ cs x, R w lo hi cs x → R w lo' hi' cs x) : SliceR R sz w lo' hi' A n c xs := by
  obtain ⟨a1, a2, a3, a4, a5, a6⟩ := h
  refine ⟨a1, a2, a3, h3, a5, fun hn => ?_⟩
  obtain ⟨b, off, hA, hlo, hhi, hc⟩ := a6 hn
  refine ⟨b, off, hA, by omega, by omega, fun j x hx => ?_⟩
  obtain ⟨cs, hl, hcs, hr⟩ := hc j x hx
  exact ⟨cs, hl, hcs, hR cs x hr⟩

/-- Stores into blocks below B alone. -/
def Step (B : Nat) (w W : World) : Prop := W.heap.size = w.heap.size ∧ ∀ k, B ≤ k → k < w.heap.size → W.heap[k]? = w.heap[k]?
theorem Step.refl (B : Nat) (w : World) : Step B w w := ⟨rfl, fun _ _ _ => rfl⟩
theorem Step.setCell {B : Nat} {w W : World} (h : Step B w W) {p : Addr} (hp : p.block < B) (v : Value) : Step B w (W.setCell p v) :=
  ⟨by rw [← h.1]; simp [World.setCell], fun k h1 h2 => (Below.heap_setCell W p v k (by omega)).trans (h.2 k h1 h2)⟩
theorem SliceR.far {α : Type} {R : Reads α} {sz : Nat} {w W w' : World} {B : Nat} {A : Option Addr} {n c : Nat} {xs : List α}
    (h : SliceR R sz w B w.heap.size A n c xs) (hs : Step B w W) (hb : Below W.heap.size W w')
    (hK : Same B w.heap.size w w' → w.heap.size ≤ w'.heap.size → ∀ cs x, R w B w.heap.size cs x → R w' B w.heap.size cs x)
    (hW : B ≤ B → w.heap.size ≤ w'.heap.size → w'.heap.size ≤ w'.heap.size → ∀ cs x, R w' B w.heap.size cs x → R w' B w'.heap.size cs x) : SliceR R sz w' B w'.heap.size A n c xs := by
  have hz : w.heap.size ≤ w'.heap.size := by have := hb.size; have := hs.1; omega
  have hsame : Same B w.heap.size w w' := fun k h1 h2 => (hb.block k (by have := hs.1; omega)).trans (hs.2 k h1 h2)
  exact (h.keep hsame hz (hK hsame hz)).wide (Nat.le_refl _) hz (Nat.le_refl _) (hW (Nat.le_refl _) hz (Nat.le_refl _))
theorem heap_far {w : World} {p : Addr} {v : Value} {k : Nat} (h : k ≠ p.block) : (w.setCell p v).heap[k]? = w.heap[k]? := Below.heap_setCell w p v k h

/-- The first k elements lie in the cells cur. -/
def RowR {α : Type} (R : Reads α) (sz : Nat) (w : World) (lo hi : Nat) (cur : Array Value) (k : Nat) (xs : List α) : Prop :=
  ∀ j x, j < k → xs[j]? = some x → ∃ cs, cs.length = sz ∧ (∀ i v, cs[i]? = some v → cur[j * sz + i]? = some v) ∧ R w lo hi cs x
/-- The values vs laid from place o on. -/
def putAt (cur : Array Value) (o : Nat) : List Value → Array Value
  | [] => cur
  | v :: vs => putAt (cur.setIfInBounds o v) (o + 1) vs
theorem putAt_size (vs : List Value) : ∀ (cur : Array Value) (o : Nat), (putAt cur o vs).size = cur.size := by
  induction vs with
  | nil => intro _ _; rfl
  | cons v vs ih => intro cur o; simp [putAt, ih]
theorem putAt_out (vs : List Value) : ∀ (cur : Array Value) (o i : Nat), (i < o ∨ o + vs.length ≤ i) → (putAt cur o vs)[i]? = cur[i]? := by
  induction vs with
  | nil => intro _ _ _ _; rfl
  | cons v vs ih =>
    intro cur o i h
    simp only [List.length_cons] at h
    rw [putAt, ih _ _ _ (by omega), Array.getElem?_setIfInBounds, if_neg (by omega)]
theorem putAt_in (vs : List Value) : ∀ (cur : Array Value) (o i : Nat) (v : Value), o + vs.length ≤ cur.size → vs[i]? = some v → (putAt cur o vs)[o + i]? = some v := by
  induction vs with
  | nil => intro _ _ _ _ _ h; simp at h
  | cons u vs ih =>
    intro cur o i v hs h
    simp only [List.length_cons] at hs
    cases i with
    | zero =>
      simp at h; subst h
      rw [putAt, putAt_out _ _ _ _ (by omega), Nat.add_zero, Array.getElem?_setIfInBounds, if_pos rfl, if_pos (by omega)]
    | succ i =>
      rw [putAt, show o + (i + 1) = o + 1 + i by omega]
      exact ih _ _ _ _ (by simp; omega) (by simpa using h)
theorem RowR.step {α : Type} {R : Reads α} {sz : Nat} {w w' : World} {lo hi hi' : Nat} {cur : Array Value} {k n : Nat} {xs : List α} {x : α} {vs : List Value}
    (h : RowR R sz w lo hi cur k xs) (hx : xs[k]? = some x) (hl : vs.length = sz) (hsz : cur.size = n * sz) (hk : k < n) (hR : R w' lo hi' vs x) (hkeep : ∀ cs x, R w lo hi cs x → R w' lo hi' cs x) :
    RowR R sz w' lo hi' (putAt cur (k * sz) vs) (k + 1) xs := by
  have hks : k * sz + sz ≤ n * sz := by rw [← Nat.succ_mul]; exact Nat.mul_le_mul_right _ hk
  intro j y hj hy
  by_cases hjk : j = k
  · subst hjk
    rw [hx] at hy; obtain rfl := Option.some.inj hy
    exact ⟨vs, hl, fun i v hv => putAt_in _ _ _ _ _ (by omega) hv, hR⟩
  · have hjk : j < k := by omega
    obtain ⟨cs, hcl, hcc, hr⟩ := h j y hjk hy
    refine ⟨cs, hcl, fun i v hv => ?_, hkeep _ _ hr⟩
    have hi : i < sz := by rw [← hcl]; exact (List.getElem?_eq_some_iff.1 hv).1
    have : j * sz + sz ≤ k * sz := by rw [← Nat.succ_mul]; exact Nat.mul_le_mul_right _ hjk
    rw [putAt_out _ _ _ _ (.inl (by omega))]
    exact hcc i v hv
theorem RowR.slice {α : Type} {R : Reads α} {sz : Nat} {w : World} {lo hi g : Nat} {cur : Array Value} {n c t : Nat} {xs : List α} (h : RowR R sz w lo hi cur n xs) (hn : xs.length = n) (hm : n ≤ maxLen) (hc : n ≤ c)
    (hg : w.heap[g]? = some (.cells cur t (0, 0))) (h1 : lo ≤ g) (h2 : g < hi) (h3 : hi ≤ w.heap.size) : SliceR R sz w lo hi (some ⟨g, 0, none⟩) n c xs := by
  refine ⟨hn, hc, hm, h3, (fun e => by cases e), fun _ => ⟨g, 0, rfl, h1, h2, fun j x hx => ?_⟩⟩
  obtain ⟨cs, hcl, hcc, hr⟩ := h j x (by rw [← hn]; exact (List.getElem?_eq_some_iff.1 hx).1) hx
  refine ⟨cs, hcl, fun i v hv => ?_, hr⟩
  rw [Nat.zero_add]
  exact (cell_of_row w g _ cur _ (0, 0) hg).trans (hcc i v hv)
theorem block_set {w : World} {g o t : Nat} {cur : Array Value} {v : Value} (h : w.heap[g]? = some (.cells cur t (0, 0))) : (w.setCell ⟨g, o, none⟩ v).heap[g]? = some (.cells (cur.setIfInBounds o v) t (0, 0)) := by
  simp [World.setCell, Array.getElem?_modify, h]
theorem block_cell {w : World} {g o t : Nat} {cur : Array Value} (h : w.heap[g]? = some (.cells cur t (0, 0))) (ho : o < cur.size) : w.cell? ⟨g, o, none⟩ = some (cur[o]'ho) :=
  (cell_of_row w g o cur _ (0, 0) h).trans (Array.getElem?_eq_getElem ho)
theorem block_free {w : World} {g t : Nat} {cur : Array Value} (h : w.heap[g]? = some (.cells cur t (0, 0))) (o : Nat) : w.frozen? ⟨g, o, none⟩ = false := by
  simp [World.frozen?, h]
theorem sum_le {α : Type} (f : α → Nat) : ∀ {xs : List α} {k : Nat} {x : α}, xs[k]? = some x → f x ≤ (xs.map f).sum
  | [], k, x, h => by simp at h
  | y :: ys, 0, x, h => by simp at h; subst h; simp
  | y :: ys, k + 1, x, h => by have := sum_le f (xs := ys) (k := k) (x := x) (by simpa using h); simp; omega
theorem sum_take {α : Type} (f : α → Nat) {xs : List α} {k : Nat} {x : α} (h : xs[k]? = some x) : ((xs.take (k + 1)).map f).sum = ((xs.take k).map f).sum + f x := by
  obtain ⟨hk, rfl⟩ := List.getElem?_eq_some_iff.1 h
  rw [List.take_succ_eq_append_getElem hk, List.map_append, List.sum_append]
  simp
/-- What is left of a bound, or -1. -/
def SzPost (s : Nat) (left : Int) (w : World) (e : Ending) (w' : World) : Prop :=
  ∃ r : Int, e = .returned (.int .i64 r) ∧ -1 ≤ r ∧ r ≤ left ∧ (0 ≤ r → (s : Int) ≤ left - r) ∧ Below w.heap.size w w'
/-- What a call that makes a struct returns: new memory. -/
def NewR {α : Type} (R : Reads α) (w : World) (x : α) (e : Ending) (w' : World) : Prop :=
  ∃ cs, e = .returned (.agg cs.toArray) ∧ R w' w.heap.size w'.heap.size cs x ∧ Below w.heap.size w w'
/-- What a call that makes a slice returns: new memory. -/
def NewSl {α : Type} (R : Reads α) (sz : Nat) (w : World) (n : Nat) (xs : List α) (e : Ending) (w' : World) : Prop :=
  ∃ A c, e = .returned (.slice A n c) ∧ SliceR R sz w' w.heap.size w'.heap.size A n c xs ∧ Below w.heap.size w w'

theorem IntR.wide {w : World} {lo hi lo' hi' : Nat} (_ : lo' ≤ lo) (_ : hi ≤ hi') (_ : hi' ≤ w.heap.size) (cs : List Value) (x : Int) (h : IntR w lo hi cs x) : IntR w lo' hi' cs x := h
theorem StrR.wide {w : World} {lo hi lo' hi' : Nat} (_ : lo' ≤ lo) (_ : hi ≤ hi') (_ : hi' ≤ w.heap.size) (cs : List Value) (x : ByteArray) (h : StrR w lo hi cs x) : StrR w lo' hi' cs x := h
theorem IntR.keep {w w' : World} {lo hi : Nat} (_ : Same lo hi w w') (_ : w.heap.size ≤ w'.heap.size) (cs : List Value) (x : Int) (h : IntR w lo hi cs x) : IntR w' lo hi cs x := h
theorem StrR.keep {w w' : World} {lo hi : Nat} (_ : Same lo hi w w') (_ : w.heap.size ≤ w'.heap.size) (cs : List Value) (x : ByteArray) (h : StrR w lo hi cs x) : StrR w' lo hi cs x := h
theorem IntR.below {w w' : World} {lo hi : Nat} (_ : Below w.heap.size w w') (_ : hi ≤ w.heap.size) (cs : List Value) (x : Int) (h : IntR w lo hi cs x) : IntR w' lo hi cs x := h
theorem StrR.below {w w' : World} {lo hi : Nat} (_ : Below w.heap.size w w') (_ : hi ≤ w.heap.size) (cs : List Value) (x : ByteArray) (h : StrR w lo hi cs x) : StrR w' lo hi cs x := h
theorem bel1 {w : World} {o : Obj} : Below w.heap.size w (w.alloc o) := (Below.refl _ _).alloc (Nat.le_refl _) _
theorem bel2 {w : World} {o o' : Obj} : Below w.heap.size w ((w.alloc o).alloc o') := bel1.alloc (by simp) _
theorem bel3 {w : World} {o o' o'' : Obj} : Below w.heap.size w (((w.alloc o).alloc o').alloc o'') := bel2.alloc (by simp <;> omega) _

theorem al3_2 {w : World} {a b c : Obj} : (((w.alloc a).alloc b).alloc c).heap[w.heap.size + 1 + 1]? = some c := by
  have := heap_alloc_new ((w.alloc a).alloc b) c
  simpa using this
theorem al3_1 {w : World} {a b c : Obj} : (((w.alloc a).alloc b).alloc c).heap[w.heap.size + 1]? = some b := by
  have := heap_alloc_new (w.alloc a) b
  exact (Below.heap_alloc _ c _ (by simp)).trans (by simpa using this)
theorem al3_0 {w : World} {a b c : Obj} : (((w.alloc a).alloc b).alloc c).heap[w.heap.size]? = some a :=
  (Below.heap_alloc _ c _ (by simp <;> omega)).trans ((Below.heap_alloc _ b _ (by simp)).trans (heap_alloc_new w a))

section open_
variable {H : Type} {enc : TypeId × Value → H} {P : Program} {w : World} {base : Nat} {spare : Nat → Bool} {held : Bool}

theorem choose_list {α : Type} {Q : Nat → α → Prop} : ∀ (n : Nat), (∀ i, i < n → ∃ x, Q i x) → ∃ xs : List α, xs.length = n ∧ ∀ i x, xs[i]? = some x → Q i x
  | 0, _ => ⟨[], rfl, fun i x h => by simp at h⟩
  | n + 1, h => by
    obtain ⟨xs, hl, hx⟩ := choose_list n fun i hi => h i (by omega)
    obtain ⟨x, hq⟩ := h n (by omega)
    refine ⟨xs ++ [x], by simp [hl], fun i y hy => ?_⟩
    rcases Nat.lt_trichotomy i n with hi | rfl | hi
    · rw [List.getElem?_append_left (by omega)] at hy; exact hx i y hy
    · rw [List.getElem?_append_right (by omega)] at hy
      simp [hl] at hy; subst hy; exact hq
    · rw [List.getElem?_append_right (by omega), List.getElem?_eq_none (by simp; omega)] at hy; simp at hy

theorem addr_add (b o n : Nat) : (⟨b, o, none⟩ : Addr).add n = ⟨b, o + n, none⟩ := by
  unfold Addr.add
  split
  · rename_i h; subst h; rfl
  · rfl

/-- A slice that came in, element by element. -/
theorem open_sliceR {α : Type} {R : Reads α} {sz : Nat} {t e : TypeId} {fuel : Nat} {cs : List Value} {x : DataW H × List MemPlace} (ht : P.underlying t = some (.slice e)) (hC : P.cellsOf e = sz) (hpos : 0 < sz)
    (hR : ∀ n cs y, DataW.trod enc P w base spare held n e cs = some y → ∃ d, R w 0 w.heap.size cs d ∧ cs.length = sz)
    (h : DataW.trod enc P w base spare held fuel t cs = some x) : ∃ A n c xs, cs = [.slice A n c] ∧ SliceR R sz w 0 w.heap.size A n c xs := by
  rcases Go.Deep.open_slice ht h with ⟨rfl, _⟩ | ⟨a, len, cap, m, n, D, Pl, rfl, hb, hl, hm, hmm, _, hi⟩
  · exact ⟨none, 0, 0, [], rfl, rfl, Nat.le_refl _, by unfold maxLen; omega, Nat.le_refl _, fun _ => rfl, fun h => absurd h (by omega)⟩
  · have hlm : len ≤ m := by rw [hmm]; split <;> omega
    obtain ⟨xs, hxl, hxs⟩ := choose_list (Q := fun i x => ∃ cs', w.cells? base (a.add (i * sz)) sz = some cs' ∧ R w 0 w.heap.size cs' x ∧ cs'.length = sz) len fun i hil => by
      obtain ⟨cs', hc, htr⟩ := hi i (by omega)
      rw [hC] at hc
      obtain ⟨d, hd, hdl⟩ := hR _ _ _ htr
      exact ⟨d, cs', hc, hd, hdl⟩
    refine ⟨some a, len, cap, xs, rfl, hxl, hl, Nat.le_trans hl hm, Nat.le_refl _, (fun h => by cases h), fun hn => ?_⟩
    have hcell : ∀ j x, xs[j]? = some x → ∃ cs', cs'.length = sz ∧ (∀ i v, cs'[i]? = some v → w.cell? ((a.add (j * sz)).add i) = some v) ∧ R w 0 w.heap.size cs' x := by
      intro j x hj
      obtain ⟨cs', hc, hd, hdl⟩ := hxs j x hj
      obtain ⟨_, hcl, hat⟩ := World.cells?_some hc
      exact ⟨cs', hdl, fun i v hv => by
        have hlt : i < sz := by rw [← hdl]; exact (List.getElem?_eq_some_iff.1 hv).1
        rw [hat i hlt]; exact hv, hd⟩
    obtain ⟨ab, ao, as⟩ := a
    have hs : as = none := by
      obtain ⟨x, hx⟩ : ∃ x, xs[0]? = some x := ⟨xs[0], by rw [List.getElem?_eq_getElem]⟩
      obtain ⟨cs', hcl, hcc, _⟩ := hcell 0 x hx
      have := hcc 0 _ (List.getElem?_eq_getElem (by omega))
      cases as with
      | none => rfl
      | some s => simp [World.cell?, Addr.add] at this; split at this <;> simp at this
    subst hs
    simp only [addr_add] at hcell
    have hlt : ab < w.heap.size := by
      obtain ⟨x, hx⟩ : ∃ x, xs[0]? = some x := ⟨xs[0], by rw [List.getElem?_eq_getElem]⟩
      obtain ⟨cs', hcl, hcc, _⟩ := hcell 0 x hx
      exact World.block_lt_of_cell? w _ (hcc 0 _ (List.getElem?_eq_getElem (by omega)))
    refine ⟨ab, ao, rfl, Nat.zero_le _, hlt, fun j x hj => ?_⟩
    obtain ⟨cs', hcl, hcc, hr⟩ := hcell j x hj
    exact ⟨cs', hcl, fun i v hv => hcc i v hv, hr⟩

theorem open_intR {fuel : Nat} {t : TypeId} {cs : List Value} {x : DataW H × List MemPlace} (ht : P.underlying t = some (.int .i64)) (h : DataW.trod enc P w base spare held fuel t cs = some x) : ∃ d, IntR w 0 w.heap.size cs d ∧ cs.length = 1 := by
  obtain ⟨n, rfl, _⟩ := DataW.trod_int ht h
  exact ⟨n, rfl, rfl⟩
theorem open_strR {fuel : Nat} {t : TypeId} {cs : List Value} {x : DataW H × List MemPlace} (ht : P.underlying t = some .string) (h : DataW.trod enc P w base spare held fuel t cs = some x) : ∃ d, StrR w 0 w.heap.size cs d ∧ cs.length = 1 := by
  obtain ⟨s, rfl, _, hs⟩ := DataW.trod_string ht h
  exact ⟨s, ⟨rfl, hs⟩, rfl⟩
end open_
end Go.Proofs.Ytgipchipcoaajaa
