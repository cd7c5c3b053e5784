/- Copies of slices in new memory: how they read. No condition. -/
import Derived.Test.YtjnhiiaejeaikaaGreatDoorRLib
import Derived.OpenShut
import Derived.Lib.SmallJoins
import Derived.Deep.Slices
import Derived.Laws.MakeOwn
import Derived.Test.YtjnhiiaejeaikaaGreatDoorChecked
set_option linter.unnecessarySimpa false
set_option linter.unusedSimpArgs false
set_option linter.unusedVariables false
namespace Go.Proofs.YtjnhiiaejeaikaaGreatDoor
section
open Go.RowKit
def Same (lo hi : Nat) (w w' : World) : Prop := ∀ k, lo ≤ k → k < hi → w'.heap[k]? = w.heap[k]?
theorem Same.of_below {lo hi B : Nat} {w w' : World} (h : Below B w w') (hB : hi ≤ B) : Same lo hi w w' := fun k _ h2 => h.block k (by omega)
theorem Same.cell {lo hi : Nat} {w w' : World} (h : Same lo hi w w') {p : Addr} (h1 : lo ≤ p.block) (h2 : p.block < hi) : w'.cell? p = w.cell? p :=
 World.cell?_of_block (h _ h1 h2)
abbrev Reads (α : Type) := World → Nat → Nat → List Value → α → Prop
def SliceR {α : Type} (R : Reads α) (sz : Nat) (w : World) (lo hi : Nat) (A : Option Addr) (n c : Nat) (xs : List α) : Prop :=
 xs.length = n ∧ n ≤ c ∧ n ≤ maxLen ∧ hi ≤ w.heap.size ∧ (A = none → c = 0) ∧
 (0 < n → ∃ b off, A = some ⟨b, off, none⟩ ∧ lo ≤ b ∧ b < hi ∧
   ∀ j x, xs[j]? = some x → ∃ cs, cs.length = sz ∧ (∀ i v, cs[i]? = some v → w.cell? ⟨b, off + j * sz + i, none⟩ = some v) ∧ R w lo hi cs x)
theorem SliceR.keep {α : Type} {R : Reads α} {sz : Nat} {w w' : World} {lo hi : Nat} {A : Option Addr} {n c : Nat} {xs : List α}
 (h : SliceR R sz w lo hi A n c xs) (hs : Same lo hi w w') (hz : w.heap.size ≤ w'.heap.size) (hR : ∀ cs x, R w lo hi cs x → R w' lo hi cs x) : SliceR R sz w' lo hi A n c xs := by
 obtain ⟨h1, h2, h3, h4, h5, h6⟩ := h
 refine ⟨h1, h2, h3, by omega, h5, fun hn => ?_⟩
 obtain ⟨b, off, hA, hlo, hhi, hc⟩ := h6 hn
 refine ⟨b, off, hA, hlo, hhi, fun j x hx => ?_⟩
 obtain ⟨cs, hl, hcs, hr⟩ := hc j x hx
 exact ⟨cs, hl, fun i v hv => (hs.cell (p := ⟨b, _, none⟩) hlo hhi).trans (hcs i v hv), hR cs x hr⟩
theorem SliceR.len {α : Type} {R : Reads α} {sz : Nat} {w : World} {lo hi : Nat} {A : Option Addr} {n c : Nat} {xs : List α} (h : SliceR R sz w lo hi A n c xs) : xs.length = n := h.1
theorem SliceR.max {α : Type} {R : Reads α} {sz : Nat} {w : World} {lo hi : Nat} {A : Option Addr} {n c : Nat} {xs : List α} (h : SliceR R sz w lo hi A n c xs) : n ≤ 9223372036854775807 := by
 have := h.2.2.1; unfold maxLen at this; omega
theorem SliceR.lo_le {α : Type} {R : Reads α} {sz : Nat} {w : World} {lo hi : Nat} {A : Option Addr} {n c : Nat} {xs : List α} (h : SliceR R sz w lo hi A n c xs) : hi ≤ w.heap.size := h.2.2.2.1
theorem SliceR.at_ {α : Type} {R : Reads α} {sz : Nat} {w : World} {lo hi : Nat} {A : Option Addr} {n c : Nat} {xs : List α} (h : SliceR R sz w lo hi A n c xs) (hn : 0 < n) :
 ∃ b off, A = some ⟨b, off, none⟩ ∧ lo ≤ b ∧ b < hi ∧ b < w.heap.size ∧
  ∀ j x, xs[j]? = some x → ∃ cs, cs.length = sz ∧ (∀ i v, cs[i]? = some v → w.cell? ⟨b, off + j * sz + i, none⟩ = some v) ∧ R w lo hi cs x := by
 obtain ⟨b, off, h1, h2, h3, h4⟩ := h.2.2.2.2.2 hn
 exact ⟨b, off, h1, h2, h3, by have := h.2.2.2.1; omega, h4⟩
theorem SliceR.below {α : Type} {R : Reads α} {sz : Nat} {w w' : World} {lo hi : Nat} {A : Option Addr} {n c : Nat} {xs : List α}
 (h : SliceR R sz w lo hi A n c xs) (hb : Below w.heap.size w w') (hR : ∀ cs x, R w lo hi cs x → R w' lo hi cs x) : SliceR R sz w' lo hi A n c xs :=
 h.keep (Same.of_below hb h.lo_le) hb.size hR
def IntR : Reads Int := fun _ _ _ cs x => cs = [.int .i64 x]
def StrR : Reads ByteArray := fun _ _ _ cs s => cs = [.string s] ∧ s.size ≤ maxLen
theorem SliceR.wide {α : Type} {R : Reads α} {sz : Nat} {w : World} {lo hi lo' hi' : Nat} {A : Option Addr} {n c : Nat} {xs : List α}
 (h : SliceR R sz w lo hi A n c xs) (h1 : lo' ≤ lo) (h2 : hi ≤ hi') (h3 : hi' ≤ w.heap.size) (hR : ∀ cs x, R w lo hi cs x → R w lo' hi' cs x) : SliceR R sz w lo' hi' A n c xs := by
 obtain ⟨a1, a2, a3, a4, a5, a6⟩ := h
 refine ⟨a1, a2, a3, h3, a5, fun hn => ?_⟩
 obtain ⟨b, off, hA, hlo, hhi, hc⟩ := a6 hn
 refine ⟨b, off, hA, by omega, by omega, fun j x hx => ?_⟩
 obtain ⟨cs, hl, hcs, hr⟩ := hc j x hx
 exact ⟨cs, hl, hcs, hR cs x hr⟩
def Step (B : Nat) (w W : World) : Prop := W.heap.size = w.heap.size ∧ ∀ k, B ≤ k → k < w.heap.size → W.heap[k]? = w.heap[k]?
theorem Step.refl (B : Nat) (w : World) : Step B w w := ⟨rfl, fun _ _ _ => rfl⟩
theorem Step.setCell {B : Nat} {w W : World} (h : Step B w W) {p : Addr} (hp : p.block < B) (v : Value) : Step B w (W.setCell p v) :=
 ⟨by rw [← h.1]; simp [World.setCell], fun k h1 h2 => (Below.heap_setCell W p v k (by omega)).trans (h.2 k h1 h2)⟩
theorem SliceR.far {α : Type} {R : Reads α} {sz : Nat} {w W w' : World} {B : Nat} {A : Option Addr} {n c : Nat} {xs : List α}
 (h : SliceR R sz w B w.heap.size A n c xs) (hs : Step B w W) (hb : Below W.heap.size W w')
 (hK : Same B w.heap.size w w' → w.heap.size ≤ w'.heap.size → ∀ cs x, R w B w.heap.size cs x → R w' B w.heap.size cs x)
 (hW : B ≤ B → w.heap.size ≤ w'.heap.size → w'.heap.size ≤ w'.heap.size → ∀ cs x, R w' B w.heap.size cs x → R w' B w'.heap.size cs x) : SliceR R sz w' B w'.heap.size A n c xs := by
 have hz : w.heap.size ≤ w'.heap.size := by have := hb.size; have := hs.1; omega
 have hsame : Same B w.heap.size w w' := fun k h1 h2 => (hb.block k (by have := hs.1; omega)).trans (hs.2 k h1 h2)
 exact (h.keep hsame hz (hK hsame hz)).wide (Nat.le_refl _) hz (Nat.le_refl _) (hW (Nat.le_refl _) hz (Nat.le_refl _))
theorem heap_far {w : World} {p : Addr} {v : Value} {k : Nat} (h : k ≠ p.block) : (w.setCell p v).heap[k]? = w.heap[k]? := Below.heap_setCell w p v k h
def RowR {α : Type} (R : Reads α) (sz : Nat) (w : World) (lo hi : Nat) (cur : Array Value) (k : Nat) (xs : List α) : Prop :=
 ∀ j x, j < k → xs[j]? = some x → ∃ cs, cs.length = sz ∧ (∀ i v, cs[i]? = some v → cur[j * sz + i]? = some v) ∧ R w lo hi cs x
def putAt (cur : Array Value) (o : Nat) : List Value → Array Value
 | [] => cur
 | v :: vs => putAt (cur.setIfInBounds o v) (o + 1) vs
theorem putAt_size (vs : List Value) : ∀ (cur : Array Value) (o : Nat), (putAt cur o vs).size = cur.size := by
 induction vs with
 | nil => intro _ _; rfl
 | cons v vs ih => intro cur o; simp [putAt, ih]
theorem putAt_out (vs : List Value) : ∀ (cur : Array Value) (o i : Nat), (i < o ∨ o + vs.length ≤ i) → (putAt cur o vs)[i]? = cur[i]? := by
 induction vs with
 | nil => intro _ _ _ _; rfl
 | cons v vs ih =>
   intro cur o i h
   simp only [List.length_cons] at h
   rw [putAt, ih _ _ _ (by omega), Array.getElem?_setIfInBounds, if_neg (by omega)]
theorem putAt_in (vs : List Value) : ∀ (cur : Array Value) (o i : Nat) (v : Value), o + vs.length ≤ cur.size → vs[i]? = some v → (putAt cur o vs)[o + i]? = some v := by
 induction vs with
 | nil => intro _ _ _ _ _ h; simp at h
 | cons u vs ih =>
   intro cur o i v hs h
   simp only [List.length_cons] at hs
   cases i with
   | zero =>
     simp at h; subst h
     rw [putAt, putAt_out _ _ _ _ (by omega), Nat.add_zero, Array.getElem?_setIfInBounds, if_pos rfl, if_pos (by omega)]
   | succ i =>
     rw [putAt, show o + (i + 1) = o + 1 + i by omega]
     exact ih _ _ _ _ (by simp; omega) (by simpa using h)
theorem RowR.step {α : Type} {R : Reads α} {sz : Nat} {w w' : World} {lo hi hi' : Nat} {cur : Array Value} {k n : Nat} {xs : List α} {x : α} {vs : List Value}
 (h : RowR R sz w lo hi cur k xs) (hx : xs[k]? = some x) (hl : vs.length = sz) (hsz : cur.size = n * sz) (hk : k < n) (hR : R w' lo hi' vs x) (hkeep : ∀ cs x, R w lo hi cs x → R w' lo hi' cs x) :
 RowR R sz w' lo hi' (putAt cur (k * sz) vs) (k + 1) xs := by
 have hks : k * sz + sz ≤ n * sz := by rw [← Nat.succ_mul]; exact Nat.mul_le_mul_right _ hk
 intro j y hj hy
 by_cases hjk : j = k
 · subst hjk
   rw [hx] at hy; obtain rfl := Option.some.inj hy
   exact ⟨vs, hl, fun i v hv => putAt_in _ _ _ _ _ (by omega) hv, hR⟩
 have hjk : j < k := by omega
 obtain ⟨cs, hcl, hcc, hr⟩ := h j y hjk hy
 refine ⟨cs, hcl, fun i v hv => ?_, hkeep _ _ hr⟩
 have hi : i < sz := by rw [← hcl]; exact (List.getElem?_eq_some_iff.1 hv).1
 have : j * sz + sz ≤ k * sz := by rw [← Nat.succ_mul]; exact Nat.mul_le_mul_right _ hjk
 rw [putAt_out _ _ _ _ (.inl (by omega))]
 exact hcc i v hv
theorem RowR.slice {α : Type} {R : Reads α} {sz : Nat} {w : World} {lo hi g : Nat} {cur : Array Value} {n c t : Nat} {xs : List α} (h : RowR R sz w lo hi cur n xs) (hn : xs.length = n) (hm : n ≤ maxLen) (hc : n ≤ c)
 (hg : w.heap[g]? = some (.cells cur t (0, 0))) (h1 : lo ≤ g) (h2 : g < hi) (h3 : hi ≤ w.heap.size) : SliceR R sz w lo hi (some ⟨g, 0, none⟩) n c xs := by
 refine ⟨hn, hc, hm, h3, (fun e => by cases e), fun _ => ⟨g, 0, rfl, h1, h2, fun j x hx => ?_⟩⟩
 obtain ⟨cs, hcl, hcc, hr⟩ := h j x (by rw [← hn]; exact (List.getElem?_eq_some_iff.1 hx).1) hx
 refine ⟨cs, hcl, fun i v hv => ?_, hr⟩
 rw [Nat.zero_add]
 exact (cell_of_row w g _ cur _ (0, 0) hg).trans (hcc i v hv)
theorem block_set {w : World} {g o t : Nat} {cur : Array Value} {v : Value} (h : w.heap[g]? = some (.cells cur t (0, 0))) : (w.setCell ⟨g, o, none⟩ v).heap[g]? = some (.cells (cur.setIfInBounds o v) t (0, 0)) := by
 simp [World.setCell, Array.getElem?_modify, h]
theorem block_cell {w : World} {g o t : Nat} {cur : Array Value} (h : w.heap[g]? = some (.cells cur t (0, 0))) (ho : o < cur.size) : w.cell? ⟨g, o, none⟩ = some (cur[o]'ho) :=
 (cell_of_row w g o cur _ (0, 0) h).trans (Array.getElem?_eq_getElem ho)
theorem block_free {w : World} {g t : Nat} {cur : Array Value} (h : w.heap[g]? = some (.cells cur t (0, 0))) (o : Nat) : w.frozen? ⟨g, o, none⟩ = false := by
 simp [World.frozen?, h]
theorem sum_take {α : Type} (f : α → Nat) {xs : List α} {k : Nat} {x : α} (h : xs[k]? = some x) : ((xs.take (k + 1)).map f).sum = ((xs.take k).map f).sum + f x := by
 obtain ⟨hk, rfl⟩ := List.getElem?_eq_some_iff.1 h
 rw [List.take_succ_eq_append_getElem hk, List.map_append, List.sum_append]
 simp
def SzPost (s : Nat) (left : Int) (w : World) (e : Ending) (w' : World) : Prop :=
 ∃ r : Int, e = .returned (.int .i64 r) ∧ -1 ≤ r ∧ r ≤ left ∧ (0 ≤ r → (s : Int) ≤ left - r) ∧ Below w.heap.size w w'
def NewR {α : Type} (R : Reads α) (w : World) (x : α) (e : Ending) (w' : World) : Prop :=
 ∃ cs, e = .returned (.agg cs.toArray) ∧ R w' w.heap.size w'.heap.size cs x ∧ Below w.heap.size w w'
def NewSl {α : Type} (R : Reads α) (sz : Nat) (w : World) (n : Nat) (xs : List α) (e : Ending) (w' : World) : Prop :=
 ∃ A c, e = .returned (.slice A n c) ∧ SliceR R sz w' w.heap.size w'.heap.size A n c xs ∧ Below w.heap.size w w'
theorem IntR.wide {w : World} {lo hi lo' hi' : Nat} (_ : lo' ≤ lo) (_ : hi ≤ hi') (_ : hi' ≤ w.heap.size) (cs : List Value) (x : Int) (h : IntR w lo hi cs x) : IntR w lo' hi' cs x := h
theorem StrR.wide {w : World} {lo hi lo' hi' : Nat} (_ : lo' ≤ lo) (_ : hi ≤ hi') (_ : hi' ≤ w.heap.size) (cs : List Value) (x : ByteArray) (h : StrR w lo hi cs x) : StrR w lo' hi' cs x := h
theorem IntR.keep {w w' : World} {lo hi : Nat} (_ : Same lo hi w w') (_ : w.heap.size ≤ w'.heap.size) (cs : List Value) (x : Int) (h : IntR w lo hi cs x) : IntR w' lo hi cs x := h
theorem StrR.keep {w w' : World} {lo hi : Nat} (_ : Same lo hi w w') (_ : w.heap.size ≤ w'.heap.size) (cs : List Value) (x : ByteArray) (h : StrR w lo hi cs x) : StrR w' lo hi cs x := h
theorem IntR.below {w w' : World} {lo hi : Nat} (_ : Below w.heap.size w w') (_ : hi ≤ w.heap.size) (cs : List Value) (x : Int) (h : IntR w lo hi cs x) : IntR w' lo hi cs x := h
theorem StrR.below {w w' : World} {lo hi : Nat} (_ : Below w.heap.size w w') (_ : hi ≤ w.heap.size) (cs : List Value) (x : ByteArray) (h : StrR w lo hi cs x) : StrR w' lo hi cs x := h
theorem bel1 {w : World} {o : Obj} : Below w.heap.size w (w.alloc o) := (Below.refl _ _).alloc (Nat.le_refl _) _
theorem bel2 {w : World} {o o' : Obj} : Below w.heap.size w ((w.alloc o).alloc o') := bel1.alloc (by simp) _
theorem bel3 {w : World} {o o' o'' : Obj} : Below w.heap.size w (((w.alloc o).alloc o').alloc o'') := bel2.alloc (by simp <;> omega) _
theorem al3_2 {w : World} {a b c : Obj} : (((w.alloc a).alloc b).alloc c).heap[w.heap.size + 1 + 1]? = some c := by
 have := heap_alloc_new ((w.alloc a).alloc b) c
 simpa using this
theorem al3_1 {w : World} {a b c : Obj} : (((w.alloc a).alloc b).alloc c).heap[w.heap.size + 1]? = some b := by
 have := heap_alloc_new (w.alloc a) b
 exact (Below.heap_alloc _ c _ (by simp)).trans (by simpa using this)
theorem al3_0 {w : World} {a b c : Obj} : (((w.alloc a).alloc b).alloc c).heap[w.heap.size]? = some a :=
 (Below.heap_alloc _ c _ (by simp <;> omega)).trans ((Below.heap_alloc _ b _ (by simp)).trans (heap_alloc_new w a))
section open_
variable {H : Type} {enc : TypeId × Value → H} {P : Program} {w : World} {base : Nat} {spare : Nat → Bool} {held : Bool}
theorem choose_list {α : Type} {Q : Nat → α → Prop} : ∀ (n : Nat), (∀ i, i < n → ∃ x, Q i x) → ∃ xs : List α, xs.length = n ∧ ∀ i x, xs[i]? = some x → Q i x
 | 0, _ => ⟨[], rfl, fun i x h => by simp at h⟩
 | n + 1, h => by
   obtain ⟨xs, hl, hx⟩ := choose_list n fun i hi => h i (by omega)
   obtain ⟨x, hq⟩ := h n (by omega)
   refine ⟨xs ++ [x], by simp [hl], fun i y hy => ?_⟩
   rcases Nat.lt_trichotomy i n with hi | rfl | hi
   · rw [List.getElem?_append_left (by omega)] at hy; exact hx i y hy
   · rw [List.getElem?_append_right (by omega)] at hy
     simp [hl] at hy; subst hy; exact hq
   rw [List.getElem?_append_right (by omega), List.getElem?_eq_none (by simp; omega)] at hy; simp at hy
theorem addr_add (b o n : Nat) : (⟨b, o, none⟩ : Addr).add n = ⟨b, o + n, none⟩ := by
 unfold Addr.add
 split
 · rename_i h; subst h; rfl
 rfl
theorem open_sliceR {α : Type} {R : Reads α} {sz : Nat} {t e : TypeId} {fuel : Nat} {cs : List Value} {x : DataW H × List MemPlace} (ht : P.underlying t = some (.slice e)) (hC : P.cellsOf e = sz) (hpos : 0 < sz)
 (hR : ∀ n cs y, DataW.trod enc P w base spare held n e cs = some y → ∃ d, R w 0 w.heap.size cs d ∧ cs.length = sz)
 (h : DataW.trod enc P w base spare held fuel t cs = some x) : ∃ A n c xs, cs = [.slice A n c] ∧ SliceR R sz w 0 w.heap.size A n c xs := by
 rcases Go.Deep.open_slice ht h with ⟨rfl, _⟩ | ⟨a, len, cap, m, n, D, Pl, rfl, hb, hl, hm, hmm, _, hi⟩
 · exact ⟨none, 0, 0, [], rfl, rfl, Nat.le_refl _, by unfold maxLen; omega, Nat.le_refl _, fun _ => rfl, fun h => absurd h (by omega)⟩
 have hlm : len ≤ m := by rw [hmm]; split <;> omega
 obtain ⟨xs, hxl, hxs⟩ := choose_list (Q := fun i x => ∃ cs', w.cells? base (a.add (i * sz)) sz = some cs' ∧ R w 0 w.heap.size cs' x ∧ cs'.length = sz) len fun i hil => by
  obtain ⟨cs', hc, htr⟩ := hi i (by omega)
  rw [hC] at hc
  obtain ⟨d, hd, hdl⟩ := hR _ _ _ htr
  exact ⟨d, cs', hc, hd, hdl⟩
 refine ⟨some a, len, cap, xs, rfl, hxl, hl, Nat.le_trans hl hm, Nat.le_refl _, (fun h => by cases h), fun hn => ?_⟩
 have hcell : ∀ j x, xs[j]? = some x → ∃ cs', cs'.length = sz ∧ (∀ i v, cs'[i]? = some v → w.cell? ((a.add (j * sz)).add i) = some v) ∧ R w 0 w.heap.size cs' x := by
  intro j x hj
  obtain ⟨cs', hc, hd, hdl⟩ := hxs j x hj
  obtain ⟨_, hcl, hat⟩ := World.cells?_some hc
  exact ⟨cs', hdl, fun i v hv => by
   have hlt : i < sz := by rw [← hdl]; exact (List.getElem?_eq_some_iff.1 hv).1
   rw [hat i hlt]; exact hv, hd⟩
 obtain ⟨ab, ao, as_⟩ := a
 have hs : as_ = none := by
  obtain ⟨x, hx⟩ : ∃ x, xs[0]? = some x := ⟨xs[0], by rw [List.getElem?_eq_getElem]⟩
  obtain ⟨cs', hcl, hcc, _⟩ := hcell 0 x hx
  have := hcc 0 _ (List.getElem?_eq_getElem (by omega))
  cases as_ with
  | none => rfl
  | some s => simp [World.cell?, Addr.add] at this; split at this <;> simp at this
 subst hs
 simp only [addr_add] at hcell
 have hlt : ab < w.heap.size := by
  obtain ⟨x, hx⟩ : ∃ x, xs[0]? = some x := ⟨xs[0], by rw [List.getElem?_eq_getElem]⟩
  obtain ⟨cs', hcl, hcc, _⟩ := hcell 0 x hx
  exact World.block_lt_of_cell? w _ (hcc 0 _ (List.getElem?_eq_getElem (by omega)))
 refine ⟨ab, ao, rfl, Nat.zero_le _, hlt, fun j x hj => ?_⟩
 obtain ⟨cs', hcl, hcc, hr⟩ := hcell j x hj
 exact ⟨cs', hcl, fun i v hv => hcc i v hv, hr⟩
theorem open_intR {fuel : Nat} {t : TypeId} {cs : List Value} {x : DataW H × List MemPlace} (ht : P.underlying t = some (.int .i64)) (h : DataW.trod enc P w base spare held fuel t cs = some x) : ∃ d, IntR w 0 w.heap.size cs d ∧ cs.length = 1 := by
 obtain ⟨n, rfl, _⟩ := DataW.trod_int ht h
 exact ⟨n, rfl, rfl⟩
theorem open_strR {fuel : Nat} {t : TypeId} {cs : List Value} {x : DataW H × List MemPlace} (ht : P.underlying t = some .string) (h : DataW.trod enc P w base spare held fuel t cs = some x) : ∃ d, StrR w 0 w.heap.size cs d ∧ cs.length = 1 := by
 obtain ⟨s, rfl, _, hs⟩ := DataW.trod_string ht h
 exact ⟨s, ⟨rfl, hs⟩, rfl⟩
end open_
end
section
open Go.RowKit
theorem list2 {α : Type} {l : List α} (h : l.length = 2) : ∃ a0 a1, l = [a0, a1] := by
 match l, h with
 | [a0, a1], _ => exact ⟨a0, a1, rfl⟩
theorem list5 {α : Type} {l : List α} (h : l.length = 5) : ∃ a0 a1 a2 a3 a4, l = [a0, a1, a2, a3, a4] := by
 match l, h with
 | [a0, a1, a2, a3, a4], _ => exact ⟨a0, a1, a2, a3, a4, rfl⟩
theorem list7 {α : Type} {l : List α} (h : l.length = 7) : ∃ a0 a1 a2 a3 a4 a5 a6, l = [a0, a1, a2, a3, a4, a5, a6] := by
 match l, h with
 | [a0, a1, a2, a3, a4, a5, a6], _ => exact ⟨a0, a1, a2, a3, a4, a5, a6, rfl⟩
theorem list8 {α : Type} {l : List α} (h : l.length = 8) : ∃ a0 a1 a2 a3 a4 a5 a6 a7, l = [a0, a1, a2, a3, a4, a5, a6, a7] := by
 match l, h with
 | [a0, a1, a2, a3, a4, a5, a6, a7], _ => exact ⟨a0, a1, a2, a3, a4, a5, a6, a7, rfl⟩
abbrev PtrD := Int × Int × Int × Int × Int
def PtrR : Reads PtrD := fun w lo hi cs x => cs = [.int .i64 x.1, .int .i64 x.2.1, .int .i64 x.2.2.1, .int .i64 x.2.2.2.1, .int .i64 x.2.2.2.2]
theorem PtrR.keep {w w' : World} {lo hi : Nat} (hs : Same lo hi w w') (hz : w.heap.size ≤ w'.heap.size) (cs : List Value) (x : PtrD) (h : PtrR w lo hi cs x) : PtrR w' lo hi cs x := by
 exact h
theorem PtrR.wide {w : World} {lo hi lo' hi' : Nat} (b1 : lo' ≤ lo) (b2 : hi ≤ hi') (b3 : hi' ≤ w.heap.size) (cs : List Value) (x : PtrD) (h : PtrR w lo hi cs x) : PtrR w lo' hi' cs x := by
 exact h
theorem PtrR.below {w w' : World} {lo hi : Nat} (hb : Below w.heap.size w w') (hhi : hi ≤ w.heap.size) (cs : List Value) (x : PtrD) (h : PtrR w lo hi cs x) : PtrR w' lo hi cs x := PtrR.keep (Same.of_below hb hhi) hb.size cs x h
abbrev TreeD := PtrD × Int × Int
def TreeR : Reads TreeD := fun w lo hi cs x => cs = [.int .i64 x.1.1, .int .i64 x.1.2.1, .int .i64 x.1.2.2.1, .int .i64 x.1.2.2.2.1, .int .i64 x.1.2.2.2.2, .int .i64 x.2.1, .int .i64 x.2.2]
abbrev SpaceD := (List Int) × (List Int)
def SpaceR : Reads SpaceD := fun w lo hi cs x => ∃ (A0 : Option Addr) (n0 c0 : Nat) (A1 : Option Addr) (n1 c1 : Nat), cs = [.slice A0 n0 c0, .slice A1 n1 c1] ∧ SliceR IntR 1 w lo hi A0 n0 c0 x.1 ∧ SliceR IntR 1 w lo hi A1 n1 c1 x.2
abbrev StoreD := (List ByteArray) × SpaceD × Int × (List PtrD) × Int × (List PtrD) × Bool
def StoreR : Reads StoreD := fun w lo hi cs x => ∃ (A0 : Option Addr) (n0 c0 : Nat) (A1 : Option Addr) (n1 c1 : Nat) (A2 : Option Addr) (n2 c2 : Nat) (A3 : Option Addr) (n3 c3 : Nat) (A4 : Option Addr) (n4 c4 : Nat), cs = [.slice A0 n0 c0, .slice A1 n1 c1, .slice A2 n2 c2, .int .i64 x.2.2.1, .slice A3 n3 c3, .int .i64 x.2.2.2.2.1, .slice A4 n4 c4, .bool x.2.2.2.2.2.2] ∧ SliceR StrR 1 w lo hi A0 n0 c0 x.1 ∧ SliceR IntR 1 w lo hi A1 n1 c1 x.2.1.1 ∧ SliceR IntR 1 w lo hi A2 n2 c2 x.2.1.2 ∧ SliceR PtrR 5 w lo hi A3 n3 c3 x.2.2.2.1 ∧ SliceR PtrR 5 w lo hi A4 n4 c4 x.2.2.2.2.2.1
theorem StoreR.keep {w w' : World} {lo hi : Nat} (hs : Same lo hi w w') (hz : w.heap.size ≤ w'.heap.size) (cs : List Value) (x : StoreD) (h : StoreR w lo hi cs x) : StoreR w' lo hi cs x := by
 obtain ⟨A0, n0, c0, A1, n1, c1, A2, n2, c2, A3, n3, c3, A4, n4, c4, rfl, h0, h1, h2, h3, h4⟩ := h
 exact ⟨A0, n0, c0, A1, n1, c1, A2, n2, c2, A3, n3, c3, A4, n4, c4, rfl, h0.keep hs hz (StrR.keep hs hz), h1.keep hs hz (IntR.keep hs hz), h2.keep hs hz (IntR.keep hs hz), h3.keep hs hz (PtrR.keep hs hz), h4.keep hs hz (PtrR.keep hs hz)⟩
theorem StoreR.below {w w' : World} {lo hi : Nat} (hb : Below w.heap.size w w') (hhi : hi ≤ w.heap.size) (cs : List Value) (x : StoreD) (h : StoreR w lo hi cs x) : StoreR w' lo hi cs x := StoreR.keep (Same.of_below hb hhi) hb.size cs x h
end
section
open Go.RowKit
theorem eqInts_of_getD {n : Nat} {xs ys : List Int} (hx : xs.length = n) (hy : ys.length = n) (h : ∀ j, j < n → xs.getD j 0 = ys.getD j 0) : eqInts xs ys = true := by
 rw [eqInts_iff]
 apply List.ext_getElem (by omega)
 intro j h1 h2
 have := h j (by omega)
 simpa [List.getD, h1, h2] using this
theorem eqInts_ne {k : Nat} {xs ys : List Int} (h : xs.getD k 0 ≠ ys.getD k 0) : eqInts xs ys = false := by
 cases he : eqInts xs ys with
 | false => rfl
 | true => rw [eqInts_iff] at he; subst he; exact absurd rfl h
theorem eqInts_len {xs ys : List Int} (h : xs.length ≠ ys.length) : eqInts xs ys = false := by
 cases he : eqInts xs ys with
 | false => rfl
 | true => rw [eqInts_iff] at he; subst he; exact absurd rfl h
end
section
open Go.RowKit
set_option maxHeartbeats 400000 in
theorem eqIntS_any (A B : Option Addr) (n c m d : Nat) (xs ys : List Int) (w : World) (hA : IntsAt w A n xs) (hB : IntsAt w B m ys) :
 Calls Tryz.prog 12 #[.slice A n c, .slice B m d] w fun e w' => e = .returned (.bool (eqInts xs ys)) ∧ Quiet w w' := by
 have hn := hA.max
 have hm := hB.max
 by_cases hnm : n = m
 · subst hnm
   go_enter Tryz.func12, Tryz.ntmps12
   go_wp2
   go_loopw [5] (fun i wr => ∃ k : Nat, k ≤ n ∧ i = .int .i64 k ∧ Hid (∀ j, j < k → xs.getD j 0 = ys.getD j 0) ∧ Quiet w wr) (fun i _ => n - (intOf i).toNat)
   case atStart => exact ⟨0, Nat.zero_le _, rfl, fun j hj => absurd hj (by omega), Quiet.refl _⟩
   obtain ⟨k, hk, rfl, HP, q, rfl⟩ := hrel
   by_cases hlt : k < n
   · obtain ⟨b, off, rfl, _, hc⟩ := hA.at_ hlt
     obtain ⟨b', off', rfl, _, hc'⟩ := hB.at_ hlt
     have h1 := hc k hlt
     have h2 := hc' k hlt
     clear hc hc'
     go_wp2
     go_quiet (fail)
     by_cases he : xs.getD k 0 = ys.getD k 0
     · have he' : (xs[k]?.getD 0 != ys[k]?.getD 0) = false := by simpa [List.getD] using he
       have HE := Lib.hid he
       clear he
       go_wp2
       go_roundw
       case rel => exact ⟨k + 1, by omega, by go_num, fun j hj => by
        rcases Nat.lt_or_ge j k with h | h
        · exact HP.out j h
        · obtain rfl : j = k := by omega
          exact HE.out, ⟨_, rfl⟩⟩
       simp [intOf]; omega
     have he' : (xs[k]?.getD 0 != ys[k]?.getD 0) = true := by simpa [List.getD] using he
     have hf := Lib.hid (eqInts_ne he)
     clear he
     go_wp2
     go_ret
     exact ⟨ret_bool hf.out.symm, ((Quiet.refl _).drewN _).drewN _⟩
   have hf := Lib.hid (eqInts_of_getD hA.len hB.len fun j hj => HP.out j (by omega))
   go_wp2
   go_ret
   exact ⟨ret_bool hf.out.symm, (Quiet.refl _).drewN _⟩
 have hf := Lib.hid (eqInts_len (xs := xs) (ys := ys) (by rw [hA.len, hB.len]; exact hnm))
 have hne : ((n : Int) != (m : Int)) = true := by simp; omega
 go_enter Tryz.func12, Tryz.ntmps12
 go_wp2
 go_ret
 exact ⟨ret_bool hf.out.symm, Quiet.refl _⟩
theorem info_int : (Tryz.prog.info? 3).map (fun i => (i.zero, i.size, i.bytes)) = some (some (.int .i64 0), 1, 8) := by kernel_rfl
theorem make_ints (n : Nat) (hn : n ≤ 17592186044416) (w : World) :
 (Instr.makeSlice 23 (.int .i64 (n : Int)) (.int .i64 (n : Int))).run Tryz.prog w = .ok (.slice (some ⟨w.heap.size, 0, none⟩) n n) (w.alloc (.cells (madeCells #[.int .i64 0] n) 3)) := by
 obtain ⟨i, hi, hz, hs, hb⟩ := info_parts info_int
 have hr := run_make (P := Tryz.prog) w 23 3 i (.int .i64 0) Tryz.underlying23 hi hz .i64 .i64 n n (by omega) (by omega) (by rw [hb]; omega) (by omega)
 simp only [Int.toNat_natCast, hs, Nat.mul_one] at hr
 exact hr
def copyTo (xs : List Int) (n k : Nat) : List Int := xs.take k ++ List.replicate (n - k) 0
theorem copyTo_zero (xs : List Int) (n : Nat) : copyTo xs n 0 = List.replicate n 0 := by simp [copyTo]
theorem copyTo_all {xs : List Int} {n : Nat} (h : xs.length = n) : copyTo xs n n = xs := by simp [copyTo, ← h]
theorem copyTo_succ {xs : List Int} {n k : Nat} (h : xs.length = n) (hk : k < n) : (copyTo xs n k).set k (xs.getD k 0) = copyTo xs n (k + 1) := by
 apply List.ext_getElem?
 intro i
 unfold copyTo
 simp only [List.getElem?_set, List.getElem?_append, List.length_append, List.length_take, List.length_replicate, List.getElem?_take, List.getElem?_replicate, List.getD]
 rw [show min k xs.length = k by omega, show min (k + 1) xs.length = k + 1 by omega]
 by_cases h1 : k = i
 · subst h1
   rw [if_pos rfl, if_pos (by omega), if_pos (by omega), if_pos (by omega), List.getElem?_eq_getElem (by omega)]
   rfl
 rw [if_neg h1]
 by_cases h2 : i < k
 · rw [if_pos h2, if_pos h2, if_pos (show i < k + 1 by omega), if_pos (show i < k + 1 by omega)]
 rw [if_neg h2, if_neg (show ¬ i < k + 1 by omega)]
 by_cases h3 : i < n
 · rw [if_pos (show i - k < n - k by omega), if_pos (show i - (k + 1) < n - (k + 1) by omega)]
 rw [if_neg (show ¬ i - k < n - k by omega), if_neg (show ¬ i - (k + 1) < n - (k + 1) by omega)]
def NewInts (w : World) (n : Nat) (xs : List Int) (e : Ending) (w' : World) : Prop :=
 ∃ A c S, e = .returned (.slice A n c) ∧ OwnS w' S A n c xs ∧ (∀ k ∈ S, w.heap.size ≤ k) ∧ Below w.heap.size w w'
set_option maxHeartbeats 1000000 in
theorem toIntS_any (A : Option Addr) (n c : Nat) (xs : List Int) (w : World) (hA : IntsAt w A n xs) (hn : n ≤ 17592186044416) :
 Calls Tryz.prog 49 #[.slice A n c] w (NewInts w n xs) := by
 have hmk := make_ints n hn
 have hlen := Lib.hid hA.len
 have hnew : OwnI (w.alloc (.cells (madeCells #[.int .i64 0] n) 3)) w.heap.size n n (copyTo xs n 0) :=
  OwnI.new (by rw [copyTo_zero, toList_madeCells_one]; simp) (by rw [size_madeCells]; omega) rfl (size_madeCells _ _).symm
 go_enter Tryz.func49, Tryz.ntmps49
 go_wp2_with fail
 generalize hW : w.alloc (.cells (madeCells #[.int .i64 0] n) 3) = w1 at *
 have hb1 : Below w.heap.size w w1 := by rw [← hW]; exact (Below.refl _ _).alloc (Nat.le_refl _) _
 clear hW hmk
 go_loopw [4] (fun i wr => ∃ k : Nat, k ≤ n ∧ i = .int .i64 k ∧ OwnI wr w.heap.size n n (copyTo xs n k) ∧ Below w.heap.size w wr) (fun i _ => n - (intOf i).toNat)
 case atStart => exact ⟨0, Nat.zero_le _, rfl, hnew, hb1⟩
 clear hnew hb1
 obtain ⟨k, hk, rfl, ho, hb⟩ := hrel
 by_cases hlt : k < n
 · obtain ⟨b, off, rfl, hblk, hc⟩ := hA.at_ hlt
   have h1 : wr.cell? ⟨b, off + k, none⟩ = some (.int .i64 (xs.getD k 0)) := (hb.cell hblk).trans (hc k hlt)
   have h2 := ho.cell hlt
   have h3 := ho.frozen k
   have hs := Lib.hid (ho.set_ hlt (xs.getD k 0))
   rw [copyTo_succ hlen.out hlt] at hs
   have hbs := Lib.hid (hb.setCell (p := ⟨w.heap.size, k, none⟩) (Nat.le_refl _) (.int .i64 (xs.getD k 0)))
   obtain ⟨r, hr⟩ : ∃ r, r = xs.getD k 0 := ⟨_, rfl⟩
   rw [← hr] at h1 hs hbs
   obtain ⟨r', hr'⟩ : ∃ r', r' = (copyTo xs n k).getD k 0 := ⟨_, rfl⟩
   rw [← hr'] at h2
   clear hc hr hr' ho hb
   go_wp2_with fail
   go_roundw
   case rel => exact ⟨k + 1, by omega, by go_num, hs.out, hbs.out⟩
   simp [intOf]; omega
 obtain rfl : k = n := by omega
 rw [copyTo_all hlen.out] at ho
 go_wp2_with fail
 go_ret
 exact ⟨_, _, [w.heap.size], rfl, .inr ⟨_, rfl, rfl, ho⟩, by simp, hb⟩
end
section
open Go.RowKit
theorem SliceR.ints {w : World} {lo hi : Nat} {A : Option Addr} {n c : Nat} {xs : List Int} (h : SliceR IntR 1 w lo hi A n c xs) : IntsAt w A n xs := by
 refine ⟨h.1, h.2.2.1, fun hn => ?_⟩
 obtain ⟨b, off, hA, _, _, _, hc⟩ := h.at_ hn
 refine ⟨b, off, hA, fun j hj => ?_⟩
 have hl := h.1
 obtain ⟨cs, _, hcc, rfl⟩ := hc j (xs[j]'(by omega)) (List.getElem?_eq_getElem _)
 have := hcc 0 _ rfl
 rw [Nat.mul_one, Nat.add_zero] at this
 rw [this]
 simp [List.getD, List.getElem?_eq_getElem (show j < xs.length by omega)]
theorem OwnS.sliceR {w : World} {S : List Nat} {lo hi : Nat} {A : Option Addr} {n c : Nat} {xs : List Int} (h : OwnS w S A n c xs) (hS : ∀ k ∈ S, lo ≤ k ∧ k < hi) (hhi : hi ≤ w.heap.size) : SliceR IntR 1 w lo hi A n c xs := by
 rcases h with ⟨rfl, rfl, rfl, hc⟩ | ⟨g, rfl, rfl, h⟩
 · exact ⟨rfl, Nat.zero_le _, Nat.zero_le _, hhi, hc, fun h => absurd h (by omega)⟩
 have hb := hS g (by simp)
 refine ⟨h.1, h.2.1, Nat.le_trans h.2.1 h.2.2.1.1, hhi, (fun e => by cases e), fun hn => ⟨g, 0, rfl, hb.1, hb.2, fun j x hx => ⟨[.int .i64 x], rfl, fun i v hv => ?_, rfl⟩⟩⟩
 have hj : j < n := by have := (List.getElem?_eq_some_iff.1 hx).1; have := h.1; omega
 match i, hv with
 | 0, hv =>
   simp at hv; subst hv
   have := h.cell hj
   rw [Nat.zero_add, Nat.mul_one, Nat.add_zero, this]
   simp [List.getD, hx]
 | i + 1, hv => simp at hv
theorem eqIntS_yes (A B : Option Addr) (n c m d : Nat) (xs : List Int) (w : World) (lo hi lo' hi' : Nat) (h : SliceR IntR 1 w lo hi A n c xs) (h' : SliceR IntR 1 w lo' hi' B m d xs) :
 Calls Tryz.prog 12 #[.slice A n c, .slice B m d] w fun e w' => e = .returned (.bool true) ∧ Below w.heap.size w w' := by
 refine (eqIntS_any A B n c m d xs xs w h.ints h'.ints).mono ?_
 rintro e w' ⟨rfl, hq⟩
 exact ⟨ret_bool (by unfold eqInts; simp), hq.below _⟩
end
section
open Go.RowKit
def Whole (w : World) (t : TypeId) (sz lo hi : Nat) (A : Option Addr) (n c : Nat) : Prop :=
 (n = 0 ∧ c = 0) ∨ ∃ g cur, A = some ⟨g, 0, none⟩ ∧ lo ≤ g ∧ g < hi ∧ w.heap[g]? = some (.cells cur t (0, 0)) ∧ cur.size = c * sz ∧ n ≤ c ∧ c ≤ maxLen
theorem Whole.keep {w w' : World} {t : TypeId} {sz lo hi : Nat} {A : Option Addr} {n c : Nat} (h : Whole w t sz lo hi A n c) (hs : Same lo hi w w') : Whole w' t sz lo hi A n c := by
 rcases h with h | ⟨g, cur, h1, h2, h3, h4, h5⟩
 · exact .inl h
 exact .inr ⟨g, cur, h1, h2, h3, (hs g h2 h3).trans h4, h5⟩
theorem Whole.wide {w : World} {t : TypeId} {sz lo hi lo' hi' : Nat} {A : Option Addr} {n c : Nat} (h : Whole w t sz lo hi A n c) (h1 : lo' ≤ lo) (h2 : hi ≤ hi') : Whole w t sz lo' hi' A n c := by
 rcases h with h | ⟨g, cur, a1, a2, a3, a4⟩
 · exact .inl h
 exact .inr ⟨g, cur, a1, by omega, by omega, a4⟩
theorem Whole.far {w W w' : World} {B t sz : Nat} {A : Option Addr} {n c : Nat} (h : Whole w t sz B w.heap.size A n c) (hs : Step B w W) (hb : Below W.heap.size W w') : Whole w' t sz B w'.heap.size A n c := by
 have hz : w.heap.size ≤ w'.heap.size := by have := hb.size; have := hs.1; omega
 have hsame : Same B w.heap.size w w' := fun k h1 h2 => (hb.block k (by have := hs.1; omega)).trans (hs.2 k h1 h2)
 exact (h.keep hsame).wide (Nat.le_refl _) hz
def blkOf (A : Option Addr) (b : Nat) : Prop := ∃ off, A = some ⟨b, off, none⟩
theorem blkOf_iff {g off b : Nat} : blkOf (some ⟨g, off, none⟩) b ↔ b = g := by
 constructor
 · rintro ⟨o, h⟩; injection h with e; injection e with e1; exact e1.symm
 rintro rfl; exact ⟨_, rfl⟩
def mdig : Nat → Nat → List UInt8 → List UInt8
 | 0, _, out => out
 | f + 1, k, out => if k = 0 then out else mdig f (k / 10) (UInt8.ofNat (48 + k % 10) :: out)
def mtext (k : Int) : ByteArray := if k ≤ 0 then ⟨#[109, 48]⟩ else ⟨(109 :: mdig k.toNat k.toNat []).toArray⟩
def mkv (k : Int) : Value → Value
 | .int kd _ => .int kd k
 | .string _ => .string (mtext k)
 | .bool _ => .bool (k.tmod 3 == 0)
 | v => v
def HasMarks (K : List Value) (k : Int) (m : Nat) (cur : Array Value) : Prop := ∀ j, j < m → cur[j]? = some (mkv (k + j) (K.getD (j % K.length) undef))
theorem HasMarks.zero (K : List Value) (k : Int) (cur : Array Value) : HasMarks K k 0 cur := fun j hj => absurd hj (by omega)
theorem HasMarks.step {K : List Value} {k : Int} {m : Nat} {cur : Array Value} {v : Value} (h : HasMarks K k m cur) (hm : m < cur.size) (hv : v = mkv (k + m) (K.getD (m % K.length) undef)) : HasMarks K k (m + 1) (cur.setIfInBounds m v) := by
 intro j hj
 rw [Array.getElem?_setIfInBounds]
 by_cases hjm : m = j
 · subst hjm; rw [if_pos rfl, if_pos hm, hv]
 rw [if_neg hjm]; exact h j (by omega)
def MarkedAt (w : World) (K : List Value) (k : Int) (A : Option Addr) (m : Nat) : Prop := 0 < m → ∃ b off, A = some ⟨b, off, none⟩ ∧ b < w.heap.size ∧ ∀ j, j < m → w.cell? ⟨b, off + j, none⟩ = some (mkv (k + j) (K.getD (j % K.length) undef))
theorem MarkedAt.keep {w w' : World} {K : List Value} {k : Int} {A : Option Addr} {m : Nat} (h : MarkedAt w K k A m) (hz : w.heap.size ≤ w'.heap.size) (hk : ∀ b, blkOf A b → b < w.heap.size → w'.heap[b]? = w.heap[b]?) : MarkedAt w' K k A m := by
 intro hm
 obtain ⟨b, off, hA, hb, hc⟩ := h hm
 exact ⟨b, off, hA, by omega, fun j hj => (World.cell?_of_block (hk b ⟨off, hA⟩ hb)).trans (hc j hj)⟩
theorem MarkedAt.below {w w' : World} {K : List Value} {k : Int} {A : Option Addr} {m : Nat} (h : MarkedAt w K k A m) (hb : Below w.heap.size w w') : MarkedAt w' K k A m := h.keep hb.size fun b _ hlt => hb.block b hlt
theorem HasMarks.at_ {w : World} {K : List Value} {k : Int} {m g t : Nat} {cur : Array Value} (h : HasMarks K k m cur) (hg : w.heap[g]? = some (.cells cur t (0, 0))) : MarkedAt w K k (some ⟨g, 0, none⟩) m :=
 fun _ => ⟨g, 0, rfl, (Array.getElem?_eq_some_iff.1 hg).1, fun j hj => by rw [Nat.zero_add, cell_of_row _ _ j _ _ (0, 0) hg]; exact h j hj⟩
end
section
open Go.RowKit
def inB (n lo hi : Int) : Bool := decide (lo ≤ n ∧ n ≤ hi)
theorem inB_yes {n lo hi : Int} (h : lo ≤ n ∧ n ≤ hi) : inB n lo hi = true := by unfold inB; simpa using h
theorem inB_no {n lo hi : Int} (h : ¬ (lo ≤ n ∧ n ≤ hi)) : inB n lo hi = false := by unfold inB; simpa using h
set_option maxHeartbeats 400000 in
theorem within_any (n lo hi : Int) (w : World) :
 Calls Tryz.prog 61 #[.int .i64 n, .int .i64 lo, .int .i64 hi] w fun e w' => e = .returned (.bool (inB n lo hi)) ∧ w = w' := by
 by_cases h1 : lo ≤ n
 · have hf := Lib.hid (show inB n lo hi = decide (n ≤ hi) by unfold inB; simp [h1])
   go_enter Tryz.func61, Tryz.ntmps61
   go_wp2
   go_ret
   exact ⟨ret_bool hf.out.symm, rfl⟩
 have hf := Lib.hid (show inB n lo hi = false by unfold inB; simp [h1])
 go_enter Tryz.func61, Tryz.ntmps61
 go_wp2
 go_ret
 exact ⟨ret_bool hf.out.symm, rfl⟩
set_option maxHeartbeats 400000 in
theorem l6In_any (n lo hi : Int) (w : World) :
 Calls Tryz.prog 55 #[.int .i64 n, .int .i64 lo, .int .i64 hi] w fun e w' => e = .returned (.bool (inB n lo hi)) ∧ w = w' := by
 by_cases h1 : lo ≤ n
 · have hf := Lib.hid (show inB n lo hi = decide (n ≤ hi) by unfold inB; simp [h1])
   go_enter Tryz.func55, Tryz.ntmps55
   go_wp2
   go_ret
   exact ⟨ret_bool hf.out.symm, rfl⟩
 have hf := Lib.hid (show inB n lo hi = false by unfold inB; simp [h1])
 go_enter Tryz.func55, Tryz.ntmps55
 go_wp2
 go_ret
 exact ⟨ret_bool hf.out.symm, rfl⟩
set_option maxHeartbeats 400000 in
theorem isRow_any (n : Int) (w : World) :
 Calls Tryz.prog 82 #[.int .i64 n] w fun e w' => e = .returned (.bool (inB n 8 63)) ∧ w = w' := by
 go_enter Tryz.func82, Tryz.ntmps82
 go_wp2_with (go_at_call 61; refine (within_any _ _ _ _).mono ?_; rintro e w' ⟨rfl, rfl⟩)
 go_ret
 exact ⟨rfl, rfl⟩
set_option maxHeartbeats 400000 in
theorem l2Row_any (n : Int) (w : World) :
 Calls Tryz.prog 73 #[.int .i64 n] w fun e w' => e = .returned (.bool (inB n 8 63)) ∧ w = w' := by
 go_enter Tryz.func73, Tryz.ntmps73
 go_wp2_with (go_at_call 55; refine (l6In_any _ _ _ _).mono ?_; rintro e w' ⟨rfl, rfl⟩)
 go_ret
 exact ⟨rfl, rfl⟩
end
section
open Go.RowKit
theorem flatten_get {α : Type} {sz : Nat} : ∀ {css : List (List α)}, (∀ cs ∈ css, cs.length = sz) → ∀ (j : Nat) (cs : List α) (i : Nat), css[j]? = some cs → i < sz → css.flatten[j * sz + i]? = cs[i]?
 | [], _, j, cs, i, h, _ => by simp at h
 | d :: css, hl, 0, cs, i, h, hi => by
   simp at h; subst h
   have := hl d (by simp)
   rw [List.flatten_cons, Nat.zero_mul, Nat.zero_add, List.getElem?_append_left (by omega)]
 | d :: css, hl, j + 1, cs, i, h, hi => by
   have hd := hl d (by simp)
   rw [List.flatten_cons, Nat.succ_mul, List.getElem?_append_right (by omega), show j * sz + sz + i - d.length = j * sz + i by omega]
   exact flatten_get (fun cs hc => hl cs (by simp [hc])) j cs i (by simpa using h) hi
theorem flatten_len {α : Type} {sz : Nat} : ∀ {css : List (List α)}, (∀ cs ∈ css, cs.length = sz) → css.flatten.length = css.length * sz
 | [], _ => by simp
 | d :: css, hl => by
   rw [List.flatten_cons, List.length_append, hl d (by simp), flatten_len (fun cs hc => hl cs (by simp [hc])), List.length_cons, Nat.succ_mul, Nat.add_comm]
def RowV {α : Type} (P : List Value → α → Prop) (sz : Nat) (vs : List Value) (xs : List α) : Prop := ∀ j x, xs[j]? = some x → ∃ cs, cs.length = sz ∧ (∀ i v, cs[i]? = some v → vs[j * sz + i]? = some v) ∧ P cs x
theorem RowV.nil {α : Type} (P : List Value → α → Prop) (sz : Nat) : RowV P sz [] [] := fun j x h => by simp at h
theorem RowV.append {α : Type} {P : List Value → α → Prop} {sz : Nat} {vs us : List Value} {xs ys : List α} (h : RowV P sz vs xs) (k : RowV P sz us ys) (hl : vs.length = xs.length * sz) : RowV P sz (vs ++ us) (xs ++ ys) := by
 intro j x hx
 rcases Nat.lt_or_ge j xs.length with hj | hj
 · rw [List.getElem?_append_left hj] at hx
   obtain ⟨cs, h1, h2, h3⟩ := h j x hx
   refine ⟨cs, h1, fun i v hv => ?_, h3⟩
   have := h2 i v hv
   rw [List.getElem?_append_left (List.getElem?_eq_some_iff.1 this).1]
   exact this
 rw [List.getElem?_append_right hj] at hx
 obtain ⟨cs, h1, h2, h3⟩ := k _ x hx
 refine ⟨cs, h1, fun i v hv => ?_, h3⟩
 have := h2 i v hv
 have hm : xs.length * sz ≤ j * sz := Nat.mul_le_mul_right _ hj
 rw [List.getElem?_append_right (by omega), hl, show j * sz + i - xs.length * sz = (j - xs.length) * sz + i by rw [Nat.sub_mul]; omega]
 exact this
theorem RowV.one {α : Type} {P : List Value → α → Prop} {sz : Nat} {cs : List Value} {x : α} (hl : cs.length = sz) (h : P cs x) : RowV P sz cs [x] := by
 intro j y hy
 match j, hy with
 | 0, hy => simp at hy; subst hy; exact ⟨cs, hl, fun i v hv => by simpa using hv, h⟩
 | j + 1, hy => simp at hy
theorem SliceR.row {α : Type} {R : Reads α} {sz : Nat} {w : World} {lo hi : Nat} {A : Option Addr} {n c : Nat} {xs : List α} (h : SliceR R sz w lo hi A n c xs) (hsz : 0 < sz) :
 ∃ vs, RowAt w A (n * sz) vs ∧ vs.length = xs.length * sz ∧ RowV (R w lo hi) sz vs xs ∧ ∀ u ∈ vs, ∃ cs x, u ∈ cs ∧ R w lo hi cs x := by
 rcases Nat.eq_zero_or_pos n with h0 | h0
 · have hx : xs = [] := List.eq_nil_of_length_eq_zero (h.len.trans h0)
   subst hx h0
   exact ⟨[], ⟨by simp, fun h => absurd h (by simp)⟩, by simp, RowV.nil _ _, by simp⟩
 obtain ⟨b, off, rfl, _, _, _, hc⟩ := h.at_ h0
 have hl := h.len
 obtain ⟨css, hcl, hcc⟩ := choose_list (Q := fun j cs => cs.length = sz ∧ (∀ i v, cs[i]? = some v → w.cell? ⟨b, off + j * sz + i, none⟩ = some v) ∧ ∃ x, xs[j]? = some x ∧ R w lo hi cs x) n (fun j hj => by
  obtain ⟨cs, h1, h2, h3⟩ := hc j (xs[j]'(by omega)) (List.getElem?_eq_getElem _)
  exact ⟨cs, h1, h2, _, List.getElem?_eq_getElem _, h3⟩)
 have hlen : ∀ cs ∈ css, cs.length = sz := fun cs hm => by
  obtain ⟨j, hj, rfl⟩ := List.mem_iff_getElem.1 hm
  exact (hcc j _ (List.getElem?_eq_getElem hj)).1
 have hfl : css.flatten.length = n * sz := by rw [flatten_len hlen, hcl]
 refine ⟨css.flatten, ⟨hfl, fun _ => ⟨b, off, rfl, fun j hj => ?_⟩⟩, by rw [hfl, hl], fun j x hx => ?_, fun u hu => ?_⟩
 · have hd : j / sz < n := Nat.div_lt_of_lt_mul (by rw [Nat.mul_comm]; exact hj)
   have hm : j % sz < sz := Nat.mod_lt _ hsz
   have hj2 : j = j / sz * sz + j % sz := by rw [Nat.mul_comm]; exact (Nat.div_add_mod j sz).symm
   have hg : css[j / sz]? = some (css[j / sz]'(by omega)) := List.getElem?_eq_getElem _
   obtain ⟨h1, h2, _⟩ := hcc _ _ hg
   have hv : (css[j / sz]'(by omega))[j % sz]? = some ((css[j / sz]'(by omega))[j % sz]'(by omega)) := List.getElem?_eq_getElem _
   have e1 := h2 _ _ hv
   have e2 := flatten_get hlen (j / sz) _ (j % sz) hg hm
   rw [← hj2] at e2
   rw [e2, hv, ← e1, Nat.add_assoc, ← hj2]
 · have hj : j < n := by have := (List.getElem?_eq_some_iff.1 hx).1; omega
   have hg : css[j]? = some (css[j]'(by omega)) := List.getElem?_eq_getElem _
   obtain ⟨h1, h2, y, hy, hr⟩ := hcc _ _ hg
   rw [hx] at hy; obtain rfl := Option.some.inj hy
   refine ⟨_, h1, fun i v hv => ?_, hr⟩
   rw [flatten_get hlen j _ i hg (by rw [← h1]; exact (List.getElem?_eq_some_iff.1 hv).1), hv]
 obtain ⟨cs, hm, hu⟩ := List.mem_flatten.1 hu
 obtain ⟨j, hj, rfl⟩ := List.mem_iff_getElem.1 hm
 obtain ⟨_, _, x, _, hr⟩ := hcc j _ (List.getElem?_eq_getElem hj)
 exact ⟨_, x, hu, hr⟩
theorem OwnA.slice {α : Type} {R : Reads α} {sz : Nat} {w : World} {t lo hi : Nat} {S : List Nat} {A : Option Addr} {n c : Nat} {vs : List Value} {xs : List α} (h : OwnA w t sz S A n c vs) (hn : xs.length = n) (hv : RowV (R w lo hi) sz vs xs) (hS : ∀ g ∈ S, lo ≤ g ∧ g < hi) (hhi : hi ≤ w.heap.size) :
 SliceR R sz w lo hi A n c xs ∧ Whole w t sz lo hi A n c := by
 refine ⟨⟨hn, h.le, Nat.le_trans h.le h.cap, hhi, fun hA => (h.none_ hA).2, fun hp => ?_⟩, ?_⟩
 · rcases h.1 with ⟨_, h0, _⟩ | ⟨g, cur, rfl, rfl, hl, hnc, hcm, hg, hcs, hcc⟩
   · omega
   obtain ⟨h1, h2⟩ := hS g (by simp)
   refine ⟨g, 0, rfl, h1, h2, fun j x hx => ?_⟩
   obtain ⟨cs, hcl, hc, hr⟩ := hv j x hx
   refine ⟨cs, hcl, fun i v hv' => ?_, hr⟩
   have e := hc i v hv'
   have hlt := (List.getElem?_eq_some_iff.1 e).1
   rw [Nat.zero_add, cell_of_row _ _ _ _ _ (0, 0) hg, hcc _ (by omega), e]
 rcases h.1 with ⟨h00, h0, _⟩ | ⟨g, cur, rfl, rfl, hl, hnc, hcm, hg, hcs, hcc⟩
 · exact .inl ⟨h0, h.2 h00⟩
 obtain ⟨h1, h2⟩ := hS g (by simp)
 exact .inr ⟨g, cur, rfl, h1, h2, hg, hcs, hnc, hcm⟩
def NewW {α : Type} (R : Reads α) (sz t : Nat) (w : World) (n : Nat) (xs : List α) (e : Ending) (w' : World) : Prop :=
 ∃ A c, e = .returned (.slice A n c) ∧ SliceR R sz w' w.heap.size w'.heap.size A n c xs ∧ Whole w' t sz w.heap.size w'.heap.size A n c ∧ Below w.heap.size w w'
def Shape (q t m : Nat) (w : World) : Prop := ∃ cur, w.heap[q]? = some (.cells cur t (0, 0)) ∧ cur.size = m
theorem Shape.lt {q t m : Nat} {w : World} (h : Shape q t m w) : q < w.heap.size := by obtain ⟨cur, h, _⟩ := h; exact (Array.getElem?_eq_some_iff.1 h).1
theorem Shape.ext {q t m : Nat} {w w' : World} (h : Shape q t m w) (he : Ext w w') : Shape q t m w' := by
 have hl := h.lt
 obtain ⟨cur, h1, h2⟩ := h
 exact ⟨cur, (Below.block he q hl).trans h1, h2⟩
def OwnQ (B q t m : Nat) (w w' : World) : Prop := Own B w w' ∧ (Shape q t m w → Shape q t m w')
theorem OwnQ.of_ext (B q t m : Nat) (a b : World) (h : Ext a b) : OwnQ B q t m a b := ⟨Own.of_ext B a b h, fun hs => hs.ext h⟩
theorem OwnQ.trans {B q t m : Nat} {a b c : World} (h : OwnQ B q t m a b) (k : OwnQ B q t m b c) : OwnQ B q t m a c := ⟨h.1.trans k.1, fun x => k.2 (h.2 x)⟩
theorem OwnQ.drew (B q t m : Nat) (w : World) : OwnQ B q t m w w.drew := OwnQ.of_ext _ _ _ _ _ _ (Ext.drew w)
section
variable {S : World → World → Prop} {α : Type} {R : Reads α}
end
end
end Go.Proofs.YtjnhiiaejeaikaaGreatDoor
