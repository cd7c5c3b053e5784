/- Copies of slices in new memory: how they read. No condition. -/
import Derived.Test.YtgipchipcoaajaaApp
import Derived.Test.YtgipchipcoaajaaWhole
import Derived.Test.YtgipchipcoaajaaRgm
namespace Go.Proofs.Ytgipchipcoaajaa
set_option linter.unusedVariables false
set_option linter.unusedSimpArgs false
set_option linter.unnecessarySimpa false
open Go.RowKit

theorem flatten_get {α : Type} {sz : Nat} : ∀ {css : List (List α)}, (∀ cs ∈ css, cs.length = sz) → ∀ (j : Nat) (cs : List α) (i : Nat), css[j]? = some cs → i < sz → css.flatten[j * sz + i]? = cs[i]?
  | [], _, j, cs, i, h, _ => by simp at h
  | d :: css, hl, 0, cs, i, h, hi => by
    simp at h; subst h
    have := hl d (by simp)
    rw [List.flatten_cons, Nat.zero_mul, Nat.zero_add, List.getElem?_append_left (by omega)]
  | d :: css, hl, j + 1, cs, i, h, hi => by
    have hd := hl d (by simp)
    rw [List.flatten_cons, Nat.succ_mul, List.getElem?_append_right (by omega), show j * sz + sz + i - d.length = j * sz + i by omega]
    exact flatten_get (fun cs hc => hl cs (by simp [hc])) j cs i (by simpa using h) hi
theorem flatten_len {α : Type} {sz : Nat} : ∀ {css : List (List α)}, (∀ cs ∈ css, cs.length = sz) → css.flatten.length = css.length * sz
  | [], _ => by simp
  | d :: css, hl => by
    rw [List.flatten_cons, List.length_append, hl d (by simp), flatten_len (fun cs hc => hl cs (by simp [hc])), List.length_cons, Nat.succ_mul, Nat.add_comm]
/-- The values vs are the cells of the data xs. -/
def RowV {α : Type} (P : List Value → α → Prop) (sz : Nat) (vs : List Value) (xs : List α) : Prop := ∀ j x, xs[j]? = some x → ∃ cs, cs.length = sz ∧ (∀ i v, cs[i]? = some v → vs[j * sz + i]? = some v) ∧ P cs x
theorem RowV.nil {α : Type} (P : List Value → α → Prop) (sz : Nat) : RowV P sz [] [] := fun j x h => by simp at h
theorem RowV.append {α : Type} {P : List Value → α → Prop} {sz : Nat} {vs us : List Value} {xs ys : List α} (h : RowV P sz vs xs) (k : RowV P sz us ys) (hl : vs.length = xs.length * sz) : RowV P sz (vs ++ us) (xs ++ ys) := by
  intro j x hx
  rcases Nat.lt_or_ge j xs.length with hj | hj
  · rw [List.getElem?_append_left hj] at hx
    obtain ⟨cs, h1, h2, h3⟩ := h j x hx
    refine ⟨cs, h1, fun i v hv => ?_, h3⟩
    have := h2 i v hv
    rw [List.getElem?_append_left (List.getElem?_eq_some_iff.1 this).1]
    exact this
  · rw [List.getElem?_append_right hj] at hx
    obtain ⟨cs, h1, h2, h3⟩ := k _ x hx
    refine ⟨cs, h1, fun i v hv => ?_, h3⟩
    have := h2 i v hv
    have hm : xs.length * sz ≤ j * sz := Nat.mul_le_mul_right _ hj
    rw [List.getElem?_append_right (by omega), hl, show j * sz + i - xs.length * sz = (j - xs.length) * sz + i by rw [Nat.sub_mul]; omega]
    exact this
theorem RowV.one {α : Type} {P : List Value → α → Prop} {sz : Nat} {cs : List Value} {x : α} (hl : cs.length = sz) (h : P cs x) : RowV P sz cs [x] := by
  intro j y hy
  match j, hy with
  | 0, hy => simp at hy; subst hy; exact ⟨cs, hl, fun i v hv => by simpa using hv, h⟩
  | j + 1, hy => simp at hy
theorem SliceR.row {α : Type} {R : Reads α} {sz : Nat} {w : World} {lo hi : Nat} {A : Option Addr} {n c : Nat} {xs : List α} (h : SliceR R sz w lo hi A n c xs) (hsz : 0 < sz) :
    ∃ vs, RowAt w A (n * sz) vs ∧ vs.length = xs.length * sz ∧ RowV (R w lo hi) sz vs xs ∧ ∀ u ∈ vs, ∃ cs x, u ∈ cs ∧ R w lo hi cs x := by
  rcases Nat.eq_zero_or_pos n with h0 | h0
  · have hx : xs = [] := List.eq_nil_of_length_eq_zero (h.len.trans h0)
    subst hx h0
    exact ⟨[], ⟨by simp, fun h => absurd h (by simp)⟩, by simp, RowV.nil _ _, by simp⟩
  · obtain ⟨b, off, rfl, _, _, _, hc⟩ := h.at_ h0
    have hl := h.len
    obtain ⟨css, hcl, hcc⟩ := choose_list (Q := fun j cs => cs.length = sz ∧ (∀ i v, cs[i]? = some v → w.cell? ⟨b, off + j * sz + i, none⟩ = some v) ∧ ∃ x, xs[j]? = some x ∧ R w lo hi cs x) n (fun j hj => by
      obtain ⟨cs, h1, h2, h3⟩ := hc j (xs[j]'(by omega)) (List.getElem?_eq_getElem _)
      exact ⟨cs, h1, h2, _, List.getElem?_eq_getElem _, h3⟩)
    have hlen : ∀ cs ∈ css, cs.length = sz := fun cs hm => by
      obtain ⟨j, hj, rfl⟩ := List.mem_iff_getElem.1 hm
      exact (hcc j _ (List.getElem?_eq_getElem hj)).1
    have hfl : css.flatten.length = n * sz := by rw [flatten_len hlen, hcl]
    refine ⟨css.flatten, ⟨hfl, fun _ => ⟨b, off, rfl, fun j hj => ?_⟩⟩, by rw [hfl, hl], fun j x hx => ?_, fun u hu => ?_⟩
    · have hd : j / sz < n := Nat.div_lt_of_lt_mul (by rw [Nat.mul_comm]; exact hj)
      have hm : j % sz < sz := Nat.mod_lt _ hsz
      have hj2 : j = j / sz * sz + j % sz := by rw [Nat.mul_comm]; exact (Nat.div_add_mod j sz).symm
      have hg : css[j / sz]? = some (css[j / sz]'(by omega)) := List.getElem?_eq_getElem _
      obtain ⟨h1, h2, _⟩ := hcc _ _ hg
      have hv : (css[j / sz]'(by omega))[j % sz]? = some ((css[j / sz]'(by omega))[j % sz]'(by omega)) := List.getElem?_eq_getElem _
      have e1 := h2 _ _ hv
      have e2 := flatten_get hlen (j / sz) _ (j % sz) hg hm
      rw [← hj2] at e2
      rw [e2, hv, ← e1, Nat.add_assoc, ← hj2]
    · have hj : j < n := by have := (List.getElem?_eq_some_iff.1 hx).1; omega
      have hg : css[j]? = some (css[j]'(by omega)) := List.getElem?_eq_getElem _
      obtain ⟨h1, h2, y, hy, hr⟩ := hcc _ _ hg
      rw [hx] at hy; obtain rfl := Option.some.inj hy
      refine ⟨_, h1, fun i v hv => ?_, hr⟩
      rw [flatten_get hlen j _ i hg (by rw [← h1]; exact (List.getElem?_eq_some_iff.1 hv).1), hv]
    · obtain ⟨cs, hm, hu⟩ := List.mem_flatten.1 hu
      obtain ⟨j, hj, rfl⟩ := List.mem_iff_getElem.1 hm
      obtain ⟨_, _, x, _, hr⟩ := hcc j _ (List.getElem?_eq_getElem hj)
      exact ⟨_, x, hu, hr⟩
theorem OwnA.slice {α : Type} {R : Reads α} {sz : Nat} {w : World} {t lo hi : Nat} {S : List Nat} {A : Option Addr} {n c : Nat} {vs : List Value} {xs : List α} (h : OwnA w t sz S A n c vs) (hn : xs.length = n) (hv : RowV (R w lo hi) sz vs xs) (hS : ∀ g ∈ S, lo ≤ g ∧ g < hi) (hhi : hi ≤ w.heap.size) :
    SliceR R sz w lo hi A n c xs ∧ Whole w t sz lo hi A n c := by
  refine ⟨⟨hn, h.le, Nat.le_trans h.le h.cap, hhi, fun hA => (h.none_ hA).2, fun hp => ?_⟩, ?_⟩
  · rcases h.1 with ⟨_, h0, _⟩ | ⟨g, cur, rfl, rfl, hl, hnc, hcm, hg, hcs, hcc⟩
    · omega
    · obtain ⟨h1, h2⟩ := hS g (by simp)
      refine ⟨g, 0, rfl, h1, h2, fun j x hx => ?_⟩
      obtain ⟨cs, hcl, hc, hr⟩ := hv j x hx
      refine ⟨cs, hcl, fun i v hv' => ?_, hr⟩
      have e := hc i v hv'
      have hlt := (List.getElem?_eq_some_iff.1 e).1
      rw [Nat.zero_add, cell_of_row _ _ _ _ _ (0, 0) hg, hcc _ (by omega), e]
  · rcases h.1 with ⟨h00, h0, _⟩ | ⟨g, cur, rfl, rfl, hl, hnc, hcm, hg, hcs, hcc⟩
    · exact .inl ⟨h0, h.2 h00⟩
    · obtain ⟨h1, h2⟩ := hS g (by simp)
      exact .inr ⟨g, cur, rfl, h1, h2, hg, hcs, hnc, hcm⟩
/-- A whole slice is a slice onto which one may append. -/
theorem SliceR.ownA {α : Type} {R : Reads α} {sz : Nat} {w : World} {t lo hi : Nat} {A : Option Addr} {n c : Nat} {xs : List α} (h : SliceR R sz w lo hi A n c xs) (k : Whole w t sz lo hi A n c) (hsz : 0 < sz) :
    ∃ S vs, OwnA w t sz S A n c vs ∧ vs.length = xs.length * sz ∧ RowV (R w lo hi) sz vs xs ∧ (∀ u ∈ vs, ∃ cs x, u ∈ cs ∧ R w lo hi cs x) ∧ (∀ g ∈ S, blkOf A g ∧ 0 < c ∧ lo ≤ g ∧ g < hi) := by
  obtain ⟨vs, r1, r2, r3, r4⟩ := h.row hsz
  rcases k with ⟨h1, h2⟩ | ⟨g, cur, rfl, h1, h2, hg, hcs, hnc, hcm⟩
  · subst h1 h2
    have hv : vs = [] := List.eq_nil_of_length_eq_zero (by have := r1.1; simpa using this)
    subst hv
    exact ⟨[], [], OwnA.nil _, by simpa using r2, r3, r4, by simp⟩
  · rcases Nat.eq_zero_or_pos c with h0 | h0
    · subst h0
      obtain rfl : n = 0 := by omega
      have hv : vs = [] := List.eq_nil_of_length_eq_zero (by have := r1.1; simpa using this)
      subst hv
      exact ⟨[], [], OwnA.nil _, by simpa using r2, r3, r4, by simp⟩
    refine ⟨[g], vs, ⟨.inr ⟨g, cur, rfl, rfl, r1.1, hnc, hcm, hg, hcs, fun j hj => ?_⟩, fun h => by simp at h⟩, by rw [r1.1, h.1], r3, r4, fun g' hg' => ?_⟩
    · obtain ⟨b, off, hA, hc⟩ := r1.2 (by omega)
      injection hA with e; injection e with e1 e2; subst e1 e2
      have := hc j hj
      rw [Nat.zero_add, cell_of_row _ _ _ _ _ (0, 0) hg] at this
      exact this
    · simp at hg'; subst hg'
      exact ⟨⟨0, rfl⟩, h0, h1, h2⟩
/-- A new slice, its array whole. -/
def NewW {α : Type} (R : Reads α) (sz t : Nat) (w : World) (n : Nat) (xs : List α) (e : Ending) (w' : World) : Prop :=
  ∃ A c, e = .returned (.slice A n c) ∧ SliceR R sz w' w.heap.size w'.heap.size A n c xs ∧ Whole w' t sz w.heap.size w'.heap.size A n c ∧ Below w.heap.size w w'

/-- Block q has m cells. -/
def Shape (q t m : Nat) (w : World) : Prop := ∃ cur, w.heap[q]? = some (.cells cur t (0, 0)) ∧ cur.size = m
theorem Shape.lt {q t m : Nat} {w : World} (h : Shape q t m w) : q < w.heap.size := by obtain ⟨cur, h, _⟩ := h; exact (Array.getElem?_eq_some_iff.1 h).1
theorem Shape.ext {q t m : Nat} {w w' : World} (h : Shape q t m w) (he : Ext w w') : Shape q t m w' := by
  have hl := h.lt
  obtain ⟨cur, h1, h2⟩ := h
  exact ⟨cur, (Below.block he q hl).trans h1, h2⟩
theorem Shape.set {q t m o : Nat} {w : World} {v : Value} (h : Shape q t m w) : Shape q t m (w.setCell ⟨q, o, none⟩ v) := by
  obtain ⟨cur, h1, h2⟩ := h
  exact ⟨_, block_set h1, by simpa using h2⟩
/-- Nothing below B has turned, but block q, which keeps its shape. -/
def OwnQ (B q t m : Nat) (w w' : World) : Prop := Own B w w' ∧ (Shape q t m w → Shape q t m w')
theorem OwnQ.of_ext (B q t m : Nat) (a b : World) (h : Ext a b) : OwnQ B q t m a b := ⟨Own.of_ext B a b h, fun hs => hs.ext h⟩
theorem OwnQ.trans {B q t m : Nat} {a b c : World} (h : OwnQ B q t m a b) (k : OwnQ B q t m b c) : OwnQ B q t m a c := ⟨h.1.trans k.1, fun x => k.2 (h.2 x)⟩
theorem OwnQ.drew (B q t m : Nat) (w : World) : OwnQ B q t m w w.drew := OwnQ.of_ext _ _ _ _ _ _ (Ext.drew w)
theorem set_all {vs : List Value} {cur : Array Value} (h : cur.size = vs.length) : putAt cur 0 vs = vs.toArray := by
  apply Array.ext_getElem?
  intro i
  rcases Nat.lt_or_ge i vs.length with hi | hi
  · have := putAt_in vs cur 0 i (vs[i]) (by omega) (List.getElem?_eq_getElem hi)
    rw [Nat.zero_add] at this
    rw [this]
    simp [hi]
  · rw [Array.getElem?_eq_none (by rw [putAt_size]; omega), Array.getElem?_eq_none (by simpa using hi)]
section
variable {S : World → World → Prop} {α : Type} {R : Reads α}
/-- A new slice, above a bound. -/
def MStP.newSl (hb : ∀ {w w' : World} {lo hi : Nat}, Below w.heap.size w w' → hi ≤ w.heap.size → ∀ cs x, R w lo hi cs x → R w' lo hi cs x) (sz t lo n : Nat) (xs : List α) : MStP S Ext :=
  ⟨fun v w => ∃ A c hi, v = .slice A n c ∧ hi ≤ w.heap.size ∧ SliceR R sz w lo hi A n c xs ∧ Whole w t sz lo hi A n c, false,
   fun _ _ _ he ⟨A, c, hi, e, h1, h2, h3⟩ => ⟨A, c, hi, e, Nat.le_trans h1 (Below.size he), h2.keep (Same.of_below he h1) (Below.size he) (fun _ _ h => hb he h1 _ _ h), h3.below he h1⟩, fun h => by cases h⟩
/-- A new struct, above a bound. -/
def MStP.newT (hb : ∀ {w w' : World} {lo hi : Nat}, Below w.heap.size w w' → hi ≤ w.heap.size → ∀ cs x, R w lo hi cs x → R w' lo hi cs x) (lo : Nat) (x : α) : MStP S Ext :=
  ⟨fun v w => ∃ cs hi, v = .agg (List.toArray cs) ∧ hi ≤ w.heap.size ∧ R w lo hi cs x, false, fun _ _ _ he ⟨cs, hi, e, h1, h2⟩ => ⟨cs, hi, e, Nat.le_trans h1 (Below.size he), hb he h1 _ _ h2⟩, fun h => by cases h⟩
/-- A struct stored into block q. -/
def MStP.stored (hb : ∀ {w w' : World} {lo hi : Nat}, Below w.heap.size w w' → hi ≤ w.heap.size → ∀ cs x, R w lo hi cs x → R w' lo hi cs x) (q t lo : Nat) (x : α) : MStP S Ext :=
  ⟨fun _ w => ∃ cs hi, w.heap[q]? = some (.cells (List.toArray cs) t (0, 0)) ∧ hi ≤ w.heap.size ∧ R w lo hi cs x, false,
   fun _ _ _ he ⟨cs, hi, e, h1, h2⟩ => ⟨cs, hi, (Below.block he q (Array.getElem?_eq_some_iff.1 e).1).trans e, Nat.le_trans h1 (Below.size he), hb he h1 _ _ h2⟩, fun h => by cases h⟩
def MStP.emp : MStP S Ext := ⟨fun v _ => ∃ X, v = .slice X 0 0, true, fun _ _ _ _ h => h, fun _ _ _ _ _ h => h⟩
end
end Go.Proofs.Ytgipchipcoaajaa
