/- settle of the program: the waits are laid into the cells, in their order, by a closure. No condition. -/
import Derived.Test.YtfokpjoeankobaaDiskWrite
import Derived.Test.YtfokpjoeankobaaDiskCopy
import Derived.Test.YtfokpjoeankobaaDiskLose
import Derived.Test.YtfokpjoeankobaaLib
namespace Go.Proofs.Ytfokpjoeankobaa
set_option linter.unusedSimpArgs false
set_option linter.unnecessarySimpa false
open Go.RowKit
set_option linter.unusedVariables false
/-- Nothing below B has turned, and no block of another type than T. -/
def DT (B T : Nat) (a b : World) : Prop := Own B a b ∧ a.heap.size ≤ b.heap.size ∧ ∀ i, i < a.heap.size → (∀ cur, a.heap[i]? ≠ some (.cells cur T (0, 0))) → b.heap[i]? = a.heap[i]?
theorem DT.trans {B T : Nat} {a b c : World} (h : DT B T a b) (k : DT B T b c) : DT B T a c := by
  refine ⟨Own.trans h.1 k.1, Nat.le_trans h.2.1 k.2.1, fun i hi hn => ?_⟩
  have e := h.2.2 i hi hn
  exact (k.2.2 i (Nat.lt_of_lt_of_le hi h.2.1) (by rw [e]; exact hn)).trans e
theorem DT.of_ext {B T : Nat} {a b : World} (h : Ext a b) : DT B T a b := ⟨Own.of_ext _ _ _ h, Below.size h, fun i hi _ => Below.block h i hi⟩
/-- A block of texts. -/
def StrArr (S : TypeId) (w : World) (g c : Nat) (xs : List ByteArray) : Prop := ∃ cur : Array Value, w.heap[g]? = some (.cells cur S (0, 0)) ∧ cur.size = c ∧ xs.length ≤ c ∧ c ≤ maxLen ∧ ∀ (j : Nat) (s : ByteArray), xs[j]? = some s → cur[j]? = some (Value.string s)
theorem StrArr.block {S : TypeId} {w w' : World} {g c : Nat} {xs : List ByteArray} (h : StrArr S w g c xs) (e : w'.heap[g]? = w.heap[g]?) : StrArr S w' g c xs := by
  obtain ⟨cur, h1, h2⟩ := h
  exact ⟨cur, e.trans h1, h2⟩
theorem StrArr.lt {S : TypeId} {w : World} {g c : Nat} {xs : List ByteArray} (h : StrArr S w g c xs) : g < w.heap.size := by
  obtain ⟨cur, h1, _⟩ := h
  exact (Array.getElem?_eq_some_iff.1 h1).1
theorem StrArr.below {S : TypeId} {w w' : World} {g c : Nat} {xs : List ByteArray} (h : StrArr S w g c xs) (hb : Below w.heap.size w w') : StrArr S w' g c xs := h.block (hb.block _ h.lt)
theorem StrArr.cell {S : TypeId} {w : World} {g c j : Nat} {xs : List ByteArray} {s : ByteArray} (h : StrArr S w g c xs) (hj : xs[j]? = some s) : w.cell? ⟨g, j, none⟩ = some (.string s) := by
  obtain ⟨cur, h1, _, _, _, h5⟩ := h
  rw [cell_of_row _ _ j _ _ (0, 0) h1]
  exact h5 j s hj
theorem StrArr.free {S : TypeId} {w : World} {g c j : Nat} {xs : List ByteArray} (h : StrArr S w g c xs) : w.frozen? ⟨g, j, none⟩ = false := by
  obtain ⟨cur, h1, _⟩ := h
  exact block_free h1 _
theorem StrArr.of_whole {S : TypeId} {w : World} {lo hi : Nat} {A : Option Addr} {n c : Nat} {xs : List ByteArray} (h : SliceR StrR 1 w lo hi A n c xs) (k : Whole w S 1 lo hi A n c) (hn : 0 < n) : ∃ g, A = some ⟨g, 0, none⟩ ∧ lo ≤ g ∧ g < hi ∧ StrArr S w g c xs := by
  rcases k with ⟨h0, _⟩ | ⟨g, cur, rfl, h1, h2, h3, h4, h5, h6⟩
  · omega
  · have hl := h.len
    obtain ⟨b, off, hA, _, _, _, hc⟩ := h.at_ hn
    injection hA with e; injection e with e1 e2; subst e1 e2
    refine ⟨g, rfl, h1, h2, cur, h3, by omega, by omega, h6, fun j s hj => ?_⟩
    obtain ⟨cs, _, hcs, rfl, _⟩ := hc j s hj
    have := hcs 0 _ rfl
    rw [Nat.zero_add, Nat.mul_one, Nat.add_zero, cell_of_row _ _ _ _ _ (0, 0) h3] at this
    exact this
theorem StrArr.whole {S : TypeId} {w : World} {lo hi g c : Nat} {xs : List ByteArray} (h : StrArr S w g c xs) (h1 : lo ≤ g) (h2 : g < hi) : Whole w S 1 lo hi (some ⟨g, 0, none⟩) xs.length c := by
  obtain ⟨cur, k1, k2, k3, k4, k5⟩ := h
  exact .inr ⟨g, cur, rfl, h1, h2, k1, by omega, k3, k4⟩
theorem StrArr.slice {S : TypeId} {w : World} {lo hi g c : Nat} {xs : List ByteArray} (h : StrArr S w g c xs) (h1 : lo ≤ g) (h2 : g < hi) (h3 : hi ≤ w.heap.size) (hs : ∀ s ∈ xs, s.size ≤ maxLen) : SliceR StrR 1 w lo hi (some ⟨g, 0, none⟩) xs.length c xs := by
  obtain ⟨cur, k1, k2, k3, k4, k5⟩ := h
  refine ⟨rfl, k3, Nat.le_trans k3 k4, h3, (fun h => by cases h), fun _ => ⟨g, 0, rfl, h1, h2, fun j x hx => ⟨[.string x], rfl, fun i u hu => ?_, rfl, hs x (List.mem_of_getElem? hx)⟩⟩⟩
  match i, hu with
  | 0, hu =>
    simp at hu; subst hu
    rw [Nat.zero_add, Nat.mul_one, Nat.add_zero, cell_of_row _ _ _ _ _ (0, 0) k1]
    exact k5 j x hx
  | i + 1, hu => simp at hu
theorem StrArr.set {S : TypeId} {w : World} {g c a : Nat} {xs : List ByteArray} {s : ByteArray} (h : StrArr S w g c xs) (ha : a < xs.length) : StrArr S (w.setCell ⟨g, a, none⟩ (.string s)) g c (xs.set a s) := by
  obtain ⟨cur, k1, k2, k3, k4, k5⟩ := h
  refine ⟨cur.setIfInBounds a (.string s), block_set k1, by simpa using k2, by simpa using k3, k4, fun j x hx => ?_⟩
  rw [List.getElem?_set] at hx
  by_cases hj : a = j
  · subst hj
    rw [if_pos rfl, if_pos ha] at hx
    obtain rfl := Option.some.inj hx
    rw [Array.getElem?_setIfInBounds, if_pos rfl, if_pos (by omega)]
  · rw [if_neg hj] at hx
    rw [Array.getElem?_setIfInBounds, if_neg hj]
    exact k5 j x hx
def softStrA (B : Nat) {S T : TypeId} (hST : S ≠ T) (xs : List ByteArray) (f : Value → Value) : MStP (DT B T) Ext := ⟨fun v w => ∃ g c, B ≤ g ∧ v = f (.slice (some ⟨g, 0, none⟩) 64 c) ∧ StrArr S w g c xs, true,
  fun v w w' hs ⟨g, c, hg, e, h⟩ => ⟨g, c, hg, e, h.below hs⟩,
  fun _ v w w' hs ⟨g, c, hg, e, h⟩ => ⟨g, c, hg, e, h.block (hs.2.2 g h.lt (fun cur' => by obtain ⟨cur, h1, _⟩ := h; rw [h1]; intro e; injection e with e; injection e with _ e; exact hST e))⟩⟩
def softBoxT (B : Nat) (T : TypeId) (cur : Array Value) : MStP (DT B T) Ext := ⟨fun v w => ∃ g : Nat, B ≤ g ∧ v = .pointer (some ⟨g, 0, none⟩) ∧ w.heap[g]? = some (.cells cur T (0, 0)), false, fun v w w' hs ⟨g, hB, e, hg⟩ => ⟨g, hB, e, (Below.block hs g (Array.getElem?_eq_some_iff.1 hg).1).trans hg⟩, fun h => by cases h⟩
theorem setT_3 {w : World} {r T : Nat} {v0 v1 v2 x0 x1 x2 : Value} (h : w.heap[r]? = some (.cells #[v0, v1, v2] T (0, 0))) :
    (((w.setCell ⟨r, 0, none⟩ x0).setCell ⟨r, 1, none⟩ x1).setCell ⟨r, 2, none⟩ x2).heap[r]? = some (.cells #[x0, x1, x2] T (0, 0)) := block_set (o := 2) (v := x2) (block_set (o := 1) (v := x1) (block_set (o := 0) (v := x0) h))
def DoneT (B : Nat) (T S : TypeId) (xs : List ByteArray) (gone : Bool) (y : Nat → Value) (w' : World) : Prop :=
  ∃ nb g c : Nat, y 5 = .pointer (some ⟨nb, 0, none⟩) ∧ B ≤ nb ∧ B ≤ g ∧ w'.heap[nb]? = some (.cells #[.slice (some ⟨g, 0, none⟩) 64 c, .slice none 0 0, .bool gone] T (0, 0)) ∧ StrArr S w' g c xs
/-- What the waits leave in the cells. -/
def settleStep (f : Nat → WaitD → ByteArray → ByteArray) (ws : List WaitD) (t : List ByteArray) (i : Nat) : List ByteArray := match ws[i]? with
  | some x => t.set x.1.toNat (f i x (t.getD x.1.toNat ByteArray.empty))
  | none => t
def settleTo (f : Nat → WaitD → ByteArray → ByteArray) (ws : List WaitD) (t : List ByteArray) (k : Nat) : List ByteArray := (List.range k).foldl (settleStep f ws) t
theorem settleTo_succ {f : Nat → WaitD → ByteArray → ByteArray} {ws : List WaitD} {t : List ByteArray} {k : Nat} : settleTo f ws t (k + 1) = settleStep f ws (settleTo f ws t k) k := by simp [settleTo, List.range_succ, List.foldl_append]
theorem settleStep_len {f : Nat → WaitD → ByteArray → ByteArray} {ws : List WaitD} {t : List ByteArray} {k : Nat} : (settleStep f ws t k).length = t.length := by unfold settleStep; split <;> simp
theorem settleTo_len {f : Nat → WaitD → ByteArray → ByteArray} {ws : List WaitD} {t : List ByteArray} {k : Nat} : (settleTo f ws t k).length = t.length := by
  induction k with
  | zero => rfl
  | succ k ih => rw [settleTo_succ, settleStep_len, ih]
def settleD (f : Nat → WaitD → ByteArray → ByteArray) (x : DiskD) : DiskD := (settleTo f x.2.1 x.1 x.2.1.length, [], x.2.2)
theorem settleTo_le {f : Nat → WaitD → ByteArray → ByteArray} {ws : List WaitD} {t : List ByteArray} (hw : ∀ x ∈ ws, x.2.size ≤ 200) (ht : ∀ s ∈ t, s.size ≤ 200) (hf : ∀ i x s, x.2.size ≤ 200 → s.size ≤ 200 → (f i x s).size ≤ 200) (k : Nat) : ∀ s ∈ settleTo f ws t k, s.size ≤ 200 := by
  induction k with
  | zero => exact ht
  | succ k ih =>
    rw [settleTo_succ]
    unfold settleStep
    split
    · rename_i x hx
      intro s hs
      rcases List.mem_or_eq_of_mem_set hs with h | rfl
      · exact ih s h
      · refine hf _ _ _ (hw _ (List.mem_of_getElem? hx)) ?_
        rw [List.getD_eq_getElem?_getD]
        cases hg : (settleTo f ws t k)[x.1.toNat]? with
        | none => simp
        | some v => exact ih v (List.mem_of_getElem? hg)
    · exact ih
end Go.Proofs.Ytfokpjoeankobaa
