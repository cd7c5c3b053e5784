/- What World.setCells leaves of a block. No condition. -/
import Derived.Test.YtfokpjoeankobaaTypes
namespace Go.Proofs.Ytfokpjoeankobaa
set_option linter.unnecessarySimpa false
open Go Go.Lib Go.RowKit
set_option linter.unusedVariables false
set_option linter.unusedSimpArgs false

theorem block_setCells {b T : Nat} : ∀ (vs : List Value) (o : Nat) (w : World) (cur : Array Value), w.heap[b]? = some (.cells cur T (0, 0)) →
    ∃ cur' : Array Value, (w.setCells b o vs).heap[b]? = some (.cells cur' T (0, 0)) ∧ cur'.size = cur.size ∧ ∀ j, cur'[j]? = if o ≤ j ∧ j < o + vs.length ∧ j < cur.size then vs[j - o]? else cur[j]?
  | [], o, w, cur, h => ⟨cur, h, rfl, fun j => by rw [if_neg (by simp; omega)]⟩
  | v :: r, o, w, cur, h => by
    have h1 := block_set (o := o) (v := v) h
    obtain ⟨cur', h2, h3, h4⟩ := block_setCells r (o + 1) (w.setCell ⟨b, o, none⟩ v) _ h1
    refine ⟨cur', by rw [World.setCells]; exact h2, by simpa using h3, fun j => ?_⟩
    rw [h4 j]
    simp only [Array.size_setIfInBounds, List.length_cons]
    by_cases h5 : o + 1 ≤ j ∧ j < o + 1 + r.length ∧ j < cur.size
    · rw [if_pos h5, if_pos (by omega)]
      have e : j - o = (j - (o + 1)) + 1 := by omega
      rw [e, List.getElem?_cons_succ]
    · rw [if_neg h5]
      by_cases h6 : j = o
      · subst h6
        by_cases h7 : j < cur.size
        · rw [if_pos (by omega)]
          simp [h7]
        · rw [if_neg (by omega)]
          simp [h7]
      · rw [if_neg (by omega), Array.getElem?_setIfInBounds_ne (Ne.symm h6)]
theorem Chg.setCells {S : Nat → Prop} {a : World} {b : Nat} (hb : S b ∨ a.heap.size ≤ b) : ∀ (vs : List Value) (o : Nat) (w : World), Chg S a w → Chg S a (w.setCells b o vs)
  | [], o, w, h => h
  | v :: r, o, w, h => by rw [World.setCells]; exact Chg.setCells hb r (o + 1) _ (h.setCell (p := ⟨b, o, none⟩) hb v)
theorem size_zeroI (n : Nat) : (Builtin.zeroCells (Value.int .i64 0).cells n).size = n := by
  rw [size_zeroCells]; simp [Value.cells]
end Go.Proofs.Ytfokpjoeankobaa
