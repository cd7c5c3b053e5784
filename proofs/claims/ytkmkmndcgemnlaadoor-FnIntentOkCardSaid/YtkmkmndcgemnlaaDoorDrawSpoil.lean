/- l91Spoil: a text spoilt by a reader. Condition: at most a million bytes. -/
import Derived.Test.YtkmkmndcgemnlaaDoorDrawPtr
import Derived.Test.YtkmkmndcgemnlaaDoorNum
import Derived.Test.YtkmkmndcgemnlaaDoorRgb
namespace Go.Proofs.YtkmkmndcgemnlaaDoor
set_option linter.unnecessarySimpa false
open Go Go.Lib Go.RowKit
set_option linter.unusedVariables false
set_option linter.unusedSimpArgs false

theorem Chg.drawn {p : Nat} {w : World} : Chg (· ∈ [p]) w (w.drewN 1) := (Chg.refl _ _).drewN 1
def natB (p : Nat) : BStP (Chg (· ∈ [p])) := ⟨fun v _ => ∃ r : Nat, v = .int .i64 (r : Int) ∧ r < 256, fun _ _ _ _ h => h⟩
def byteB (p : Nat) : BStP (Chg (· ∈ [p])) := ⟨fun v _ => ∃ r : Int, v = .int .u8 r, fun _ _ _ _ h => h⟩
def strB1 (p m : Nat) : BStP (Chg (· ∈ [p])) := ⟨fun v _ => ∃ s : ByteArray, v = .string s ∧ s.size ≤ m, fun _ _ _ _ h => h⟩
def litB1 (p : Nat) : BStP (Chg (· ∈ [p])) := ⟨fun v w => ∃ (d : Int) (g : Nat), g ≠ p ∧ v = .slice (some ⟨g, 0, none⟩) 1 1 ∧ w.heap[g]? = some (.cells #[.int .u8 d] 5 (0, 0)), fun v w w' hs ⟨d, g, hp, e, hg⟩ => ⟨d, g, hp, e, (hs.block g (Array.getElem?_eq_some_iff.1 hg).1 (by simpa using hp)).trans hg⟩⟩
theorem lit_val {Q : Value → Prop} {W W' : World} {p b r : Nat} {t : TypeId} {cur : Array Value} (hL : ∀ i, i < cur.size → ∃ v, cur[i]? = some v ∧ Q v) (hc : Chg (· ∈ [p]) (W.alloc (.cells cur t)) W') (hb : b = W.heap.size) (hp : p < W.heap.size) (hr : r < cur.size) : ∃ v, W'.cell? ⟨b, r, none⟩ = some v ∧ Q v := by
  obtain ⟨x, hx, hq⟩ := hL r hr
  subst hb
  refine ⟨x, (World.cell?_of_block (hc.block W.heap.size (by simp) (by simp; omega))).trans ?_, hq⟩
  simp [go_sem, hx]
theorem ext_size {s : ByteArray} {a b : Nat} (h : b ≤ s.size) (hab : a ≤ b) : (s.extract a b).size = b - a := by
  rw [ByteArray.size_extract]; omega
end Go.Proofs.YtkmkmndcgemnlaaDoor
