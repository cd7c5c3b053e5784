/- NumGet both; the reference's reading of a numeral. Condition: the variables that the library reads lie as the row says. -/
import Derived.Test.YtlacpcdbgimnmaaDoorRecs
import Derived.Test.YtlacpcdbgimnmaaDoorNum
namespace Go.Proofs.YtlacpcdbgimnmaaDoor
set_option linter.unusedVariables false
set_option linter.unusedSimpArgs false
set_option linter.unnecessarySimpa false
open Go Go.Lib Go.RowKit

/-- What the library's functions read: the table of powers of ten, an error, a length. -/
def Env (w : World) : Prop := Tab w ∧ (∃ tp p, w.var? Tryd.prog "strconv.ErrSyntax" = some #[.iface tp p]) ∧ ∃ m : Int, w.cell? ⟨1, 0, none⟩ = some (.int .i64 m)
theorem var_below {w w' : World} {v : String} {x : Array Value} (h : w.var? Tryd.prog v = some x) (hb : Below w.heap.size w w') : w'.var? Tryd.prog v = some x := by
  unfold World.var? at *
  cases hg : Tryd.prog.globalNamed v with
  | none => simp [hg] at h
  | some g =>
    simp only [hg, Option.bind_some] at h ⊢
    have hlt : g < w.heap.size := by
      rcases Nat.lt_or_ge g w.heap.size with h' | h'
      · exact h'
      · rw [Array.getElem?_eq_none h'] at h; simp at h
    rw [hb.block g hlt]
    exact h
theorem Env.below {w w' : World} (h : Env w) (hb : Below w.heap.size w w') : Env w' := by
  obtain ⟨h1, ⟨tp, p, h2⟩, m, h3⟩ := h
  exact ⟨h1.below hb, ⟨tp, p, var_below h2 hb⟩, m, (hb.cell (World.block_lt_of_cell? _ _ h3)).trans h3⟩
theorem Env.tab {w : World} (h : Env w) : Tab w := h.1
theorem bytesWorld_bel (w : World) (e : TypeId) (s : ByteArray) : Below w.heap.size w (Lib.bytesWorld w e s) := by
  exact ⟨rfl, rfl, rfl, by rw [Lib.bytesWorld_size]; omega, fun k hk => Lib.bytesWorld_at_old w e s k hk⟩
def GotNum (s : Str) (w : World) (e : Ending) (w' : World) : Prop := e = .returned (.tuple #[.int .i64 (((numGet s).getD 0 : Nat) : Int), .bool (numGet s).isSome]) ∧ Below w.heap.size w w'
theorem GotNum.no {s : Str} {w w' : World} (h : numGet s = none) (hb : Below w.heap.size w w') : GotNum s w (.returned (.tuple #[.int .i64 0, .bool false])) w' := ⟨by rw [h]; rfl, hb⟩
theorem GotNum.yes {s : Str} {n : Nat} {w w' : World} (h : numGet s = some n) (hb : Below w.heap.size w w') : GotNum s w (.returned (.tuple #[.int .i64 (n : Int), .bool true])) w' := ⟨by rw [h]; rfl, hb⟩
theorem str_get2 {s : Str} {j : Nat} (h : j < (strB s).size) : ∃ (c : UInt8) (x : Nat), s[j]? = some c ∧ x = c.toNat ∧ x < 256 ∧ ((strB s)[j]'h).toNat = x := by
  obtain ⟨c, x, h1, h2, h3, h4⟩ := str_get h
  have e : (strB s).data.toList = s := by simp [strB]
  rw [e] at h1
  exact ⟨c, x, h1, h2, h3, h4⟩
end Go.Proofs.YtlacpcdbgimnmaaDoor
