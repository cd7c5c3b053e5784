/- Drawn pointers: l91Row, PtrOf, l91Ptr. No condition. -/
import Derived.Test.YtggdjiklgakfnaaGreatDoorDrawText
import Derived.Test.YtggdjiklgakfnaaGreatDoorPtr
import Derived.Test.YtggdjiklgakfnaaGreatDoorNum
namespace Go.Proofs.YtggdjiklgakfnaaGreatDoor
set_option linter.unnecessarySimpa false
open Go.RowKit
set_option linter.unusedVariables false
set_option linter.unusedSimpArgs false

/-- All cells of an array are ints. -/
def LitInts (cur : Array Value) : Prop := ∀ i, i < cur.size → ∃ x : Int, cur[i]? = some (.int .i64 x)
theorem litInts (xs : List Int) : LitInts (xs.map (Value.int .i64)).toArray := by
  intro i hi
  have h : i < xs.length := by simpa using hi
  exact ⟨xs[i], by simp [h]⟩
theorem lit_int {W W' : World} {p b r : Nat} {t : TypeId} {cur : Array Value} (hL : LitInts cur) (hc : Chg (· ∈ [p]) (W.alloc (.cells cur t)) W') (hb : b = W.heap.size) (hp : p < W.heap.size) (hr : r < cur.size) : ∃ x : Int, W'.cell? ⟨b, r, none⟩ = some (.int .i64 x) := by
  obtain ⟨x, hx⟩ := hL r hr
  subst hb
  refine ⟨x, (World.cell?_of_block (hc.block W.heap.size (by simp) (by simp; omega))).trans ?_⟩
  simp [go_sem, hx]
theorem Rd.set {w0 w' : World} {p : Nat} {A : Option Addr} {n c : Nat} {zs : List Int} {k k0 : Nat} (h0 : Rd w0 p A n c zs k0) (h : Rd w' p A n c zs k) {a : Addr} (hb : w0.heap.size ≤ a.block) (v : Value) : Rd (w'.setCell a v) p A n c zs k :=
  h.keep (by simp [World.setCell]) fun b _ hbp => heap_far (by
    rcases hbp with rfl | ⟨hn, off, hA⟩
    · have := h0.2.2.2.1; omega
    · have := h0.old hn hA; omega)
/-- A number drawn. -/
def PickedAny (d : Nat) (w : World) (p : Nat) (A : Option Addr) (n c : Nat) (zs : List Int) (k : Nat) (e : Ending) (w' : World) : Prop :=
  ∃ (x : Int) (k' : Nat), e = .returned (.int .i64 x) ∧ k' ≤ k + d ∧ Rd w' p A n c zs k' ∧ Chg (· ∈ [p]) w w'
theorem set_5 {w : World} {r T : Nat} {v0 v1 v2 v3 v4 x0 x1 x2 x3 x4 : Value} (h : w.heap[r]? = some (.cells #[v0, v1, v2, v3, v4] T (0, 0))) :
    (((((w.setCell ⟨r, 0, none⟩ x0).setCell ⟨r, 1, none⟩ x1).setCell ⟨r, 2, none⟩ x2).setCell ⟨r, 3, none⟩ x3).setCell ⟨r, 4, none⟩ x4).heap[r]? = some (.cells #[x0, x1, x2, x3, x4] T (0, 0)) := by
  have h1 : (w.setCell ⟨r, 0, none⟩ x0).heap[r]? = some (.cells #[x0, v1, v2, v3, v4] T (0, 0)) := block_set (o := 0) (v := x0) h
  have h2 : ((w.setCell ⟨r, 0, none⟩ x0).setCell ⟨r, 1, none⟩ x1).heap[r]? = some (.cells #[x0, x1, v2, v3, v4] T (0, 0)) := block_set (o := 1) (v := x1) h1
  have h3 : (((w.setCell ⟨r, 0, none⟩ x0).setCell ⟨r, 1, none⟩ x1).setCell ⟨r, 2, none⟩ x2).heap[r]? = some (.cells #[x0, x1, x2, v3, v4] T (0, 0)) := block_set (o := 2) (v := x2) h2
  have h4 : ((((w.setCell ⟨r, 0, none⟩ x0).setCell ⟨r, 1, none⟩ x1).setCell ⟨r, 2, none⟩ x2).setCell ⟨r, 3, none⟩ x3).heap[r]? = some (.cells #[x0, x1, x2, x3, v4] T (0, 0)) := block_set (o := 3) (v := x3) h3
  have h5 : (((((w.setCell ⟨r, 0, none⟩ x0).setCell ⟨r, 1, none⟩ x1).setCell ⟨r, 2, none⟩ x2).setCell ⟨r, 3, none⟩ x3).setCell ⟨r, 4, none⟩ x4).heap[r]? = some (.cells #[x0, x1, x2, x3, x4] T (0, 0)) := block_set (o := 4) (v := x4) h4
  exact h5
def GotPtrOf (w : World) (e : Ending) (w' : World) : Prop := ∃ (a b s m l : Int) (ok : Bool), e = .returned (.tuple #[.agg #[.int .i64 a, .int .i64 b, .int .i64 s, .int .i64 m, .int .i64 l], .bool ok]) ∧ Below w.heap.size w w'
/-- A pointer drawn. -/
def PickedPtr (w : World) (p : Nat) (A : Option Addr) (n c : Nat) (zs : List Int) (k : Nat) (e : Ending) (w' : World) : Prop :=
  ∃ (a b s m l : Int) (k' : Nat), e = .returned (.agg #[.int .i64 a, .int .i64 b, .int .i64 s, .int .i64 m, .int .i64 l]) ∧ k' ≤ k + 30 ∧ Rd w' p A n c zs k' ∧ Chg (· ∈ [p]) w w'
end Go.Proofs.YtggdjiklgakfnaaGreatDoor
