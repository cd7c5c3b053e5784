/- Copies of slices in new memory: how they read. No condition. -/
import Derived.Test.YtlacpcdbgimnmaaGreatDoorRLib
import Derived.OpenShut
import Derived.Lib.SmallJoins
import Derived.Deep.Slices
import Derived.Laws.MakeOwn
import Derived.Test.YtlacpcdbgimnmaaGreatDoorChecked
set_option linter.unnecessarySimpa false
set_option linter.unusedSimpArgs false
set_option linter.unusedVariables false
namespace Go.Proofs.YtlacpcdbgimnmaaGreatDoor
section
open Go.RowKit
def Same (lo hi : Nat) (w w' : World) : Prop := ∀ k, lo ≤ k → k < hi → w'.heap[k]? = w.heap[k]?
theorem Same.of_below {lo hi B : Nat} {w w' : World} (h : Below B w w') (hB : hi ≤ B) : Same lo hi w w' := fun k _ h2 => h.block k (by omega)
theorem Same.cell {lo hi : Nat} {w w' : World} (h : Same lo hi w w') {p : Addr} (h1 : lo ≤ p.block) (h2 : p.block < hi) : w'.cell? p = w.cell? p :=
 World.cell?_of_block (h _ h1 h2)
abbrev Reads (α : Type) := World → Nat → Nat → List Value → α → Prop
def SliceR {α : Type} (R : Reads α) (sz : Nat) (w : World) (lo hi : Nat) (A : Option Addr) (n c : Nat) (xs : List α) : Prop :=
 xs.length = n ∧ n ≤ c ∧ n ≤ maxLen ∧ hi ≤ w.heap.size ∧ (A = none → c = 0) ∧
 (0 < n → ∃ b off, A = some ⟨b, off, none⟩ ∧ lo ≤ b ∧ b < hi ∧
   ∀ j x, xs[j]? = some x → ∃ cs, cs.length = sz ∧ (∀ i v, cs[i]? = some v → w.cell? ⟨b, off + j * sz + i, none⟩ = some v) ∧ R w lo hi cs x)
theorem SliceR.keep {α : Type} {R : Reads α} {sz : Nat} {w w' : World} {lo hi : Nat} {A : Option Addr} {n c : Nat} {xs : List α}
 (h : SliceR R sz w lo hi A n c xs) (hs : Same lo hi w w') (hz : w.heap.size ≤ w'.heap.size) (hR : ∀ cs x, R w lo hi cs x → R w' lo hi cs x) : SliceR R sz w' lo hi A n c xs := by
 obtain ⟨h1, h2, h3, h4, h5, h6⟩ := h
 refine ⟨h1, h2, h3, by omega, h5, fun hn => ?_⟩
 obtain ⟨b, off, hA, hlo, hhi, hc⟩ := h6 hn
 refine ⟨b, off, hA, hlo, hhi, fun j x hx => ?_⟩
 obtain ⟨cs, hl, hcs, hr⟩ := hc j x hx
 exact ⟨cs, hl, fun i v hv => (hs.cell (p := ⟨b, _, none⟩) hlo hhi).trans (hcs i v hv), hR cs x hr⟩
theorem SliceR.len {α : Type} {R : Reads α} {sz : Nat} {w : World} {lo hi : Nat} {A : Option Addr} {n c : Nat} {xs : List α} (h : SliceR R sz w lo hi A n c xs) : xs.length = n := h.1
theorem SliceR.max {α : Type} {R : Reads α} {sz : Nat} {w : World} {lo hi : Nat} {A : Option Addr} {n c : Nat} {xs : List α} (h : SliceR R sz w lo hi A n c xs) : n ≤ 9223372036854775807 := by
 have := h.2.2.1; unfold maxLen at this; omega
theorem SliceR.lo_le {α : Type} {R : Reads α} {sz : Nat} {w : World} {lo hi : Nat} {A : Option Addr} {n c : Nat} {xs : List α} (h : SliceR R sz w lo hi A n c xs) : hi ≤ w.heap.size := h.2.2.2.1
theorem SliceR.at_ {α : Type} {R : Reads α} {sz : Nat} {w : World} {lo hi : Nat} {A : Option Addr} {n c : Nat} {xs : List α} (h : SliceR R sz w lo hi A n c xs) (hn : 0 < n) :
 ∃ b off, A = some ⟨b, off, none⟩ ∧ lo ≤ b ∧ b < hi ∧ b < w.heap.size ∧
  ∀ j x, xs[j]? = some x → ∃ cs, cs.length = sz ∧ (∀ i v, cs[i]? = some v → w.cell? ⟨b, off + j * sz + i, none⟩ = some v) ∧ R w lo hi cs x := by
 obtain ⟨b, off, h1, h2, h3, h4⟩ := h.2.2.2.2.2 hn
 exact ⟨b, off, h1, h2, h3, by have := h.2.2.2.1; omega, h4⟩
theorem SliceR.below {α : Type} {R : Reads α} {sz : Nat} {w w' : World} {lo hi : Nat} {A : Option Addr} {n c : Nat} {xs : List α}
 (h : SliceR R sz w lo hi A n c xs) (hb : Below w.heap.size w w') (hR : ∀ cs x, R w lo hi cs x → R w' lo hi cs x) : SliceR R sz w' lo hi A n c xs :=
 h.keep (Same.of_below hb h.lo_le) hb.size hR
theorem heap_far {w : World} {p : Addr} {v : Value} {k : Nat} (h : k ≠ p.block) : (w.setCell p v).heap[k]? = w.heap[k]? := Below.heap_setCell w p v k h
theorem block_set {w : World} {g o t : Nat} {cur : Array Value} {v : Value} (h : w.heap[g]? = some (.cells cur t (0, 0))) : (w.setCell ⟨g, o, none⟩ v).heap[g]? = some (.cells (cur.setIfInBounds o v) t (0, 0)) := by
 simp [World.setCell, Array.getElem?_modify, h]
theorem block_cell {w : World} {g o t : Nat} {cur : Array Value} (h : w.heap[g]? = some (.cells cur t (0, 0))) (ho : o < cur.size) : w.cell? ⟨g, o, none⟩ = some (cur[o]'ho) :=
 (cell_of_row w g o cur _ (0, 0) h).trans (Array.getElem?_eq_getElem ho)
theorem block_free {w : World} {g t : Nat} {cur : Array Value} (h : w.heap[g]? = some (.cells cur t (0, 0))) (o : Nat) : w.frozen? ⟨g, o, none⟩ = false := by
 simp [World.frozen?, h]
theorem sum_take {α : Type} (f : α → Nat) {xs : List α} {k : Nat} {x : α} (h : xs[k]? = some x) : ((xs.take (k + 1)).map f).sum = ((xs.take k).map f).sum + f x := by
 obtain ⟨hk, rfl⟩ := List.getElem?_eq_some_iff.1 h
 rw [List.take_succ_eq_append_getElem hk, List.map_append, List.sum_append]
 simp
theorem bel1 {w : World} {o : Obj} : Below w.heap.size w (w.alloc o) := (Below.refl _ _).alloc (Nat.le_refl _) _
theorem bel2 {w : World} {o o' : Obj} : Below w.heap.size w ((w.alloc o).alloc o') := bel1.alloc (by simp) _
section open_
variable {H : Type} {enc : TypeId × Value → H} {P : Program} {w : World} {base : Nat} {spare : Nat → Bool} {held : Bool}
end open_
end
section
open Go.RowKit
theorem list5 {α : Type} {l : List α} (h : l.length = 5) : ∃ a0 a1 a2 a3 a4, l = [a0, a1, a2, a3, a4] := by
 match l, h with
 | [a0, a1, a2, a3, a4], _ => exact ⟨a0, a1, a2, a3, a4, rfl⟩
theorem list11 {α : Type} {l : List α} (h : l.length = 11) : ∃ a0 a1 a2 a3 a4 a5 a6 a7 a8 a9 a10, l = [a0, a1, a2, a3, a4, a5, a6, a7, a8, a9, a10] := by
 match l, h with
 | [a0, a1, a2, a3, a4, a5, a6, a7, a8, a9, a10], _ => exact ⟨a0, a1, a2, a3, a4, a5, a6, a7, a8, a9, a10, rfl⟩
theorem list12 {α : Type} {l : List α} (h : l.length = 12) : ∃ a0 a1 a2 a3 a4 a5 a6 a7 a8 a9 a10 a11, l = [a0, a1, a2, a3, a4, a5, a6, a7, a8, a9, a10, a11] := by
 match l, h with
 | [a0, a1, a2, a3, a4, a5, a6, a7, a8, a9, a10, a11], _ => exact ⟨a0, a1, a2, a3, a4, a5, a6, a7, a8, a9, a10, a11, rfl⟩
abbrev PtrD := Int × Int × Int × Int × Int
def PtrR : Reads PtrD := fun w lo hi cs x => cs = [.int .i64 x.1, .int .i64 x.2.1, .int .i64 x.2.2.1, .int .i64 x.2.2.2.1, .int .i64 x.2.2.2.2]
theorem PtrR.keep {w w' : World} {lo hi : Nat} (hs : Same lo hi w w') (hz : w.heap.size ≤ w'.heap.size) (cs : List Value) (x : PtrD) (h : PtrR w lo hi cs x) : PtrR w' lo hi cs x := by
 exact h
theorem PtrR.below {w w' : World} {lo hi : Nat} (hb : Below w.heap.size w w') (hhi : hi ≤ w.heap.size) (cs : List Value) (x : PtrD) (h : PtrR w lo hi cs x) : PtrR w' lo hi cs x := PtrR.keep (Same.of_below hb hhi) hb.size cs x h
abbrev TreeD := PtrD × Int × Int
def TreeR : Reads TreeD := fun w lo hi cs x => cs = [.int .i64 x.1.1, .int .i64 x.1.2.1, .int .i64 x.1.2.2.1, .int .i64 x.1.2.2.2.1, .int .i64 x.1.2.2.2.2, .int .i64 x.2.1, .int .i64 x.2.2]
abbrev HeadD := ByteArray × Int × TreeD × (List PtrD) × Int
def HeadR : Reads HeadD := fun w lo hi cs x => ∃ (A0 : Option Addr) (n0 c0 : Nat), cs = [.string x.1, .int .i64 x.2.1, .int .i64 x.2.2.1.1.1, .int .i64 x.2.2.1.1.2.1, .int .i64 x.2.2.1.1.2.2.1, .int .i64 x.2.2.1.1.2.2.2.1, .int .i64 x.2.2.1.1.2.2.2.2, .int .i64 x.2.2.1.2.1, .int .i64 x.2.2.1.2.2, .slice A0 n0 c0, .int .i64 x.2.2.2.2] ∧ x.1.size ≤ maxLen ∧ SliceR PtrR 5 w lo hi A0 n0 c0 x.2.2.2.1
theorem HeadR.keep {w w' : World} {lo hi : Nat} (hs : Same lo hi w w') (hz : w.heap.size ≤ w'.heap.size) (cs : List Value) (x : HeadD) (h : HeadR w lo hi cs x) : HeadR w' lo hi cs x := by
 obtain ⟨A0, n0, c0, rfl, h0, h1⟩ := h
 exact ⟨A0, n0, c0, rfl, h0, h1.keep hs hz (PtrR.keep hs hz)⟩
theorem HeadR.below {w w' : World} {lo hi : Nat} (hb : Below w.heap.size w w') (hhi : hi ≤ w.heap.size) (cs : List Value) (x : HeadD) (h : HeadR w lo hi cs x) : HeadR w' lo hi cs x := HeadR.keep (Same.of_below hb hhi) hb.size cs x h
abbrev SnapD := Int × ByteArray × Int × Int × TreeD × (List PtrD)
def SnapR : Reads SnapD := fun w lo hi cs x => ∃ (A0 : Option Addr) (n0 c0 : Nat), cs = [.int .i64 x.1, .string x.2.1, .int .i64 x.2.2.1, .int .i64 x.2.2.2.1, .int .i64 x.2.2.2.2.1.1.1, .int .i64 x.2.2.2.2.1.1.2.1, .int .i64 x.2.2.2.2.1.1.2.2.1, .int .i64 x.2.2.2.2.1.1.2.2.2.1, .int .i64 x.2.2.2.2.1.1.2.2.2.2, .int .i64 x.2.2.2.2.1.2.1, .int .i64 x.2.2.2.2.1.2.2, .slice A0 n0 c0] ∧ x.2.1.size ≤ maxLen ∧ SliceR PtrR 5 w lo hi A0 n0 c0 x.2.2.2.2.2
theorem SnapR.keep {w w' : World} {lo hi : Nat} (hs : Same lo hi w w') (hz : w.heap.size ≤ w'.heap.size) (cs : List Value) (x : SnapD) (h : SnapR w lo hi cs x) : SnapR w' lo hi cs x := by
 obtain ⟨A0, n0, c0, rfl, h0, h1⟩ := h
 exact ⟨A0, n0, c0, rfl, h0, h1.keep hs hz (PtrR.keep hs hz)⟩
theorem SnapR.below {w w' : World} {lo hi : Nat} (hb : Below w.heap.size w w') (hhi : hi ≤ w.heap.size) (cs : List Value) (x : SnapD) (h : SnapR w lo hi cs x) : SnapR w' lo hi cs x := SnapR.keep (Same.of_below hb hhi) hb.size cs x h
abbrev MetaD := (List HeadD) × (List SnapD) × Int × Bool
def MetaR : Reads MetaD := fun w lo hi cs x => ∃ (A0 : Option Addr) (n0 c0 : Nat) (A1 : Option Addr) (n1 c1 : Nat), cs = [.slice A0 n0 c0, .slice A1 n1 c1, .int .i64 x.2.2.1, .bool x.2.2.2] ∧ SliceR HeadR 11 w lo hi A0 n0 c0 x.1 ∧ SliceR SnapR 12 w lo hi A1 n1 c1 x.2.1
theorem MetaR.keep {w w' : World} {lo hi : Nat} (hs : Same lo hi w w') (hz : w.heap.size ≤ w'.heap.size) (cs : List Value) (x : MetaD) (h : MetaR w lo hi cs x) : MetaR w' lo hi cs x := by
 obtain ⟨A0, n0, c0, A1, n1, c1, rfl, h0, h1⟩ := h
 exact ⟨A0, n0, c0, A1, n1, c1, rfl, h0.keep hs hz (HeadR.keep hs hz), h1.keep hs hz (SnapR.keep hs hz)⟩
theorem MetaR.below {w w' : World} {lo hi : Nat} (hb : Below w.heap.size w w') (hhi : hi ≤ w.heap.size) (cs : List Value) (x : MetaD) (h : MetaR w lo hi cs x) : MetaR w' lo hi cs x := MetaR.keep (Same.of_below hb hhi) hb.size cs x h
end
section
open Go.RowKit
end
section
open Go.RowKit
end
section
open Go.RowKit
end
section
open Go.RowKit
def Whole (w : World) (t : TypeId) (sz lo hi : Nat) (A : Option Addr) (n c : Nat) : Prop :=
 (n = 0 ∧ c = 0) ∨ ∃ g cur, A = some ⟨g, 0, none⟩ ∧ lo ≤ g ∧ g < hi ∧ w.heap[g]? = some (.cells cur t (0, 0)) ∧ cur.size = c * sz ∧ n ≤ c ∧ c ≤ maxLen
theorem Whole.pos {w : World} {t : TypeId} {sz lo hi : Nat} {A : Option Addr} {n c : Nat} (h : Whole w t sz lo hi A n c) (hn : 0 < n) : 0 < c := by
 rcases h with h | ⟨_, _, _, _, _, _, _, h, _⟩ <;> omega
def blkOf (A : Option Addr) (b : Nat) : Prop := ∃ off, A = some ⟨b, off, none⟩
theorem blkOf_iff {g off b : Nat} : blkOf (some ⟨g, off, none⟩) b ↔ b = g := by
 constructor
 · rintro ⟨o, h⟩; injection h with e; injection e with e1; exact e1.symm
 rintro rfl; exact ⟨_, rfl⟩
def mdig : Nat → Nat → List UInt8 → List UInt8
 | 0, _, out => out
 | f + 1, k, out => if k = 0 then out else mdig f (k / 10) (UInt8.ofNat (48 + k % 10) :: out)
def mtext (k : Int) : ByteArray := if k ≤ 0 then ⟨#[109, 48]⟩ else ⟨(109 :: mdig k.toNat k.toNat []).toArray⟩
def mkv (k : Int) : Value → Value
 | .int kd _ => .int kd k
 | .string _ => .string (mtext k)
 | .bool _ => .bool (k.tmod 3 == 0)
 | v => v
def HasMarks (K : List Value) (k : Int) (m : Nat) (cur : Array Value) : Prop := ∀ j, j < m → cur[j]? = some (mkv (k + j) (K.getD (j % K.length) undef))
theorem HasMarks.zero (K : List Value) (k : Int) (cur : Array Value) : HasMarks K k 0 cur := fun j hj => absurd hj (by omega)
theorem HasMarks.step {K : List Value} {k : Int} {m : Nat} {cur : Array Value} {v : Value} (h : HasMarks K k m cur) (hm : m < cur.size) (hv : v = mkv (k + m) (K.getD (m % K.length) undef)) : HasMarks K k (m + 1) (cur.setIfInBounds m v) := by
 intro j hj
 rw [Array.getElem?_setIfInBounds]
 by_cases hjm : m = j
 · subst hjm; rw [if_pos rfl, if_pos hm, hv]
 rw [if_neg hjm]; exact h j (by omega)
def MarkedAt (w : World) (K : List Value) (k : Int) (A : Option Addr) (m : Nat) : Prop := 0 < m → ∃ b off, A = some ⟨b, off, none⟩ ∧ b < w.heap.size ∧ ∀ j, j < m → w.cell? ⟨b, off + j, none⟩ = some (mkv (k + j) (K.getD (j % K.length) undef))
theorem MarkedAt.keep {w w' : World} {K : List Value} {k : Int} {A : Option Addr} {m : Nat} (h : MarkedAt w K k A m) (hz : w.heap.size ≤ w'.heap.size) (hk : ∀ b, blkOf A b → b < w.heap.size → w'.heap[b]? = w.heap[b]?) : MarkedAt w' K k A m := by
 intro hm
 obtain ⟨b, off, hA, hb, hc⟩ := h hm
 exact ⟨b, off, hA, by omega, fun j hj => (World.cell?_of_block (hk b ⟨off, hA⟩ hb)).trans (hc j hj)⟩
theorem MarkedAt.below {w w' : World} {K : List Value} {k : Int} {A : Option Addr} {m : Nat} (h : MarkedAt w K k A m) (hb : Below w.heap.size w w') : MarkedAt w' K k A m := h.keep hb.size fun b _ hlt => hb.block b hlt
theorem HasMarks.at_ {w : World} {K : List Value} {k : Int} {m g t : Nat} {cur : Array Value} (h : HasMarks K k m cur) (hg : w.heap[g]? = some (.cells cur t (0, 0))) : MarkedAt w K k (some ⟨g, 0, none⟩) m :=
 fun _ => ⟨g, 0, rfl, (Array.getElem?_eq_some_iff.1 hg).1, fun j hj => by rw [Nat.zero_add, cell_of_row _ _ j _ _ (0, 0) hg]; exact h j hj⟩
end
section
open Go.RowKit
def inB (n lo hi : Int) : Bool := decide (lo ≤ n ∧ n ≤ hi)
theorem inB_yes {n lo hi : Int} (h : lo ≤ n ∧ n ≤ hi) : inB n lo hi = true := by unfold inB; simpa using h
theorem inB_no {n lo hi : Int} (h : ¬ (lo ≤ n ∧ n ≤ hi)) : inB n lo hi = false := by unfold inB; simpa using h
set_option maxHeartbeats 400000 in
theorem within_any (n lo hi : Int) (w : World) :
 Calls Tryz.prog 41 #[.int .i64 n, .int .i64 lo, .int .i64 hi] w fun e w' => e = .returned (.bool (inB n lo hi)) ∧ w = w' := by
 by_cases h1 : lo ≤ n
 · have hf := Lib.hid (show inB n lo hi = decide (n ≤ hi) by unfold inB; simp [h1])
   go_enter Tryz.func41, Tryz.ntmps41
   go_wp2
   go_ret
   exact ⟨ret_bool hf.out.symm, rfl⟩
 have hf := Lib.hid (show inB n lo hi = false by unfold inB; simp [h1])
 go_enter Tryz.func41, Tryz.ntmps41
 go_wp2
 go_ret
 exact ⟨ret_bool hf.out.symm, rfl⟩
set_option maxHeartbeats 400000 in
theorem l6In_any (n lo hi : Int) (w : World) :
 Calls Tryz.prog 31 #[.int .i64 n, .int .i64 lo, .int .i64 hi] w fun e w' => e = .returned (.bool (inB n lo hi)) ∧ w = w' := by
 by_cases h1 : lo ≤ n
 · have hf := Lib.hid (show inB n lo hi = decide (n ≤ hi) by unfold inB; simp [h1])
   go_enter Tryz.func31, Tryz.ntmps31
   go_wp2
   go_ret
   exact ⟨ret_bool hf.out.symm, rfl⟩
 have hf := Lib.hid (show inB n lo hi = false by unfold inB; simp [h1])
 go_enter Tryz.func31, Tryz.ntmps31
 go_wp2
 go_ret
 exact ⟨ret_bool hf.out.symm, rfl⟩
set_option maxHeartbeats 400000 in
theorem isRow_any (n : Int) (w : World) :
 Calls Tryz.prog 99 #[.int .i64 n] w fun e w' => e = .returned (.bool (inB n 8 63)) ∧ w = w' := by
 go_enter Tryz.func99, Tryz.ntmps99
 go_wp2_with (go_at_call 41; refine (within_any _ _ _ _).mono ?_; rintro e w' ⟨rfl, rfl⟩)
 go_ret
 exact ⟨rfl, rfl⟩
set_option maxHeartbeats 400000 in
theorem l2Row_any (n : Int) (w : World) :
 Calls Tryz.prog 68 #[.int .i64 n] w fun e w' => e = .returned (.bool (inB n 8 63)) ∧ w = w' := by
 go_enter Tryz.func68, Tryz.ntmps68
 go_wp2_with (go_at_call 31; refine (l6In_any _ _ _ _).mono ?_; rintro e w' ⟨rfl, rfl⟩)
 go_ret
 exact ⟨rfl, rfl⟩
end
section
open Go.RowKit
def RowV {α : Type} (P : List Value → α → Prop) (sz : Nat) (vs : List Value) (xs : List α) : Prop := ∀ j x, xs[j]? = some x → ∃ cs, cs.length = sz ∧ (∀ i v, cs[i]? = some v → vs[j * sz + i]? = some v) ∧ P cs x
theorem RowV.nil {α : Type} (P : List Value → α → Prop) (sz : Nat) : RowV P sz [] [] := fun j x h => by simp at h
theorem RowV.append {α : Type} {P : List Value → α → Prop} {sz : Nat} {vs us : List Value} {xs ys : List α} (h : RowV P sz vs xs) (k : RowV P sz us ys) (hl : vs.length = xs.length * sz) : RowV P sz (vs ++ us) (xs ++ ys) := by
 intro j x hx
 rcases Nat.lt_or_ge j xs.length with hj | hj
 · rw [List.getElem?_append_left hj] at hx
   obtain ⟨cs, h1, h2, h3⟩ := h j x hx
   refine ⟨cs, h1, fun i v hv => ?_, h3⟩
   have := h2 i v hv
   rw [List.getElem?_append_left (List.getElem?_eq_some_iff.1 this).1]
   exact this
 rw [List.getElem?_append_right hj] at hx
 obtain ⟨cs, h1, h2, h3⟩ := k _ x hx
 refine ⟨cs, h1, fun i v hv => ?_, h3⟩
 have := h2 i v hv
 have hm : xs.length * sz ≤ j * sz := Nat.mul_le_mul_right _ hj
 rw [List.getElem?_append_right (by omega), hl, show j * sz + i - xs.length * sz = (j - xs.length) * sz + i by rw [Nat.sub_mul]; omega]
 exact this
theorem RowV.one {α : Type} {P : List Value → α → Prop} {sz : Nat} {cs : List Value} {x : α} (hl : cs.length = sz) (h : P cs x) : RowV P sz cs [x] := by
 intro j y hy
 match j, hy with
 | 0, hy => simp at hy; subst hy; exact ⟨cs, hl, fun i v hv => by simpa using hv, h⟩
 | j + 1, hy => simp at hy
theorem OwnA.slice {α : Type} {R : Reads α} {sz : Nat} {w : World} {t lo hi : Nat} {S : List Nat} {A : Option Addr} {n c : Nat} {vs : List Value} {xs : List α} (h : OwnA w t sz S A n c vs) (hn : xs.length = n) (hv : RowV (R w lo hi) sz vs xs) (hS : ∀ g ∈ S, lo ≤ g ∧ g < hi) (hhi : hi ≤ w.heap.size) :
 SliceR R sz w lo hi A n c xs ∧ Whole w t sz lo hi A n c := by
 refine ⟨⟨hn, h.le, Nat.le_trans h.le h.cap, hhi, fun hA => (h.none_ hA).2, fun hp => ?_⟩, ?_⟩
 · rcases h.1 with ⟨_, h0, _⟩ | ⟨g, cur, rfl, rfl, hl, hnc, hcm, hg, hcs, hcc⟩
   · omega
   obtain ⟨h1, h2⟩ := hS g (by simp)
   refine ⟨g, 0, rfl, h1, h2, fun j x hx => ?_⟩
   obtain ⟨cs, hcl, hc, hr⟩ := hv j x hx
   refine ⟨cs, hcl, fun i v hv' => ?_, hr⟩
   have e := hc i v hv'
   have hlt := (List.getElem?_eq_some_iff.1 e).1
   rw [Nat.zero_add, cell_of_row _ _ _ _ _ (0, 0) hg, hcc _ (by omega), e]
 rcases h.1 with ⟨h00, h0, _⟩ | ⟨g, cur, rfl, rfl, hl, hnc, hcm, hg, hcs, hcc⟩
 · exact .inl ⟨h0, h.2 h00⟩
 obtain ⟨h1, h2⟩ := hS g (by simp)
 exact .inr ⟨g, cur, rfl, h1, h2, hg, hcs, hnc, hcm⟩
def Shape (q t m : Nat) (w : World) : Prop := ∃ cur, w.heap[q]? = some (.cells cur t (0, 0)) ∧ cur.size = m
theorem Shape.lt {q t m : Nat} {w : World} (h : Shape q t m w) : q < w.heap.size := by obtain ⟨cur, h, _⟩ := h; exact (Array.getElem?_eq_some_iff.1 h).1
theorem Shape.ext {q t m : Nat} {w w' : World} (h : Shape q t m w) (he : Ext w w') : Shape q t m w' := by
 have hl := h.lt
 obtain ⟨cur, h1, h2⟩ := h
 exact ⟨cur, (Below.block he q hl).trans h1, h2⟩
def OwnQ (B q t m : Nat) (w w' : World) : Prop := Own B w w' ∧ (Shape q t m w → Shape q t m w')
theorem OwnQ.of_ext (B q t m : Nat) (a b : World) (h : Ext a b) : OwnQ B q t m a b := ⟨Own.of_ext B a b h, fun hs => hs.ext h⟩
theorem OwnQ.trans {B q t m : Nat} {a b c : World} (h : OwnQ B q t m a b) (k : OwnQ B q t m b c) : OwnQ B q t m a c := ⟨h.1.trans k.1, fun x => k.2 (h.2 x)⟩
theorem OwnQ.drew (B q t m : Nat) (w : World) : OwnQ B q t m w w.drew := OwnQ.of_ext _ _ _ _ _ _ (Ext.drew w)
section
variable {S : World → World → Prop} {α : Type} {R : Reads α}
end
end
end Go.Proofs.YtlacpcdbgimnmaaGreatDoor
