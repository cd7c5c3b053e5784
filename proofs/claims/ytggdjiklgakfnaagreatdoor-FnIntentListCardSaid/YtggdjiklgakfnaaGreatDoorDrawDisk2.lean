/- l91Disk: a drawn disk. No condition. -/
import Derived.Test.YtggdjiklgakfnaaGreatDoorDrawCells
import Derived.Test.YtggdjiklgakfnaaGreatDoorDiskLose
import Derived.Test.YtggdjiklgakfnaaGreatDoorLib
namespace Go.Proofs.YtggdjiklgakfnaaGreatDoor
set_option linter.unnecessarySimpa false
open Go.RowKit
set_option linter.unusedVariables false
set_option linter.unusedSimpArgs false

/-- Block g holds 64 strings. -/
def Cells64 (g : Nat) (w : World) : Prop := ∃ cur, w.heap[g]? = some (.cells cur 9 (0, 0)) ∧ 64 ≤ cur.size ∧ ∀ i, i < 64 → ∃ s : ByteArray, cur[i]? = some (.string s) ∧ s.size ≤ maxLen
theorem Cells64.set {g r : Nat} {w : World} {s : ByteArray} (h : Cells64 g w) (hs : s.size ≤ maxLen) : Cells64 g (w.setCell ⟨g, r, none⟩ (.string s)) := by
  obtain ⟨cur, h1, h2, h3⟩ := h
  refine ⟨_, block_set h1, by simpa using h2, fun i hi => ?_⟩
  rw [Array.getElem?_setIfInBounds]
  split
  · rw [if_pos (by omega)]; exact ⟨s, rfl, hs⟩
  · exact h3 i hi
theorem Cells64.keep {g : Nat} {w w' : World} (h : Cells64 g w) (hk : w'.heap[g]? = w.heap[g]?) : Cells64 g w' := by
  obtain ⟨cur, h1, h2⟩ := h
  exact ⟨cur, hk.trans h1, h2⟩
theorem Cells64.lt {g : Nat} {w : World} (h : Cells64 g w) : g < w.heap.size := by obtain ⟨cur, h1, _⟩ := h; exact (Array.getElem?_eq_some_iff.1 h1).1
theorem Cells64.at_ {g r : Nat} {w : World} (h : Cells64 g w) (hr : r < 64) : ∃ s : ByteArray, w.cell? ⟨g, r, none⟩ = some (.string s) ∧ w.frozen? ⟨g, r, none⟩ = false := by
  obtain ⟨cur, h1, h2, h3⟩ := h
  obtain ⟨s, hs, _⟩ := h3 r hr
  exact ⟨s, (cell_of_row _ _ r _ _ (0, 0) h1).trans hs, block_free h1 _⟩
/-- The reader goes on; block g holds 64 strings as before. -/
def GoesC (p g : Nat) (a b : World) : Prop := Chg (· ∈ [p, g]) a b ∧ (Cells64 g a → Cells64 g b)
theorem GoesC.trans {p g : Nat} {a b c : World} (h : GoesC p g a b) (k : GoesC p g b c) : GoesC p g a c := ⟨h.1.trans k.1, fun x => k.2 (h.2 x)⟩
theorem GoesC.of {p g : Nat} {a b : World} (h : Chg (· ∈ [p]) a b) (hpg : p ≠ g) : GoesC p g a b :=
  ⟨h.mono (fun k _ hk => by simp at hk ⊢; exact .inl hk), fun x => x.keep (h.block g x.lt (by simpa using hpg.symm))⟩
section
variable {S : World → World → Prop}
def natS (m : Nat) : BStP S := ⟨fun v _ => ∃ r : Nat, v = .int .i64 (r : Int) ∧ r < m, fun _ _ _ _ h => h⟩
def strS (m : Nat) : BStP S := ⟨fun v _ => ∃ s : ByteArray, v = .string s ∧ s.size ≤ m, fun _ _ _ _ h => h⟩
def ptrS64 (g : Nat) : BStP S := ⟨fun v _ => ∃ r : Nat, v = .pointer (some ⟨g, r, none⟩) ∧ r < 64, fun _ _ _ _ h => h⟩
def anyS : BStP S := ⟨fun _ _ => True, fun _ _ _ _ h => h⟩
end
/-- The waiting writes, in memory of the call's own. -/
def WaitsAt (S : List Nat) (B : Option Addr) (m d : Nat) (ws : List WaitD) (w : World) : Prop :=
  OwnA w 99 2 S B m d (ws.flatMap fun x => [Value.int .i64 x.1, .string x.2]) ∧ ws.length = m ∧ ∀ x ∈ ws, x.2.size ≤ maxLen
theorem Rd.setOld {w0 w' : World} {p : Nat} {A : Option Addr} {n c : Nat} {zs : List Int} {k k0 : Nat} (h0 : Rd w0 p A n c zs k0) (h : Rd w' p A n c zs k) {a : Addr} (hb : w0.heap.size ≤ a.block) (v : Value) : Rd (w'.setCell a v) p A n c zs k :=
  h.keep (by simp [World.setCell]) fun b _ hbp => heap_far (by
    rcases hbp with rfl | ⟨hn, off, hA⟩
    · have := h0.2.2.2.1; omega
    · have := h0.old hn hA; omega)
/-- The disk as it is drawn: r: the result's block, t: the disk's box, g: the cells. -/
structure DBase (w : World) (p t g c0 : Nat) (S : List Nat) (B : Option Addr) (m d : Nat) (ws : List WaitD) (wr : World) : Prop where
  chg : Chg (· ∈ [p]) w wr
  res : wr.heap[w.heap.size]? = some (.cells #[.slice none 0 0, .slice none 0 0, .bool false] 70 (0, 0))
  box : wr.heap[t]? = some (.cells #[.slice (some ⟨g, 0, none⟩) 64 c0, .slice B m d, .bool false] 70 (0, 0))
  waits : WaitsAt S B m d ws wr
  cells : Cells64 g wr
  own : ∀ b ∈ S, w.heap.size < b ∧ b ≠ t ∧ b ≠ g
section
variable {w0 : World} {p t : Nat} {L : List Nat}
def natM (m : Nat) : MStP (Chg (· ∈ L)) (Chg (· ∈ [p])) := ⟨fun v _ => ∃ r : Nat, v = .int .i64 (r : Int) ∧ r < m, true, fun _ _ _ _ h => h, fun _ _ _ _ _ h => h⟩
def strM (m : Nat) : MStP (Chg (· ∈ L)) (Chg (· ∈ [p])) := ⟨fun v _ => ∃ s : ByteArray, v = .string s ∧ s.size ≤ m, true, fun _ _ _ _ h => h, fun _ _ _ _ _ h => h⟩
def waitM : MStP (Chg (· ∈ L)) (Chg (· ∈ [p])) := ⟨fun v _ => ∃ (x : Int) (s : ByteArray), v = .agg #[.int .i64 x, .string s] ∧ s.size ≤ 9, true, fun _ _ _ _ h => h, fun _ _ _ _ _ h => h⟩
def litM (hp : p ∈ L) : MStP (Chg (· ∈ L)) (Chg (· ∈ [p])) := ⟨fun v w => ∃ (g : Nat) (x : Int) (s : ByteArray), v = .slice (some ⟨g, 0, none⟩) 1 1 ∧ g ∉ L ∧ s.size ≤ 9 ∧ w.heap[g]? = some (.cells #[.int .i64 x, .string s] 99 (0, 0)), true,
  fun v w w' hc ⟨g, x, s, e, hg, hs, hb⟩ => ⟨g, x, s, e, hg, hs, (hc.block g (Array.getElem?_eq_some_iff.1 hb).1 (fun hm => by simp at hm; subst hm; exact hg hp)).trans hb⟩,
  fun _ v w w' hc ⟨g, x, s, e, hg, hs, hb⟩ => ⟨g, x, s, e, hg, hs, (hc.block g (Array.getElem?_eq_some_iff.1 hb).1 hg).trans hb⟩⟩
def intM : MStP (Chg (· ∈ L)) (Chg (· ∈ [p])) := ⟨fun v _ => ∃ x : Int, v = .int .i64 x, true, fun _ _ _ _ h => h, fun _ _ _ _ _ h => h⟩
def TwoAt (L : List Nat) (g : Nat) (w : World) : Prop := g ∉ L ∧ w.heap[g]? = some (.cells #[.int .i64 (-1), .int .i64 64] 3 (0, 0))
theorem TwoAt.keep {L T : List Nat} {g : Nat} {w w' : World} (h : TwoAt L g w) (hc : Chg (· ∈ T) w w') (hT : ∀ b ∈ T, b ∈ L) : TwoAt L g w' := ⟨h.1, (hc.block g (Array.getElem?_eq_some_iff.1 h.2).1 (fun hm => h.1 (hT g hm))).trans h.2⟩
def litI (hp : p ∈ L) : MStP (Chg (· ∈ L)) (Chg (· ∈ [p])) := ⟨fun v w => ∃ g : Nat, v = .slice (some ⟨g, 0, none⟩) 2 2 ∧ TwoAt L g w, true, fun v w w' hc ⟨g, e, h⟩ => ⟨g, e, h.keep hc (fun b hb => by simp at hb; subst hb; exact hp)⟩, fun _ v w w' hc ⟨g, e, h⟩ => ⟨g, e, h.keep hc (fun b hb => hb)⟩⟩
def ptrI (hp : p ∈ L) : MStP (Chg (· ∈ L)) (Chg (· ∈ [p])) := ⟨fun v w => ∃ g r : Nat, v = .pointer (some ⟨g, r, none⟩) ∧ r < 2 ∧ TwoAt L g w, true, fun v w w' hc ⟨g, r, e, hr, h⟩ => ⟨g, r, e, hr, h.keep hc (fun b hb => by simp at hb; subst hb; exact hp)⟩, fun _ v w w' hc ⟨g, r, e, hr, h⟩ => ⟨g, r, e, hr, h.keep hc (fun b hb => hb)⟩⟩
def GrownAt (S : List Nat) (Z m : Nat) (ws : List WaitD) (B' : Option Addr) (d' : Nat) (w : World) : Prop :=
  ∃ (S' : List Nat) (x : Int) (s : ByteArray), WaitsAt S' B' (m + 1) d' (ws ++ [(x, s)]) w ∧ ∀ b ∈ S', b ∈ S ∨ Z ≤ b
theorem GrownAt.keep {S : List Nat} {Z m : Nat} {ws : List WaitD} {B' : Option Addr} {d' : Nat} {w w' : World} (h : GrownAt S Z m ws B' d' w) {T : List Nat} (hc : Chg (· ∈ T) w w') (h1 : ∀ b ∈ T, b ∉ S) (h2 : ∀ b ∈ T, b < Z) : GrownAt S Z m ws B' d' w' := by
  obtain ⟨S', x, s, ho, hs⟩ := h
  exact ⟨S', x, s, ⟨ho.1.keep fun b hb => hc.block b (ho.1.lt b hb) (fun hm => by rcases hs b hb with h | h; exact h1 b hm h; have := h2 b hm; omega), ho.2⟩, hs⟩
def appM (S : List Nat) (Z m : Nat) (ws : List WaitD) (hS : p ∉ S) (hZ : p < Z) : MStP (Chg (· ∈ L)) (Chg (· ∈ [p])) := ⟨fun v w => ∃ B' d', v = .slice B' (m + 1) d' ∧ GrownAt S Z m ws B' d' w, false,
  fun v w w' hc ⟨B', d', e, h⟩ => ⟨B', d', e, h.keep hc (fun b hb => by simp at hb; subst hb; exact hS) (fun b hb => by simp at hb; omega)⟩, fun h => by cases h⟩
def boxM (g c0 : Nat) (S : List Nat) (Z m : Nat) (ws : List WaitD) (hS : p ∉ S) (hZ : p < Z) (hpt : p ≠ t) : MStP (Chg (· ∈ L)) (Chg (· ∈ [p])) := ⟨fun _ w => ∃ B' d', w.heap[t]? = some (.cells #[.slice (some ⟨g, 0, none⟩) 64 c0, .slice B' (m + 1) d', .bool false] 70 (0, 0)) ∧ GrownAt S Z m ws B' d' w, false,
  fun v w w' hc ⟨B', d', e, h⟩ => ⟨B', d', (hc.block t (Array.getElem?_eq_some_iff.1 e).1 (by simp; omega)).trans e, h.keep hc (fun b hb => by simp at hb; subst hb; exact hS) (fun b hb => by simp at hb; omega)⟩, fun h => by cases h⟩
end
def boxLen (t : Nat) (w : World) : Nat := match w.cell? ⟨t, 1, none⟩ with | some (.slice _ l _) => l | _ => 0
def boolS {S : World → World → Prop} (Q : Prop) : BStP S := ⟨fun v _ => ∃ b : Bool, v = .bool b ∧ (b = true → Q), fun _ _ _ _ h => h⟩
/-- A disk drawn. -/
def PickedDisk (w : World) (p : Nat) (A : Option Addr) (n c : Nat) (zs : List Int) (k : Nat) (e : Ending) (w' : World) : Prop :=
  ∃ (cs : List Value) (x : DiskD) (k' : Nat), e = .returned (.agg cs.toArray) ∧ DiskR w' w.heap.size w'.heap.size cs x ∧ x.1.length ≤ 64 ∧ x.2.1.length ≤ 200 ∧ k' ≤ k + 600 ∧ Rd w' p A n c zs k' ∧ Chg (· ∈ [p]) w w'
end Go.Proofs.YtggdjiklgakfnaaGreatDoor
