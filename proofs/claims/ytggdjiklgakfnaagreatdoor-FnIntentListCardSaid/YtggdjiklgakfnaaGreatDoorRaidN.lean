/- Disks in new memory of which no two share an array: each block bears the number of its disk. No condition. -/
import Derived.Test.YtggdjiklgakfnaaGreatDoorFamDTo
import Derived.Test.YtggdjiklgakfnaaGreatDoorFamRSz
import Derived.Test.YtggdjiklgakfnaaGreatDoorDiskWrite
namespace Go.Proofs.YtggdjiklgakfnaaGreatDoor
set_option linter.unusedSimpArgs false
set_option linter.unnecessarySimpa false
open Go.RowKit
set_option linter.unusedVariables false
/-- The arrays of cells cs bear the label i. -/
def Lab (o : Nat → Nat) (cs : List Value) (i : Nat) : Prop := ∀ A n c b, Value.slice A n c ∈ cs → 0 < c → blkOf A b → o b = i
def DiskO (o : Nat → Nat) : Reads (DiskD × Nat) := fun w lo hi cs p => DiskN w lo hi cs p.1 ∧ Lab o cs p.2
theorem DiskO.keep {o : Nat → Nat} {w w' : World} {lo hi : Nat} (hs : Same lo hi w w') (hz : w.heap.size ≤ w'.heap.size) (cs : List Value) (p : DiskD × Nat) (h : DiskO o w lo hi cs p) : DiskO o w' lo hi cs p := ⟨DiskN.keep hs hz _ _ h.1, h.2⟩
theorem DiskO.wide {o : Nat → Nat} {w : World} {lo hi lo' hi' : Nat} (b1 : lo' ≤ lo) (b2 : hi ≤ hi') (b3 : hi' ≤ w.heap.size) (cs : List Value) (p : DiskD × Nat) (h : DiskO o w lo hi cs p) : DiskO o w lo' hi' cs p := ⟨DiskN.wide b1 b2 b3 _ _ h.1, h.2⟩
theorem DiskO.below {o : Nat → Nat} {w w' : World} {lo hi : Nat} (hb : Below w.heap.size w w') (hhi : hi ≤ w.heap.size) (cs : List Value) (p : DiskD × Nat) (h : DiskO o w lo hi cs p) : DiskO o w' lo hi cs p := ⟨DiskN.below hb hhi _ _ h.1, h.2⟩
theorem DiskN.blk {w : World} {lo hi : Nat} {cs : List Value} {x : DiskD} (h : DiskN w lo hi cs x) {A : Option Addr} {n c b : Nat} (hm : Value.slice A n c ∈ cs) (hc : 0 < c) (hb : blkOf A b) : lo ≤ b ∧ b < hi := by
  obtain ⟨A0, n0, c0, A1, n1, c1, rfl, _, k0, _, k1⟩ := h
  have key : ∀ {T : TypeId} {sz : Nat} {A : Option Addr} {n c : Nat}, Whole w T sz lo hi A n c → 0 < c → blkOf A b → lo ≤ b ∧ b < hi := by
    intro T sz A n c k hc hb
    rcases k with h | ⟨g, cur, rfl, h1, h2, _⟩
    · omega
    · rw [blkOf_iff] at hb; subst hb; exact ⟨h1, h2⟩
  simp only [List.mem_cons, Value.slice.injEq, List.not_mem_nil, or_false, reduceCtorEq] at hm
  rcases hm with ⟨rfl, rfl, rfl⟩ | ⟨rfl, rfl, rfl⟩
  · exact key k0 hc hb
  · exact key k1 hc hb
theorem DiskO.of {o : Nat → Nat} {w : World} {lo hi i : Nat} {cs : List Value} {x : DiskD} (h : DiskN w lo hi cs x) (ho : ∀ b, lo ≤ b → b < hi → o b = i) : DiskO o w lo hi cs (x, i) :=
  ⟨h, fun A n c b hm hc hb => ho b (h.blk hm hc hb).1 (h.blk hm hc hb).2⟩
theorem DiskO.relabel {o o' : Nat → Nat} {w : World} {lo hi : Nat} {cs : List Value} {p : DiskD × Nat} (h : DiskO o w lo hi cs p) (ho : ∀ b, lo ≤ b → b < hi → o' b = o b) : DiskO o' w lo hi cs p :=
  ⟨h.1, fun A n c b hm hc hb => (ho b (h.1.blk hm hc hb).1 (h.1.blk hm hc hb).2).trans (h.2 A n c b hm hc hb)⟩
/-- A disk stays where only blocks of disks turn. -/
theorem DiskN.keepT {w w' : World} {lo hi : Nat} (hz : w.heap.size ≤ w'.heap.size) (hk : ∀ i, i < w.heap.size → (∀ cur, w.heap[i]? ≠ some (.cells cur 70 (0, 0))) → w'.heap[i]? = w.heap[i]?) (cs : List Value) (x : DiskD) (h : DiskN w lo hi cs x) : DiskN w' lo hi cs x := by
  obtain ⟨A0, n0, c0, A1, n1, c1, rfl, h0, k0, h1, k1⟩ := h
  have key : ∀ {T : TypeId} {sz : Nat} {A : Option Addr} {n c : Nat}, T ≠ 70 → Whole w T sz lo hi A n c → 0 < c → ∀ b, blkOf A b → lo ≤ b → b < hi → w'.heap[b]? = w.heap[b]? := by
    intro T sz A n c hT k hc b hb _ _
    rcases k with h | ⟨g, cur, rfl, h1, h2, h3, _⟩
    · omega
    · rw [blkOf_iff] at hb; subst hb
      refine hk b (Array.getElem?_eq_some_iff.1 h3).1 (fun cur' e => ?_)
      rw [h3] at e
      injection e with e; injection e with _ e; exact hT e
  exact ⟨A0, n0, c0, A1, n1, c1, rfl, h0.keepB hz (fun hn => key (by decide) k0 (k0.pos hn)) (fun _ _ h => h), k0.keepB (key (by decide) k0), h1.keepB hz (fun hn => key (by decide) k1 (k1.pos hn)) (fun _ _ h => h), k1.keepB (key (by decide) k1)⟩
theorem DiskO.keepT {o : Nat → Nat} {w w' : World} {lo hi : Nat} (hz : w.heap.size ≤ w'.heap.size) (hk : ∀ i, i < w.heap.size → (∀ cur, w.heap[i]? ≠ some (.cells cur 70 (0, 0))) → w'.heap[i]? = w.heap[i]?) (cs : List Value) (p : DiskD × Nat) (h : DiskO o w lo hi cs p) : DiskO o w' lo hi cs p := ⟨DiskN.keepT hz hk _ _ h.1, h.2⟩
/-- Disks in memory of their own, no two of which share an array. -/
def RaidN : Reads RaidD := fun w lo hi cs x => ∃ (A : Option Addr) (n c : Nat) (o : Nat → Nat), cs = [.slice A n c] ∧ SliceR (DiskO o) 3 w lo hi A n c x.zipIdx ∧ Whole w 70 3 lo hi A n c
theorem RaidN.keep {w w' : World} {lo hi : Nat} (hs : Same lo hi w w') (hz : w.heap.size ≤ w'.heap.size) (cs : List Value) (x : RaidD) (h : RaidN w lo hi cs x) : RaidN w' lo hi cs x := by
  obtain ⟨A, n, c, o, rfl, h0, h1⟩ := h
  exact ⟨A, n, c, o, rfl, h0.keep hs hz (DiskO.keep hs hz), h1.keep hs⟩
theorem RaidN.wide {w : World} {lo hi lo' hi' : Nat} (b1 : lo' ≤ lo) (b2 : hi ≤ hi') (b3 : hi' ≤ w.heap.size) (cs : List Value) (x : RaidD) (h : RaidN w lo hi cs x) : RaidN w lo' hi' cs x := by
  obtain ⟨A, n, c, o, rfl, h0, h1⟩ := h
  exact ⟨A, n, c, o, rfl, h0.wide b1 b2 b3 (DiskO.wide b1 b2 b3), h1.wide b1 b2⟩
theorem RaidN.below {w w' : World} {lo hi : Nat} (hb : Below w.heap.size w w') (hhi : hi ≤ w.heap.size) (cs : List Value) (x : RaidD) (h : RaidN w lo hi cs x) : RaidN w' lo hi cs x := RaidN.keep (Same.of_below hb hhi) hb.size cs x h
end Go.Proofs.YtggdjiklgakfnaaGreatDoor
