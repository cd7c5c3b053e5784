/- DiskWrite, the program's and the reference's. Condition: fewer than 2^40 members a slice. -/
import Derived.Test.YtggdjiklgakfnaaGreatDoorDiskOk
import Derived.Test.YtggdjiklgakfnaaGreatDoorDiskCopy
namespace Go.Proofs.YtggdjiklgakfnaaGreatDoor
set_option linter.unusedVariables false
set_option linter.unusedSimpArgs false
set_option linter.unnecessarySimpa false
section
open Go.RowKit

def spoilOk (d : DiskD) (at_ : Int) (s : ByteArray) : Bool := diskOk d && !d.2.2 && inB at_ 0 63 && decide (s.size ≤ 200)
def spoilD (d : DiskD) (at_ : Int) (s : ByteArray) : DiskD := if spoilOk d at_ s = true then (d.1.set at_.toNat s, d.2.1, d.2.2) else ([], [], false)
/-- A new struct and a truth. -/
def NewR2 {α : Type} (R : Reads α) (w : World) (x : α) (b : Bool) (e : Ending) (w' : World) : Prop :=
  ∃ cs, e = .returned (.tuple #[.agg (List.toArray cs), .bool b]) ∧ R w' w.heap.size w'.heap.size cs x ∧ Below w.heap.size w w'
theorem noDisk {w : World} {lo hi : Nat} (h : hi ≤ w.heap.size) : DiskN w lo hi [.slice none 0 0, .slice none 0 0, .bool false] ([], [], false) :=
  ⟨none, 0, 0, none, 0, 0, rfl, ⟨rfl, Nat.le_refl _, Nat.zero_le _, h, fun _ => rfl, fun h => absurd h (Nat.lt_irrefl _)⟩, .inl ⟨rfl, rfl⟩, ⟨rfl, Nat.le_refl _, Nat.zero_le _, h, fun _ => rfl, fun h => absurd h (Nat.lt_irrefl _)⟩, .inl ⟨rfl, rfl⟩⟩
theorem inB_nat {x : Int} {m : Nat} (h : inB x 0 m = true) : ∃ a : Nat, x = (a : Int) ∧ a ≤ m := by
  have hx : 0 ≤ x ∧ x ≤ (m : Int) := by unfold inB at h; simpa using h
  exact ⟨x.toNat, by omega, by omega⟩
theorem diskOk_len {d : DiskD} (h : diskOk d = true) : d.1.length = 64 ∧ d.2.1.length ≤ 120 := by
  unfold diskOk at h
  simp only [Bool.and_eq_true, decide_eq_true_eq] at h
  exact ⟨h.1.1.1.1, h.1.1.1.2⟩
/-- A store into an array that lies whole. -/
theorem SliceR.set1 {α : Type} {R : Reads α} {w : World} {lo hi g t n c a : Nat} {xs : List α} {y : α} {v : Value} {cur : Array Value} (h : SliceR R 1 w lo hi (some ⟨g, 0, none⟩) n c xs) (hg : w.heap[g]? = some (.cells cur t (0, 0))) (ha : a < n) (hc : cur.size = c)
    (hflat : ∀ cs x, R w lo hi cs x → R (w.setCell ⟨g, a, none⟩ v) lo hi cs x) (hv : R (w.setCell ⟨g, a, none⟩ v) lo hi [v] y) : SliceR R 1 (w.setCell ⟨g, a, none⟩ v) lo hi (some ⟨g, 0, none⟩) n c (xs.set a y) := by
  have hnc := h.2.1
  obtain ⟨b, off, hA, h1, h2, _, hcc⟩ := h.at_ (by omega)
  injection hA with e; injection e with e1 e2; subst e1 e2
  refine ⟨by simpa using h.len, h.2.1, h.2.2.1, by simpa [World.setCell] using h.lo_le, (fun h => by cases h), fun _ => ⟨g, 0, rfl, h1, h2, fun j x hx => ?_⟩⟩
  rw [List.getElem?_set] at hx
  by_cases hj : a = j
  · subst hj
    rw [if_pos rfl, if_pos (by have := h.len; omega)] at hx
    obtain rfl := Option.some.inj hx
    refine ⟨[v], rfl, fun i u hu => ?_, hv⟩
    match i, hu with
    | 0, hu =>
      simp at hu; subst hu
      rw [Nat.zero_add, Nat.mul_one, Nat.add_zero, cell_of_row _ _ _ _ _ (0, 0) (block_set hg), Array.getElem?_setIfInBounds, if_pos rfl, if_pos (by omega)]
    | i + 1, hu => simp at hu
  · rw [if_neg hj] at hx
    obtain ⟨cs, hl, hcs, hr⟩ := hcc j x hx
    refine ⟨cs, hl, fun i u hu => ?_, hflat _ _ hr⟩
    have hi0 : i = 0 := by have := (List.getElem?_eq_some_iff.1 hu).1; omega
    subst hi0
    have := hcs 0 u hu
    rw [Nat.zero_add, Nat.mul_one, Nat.add_zero] at this ⊢
    rw [cell_of_row _ _ _ _ _ (0, 0) (block_set hg), Array.getElem?_setIfInBounds, if_neg hj, ← cell_of_row _ _ _ _ _ (0, 0) hg, this]

end
section
open Go.RowKit

def writeGo (d : DiskD) (at_ : Int) (s : ByteArray) : Bool := !d.2.2 && inB at_ 0 63 && decide (s.size ≤ 200) && decide (d.2.1.length < 120)
def writeOk (d : DiskD) (at_ : Int) (s : ByteArray) : Bool := diskOk d && writeGo d at_ s
def writeD (d : DiskD) (at_ : Int) (s : ByteArray) : DiskD := if diskOk d = true then (if writeGo d at_ s = true then (d.1, d.2.1 ++ [(at_, s)], d.2.2) else d) else ([], [], false)
theorem OwnA.blk {w : World} {e : TypeId} {k : Nat} {S : List Nat} {A : Option Addr} {n c : Nat} {vs : List Value} (h : OwnA w e k S A n c vs) (hc : 0 < c) {b : Nat} (hb : blkOf A b) : b ∈ S := by
  rcases h.1 with ⟨h0, _⟩ | ⟨g, cur, rfl, rfl, _⟩
  · rw [h.2 h0] at hc; omega
  · rw [blkOf_iff] at hb; simp [hb]
theorem RowAt.pair {w : World} {b : Nat} {x y : Value} {t : TypeId} (h : w.heap[b]? = some (.cells #[x, y] t (0, 0))) : RowAt w (some ⟨b, 0, none⟩) 2 [x, y] :=
  ⟨rfl, fun _ => ⟨b, 0, rfl, fun j hj => by
    rw [Nat.zero_add, cell_of_row _ _ _ _ _ (0, 0) h]
    match j, hj with
    | 0, _ => rfl
    | 1, _ => rfl⟩⟩
theorem WaitR.row1 {w : World} {lo hi : Nat} (at_ : Int) (s : ByteArray) (hs : s.size ≤ maxLen) : RowV (WaitR w lo hi) 2 [.int .i64 at_, .string s] [(at_, s)] := RowV.one rfl ⟨rfl, hs⟩
theorem wait_one {w : World} {lo hi : Nat} {vs : List Value} (r4 : ∀ u ∈ vs, ∃ cs x, u ∈ cs ∧ WaitR w lo hi cs x) : ∀ u ∈ vs, u.oneCell' = true := fun u hu => by obtain ⟨cs, x, hm, hr⟩ := r4 u hu; obtain ⟨at_, text_⟩ := x; obtain ⟨rfl, ho0⟩ := hr; simp at hm; rcases hm with rfl | rfl <;> rfl


end
end Go.Proofs.YtggdjiklgakfnaaGreatDoor
