/- Copies of disks, and RaidLose both. No condition. -/
import Derived.Test.YtggdjiklgakfnaaGreatDoorRaidEach
import Derived.Test.YtggdjiklgakfnaaGreatDoorDiskOk
import Derived.Test.YtggdjiklgakfnaaGreatDoorDiskLose
import Derived.Test.YtggdjiklgakfnaaGreatDoorDiskCopy
import Derived.Test.YtggdjiklgakfnaaGreatDoorLib
namespace Go.Proofs.YtggdjiklgakfnaaGreatDoor
set_option linter.unusedSimpArgs false
set_option linter.unnecessarySimpa false
open Go.RowKit
set_option linter.unusedVariables false
theorem RaidN.arr {w : World} {lo hi : Nat} {A : Option Addr} {n c : Nat} {xs : RaidD} (h : RaidN w lo hi [.slice A n c] xs) (hn : 0 < n) :
    ∃ (g : Nat) (cur : Array Value) (o : Nat → Nat), A = some ⟨g, 0, none⟩ ∧ lo ≤ g ∧ g < hi ∧ w.heap[g]? = some (.cells cur 70 (0, 0)) ∧ cur.size = c * 3 ∧ n ≤ c ∧ c ≤ maxLen ∧ xs.length = n ∧ hi ≤ w.heap.size ∧
      ∀ j x, xs[j]? = some x → ∃ cs, cs.length = 3 ∧ (∀ i v, cs[i]? = some v → cur[j * 3 + i]? = some v) ∧ DiskO o w lo hi cs (x, j) := by
  obtain ⟨A', n', c', o, e, h0, h1⟩ := h
  injection e with e _; injection e with e1 e2 e3; subst e1 e2 e3
  have hl := h0.len
  obtain ⟨b, off, rfl, _, _, _, hc⟩ := h0.at_ hn
  rcases h1 with ⟨h, _⟩ | ⟨g, cur, hA, a1, a2, a3, a4, a5, a6⟩
  · omega
  · injection hA with e; injection e with e1 e2; subst e1 e2
    refine ⟨b, cur, o, rfl, a1, a2, a3, a4, a5, a6, by simpa using hl, h0.lo_le, fun j x hx => ?_⟩
    obtain ⟨cs, hcl, hcc, hr⟩ := hc j (x, j) (by rw [List.getElem?_zipIdx, hx]; simp)
    refine ⟨cs, hcl, fun i v hv => ?_, hr⟩
    have := hcc i v hv
    rw [Nat.zero_add, cell_of_row _ _ _ _ _ (0, 0) a3] at this
    exact this
/-- A disk laid in place of another. -/
theorem RaidN.set {w W : World} {lo hi lo2 hi2 g c j : Nat} {xs : RaidD} {d : DiskD} {cs : List Value} (h : RaidN w lo hi [.slice (some ⟨g, 0, none⟩) 3 c] xs) (hj : j < 3) (hhi : hi ≤ lo2) (hd : DiskN w lo2 hi2 cs d) (h2 : lo2 ≤ hi2) (h3 : hi2 ≤ w.heap.size)
    (hW : W.heap.size = w.heap.size) (hk : ∀ i, i ≠ g → W.heap[i]? = w.heap[i]?) (hg : ∀ cur, w.heap[g]? = some (.cells cur 70 (0, 0)) → W.heap[g]? = some (.cells (putAt cur (j * 3) cs) 70 (0, 0))) : RaidN W lo hi2 [.slice (some ⟨g, 0, none⟩) 3 c] (xs.set j d) := by
  obtain ⟨g', cur, o, e, h1, h5, h6, h7, h8, h9, hl, h10, hc⟩ := h.arr (by omega)
  injection e with e; injection e with e1 e2; subst e1
  have hgW := hg cur h6
  have hkT : ∀ i, i < w.heap.size → (∀ cur, w.heap[i]? ≠ some (.cells cur 70 (0, 0))) → W.heap[i]? = w.heap[i]? := fun i hi hn => hk i (fun e => hn cur (e ▸ h6))
  have hcl : cs.length = 3 := hd.len
  have hj3 : j * 3 + 3 ≤ c * 3 := by omega
  refine ⟨some ⟨g, 0, none⟩, 3, c, fun b => if hi ≤ b then j else o b, rfl, ⟨by simpa using hl, h8, Nat.le_trans h8 h9, by omega, (fun h => by cases h), fun _ => ⟨g, 0, rfl, h1, by omega, fun i p hp => ?_⟩⟩, .inr ⟨g, _, rfl, h1, by omega, hgW, by rw [putAt_size, h7], h8, h9⟩⟩
  rw [List.getElem?_zipIdx, List.getElem?_set] at hp
  by_cases hij : j = i
  · subst hij
    rw [if_pos rfl, if_pos (by omega)] at hp
    obtain rfl : (d, j) = p := by simpa using hp
    refine ⟨cs, hcl, fun i v hv => ?_, DiskO.wide (by omega) (Nat.le_refl _) (by omega) _ _ (DiskO.of (DiskN.keepT (by omega) hkT _ _ hd) (fun b hb _ => if_pos (by omega)))⟩
    rw [Nat.zero_add, cell_of_row _ _ _ _ _ (0, 0) hgW]
    exact putAt_in _ _ _ _ _ (by omega) hv
  · rw [if_neg hij] at hp
    cases hx : xs[i]? with
    | none => rw [hx] at hp; cases hp
    | some x =>
      rw [hx] at hp
      obtain rfl : (x, i) = p := by simpa using hp
      obtain ⟨cs', hl', hc', ho'⟩ := hc i x hx
      refine ⟨cs', hl', fun t v hv => ?_, ?_⟩
      · have ht : t < 3 := by rw [← hl']; exact (List.getElem?_eq_some_iff.1 hv).1
        rw [Nat.zero_add, cell_of_row _ _ _ _ _ (0, 0) hgW, putAt_out _ _ _ _ (by omega)]
        exact hc' t v hv
      · have a1 := DiskO.relabel (o' := fun b => if hi ≤ b then j else o b) ho' (fun b _ hb => if_neg (by omega))
        exact DiskO.wide (Nat.le_refl _) (by omega) (by omega) _ _ (DiskO.keepT (by omega) hkT _ _ a1)
def loseOk (x : RaidD) (k : Int) : Bool := raidOk x && inB k 0 2
def loseR (x : RaidD) (k : Int) : RaidD := if loseOk x k = true then x.set k.toNat loseD else []
theorem set3 {w : World} {g o0 : Nat} {v0 v1 v2 : Value} {cur : Array Value} {t : TypeId} (h : w.heap[g]? = some (.cells cur t (0, 0))) :
    (((w.setCell ⟨g, o0, none⟩ v0).setCell ⟨g, o0 + 1, none⟩ v1).setCell ⟨g, o0 + 2, none⟩ v2).heap[g]? = some (.cells (putAt cur o0 [v0, v1, v2]) t (0, 0)) :=
  block_set (block_set (block_set h))
theorem set3_far {w : World} {g o0 o1 o2 i : Nat} {v0 v1 v2 : Value} (h : i ≠ g) : (((w.setCell ⟨g, o0, none⟩ v0).setCell ⟨g, o1, none⟩ v1).setCell ⟨g, o2, none⟩ v2).heap[i]? = w.heap[i]? :=
  (heap_far h).trans ((heap_far h).trans (heap_far h))
end Go.Proofs.YtggdjiklgakfnaaGreatDoor
