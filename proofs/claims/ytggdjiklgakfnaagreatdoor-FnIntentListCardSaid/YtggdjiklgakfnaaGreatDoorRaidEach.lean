/- each of the program: the disks, each as a function makes it. No condition on the memory; at most 3 disks. -/
import Derived.Test.YtggdjiklgakfnaaGreatDoorRaidN
import Derived.Test.YtggdjiklgakfnaaGreatDoorLib
namespace Go.Proofs.YtggdjiklgakfnaaGreatDoor
set_option linter.unusedSimpArgs false
set_option linter.unnecessarySimpa false
open Go.RowKit
set_option linter.unusedVariables false
def allG (G : Nat → DiskD → Bool) (xs : RaidD) : Bool := (xs.mapIdx G).all id
def eachD (F : Nat → DiskD → DiskD) (G : Nat → DiskD → Bool) (xs : RaidD) : RaidD := if allG G xs = true then xs.mapIdx F else []
theorem RowV.imp {α : Type} {P Q : List Value → α → Prop} {sz : Nat} {vs : List Value} {xs : List α} (h : RowV P sz vs xs) (hPQ : ∀ cs x, P cs x → Q cs x) : RowV Q sz vs xs :=
  fun j x hx => (h j x hx).imp fun cs h => ⟨h.1, h.2.1, hPQ _ _ h.2.2⟩
/-- What each has made of the first k disks. -/
def EachI (F : Nat → DiskD → DiskD) (xs : RaidD) (w wr : World) (B k : Nat) (A : Option Addr) (c : Nat) : Prop :=
  ∃ S vs o, OwnA wr 70 3 S A k c vs ∧ vs.length = k * 3 ∧ (∀ g ∈ S, B ≤ g) ∧ RowV (DiskO o wr B wr.heap.size) 3 vs ((xs.mapIdx F).take k).zipIdx ∧ (∀ u ∈ vs, u.oneCell' = true)
theorem EachI.zero {F : Nat → DiskD → DiskD} {xs : RaidD} {w wr : World} {B : Nat} {X : Option Addr} : EachI F xs w wr B 0 X 0 :=
  ⟨[], [], fun _ => 0, OwnA.nil _, rfl, by simp, by simpa using RowV.nil _ _, by simp⟩
theorem DiskN.one {w : World} {lo hi : Nat} {cs : List Value} {x : DiskD} (h : DiskN w lo hi cs x) : ∀ u ∈ cs, u.oneCell' = true := by
  obtain ⟨A0, n0, c0, A1, n1, c1, rfl, _⟩ := h
  intro u hu; simp at hu; rcases hu with rfl | rfl | rfl <;> rfl
theorem DiskN.len {w : World} {lo hi : Nat} {cs : List Value} {x : DiskD} (h : DiskN w lo hi cs x) : cs.length = 3 := DiskR.len h.r
theorem EachI.far {F : Nat → DiskD → DiskD} {xs : RaidD} {w wr : World} {B k c b o : Nat} {A : Option Addr} {v : Value} (h : EachI F xs w wr B k A c) (hb : b < B) : EachI F xs w (wr.setCell ⟨b, o, none⟩ v) B k A c := by
  obtain ⟨S, vs, o', hO, hvl, hS, hrow, hone⟩ := h
  refine ⟨S, vs, o', hO.keep (fun g hg => heap_far (by have := hS g hg; simp; omega)), hvl, hS, hrow.imp (fun cs p h => ?_), hone⟩
  have h1 := DiskO.keep (Same.setCell (p := ⟨b, o, none⟩) (Same.refl _ _ _) (.inl hb) v) (by simp [World.setCell]) cs p h
  simpa [World.setCell] using h1
theorem EachI.below {F : Nat → DiskD → DiskD} {xs : RaidD} {w wr w' : World} {B k c : Nat} {A : Option Addr} (h : EachI F xs w wr B k A c) (hb : Below wr.heap.size wr w') : EachI F xs w w' B k A c := by
  obtain ⟨S, vs, o', hO, hvl, hS, hrow, hone⟩ := h
  refine ⟨S, vs, o', hO.below hb, hvl, hS, hrow.imp (fun cs p h => ?_), hone⟩
  exact DiskO.wide (Nat.le_refl _) hb.size (Nat.le_refl _) cs p (DiskO.below hb (Nat.le_refl _) cs p h)
/-- A step of each: the new disk is laid behind the others. -/
theorem EachI.step {F : Nat → DiskD → DiskD} {xs : RaidD} {w wr w2 w8 w9 : World} {B k c c' : Nat} {A A' : Option Addr} {x : DiskD} {S S' : List Nat} {vs cs2 : List Value} {o : Nat → Nat} (hx : xs[k]? = some x)
    (hv : vs.length = k * 3) (hrow : RowV (DiskO o wr B wr.heap.size) 3 vs ((xs.mapIdx F).take k).zipIdx) (hone : ∀ u ∈ vs, u.oneCell' = true) (hS : ∀ g ∈ S, B ≤ g) (hb2 : Below wr.heap.size wr w2) (hN : DiskN w2 wr.heap.size w2.heap.size cs2 (F k x)) (hB : B ≤ wr.heap.size)
    (e8 : Below w2.heap.size w2 w8) (hO8 : OwnA w8 70 3 S A k c vs) (hO : OwnA w9 70 3 S' A' (k + 1) c' (vs ++ cs2)) (hS' : ∀ g ∈ S', g ∈ S ∨ wr.heap.size ≤ g) (hC : Chg (· ∈ S) w8 w9) : EachI F xs w w9 B (k + 1) A' c' := by
  have hbw : Below wr.heap.size wr w8 := hb2.trans (e8.mono hb2.size)
  have hz8 := e8.size; have hz2 := hb2.size; have hz9 := hC.size
  have hT : ∀ i, i < w8.heap.size → (∀ cur, w8.heap[i]? ≠ some (.cells cur 70 (0, 0))) → w9.heap[i]? = w8.heap[i]? := by
    intro i hi hn
    refine hC.block i hi (fun hm => ?_)
    rcases hO8.1 with ⟨rfl, _⟩ | ⟨g, cur, rfl, _, _, _, _, hg, _⟩
    · simp at hm
    · simp at hm; subst hm; exact hn _ hg
  have hl : ((xs.mapIdx F).take k).length = k := by
    have := (List.getElem?_eq_some_iff.1 hx).1
    simp; omega
  refine ⟨S', vs ++ cs2, fun b => if b < wr.heap.size then o b else k, hO, by rw [List.length_append, hv, hN.len]; omega, fun g hg => (hS' g hg).elim (hS g) (fun h => by omega), ?_, fun u hu => (List.mem_append.1 hu).elim (hone u) (hN.one u)⟩
  have ht : (xs.mapIdx F).take (k + 1) = (xs.mapIdx F).take k ++ [F k x] := by
    rw [List.take_succ_eq_append_getElem (by have := (List.getElem?_eq_some_iff.1 hx).1; simpa using this)]
    have := (List.getElem?_eq_some_iff.1 hx).2
    simp [this]
  rw [ht, List.zipIdx_append, hl]
  refine RowV.append (hrow.imp fun cs p h => ?_) ?_ (by simp only [List.length_zipIdx]; rw [hl, hv])
  · have h1 := DiskO.relabel (o' := fun b => if b < wr.heap.size then o b else k) h (fun b h1 h2 => if_pos h2)
    have h2 := DiskO.below hbw (Nat.le_refl _) _ _ h1
    have h3 := DiskO.keepT (w' := w9) (by omega) hT _ _ h2
    exact DiskO.wide (Nat.le_refl _) (by omega) (Nat.le_refl _) _ _ h3
  · rw [show (0 + k) = k by omega]
    refine RowV.one hN.len ?_
    have h1 := DiskN.below e8 (Nat.le_refl _) _ _ hN
    have h3 := DiskN.keepT (w' := w9) (by omega) hT _ _ h1
    exact DiskO.wide hB (by omega) (Nat.le_refl _) _ _ (DiskO.of h3 (fun b h1 h2 => if_neg (by omega)))
end Go.Proofs.YtggdjiklgakfnaaGreatDoor
