/- Lists of texts in memory of the call's own. No condition. -/
import Derived.Test.YtkmkmndcgemnlaaGreatDoorFieldsPut
import Derived.Test.YtkmkmndcgemnlaaGreatDoorApp
import Derived.Test.YtkmkmndcgemnlaaGreatDoorRgm
namespace Go.Proofs.YtkmkmndcgemnlaaGreatDoor
set_option linter.unusedVariables false
set_option linter.unusedSimpArgs false
set_option linter.unnecessarySimpa false
open Go Go.Lib Go.RowKit

theorem info_strs : (Tryz.prog.info? 9).map (fun i => (i.zero, i.size, i.bytes)) = some (some (.string ByteArray.empty), 1, 16) := by kernel_rfl
/-- The slice value '.slice A fs.length c' holds the texts fs, in blocks from B on. -/
def StrsIn (B : Nat) (w : World) (A : Option Addr) (c : Nat) (fs : List Str) : Prop := ∃ S, OwnA w 9 1 S A fs.length c (fs.map strV) ∧ ∀ g ∈ S, B ≤ g
section
variable {B : Nat} {w w' : World} {A : Option Addr} {c : Nat} {fs : List Str}
theorem StrsIn.below (h : StrsIn B w A c fs) (hb : Below w.heap.size w w') : StrsIn B w' A c fs := by
  obtain ⟨S, h1, h2⟩ := h
  exact ⟨S, h1.below hb, h2⟩
theorem StrsIn.mono {B' : Nat} (h : StrsIn B w A c fs) (hB : B' ≤ B) : StrsIn B' w A c fs := by
  obtain ⟨S, h1, h2⟩ := h
  exact ⟨S, h1, fun g hg => Nat.le_trans hB (h2 g hg)⟩
theorem StrsIn.row (h : StrsIn B w A c fs) : RowAt w A fs.length (fs.map strV) := by
  obtain ⟨S, h1, _⟩ := h
  simpa using h1.at_
theorem StrsIn.nil : StrsIn B w none 0 [] := ⟨[], OwnA.nil none, by simp⟩
theorem StrsIn.lit {g : Nat} {cur : Array Value} (hB : B ≤ g) (hg : w.heap[g]? = some (.cells cur 9 (0, 0))) (hc : cur.toList = fs.map strV) (hl : fs.length ≤ maxLen) : StrsIn B w (some ⟨g, 0, none⟩) fs.length fs := by
  have hs : cur.size = fs.length := by have := congrArg List.length hc; simpa using this
  refine ⟨[g], ⟨.inr ⟨g, cur, rfl, rfl, by simp, Nat.le_refl _, hl, hg, by rw [hs, Nat.mul_one], fun j hj => ?_⟩, fun h => by cases h⟩, by simpa using hB⟩
  rw [← hc]; simp
theorem StrsIn.le (h : StrsIn B w A c fs) : fs.length ≤ c := by
  obtain ⟨S, h1, _⟩ := h
  exact h1.le
theorem StrsIn.cell (h : StrsIn B w A c fs) {j : Nat} {f : Str} (hf : fs[j]? = some f) : ∃ g, A = some ⟨g, 0, none⟩ ∧ g < w.heap.size ∧ w.cell? ⟨g, j, none⟩ = some (.string (strB f)) := by
  have hj : j < fs.length := (List.getElem?_eq_some_iff.1 hf).1
  obtain ⟨S, ⟨h1, _⟩, _⟩ := h
  rcases h1 with ⟨_, h0, _⟩ | ⟨g, cur, rfl, rfl, _, _, _, hg, _, h5⟩
  · omega
  · refine ⟨g, rfl, (Array.getElem?_eq_some_iff.1 hg).1, ?_⟩
    rw [cell_of_row _ _ j _ _ (0, 0) hg, h5 j (by omega), List.getElem?_map, hf]
    rfl
end
theorem strs_one (fs : List Str) : ∀ u ∈ fs.map strV, u.oneCell' = true := by
  intro u hu
  obtain ⟨f, _, rfl⟩ := List.mem_map.1 hu
  rfl
/-- What an append leaves. -/
theorem app_strs {B : Nat} {S S' : List Nat} {w1 w2 : World} {A' : Option Addr} {c' n : Nat} {fs gs : List Str} (hS : ∀ g ∈ S, B ≤ g) (hB : B ≤ w1.heap.size) (hn : n = (fs ++ gs).length)
    (hO : OwnA w2 9 1 S' A' n c' (fs.map strV ++ gs.map strV)) (hS' : ∀ g ∈ S', g ∈ S ∨ w1.heap.size ≤ g) (hC : Chg (· ∈ S) w1 w2) :
    StrsIn B w2 A' c' (fs ++ gs) ∧ Below B w1 w2 := by
  subst hn
  refine ⟨⟨S', by simpa using hO, fun g hg => (hS' g hg).elim (hS g) (fun h => Nat.le_trans hB h)⟩, hC.below (fun g _ hg => hS g hg) hB⟩
/-- A new list of texts. -/
def NewStrs (fs : List Str) (w : World) (e : Ending) (w' : World) : Prop :=
  ∃ A c, e = .returned (.slice A fs.length c) ∧ StrsIn w.heap.size w' A c fs ∧ Below w.heap.size w w'
/-- In a region: a list of texts, till an operation turns it. -/
def softStrs (B : Nat) (fs : List Str) : MStP (Own B) Ext := ⟨fun v w => ∃ A c n, v = .slice A n c ∧ n = fs.length ∧ StrsIn B w A c fs, false, fun _ _ _ he ⟨A, c, n, e, hn, h⟩ => ⟨A, c, n, e, hn, h.below he⟩, fun h => by cases h⟩
/-- In a region: a literal block. -/
def softLit (B : Nat) (T : TypeId) (cur : Array Value) (n : Nat) : MStP (Own B) Ext := ⟨fun v w => ∃ g : Nat, v = .slice (some ⟨g, 0, none⟩) n n ∧ w.heap[g]? = some (.cells cur T (0, 0)), false, fun _ _ _ he ⟨g, e, hg⟩ => ⟨g, e, (Below.block he g (Array.getElem?_eq_some_iff.1 hg).1).trans hg⟩, fun h => by cases h⟩
def litP (T : TypeId) (cur : Array Value) (n : Nat) : StP := ⟨fun v w => ∃ g : Nat, v = .slice (some ⟨g, 0, none⟩) n n ∧ w.heap[g]? = some (.cells cur T (0, 0)), fun _ _ _ he ⟨g, e, hg⟩ => ⟨g, e, (Below.block he g (Array.getElem?_eq_some_iff.1 hg).1).trans hg⟩⟩
end Go.Proofs.YtkmkmndcgemnlaaGreatDoor
