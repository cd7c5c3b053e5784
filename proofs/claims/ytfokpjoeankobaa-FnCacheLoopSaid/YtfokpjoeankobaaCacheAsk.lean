/- The reference's caches, asked: how long the lists become. No condition. -/
import Derived.Test.YtfokpjoeankobaaCacheOk
import Derived.Test.YtfokpjoeankobaaCacheNew
namespace Go.Proofs.Ytfokpjoeankobaa
set_option linter.unnecessarySimpa false
open Go.RowKit
set_option linter.unusedVariables false
set_option linter.unusedSimpArgs false

/-- A list of ints, wherever it lies. -/
def IL (w : World) (A : Option Addr) (n c : Nat) (xs : List Int) : Prop := SliceR IntR 1 w 0 w.heap.size A n c xs
theorem IL.below {w w' : World} {A : Option Addr} {n c : Nat} {xs : List Int} (h : IL w A n c xs) (hb : Below w.heap.size w w') : IL w' A n c xs := SliceR.up h hb
theorem IL.ints {w : World} {A : Option Addr} {n c : Nat} {xs : List Int} (h : IL w A n c xs) : IntsAt w A n xs := SliceR.ints h
theorem IL.len {w : World} {A : Option Addr} {n c : Nat} {xs : List Int} (h : IL w A n c xs) : xs.length = n := h.1
theorem IL.cap {w : World} {A : Option Addr} {n c : Nat} {xs : List Int} (h : IL w A n c xs) : n ≤ c := h.2.1
/-- The first of a list. -/
theorem IL.take {w : World} {A : Option Addr} {n c : Nat} {xs : List Int} (h : IL w A n c xs) {m : Nat} (hm : m ≤ n) : IL w A m c (xs.take m) := by
  obtain ⟨h1, h2, h3, h4, h5, h6⟩ := h
  refine ⟨by rw [List.length_take]; omega, by omega, by omega, h4, h5, fun hp => ?_⟩
  obtain ⟨b, off, hA, b1, b2, hc⟩ := h6 (by omega)
  refine ⟨b, off, hA, b1, b2, fun j x hx => hc j x ?_⟩
  rw [List.getElem?_take] at hx
  split at hx
  · exact hx
  · cases hx
theorem RowV_ints {w : World} {lo hi : Nat} : ∀ xs : List Int, RowV (IntR w lo hi) 1 (xs.map (Value.int .i64)) xs
  | [] => RowV.nil _ _
  | x :: xs => by
    have h1 : RowV (IntR w lo hi) 1 [.int .i64 x] [x] := RowV.one rfl rfl
    have := RowV.append h1 (RowV_ints xs) rfl
    simpa using this
theorem IL.own {w : World} {S : List Nat} {A : Option Addr} {n c lo : Nat} {xs : List Int} (h : OwnA w 3 1 S A n c (xs.map (Value.int .i64))) (hn : xs.length = n) (hS : ∀ g ∈ S, lo ≤ g) : SliceR IntR 1 w lo w.heap.size A n c xs := by
  have hv : RowV (IntR w lo w.heap.size) 1 (xs.map (Value.int .i64)) xs := RowV_ints xs
  exact (OwnA.slice h hn hv (fun g hg => ⟨hS g hg, h.lt g hg⟩) (Nat.le_refl _)).1
def LessP (n : Nat) (is : Bool) (w : World) (e : Ending) (w' : World) : Prop := ∃ A' n' c' xs', e = .returned (.slice A' n' c') ∧ SliceR IntR 1 w' w.heap.size w'.heap.size A' n' c' xs' ∧ n' ≤ n ∧ (is = true → n' < n) ∧ Below w.heap.size w w'
theorem hasI_take {xs : List Int} {k : Nat} (hk : k < xs.length) (v : Int) : hasI (xs.take (k + 1)) v = (hasI (xs.take k) v || decide (xs.getD k 0 = v)) := by
  have e : xs.take (k + 1) = xs.take k ++ [xs.getD k 0] := by rw [List.take_succ_eq_append_getElem hk, List.getD_eq_getElem?_getD, List.getElem?_eq_getElem hk]; rfl
  rw [e]
  unfold hasI
  generalize xs.getD k 0 = x
  rw [Bool.eq_iff_iff]
  simp only [decide_eq_true_eq, Bool.or_eq_true, List.mem_append, List.mem_singleton]
  exact or_congr Iff.rfl eq_comm
def FrontP (row : Int) (n : Nat) (xs : List Int) (w : World) (e : Ending) (w' : World) : Prop := ∃ A' c', e = .returned (.slice A' (n + 1) c') ∧ SliceR IntR 1 w' w.heap.size w'.heap.size A' (n + 1) c' (row :: xs) ∧ Below w.heap.size w w'
end Go.Proofs.Ytfokpjoeankobaa
