/- Go's types as data, and how they lie in memory. No condition. -/
import Derived.Test.YtgipchipcoaajaaRep
namespace Go.Proofs.Ytgipchipcoaajaa
set_option linter.unusedVariables false
set_option linter.unusedSimpArgs false
set_option linter.unnecessarySimpa false
open Go.RowKit

theorem list1 {α : Type} {l : List α} (h : l.length = 1) : ∃ a0, l = [a0] := by
  match l, h with
  | [a0], _ => exact ⟨a0, rfl⟩
theorem list2 {α : Type} {l : List α} (h : l.length = 2) : ∃ a0 a1, l = [a0, a1] := by
  match l, h with
  | [a0, a1], _ => exact ⟨a0, a1, rfl⟩
theorem list3 {α : Type} {l : List α} (h : l.length = 3) : ∃ a0 a1 a2, l = [a0, a1, a2] := by
  match l, h with
  | [a0, a1, a2], _ => exact ⟨a0, a1, a2, rfl⟩
theorem list4 {α : Type} {l : List α} (h : l.length = 4) : ∃ a0 a1 a2 a3, l = [a0, a1, a2, a3] := by
  match l, h with
  | [a0, a1, a2, a3], _ => exact ⟨a0, a1, a2, a3, rfl⟩
theorem list5 {α : Type} {l : List α} (h : l.length = 5) : ∃ a0 a1 a2 a3 a4, l = [a0, a1, a2, a3, a4] := by
  match l, h with
  | [a0, a1, a2, a3, a4], _ => exact ⟨a0, a1, a2, a3, a4, rfl⟩
theorem list6 {α : Type} {l : List α} (h : l.length = 6) : ∃ a0 a1 a2 a3 a4 a5, l = [a0, a1, a2, a3, a4, a5] := by
  match l, h with
  | [a0, a1, a2, a3, a4, a5], _ => exact ⟨a0, a1, a2, a3, a4, a5, rfl⟩
theorem list7 {α : Type} {l : List α} (h : l.length = 7) : ∃ a0 a1 a2 a3 a4 a5 a6, l = [a0, a1, a2, a3, a4, a5, a6] := by
  match l, h with
  | [a0, a1, a2, a3, a4, a5, a6], _ => exact ⟨a0, a1, a2, a3, a4, a5, a6, rfl⟩
theorem list8 {α : Type} {l : List α} (h : l.length = 8) : ∃ a0 a1 a2 a3 a4 a5 a6 a7, l = [a0, a1, a2, a3, a4, a5, a6, a7] := by
  match l, h with
  | [a0, a1, a2, a3, a4, a5, a6, a7], _ => exact ⟨a0, a1, a2, a3, a4, a5, a6, a7, rfl⟩
theorem list11 {α : Type} {l : List α} (h : l.length = 11) : ∃ a0 a1 a2 a3 a4 a5 a6 a7 a8 a9 a10, l = [a0, a1, a2, a3, a4, a5, a6, a7, a8, a9, a10] := by
  match l, h with
  | [a0, a1, a2, a3, a4, a5, a6, a7, a8, a9, a10], _ => exact ⟨a0, a1, a2, a3, a4, a5, a6, a7, a8, a9, a10, rfl⟩
theorem list12 {α : Type} {l : List α} (h : l.length = 12) : ∃ a0 a1 a2 a3 a4 a5 a6 a7 a8 a9 a10 a11, l = [a0, a1, a2, a3, a4, a5, a6, a7, a8, a9, a10, a11] := by
  match l, h with
  | [a0, a1, a2, a3, a4, a5, a6, a7, a8, a9, a10, a11], _ => exact ⟨a0, a1, a2, a3, a4, a5, a6, a7, a8, a9, a10, a11, rfl⟩
abbrev PtrD := Int × Int × Int × Int × Int
def PtrR : Reads PtrD := fun w lo hi cs x => cs = [.int .i64 x.1, .int .i64 x.2.1, .int .i64 x.2.2.1, .int .i64 x.2.2.2.1, .int .i64 x.2.2.2.2]
theorem PtrR.keep {w w' : World} {lo hi : Nat} (hs : Same lo hi w w') (hz : w.heap.size ≤ w'.heap.size) (cs : List Value) (x : PtrD) (h : PtrR w lo hi cs x) : PtrR w' lo hi cs x := by
  exact h
theorem PtrR.wide {w : World} {lo hi lo' hi' : Nat} (b1 : lo' ≤ lo) (b2 : hi ≤ hi') (b3 : hi' ≤ w.heap.size) (cs : List Value) (x : PtrD) (h : PtrR w lo hi cs x) : PtrR w lo' hi' cs x := by
  exact h
theorem PtrR.new {B lo2 : Nat} {w2 W : World} {cs : List Value} {x : PtrD} (hst : Step B w2 W) (hlo : B ≤ lo2) (h : PtrR w2 lo2 w2.heap.size cs x) : PtrR W B W.heap.size cs x := by
  have h1 := PtrR.wide hlo (Nat.le_refl _) (Nat.le_refl _) cs x h
  have h2 := PtrR.keep (fun k a b => hst.2 k a b) (Nat.le_of_eq hst.1.symm) cs x h1
  rw [hst.1]; exact h2
theorem PtrR.old {B : Nat} {wr w2 W : World} {cs : List Value} {x : PtrD} (hb : Below wr.heap.size wr w2) (hst : Step B w2 W) (h : PtrR wr B wr.heap.size cs x) : PtrR W B W.heap.size cs x := by
  have h1 := PtrR.keep (Same.of_below hb (Nat.le_refl _)) hb.size cs x h
  exact PtrR.new hst (Nat.le_refl _) (PtrR.wide (Nat.le_refl _) hb.size (Nat.le_refl _) cs x h1)
theorem PtrR.below {w w' : World} {lo hi : Nat} (hb : Below w.heap.size w w') (hhi : hi ≤ w.heap.size) (cs : List Value) (x : PtrD) (h : PtrR w lo hi cs x) : PtrR w' lo hi cs x := PtrR.keep (Same.of_below hb hhi) hb.size cs x h
theorem PtrR.len {w : World} {lo hi : Nat} {cs : List Value} {x : PtrD} (h : PtrR w lo hi cs x) : cs.length = 5 := by
  obtain rfl := h; rfl

abbrev TreeD := PtrD × Int × Int
def TreeR : Reads TreeD := fun w lo hi cs x => cs = [.int .i64 x.1.1, .int .i64 x.1.2.1, .int .i64 x.1.2.2.1, .int .i64 x.1.2.2.2.1, .int .i64 x.1.2.2.2.2, .int .i64 x.2.1, .int .i64 x.2.2]
theorem TreeR.keep {w w' : World} {lo hi : Nat} (hs : Same lo hi w w') (hz : w.heap.size ≤ w'.heap.size) (cs : List Value) (x : TreeD) (h : TreeR w lo hi cs x) : TreeR w' lo hi cs x := by
  exact h
theorem TreeR.wide {w : World} {lo hi lo' hi' : Nat} (b1 : lo' ≤ lo) (b2 : hi ≤ hi') (b3 : hi' ≤ w.heap.size) (cs : List Value) (x : TreeD) (h : TreeR w lo hi cs x) : TreeR w lo' hi' cs x := by
  exact h
theorem TreeR.new {B lo2 : Nat} {w2 W : World} {cs : List Value} {x : TreeD} (hst : Step B w2 W) (hlo : B ≤ lo2) (h : TreeR w2 lo2 w2.heap.size cs x) : TreeR W B W.heap.size cs x := by
  have h1 := TreeR.wide hlo (Nat.le_refl _) (Nat.le_refl _) cs x h
  have h2 := TreeR.keep (fun k a b => hst.2 k a b) (Nat.le_of_eq hst.1.symm) cs x h1
  rw [hst.1]; exact h2
theorem TreeR.old {B : Nat} {wr w2 W : World} {cs : List Value} {x : TreeD} (hb : Below wr.heap.size wr w2) (hst : Step B w2 W) (h : TreeR wr B wr.heap.size cs x) : TreeR W B W.heap.size cs x := by
  have h1 := TreeR.keep (Same.of_below hb (Nat.le_refl _)) hb.size cs x h
  exact TreeR.new hst (Nat.le_refl _) (TreeR.wide (Nat.le_refl _) hb.size (Nat.le_refl _) cs x h1)
theorem TreeR.below {w w' : World} {lo hi : Nat} (hb : Below w.heap.size w w') (hhi : hi ≤ w.heap.size) (cs : List Value) (x : TreeD) (h : TreeR w lo hi cs x) : TreeR w' lo hi cs x := TreeR.keep (Same.of_below hb hhi) hb.size cs x h
theorem TreeR.len {w : World} {lo hi : Nat} {cs : List Value} {x : TreeD} (h : TreeR w lo hi cs x) : cs.length = 7 := by
  obtain rfl := h; rfl

abbrev RootD := Int × TreeD
def RootR : Reads RootD := fun w lo hi cs x => cs = [.int .i64 x.1, .int .i64 x.2.1.1, .int .i64 x.2.1.2.1, .int .i64 x.2.1.2.2.1, .int .i64 x.2.1.2.2.2.1, .int .i64 x.2.1.2.2.2.2, .int .i64 x.2.2.1, .int .i64 x.2.2.2]
theorem RootR.keep {w w' : World} {lo hi : Nat} (hs : Same lo hi w w') (hz : w.heap.size ≤ w'.heap.size) (cs : List Value) (x : RootD) (h : RootR w lo hi cs x) : RootR w' lo hi cs x := by
  exact h
theorem RootR.wide {w : World} {lo hi lo' hi' : Nat} (b1 : lo' ≤ lo) (b2 : hi ≤ hi') (b3 : hi' ≤ w.heap.size) (cs : List Value) (x : RootD) (h : RootR w lo hi cs x) : RootR w lo' hi' cs x := by
  exact h
theorem RootR.new {B lo2 : Nat} {w2 W : World} {cs : List Value} {x : RootD} (hst : Step B w2 W) (hlo : B ≤ lo2) (h : RootR w2 lo2 w2.heap.size cs x) : RootR W B W.heap.size cs x := by
  have h1 := RootR.wide hlo (Nat.le_refl _) (Nat.le_refl _) cs x h
  have h2 := RootR.keep (fun k a b => hst.2 k a b) (Nat.le_of_eq hst.1.symm) cs x h1
  rw [hst.1]; exact h2
theorem RootR.old {B : Nat} {wr w2 W : World} {cs : List Value} {x : RootD} (hb : Below wr.heap.size wr w2) (hst : Step B w2 W) (h : RootR wr B wr.heap.size cs x) : RootR W B W.heap.size cs x := by
  have h1 := RootR.keep (Same.of_below hb (Nat.le_refl _)) hb.size cs x h
  exact RootR.new hst (Nat.le_refl _) (RootR.wide (Nat.le_refl _) hb.size (Nat.le_refl _) cs x h1)
theorem RootR.below {w w' : World} {lo hi : Nat} (hb : Below w.heap.size w w') (hhi : hi ≤ w.heap.size) (cs : List Value) (x : RootD) (h : RootR w lo hi cs x) : RootR w' lo hi cs x := RootR.keep (Same.of_below hb hhi) hb.size cs x h
theorem RootR.len {w : World} {lo hi : Nat} {cs : List Value} {x : RootD} (h : RootR w lo hi cs x) : cs.length = 8 := by
  obtain rfl := h; rfl

abbrev SpaceD := (List Int) × (List Int)
def SpaceR : Reads SpaceD := fun w lo hi cs x => ∃ (A0 : Option Addr) (n0 c0 : Nat) (A1 : Option Addr) (n1 c1 : Nat), cs = [.slice A0 n0 c0, .slice A1 n1 c1] ∧ SliceR IntR 1 w lo hi A0 n0 c0 x.1 ∧ SliceR IntR 1 w lo hi A1 n1 c1 x.2
theorem SpaceR.keep {w w' : World} {lo hi : Nat} (hs : Same lo hi w w') (hz : w.heap.size ≤ w'.heap.size) (cs : List Value) (x : SpaceD) (h : SpaceR w lo hi cs x) : SpaceR w' lo hi cs x := by
  obtain ⟨A0, n0, c0, A1, n1, c1, rfl, h0, h1⟩ := h
  exact ⟨A0, n0, c0, A1, n1, c1, rfl, h0.keep hs hz (IntR.keep hs hz), h1.keep hs hz (IntR.keep hs hz)⟩
theorem SpaceR.wide {w : World} {lo hi lo' hi' : Nat} (b1 : lo' ≤ lo) (b2 : hi ≤ hi') (b3 : hi' ≤ w.heap.size) (cs : List Value) (x : SpaceD) (h : SpaceR w lo hi cs x) : SpaceR w lo' hi' cs x := by
  obtain ⟨A0, n0, c0, A1, n1, c1, rfl, h0, h1⟩ := h
  exact ⟨A0, n0, c0, A1, n1, c1, rfl, h0.wide b1 b2 b3 (IntR.wide b1 b2 b3), h1.wide b1 b2 b3 (IntR.wide b1 b2 b3)⟩
theorem SpaceR.new {B lo2 : Nat} {w2 W : World} {cs : List Value} {x : SpaceD} (hst : Step B w2 W) (hlo : B ≤ lo2) (h : SpaceR w2 lo2 w2.heap.size cs x) : SpaceR W B W.heap.size cs x := by
  have h1 := SpaceR.wide hlo (Nat.le_refl _) (Nat.le_refl _) cs x h
  have h2 := SpaceR.keep (fun k a b => hst.2 k a b) (Nat.le_of_eq hst.1.symm) cs x h1
  rw [hst.1]; exact h2
theorem SpaceR.old {B : Nat} {wr w2 W : World} {cs : List Value} {x : SpaceD} (hb : Below wr.heap.size wr w2) (hst : Step B w2 W) (h : SpaceR wr B wr.heap.size cs x) : SpaceR W B W.heap.size cs x := by
  have h1 := SpaceR.keep (Same.of_below hb (Nat.le_refl _)) hb.size cs x h
  exact SpaceR.new hst (Nat.le_refl _) (SpaceR.wide (Nat.le_refl _) hb.size (Nat.le_refl _) cs x h1)
theorem SpaceR.below {w w' : World} {lo hi : Nat} (hb : Below w.heap.size w w') (hhi : hi ≤ w.heap.size) (cs : List Value) (x : SpaceD) (h : SpaceR w lo hi cs x) : SpaceR w' lo hi cs x := SpaceR.keep (Same.of_below hb hhi) hb.size cs x h
theorem SpaceR.len {w : World} {lo hi : Nat} {cs : List Value} {x : SpaceD} (h : SpaceR w lo hi cs x) : cs.length = 2 := by
  obtain ⟨A0, n0, c0, A1, n1, c1, rfl, h0, h1⟩ := h; rfl

abbrev StoreD := (List ByteArray) × SpaceD × Int × (List PtrD) × Int × (List PtrD) × Bool
def StoreR : Reads StoreD := fun w lo hi cs x => ∃ (A0 : Option Addr) (n0 c0 : Nat) (A1 : Option Addr) (n1 c1 : Nat) (A2 : Option Addr) (n2 c2 : Nat) (A3 : Option Addr) (n3 c3 : Nat) (A4 : Option Addr) (n4 c4 : Nat), cs = [.slice A0 n0 c0, .slice A1 n1 c1, .slice A2 n2 c2, .int .i64 x.2.2.1, .slice A3 n3 c3, .int .i64 x.2.2.2.2.1, .slice A4 n4 c4, .bool x.2.2.2.2.2.2] ∧ SliceR StrR 1 w lo hi A0 n0 c0 x.1 ∧ SliceR IntR 1 w lo hi A1 n1 c1 x.2.1.1 ∧ SliceR IntR 1 w lo hi A2 n2 c2 x.2.1.2 ∧ SliceR PtrR 5 w lo hi A3 n3 c3 x.2.2.2.1 ∧ SliceR PtrR 5 w lo hi A4 n4 c4 x.2.2.2.2.2.1
theorem StoreR.keep {w w' : World} {lo hi : Nat} (hs : Same lo hi w w') (hz : w.heap.size ≤ w'.heap.size) (cs : List Value) (x : StoreD) (h : StoreR w lo hi cs x) : StoreR w' lo hi cs x := by
  obtain ⟨A0, n0, c0, A1, n1, c1, A2, n2, c2, A3, n3, c3, A4, n4, c4, rfl, h0, h1, h2, h3, h4⟩ := h
  exact ⟨A0, n0, c0, A1, n1, c1, A2, n2, c2, A3, n3, c3, A4, n4, c4, rfl, h0.keep hs hz (StrR.keep hs hz), h1.keep hs hz (IntR.keep hs hz), h2.keep hs hz (IntR.keep hs hz), h3.keep hs hz (PtrR.keep hs hz), h4.keep hs hz (PtrR.keep hs hz)⟩
theorem StoreR.wide {w : World} {lo hi lo' hi' : Nat} (b1 : lo' ≤ lo) (b2 : hi ≤ hi') (b3 : hi' ≤ w.heap.size) (cs : List Value) (x : StoreD) (h : StoreR w lo hi cs x) : StoreR w lo' hi' cs x := by
  obtain ⟨A0, n0, c0, A1, n1, c1, A2, n2, c2, A3, n3, c3, A4, n4, c4, rfl, h0, h1, h2, h3, h4⟩ := h
  exact ⟨A0, n0, c0, A1, n1, c1, A2, n2, c2, A3, n3, c3, A4, n4, c4, rfl, h0.wide b1 b2 b3 (StrR.wide b1 b2 b3), h1.wide b1 b2 b3 (IntR.wide b1 b2 b3), h2.wide b1 b2 b3 (IntR.wide b1 b2 b3), h3.wide b1 b2 b3 (PtrR.wide b1 b2 b3), h4.wide b1 b2 b3 (PtrR.wide b1 b2 b3)⟩
theorem StoreR.new {B lo2 : Nat} {w2 W : World} {cs : List Value} {x : StoreD} (hst : Step B w2 W) (hlo : B ≤ lo2) (h : StoreR w2 lo2 w2.heap.size cs x) : StoreR W B W.heap.size cs x := by
  have h1 := StoreR.wide hlo (Nat.le_refl _) (Nat.le_refl _) cs x h
  have h2 := StoreR.keep (fun k a b => hst.2 k a b) (Nat.le_of_eq hst.1.symm) cs x h1
  rw [hst.1]; exact h2
theorem StoreR.old {B : Nat} {wr w2 W : World} {cs : List Value} {x : StoreD} (hb : Below wr.heap.size wr w2) (hst : Step B w2 W) (h : StoreR wr B wr.heap.size cs x) : StoreR W B W.heap.size cs x := by
  have h1 := StoreR.keep (Same.of_below hb (Nat.le_refl _)) hb.size cs x h
  exact StoreR.new hst (Nat.le_refl _) (StoreR.wide (Nat.le_refl _) hb.size (Nat.le_refl _) cs x h1)
theorem StoreR.below {w w' : World} {lo hi : Nat} (hb : Below w.heap.size w w') (hhi : hi ≤ w.heap.size) (cs : List Value) (x : StoreD) (h : StoreR w lo hi cs x) : StoreR w' lo hi cs x := StoreR.keep (Same.of_below hb hhi) hb.size cs x h
theorem StoreR.len {w : World} {lo hi : Nat} {cs : List Value} {x : StoreD} (h : StoreR w lo hi cs x) : cs.length = 8 := by
  obtain ⟨A0, n0, c0, A1, n1, c1, A2, n2, c2, A3, n3, c3, A4, n4, c4, rfl, h0, h1, h2, h3, h4⟩ := h; rfl

abbrev EntryD := ByteArray × Int
def EntryR : Reads EntryD := fun w lo hi cs x => cs = [.string x.1, .int .i64 x.2] ∧ x.1.size ≤ maxLen
theorem EntryR.keep {w w' : World} {lo hi : Nat} (hs : Same lo hi w w') (hz : w.heap.size ≤ w'.heap.size) (cs : List Value) (x : EntryD) (h : EntryR w lo hi cs x) : EntryR w' lo hi cs x := by
  exact h
theorem EntryR.wide {w : World} {lo hi lo' hi' : Nat} (b1 : lo' ≤ lo) (b2 : hi ≤ hi') (b3 : hi' ≤ w.heap.size) (cs : List Value) (x : EntryD) (h : EntryR w lo hi cs x) : EntryR w lo' hi' cs x := by
  exact h
theorem EntryR.new {B lo2 : Nat} {w2 W : World} {cs : List Value} {x : EntryD} (hst : Step B w2 W) (hlo : B ≤ lo2) (h : EntryR w2 lo2 w2.heap.size cs x) : EntryR W B W.heap.size cs x := by
  have h1 := EntryR.wide hlo (Nat.le_refl _) (Nat.le_refl _) cs x h
  have h2 := EntryR.keep (fun k a b => hst.2 k a b) (Nat.le_of_eq hst.1.symm) cs x h1
  rw [hst.1]; exact h2
theorem EntryR.old {B : Nat} {wr w2 W : World} {cs : List Value} {x : EntryD} (hb : Below wr.heap.size wr w2) (hst : Step B w2 W) (h : EntryR wr B wr.heap.size cs x) : EntryR W B W.heap.size cs x := by
  have h1 := EntryR.keep (Same.of_below hb (Nat.le_refl _)) hb.size cs x h
  exact EntryR.new hst (Nat.le_refl _) (EntryR.wide (Nat.le_refl _) hb.size (Nat.le_refl _) cs x h1)
theorem EntryR.below {w w' : World} {lo hi : Nat} (hb : Below w.heap.size w w') (hhi : hi ≤ w.heap.size) (cs : List Value) (x : EntryD) (h : EntryR w lo hi cs x) : EntryR w' lo hi cs x := EntryR.keep (Same.of_below hb hhi) hb.size cs x h
theorem EntryR.len {w : World} {lo hi : Nat} {cs : List Value} {x : EntryD} (h : EntryR w lo hi cs x) : cs.length = 2 := by
  obtain ⟨rfl, h0⟩ := h; rfl

abbrev OpD := Int × ByteArray × ByteArray × Int × ByteArray
def OpR : Reads OpD := fun w lo hi cs x => cs = [.int .i64 x.1, .string x.2.1, .string x.2.2.1, .int .i64 x.2.2.2.1, .string x.2.2.2.2] ∧ x.2.1.size ≤ maxLen ∧ x.2.2.1.size ≤ maxLen ∧ x.2.2.2.2.size ≤ maxLen
theorem OpR.keep {w w' : World} {lo hi : Nat} (hs : Same lo hi w w') (hz : w.heap.size ≤ w'.heap.size) (cs : List Value) (x : OpD) (h : OpR w lo hi cs x) : OpR w' lo hi cs x := by
  exact h
theorem OpR.wide {w : World} {lo hi lo' hi' : Nat} (b1 : lo' ≤ lo) (b2 : hi ≤ hi') (b3 : hi' ≤ w.heap.size) (cs : List Value) (x : OpD) (h : OpR w lo hi cs x) : OpR w lo' hi' cs x := by
  exact h
theorem OpR.new {B lo2 : Nat} {w2 W : World} {cs : List Value} {x : OpD} (hst : Step B w2 W) (hlo : B ≤ lo2) (h : OpR w2 lo2 w2.heap.size cs x) : OpR W B W.heap.size cs x := by
  have h1 := OpR.wide hlo (Nat.le_refl _) (Nat.le_refl _) cs x h
  have h2 := OpR.keep (fun k a b => hst.2 k a b) (Nat.le_of_eq hst.1.symm) cs x h1
  rw [hst.1]; exact h2
theorem OpR.old {B : Nat} {wr w2 W : World} {cs : List Value} {x : OpD} (hb : Below wr.heap.size wr w2) (hst : Step B w2 W) (h : OpR wr B wr.heap.size cs x) : OpR W B W.heap.size cs x := by
  have h1 := OpR.keep (Same.of_below hb (Nat.le_refl _)) hb.size cs x h
  exact OpR.new hst (Nat.le_refl _) (OpR.wide (Nat.le_refl _) hb.size (Nat.le_refl _) cs x h1)
theorem OpR.below {w w' : World} {lo hi : Nat} (hb : Below w.heap.size w w') (hhi : hi ≤ w.heap.size) (cs : List Value) (x : OpD) (h : OpR w lo hi cs x) : OpR w' lo hi cs x := OpR.keep (Same.of_below hb hhi) hb.size cs x h
theorem OpR.len {w : World} {lo hi : Nat} {cs : List Value} {x : OpD} (h : OpR w lo hi cs x) : cs.length = 5 := by
  obtain ⟨rfl, h0, h1, h2⟩ := h; rfl

abbrev FoundD := ByteArray × Int
def FoundR : Reads FoundD := fun w lo hi cs x => cs = [.string x.1, .int .i64 x.2] ∧ x.1.size ≤ maxLen
theorem FoundR.keep {w w' : World} {lo hi : Nat} (hs : Same lo hi w w') (hz : w.heap.size ≤ w'.heap.size) (cs : List Value) (x : FoundD) (h : FoundR w lo hi cs x) : FoundR w' lo hi cs x := by
  exact h
theorem FoundR.wide {w : World} {lo hi lo' hi' : Nat} (b1 : lo' ≤ lo) (b2 : hi ≤ hi') (b3 : hi' ≤ w.heap.size) (cs : List Value) (x : FoundD) (h : FoundR w lo hi cs x) : FoundR w lo' hi' cs x := by
  exact h
theorem FoundR.new {B lo2 : Nat} {w2 W : World} {cs : List Value} {x : FoundD} (hst : Step B w2 W) (hlo : B ≤ lo2) (h : FoundR w2 lo2 w2.heap.size cs x) : FoundR W B W.heap.size cs x := by
  have h1 := FoundR.wide hlo (Nat.le_refl _) (Nat.le_refl _) cs x h
  have h2 := FoundR.keep (fun k a b => hst.2 k a b) (Nat.le_of_eq hst.1.symm) cs x h1
  rw [hst.1]; exact h2
theorem FoundR.old {B : Nat} {wr w2 W : World} {cs : List Value} {x : FoundD} (hb : Below wr.heap.size wr w2) (hst : Step B w2 W) (h : FoundR wr B wr.heap.size cs x) : FoundR W B W.heap.size cs x := by
  have h1 := FoundR.keep (Same.of_below hb (Nat.le_refl _)) hb.size cs x h
  exact FoundR.new hst (Nat.le_refl _) (FoundR.wide (Nat.le_refl _) hb.size (Nat.le_refl _) cs x h1)
theorem FoundR.below {w w' : World} {lo hi : Nat} (hb : Below w.heap.size w w') (hhi : hi ≤ w.heap.size) (cs : List Value) (x : FoundD) (h : FoundR w lo hi cs x) : FoundR w' lo hi cs x := FoundR.keep (Same.of_below hb hhi) hb.size cs x h
theorem FoundR.len {w : World} {lo hi : Nat} {cs : List Value} {x : FoundD} (h : FoundR w lo hi cs x) : cs.length = 2 := by
  obtain ⟨rfl, h0⟩ := h; rfl

abbrev ThingD := Int × Bool × ByteArray
def ThingR : Reads ThingD := fun w lo hi cs x => cs = [.int .i64 x.1, .bool x.2.1, .string x.2.2] ∧ x.2.2.size ≤ maxLen
theorem ThingR.keep {w w' : World} {lo hi : Nat} (hs : Same lo hi w w') (hz : w.heap.size ≤ w'.heap.size) (cs : List Value) (x : ThingD) (h : ThingR w lo hi cs x) : ThingR w' lo hi cs x := by
  exact h
theorem ThingR.wide {w : World} {lo hi lo' hi' : Nat} (b1 : lo' ≤ lo) (b2 : hi ≤ hi') (b3 : hi' ≤ w.heap.size) (cs : List Value) (x : ThingD) (h : ThingR w lo hi cs x) : ThingR w lo' hi' cs x := by
  exact h
theorem ThingR.new {B lo2 : Nat} {w2 W : World} {cs : List Value} {x : ThingD} (hst : Step B w2 W) (hlo : B ≤ lo2) (h : ThingR w2 lo2 w2.heap.size cs x) : ThingR W B W.heap.size cs x := by
  have h1 := ThingR.wide hlo (Nat.le_refl _) (Nat.le_refl _) cs x h
  have h2 := ThingR.keep (fun k a b => hst.2 k a b) (Nat.le_of_eq hst.1.symm) cs x h1
  rw [hst.1]; exact h2
theorem ThingR.old {B : Nat} {wr w2 W : World} {cs : List Value} {x : ThingD} (hb : Below wr.heap.size wr w2) (hst : Step B w2 W) (h : ThingR wr B wr.heap.size cs x) : ThingR W B W.heap.size cs x := by
  have h1 := ThingR.keep (Same.of_below hb (Nat.le_refl _)) hb.size cs x h
  exact ThingR.new hst (Nat.le_refl _) (ThingR.wide (Nat.le_refl _) hb.size (Nat.le_refl _) cs x h1)
theorem ThingR.below {w w' : World} {lo hi : Nat} (hb : Below w.heap.size w w') (hhi : hi ≤ w.heap.size) (cs : List Value) (x : ThingD) (h : ThingR w lo hi cs x) : ThingR w' lo hi cs x := ThingR.keep (Same.of_below hb hhi) hb.size cs x h
theorem ThingR.len {w : World} {lo hi : Nat} {cs : List Value} {x : ThingD} (h : ThingR w lo hi cs x) : cs.length = 3 := by
  obtain ⟨rfl, h0⟩ := h; rfl

abbrev FlatD := (List FoundD) × (List ThingD)
def FlatR : Reads FlatD := fun w lo hi cs x => ∃ (A0 : Option Addr) (n0 c0 : Nat) (A1 : Option Addr) (n1 c1 : Nat), cs = [.slice A0 n0 c0, .slice A1 n1 c1] ∧ SliceR FoundR 2 w lo hi A0 n0 c0 x.1 ∧ SliceR ThingR 3 w lo hi A1 n1 c1 x.2
theorem FlatR.keep {w w' : World} {lo hi : Nat} (hs : Same lo hi w w') (hz : w.heap.size ≤ w'.heap.size) (cs : List Value) (x : FlatD) (h : FlatR w lo hi cs x) : FlatR w' lo hi cs x := by
  obtain ⟨A0, n0, c0, A1, n1, c1, rfl, h0, h1⟩ := h
  exact ⟨A0, n0, c0, A1, n1, c1, rfl, h0.keep hs hz (FoundR.keep hs hz), h1.keep hs hz (ThingR.keep hs hz)⟩
theorem FlatR.wide {w : World} {lo hi lo' hi' : Nat} (b1 : lo' ≤ lo) (b2 : hi ≤ hi') (b3 : hi' ≤ w.heap.size) (cs : List Value) (x : FlatD) (h : FlatR w lo hi cs x) : FlatR w lo' hi' cs x := by
  obtain ⟨A0, n0, c0, A1, n1, c1, rfl, h0, h1⟩ := h
  exact ⟨A0, n0, c0, A1, n1, c1, rfl, h0.wide b1 b2 b3 (FoundR.wide b1 b2 b3), h1.wide b1 b2 b3 (ThingR.wide b1 b2 b3)⟩
theorem FlatR.new {B lo2 : Nat} {w2 W : World} {cs : List Value} {x : FlatD} (hst : Step B w2 W) (hlo : B ≤ lo2) (h : FlatR w2 lo2 w2.heap.size cs x) : FlatR W B W.heap.size cs x := by
  have h1 := FlatR.wide hlo (Nat.le_refl _) (Nat.le_refl _) cs x h
  have h2 := FlatR.keep (fun k a b => hst.2 k a b) (Nat.le_of_eq hst.1.symm) cs x h1
  rw [hst.1]; exact h2
theorem FlatR.old {B : Nat} {wr w2 W : World} {cs : List Value} {x : FlatD} (hb : Below wr.heap.size wr w2) (hst : Step B w2 W) (h : FlatR wr B wr.heap.size cs x) : FlatR W B W.heap.size cs x := by
  have h1 := FlatR.keep (Same.of_below hb (Nat.le_refl _)) hb.size cs x h
  exact FlatR.new hst (Nat.le_refl _) (FlatR.wide (Nat.le_refl _) hb.size (Nat.le_refl _) cs x h1)
theorem FlatR.below {w w' : World} {lo hi : Nat} (hb : Below w.heap.size w w') (hhi : hi ≤ w.heap.size) (cs : List Value) (x : FlatD) (h : FlatR w lo hi cs x) : FlatR w' lo hi cs x := FlatR.keep (Same.of_below hb hhi) hb.size cs x h
theorem FlatR.len {w : World} {lo hi : Nat} {cs : List Value} {x : FlatD} (h : FlatR w lo hi cs x) : cs.length = 2 := by
  obtain ⟨A0, n0, c0, A1, n1, c1, rfl, h0, h1⟩ := h; rfl

abbrev HeadD := ByteArray × Int × TreeD × (List PtrD) × Int
def HeadR : Reads HeadD := fun w lo hi cs x => ∃ (A0 : Option Addr) (n0 c0 : Nat), cs = [.string x.1, .int .i64 x.2.1, .int .i64 x.2.2.1.1.1, .int .i64 x.2.2.1.1.2.1, .int .i64 x.2.2.1.1.2.2.1, .int .i64 x.2.2.1.1.2.2.2.1, .int .i64 x.2.2.1.1.2.2.2.2, .int .i64 x.2.2.1.2.1, .int .i64 x.2.2.1.2.2, .slice A0 n0 c0, .int .i64 x.2.2.2.2] ∧ x.1.size ≤ maxLen ∧ SliceR PtrR 5 w lo hi A0 n0 c0 x.2.2.2.1
theorem HeadR.keep {w w' : World} {lo hi : Nat} (hs : Same lo hi w w') (hz : w.heap.size ≤ w'.heap.size) (cs : List Value) (x : HeadD) (h : HeadR w lo hi cs x) : HeadR w' lo hi cs x := by
  obtain ⟨A0, n0, c0, rfl, h0, h1⟩ := h
  exact ⟨A0, n0, c0, rfl, h0, h1.keep hs hz (PtrR.keep hs hz)⟩
theorem HeadR.wide {w : World} {lo hi lo' hi' : Nat} (b1 : lo' ≤ lo) (b2 : hi ≤ hi') (b3 : hi' ≤ w.heap.size) (cs : List Value) (x : HeadD) (h : HeadR w lo hi cs x) : HeadR w lo' hi' cs x := by
  obtain ⟨A0, n0, c0, rfl, h0, h1⟩ := h
  exact ⟨A0, n0, c0, rfl, h0, h1.wide b1 b2 b3 (PtrR.wide b1 b2 b3)⟩
theorem HeadR.new {B lo2 : Nat} {w2 W : World} {cs : List Value} {x : HeadD} (hst : Step B w2 W) (hlo : B ≤ lo2) (h : HeadR w2 lo2 w2.heap.size cs x) : HeadR W B W.heap.size cs x := by
  have h1 := HeadR.wide hlo (Nat.le_refl _) (Nat.le_refl _) cs x h
  have h2 := HeadR.keep (fun k a b => hst.2 k a b) (Nat.le_of_eq hst.1.symm) cs x h1
  rw [hst.1]; exact h2
theorem HeadR.old {B : Nat} {wr w2 W : World} {cs : List Value} {x : HeadD} (hb : Below wr.heap.size wr w2) (hst : Step B w2 W) (h : HeadR wr B wr.heap.size cs x) : HeadR W B W.heap.size cs x := by
  have h1 := HeadR.keep (Same.of_below hb (Nat.le_refl _)) hb.size cs x h
  exact HeadR.new hst (Nat.le_refl _) (HeadR.wide (Nat.le_refl _) hb.size (Nat.le_refl _) cs x h1)
theorem HeadR.below {w w' : World} {lo hi : Nat} (hb : Below w.heap.size w w') (hhi : hi ≤ w.heap.size) (cs : List Value) (x : HeadD) (h : HeadR w lo hi cs x) : HeadR w' lo hi cs x := HeadR.keep (Same.of_below hb hhi) hb.size cs x h
theorem HeadR.len {w : World} {lo hi : Nat} {cs : List Value} {x : HeadD} (h : HeadR w lo hi cs x) : cs.length = 11 := by
  obtain ⟨A0, n0, c0, rfl, h0, h1⟩ := h; rfl

abbrev SnapD := Int × ByteArray × Int × Int × TreeD × (List PtrD)
def SnapR : Reads SnapD := fun w lo hi cs x => ∃ (A0 : Option Addr) (n0 c0 : Nat), cs = [.int .i64 x.1, .string x.2.1, .int .i64 x.2.2.1, .int .i64 x.2.2.2.1, .int .i64 x.2.2.2.2.1.1.1, .int .i64 x.2.2.2.2.1.1.2.1, .int .i64 x.2.2.2.2.1.1.2.2.1, .int .i64 x.2.2.2.2.1.1.2.2.2.1, .int .i64 x.2.2.2.2.1.1.2.2.2.2, .int .i64 x.2.2.2.2.1.2.1, .int .i64 x.2.2.2.2.1.2.2, .slice A0 n0 c0] ∧ x.2.1.size ≤ maxLen ∧ SliceR PtrR 5 w lo hi A0 n0 c0 x.2.2.2.2.2
theorem SnapR.keep {w w' : World} {lo hi : Nat} (hs : Same lo hi w w') (hz : w.heap.size ≤ w'.heap.size) (cs : List Value) (x : SnapD) (h : SnapR w lo hi cs x) : SnapR w' lo hi cs x := by
  obtain ⟨A0, n0, c0, rfl, h0, h1⟩ := h
  exact ⟨A0, n0, c0, rfl, h0, h1.keep hs hz (PtrR.keep hs hz)⟩
theorem SnapR.wide {w : World} {lo hi lo' hi' : Nat} (b1 : lo' ≤ lo) (b2 : hi ≤ hi') (b3 : hi' ≤ w.heap.size) (cs : List Value) (x : SnapD) (h : SnapR w lo hi cs x) : SnapR w lo' hi' cs x := by
  obtain ⟨A0, n0, c0, rfl, h0, h1⟩ := h
  exact ⟨A0, n0, c0, rfl, h0, h1.wide b1 b2 b3 (PtrR.wide b1 b2 b3)⟩
theorem SnapR.new {B lo2 : Nat} {w2 W : World} {cs : List Value} {x : SnapD} (hst : Step B w2 W) (hlo : B ≤ lo2) (h : SnapR w2 lo2 w2.heap.size cs x) : SnapR W B W.heap.size cs x := by
  have h1 := SnapR.wide hlo (Nat.le_refl _) (Nat.le_refl _) cs x h
  have h2 := SnapR.keep (fun k a b => hst.2 k a b) (Nat.le_of_eq hst.1.symm) cs x h1
  rw [hst.1]; exact h2
theorem SnapR.old {B : Nat} {wr w2 W : World} {cs : List Value} {x : SnapD} (hb : Below wr.heap.size wr w2) (hst : Step B w2 W) (h : SnapR wr B wr.heap.size cs x) : SnapR W B W.heap.size cs x := by
  have h1 := SnapR.keep (Same.of_below hb (Nat.le_refl _)) hb.size cs x h
  exact SnapR.new hst (Nat.le_refl _) (SnapR.wide (Nat.le_refl _) hb.size (Nat.le_refl _) cs x h1)
theorem SnapR.below {w w' : World} {lo hi : Nat} (hb : Below w.heap.size w w') (hhi : hi ≤ w.heap.size) (cs : List Value) (x : SnapD) (h : SnapR w lo hi cs x) : SnapR w' lo hi cs x := SnapR.keep (Same.of_below hb hhi) hb.size cs x h
theorem SnapR.len {w : World} {lo hi : Nat} {cs : List Value} {x : SnapD} (h : SnapR w lo hi cs x) : cs.length = 12 := by
  obtain ⟨A0, n0, c0, rfl, h0, h1⟩ := h; rfl

abbrev MetaD := (List HeadD) × (List SnapD) × Int × Bool
def MetaR : Reads MetaD := fun w lo hi cs x => ∃ (A0 : Option Addr) (n0 c0 : Nat) (A1 : Option Addr) (n1 c1 : Nat), cs = [.slice A0 n0 c0, .slice A1 n1 c1, .int .i64 x.2.2.1, .bool x.2.2.2] ∧ SliceR HeadR 11 w lo hi A0 n0 c0 x.1 ∧ SliceR SnapR 12 w lo hi A1 n1 c1 x.2.1
theorem MetaR.keep {w w' : World} {lo hi : Nat} (hs : Same lo hi w w') (hz : w.heap.size ≤ w'.heap.size) (cs : List Value) (x : MetaD) (h : MetaR w lo hi cs x) : MetaR w' lo hi cs x := by
  obtain ⟨A0, n0, c0, A1, n1, c1, rfl, h0, h1⟩ := h
  exact ⟨A0, n0, c0, A1, n1, c1, rfl, h0.keep hs hz (HeadR.keep hs hz), h1.keep hs hz (SnapR.keep hs hz)⟩
theorem MetaR.wide {w : World} {lo hi lo' hi' : Nat} (b1 : lo' ≤ lo) (b2 : hi ≤ hi') (b3 : hi' ≤ w.heap.size) (cs : List Value) (x : MetaD) (h : MetaR w lo hi cs x) : MetaR w lo' hi' cs x := by
  obtain ⟨A0, n0, c0, A1, n1, c1, rfl, h0, h1⟩ := h
  exact ⟨A0, n0, c0, A1, n1, c1, rfl, h0.wide b1 b2 b3 (HeadR.wide b1 b2 b3), h1.wide b1 b2 b3 (SnapR.wide b1 b2 b3)⟩
theorem MetaR.new {B lo2 : Nat} {w2 W : World} {cs : List Value} {x : MetaD} (hst : Step B w2 W) (hlo : B ≤ lo2) (h : MetaR w2 lo2 w2.heap.size cs x) : MetaR W B W.heap.size cs x := by
  have h1 := MetaR.wide hlo (Nat.le_refl _) (Nat.le_refl _) cs x h
  have h2 := MetaR.keep (fun k a b => hst.2 k a b) (Nat.le_of_eq hst.1.symm) cs x h1
  rw [hst.1]; exact h2
theorem MetaR.old {B : Nat} {wr w2 W : World} {cs : List Value} {x : MetaD} (hb : Below wr.heap.size wr w2) (hst : Step B w2 W) (h : MetaR wr B wr.heap.size cs x) : MetaR W B W.heap.size cs x := by
  have h1 := MetaR.keep (Same.of_below hb (Nat.le_refl _)) hb.size cs x h
  exact MetaR.new hst (Nat.le_refl _) (MetaR.wide (Nat.le_refl _) hb.size (Nat.le_refl _) cs x h1)
theorem MetaR.below {w w' : World} {lo hi : Nat} (hb : Below w.heap.size w w') (hhi : hi ≤ w.heap.size) (cs : List Value) (x : MetaD) (h : MetaR w lo hi cs x) : MetaR w' lo hi cs x := MetaR.keep (Same.of_below hb hhi) hb.size cs x h
theorem MetaR.len {w : World} {lo hi : Nat} {cs : List Value} {x : MetaD} (h : MetaR w lo hi cs x) : cs.length = 4 := by
  obtain ⟨A0, n0, c0, A1, n1, c1, rfl, h0, h1⟩ := h; rfl

abbrev WaitD := Int × ByteArray
def WaitR : Reads WaitD := fun w lo hi cs x => cs = [.int .i64 x.1, .string x.2] ∧ x.2.size ≤ maxLen
theorem WaitR.keep {w w' : World} {lo hi : Nat} (hs : Same lo hi w w') (hz : w.heap.size ≤ w'.heap.size) (cs : List Value) (x : WaitD) (h : WaitR w lo hi cs x) : WaitR w' lo hi cs x := by
  exact h
theorem WaitR.wide {w : World} {lo hi lo' hi' : Nat} (b1 : lo' ≤ lo) (b2 : hi ≤ hi') (b3 : hi' ≤ w.heap.size) (cs : List Value) (x : WaitD) (h : WaitR w lo hi cs x) : WaitR w lo' hi' cs x := by
  exact h
theorem WaitR.new {B lo2 : Nat} {w2 W : World} {cs : List Value} {x : WaitD} (hst : Step B w2 W) (hlo : B ≤ lo2) (h : WaitR w2 lo2 w2.heap.size cs x) : WaitR W B W.heap.size cs x := by
  have h1 := WaitR.wide hlo (Nat.le_refl _) (Nat.le_refl _) cs x h
  have h2 := WaitR.keep (fun k a b => hst.2 k a b) (Nat.le_of_eq hst.1.symm) cs x h1
  rw [hst.1]; exact h2
theorem WaitR.old {B : Nat} {wr w2 W : World} {cs : List Value} {x : WaitD} (hb : Below wr.heap.size wr w2) (hst : Step B w2 W) (h : WaitR wr B wr.heap.size cs x) : WaitR W B W.heap.size cs x := by
  have h1 := WaitR.keep (Same.of_below hb (Nat.le_refl _)) hb.size cs x h
  exact WaitR.new hst (Nat.le_refl _) (WaitR.wide (Nat.le_refl _) hb.size (Nat.le_refl _) cs x h1)
theorem WaitR.below {w w' : World} {lo hi : Nat} (hb : Below w.heap.size w w') (hhi : hi ≤ w.heap.size) (cs : List Value) (x : WaitD) (h : WaitR w lo hi cs x) : WaitR w' lo hi cs x := WaitR.keep (Same.of_below hb hhi) hb.size cs x h
theorem WaitR.len {w : World} {lo hi : Nat} {cs : List Value} {x : WaitD} (h : WaitR w lo hi cs x) : cs.length = 2 := by
  obtain ⟨rfl, h0⟩ := h; rfl

abbrev DiskD := (List ByteArray) × (List WaitD) × Bool
def DiskR : Reads DiskD := fun w lo hi cs x => ∃ (A0 : Option Addr) (n0 c0 : Nat) (A1 : Option Addr) (n1 c1 : Nat), cs = [.slice A0 n0 c0, .slice A1 n1 c1, .bool x.2.2] ∧ SliceR StrR 1 w lo hi A0 n0 c0 x.1 ∧ SliceR WaitR 2 w lo hi A1 n1 c1 x.2.1
theorem DiskR.keep {w w' : World} {lo hi : Nat} (hs : Same lo hi w w') (hz : w.heap.size ≤ w'.heap.size) (cs : List Value) (x : DiskD) (h : DiskR w lo hi cs x) : DiskR w' lo hi cs x := by
  obtain ⟨A0, n0, c0, A1, n1, c1, rfl, h0, h1⟩ := h
  exact ⟨A0, n0, c0, A1, n1, c1, rfl, h0.keep hs hz (StrR.keep hs hz), h1.keep hs hz (WaitR.keep hs hz)⟩
theorem DiskR.wide {w : World} {lo hi lo' hi' : Nat} (b1 : lo' ≤ lo) (b2 : hi ≤ hi') (b3 : hi' ≤ w.heap.size) (cs : List Value) (x : DiskD) (h : DiskR w lo hi cs x) : DiskR w lo' hi' cs x := by
  obtain ⟨A0, n0, c0, A1, n1, c1, rfl, h0, h1⟩ := h
  exact ⟨A0, n0, c0, A1, n1, c1, rfl, h0.wide b1 b2 b3 (StrR.wide b1 b2 b3), h1.wide b1 b2 b3 (WaitR.wide b1 b2 b3)⟩
theorem DiskR.new {B lo2 : Nat} {w2 W : World} {cs : List Value} {x : DiskD} (hst : Step B w2 W) (hlo : B ≤ lo2) (h : DiskR w2 lo2 w2.heap.size cs x) : DiskR W B W.heap.size cs x := by
  have h1 := DiskR.wide hlo (Nat.le_refl _) (Nat.le_refl _) cs x h
  have h2 := DiskR.keep (fun k a b => hst.2 k a b) (Nat.le_of_eq hst.1.symm) cs x h1
  rw [hst.1]; exact h2
theorem DiskR.old {B : Nat} {wr w2 W : World} {cs : List Value} {x : DiskD} (hb : Below wr.heap.size wr w2) (hst : Step B w2 W) (h : DiskR wr B wr.heap.size cs x) : DiskR W B W.heap.size cs x := by
  have h1 := DiskR.keep (Same.of_below hb (Nat.le_refl _)) hb.size cs x h
  exact DiskR.new hst (Nat.le_refl _) (DiskR.wide (Nat.le_refl _) hb.size (Nat.le_refl _) cs x h1)
theorem DiskR.below {w w' : World} {lo hi : Nat} (hb : Below w.heap.size w w') (hhi : hi ≤ w.heap.size) (cs : List Value) (x : DiskD) (h : DiskR w lo hi cs x) : DiskR w' lo hi cs x := DiskR.keep (Same.of_below hb hhi) hb.size cs x h
theorem DiskR.len {w : World} {lo hi : Nat} {cs : List Value} {x : DiskD} (h : DiskR w lo hi cs x) : cs.length = 3 := by
  obtain ⟨A0, n0, c0, A1, n1, c1, rfl, h0, h1⟩ := h; rfl

abbrev RaidD := (List DiskD)
def RaidR : Reads RaidD := fun w lo hi cs x => ∃ (A0 : Option Addr) (n0 c0 : Nat), cs = [.slice A0 n0 c0] ∧ SliceR DiskR 3 w lo hi A0 n0 c0 x
theorem RaidR.keep {w w' : World} {lo hi : Nat} (hs : Same lo hi w w') (hz : w.heap.size ≤ w'.heap.size) (cs : List Value) (x : RaidD) (h : RaidR w lo hi cs x) : RaidR w' lo hi cs x := by
  obtain ⟨A0, n0, c0, rfl, h0⟩ := h
  exact ⟨A0, n0, c0, rfl, h0.keep hs hz (DiskR.keep hs hz)⟩
theorem RaidR.wide {w : World} {lo hi lo' hi' : Nat} (b1 : lo' ≤ lo) (b2 : hi ≤ hi') (b3 : hi' ≤ w.heap.size) (cs : List Value) (x : RaidD) (h : RaidR w lo hi cs x) : RaidR w lo' hi' cs x := by
  obtain ⟨A0, n0, c0, rfl, h0⟩ := h
  exact ⟨A0, n0, c0, rfl, h0.wide b1 b2 b3 (DiskR.wide b1 b2 b3)⟩
theorem RaidR.new {B lo2 : Nat} {w2 W : World} {cs : List Value} {x : RaidD} (hst : Step B w2 W) (hlo : B ≤ lo2) (h : RaidR w2 lo2 w2.heap.size cs x) : RaidR W B W.heap.size cs x := by
  have h1 := RaidR.wide hlo (Nat.le_refl _) (Nat.le_refl _) cs x h
  have h2 := RaidR.keep (fun k a b => hst.2 k a b) (Nat.le_of_eq hst.1.symm) cs x h1
  rw [hst.1]; exact h2
theorem RaidR.old {B : Nat} {wr w2 W : World} {cs : List Value} {x : RaidD} (hb : Below wr.heap.size wr w2) (hst : Step B w2 W) (h : RaidR wr B wr.heap.size cs x) : RaidR W B W.heap.size cs x := by
  have h1 := RaidR.keep (Same.of_below hb (Nat.le_refl _)) hb.size cs x h
  exact RaidR.new hst (Nat.le_refl _) (RaidR.wide (Nat.le_refl _) hb.size (Nat.le_refl _) cs x h1)
theorem RaidR.below {w w' : World} {lo hi : Nat} (hb : Below w.heap.size w w') (hhi : hi ≤ w.heap.size) (cs : List Value) (x : RaidD) (h : RaidR w lo hi cs x) : RaidR w' lo hi cs x := RaidR.keep (Same.of_below hb hhi) hb.size cs x h
theorem RaidR.len {w : World} {lo hi : Nat} {cs : List Value} {x : RaidD} (h : RaidR w lo hi cs x) : cs.length = 1 := by
  obtain ⟨A0, n0, c0, rfl, h0⟩ := h; rfl

abbrev IntentD := Int × Int × ByteArray × OpD
def IntentR : Reads IntentD := fun w lo hi cs x => cs = [.int .i64 x.1, .int .i64 x.2.1, .string x.2.2.1, .int .i64 x.2.2.2.1, .string x.2.2.2.2.1, .string x.2.2.2.2.2.1, .int .i64 x.2.2.2.2.2.2.1, .string x.2.2.2.2.2.2.2] ∧ x.2.2.1.size ≤ maxLen ∧ x.2.2.2.2.1.size ≤ maxLen ∧ x.2.2.2.2.2.1.size ≤ maxLen ∧ x.2.2.2.2.2.2.2.size ≤ maxLen
theorem IntentR.keep {w w' : World} {lo hi : Nat} (hs : Same lo hi w w') (hz : w.heap.size ≤ w'.heap.size) (cs : List Value) (x : IntentD) (h : IntentR w lo hi cs x) : IntentR w' lo hi cs x := by
  exact h
theorem IntentR.wide {w : World} {lo hi lo' hi' : Nat} (b1 : lo' ≤ lo) (b2 : hi ≤ hi') (b3 : hi' ≤ w.heap.size) (cs : List Value) (x : IntentD) (h : IntentR w lo hi cs x) : IntentR w lo' hi' cs x := by
  exact h
theorem IntentR.new {B lo2 : Nat} {w2 W : World} {cs : List Value} {x : IntentD} (hst : Step B w2 W) (hlo : B ≤ lo2) (h : IntentR w2 lo2 w2.heap.size cs x) : IntentR W B W.heap.size cs x := by
  have h1 := IntentR.wide hlo (Nat.le_refl _) (Nat.le_refl _) cs x h
  have h2 := IntentR.keep (fun k a b => hst.2 k a b) (Nat.le_of_eq hst.1.symm) cs x h1
  rw [hst.1]; exact h2
theorem IntentR.old {B : Nat} {wr w2 W : World} {cs : List Value} {x : IntentD} (hb : Below wr.heap.size wr w2) (hst : Step B w2 W) (h : IntentR wr B wr.heap.size cs x) : IntentR W B W.heap.size cs x := by
  have h1 := IntentR.keep (Same.of_below hb (Nat.le_refl _)) hb.size cs x h
  exact IntentR.new hst (Nat.le_refl _) (IntentR.wide (Nat.le_refl _) hb.size (Nat.le_refl _) cs x h1)
theorem IntentR.below {w w' : World} {lo hi : Nat} (hb : Below w.heap.size w w') (hhi : hi ≤ w.heap.size) (cs : List Value) (x : IntentD) (h : IntentR w lo hi cs x) : IntentR w' lo hi cs x := IntentR.keep (Same.of_below hb hhi) hb.size cs x h
theorem IntentR.len {w : World} {lo hi : Nat} {cs : List Value} {x : IntentD} (h : IntentR w lo hi cs x) : cs.length = 8 := by
  obtain ⟨rfl, h0, h1, h2, h3⟩ := h; rfl

abbrev CacheD := Int × Int × (List Int) × (List Int) × (List Int) × (List Int)
def CacheR : Reads CacheD := fun w lo hi cs x => ∃ (A0 : Option Addr) (n0 c0 : Nat) (A1 : Option Addr) (n1 c1 : Nat) (A2 : Option Addr) (n2 c2 : Nat) (A3 : Option Addr) (n3 c3 : Nat), cs = [.int .i64 x.1, .int .i64 x.2.1, .slice A0 n0 c0, .slice A1 n1 c1, .slice A2 n2 c2, .slice A3 n3 c3] ∧ SliceR IntR 1 w lo hi A0 n0 c0 x.2.2.1 ∧ SliceR IntR 1 w lo hi A1 n1 c1 x.2.2.2.1 ∧ SliceR IntR 1 w lo hi A2 n2 c2 x.2.2.2.2.1 ∧ SliceR IntR 1 w lo hi A3 n3 c3 x.2.2.2.2.2
theorem CacheR.keep {w w' : World} {lo hi : Nat} (hs : Same lo hi w w') (hz : w.heap.size ≤ w'.heap.size) (cs : List Value) (x : CacheD) (h : CacheR w lo hi cs x) : CacheR w' lo hi cs x := by
  obtain ⟨A0, n0, c0, A1, n1, c1, A2, n2, c2, A3, n3, c3, rfl, h0, h1, h2, h3⟩ := h
  exact ⟨A0, n0, c0, A1, n1, c1, A2, n2, c2, A3, n3, c3, rfl, h0.keep hs hz (IntR.keep hs hz), h1.keep hs hz (IntR.keep hs hz), h2.keep hs hz (IntR.keep hs hz), h3.keep hs hz (IntR.keep hs hz)⟩
theorem CacheR.wide {w : World} {lo hi lo' hi' : Nat} (b1 : lo' ≤ lo) (b2 : hi ≤ hi') (b3 : hi' ≤ w.heap.size) (cs : List Value) (x : CacheD) (h : CacheR w lo hi cs x) : CacheR w lo' hi' cs x := by
  obtain ⟨A0, n0, c0, A1, n1, c1, A2, n2, c2, A3, n3, c3, rfl, h0, h1, h2, h3⟩ := h
  exact ⟨A0, n0, c0, A1, n1, c1, A2, n2, c2, A3, n3, c3, rfl, h0.wide b1 b2 b3 (IntR.wide b1 b2 b3), h1.wide b1 b2 b3 (IntR.wide b1 b2 b3), h2.wide b1 b2 b3 (IntR.wide b1 b2 b3), h3.wide b1 b2 b3 (IntR.wide b1 b2 b3)⟩
theorem CacheR.new {B lo2 : Nat} {w2 W : World} {cs : List Value} {x : CacheD} (hst : Step B w2 W) (hlo : B ≤ lo2) (h : CacheR w2 lo2 w2.heap.size cs x) : CacheR W B W.heap.size cs x := by
  have h1 := CacheR.wide hlo (Nat.le_refl _) (Nat.le_refl _) cs x h
  have h2 := CacheR.keep (fun k a b => hst.2 k a b) (Nat.le_of_eq hst.1.symm) cs x h1
  rw [hst.1]; exact h2
theorem CacheR.old {B : Nat} {wr w2 W : World} {cs : List Value} {x : CacheD} (hb : Below wr.heap.size wr w2) (hst : Step B w2 W) (h : CacheR wr B wr.heap.size cs x) : CacheR W B W.heap.size cs x := by
  have h1 := CacheR.keep (Same.of_below hb (Nat.le_refl _)) hb.size cs x h
  exact CacheR.new hst (Nat.le_refl _) (CacheR.wide (Nat.le_refl _) hb.size (Nat.le_refl _) cs x h1)
theorem CacheR.below {w w' : World} {lo hi : Nat} (hb : Below w.heap.size w w') (hhi : hi ≤ w.heap.size) (cs : List Value) (x : CacheD) (h : CacheR w lo hi cs x) : CacheR w' lo hi cs x := CacheR.keep (Same.of_below hb hhi) hb.size cs x h
theorem CacheR.len {w : World} {lo hi : Nat} {cs : List Value} {x : CacheD} (h : CacheR w lo hi cs x) : cs.length = 6 := by
  obtain ⟨A0, n0, c0, A1, n1, c1, A2, n2, c2, A3, n3, c3, rfl, h0, h1, h2, h3⟩ := h; rfl

end Go.Proofs.Ytgipchipcoaajaa
