/- Go's types as data, and how they lie in memory. No condition. -/
import Derived.Test.YtodibogijnjlaaaRep
namespace Go.Proofs.Ytodibogijnjlaaa
set_option linter.unusedVariables false
set_option linter.unusedSimpArgs false
set_option linter.unnecessarySimpa false
open Go.RowKit

theorem list1 {α : Type} {l : List α} (h : l.length = 1) : ∃ a0, l = [a0] := by
  match l, h with
  | [a0], _ => exact ⟨a0, rfl⟩
theorem list2 {α : Type} {l : List α} (h : l.length = 2) : ∃ a0 a1, l = [a0, a1] := by
  match l, h with
  | [a0, a1], _ => exact ⟨a0, a1, rfl⟩
theorem list3 {α : Type} {l : List α} (h : l.length = 3) : ∃ a0 a1 a2, l = [a0, a1, a2] := by
  match l, h with
  | [a0, a1, a2], _ => exact ⟨a0, a1, a2, rfl⟩
theorem list4 {α : Type} {l : List α} (h : l.length = 4) : ∃ a0 a1 a2 a3, l = [a0, a1, a2, a3] := by
  match l, h with
  | [a0, a1, a2, a3], _ => exact ⟨a0, a1, a2, a3, rfl⟩
theorem list5 {α : Type} {l : List α} (h : l.length = 5) : ∃ a0 a1 a2 a3 a4, l = [a0, a1, a2, a3, a4] := by
  match l, h with
  | [a0, a1, a2, a3, a4], _ => exact ⟨a0, a1, a2, a3, a4, rfl⟩
theorem list6 {α : Type} {l : List α} (h : l.length = 6) : ∃ a0 a1 a2 a3 a4 a5, l = [a0, a1, a2, a3, a4, a5] := by
  match l, h with
  | [a0, a1, a2, a3, a4, a5], _ => exact ⟨a0, a1, a2, a3, a4, a5, rfl⟩
theorem list7 {α : Type} {l : List α} (h : l.length = 7) : ∃ a0 a1 a2 a3 a4 a5 a6, l = [a0, a1, a2, a3, a4, a5, a6] := by
  match l, h with
  | [a0, a1, a2, a3, a4, a5, a6], _ => exact ⟨a0, a1, a2, a3, a4, a5, a6, rfl⟩
theorem list8 {α : Type} {l : List α} (h : l.length = 8) : ∃ a0 a1 a2 a3 a4 a5 a6 a7, l = [a0, a1, a2, a3, a4, a5, a6, a7] := by
  match l, h with
  | [a0, a1, a2, a3, a4, a5, a6, a7], _ => exact ⟨a0, a1, a2, a3, a4, a5, a6, a7, rfl⟩
theorem list11 {α : Type} {l : List α} (h : l.length = 11) : ∃ a0 a1 a2 a3 a4 a5 a6 a7 a8 a9 a10, l = [a0, a1, a2, a3, a4, a5, a6, a7, a8, a9, a10] := by
  match l, h with
  | [a0, a1, a2, a3, a4, a5, a6, a7, a8, a9, a10], _ => exact ⟨a0, a1, a2, a3, a4, a5, a6, a7, a8, a9, a10, rfl⟩
theorem list12 {α : Type} {l : List α} (h : l.length = 12) : ∃ a0 a1 a2 a3 a4 a5 a6 a7 a8 a9 a10 a11, l = [a0, a1, a2, a3, a4, a5, a6, a7, a8, a9, a10, a11] := by
  match l, h with
  | [a0, a1, a2, a3, a4, a5, a6, a7, a8, a9, a10, a11], _ => exact ⟨a0, a1, a2, a3, a4, a5, a6, a7, a8, a9, a10, a11, rfl⟩
abbrev PtrD := Int × Int × Int × Int × Int
def PtrR : Reads PtrD := fun w lo hi cs x => cs = [.int .i64 x.1, .int .i64 x.2.1, .int .i64 x.2.2.1, .int .i64 x.2.2.2.1, .int .i64 x.2.2.2.2]
theorem PtrR.keep {w w' : World} {lo hi : Nat} (hs : Same lo hi w w') (hz : w.heap.size ≤ w'.heap.size) (cs : List Value) (x : PtrD) (h : PtrR w lo hi cs x) : PtrR w' lo hi cs x := by
  exact h
theorem PtrR.len {w : World} {lo hi : Nat} {cs : List Value} {x : PtrD} (h : PtrR w lo hi cs x) : cs.length = 5 := by
  obtain rfl := h; rfl

abbrev TreeD := PtrD × Int × Int
def TreeR : Reads TreeD := fun w lo hi cs x => cs = [.int .i64 x.1.1, .int .i64 x.1.2.1, .int .i64 x.1.2.2.1, .int .i64 x.1.2.2.2.1, .int .i64 x.1.2.2.2.2, .int .i64 x.2.1, .int .i64 x.2.2]
theorem TreeR.keep {w w' : World} {lo hi : Nat} (hs : Same lo hi w w') (hz : w.heap.size ≤ w'.heap.size) (cs : List Value) (x : TreeD) (h : TreeR w lo hi cs x) : TreeR w' lo hi cs x := by
  exact h
theorem TreeR.len {w : World} {lo hi : Nat} {cs : List Value} {x : TreeD} (h : TreeR w lo hi cs x) : cs.length = 7 := by
  obtain rfl := h; rfl

abbrev RootD := Int × TreeD
def RootR : Reads RootD := fun w lo hi cs x => cs = [.int .i64 x.1, .int .i64 x.2.1.1, .int .i64 x.2.1.2.1, .int .i64 x.2.1.2.2.1, .int .i64 x.2.1.2.2.2.1, .int .i64 x.2.1.2.2.2.2, .int .i64 x.2.2.1, .int .i64 x.2.2.2]
theorem RootR.keep {w w' : World} {lo hi : Nat} (hs : Same lo hi w w') (hz : w.heap.size ≤ w'.heap.size) (cs : List Value) (x : RootD) (h : RootR w lo hi cs x) : RootR w' lo hi cs x := by
  exact h
theorem RootR.len {w : World} {lo hi : Nat} {cs : List Value} {x : RootD} (h : RootR w lo hi cs x) : cs.length = 8 := by
  obtain rfl := h; rfl

abbrev SpaceD := (List Int) × (List Int)
def SpaceR : Reads SpaceD := fun w lo hi cs x => ∃ (A0 : Option Addr) (n0 c0 : Nat) (A1 : Option Addr) (n1 c1 : Nat), cs = [.slice A0 n0 c0, .slice A1 n1 c1] ∧ SliceR IntR 1 w lo hi A0 n0 c0 x.1 ∧ SliceR IntR 1 w lo hi A1 n1 c1 x.2
theorem SpaceR.keep {w w' : World} {lo hi : Nat} (hs : Same lo hi w w') (hz : w.heap.size ≤ w'.heap.size) (cs : List Value) (x : SpaceD) (h : SpaceR w lo hi cs x) : SpaceR w' lo hi cs x := by
  obtain ⟨A0, n0, c0, A1, n1, c1, rfl, h0, h1⟩ := h
  exact ⟨A0, n0, c0, A1, n1, c1, rfl, h0.keep hs hz (fun _ _ h => h), h1.keep hs hz (fun _ _ h => h)⟩
theorem SpaceR.len {w : World} {lo hi : Nat} {cs : List Value} {x : SpaceD} (h : SpaceR w lo hi cs x) : cs.length = 2 := by
  obtain ⟨A0, n0, c0, A1, n1, c1, rfl, h0, h1⟩ := h; rfl

abbrev StoreD := (List ByteArray) × SpaceD × Int × (List PtrD) × Int × (List PtrD) × Bool
def StoreR : Reads StoreD := fun w lo hi cs x => ∃ (A0 : Option Addr) (n0 c0 : Nat) (A1 : Option Addr) (n1 c1 : Nat) (A2 : Option Addr) (n2 c2 : Nat) (A3 : Option Addr) (n3 c3 : Nat) (A4 : Option Addr) (n4 c4 : Nat), cs = [.slice A0 n0 c0, .slice A1 n1 c1, .slice A2 n2 c2, .int .i64 x.2.2.1, .slice A3 n3 c3, .int .i64 x.2.2.2.2.1, .slice A4 n4 c4, .bool x.2.2.2.2.2.2] ∧ SliceR StrR 1 w lo hi A0 n0 c0 x.1 ∧ SliceR IntR 1 w lo hi A1 n1 c1 x.2.1.1 ∧ SliceR IntR 1 w lo hi A2 n2 c2 x.2.1.2 ∧ SliceR PtrR 5 w lo hi A3 n3 c3 x.2.2.2.1 ∧ SliceR PtrR 5 w lo hi A4 n4 c4 x.2.2.2.2.2.1
theorem StoreR.keep {w w' : World} {lo hi : Nat} (hs : Same lo hi w w') (hz : w.heap.size ≤ w'.heap.size) (cs : List Value) (x : StoreD) (h : StoreR w lo hi cs x) : StoreR w' lo hi cs x := by
  obtain ⟨A0, n0, c0, A1, n1, c1, A2, n2, c2, A3, n3, c3, A4, n4, c4, rfl, h0, h1, h2, h3, h4⟩ := h
  exact ⟨A0, n0, c0, A1, n1, c1, A2, n2, c2, A3, n3, c3, A4, n4, c4, rfl, h0.keep hs hz (fun _ _ h => h), h1.keep hs hz (fun _ _ h => h), h2.keep hs hz (fun _ _ h => h), h3.keep hs hz (PtrR.keep hs hz), h4.keep hs hz (PtrR.keep hs hz)⟩
theorem StoreR.len {w : World} {lo hi : Nat} {cs : List Value} {x : StoreD} (h : StoreR w lo hi cs x) : cs.length = 8 := by
  obtain ⟨A0, n0, c0, A1, n1, c1, A2, n2, c2, A3, n3, c3, A4, n4, c4, rfl, h0, h1, h2, h3, h4⟩ := h; rfl

abbrev EntryD := ByteArray × Int
def EntryR : Reads EntryD := fun w lo hi cs x => cs = [.string x.1, .int .i64 x.2] ∧ x.1.size ≤ maxLen
theorem EntryR.keep {w w' : World} {lo hi : Nat} (hs : Same lo hi w w') (hz : w.heap.size ≤ w'.heap.size) (cs : List Value) (x : EntryD) (h : EntryR w lo hi cs x) : EntryR w' lo hi cs x := by
  exact h
theorem EntryR.len {w : World} {lo hi : Nat} {cs : List Value} {x : EntryD} (h : EntryR w lo hi cs x) : cs.length = 2 := by
  obtain ⟨rfl, h0⟩ := h; rfl

abbrev OpD := Int × ByteArray × ByteArray × Int × ByteArray
def OpR : Reads OpD := fun w lo hi cs x => cs = [.int .i64 x.1, .string x.2.1, .string x.2.2.1, .int .i64 x.2.2.2.1, .string x.2.2.2.2] ∧ x.2.1.size ≤ maxLen ∧ x.2.2.1.size ≤ maxLen ∧ x.2.2.2.2.size ≤ maxLen
theorem OpR.keep {w w' : World} {lo hi : Nat} (hs : Same lo hi w w') (hz : w.heap.size ≤ w'.heap.size) (cs : List Value) (x : OpD) (h : OpR w lo hi cs x) : OpR w' lo hi cs x := by
  exact h
theorem OpR.len {w : World} {lo hi : Nat} {cs : List Value} {x : OpD} (h : OpR w lo hi cs x) : cs.length = 5 := by
  obtain ⟨rfl, h0, h1, h2⟩ := h; rfl

abbrev FoundD := ByteArray × Int
def FoundR : Reads FoundD := fun w lo hi cs x => cs = [.string x.1, .int .i64 x.2] ∧ x.1.size ≤ maxLen
theorem FoundR.keep {w w' : World} {lo hi : Nat} (hs : Same lo hi w w') (hz : w.heap.size ≤ w'.heap.size) (cs : List Value) (x : FoundD) (h : FoundR w lo hi cs x) : FoundR w' lo hi cs x := by
  exact h
theorem FoundR.len {w : World} {lo hi : Nat} {cs : List Value} {x : FoundD} (h : FoundR w lo hi cs x) : cs.length = 2 := by
  obtain ⟨rfl, h0⟩ := h; rfl

abbrev ThingD := Int × Bool × ByteArray
def ThingR : Reads ThingD := fun w lo hi cs x => cs = [.int .i64 x.1, .bool x.2.1, .string x.2.2] ∧ x.2.2.size ≤ maxLen
theorem ThingR.keep {w w' : World} {lo hi : Nat} (hs : Same lo hi w w') (hz : w.heap.size ≤ w'.heap.size) (cs : List Value) (x : ThingD) (h : ThingR w lo hi cs x) : ThingR w' lo hi cs x := by
  exact h
theorem ThingR.len {w : World} {lo hi : Nat} {cs : List Value} {x : ThingD} (h : ThingR w lo hi cs x) : cs.length = 3 := by
  obtain ⟨rfl, h0⟩ := h; rfl

abbrev FlatD := (List FoundD) × (List ThingD)
def FlatR : Reads FlatD := fun w lo hi cs x => ∃ (A0 : Option Addr) (n0 c0 : Nat) (A1 : Option Addr) (n1 c1 : Nat), cs = [.slice A0 n0 c0, .slice A1 n1 c1] ∧ SliceR FoundR 2 w lo hi A0 n0 c0 x.1 ∧ SliceR ThingR 3 w lo hi A1 n1 c1 x.2
theorem FlatR.keep {w w' : World} {lo hi : Nat} (hs : Same lo hi w w') (hz : w.heap.size ≤ w'.heap.size) (cs : List Value) (x : FlatD) (h : FlatR w lo hi cs x) : FlatR w' lo hi cs x := by
  obtain ⟨A0, n0, c0, A1, n1, c1, rfl, h0, h1⟩ := h
  exact ⟨A0, n0, c0, A1, n1, c1, rfl, h0.keep hs hz (FoundR.keep hs hz), h1.keep hs hz (ThingR.keep hs hz)⟩
theorem FlatR.len {w : World} {lo hi : Nat} {cs : List Value} {x : FlatD} (h : FlatR w lo hi cs x) : cs.length = 2 := by
  obtain ⟨A0, n0, c0, A1, n1, c1, rfl, h0, h1⟩ := h; rfl

abbrev HeadD := ByteArray × Int × TreeD × (List PtrD) × Int
def HeadR : Reads HeadD := fun w lo hi cs x => ∃ (A0 : Option Addr) (n0 c0 : Nat), cs = [.string x.1, .int .i64 x.2.1, .int .i64 x.2.2.1.1.1, .int .i64 x.2.2.1.1.2.1, .int .i64 x.2.2.1.1.2.2.1, .int .i64 x.2.2.1.1.2.2.2.1, .int .i64 x.2.2.1.1.2.2.2.2, .int .i64 x.2.2.1.2.1, .int .i64 x.2.2.1.2.2, .slice A0 n0 c0, .int .i64 x.2.2.2.2] ∧ x.1.size ≤ maxLen ∧ SliceR PtrR 5 w lo hi A0 n0 c0 x.2.2.2.1
theorem HeadR.keep {w w' : World} {lo hi : Nat} (hs : Same lo hi w w') (hz : w.heap.size ≤ w'.heap.size) (cs : List Value) (x : HeadD) (h : HeadR w lo hi cs x) : HeadR w' lo hi cs x := by
  obtain ⟨A0, n0, c0, rfl, h0, h1⟩ := h
  exact ⟨A0, n0, c0, rfl, h0, h1.keep hs hz (PtrR.keep hs hz)⟩
theorem HeadR.len {w : World} {lo hi : Nat} {cs : List Value} {x : HeadD} (h : HeadR w lo hi cs x) : cs.length = 11 := by
  obtain ⟨A0, n0, c0, rfl, h0, h1⟩ := h; rfl

abbrev SnapD := Int × ByteArray × Int × Int × TreeD × (List PtrD)
def SnapR : Reads SnapD := fun w lo hi cs x => ∃ (A0 : Option Addr) (n0 c0 : Nat), cs = [.int .i64 x.1, .string x.2.1, .int .i64 x.2.2.1, .int .i64 x.2.2.2.1, .int .i64 x.2.2.2.2.1.1.1, .int .i64 x.2.2.2.2.1.1.2.1, .int .i64 x.2.2.2.2.1.1.2.2.1, .int .i64 x.2.2.2.2.1.1.2.2.2.1, .int .i64 x.2.2.2.2.1.1.2.2.2.2, .int .i64 x.2.2.2.2.1.2.1, .int .i64 x.2.2.2.2.1.2.2, .slice A0 n0 c0] ∧ x.2.1.size ≤ maxLen ∧ SliceR PtrR 5 w lo hi A0 n0 c0 x.2.2.2.2.2
theorem SnapR.keep {w w' : World} {lo hi : Nat} (hs : Same lo hi w w') (hz : w.heap.size ≤ w'.heap.size) (cs : List Value) (x : SnapD) (h : SnapR w lo hi cs x) : SnapR w' lo hi cs x := by
  obtain ⟨A0, n0, c0, rfl, h0, h1⟩ := h
  exact ⟨A0, n0, c0, rfl, h0, h1.keep hs hz (PtrR.keep hs hz)⟩
theorem SnapR.len {w : World} {lo hi : Nat} {cs : List Value} {x : SnapD} (h : SnapR w lo hi cs x) : cs.length = 12 := by
  obtain ⟨A0, n0, c0, rfl, h0, h1⟩ := h; rfl

abbrev MetaD := (List HeadD) × (List SnapD) × Int × Bool
def MetaR : Reads MetaD := fun w lo hi cs x => ∃ (A0 : Option Addr) (n0 c0 : Nat) (A1 : Option Addr) (n1 c1 : Nat), cs = [.slice A0 n0 c0, .slice A1 n1 c1, .int .i64 x.2.2.1, .bool x.2.2.2] ∧ SliceR HeadR 11 w lo hi A0 n0 c0 x.1 ∧ SliceR SnapR 12 w lo hi A1 n1 c1 x.2.1
theorem MetaR.keep {w w' : World} {lo hi : Nat} (hs : Same lo hi w w') (hz : w.heap.size ≤ w'.heap.size) (cs : List Value) (x : MetaD) (h : MetaR w lo hi cs x) : MetaR w' lo hi cs x := by
  obtain ⟨A0, n0, c0, A1, n1, c1, rfl, h0, h1⟩ := h
  exact ⟨A0, n0, c0, A1, n1, c1, rfl, h0.keep hs hz (HeadR.keep hs hz), h1.keep hs hz (SnapR.keep hs hz)⟩
theorem MetaR.len {w : World} {lo hi : Nat} {cs : List Value} {x : MetaD} (h : MetaR w lo hi cs x) : cs.length = 4 := by
  obtain ⟨A0, n0, c0, A1, n1, c1, rfl, h0, h1⟩ := h; rfl

abbrev WaitD := Int × ByteArray
def WaitR : Reads WaitD := fun w lo hi cs x => cs = [.int .i64 x.1, .string x.2] ∧ x.2.size ≤ maxLen
theorem WaitR.keep {w w' : World} {lo hi : Nat} (hs : Same lo hi w w') (hz : w.heap.size ≤ w'.heap.size) (cs : List Value) (x : WaitD) (h : WaitR w lo hi cs x) : WaitR w' lo hi cs x := by
  exact h
theorem WaitR.len {w : World} {lo hi : Nat} {cs : List Value} {x : WaitD} (h : WaitR w lo hi cs x) : cs.length = 2 := by
  obtain ⟨rfl, h0⟩ := h; rfl

abbrev DiskD := (List ByteArray) × (List WaitD) × Bool
def DiskR : Reads DiskD := fun w lo hi cs x => ∃ (A0 : Option Addr) (n0 c0 : Nat) (A1 : Option Addr) (n1 c1 : Nat), cs = [.slice A0 n0 c0, .slice A1 n1 c1, .bool x.2.2] ∧ SliceR StrR 1 w lo hi A0 n0 c0 x.1 ∧ SliceR WaitR 2 w lo hi A1 n1 c1 x.2.1
theorem DiskR.keep {w w' : World} {lo hi : Nat} (hs : Same lo hi w w') (hz : w.heap.size ≤ w'.heap.size) (cs : List Value) (x : DiskD) (h : DiskR w lo hi cs x) : DiskR w' lo hi cs x := by
  obtain ⟨A0, n0, c0, A1, n1, c1, rfl, h0, h1⟩ := h
  exact ⟨A0, n0, c0, A1, n1, c1, rfl, h0.keep hs hz (fun _ _ h => h), h1.keep hs hz (WaitR.keep hs hz)⟩
theorem DiskR.len {w : World} {lo hi : Nat} {cs : List Value} {x : DiskD} (h : DiskR w lo hi cs x) : cs.length = 3 := by
  obtain ⟨A0, n0, c0, A1, n1, c1, rfl, h0, h1⟩ := h; rfl

abbrev RaidD := (List DiskD)
def RaidR : Reads RaidD := fun w lo hi cs x => ∃ (A0 : Option Addr) (n0 c0 : Nat), cs = [.slice A0 n0 c0] ∧ SliceR DiskR 3 w lo hi A0 n0 c0 x
theorem RaidR.keep {w w' : World} {lo hi : Nat} (hs : Same lo hi w w') (hz : w.heap.size ≤ w'.heap.size) (cs : List Value) (x : RaidD) (h : RaidR w lo hi cs x) : RaidR w' lo hi cs x := by
  obtain ⟨A0, n0, c0, rfl, h0⟩ := h
  exact ⟨A0, n0, c0, rfl, h0.keep hs hz (DiskR.keep hs hz)⟩
theorem RaidR.len {w : World} {lo hi : Nat} {cs : List Value} {x : RaidD} (h : RaidR w lo hi cs x) : cs.length = 1 := by
  obtain ⟨A0, n0, c0, rfl, h0⟩ := h; rfl

abbrev IntentD := Int × Int × ByteArray × OpD
def IntentR : Reads IntentD := fun w lo hi cs x => cs = [.int .i64 x.1, .int .i64 x.2.1, .string x.2.2.1, .int .i64 x.2.2.2.1, .string x.2.2.2.2.1, .string x.2.2.2.2.2.1, .int .i64 x.2.2.2.2.2.2.1, .string x.2.2.2.2.2.2.2] ∧ x.2.2.1.size ≤ maxLen ∧ x.2.2.2.2.1.size ≤ maxLen ∧ x.2.2.2.2.2.1.size ≤ maxLen ∧ x.2.2.2.2.2.2.2.size ≤ maxLen
theorem IntentR.keep {w w' : World} {lo hi : Nat} (hs : Same lo hi w w') (hz : w.heap.size ≤ w'.heap.size) (cs : List Value) (x : IntentD) (h : IntentR w lo hi cs x) : IntentR w' lo hi cs x := by
  exact h
theorem IntentR.len {w : World} {lo hi : Nat} {cs : List Value} {x : IntentD} (h : IntentR w lo hi cs x) : cs.length = 8 := by
  obtain ⟨rfl, h0, h1, h2, h3⟩ := h; rfl

abbrev CacheD := Int × Int × (List Int) × (List Int) × (List Int) × (List Int)
def CacheR : Reads CacheD := fun w lo hi cs x => ∃ (A0 : Option Addr) (n0 c0 : Nat) (A1 : Option Addr) (n1 c1 : Nat) (A2 : Option Addr) (n2 c2 : Nat) (A3 : Option Addr) (n3 c3 : Nat), cs = [.int .i64 x.1, .int .i64 x.2.1, .slice A0 n0 c0, .slice A1 n1 c1, .slice A2 n2 c2, .slice A3 n3 c3] ∧ SliceR IntR 1 w lo hi A0 n0 c0 x.2.2.1 ∧ SliceR IntR 1 w lo hi A1 n1 c1 x.2.2.2.1 ∧ SliceR IntR 1 w lo hi A2 n2 c2 x.2.2.2.2.1 ∧ SliceR IntR 1 w lo hi A3 n3 c3 x.2.2.2.2.2
theorem CacheR.keep {w w' : World} {lo hi : Nat} (hs : Same lo hi w w') (hz : w.heap.size ≤ w'.heap.size) (cs : List Value) (x : CacheD) (h : CacheR w lo hi cs x) : CacheR w' lo hi cs x := by
  obtain ⟨A0, n0, c0, A1, n1, c1, A2, n2, c2, A3, n3, c3, rfl, h0, h1, h2, h3⟩ := h
  exact ⟨A0, n0, c0, A1, n1, c1, A2, n2, c2, A3, n3, c3, rfl, h0.keep hs hz (fun _ _ h => h), h1.keep hs hz (fun _ _ h => h), h2.keep hs hz (fun _ _ h => h), h3.keep hs hz (fun _ _ h => h)⟩
theorem CacheR.len {w : World} {lo hi : Nat} {cs : List Value} {x : CacheD} (h : CacheR w lo hi cs x) : cs.length = 6 := by
  obtain ⟨A0, n0, c0, A1, n1, c1, A2, n2, c2, A3, n3, c3, rfl, h0, h1, h2, h3⟩ := h; rfl

end Go.Proofs.Ytodibogijnjlaaa
