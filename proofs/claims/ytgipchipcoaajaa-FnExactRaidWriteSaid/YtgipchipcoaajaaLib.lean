/- Small words on slices of ints that lie in memory, and on worlds that differ in some blocks alone. No condition. -/
import Derived.WalkKit
import Derived.WalkSpells
import Derived.WalkLawsBesides
import Derived.Lib.Hide
import Derived.Deep.QuietTactic
import Derived.BigQuiet
import Derived.Deep.Draws
namespace Go.Proofs.Ytgipchipcoaajaa
set_option linter.unusedVariables false
set_option linter.unusedSimpArgs false
set_option linter.unnecessarySimpa false
open Go.RowKit

/-- The slice value '.slice A n c' reads as the ints xs. -/
def IntsAt (w : World) (A : Option Addr) (n : Nat) (xs : List Int) : Prop :=
  xs.length = n ∧ n ≤ maxLen ∧ (0 < n → ∃ b off, A = some ⟨b, off, none⟩ ∧ ∀ j, j < n → w.cell? ⟨b, off + j, none⟩ = some (.int .i64 (xs.getD j 0)))

theorem IntsAt.at_ {w : World} {A : Option Addr} {n : Nat} {xs : List Int} (h : IntsAt w A n xs) {k : Nat} (hk : k < n) :
    ∃ b off, A = some ⟨b, off, none⟩ ∧ b < w.heap.size ∧ ∀ j, j < n → w.cell? ⟨b, off + j, none⟩ = some (.int .i64 (xs.getD j 0)) := by
  obtain ⟨_, _, h3⟩ := h
  obtain ⟨b, off, hA, hc⟩ := h3 (by omega)
  exact ⟨b, off, hA, World.block_lt_of_cell? w _ (hc k hk), hc⟩
theorem IntsAt.len {w : World} {A : Option Addr} {n : Nat} {xs : List Int} (h : IntsAt w A n xs) : xs.length = n := h.1
theorem IntsAt.max {w : World} {A : Option Addr} {n : Nat} {xs : List Int} (h : IntsAt w A n xs) : n ≤ 9223372036854775807 := by
  have := h.2.1; unfold maxLen at this; exact this
theorem IntsAt.keep {w w' : World} {A : Option Addr} {n : Nat} {xs : List Int} (h : IntsAt w A n xs)
    (hk : ∀ b off, A = some ⟨b, off, none⟩ → b < w.heap.size → w'.heap[b]? = w.heap[b]?) : IntsAt w' A n xs := by
  refine ⟨h.1, h.2.1, fun hn => ?_⟩
  obtain ⟨b, off, hA, hb, hc⟩ := h.at_ hn
  exact ⟨b, off, hA, fun j hj => (World.cell?_of_block (hk b off hA hb)).trans (hc j hj)⟩
theorem IntsAt.below {w w' : World} {A : Option Addr} {n : Nat} {xs : List Int} (h : IntsAt w A n xs) (hb : Below w.heap.size w w') : IntsAt w' A n xs :=
  h.keep fun b _ _ hlt => hb.block b hlt
theorem IntsAt.drewN {w : World} {A : Option Addr} {n : Nat} {xs : List Int} (h : IntsAt w A n xs) (q : Nat) : IntsAt (w.drewN q) A n xs := h

/-- The same world but for draws. -/
def Quiet (w w' : World) : Prop := ∃ q, w' = w.drewN q
theorem Quiet.refl (w : World) : Quiet w w := ⟨0, rfl⟩
theorem Quiet.drewN {w w' : World} (h : Quiet w w') (n : Nat) : Quiet w (w'.drewN n) := by
  obtain ⟨q, rfl⟩ := h
  exact ⟨q + n, by rw [World.drewN_drewN]⟩
theorem Quiet.drew {w w' : World} (h : Quiet w w') : Quiet w w'.drew := h.drewN 1
theorem Quiet.trans {a b c : World} (h : Quiet a b) (k : Quiet b c) : Quiet a c := by
  obtain ⟨q, rfl⟩ := k
  exact h.drewN q
theorem Quiet.below {w w' : World} (h : Quiet w w') (B : Nat) : Below B w w' := by
  obtain ⟨q, rfl⟩ := h
  exact ⟨rfl, rfl, rfl, Nat.le_refl _, fun _ _ => rfl⟩
/-- Two worlds are one; the walk's simp does not decide it. -/
def SameW (a b : World) : Prop := a = b
theorem SameW.out {a b : World} (h : SameW a b) : a = b := h
theorem SameW.refl (a : World) : SameW a a := rfl
theorem ret_bool {a b : Bool} (h : a = b) : Ending.returned (.bool a) = .returned (.bool b) := by rw [h]
theorem ret_int {k : IntKind} {a b : Int} (h : a = b) : Ending.returned (.int k a) = .returned (.int k b) := by rw [h]
theorem ret_str {a b : ByteArray} (h : a = b) : Ending.returned (.string a) = .returned (.string b) := by rw [h]

theorem quiet_add_left {P : Program} {f : FuncId} {args : Array Value} {w : World} {a n : Nat} {v : Value}
    (h : Calls P f args (w.drewN (a + n)) fun e w' => e = .returned v ∧ w.drewN (a + n) = w') :
    Calls P f args (w.drewN (a + n)) fun e w'' => e = .returned v ∧ ∃ m, w'' = w.drewN (a + m) :=
  h.mono fun _ _ ⟨he, hm⟩ => ⟨he, n, hm.symm⟩
theorem quiet_left {P : Program} {f : FuncId} {args : Array Value} {w : World} {n : Nat} {v : Value}
    (h : Calls P f args (w.drewN n) fun e w' => e = .returned v ∧ w.drewN n = w') : Calls P f args (w.drewN n) fun e w'' => e = .returned v ∧ ∃ m, w'' = w.drewN m :=
  h.mono fun _ _ ⟨he, hm⟩ => ⟨he, n, hm.symm⟩
theorem quiet_add_q {P : Program} {f : FuncId} {args : Array Value} {w : World} {a n : Nat} {v : Value}
    (h : Calls P f args (w.drewN (a + n)) fun e w' => e = .returned v ∧ Quiet (w.drewN (a + n)) w') :
    Calls P f args (w.drewN (a + n)) fun e w'' => e = .returned v ∧ ∃ m, w'' = w.drewN (a + m) :=
  h.mono fun _ _ ⟨he, m, hm⟩ => ⟨he, n + m, by rw [hm, World.drewN_drewN, Nat.add_assoc]⟩
theorem quiet_q {P : Program} {f : FuncId} {args : Array Value} {w : World} {n : Nat} {v : Value}
    (h : Calls P f args (w.drewN n) fun e w' => e = .returned v ∧ Quiet (w.drewN n) w') : Calls P f args (w.drewN n) fun e w'' => e = .returned v ∧ ∃ m, w'' = w.drewN m :=
  h.mono fun _ _ ⟨he, m, hm⟩ => ⟨he, n + m, by rw [hm, World.drewN_drewN]⟩

def eqInts (xs ys : List Int) : Bool := decide (xs = ys)
theorem eqInts_iff (xs ys : List Int) : eqInts xs ys = true ↔ xs = ys := by unfold eqInts; simp

theorem below_drewN {B : Nat} {a w : World} (h : Below B a w) (n : Nat) : Below B a (w.drewN n) := ⟨h.os, h.tape, h.output, h.size, h.block⟩

/-- Block g is a row of ints of the call's own: n of them are the list, c is the room. -/
def OwnI (w : World) (g n c : Nat) (xs : List Int) : Prop :=
  xs.length = n ∧ n ≤ c ∧ (c ≤ maxLen ∧ n ≤ 140737488355328) ∧ ∃ cur : Array Value, w.heap[g]? = some (.cells cur 3 (0, 0)) ∧ cur.size = c ∧ ∀ j, j < n → cur[j]? = some (.int .i64 (xs.getD j 0))

section
variable {w w' : World} {g n c : Nat} {xs : List Int}
theorem OwnI.len (h : OwnI w g n c xs) : xs.length = n := h.1
theorem OwnI.lt (h : OwnI w g n c xs) : g < w.heap.size := by
  obtain ⟨_, _, _, cur, hg, _⟩ := h
  exact (Array.getElem?_eq_some_iff.1 hg).1
theorem OwnI.cell (h : OwnI w g n c xs) {j : Nat} (hj : j < n) : w.cell? ⟨g, j, none⟩ = some (.int .i64 (xs.getD j 0)) := by
  obtain ⟨_, _, _, cur, hg, _, hc⟩ := h
  exact (cell_of_row w g j cur _ (0, 0) hg).trans (hc j hj)
theorem OwnI.frozen (h : OwnI w g n c xs) (j : Nat) : w.frozen? ⟨g, j, none⟩ = false := by
  obtain ⟨_, _, _, cur, hg, _⟩ := h
  simp [World.frozen?, hg]
theorem OwnI.at_ (h : OwnI w g n c xs) : IntsAt w (some ⟨g, 0, none⟩) n xs :=
  ⟨h.1, Nat.le_trans h.2.1 h.2.2.1.1, fun _ => ⟨g, 0, rfl, fun j hj => by rw [Nat.zero_add]; exact h.cell hj⟩⟩
theorem OwnI.keep (h : OwnI w g n c xs) (hk : w'.heap[g]? = w.heap[g]?) : OwnI w' g n c xs := by
  obtain ⟨h1, h2, h3, cur, hg, h4⟩ := h
  exact ⟨h1, h2, h3, cur, hk.trans hg, h4⟩
theorem OwnI.below (h : OwnI w g n c xs) (hb : Below w.heap.size w w') : OwnI w' g n c xs := h.keep (hb.block g h.lt)
theorem OwnI.set_ (h : OwnI w g n c xs) {j : Nat} (hj : j < n) (x : Int) : OwnI (w.setCell ⟨g, j, none⟩ (.int .i64 x)) g n c (xs.set j x) := by
  obtain ⟨h1, h2, h3, cur, hg, h4, h5⟩ := h
  refine ⟨by simpa using h1, h2, h3, cur.setIfInBounds j (.int .i64 x), ?_, by simpa using h4, fun i hi => ?_⟩
  · simp [World.setCell, Array.getElem?_modify, hg]
  · rw [Array.getElem?_setIfInBounds]
    by_cases hij : j = i
    · subst hij
      rw [if_pos rfl, if_pos (by omega)]
      simp [List.getD, List.getElem?_set, h1, hj]
    · rw [if_neg hij, h5 i hi]
      simp [List.getD, List.getElem?_set, hij]
theorem OwnI.setOther (h : OwnI w g n c xs) {p : Addr} (hp : g ≠ p.block) (u : Value) : OwnI (w.setCell p u) g n c xs :=
  h.keep (Below.heap_setCell w p u g hp)
theorem OwnI.alloc (h : OwnI w g n c xs) (o : Obj) : OwnI (w.alloc o) g n c xs := h.keep (Below.heap_alloc w o g h.lt)
theorem OwnI.drewN (h : OwnI w g n c xs) (q : Nat) : OwnI (w.drewN q) g n c xs := h
theorem OwnI.new {w : World} {cur : Array Value} {xs : List Int} {g n : Nat} (h0 : cur.toList = xs.map (Value.int .i64)) (hm : cur.size ≤ 140737488355328) (hg : g = w.heap.size) (hn : n = cur.size) :
    OwnI (w.alloc (.cells cur 3)) g n n xs := by
  subst hg hn
  have hl : xs.length = cur.size := by have := congrArg List.length h0; simpa using this.symm
  refine ⟨hl, Nat.le_refl _, ⟨by unfold maxLen; omega, hm⟩, cur, heap_alloc_new w _, rfl, fun j hj => ?_⟩
  have hj2 : j < xs.length := by omega
  have e : cur[j]? = cur.toList[j]? := by simp
  rw [e, h0]
  simp [List.getD, hj2]
end

/-- A slice of ints whose memory is the call's own: it has no element, or it is the row of block g. S: its blocks. -/
def OwnS (w : World) (S : List Nat) (A : Option Addr) (n c : Nat) (xs : List Int) : Prop :=
  (S = [] ∧ n = 0 ∧ xs = [] ∧ (A = none → c = 0)) ∨ (∃ g, S = [g] ∧ A = some ⟨g, 0, none⟩ ∧ OwnI w g n c xs)
section
variable {w w' : World} {S : List Nat} {A : Option Addr} {n c : Nat} {xs : List Int}
theorem OwnS.at_ (h : OwnS w S A n c xs) : IntsAt w A n xs := by
  rcases h with ⟨_, rfl, rfl, _⟩ | ⟨g, _, rfl, h⟩
  · exact ⟨rfl, Nat.zero_le _, fun h => absurd h (by omega)⟩
  · exact h.at_
theorem OwnS.below (h : OwnS w S A n c xs) (hb : Below w.heap.size w w') : OwnS w' S A n c xs := by
  rcases h with h | ⟨g, rfl, hA, h⟩
  · exact .inl h
  · exact .inr ⟨g, rfl, hA, h.below hb⟩
theorem OwnS.lt (h : OwnS w S A n c xs) : ∀ k ∈ S, k < w.heap.size := by
  rcases h with ⟨rfl, _⟩ | ⟨g, rfl, _, h⟩
  · simp
  · simpa using h.lt
theorem OwnS.keep (h : OwnS w S A n c xs) (hk : ∀ k ∈ S, w'.heap[k]? = w.heap[k]?) : OwnS w' S A n c xs := by
  rcases h with h | ⟨g, rfl, hA, h⟩
  · exact .inl h
  · exact .inr ⟨g, rfl, hA, h.keep (hk g (by simp))⟩
theorem OwnS.nil_ (h : OwnS w S A n c xs) : A = none → n = 0 ∧ c = 0 := by
  rcases h with ⟨_, rfl, _, h⟩ | ⟨g, _, rfl, h⟩
  · exact fun e => ⟨rfl, h e⟩
  · exact fun e => by cases e
theorem OwnS.le (h : OwnS w S A n c xs) : n ≤ c := by
  rcases h with ⟨_, rfl, _, h⟩ | ⟨g, _, rfl, h⟩
  · omega
  · exact h.2.1
theorem OwnS.pos (h : OwnS w S A n c xs) (hn : 0 < n) : ∃ g, S = [g] ∧ A = some ⟨g, 0, none⟩ ∧ OwnI w g n c xs := by
  rcases h with ⟨_, rfl, _, h⟩ | h
  · omega
  · exact h
theorem OwnS.max (h : OwnS w S A n c xs) : n ≤ 140737488355328 := by
  rcases h with ⟨_, rfl, _⟩ | ⟨g, _, _, h⟩
  · omega
  · exact h.2.2.1.2
end

/-- Some blocks of S may have turned, and there may be new ones: all else is as it was. -/
structure Chg (S : Nat → Prop) (w w' : World) : Prop where
  os : w'.os = w.os
  tape : w'.tape = w.tape
  output : w'.output = w.output
  size : w.heap.size ≤ w'.heap.size
  block : ∀ k, k < w.heap.size → ¬ S k → w'.heap[k]? = w.heap[k]?

section
variable {S T : Nat → Prop} {w w' a b c : World}
theorem Chg.refl (S : Nat → Prop) (w : World) : Chg S w w := ⟨rfl, rfl, rfl, Nat.le_refl _, fun _ _ _ => rfl⟩
theorem Chg.trans (h : Chg S a b) (k : Chg S b c) : Chg S a c :=
  ⟨k.os.trans h.os, k.tape.trans h.tape, k.output.trans h.output, Nat.le_trans h.size k.size, fun i hi hs => (k.block i (Nat.lt_of_lt_of_le hi h.size) hs).trans (h.block i hi hs)⟩
theorem Chg.mono (h : Chg S a b) (hST : ∀ k, k < a.heap.size → S k → T k) : Chg T a b := ⟨h.os, h.tape, h.output, h.size, fun k hk ht => h.block k hk fun hs => ht (hST k hk hs)⟩
theorem Chg.drewN (h : Chg S a b) (n : Nat) : Chg S a (b.drewN n) := ⟨h.os, h.tape, h.output, h.size, h.block⟩
theorem Chg.alloc (h : Chg S a b) (o : Obj) : Chg S a (b.alloc o) :=
  h.trans ⟨rfl, rfl, rfl, by simp, fun k hk _ => Below.heap_alloc _ _ _ hk⟩
theorem Chg.setCell (h : Chg S a b) {p : Addr} (hp : S p.block ∨ a.heap.size ≤ p.block) (u : Value) : Chg S a (b.setCell p u) :=
  ⟨h.os, h.tape, h.output, by simpa [World.setCell] using h.size, fun k hk hs => (Below.heap_setCell b p u k (by
    rintro rfl
    rcases hp with hp | hp
    · exact hs hp
    · omega)).trans (h.block k hk hs)⟩
theorem Chg.of_below (h : Below a.heap.size a b) (S : Nat → Prop) : Chg S a b := ⟨h.os, h.tape, h.output, h.size, fun k hk _ => h.block k hk⟩
theorem Chg.below {B : Nat} (h : Chg S a b) (hS : ∀ k, k < a.heap.size → S k → B ≤ k) (hB : B ≤ a.heap.size) : Below B a b :=
  ⟨h.os, h.tape, h.output, h.size, fun k hk => h.block k (by omega) fun hs => by have := hS k (by omega) hs; omega⟩
end

end Go.Proofs.Ytgipchipcoaajaa
